/- Several texts in one. -/
import Derived.Test.YtghoamdlcjdfjaaGreatDoorPe
namespace Go.Proofs.YtghoamdlcjdfjaaGreatDoor.Gst
open Go Go.RowKit
set_option linter.unusedSimpArgs false
set_option linter.unusedVariables false
set_option maxHeartbeats 4000000
set_option synthInstance.maxSize 2000
set_option synthInstance.maxHeartbeats 400000
set_option maxRecDepth 100000
def Rlr (t : Tk) (k : Xk) : Prop := k.a = t.at' ∧ (t.at' < 4 → k.I = t.i ∧ k.free = t.mark) ∧ (t.x.op = 1 → (t.at' = 4 ∨ t.at' = 5 → k.free = t.mark) ∧ (t.at' = 5 → k.obj = t.obj) ∧ (t.at' = 6 → k.code = t.code)) ∧
 (t.x.op ≠ 1 → (4 ≤ t.at' → t.at' < 10 → k.I = t.i ∧ k.obj = t.obj) ∧ (t.at' = 6 ∨ t.at' = 7 → k.q = t.q) ∧ (t.at' = 7 → k.mark = t.mark) ∧ (t.at' = 8 → k.w = t.w) ∧ (t.at' = 9 ∨ t.at' = 10 → k.code = t.code))
theorem CF {t : Tk} {k : Xk} (h0 : k.a = t.at') (ha : t.at' < 4) (h : k.I = t.i ∧ k.free = t.mark) : Rlr t k :=
 ⟨h0, fun _ => h, fun _ => ⟨fun h => by omega, fun h => by omega, fun h => by omega⟩, fun _ => ⟨fun h _ => by omega, fun h => by omega, fun h => by omega, fun h => by omega, fun h => by omega⟩⟩
theorem KS {t : Tk} {k : Xk} (h0 : k.a = t.at') (ho : t.x.op = 1) (ha : 4 ≤ t.at') (h4 : t.at' = 4 ∨ t.at' = 5 → k.free = t.mark) (h5 : t.at' = 5 → k.obj = t.obj) (h6 : t.at' = 6 → k.code = t.code) : Rlr t k :=
 ⟨h0, fun h => by omega, fun _ => ⟨h4, h5, h6⟩, fun h => absurd ho h⟩
theorem ug {t : Tk} {k : Xk} (h0 : k.a = t.at') (ho : t.x.op ≠ 1) (ha : 4 ≤ t.at') (h1 : k.I = t.i) (h2 : k.obj = t.obj) (hq : t.at' = 6 ∨ t.at' = 7 → k.q = t.q) (hm : t.at' = 7 → k.mark = t.mark) (hw : t.at' = 8 → k.w = t.w) (hc : t.at' = 9 ∨ t.at' = 10 → k.code = t.code) : Rlr t k :=
 ⟨h0, fun h => by omega, fun h => absurd h ho, fun _ => ⟨fun _ _ => ⟨h1, h2⟩, hq, hm, hw, hc⟩⟩
theorem Xg {t : Tk} {k : Xk} (h0 : k.a = t.at') (ho : t.x.op ≠ 1) (ha : t.at' = 10) (h : k.code = t.code) : Rlr t k :=
 ⟨h0, fun h => by omega, fun h => absurd h ho, fun _ => ⟨fun _ _ => by omega, fun h => by omega, fun h => by omega, fun h => by omega, fun _ => h⟩⟩
def yT (x P : Nat) (t : Tk) : SP := ex fun k : Xk => pu (Rlr t k) * xB x P t k
def yU (x P : Nat) (r : aN × Tk × Bool) : SP := ex fun k : Xk => pu (if r.2.2 = true then k.code = r.2.1.code else Rlr r.2.1 k) * xB x P r.2.1 k
section
variable {x P : Nat} {g : XIds} {σ σ' : aN} {t t' : Tk} {R : SP} {H : AH} {r : aN × Tk × Bool} {k : Xk}
theorem j8 (h : ae (yT x P t * aK P σ * R) H) : ∃ (k : Xk) (g : XIds), Rlr t k ∧ fp g σ ∧ ae (xB x P t k * (ax P g σ * R)) H := by
 unfold yT at h;rw [ai] at h;obtain ⟨k, h1⟩ := ae.ex.1 h;rw [ai, ae.pu] at h1;obtain ⟨g, h2, h3⟩ := fq (p := P) (σ := σ) (R := xB x P t k * R) (H := H) h1.2.to;exact ⟨k, g, h1.1, h2, h3.to⟩
theorem iC (hr : r = (σ', t', false)) (hR : Rlr t' k) (hg : fp g σ') (h : ae (xB x P t' k * (ax P g σ' * R)) H) : ∃ y : Unit, (vb false : Value) = vb r.2.2 ∧ ae (yU x P r * aK P r.1 * R) H := by
 subst hr;refine ⟨(), rfl, ?_⟩;have h1 := dd (p := P) (σ := σ') (R := xB x P t' k * R) g hg h.to;unfold yU;rw [ai];refine ae.ex.2 ⟨k, ?_⟩;rw [ai, ae.pu];exact ⟨hR, h1.to⟩
theorem Qp (hr : r = (σ', t', true)) (hc : k.code = t'.code) (hg : fp g σ') (h : ae (xB x P t' k * (ax P g σ' * R)) H) : ∃ y : Unit, (vb true : Value) = vb r.2.2 ∧ ae (yU x P r * aK P r.1 * R) H := by
 subst hr;refine ⟨(), rfl, ?_⟩;have h1 := dd (p := P) (σ := σ') (R := xB x P t' k * R) g hg h.to;unfold yU;rw [ai];refine ae.ex.2 ⟨k, ?_⟩;rw [ai, ae.pu];exact ⟨hc, h1.to⟩
end
section
variable (x P : Nat) (g : XIds) (σ : aN) (t : Tk) (k : Xk)
def uE : Xk := { k with I := (aC σ t).i, free := (aC σ t).mark, hit := (k.hit || (aC σ t).found), obj := if (aC σ t).found = true then (aC σ t).obj else k.obj }
theorem Nl (S : SOk σ) (T : mJ σ t) (hI : k.I = t.i) (hfr : k.free = t.mark) (hi : (t.i : Int) < σ.c.sl) :
 Sp EG [vp x] (xB x P t k * ax P g σ) (fun _ : Unit => .tuple #[vb (aC σ t).found, vb (!(aC σ t).found && decide (σ.c.sl ≤ ((t.i + 1 : Nat) : Int)))]) (fun _ => xB x P t (uE σ t k) * ax P g (ba σ t)) := by
 have hN : σ.μ.N < 1099511627000 := by have := S.N; omega
 have hc := bo.1 S.c;refine br (abO _) fun R H h => ?_;refine bz ac ?_;refine aR h rfl ?_;refine bz ac ?_;refine aR h rfl ?_;refine bz ac ?_;refine aR h rfl ?_;refine aj h ac rfl ?_;refine aj h ac rfl ?_;refine aj h (bV (aO (aO aY))) rfl ?_;refine ag h (B9 (p := P) (g := g) (σ := σ) (mm g.tb g.m σ.c.sh.toNat σ.c.sl.toNat (by omega) t.x.flow)) fun _ H1 h1 => ?_;refine aH h1 h (by rfl) ?_;refine aH h1 h (by rfl) ?_;refine aH h1 h (by rfl) ?_
 have es : vi ((t.x.flow.tmod (σ.c.sh.toNat : Int) + (σ.c.sh.toNat : Int)).tmod (σ.c.sh.toNat : Int)) = vi t.s := by rw [T.s, show ((σ.c.sh.toNat : Nat) : Int) = σ.c.sh from by omega]
 rw [es];refine bz ac ?_;refine aR h1 rfl ?_;refine aH h h1 (by rfl) ?_;rw [hI];refine ag h1 (pQ (p := P) (g := g) (σ := σ) (μ' := σ.μ.acc t.who 1 (10, t.s, (t.i : Int))) (by simp) (Hw g.tb g.m σ.c.sh.toNat σ.c.sl.toNat σ.μ t.who t.s t.i hN (S.V _))) fun _ H2 h2 => ?_;obtain ⟨v, hv⟩ : ∃ v, v = σ.μ.V (10, t.s, (t.i : Int)) := ⟨_, rfl⟩;rw [← hv]
 have ifo : ∀ b, (aC σ t).found = b → (aC σ t).i = if b = true then t.i else t.i + 1 := by
  intro b hb;show (if (aC σ t).found = true then t.i else t.i + 1) = _;rw [hb]
 have tail : ∀ (k' : Xk) (H' : AH), k'.I = t.i → { k' with I := t.i + 1 } = uE σ t k → (aC σ t).found = false → ae (xB x P t k' * (ax P g (ba σ t) * R)) H' →
  wp (E9 (vp x) (vb false) (vb false) H') fun v' H' => ∃ _ : Unit, v' = .tuple #[vb (aC σ t).found, vb (!(aC σ t).found && decide (σ.c.sl ≤ ((t.i + 1 : Nat) : Int)))] ∧ ae (xB x P t (uE σ t k) * ax P g (ba σ t) * R) H' := by
  intro k' H' hI' hX hf h';refine ah (HG ..) ?_;refine aj h' ac rfl ?_;rw [hI'];refine aa (aM (by omega) (by omega)) ?_;rw [show ((t.i : Nat) : Int) + 1 = ((t.i + 1 : Nat) : Int) from by omega];refine bi h' ac rfl rfl fun H3 h3 => ?_;refine aj h3 ac rfl ?_;refine aj h3 ac rfl ?_;refine aj h3 ac rfl ?_;have h4 := h3;unfold ax tab at h4;refine aj h4 ac rfl ?_;refine aa (v := vb (decide (σ.c.sl ≤ ((t.i + 1 : Nat) : Int)))) ?_ ?_
  ·show ap _ .geq (vi ((t.i + 1 : Nat) : Int)) _ = _
   rw [tr]
   congr 3
   show ((σ.c.sl.toNat : Int) ≤ _) = (σ.c.sl ≤ ((t.i + 1 : Nat) : Int));apply propext;omega
  refine aq ⟨(), by rw [hf]; rfl, ?_⟩;rw [← hX, ai];exact h3.to
 by_cases hv0 : v = 0
 ·have e1 : gP v = .tuple #[vi 0, vi 0, vb false] := by rw [gP, if_pos hv0]
  have hf : (aC σ t).found = false := dP fun q => q.1 (hv.symm.trans hv0);have hii := ifo _ hf;rw [e1];refine aa (v := vi 0) rfl ?_;refine aa (v := vi 0) rfl ?_;refine aa (v := vb false) rfl ?_;refine gs ?_;refine ah (tT ..) ?_;refine gs ?_;rw [Bool.not_false];refine gs ?_;refine aj h2 ac rfl ?_
  by_cases hm : k.free < 0
  ·refine ml ?_
   refine aa (cK hm) ?_;refine gs ?_
   have em : (aC σ t).mark = t.i := by
    show (if σ.μ.V (10, t.s, (t.i : Int)) = 0 ∧ t.mark < 0 then (t.i : Int) else t.mark) = _;rw [if_pos ⟨hv.symm.trans hv0, by rw [← hfr]; exact hm⟩]
   refine aj h2 ac rfl ?_;rw [hI];refine bi h2 ac rfl rfl fun H3 h3 => ?_;exact tail { k with free := t.i } H3 hI (by unfold uE; rw [hii, em, hf]; simp) hf h3.to
  ·refine ml ?_
   refine aa (ch hm) ?_;refine gs ?_
   have em : (aC σ t).mark = k.free := by
    show (if σ.μ.V (10, t.s, (t.i : Int)) = 0 ∧ t.mark < 0 then (t.i : Int) else t.mark) = _;rw [if_neg (fun h => hm (by rw [hfr]; exact h.2)), hfr]
   exact tail k H2 hI (by unfold uE; rw [hii, em, hf]; simp) hf h2.to
 ·have e1 : gP v = .tuple #[vi ((v / 4294967296 : Nat) - 1), vi (v % 4294967296 : Nat), vb true] := by rw [gP, if_neg hv0]
  have em : (aC σ t).mark = k.free := by
   show (if σ.μ.V (10, t.s, (t.i : Int)) = 0 ∧ t.mark < 0 then (t.i : Int) else t.mark) = _;rw [if_neg (fun h => hv0 (hv.trans h.1)), hfr]
  rw [e1];refine aa (v := vi ((v / 4294967296 : Nat) - 1)) rfl ?_;refine aa (v := vi (v % 4294967296 : Nat)) rfl ?_;refine aa (v := vb true) rfl ?_;refine gs ?_;refine aj h2 (bV (aO (aO aY))) rfl ?_;refine ml ?_
  by_cases hf : ((v / 4294967296 : Nat) : Int) - 1 = t.x.flow
  ·have hfo : (aC σ t).found = true := dj ⟨fun h => hv0 (hv.trans h), by rw [← hv]; exact hf⟩
   have hob : (aC σ t).obj = v % 4294967296 := by
    show (if (aC σ t).found = true then σ.μ.V (10, t.s, (t.i : Int)) % 4294967296 else t.obj) = _;rw [if_pos hfo, ← hv]
   have hii := ifo _ hfo;refine aa (bk hf) ?_;refine gs ?_;refine bi h2 ac rfl rfl fun H3 h3 => ?_;refine bi h3 ac rfl rfl fun H4 h4 => ?_;refine aq ⟨(), by rw [hfo]; rfl, ?_⟩
   have eX : uE σ t k = { k with hit := true, obj := v % 4294967296 } := by
    unfold uE;rw [hii, em, hfo, hob];simp [← hI]
   rw [eX, ai];exact h4.to
  ·have hfo : (aC σ t).found = false := dP fun q => hf (by rw [hv]; exact q.2)
   have hii := ifo _ hfo;refine aa (aG hf) ?_;refine gs ?_;refine ah (tT ..) ?_;refine gs ?_;rw [Bool.not_true];refine gs ?_;exact tail k H2 hI (by unfold uE; rw [hii, em, hfo]; simp) hfo h2.to
variable (now : Int)
theorem Ig {R : SP} {H : AH} (S : SOk σ) (hR : k.I = t.i ∧ k.free = t.mark) (ha : k.a = 2) (hg : fp g σ) (h : ae (xB x P t k * (ax P g σ * R)) H) :
 wp (gu (vp x) (vi now) (vb false) (vp P) (vi t.s) H) fun v' H' => ∃ y : Unit, v' = vb (fG σ t).2.2 ∧ ae (yU x P (fG σ t) * aK P (fG σ t).1 * R) H' := by
 have hN : σ.μ.N < 1099511627000 := by have := S.N; omega
 refine ah (jh ..) ?_;refine aj h ac rfl ?_;refine aa (bk (by omega)) ?_;refine ah (ji ..) ?_;refine gs ?_;refine aj h ac rfl ?_;refine aj h ac rfl ?_;refine ag h (pQ (p := P) (g := g) (σ := σ) (μ' := σ.μ.swp t.who (8, t.s, 0) 0 1) (by simp) (MD g.tb g.m σ.c.sh.toNat σ.c.sl.toNat σ.μ t.who t.s hN)) fun _ H2 h2 => ?_
 by_cases hw : σ.μ.V (8, t.s, 0) = 0
 ·rw [dj hw]
  refine gs ?_;refine bi h2 ac rfl rfl fun H3 h3 => ?_;refine ah (nA ..) ?_;exact aq (iC (g := g) (k := { k with a := 3 }) (σ' := lS σ t) (t' := { t with at' := 3 }) (by unfold fG; rw [if_pos hw]) (CF rfl (by simp) hR) (aB (σ := σ) hg (by simp) rfl) (show ae (xB x P t { k with a := 3 } * (ax P g (lS σ t) * R)) H3 from h3.to))
 ·rw [dP hw]
  refine gs ?_;refine ah (nA ..) ?_;exact aq (iC (g := g) (k := k) (σ' := lS σ t) (t' := { t with at' := 2 }) (by unfold fG; rw [if_neg hw]) (CF ha (by simp) hR) (aB (σ := σ) hg (by simp) rfl) (show ae (xB x P t k * (ax P g (lS σ t) * R)) H2 from h2.to))
theorem Nj {R : SP} {H : AH} {Q : Value → AH → Prop} (S : SOk σ) (T : mJ σ t) (h : ae (xB x P t k * (ax P g σ * R)) H)
 (hk : ∀ H', ae (xB x P t k * (ax P g σ * R)) H' → wp (lO (vp x) (vi now) (vb false) (vp P) (vi t.s) H') Q) :
 wp (FF bq [vp x, vi now] H) Q := by
 have hc := bo.1 S.c;refine bg (fun r => BV _ _ H) ?_;refine bz ac ?_;refine aR h rfl ?_;refine aj h ac rfl ?_;refine aj h ac rfl ?_;refine aj h (bV (aO (aO aY))) rfl ?_;refine ag h (B9 (p := P) (g := g) (σ := σ) (mm g.tb g.m σ.c.sh.toNat σ.c.sl.toNat (by omega) t.x.flow)) fun _ H1 h1 => ?_;refine aH h1 h (by rfl) ?_
 have es : vi ((t.x.flow.tmod (σ.c.sh.toNat : Int) + (σ.c.sh.toNat : Int)).tmod (σ.c.sh.toNat : Int)) = vi t.s := by rw [T.s, show ((σ.c.sh.toNat : Nat) : Int) = σ.c.sh from by omega]
 rw [es];exact hk H1 h1.to
theorem Ak {R : SP} {H : AH} {Q : Value → AH → Prop} (S : SOk σ) (T : mJ σ t) (ha : k.a ≠ 0) (h : ae (xB x P t k * (ax P g σ * R)) H)
 (hk : ∀ H', ae (xB x P t k * (ax P g σ * R)) H' → wp (gu (vp x) (vi now) (vb false) (vp P) (vi t.s) H') Q) :
 wp (FF bq [vp x, vi now] H) Q := by
 refine Nj x P g σ t k now S T h fun H1 h1 => ?_;refine ah (nz ..) ?_;refine aj h1 ac rfl ?_;refine aa (aG (by omega)) ?_;refine ah (lV ..) ?_;refine gs ?_;exact hk H1 h1
theorem TA {fn : Nat} {args : List Value} {H : AH} {Q : Value → AH → Prop} (h : wp (FF fn args H) Q) : wp ((FF fn args H).bind fun r => some (r.1, r.2)) Q := by
 obtain ⟨v, H', e, q⟩ := h;exact ⟨v, H', by rw [e]; rfl, q⟩
theorem KL {R : SP} {H : AH} {Q : Value → AH → Prop} (S : SOk σ) (T : mJ σ t) (ho : t.x.op = 1) (ha : 3 ≤ k.a) (h : ae (xB x P t k * (ax P g σ * R)) H)
 (hk : ∀ H', ae (xB x P t k * (ax P g σ * R)) H' → wp (g9 (vp x) (vi now) (vi t.s) (vb false) (vp P) (vi (k.a : Int)) H') Q) :
 wp (FF bq [vp x, vi now] H) Q := by
 refine Ak x P g σ t k now S T (by omega) h fun H1 h1 => ?_;refine ah (jh ..) ?_;refine aj h1 ac rfl ?_;refine aa (aG (by omega)) ?_;refine ah (ji ..) ?_;refine gs ?_;refine aj h1 (bV (aO (aO aY))) rfl ?_;refine aa (bk ho) ?_;refine gs ?_;refine TA ?_;refine bg (fun r => sQ _ _ _ H1) ?_;refine aj h1 ac rfl ?_;refine ah (pK ..) ?_;refine aj h1 ac rfl ?_;exact hk H1 h1
theorem ti {R : SP} {H : AH} {Q : Value → AH → Prop} (S : SOk σ) (T : mJ σ t) (ho : t.x.op ≠ 1) (ha : 3 ≤ k.a) (h : ae (xB x P t k * (ax P g σ * R)) H)
 (hk : ∀ H', ae (xB x P t k * (ax P g σ * R)) H' → wp (kM (vp x) (vi now) (vi t.s) (vb false) (vp P) (vi (k.a : Int)) H') Q) :
 wp (FF bq [vp x, vi now] H) Q := by
 refine Ak x P g σ t k now S T (by omega) h fun H1 h1 => ?_;refine ah (jh ..) ?_;refine aj h1 ac rfl ?_;refine aa (aG (by omega)) ?_;refine ah (ji ..) ?_;refine gs ?_;refine aj h1 (bV (aO (aO aY))) rfl ?_;refine aa (aG ho) ?_;refine gs ?_;refine ah (vT ..) ?_;refine TA ?_;refine bg (fun r => z4 _ _ _ H1) ?_;refine aj h1 ac rfl ?_;refine ah (ua ..) ?_;refine aj h1 ac rfl ?_;exact hk H1 h1
end
section
variable (x P : Nat) (σ : aN) (t : Tk) (now : Int)
theorem akM (S : SOk σ) (T : mJ σ t) (ho : t.x.op = 1) (hat : t.at' = 3) : Sp bq [vp x, vi now] (yT x P t * aK P σ) (fun _ : Unit => vb (az σ t now).2.2) (fun _ => yU x P (az σ t now) * aK P (az σ t now).1) := by
 have hN : σ.μ.N < 1099511627000 := by have := S.N; omega
 refine aP fun R H h => ?_;obtain ⟨k, g, hR, hg, h0⟩ := j8 h;have hl := hg.1;have ha := hR.1;obtain ⟨hI, hfr⟩ := hR.2.1 (by omega);have hi := T.i (by omega);refine KL x P g σ t k now S T ho (by omega) h0 fun H1 h1 => ?_;refine ah (dE ..) ?_;refine aa (bk (by omega)) ?_;refine ah (dF ..) ?_;refine gs ?_;refine ag h1 (Nl x P g σ t k S T hI hfr hi) fun _ H2 h2 => ?_;obtain ⟨k2, hk2⟩ : ∃ k2 : Xk, k2 = uE σ t k := ⟨_, rfl⟩;rw [← hk2] at h2;refine aa (v := vb (aC σ t).found) rfl ?_;refine aa (v := vb (!(aC σ t).found && decide (σ.c.sl ≤ ((t.i + 1 : Nat) : Int)))) rfl ?_;refine ah (pL ..) ?_
 cases hfd : (aC σ t).found with
 | true =>
  refine gs ?_;refine ag h2 (j6 x P g (ba σ t) t (k2) (aB (σ := σ) hg (by simp) rfl) now 6 (by have := S.N; show σ.μ.N + 2 < _; omega) S.pts) fun v H3 h3 => ?_;refine bi h3 ac rfl rfl fun H4 h4 => ?_;refine ah (cA ..) ?_;exact aq (iC (g := { g with pv := v }) (k := { k2 with a := 6, code := 6 }) (σ' := (ba σ t).note now t.who 6) (t' := { aC σ t with at' := 6, code := 6 }) (by simp only [az, hat]; rw [if_pos hfd, if_pos ho]) (KS rfl ho (by simp) (by simp) (by simp) (by simp)) (dJ (σ := σ) hg (by simp) rfl) (show ae (xB x P t ({ k2 with a := 6, code := 6 }) * (ax P ({ g with pv := v }) ((ba σ t).note now t.who 6) * R)) _ from h4.to))
 | false =>
  rw [Bool.not_false, Bool.true_and]
  have hli : (aC σ t).i = t.i + 1 := by
   show (if (aC σ t).found = true then t.i else t.i + 1) = _;rw [if_neg (by rw [hfd]; simp)]
  have hla : bK σ (aC σ t) = decide (σ.c.sl ≤ ((t.i + 1 : Nat) : Int)) := by unfold bK; rw [hli]
  have nf : ¬ (aC σ t).found = true := by rw [hfd]; simp
  by_cases hL : σ.c.sl ≤ ((t.i + 1 : Nat) : Int)
  ·have hla' : bK σ (aC σ t) = true := hla.trans (dj hL)
   rw [dj hL];refine gs ?_;refine aj h2 ac (show _ = some (vi (aC σ t).mark) from by rw [hk2]; rfl) ?_;refine gs ?_
   by_cases hm : (aC σ t).mark < 0
   ·refine aa (cK hm) ?_
    refine gs ?_;refine ag h2 (j6 x P g (ba σ t) t (k2) (aB (σ := σ) hg (by simp) rfl) now 7 (by have := S.N; show σ.μ.N + 2 < _; omega) S.pts) fun v H3 h3 => ?_;refine bi h3 ac rfl rfl fun H4 h4 => ?_;refine ah (cA ..) ?_;exact aq (iC (g := { g with pv := v }) (k := { k2 with a := 6, code := 7 }) (σ' := (ba σ t).note now t.who 7) (t' := { aC σ t with at' := 6, code := 7 }) (by simp only [az, hat]; rw [if_neg nf, if_pos hla', if_pos ho, if_pos hm]) (KS rfl ho (by simp) (by simp) (by simp) (by simp)) (dJ (σ := σ) hg (by simp) rfl) (show ae (xB x P t ({ k2 with a := 6, code := 7 }) * (ax P ({ g with pv := v }) ((ba σ t).note now t.who 7) * R)) _ from h4.to))
   ·refine aa (ch hm) ?_
    refine gs ?_;refine bi h2 ac rfl rfl fun H4 h4 => ?_;refine ah (cA ..) ?_;exact aq (iC (g := g) (k := { k2 with a := 4 }) (σ' := ba σ t) (t' := { aC σ t with at' := 4 }) (by simp only [az, hat]; rw [if_neg nf, if_pos hla', if_pos ho, if_neg hm]) (KS rfl ho (by simp) (fun _ => by rw [hk2]; rfl) (by simp) (by simp)) (aB (σ := σ) hg (by simp) rfl) (show ae (xB x P t ({ k2 with a := 4 }) * (ax P (g) (ba σ t) * R)) _ from h4.to))
  ·have hla' : ¬ bK σ (aC σ t) = true := by rw [hla, dP hL]; simp
   rw [dP hL];refine gs ?_;refine ah (cA ..) ?_;exact aq (iC (g := g) (k := k2) (σ' := ba σ t) (t' := aC σ t) (by simp only [az, hat]; rw [if_neg nf, if_neg hla']) (CF (by rw [hk2]; show k.a = t.at'; exact ha) (by show t.at' < 4; omega) ⟨by rw [hk2]; rfl, by rw [hk2]; rfl⟩) (aB (σ := σ) hg (by simp) rfl) (show ae (xB x P t (k2) * (ax P (g) (ba σ t) * R)) _ from h2.to))
theorem akN (S : SOk σ) (T : mJ σ t) (ho : t.x.op = 1) (hat : t.at' = 4) : Sp bq [vp x, vi now] (yT x P t * aK P σ) (fun _ : Unit => vb (az σ t now).2.2) (fun _ => yU x P (az σ t now) * aK P (az σ t now).1) := by
 have hN : σ.μ.N < 1099511627000 := by have := S.N; omega
 refine aP fun R H h => ?_;obtain ⟨k, g, hR, hg, h0⟩ := j8 h;have hl := hg.1;have ha := hR.1;have hfr := (hR.2.2.1 ho).1 (.inl hat);have hx := yu (T.x (by omega));have hc := bo.1 S.c
 have hst : az σ t now = (σ.make t.who (obR σ t), { t with obj := σ.obs.length, at' := 5 }, false) := by rw [mi σ t now ho (by omega)]; simp only [yw, hat]
 refine KL x P g σ t k now S T ho (by omega) h0 fun H1 h1 => ?_;refine ah (dE ..) ?_;refine aa (aG (by omega)) ?_;refine ah (dF ..) ?_;refine gs ?_;refine aa (bk (by omega)) ?_;refine gs ?_;refine aj h1 (bV (aO (aO aY))) rfl ?_;refine aj h1 (bV (aO (aO aY))) rfl ?_;refine ag h1 (og σ.c.un t.x.a (by omega) (hx.2 ho).1) fun _ H2 h2 => ?_;refine aa (v := vu (max (σ.c.un / t.x.a.toNat) 1)) rfl ?_;refine aa (v := vb true) rfl ?_;refine aj h2 ac rfl ?_;refine aj h2 (bV (aO (aO aY))) rfl ?_;refine aj h2 (bV (aO (aO aY))) rfl ?_;refine iz ?_;have h3 := dd (p := P) (σ := σ) (R := xB x P t k * R) g hg h2.to;refine ag h3 (aiA P σ t.who (obR σ t) hN (by have := S.obs; omega)) fun _ H4 h4 => ?_;obtain ⟨g', hg', h5⟩ := fq (p := P) (σ := σ.make t.who (obR σ t)) (R := xB x P t k * R) (H := H4) h4.to;refine bi h5 ac rfl rfl fun H6 h6 => ?_;refine bi h6 ac rfl rfl fun H7 h7 => ?_;refine ah (cA ..) ?_;exact aq (iC (g := g') (k := { k with obj := σ.obs.length, a := 5 }) (σ' := σ.make t.who (obR σ t)) (t' := { t with obj := σ.obs.length, at' := 5 }) (hst) (KS rfl ho (by simp) (fun _ => hfr) (by simp) (by simp)) hg' (show ae (xB x P t ({ k with obj := σ.obs.length, a := 5 }) * (ax P (g') (σ.make t.who (obR σ t)) * R)) _ from h7.to))
theorem akO (S : SOk σ) (T : mJ σ t) (ho : t.x.op = 1) (hat : t.at' = 5) : Sp bq [vp x, vi now] (yT x P t * aK P σ) (fun _ : Unit => vb (az σ t now).2.2) (fun _ => yU x P (az σ t now) * aK P (az σ t now).1) := by
 have hN : σ.μ.N < 1099511627000 := by have := S.N; omega
 refine aP fun R H h => ?_;obtain ⟨k, g, hR, hg, h0⟩ := j8 h;have hl := hg.1;have ha := hR.1;have hfm := (hR.2.2.1 ho).1 (.inr hat);have hko := (hR.2.2.1 ho).2.1 hat;have hx := yu (T.x (by omega));have hob := T.obj (.inl ⟨hat, ho⟩);have hso := S.obs
 have hst : az σ t now = ((σ.mem ((σ.μ.acc t.who 2 (10, t.s, t.mark)).put (10, t.s, t.mark) (cy t.x.flow t.obj))).note now t.who 0, { t with at' := 6, code := 0 }, false) := by rw [mi σ t now ho (by omega)]; simp only [yw, hat]
 refine KL x P g σ t k now S T ho (by omega) h0 fun H1 h1 => ?_;refine ah (dE ..) ?_;refine aa (aG (by omega)) ?_;refine ah (dF ..) ?_;refine gs ?_;refine aa (aG (by omega)) ?_;refine gs ?_;refine aa (bk (by omega)) ?_;refine gs ?_;refine aj h1 ac rfl ?_;refine aj h1 ac rfl ?_;refine aj h1 ac rfl ?_;refine aj h1 (bV (aO (aO aY))) rfl ?_;refine aj h1 ac rfl ?_;rw [hfm, hko];refine ag h1 (pQ (p := P) (g := g) (σ := σ) (μ' := (σ.μ.acc t.who 2 (10, t.s, t.mark)).put (10, t.s, t.mark) (cy t.x.flow t.obj)) (by simp) (SV g.tb g.m σ.c.sh.toNat σ.c.sl.toNat σ.μ t.who t.s t.mark t.x.flow t.obj hN hx.1 (by omega))) fun _ H2 h2 => ?_;refine ag h2 (j6 x P g (σ.mem ((σ.μ.acc t.who 2 (10, t.s, t.mark)).put (10, t.s, t.mark) (cy t.x.flow t.obj))) t (k) (aB (σ := σ) hg (by simp) rfl) now 0 (by have := S.N; show σ.μ.N + 2 < _; omega) S.pts) fun v H3 h3 => ?_;refine bi h3 ac rfl rfl fun H4 h4 => ?_;refine ah (cA ..) ?_;exact aq (iC (g := { g with pv := v }) (k := { k with a := 6, code := 0 }) (σ' := (σ.mem ((σ.μ.acc t.who 2 (10, t.s, t.mark)).put (10, t.s, t.mark) (cy t.x.flow t.obj))).note now t.who 0) (t' := { t with at' := 6, code := 0 }) (hst) (KS rfl ho (by simp) (by simp) (by simp) (by simp)) (dJ (σ := σ) hg (by simp) rfl) (show ae (xB x P t ({ k with a := 6, code := 0 }) * (ax P ({ g with pv := v }) ((σ.mem ((σ.μ.acc t.who 2 (10, t.s, t.mark)).put (10, t.s, t.mark) (cy t.x.flow t.obj))).note now t.who 0) * R)) _ from h4.to))
theorem akP (S : SOk σ) (T : mJ σ t) (ho : t.x.op = 1) (hat : t.at' = 6) : Sp bq [vp x, vi now] (yT x P t * aK P σ) (fun _ : Unit => vb (az σ t now).2.2) (fun _ => yU x P (az σ t now) * aK P (az σ t now).1) := by
 have hN : σ.μ.N < 1099511627000 := by have := S.N; omega
 refine aP fun R H h => ?_;obtain ⟨k, g, hR, hg, h0⟩ := j8 h;have hl := hg.1;have ha := hR.1
 have hst : az σ t now = (i8 σ t, t, true) := by rw [mi σ t now ho (by omega)]; simp only [yw, hat]
 have hto : k.code = t.code := (hR.2.2.1 ho).2.2 hat;refine KL x P g σ t k now S T ho (by omega) h0 fun H1 h1 => ?_;refine ah (dE ..) ?_;refine aa (aG (by omega)) ?_;refine ah (dF ..) ?_;refine gs ?_;refine aa (aG (by omega)) ?_;refine gs ?_;refine aa (aG (by omega)) ?_;refine gs ?_;refine aj h1 ac rfl ?_;refine aj h1 ac rfl ?_;refine ag h1 (pQ (p := P) (g := g) (σ := σ) (μ' := (σ.μ.acc t.who 2 (8, t.s, 0)).put (8, t.s, 0) 0) (by simp) (vU g.tb g.m σ.c.sh.toNat σ.c.sl.toNat σ.μ t.who t.s hN)) fun _ H2 h2 => ?_;exact aq (Qp (g := g) (k := k) (σ' := i8 σ t) (t' := t) hst hto (aB (σ := σ) hg (by simp) rfl) (show ae (xB x P t k * (ax P g (i8 σ t) * R)) H2 from h2.to))
theorem ahH (S : SOk σ) (T : mJ σ t) (ho : t.x.op ≠ 1) (hat : t.at' = 10) : Sp bq [vp x, vi now] (yT x P t * aK P σ) (fun _ : Unit => vb (az σ t now).2.2) (fun _ => yU x P (az σ t now) * aK P (az σ t now).1) := by
 have hN : σ.μ.N < 1099511627000 := by have := S.N; omega
 refine aP fun R H h => ?_;obtain ⟨k, g, hR, hg, h0⟩ := j8 h;have hl := hg.1;have ha := hR.1
 have hst : az σ t now = (i8 σ t, t, true) := by rw [bR σ t now ho (by omega)]; simp only [eH, hat]
 have hto : k.code = t.code := (hR.2.2.2 ho).2.2.2.2 (.inr hat);refine ti x P g σ t k now S T ho (by omega) h0 fun H1 h1 => ?_;refine ah (cw ..) ?_;refine aa (aG (by omega)) ?_;refine gs ?_;refine aa (aG (by omega)) ?_;refine gs ?_;refine aa (aG (by omega)) ?_;refine gs ?_;refine aa (aG (by omega)) ?_;refine gs ?_;refine aa (aG (by omega)) ?_;refine gs ?_;refine aa (aG (by omega)) ?_;refine gs ?_;refine aa (aG (by omega)) ?_;refine gs ?_;refine aj h1 ac rfl ?_;refine aj h1 ac rfl ?_;refine ag h1 (pQ (p := P) (g := g) (σ := σ) (μ' := (σ.μ.acc t.who 2 (8, t.s, 0)).put (8, t.s, 0) 0) (by simp) (vU g.tb g.m σ.c.sh.toNat σ.c.sl.toNat σ.μ t.who t.s hN)) fun _ H2 h2 => ?_;exact aq (Qp (g := g) (k := k) (σ' := i8 σ t) (t' := t) hst hto (aB (σ := σ) hg (by simp) rfl) (show ae (xB x P t k * (ax P g (i8 σ t) * R)) H2 from h2.to))
theorem akF (S : SOk σ) (T : mJ σ t) (ho : t.x.op ≠ 1) (hat : t.at' = 3) : Sp bq [vp x, vi now] (yT x P t * aK P σ) (fun _ : Unit => vb (az σ t now).2.2) (fun _ => yU x P (az σ t now) * aK P (az σ t now).1) := by
 have hN : σ.μ.N < 1099511627000 := by have := S.N; omega
 refine aP fun R H h => ?_;obtain ⟨k, g, hR, hg, h0⟩ := j8 h;have hl := hg.1;have ha := hR.1;obtain ⟨hI, hfr⟩ := hR.2.1 (by omega);have hi := T.i (by omega);refine ti x P g σ t k now S T ho (by omega) h0 fun H1 h1 => ?_;refine ah (cw ..) ?_;refine aa (bk (by omega)) ?_;refine gs ?_;refine ag h1 (Nl x P g σ t k S T hI hfr hi) fun _ H2 h2 => ?_;obtain ⟨k2, hk2⟩ : ∃ k2 : Xk, k2 = uE σ t k := ⟨_, rfl⟩;rw [← hk2] at h2;refine aa (v := vb (aC σ t).found) rfl ?_;refine aa (v := vb (!(aC σ t).found && decide (σ.c.sl ≤ ((t.i + 1 : Nat) : Int)))) rfl ?_
 cases hfd : (aC σ t).found with
 | true =>
  refine gs ?_;refine bi h2 ac rfl rfl fun H4 h4 => ?_;refine ah (bu ..) ?_;exact aq (iC (g := g) (k := { k2 with a := 4 }) (σ' := ba σ t) (t' := { aC σ t with at' := 4 }) (by simp only [az, hat]; rw [if_pos hfd, if_neg ho]) (ug rfl ho (by simp) (by rw [hk2]; rfl) (by rw [hk2]; show (if (aC σ t).found = true then (aC σ t).obj else k.obj) = (aC σ t).obj; rw [if_pos hfd]) (by simp) (by simp) (by simp) (by simp)) (aB (σ := σ) hg (by simp) rfl) (show ae (xB x P t ({ k2 with a := 4 }) * (ax P (g) (ba σ t) * R)) _ from h4.to))
 | false =>
  rw [Bool.not_false, Bool.true_and];refine gs ?_
  have hli : (aC σ t).i = t.i + 1 := by
   show (if (aC σ t).found = true then t.i else t.i + 1) = _;rw [if_neg (by rw [hfd]; simp)]
  have hla : bK σ (aC σ t) = decide (σ.c.sl ≤ ((t.i + 1 : Nat) : Int)) := by unfold bK; rw [hli]
  have nf : ¬ (aC σ t).found = true := by rw [hfd]; simp
  by_cases hL : σ.c.sl ≤ ((t.i + 1 : Nat) : Int)
  ·have hla' : bK σ (aC σ t) = true := hla.trans (dj hL)
   rw [dj hL];refine gs ?_;refine ag h2 (j6 x P g (ba σ t) t (k2) (aB (σ := σ) hg (by simp) rfl) now 5 (by have := S.N; show σ.μ.N + 2 < _; omega) S.pts) fun v H3 h3 => ?_;refine bi h3 ac rfl rfl fun H4 h4 => ?_;refine ah (bu ..) ?_;exact aq (iC (g := { g with pv := v }) (k := { k2 with a := 10, code := 5 }) (σ' := (ba σ t).note now t.who 5) (t' := { aC σ t with at' := 10, code := 5 }) (by simp only [az, hat]; rw [if_neg nf, if_pos hla', if_neg ho]) (Xg rfl ho rfl rfl) (dJ (σ := σ) hg (by simp) rfl) (show ae (xB x P t ({ k2 with a := 10, code := 5 }) * (ax P ({ g with pv := v }) ((ba σ t).note now t.who 5) * R)) _ from h4.to))
  ·have hla' : ¬ bK σ (aC σ t) = true := by rw [hla, dP hL]; simp
   rw [dP hL];refine gs ?_;refine ah (bu ..) ?_;exact aq (iC (g := g) (k := k2) (σ' := ba σ t) (t' := aC σ t) (by simp only [az, hat]; rw [if_neg nf, if_neg hla']) (CF (by rw [hk2]; show k.a = t.at'; exact ha) (by show t.at' < 4; omega) ⟨by rw [hk2]; rfl, by rw [hk2]; rfl⟩) (aB (σ := σ) hg (by simp) rfl) (show ae (xB x P t (k2) * (ax P (g) (ba σ t) * R)) _ from h2.to))
theorem akG (S : SOk σ) (T : mJ σ t) (ho : t.x.op ≠ 1) (hat : t.at' = 4) : Sp bq [vp x, vi now] (yT x P t * aK P σ) (fun _ : Unit => vb (az σ t now).2.2) (fun _ => yU x P (az σ t now) * aK P (az σ t now).1) := by
 have hN : σ.μ.N < 1099511627000 := by have := S.N; omega
 refine aP fun R H h => ?_;obtain ⟨k, g, hR, hg, h0⟩ := j8 h;have hl := hg.1;have ha := hR.1;obtain ⟨hI, hko⟩ := (hR.2.2.2 ho).1 (by omega) (by omega);have hob := T.obj (.inr ⟨by omega, by omega, ho⟩)
 have hob' : k.obj < σ.obs.length := by omega
 obtain ⟨b, hb⟩ : ∃ b, g.rp[k.obj]? = some b := ⟨_, cS (by omega)⟩;refine ti x P g σ t k now S T ho (by omega) h0 fun H1 h1 => ?_;refine ah (cw ..) ?_;refine aa (aG (by omega)) ?_;refine gs ?_;refine aa (bk (by omega)) ?_;refine gs ?_;refine bi h1 ac rfl rfl fun H2 h2 => ?_;refine ag h2 (CC x P g σ t { k with a := 5 } S hl b hob' hb) fun _ H3 h3 => ?_;dsimp only at h3;rw [hko] at h3
 by_cases hw : aZ (σ.μ.V (11, (t.obj : Int), 0)) = 0
 ·refine aa (bk (by rw [hko]; exact hw)) ?_
  refine gs ?_;refine bi h3 ac rfl rfl fun H4 h4 => ?_;refine ah (bu ..) ?_;exact aq (iC (g := g) (k := { k with a := 8, obj := t.obj, w := σ.μ.V (11, (t.obj : Int), 0) }) (σ' := dg σ t) (t' := { t with w := σ.μ.V (11, (t.obj : Int), 0), at' := 8 }) (by rw [bR σ t now ho (by omega)]; simp only [eH, hat]; rw [if_pos hw]) (ug rfl ho (by simp) hI rfl (by simp) (by simp) (fun _ => rfl) (by simp)) (aB (σ := σ) hg (by simp) rfl) (show ae (xB x P t ({ k with a := 8, obj := t.obj, w := σ.μ.V (11, (t.obj : Int), 0) }) * (ax P (g) (dg σ t) * R)) _ from h4.to))
 ·refine aa (aG (by rw [hko]; exact hw)) ?_
  refine gs ?_;refine ah (bu ..) ?_;exact aq (iC (g := g) (k := { k with a := 5, obj := t.obj, w := σ.μ.V (11, (t.obj : Int), 0) }) (σ' := dg σ t) (t' := { t with w := σ.μ.V (11, (t.obj : Int), 0), at' := 5 }) (by rw [bR σ t now ho (by omega)]; simp only [eH, hat]; rw [if_neg hw]) (ug rfl ho (by simp) hI rfl (by simp) (by simp) (by simp) (by simp)) (aB (σ := σ) hg (by simp) rfl) (show ae (xB x P t ({ k with a := 5, obj := t.obj, w := σ.μ.V (11, (t.obj : Int), 0) }) * (ax P (g) (dg σ t) * R)) _ from h3.to))
theorem akH (S : SOk σ) (T : mJ σ t) (ho : t.x.op ≠ 1) (hat : t.at' = 5) : Sp bq [vp x, vi now] (yT x P t * aK P σ) (fun _ : Unit => vb (az σ t now).2.2) (fun _ => yU x P (az σ t now) * aK P (az σ t now).1) := by
 have hN : σ.μ.N < 1099511627000 := by have := S.N; omega
 refine aP fun R H h => ?_;obtain ⟨k, g, hR, hg, h0⟩ := j8 h;have hl := hg.1;have ha := hR.1;obtain ⟨hI, hko⟩ := (hR.2.2.2 ho).1 (by omega) (by omega);have hob := T.obj (.inr ⟨by omega, by omega, ho⟩)
 have hob' : k.obj < σ.obs.length := by omega
 obtain ⟨b, hb⟩ : ∃ b, g.rp[k.obj]? = some b := ⟨_, cS (by omega)⟩;refine ti x P g σ t k now S T ho (by omega) h0 fun H1 h1 => ?_;refine ah (cw ..) ?_;refine aa (aG (by omega)) ?_;refine gs ?_;refine aa (aG (by omega)) ?_;refine gs ?_;refine aa (bk (by omega)) ?_;refine gs ?_;refine aj h1 ac rfl ?_;refine ag h1 (qw P g σ t.who S.N) fun _ H2 h2 => ?_;refine bi h2 ac rfl rfl fun H3 h3 => ?_;refine bi h3 ac rfl rfl fun H4 h4 => ?_;refine aj h4 ac rfl ?_;refine aa (HJ 2 (by omega)) ?_
 by_cases hw : σ.μ.V (2, 0, 0) % 2 = 1
 ·refine aa (bk (show ((σ.μ.V (2, 0, 0) % 2 : Nat) : Int) = 1 by omega)) ?_
  refine gs ?_;refine bi h4 ac rfl rfl fun H5 h5 => ?_;refine ah (bu ..) ?_;exact aq (iC (g := g) (k := { k with a := 4, q := σ.μ.V (2, 0, 0) }) (σ' := eL σ t) (t' := { t with q := σ.μ.V (2, 0, 0), at' := 4 }) (by rw [bR σ t now ho (by omega)]; simp only [eH, hat]; rw [if_pos hw]) (ug rfl ho (by simp) hI hko (by simp) (by simp) (by simp) (by simp)) (aB (σ := σ) hg (by simp) rfl) (show ae (xB x P t ({ k with a := 4, q := σ.μ.V (2, 0, 0) }) * (ax P (g) (eL σ t) * R)) _ from h5.to))
 ·refine aa (aG (show ¬ ((σ.μ.V (2, 0, 0) % 2 : Nat) : Int) = 1 by omega)) ?_
  refine gs ?_;refine ah (bu ..) ?_;exact aq (iC (g := g) (k := { k with a := 6, q := σ.μ.V (2, 0, 0) }) (σ' := eL σ t) (t' := { t with q := σ.μ.V (2, 0, 0), at' := 6 }) (by rw [bR σ t now ho (by omega)]; simp only [eH, hat]; rw [if_neg hw]) (ug rfl ho (by simp) hI hko (fun _ => rfl) (by simp) (by simp) (by simp)) (aB (σ := σ) hg (by simp) rfl) (show ae (xB x P t ({ k with a := 6, q := σ.μ.V (2, 0, 0) }) * (ax P (g) (eL σ t) * R)) _ from h4.to))
theorem akI (S : SOk σ) (T : mJ σ t) (ho : t.x.op ≠ 1) (hat : t.at' = 6) : Sp bq [vp x, vi now] (yT x P t * aK P σ) (fun _ : Unit => vb (az σ t now).2.2) (fun _ => yU x P (az σ t now) * aK P (az σ t now).1) := by
 have hN : σ.μ.N < 1099511627000 := by have := S.N; omega
 refine aP fun R H h => ?_;obtain ⟨k, g, hR, hg, h0⟩ := j8 h;have hl := hg.1;have ha := hR.1;obtain ⟨hI, hko⟩ := (hR.2.2.2 ho).1 (by omega) (by omega);have hob := T.obj (.inr ⟨by omega, by omega, ho⟩)
 have hob' : k.obj < σ.obs.length := by omega
 obtain ⟨b, hb⟩ : ∃ b, g.rp[k.obj]? = some b := ⟨_, cS (by omega)⟩;have hkq := (hR.2.2.2 ho).2.1 (.inl hat);refine ti x P g σ t k now S T ho (by omega) h0 fun H1 h1 => ?_;refine ah (cw ..) ?_;refine aa (aG (by omega)) ?_;refine gs ?_;refine aa (aG (by omega)) ?_;refine gs ?_;refine aa (aG (by omega)) ?_;refine gs ?_;refine aa (bk (by omega)) ?_;refine gs ?_;refine bi h1 ac rfl rfl fun H2 h2 => ?_;refine bi h2 ac rfl rfl fun H5 h5 => ?_;refine ag h5 (CC x P g σ t { k with a := 7, mark := now } S hl b hob' hb) fun _ H3 h3 => ?_;dsimp only at h3;rw [hko] at h3
 by_cases hw : aZ (σ.μ.V (11, (t.obj : Int), 0)) = 0
 ·refine aa (bk (by rw [hko]; exact hw)) ?_
  refine gs ?_;refine bi h3 ac rfl rfl fun H4 h4 => ?_;refine ah (bu ..) ?_;exact aq (iC (g := g) (k := { k with a := 8, mark := now, obj := t.obj, w := σ.μ.V (11, (t.obj : Int), 0) }) (σ' := dg σ t) (t' := { t with w := σ.μ.V (11, (t.obj : Int), 0), mark := now, at' := 8 }) (by rw [bR σ t now ho (by omega)]; simp only [eH, hat]; rw [if_pos hw]) (ug rfl ho (by simp) hI rfl (by simp) (by simp) (fun _ => rfl) (by simp)) (aB (σ := σ) hg (by simp) rfl) (show ae (xB x P t ({ k with a := 8, mark := now, obj := t.obj, w := σ.μ.V (11, (t.obj : Int), 0) }) * (ax P (g) (dg σ t) * R)) _ from h4.to))
 ·refine aa (aG (by rw [hko]; exact hw)) ?_
  refine gs ?_;refine ah (bu ..) ?_;exact aq (iC (g := g) (k := { k with a := 7, mark := now, obj := t.obj, w := σ.μ.V (11, (t.obj : Int), 0) }) (σ' := dg σ t) (t' := { t with w := σ.μ.V (11, (t.obj : Int), 0), mark := now, at' := 7 }) (by rw [bR σ t now ho (by omega)]; simp only [eH, hat]; rw [if_neg hw]) (ug rfl ho (by simp) hI rfl (fun _ => hkq) (fun _ => rfl) (by simp) (by simp)) (aB (σ := σ) hg (by simp) rfl) (show ae (xB x P t ({ k with a := 7, mark := now, obj := t.obj, w := σ.μ.V (11, (t.obj : Int), 0) }) * (ax P (g) (dg σ t) * R)) _ from h3.to))
theorem akJ (S : SOk σ) (T : mJ σ t) (ho : t.x.op ≠ 1) (hat : t.at' = 7) : Sp bq [vp x, vi now] (yT x P t * aK P σ) (fun _ : Unit => vb (az σ t now).2.2) (fun _ => yU x P (az σ t now) * aK P (az σ t now).1) := by
 have hN : σ.μ.N < 1099511627000 := by have := S.N; omega
 refine aP fun R H h => ?_;obtain ⟨k, g, hR, hg, h0⟩ := j8 h;have hl := hg.1;have ha := hR.1;obtain ⟨hI, hko⟩ := (hR.2.2.2 ho).1 (by omega) (by omega);have hob := T.obj (.inr ⟨by omega, by omega, ho⟩)
 have hob' : k.obj < σ.obs.length := by omega
 obtain ⟨b, hb⟩ : ∃ b, g.rp[k.obj]? = some b := ⟨_, cS (by omega)⟩;have hkq := (hR.2.2.2 ho).2.1 (.inr hat);have hkm := (hR.2.2.2 ho).2.2.1 hat;refine ti x P g σ t k now S T ho (by omega) h0 fun H1 h1 => ?_;refine ah (cw ..) ?_;refine aa (aG (by omega)) ?_;refine gs ?_;refine aa (aG (by omega)) ?_;refine gs ?_;refine aa (aG (by omega)) ?_;refine gs ?_;refine aa (aG (by omega)) ?_;refine gs ?_;refine aa (bk (by omega)) ?_;refine gs ?_;refine bi h1 ac rfl rfl fun H2 h2 => ?_;refine aj h2 ac rfl ?_;refine ag h2 (qw P g σ t.who S.N) fun _ H3 h3' => ?_;refine bz ac ?_;refine aR h3' rfl ?_;refine aH h2 h3' (by rfl) ?_;rw [hkq]
 by_cases hw : σ.μ.V (2, 0, 0) = t.q
 ·refine aa (bk (show ((σ.μ.V (2, 0, 0) : Nat) : Int) = (t.q : Int) by omega)) ?_
  refine gs ?_;refine aj h3' ac rfl ?_;rw [hkm];refine ag h3' (j6 x P g (eL σ t) t ({ k with a := 4 }) (aB (σ := σ) hg (by simp) rfl) t.mark 8 (by have := S.N; show σ.μ.N + 2 < _; omega) S.pts) fun v H3 h3 => ?_;refine bi h3 ac rfl rfl fun H4 h4 => ?_;refine ah (bu ..) ?_;exact aq (iC (g := { g with pv := v }) (k := { k with a := 10, code := 8 }) (σ' := (eL σ t).note t.mark t.who 8) (t' := { t with at' := 10, code := 8 }) (by rw [bR σ t now ho (by omega)]; simp only [eH, hat]; rw [if_pos hw]) (Xg rfl ho rfl rfl) (dJ (σ := σ) hg (by simp) rfl) (show ae (xB x P t ({ k with a := 10, code := 8 }) * (ax P ({ g with pv := v }) ((eL σ t).note t.mark t.who 8) * R)) _ from h4.to))
 ·refine aa (aG (show ¬ ((σ.μ.V (2, 0, 0) : Nat) : Int) = (t.q : Int) by omega)) ?_
  refine gs ?_;refine ah (bu ..) ?_;exact aq (iC (g := g) (k := { k with a := 4 }) (σ' := eL σ t) (t' := { t with at' := 4 }) (by rw [bR σ t now ho (by omega)]; simp only [eH, hat]; rw [if_neg hw]) (ug rfl ho (by simp) hI hko (by simp) (by simp) (by simp) (by simp)) (aB (σ := σ) hg (by simp) rfl) (show ae (xB x P t ({ k with a := 4 }) * (ax P (g) (eL σ t) * R)) _ from h3'.to))
theorem akK (S : SOk σ) (T : mJ σ t) (ho : t.x.op ≠ 1) (hat : t.at' = 8) : Sp bq [vp x, vi now] (yT x P t * aK P σ) (fun _ : Unit => vb (az σ t now).2.2) (fun _ => yU x P (az σ t now) * aK P (az σ t now).1) := by
 have hN : σ.μ.N < 1099511627000 := by have := S.N; omega
 refine aP fun R H h => ?_;obtain ⟨k, g, hR, hg, h0⟩ := j8 h;have hl := hg.1;have ha := hR.1;obtain ⟨hI, hko⟩ := (hR.2.2.2 ho).1 (by omega) (by omega);have hob := T.obj (.inr ⟨by omega, by omega, ho⟩)
 have hob' : k.obj < σ.obs.length := by omega
 obtain ⟨b, hb⟩ : ∃ b, g.rp[k.obj]? = some b := ⟨_, cS (by omega)⟩;have hkw := (hR.2.2.2 ho).2.2.2.1 hat
 have leT : σ.μ.N ≤ (σ.μ.turn t.who t.obj t.w (bd t.w 2)).N := by
  cases bd t.w 2 with
  | none => exact bI _
  | some n => show σ.μ.N ≤ σ.μ.N + 2; omega
 have leN : (σ.μ.turn t.who t.obj t.w (bd t.w 2)).N ≤ σ.μ.N + 2 := by
  cases bd t.w 2 with
  | none => show σ.μ.N ≤ σ.μ.N + 2; omega
  | some n => exact bI _
 refine ti x P g σ t k now S T ho (by omega) h0 fun H1 h1 => ?_;refine ah (cw ..) ?_;refine aa (aG (by omega)) ?_;refine gs ?_;refine aa (aG (by omega)) ?_;refine gs ?_;refine aa (aG (by omega)) ?_;refine gs ?_;refine aa (aG (by omega)) ?_;refine gs ?_;refine aa (aG (by omega)) ?_;refine gs ?_;refine aa (bk (by omega)) ?_;refine gs ?_;refine bi h1 ac rfl rfl fun H2 h2 => ?_;refine ag h2 (j7 x P g σ t { k with a := 4 } hl b hob' hb) fun _ H3 h3 => ?_;refine bz ac ?_;refine aR h3 rfl ?_;refine aH h2 h3 (by rfl) ?_;refine bz ac ?_;refine aR h3 rfl ?_;refine aH h2 h3 (by rfl) ?_;rw [hkw];refine ag h3 (mK (p := P) (μ' := σ.μ.turn t.who t.obj t.w (bd t.w 2)) leT hl hob' hb (by rw [hko]; exact FV g.m t.obj b (au σ t.obj) σ.μ t.who t.w 2 (by omega) T.w hN)) fun _ H5 h5 => ?_;cases hw : fD σ.μ t.obj t.w (bd t.w 2)
 ·refine gs ?_
  refine ah (bu ..) ?_;exact aq (iC (g := g) (k := { k with a := 4 }) (σ' := σ.mem (σ.μ.turn t.who t.obj t.w (bd t.w 2))) (t' := { t with at' := 4 }) (by rw [bR σ t now ho (by omega)]; simp only [eH, hat]; rw [if_neg (by rw [hw]; simp)]) (ug rfl ho (by simp) hI hko (by simp) (by simp) (by simp) (by simp)) (aB (σ := σ) hg leT rfl) (show ae (xB x P t ({ k with a := 4 }) * (ax P (g) (σ.mem (σ.μ.turn t.who t.obj t.w (bd t.w 2))) * R)) _ from h5.to))
 ·refine gs ?_
  refine ag h5 (j6 x P g (σ.mem (σ.μ.turn t.who t.obj t.w (bd t.w 2))) t { k with a := 4 } (aB (σ := σ) hg leT rfl) now 0 (by have := S.N; show (σ.μ.turn t.who t.obj t.w (bd t.w 2)).N < _; omega) S.pts) fun v H6 h6 => ?_;refine bi h6 ac rfl rfl fun H7 h7 => ?_;refine ah (bu ..) ?_;exact aq (iC (g := { g with pv := v }) (k := { k with a := 9, code := 0 }) (σ' := (σ.mem (σ.μ.turn t.who t.obj t.w (bd t.w 2))).note now t.who 0) (t' := { t with at' := 9, code := 0 }) (by rw [bR σ t now ho (by omega)]; simp only [eH, hat]; rw [if_pos hw]) (ug rfl ho (by simp) hI hko (by simp) (by simp) (by simp) (fun _ => rfl)) (dJ (σ := σ) hg leT rfl) (show ae (xB x P t ({ k with a := 9, code := 0 }) * (ax P ({ g with pv := v }) ((σ.mem (σ.μ.turn t.who t.obj t.w (bd t.w 2))).note now t.who 0) * R)) _ from h7.to))
theorem akL (S : SOk σ) (T : mJ σ t) (ho : t.x.op ≠ 1) (hat : t.at' = 9) : Sp bq [vp x, vi now] (yT x P t * aK P σ) (fun _ : Unit => vb (az σ t now).2.2) (fun _ => yU x P (az σ t now) * aK P (az σ t now).1) := by
 have hN : σ.μ.N < 1099511627000 := by have := S.N; omega
 refine aP fun R H h => ?_;obtain ⟨k, g, hR, hg, h0⟩ := j8 h;have hl := hg.1;have ha := hR.1;obtain ⟨hI, hko⟩ := (hR.2.2.2 ho).1 (by omega) (by omega);have hob := T.obj (.inr ⟨by omega, by omega, ho⟩)
 have hob' : k.obj < σ.obs.length := by omega
 obtain ⟨b, hb⟩ : ∃ b, g.rp[k.obj]? = some b := ⟨_, cS (by omega)⟩;have hkc := (hR.2.2.2 ho).2.2.2.2 (.inl hat);refine ti x P g σ t k now S T ho (by omega) h0 fun H1 h1 => ?_;refine ah (cw ..) ?_;refine aa (aG (by omega)) ?_;refine gs ?_;refine aa (aG (by omega)) ?_;refine gs ?_;refine aa (aG (by omega)) ?_;refine gs ?_;refine aa (aG (by omega)) ?_;refine gs ?_;refine aa (aG (by omega)) ?_;refine gs ?_;refine aa (aG (by omega)) ?_;refine gs ?_;refine aa (bk (by omega)) ?_;refine gs ?_;refine aj h1 ac rfl ?_;refine aj h1 ac rfl ?_;refine aj h1 ac rfl ?_;rw [hI];refine ag h1 (pQ (p := P) (g := g) (σ := σ) (μ' := (σ.μ.acc t.who 2 (10, t.s, (t.i : Int))).put (10, t.s, (t.i : Int)) 0) (by simp) (Wf g.tb g.m σ.c.sh.toNat σ.c.sl.toNat σ.μ t.who t.s t.i hN)) fun _ H2 h2 => ?_;refine bi h2 ac rfl rfl fun H4 h4 => ?_;refine ah (bu ..) ?_;exact aq (iC (g := g) (k := { k with a := 10 }) (σ' := σ.mem ((σ.μ.acc t.who 2 (10, t.s, (t.i : Int))).put (10, t.s, (t.i : Int)) 0)) (t' := { t with at' := 10 }) (by rw [bR σ t now ho (by omega)]; simp only [eH, hat]) (Xg rfl ho rfl hkc) (aB (σ := σ) hg (by simp) rfl) (show ae (xB x P t ({ k with a := 10 }) * (ax P (g) (σ.mem ((σ.μ.acc t.who 2 (10, t.s, (t.i : Int))).put (10, t.s, (t.i : Int)) 0)) * R)) _ from h4.to))
theorem adW (S : SOk σ) (T : mJ σ t) (hat : t.at' = 2) : Sp bq [vp x, vi now] (yT x P t * aK P σ) (fun _ : Unit => vb (az σ t now).2.2) (fun _ => yU x P (az σ t now) * aK P (az σ t now).1) := by
 have hN : σ.μ.N < 1099511627000 := by have := S.N; omega
 refine aP fun R H h => ?_;obtain ⟨k, g, hR, hg, h0⟩ := j8 h;have hl := hg.1;have ha := hR.1
 have hst : az σ t now = fG σ t := by simp only [az, hat]
 refine Ak x P g σ t k now S T (by omega) h0 fun H1 h1 => ?_;rw [hst];exact Ig x P g σ t k now S (hR.2.1 (by omega)) (by omega) hg h1
theorem adV (S : SOk σ) (T : mJ σ t) (hat : t.at' = 0) : Sp bq [vp x, vi now] (yT x P t * aK P σ) (fun _ : Unit => vb (az σ t now).2.2) (fun _ => yU x P (az σ t now) * aK P (az σ t now).1) := by
 have hN : σ.μ.N < 1099511627000 := by have := S.N; omega
 refine aP fun R H h => ?_;obtain ⟨k, g, hR, hg, h0⟩ := j8 h;have hl := hg.1;have ha := hR.1;refine Nj x P g σ t k now S T h0 fun H1 h1 => ?_;refine ah (nz ..) ?_;refine aj h1 ac rfl ?_;refine aa (bk (by omega)) ?_;refine ah (lV ..) ?_;refine gs ?_
 have bad : ∀ code, code ≠ 0 → dM t.x = some code → wp (cT (vp x) (vi now) (vb false) (vp P) (vi t.s) (vi code) H1) fun v' H' => ∃ y : Unit, v' = vb (az σ t now).2.2 ∧ ae (yU x P (az σ t now) * aK P (az σ t now).1 * R) H' := by
  intro code h0 hx;refine ah (lX ..) ?_;refine aa (Ml h0) ?_;refine gs ?_;refine ag h1 (j6 x P g σ t k hg now code (by have := S.N; omega) S.pts) fun v H2 h2 => ?_;exact aq (Qp (g := { g with pv := v }) (k := { k with code := code }) (σ' := σ.note now t.who code) (t' := { t with code := code }) (by simp only [az, hat, hx]) rfl (dJ (σ := σ) hg (bI _) rfl) h2.to)
 have good : dM t.x = none → wp (cT (vp x) (vi now) (vb false) (vp P) (vi t.s) (vi 0) H1) fun v' H' => ∃ y : Unit, v' = vb (az σ t now).2.2 ∧ ae (yU x P (az σ t now) * aK P (az σ t now).1 * R) H' := by
  intro hx
  have hst : az σ t now = fG σ t := by simp only [az, hat, hx]
  refine ah (lX ..) ?_;refine aa (AJ rfl) ?_;refine gs ?_;refine bi h1 ac rfl rfl fun H2 h2 => ?_;rw [hst];exact Ig x P g σ t { k with a := 2 } now S (hR.2.1 (by omega)) rfl hg h2.to
 have k17f : lN t.x → wp (iy (vp x) (vi now) (vb false) (vp P) (vi t.s) (vi 0) (vb false) H1) fun v' H' => ∃ y : Unit, v' = vb (az σ t now).2.2 ∧ ae (yU x P (az σ t now) * aK P (az σ t now).1 * R) H' := by
  intro hf;refine ah (lW ..) ?_;refine aj h1 (bV (aO (aO aY))) rfl ?_
  by_cases ho : t.x.op = 1
  ·refine aa (AJ ho) ?_
   refine gs ?_;rw [Bool.not_false];refine gs ?_;exact bad 1 (by omega) (by rw [nC ho, if_pos hf])
  ·refine aa (Ml ho) ?_
   refine gs ?_;rw [Bool.not_false];refine gs ?_;exact bad 5 (by omega) (by rw [Fa ho, if_pos hf])
 have k17t : ¬ lN t.x → wp (iy (vp x) (vi now) (vb false) (vp P) (vi t.s) (vi 0) (vb true) H1) fun v' H' => ∃ y : Unit, v' = vb (az σ t now).2.2 ∧ ae (yU x P (az σ t now) * aK P (az σ t now).1 * R) H' := by
  intro hf;refine ah (lW ..) ?_;refine aj h1 (bV (aO (aO aY))) rfl ?_
  by_cases ho : t.x.op = 1
  ·refine aa (AJ ho) ?_
   refine gs ?_;rw [Bool.not_true];refine gs ?_;refine aj h1 (bV (aO (aO aY))) rfl ?_;refine aa (bk ho) ?_;refine gs ?_;refine aj h1 (bV (aO (aO aY))) rfl ?_;refine gs ?_
   by_cases ha1 : t.x.a < 1
   ·refine aa (cK ha1) ?_
    refine gs ?_;exact bad 4 (by omega) (by rw [nC ho, if_neg hf, if_pos (.inl ha1)])
   refine aa (ch ha1) ?_;refine gs ?_;refine aj h1 (bV (aO (aO aY))) rfl ?_;refine gs ?_
   by_cases ha2 : 65536 < t.x.a
   ·refine aa (lq ha2) ?_
    refine gs ?_;exact bad 4 (by omega) (by rw [nC ho, if_neg hf, if_pos (.inr ha2)])
   refine aa (f7 ha2) ?_;refine gs ?_;refine aj h1 (bV (aO (aO aY))) rfl ?_;refine aa (bk ho) ?_;refine gs ?_;refine aj h1 (bV (aO (aO aY))) rfl ?_;refine gs ?_
   by_cases hb1 : t.x.b < 1
   ·refine aa (cK hb1) ?_
    refine gs ?_;exact bad 1 (by omega) (by rw [nC ho, if_neg hf, if_neg (by omega), if_pos (.inl hb1)])
   refine aa (ch hb1) ?_;refine gs ?_;refine aj h1 (bV (aO (aO aY))) rfl ?_;refine gs ?_
   by_cases hb2 : 8 < t.x.b
   ·refine aa (lq hb2) ?_
    refine gs ?_;exact bad 1 (by omega) (by rw [nC ho, if_neg hf, if_neg (by omega), if_pos (.inr hb2)])
   refine aa (f7 hb2) ?_;refine gs ?_;exact good (by rw [nC ho, if_neg hf, if_neg (by omega), if_neg (by omega)])
  ·refine aa (Ml ho) ?_
   refine gs ?_;rw [Bool.not_true];refine gs ?_;rw [Bool.not_true];refine gs ?_;refine aj h1 (bV (aO (aO aY))) rfl ?_;refine aa (aG ho) ?_;refine gs ?_;refine aj h1 (bV (aO (aO aY))) rfl ?_;refine aa (aG ho) ?_;refine gs ?_;exact good (by rw [Fa ho, if_neg hf])
 refine aj h1 (bV (aO (aO aY))) rfl ?_
 by_cases hf : t.x.flow < 0
 ·refine aa (mV (by omega)) ?_
  refine gs ?_;exact k17f (.inl hf)
 refine aa (r7 (by omega)) ?_;refine gs ?_;refine aj h1 (bV (aO (aO aY))) rfl ?_;refine gs ?_
 by_cases hf2 : 1048576 < t.x.flow
 ·refine aa (aaG (by omega)) ?_
  refine gs ?_;exact k17f (.inr hf2)
 refine aa (aaH (by omega)) ?_;refine gs ?_;exact k17t (fun h => h.elim hf hf2)
theorem W8 (S : SOk σ) (T : mJ σ t) : Sp bq [vp x, vi now] (yT x P t * aK P σ) (fun _ : Unit => vb (az σ t now).2.2) (fun _ => yU x P (az σ t now) * aK P (az σ t now).1) := by
 by_cases ho : t.x.op = 1
 ·rcases T.ats with hat | hat | hat | hat | hat
  ·exact adV x P σ t now S T hat
  ·exact adW x P σ t now S T hat
  ·exact akM x P σ t now S T ho hat
  ·by_cases h4 : t.at' = 4
   ·exact akN x P σ t now S T ho h4
   by_cases h5 : t.at' = 5
   ·exact akO x P σ t now S T ho h5
   exact akP x P σ t now S T ho (by omega)
  ·exact absurd ho hat.1
 ·rcases T.ats with hat | hat | hat | hat | hat
  ·exact adV x P σ t now S T hat
  ·exact adW x P σ t now S T hat
  ·exact akF x P σ t now S T ho hat
  ·by_cases h4 : t.at' = 4
   ·exact akG x P σ t now S T ho h4
   by_cases h5 : t.at' = 5
   ·exact akH x P σ t now S T ho h5
   exact akI x P σ t now S T ho (by omega)
  ·by_cases h7 : t.at' = 7
   ·exact akJ x P σ t now S T ho h7
   by_cases h8 : t.at' = 8
   ·exact akK x P σ t now S T ho h8
   by_cases h9 : t.at' = 9
   ·exact akL x P σ t now S T ho h9
   exact ahH x P σ t now S T ho (by omega)
end
abbrev TP := Nat × Pt
def ltT (a b : TP) : Prop := a.2.step < b.2.step ∨ a.2.step = b.2.step ∧ a.1 < b.1
def Srt (L : List TP) : Prop := L.Pairwise ltT
def Bel (X Y : List TP) : Prop := ∀ x ∈ X, ∀ y ∈ Y, x.1 < y.1
abbrev pl (L : List TP) : List Pt := L.map fun x : TP => x.2
theorem agW : Srt [] := List.Pairwise.nil
inductive Chk (bs : Nat) : List TP → Prop
 | last {X : List TP} (h1 : X.length ≤ bs) (h2 : Srt X) : Chk bs X
 | cons {X L : List TP} (h1 : X.length = bs) (h2 : Srt X) (h3 : Bel X L) (h4 : Chk bs L) : Chk bs (X ++ L)
theorem Chk.nil {bs : Nat} : Chk bs [] := .last (by simp) agW
theorem Chk.split {bs : Nat} {L : List TP} (h : Chk bs L) (hl : bs ≤ L.length) : ∃ X L2, L = X ++ L2 ∧ X.length = bs ∧ Srt X ∧ Bel X L2 ∧ Chk bs L2 := by
 cases h with
 | last h1 h2 => exact ⟨L, [], by simp, by omega, h2, (fun x _ y hy => by cases hy), .nil⟩
 | @cons X L' h1 h2 h3 h4 => exact ⟨X, L', rfl, h1, h2, h3, h4⟩
theorem Bel.left {X X2 Y : List TP} (h : Bel (X ++ X2) Y) : Bel X Y := fun x hx y hy => h x (List.mem_append_left _ hx) y hy
theorem Bel.sub {X X' Y Y' : List TP} (h : Bel X Y) (hx : ∀ x ∈ X', x ∈ X) (hy : ∀ y ∈ Y', y ∈ Y) : Bel X' Y' := fun x h1 y h2 => h x (hx x h1) y (hy y h2)
theorem Aj {x : OV} {Q Q' : Value → AH → Prop} (f : ∀ v H, Q v H → Q' v H) (k : wp x Q) : wp x Q' := let ⟨v, H, e, q⟩ := k; ⟨v, H, e, f _ _ q⟩
theorem Ea : Sp gb [.slice none 0 0, .slice none 0 0] emp (fun _ : Unit => vb true) (fun _ => emp) := by
 have same : ∀ f : Value, Sp sr [.slice none 0 0, .slice none 0 0, f] emp (fun _ : Unit => vb true) (fun _ => emp) := by
  intro f;refine br (JF _ _ _) fun R H h => ?_;refine Tw ?_;refine Tw ?_;refine aa (AJ rfl) ?_;refine gs ?_;refine ah (Bb _ _ _ _ H) ?_;refine ah (Bd _ _ _ _ _ H) ?_;refine ah (Be _ _ _ _ _ H) ?_;refine Tw ?_;refine aa (ch (by omega)) ?_;refine gs ?_;refine ah (xf _ H) ?_;refine ah (Bc _ H) ?_;exact aq ⟨(), rfl, h⟩
 refine br (pg _ _) fun R H h => ?_;refine ag h (same _) fun _ H1 h1 => ?_;exact aq ⟨(), rfl, h1.to⟩
theorem xl (e : Int) : Sp kB [.agg (ef e).toArray, .agg (ef e).toArray] emp (fun _ : Unit => vb true) (fun _ => emp) := by
 refine br (L6 _ _) fun R H h => ?_;refine aS h fun b1 H1 h1 => ?_;refine aS h1 fun b2 H2 h2 => ?_;refine aj h2 aA rfl ?_;refine aj h2 aA rfl ?_;refine aa (bk rfl) ?_;refine gs ?_;refine aj h2 aA rfl ?_;refine gs ?_;refine aj h2 aA rfl ?_;refine gs ?_;refine aa (bk rfl) ?_;refine gs ?_;refine aj h2 aA rfl ?_;refine gs ?_;refine aj h2 aA rfl ?_;refine gs ?_;refine aa (bk rfl) ?_;refine gs ?_;refine aj h2 aA rfl ?_;refine gs ?_;refine aj h2 aA rfl ?_;refine gs ?_;refine ag h2 Ea fun _ H3 h3 => ?_;refine gs ?_;exact aq ⟨(), rfl, h3.to⟩
section
variable {α : Type}
theorem aiY (A B : List α) (x : α) : (A ++ x :: B)[A.length]? = some x := by simp
theorem ad8 {A B : List α} {x : α} {i : Nat} (h : i = A.length) : (A ++ x :: B)[i]? = some x := by subst h; exact aiY A B x
theorem at2 {A B C : List α} {x y : α} {j : Nat} (hj : j = A.length + 1 + B.length) : (A ++ x :: (B ++ y :: C))[j]? = some y := by
 have e : A ++ x :: (B ++ y :: C) = (A ++ x :: B) ++ y :: C := by simp
 rw [e];exact ad8 (by simp; omega)
end
section
variable {P R : SP} {H : AH} {s : Value} {l : List Pt} {Q : Value → AH → Prop}
end

section
variable (A B : List Pt) (s : Value) (X Y : List TP)
end
section
variable (A B : List Pt) (s : Value) (X Y : List TP) (hX : Srt X) (hY : Srt Y) (hB : Bel X Y) (hb : A.length + X.length + Y.length < 1000000)
include hX hY hB hb
end


theorem Ht {x : Nat} {g : XIds} {σ : aN} {R : SP} {H : AH} (h : ae (ax x g σ * R) H) : ∃ (kv vv ev : Value) (Z : SP), ae (blk g.m (.cells false [kv, vv, ev]) * (ts 5 Ev.cells ev σ.μ.E * (blk x (.cells false [vi σ.c.sh, vi σ.c.sl, vi σ.c.wk, vi σ.c.wd, vu σ.c.un, vp g.m, vp g.ib, vp g.tb, vp g.po, vp g.co, g.ov, g.rv, g.wv, g.pv]) * (Z * R)))) H ∧
 ∀ {R' : SP} {H' : AH}, ae (blk g.m (.cells false [kv, vv, ev]) * (ts 5 Ev.cells ev σ.μ.E * (blk x (.cells false [vi σ.c.sh, vi σ.c.sl, vi σ.c.wk, vi σ.c.wd, vu σ.c.un, vp g.m, vp g.ib, vp g.tb, vp g.po, vp g.co, g.ov, g.rv, g.wv, g.pv]) * (Z * R')))) H' → ae (ax x g σ * R') H' := by
 unfold ax at h
 have h1 : ae (bS g.m σ.μ * (blk x (.cells false [vi σ.c.sh, vi σ.c.sl, vi σ.c.wk, vi σ.c.wd, vu σ.c.un, vp g.m, vp g.ib, vp g.tb, vp g.po, vp g.co, g.ov, g.rv, g.wv, g.pv]) * ((jb g.ib g.m σ.c.sh σ.nx σ.μ.N * (tab g.tb g.m σ.c.sh.toNat σ.c.sl.toNat *
  (ts 3 uk g.ov (σ.obs.map fun x => x.1) * (ts 1 qA g.rv g.rp * (j0 g.m 0 (g.rp.zip (σ.obs.map fun x => x.2)) * (ts 1 l5 g.wv (fU g.ws) * ts 7 Pt.cells g.pv (bY σ.pts))))))) * R))) H := h.to
 obtain ⟨al, h2⟩ := ae.ex.1 h1;rw [ai, ae.pu] at h2;obtain ⟨hp, h2⟩ := h2;obtain ⟨⟨kv, vv, ev⟩, h3⟩ := ae.ex.1 h2;dsimp only at h3
 refine ⟨kv, vv, ev, (ts 3 Iz kv al * ts 1 Lx vv al) * (jb g.ib g.m σ.c.sh σ.nx σ.μ.N * (tab g.tb g.m σ.c.sh.toNat σ.c.sl.toNat *
  (ts 3 uk g.ov (σ.obs.map fun x => x.1) * (ts 1 qA g.rv g.rp * (j0 g.m 0 (g.rp.zip (σ.obs.map fun x => x.2)) * (ts 1 l5 g.wv (fU g.ws) * ts 7 Pt.cells g.pv (bY σ.pts))))))), h3.to, fun {R' H'} h4 => ?_⟩
 unfold ax
 have h5 : ae (bS g.m σ.μ * (blk x (.cells false [vi σ.c.sh, vi σ.c.sl, vi σ.c.wk, vi σ.c.wd, vu σ.c.un, vp g.m, vp g.ib, vp g.tb, vp g.po, vp g.co, g.ov, g.rv, g.wv, g.pv]) * ((jb g.ib g.m σ.c.sh σ.nx σ.μ.N * (tab g.tb g.m σ.c.sh.toNat σ.c.sl.toNat *
  (ts 3 uk g.ov (σ.obs.map fun x => x.1) * (ts 1 qA g.rv g.rp * (j0 g.m 0 (g.rp.zip (σ.obs.map fun x => x.2)) * (ts 1 l5 g.wv (fU g.ws) * ts 7 Pt.cells g.pv (bY σ.pts))))))) * R'))) H' := by
  refine ae.ex.2 ⟨al, ?_⟩;rw [ai, ae.pu];refine ⟨hp, ae.ex.2 ⟨(kv, vv, ev), ?_⟩⟩;dsimp only;exact h4.to
 exact h5.to
theorem ac2 {w how n : Nat} (h : bd w how = some n) : n < 18446744073709551616 := by
 have := eV w;unfold bd at h
 split at h
 ·split at h
  ·have := gr h; omega
  ·cases h
 ·split at h
  ·have := gr h; omega
  ·cases h
 ·split at h
  ·have := gr h; omega
  ·cases h
 ·cases h
structure SI (σ : aN) (k : Nat) : Prop where
 c : bZ σ.c = true
 N : σ.μ.N ≤ k
 E : σ.μ.E.length ≤ k
 pts : σ.pts.length ≤ k
 V : ∀ l, σ.μ.V l < 18446744073709551616
 obs : σ.obs.length ≤ k
 cells : ∀ o, o < σ.obs.length → 1 ≤ (au σ o).length ∧ (au σ o).length < 1000
 slot : ∀ s i, σ.μ.V (10, s, i) ≠ 0 → σ.μ.V (10, s, i) % 4294967296 < σ.obs.length
 head : ∀ o, σ.μ.V (12, o, 0) ≤ k
theorem SI.ok {σ : aN} {k : Nat} (h : SI σ k) (hk : k < 300000) : SOk σ :=
 ⟨h.c, by have := h.N; omega, by have := h.pts; omega, h.V, by have := h.obs; omega, h.cells, h.slot⟩
theorem SI.mono {σ : aN} {k k' : Nat} (h : SI σ k) (hk : k ≤ k') : SI σ k' :=
 ⟨h.c, fy h.N hk, fy h.E hk, fy h.pts hk, h.V, fy h.obs (by omega), h.cells, h.slot, fun o => fy (h.head o) hk⟩
theorem SI.acc {σ : aN} {k : Nat} (h : SI σ k) (who kd : Int) (l : cO) : SI (σ.mem (σ.μ.acc who kd l)) (k + 2) :=
 ⟨h.c, by have := h.N; show σ.μ.N + 2 ≤ _; omega, by have := h.E; show (σ.μ.E ++ [_]).length ≤ _; simp; omega, fy h.pts (by omega), h.V, fy h.obs (by omega), h.cells, h.slot, fun o => fy (h.head o) (by omega)⟩
theorem SI.put {σ : aN} {k : Nat} (h : SI σ k) (l : cO) (v : Nat) (hv : v < 18446744073709551616) (h1 : l.1 ≠ 10) (h2 : l.1 ≠ 12 ∨ v ≤ k) : SI (σ.mem (σ.μ.put l v)) k := by
 refine ⟨h.c, h.N, h.E, h.pts, fun x => ?_, h.obs, h.cells, fun s i => ?_, fun o => ?_⟩
 ·show (if x = l then v else σ.μ.V x) < _
  split
  ·exact hv
  ·exact h.V x
 ·show (if (10, s, i) = l then v else σ.μ.V (10, s, i)) ≠ 0 → (if (10, s, i) = l then v else σ.μ.V (10, s, i)) % _ < _
  rw [if_neg (fun e => h1 (by rw [← e]))];exact h.slot s i
 ·show (if (12, o, 0) = l then v else σ.μ.V (12, o, 0)) ≤ _
  split
  ·rename_i e
   rcases h2 with h2 | h2
   ·exact absurd (by rw [← e]) h2
   ·exact h2
  ·exact h.head o
theorem SI.swp {σ : aN} {k : Nat} (h : SI σ k) (who : Int) (l : cO) (was now : Nat) (hv : now < 18446744073709551616) (h1 : l.1 ≠ 10) (h2 : l.1 ≠ 12) : SI (σ.mem (σ.μ.swp who l was now)) (k + 2) := by
 have e : σ.μ.swp who l was now = (if σ.μ.V l = was then (σ.μ.acc who 3 l).put l now else σ.μ.acc who 4 l) := by
  show (⟨_, _, _⟩ : Mu) = _;unfold Mu.swap
  split <;> rfl
 rw [e]
 split
 ·exact (h.acc who 3 l).put l now hv h1 (.inl h2)
 ·exact h.acc who 4 l
theorem SI.turn {σ : aN} {k : Nat} (h : SI σ k) (who : Int) (o w how : Nat) : SI (σ.mem (σ.μ.turn who o w (bd w how))) (k + 2) := by
 cases e : bd w how with
 | none => exact h.mono (by omega)
 | some n => exact h.swp who (11, (o : Int), 0) w n (ac2 e) (by simp) (by simp)
theorem SI.cnt {σ : aN} {k : Nat} (h : SI σ k) (who : Int) (l : cO) (n : Nat) (h1 : l.1 ≠ 10) (h2 : l.1 ≠ 12) : SI (σ.mem (σ.μ.cnt who l n)) (k + 2) :=
 (h.acc who 3 l).put l _ (Nat.mod_lt _ (by omega)) h1 (.inl h2)
theorem SI.note {σ : aN} {k : Nat} (h : SI σ k) (step who e : Int) : SI (σ.note step who e) (k + 1) :=
 ⟨h.c, fy h.N (by omega), fy h.E (by omega), by have := h.pts; show (σ.pts ++ [_]).length ≤ _; simp; omega, h.V, fy h.obs (by omega), h.cells, h.slot, fun o => fy (h.head o) (by omega)⟩
theorem SI.link {σ : aN} {k : Nat} (h : SI σ k) (who : Int) (l : cO) (nx : Int → Option Nat) : SI { σ with μ := σ.μ.acc who 6 l, nx := nx } (k + 2) := by
 have := h.acc who 6 l;exact ⟨this.c, this.N, this.E, this.pts, this.V, this.obs, this.cells, this.slot, this.head⟩
theorem SI.begin {σ : aN} {k : Nat} (h : SI σ k) (who place : Int) : SI (σ.begin who place) (k + 1) :=
 ⟨h.c, by have := h.N; show σ.μ.N + 1 ≤ _; omega, fy h.E (by omega), fy h.pts (by omega), h.V, fy h.obs (by omega), h.cells, h.slot, fun o => fy (h.head o) (by omega)⟩
theorem SI.lay {σ : aN} {k : Nat} (h : SI σ k) (t : Tk) : SI (px σ t) (k + 2) := by
 have ha := h.acc t.who 6 (16, (t.obj : Int), ((aL t.w % (au σ t.obj).length : Nat) : Int));rw [Cq]
 have hl : (σ.obs.modify t.obj fun q => (q.1, (au σ t.obj).set (aL t.w % (au σ t.obj).length) (⟨t.x.flow, t.x.a, t.x.b⟩ : Pk))).length = σ.obs.length := by simp
 refine ⟨ha.c, ha.N, ha.E, ha.pts, ha.V, by rw [hl]; exact fy h.obs (by omega), fun o ho => ?_, fun s i hs => by show _ < List.length _; rw [hl]; exact h.slot s i hs, ha.head⟩
 have ho' : o < σ.obs.length := by
  have : o < (σ.obs.modify t.obj fun q => (q.1, (au σ t.obj).set (aL t.w % (au σ t.obj).length) (⟨t.x.flow, t.x.a, t.x.b⟩ : Pk))).length := ho
  rwa [hl] at this
 have hc := h.cells o ho';rw [wz ho'] at hc
 have hx : ∀ z : Ob × List Pk, z.2.length = (σ.obs[o]).2.length → 1 ≤ z.2.length ∧ z.2.length < 1000 := fun z hz => by rw [hz]; exact hc
 unfold au;rw [List.getElem?_modify, cS ho'];refine hx (if t.obj = o then ((σ.obs[o]).1, (au σ t.obj).set (aL t.w % (au σ t.obj).length) ⟨t.x.flow, t.x.a, t.x.b⟩) else σ.obs[o]) ?_
 split
 ·rename_i e
  subst e;rw [wz ho', Mc]
 ·rfl
theorem hU.mono {σ σ' : aN} {t : Tk} (T : hU σ t) (hc : σ'.c = σ.c) (ho : σ'.obs.length = σ.obs.length) : hU σ' t :=
 ⟨fun h => by rw [ho]; exact T.obj h, by rw [hc]; exact T.s, by rw [hc]; exact T.i, T.w, T.c5, T.c0, T.ats⟩
abbrev Tk.new (c : eg) (who : Int) (x : Cl) : Tk := ⟨who, x, (x.flow.tmod c.sh + c.sh).tmod c.sh, 0, 0, 0, false, 0, 0, 0, 0, 0⟩
theorem hU.new {σ : aN} (hc : bZ σ.c = true) (who : Int) (x : Cl) : hU σ (Tk.new σ.c who x) := by
 have := bo.1 hc;exact ⟨fun h => by simp at h, rfl, fun _ _ => by simp; omega, by simp, fun h => by simp at h, fun h => by simp at h, .inl rfl⟩
theorem SD (σ : aN) (t : Tk) : ((px σ t).obs.map fun q => q.1) = σ.obs.map fun q => q.1 := by
 unfold px;apply List.ext_getElem?;intro j;simp only [Bp, List.getElem?_modify]
 cases σ.obs[j]? with
 | none => rfl
 | some q =>
  show some (if t.obj = j then _ else q).1 = some q.1
  split <;> rfl
structure Kept (σ : aN) (t : Tk) (r : aN × Tk × Bool) (k : Nat) : Prop where
 si : SI r.1 (k + 3)
 c : r.1.c = σ.c
 obs : r.1.obs.length = σ.obs.length
 hd : (r.1.obs.map fun q => q.1) = σ.obs.map fun q => q.1
 pts : r.1.pts.length ≤ σ.pts.length + 1
 who : r.2.1.who = t.who
 x : r.2.1.x = t.x
 ok : r.2.2 = false → hU r.1 r.2.1
theorem HP {σ : aN} {t : Tk} {k : Nat} (h : SI σ k) (T : hU σ t) (hat : t.at' = 0 ∨ t.at' = 2) : Kept σ t (gO σ t) k := by
 refine ⟨(h.acc _ _ _).mono (by omega), rfl, rfl, rfl, Nat.le_succ _, rfl, rfl, fun _ => ?_⟩;have hi := T.i (by omega) (by omega);refine ⟨fun hh => ?_, T.s, fun h1 h2 => ?_, T.w, fun hh => ?_, fun hh => ?_, ?_⟩
 ·show (aW σ t).obj < σ.obs.length
  have hf : (aW σ t).found = true := by
   cases hf : (aW σ t).found with
   | true => rfl
   | false =>
    have hh' : 6 ≤ (if (aW σ t).found = true then 6 else if bK σ (aW σ t) = true then 3 else 2 : Nat) ∨ (if (aW σ t).found = true then 6 else if bK σ (aW σ t) = true then 3 else 2 : Nat) = 5 ∧ _ := hh;rw [hf, if_neg (by simp)] at hh'
    rcases hh' with q | q
    ·split at q <;> omega
    ·have q := q.1
     split at q <;> omega
  have hf' : f9 (σ.μ.V (10, t.s, (t.i : Int))) t.x.flow = true := hf;have e : (aW σ t).obj = σ.μ.V (10, t.s, (t.i : Int)) % 4294967296 := if_pos hf';rw [e];have hv := (of_decide_eq_true hf').1;exact h.slot _ _ hv
 ·have h1 : (if (aW σ t).found = true then 6 else if bK σ (aW σ t) = true then 3 else 2 : Nat) < 5 := h1
  have h2 : (if (aW σ t).found = true then 6 else if bK σ (aW σ t) = true then 3 else 2 : Nat) ≠ 3 := h2
  have hl : ¬ bK σ (aW σ t) = true := by
   intro hl;rw [if_pos hl] at h1 h2
   split at h1
   ·omega
   ·rename_i hn
    rw [if_neg hn] at h2;exact h2 rfl
  have : ¬ (σ.c.sl ≤ ((t.i + 1 : Nat) : Int)) := fun q => hl (dj q);show ((t.i + 1 : Nat) : Int) < σ.c.sl;omega
 ·have hh : (if (aW σ t).found = true then 6 else if bK σ (aW σ t) = true then 3 else 2 : Nat) = 5 := hh
  split at hh
  ·omega
  ·split at hh <;> omega
 ·have hh : (if (aW σ t).found = true then 6 else if bK σ (aW σ t) = true then 3 else 2 : Nat) = 10 ∨ (if (aW σ t).found = true then 6 else if bK σ (aW σ t) = true then 3 else 2 : Nat) = 11 ∨ (if (aW σ t).found = true then 6 else if bK σ (aW σ t) = true then 3 else 2 : Nat) = 14 ∨ 21 ≤ (if (aW σ t).found = true then 6 else if bK σ (aW σ t) = true then 3 else 2 : Nat) := hh
  split at hh
  ·omega
  ·split at hh <;> omega
 ·show (if (aW σ t).found = true then 6 else if bK σ (aW σ t) = true then 3 else 2 : Nat) = 0 ∨ _
  simp only [gO]
  split
  ·simp
  ·split <;> simp
theorem HW {σ : aN} {t : Tk} {k : Nat} (now : Int) (hk : k < 300000) (h : SI σ k) (T : hU σ t) : Kept σ t (ak σ t now) k := by
 rcases T.ats with hat | hat | hat | hat | hat | hat | hat | hat | hat | hat | hat | hat | hat | hat | hat | hat | hat | hat | hat | hat | hat | hat | hat | hat
 ·-- 0
  cases hx : cL t.x with
  | some e =>
   have hs : ak σ t now = (σ.note now t.who e, { t with code := e }, true) := by simp only [ak, hat, hx]
   rw [hs];exact ⟨(h.note _ _ _).mono (by omega), rfl, rfl, rfl, (by simp [aN.note]), rfl, rfl, fun h => by simp at h⟩
  | none =>
   have hs : ak σ t now = gO σ t := by simp only [ak, hat, hx, gO]
   rw [hs];exact HP h T (.inl hat)
 ·-- 2
  have hs : ak σ t now = gO σ t := by simp only [ak, hat, gO]
  rw [hs];exact HP h T (.inr hat)
 ·-- 3
  by_cases hw : σ.μ.V (8, t.s, 0) = 0
  ·have hs : ak σ t now = (σ.mem (σ.μ.swp t.who (8, t.s, 0) 0 1), { t with at' := 4, i := 0 }, false) := by simp only [ak, hat]; rw [if_pos hw]
   rw [hs];exact ⟨(h.swp _ _ _ _ (by omega) (by simp) (by simp)).mono (by omega), rfl, rfl, rfl, Nat.le_succ _, rfl, rfl, fun _ => ⟨fun _ => (by rename_i hh; simp at hh), T.s, (fun _ _ => by have := bo.1 h.c; show ((0 : Nat) : Int) < σ.c.sl; omega), T.w, (fun h => by simp at h), (fun h => by simp at h), (by simp)⟩⟩
  ·have hs : ak σ t now = (σ.mem (σ.μ.swp t.who (8, t.s, 0) 0 1), t, false) := by simp only [ak, hat]; rw [if_neg hw]
   rw [hs];exact ⟨(h.swp _ _ _ _ (by omega) (by simp) (by simp)).mono (by omega), rfl, rfl, rfl, Nat.le_succ _, rfl, rfl, fun _ => T.mono rfl rfl⟩
 ·-- 4
  have hi := T.i (by omega) (by omega)
  cases hf : (aW σ t).found with
  | true =>
   have hs : ak σ t now = (ba σ t, { aW σ t with at' := 5 }, false) := by simp only [ak, hat, hf]; rfl
   rw [hs];have hf' : f9 (σ.μ.V (10, t.s, (t.i : Int))) t.x.flow = true := hf;have e : (aW σ t).obj = σ.μ.V (10, t.s, (t.i : Int)) % 4294967296 := if_pos hf'
   have ho : (aW σ t).obj < σ.obs.length := by rw [e]; exact h.slot _ _ (of_decide_eq_true hf').1
   exact ⟨(h.acc _ _ _).mono (by omega), rfl, rfl, rfl, Nat.le_succ _, rfl, rfl, fun _ => ⟨fun _ => ho, T.s, (fun h1 h2 => by simp at h1), T.w, (fun _ h2 => by rw [show (aW σ t).found = false from h2] at hf; cases hf), (fun h => by simp at h), (by simp)⟩⟩
  | false =>
   cases hla : bK σ (aW σ t) with
   | true =>
    have hs : ak σ t now = ((ba σ t).note now t.who 5, { aW σ t with at' := 5, code := 5 }, false) := by simp only [ak, hat, hf, hla]; rfl
    rw [hs];exact ⟨((h.acc _ _ _).note _ _ _).mono (by omega), rfl, rfl, rfl, (by simp [aN.note]), rfl, rfl, fun _ => ⟨fun _ => (by rename_i hh; rw [show (aW σ t).found = false from hf] at hh; simp at hh), T.s, (fun h1 h2 => by simp at h1), T.w, (fun _ _ => rfl), (fun h => by simp at h), (by simp)⟩⟩
   | false =>
    have hs : ak σ t now = (ba σ t, aW σ t, false) := by simp only [ak, hat, hf, hla]; rfl
    rw [hs]
    have hl : ¬ (σ.c.sl ≤ ((t.i + 1 : Nat) : Int)) := fun q => by rw [show bK σ (aW σ t) = true from dj q] at hla; cases hla
    have ea : (aW σ t).at' = 4 := hat;exact ⟨(h.acc _ _ _).mono (by omega), rfl, rfl, rfl, Nat.le_succ _, rfl, rfl, fun _ => ⟨fun _ => (by rename_i hh; rw [ea] at hh; simp at hh), T.s, (fun _ _ => by show ((t.i + 1 : Nat) : Int) < σ.c.sl; omega), T.w, (fun h => by rw [ea] at h; simp at h), (fun h => by rw [ea] at h; simp at h), (by rw [ea]; simp)⟩⟩
 ·-- 5
  cases hf : t.found with
  | false =>
   have hs : ak σ t now = (σ.mem ((σ.μ.acc t.who 2 (8, t.s, 0)).put (8, t.s, 0) 0), { t with at' := 6 }, true) := by simp only [ak, hat, hf]; rfl
   rw [hs];exact ⟨((h.acc _ _ _).put _ _ (by omega) (by simp) (.inl (by simp))).mono (by omega), rfl, rfl, rfl, Nat.le_succ _, rfl, rfl, fun h => by simp at h⟩
  | true =>
   have hs : ak σ t now = (σ.mem ((σ.μ.acc t.who 2 (8, t.s, 0)).put (8, t.s, 0) 0), { t with at' := 6 }, false) := by simp only [ak, hat, hf]; rfl
   rw [hs];exact ⟨((h.acc _ _ _).put _ _ (by omega) (by simp) (.inl (by simp))).mono (by omega), rfl, rfl, rfl, Nat.le_succ _, rfl, rfl, fun _ => ⟨fun _ => T.obj (.inr ⟨hat, hf⟩), T.s, (fun h1 h2 => by simp at h1), T.w, (fun h => by simp at h), (fun h => by simp at h), (by simp)⟩⟩
 ·-- 6
  have hs : ak σ t now = (σ.mem (σ.μ.acc t.who 5 (13, (t.obj : Int), 0)), { t with at' := 7 }, false) := by simp only [ak, hat]
  rw [hs];exact ⟨(h.acc _ _ _).mono (by omega), rfl, rfl, rfl, Nat.le_succ _, rfl, rfl, fun _ => ⟨fun _ => T.obj (.inl (by omega)), T.s, (fun h1 h2 => by simp at h1), T.w, (fun h => by simp at h), (fun h => by simp at h), (by simp)⟩⟩
 ·-- 7
  by_cases hw : aZ (σ.μ.V (11, (t.obj : Int), 0)) = 2
  ·have hs : ak σ t now = (dg σ t, { t with w := σ.μ.V (11, (t.obj : Int), 0), at' := 3 }, false) := by simp only [ak, hat]; rw [if_pos hw]
   rw [hs];exact ⟨(h.acc _ _ _).mono (by omega), rfl, rfl, rfl, Nat.le_succ _, rfl, rfl, fun _ => ⟨fun _ => (by rename_i hh; simp at hh), T.s, (fun _ h2 => by simp at h2), h.V _, (fun h => by simp at h), (fun h => by simp at h), (by simp)⟩⟩
  ·have hs : ak σ t now = (dg σ t, { t with w := σ.μ.V (11, (t.obj : Int), 0), at' := 8 }, false) := by simp only [ak, hat]; rw [if_neg hw]
   rw [hs];exact ⟨(h.acc _ _ _).mono (by omega), rfl, rfl, rfl, Nat.le_succ _, rfl, rfl, fun _ => ⟨fun _ => T.obj (.inl (by omega)), T.s, (fun h1 h2 => by simp at h1), h.V _, (fun h => by simp at h), (fun h => by simp at h), (by simp)⟩⟩
 ·-- 8
  cases hf : j9 σ t with
  | true =>
   have hs : ak σ t now = (jA σ t, { t with at' := 15 }, false) := by simp only [ak, hat, hf]; rfl
   rw [hs];exact ⟨(h.acc _ _ _).mono (by omega), rfl, rfl, rfl, Nat.le_succ _, rfl, rfl, fun _ => ⟨fun _ => T.obj (.inl (by omega)), T.s, (fun h1 h2 => by simp at h1), T.w, (fun h => by simp at h), (fun h => by simp at h), (by simp)⟩⟩
  | false =>
   by_cases hw : aZ t.w = 1
   ·have hs : ak σ t now = (jA σ t, { t with at' := 9 }, false) := by simp only [ak, hat, hf]; rw [if_pos hw]; rfl
    rw [hs];exact ⟨(h.acc _ _ _).mono (by omega), rfl, rfl, rfl, Nat.le_succ _, rfl, rfl, fun _ => ⟨fun _ => T.obj (.inl (by omega)), T.s, (fun h1 h2 => by simp at h1), T.w, (fun h => by simp at h), (fun h => by simp at h), (by simp)⟩⟩
   ·have hs : ak σ t now = (jA σ t, { t with at' := 12 }, false) := by simp only [ak, hat, hf]; rw [if_neg hw]; rfl
    rw [hs];exact ⟨(h.acc _ _ _).mono (by omega), rfl, rfl, rfl, Nat.le_succ _, rfl, rfl, fun _ => ⟨fun _ => T.obj (.inl (by omega)), T.s, (fun h1 h2 => by simp at h1), T.w, (fun h => by simp at h), (fun h => by simp at h), (by simp)⟩⟩
 ·-- 9
  cases hw : fD σ.μ t.obj t.w (bd t.w 0) with
  | true =>
   have hs : ak σ t now = ((σ.mem (σ.μ.turn t.who t.obj t.w (bd t.w 0))).note now t.who 0, { t with at' := 10, code := 0 }, false) := by simp only [ak, hat, hw]; rfl
   rw [hs];exact ⟨((h.turn _ _ _ _).note _ _ _).mono (by omega), rfl, rfl, rfl, (by simp [aN.note]), rfl, rfl, fun _ => ⟨fun _ => T.obj (.inl (by omega)), T.s, (fun h1 h2 => by simp at h1), T.w, (fun h => by simp at h), (fun _ => rfl), (by simp)⟩⟩
  | false =>
   have hs : ak σ t now = (σ.mem (σ.μ.turn t.who t.obj t.w (bd t.w 0)), { t with at' := 7 }, false) := by simp only [ak, hat, hw]; rfl
   rw [hs];exact ⟨(h.turn _ _ _ _).mono (by omega), rfl, rfl, rfl, Nat.le_succ _, rfl, rfl, fun _ => ⟨fun _ => T.obj (.inl (by omega)), T.s, (fun h1 h2 => by simp at h1), T.w, (fun h => by simp at h), (fun h => by simp at h), (by simp)⟩⟩
 ·-- 10
  have hs : ak σ t now = (px σ t, { t with at' := 11 }, false) := by simp only [ak, hat]
  rw [hs];exact ⟨(h.lay t).mono (by omega), rfl, jD σ t, SD σ t, Nat.le_succ _, rfl, rfl, fun _ => (by have := jD σ t; exact ⟨fun _ => (by rw [this]; exact T.obj (.inl (by omega))), T.s, (fun h1 h2 => by simp at h1), T.w, (fun h => by simp at h), (fun _ => T.c0 (by omega)), (by simp)⟩)⟩
 ·-- 11
  have hs : ak σ t now = (s0 σ t, t, true) := by simp only [ak, hat]
  rw [hs];exact ⟨((h.acc _ _ _).put _ _ (by have := eV t.w; omega) (by simp) (.inl (by simp))).mono (by omega), rfl, rfl, rfl, Nat.le_succ _, rfl, rfl, fun h => by simp at h⟩
 ·-- 12
  have hs : ak σ t now = (σ.mem (σ.μ.cnt t.who (3, 0, 0) 4294967296), { t with at' := 13 }, false) := by simp only [ak, hat]
  rw [hs];exact ⟨(h.cnt _ _ _ (by simp) (by simp)).mono (by omega), rfl, rfl, rfl, Nat.le_succ _, rfl, rfl, fun _ => ⟨fun _ => T.obj (.inl (by omega)), T.s, (fun h1 h2 => by simp at h1), T.w, (fun h => by simp at h), (fun h => by simp at h), (by simp)⟩⟩
 ·-- 13
  cases hw : fD σ.μ t.obj t.w (bd t.w 0) with
  | true =>
   have hs : ak σ t now = ((σ.mem (σ.μ.turn t.who t.obj t.w (bd t.w 0))).note now t.who 0, { t with at' := 14, code := 0 }, false) := by simp only [ak, hat, hw]; rfl
   rw [hs];exact ⟨((h.turn _ _ _ _).note _ _ _).mono (by omega), rfl, rfl, rfl, (by simp [aN.note]), rfl, rfl, fun _ => ⟨fun _ => T.obj (.inl (by omega)), T.s, (fun h1 h2 => by simp at h1), T.w, (fun h => by simp at h), (fun _ => rfl), (by simp)⟩⟩
  | false =>
   have hs : ak σ t now = (σ.mem (σ.μ.turn t.who t.obj t.w (bd t.w 0)), { t with at' := 20 }, false) := by simp only [ak, hat, hw]; rfl
   rw [hs];exact ⟨(h.turn _ _ _ _).mono (by omega), rfl, rfl, rfl, Nat.le_succ _, rfl, rfl, fun _ => ⟨fun _ => T.obj (.inl (by omega)), T.s, (fun h1 h2 => by simp at h1), T.w, (fun h => by simp at h), (fun h => by simp at h), (by simp)⟩⟩
 ·-- 14
  have hs : ak σ t now = (px σ t, { t with at' := 21 }, false) := by simp only [ak, hat]
  rw [hs];exact ⟨(h.lay t).mono (by omega), rfl, jD σ t, SD σ t, Nat.le_succ _, rfl, rfl, fun _ => (by have := jD σ t; exact ⟨fun _ => (by rw [this]; exact T.obj (.inl (by omega))), T.s, (fun h1 h2 => by simp at h1), T.w, (fun h => by simp at h), (fun _ => T.c0 (by omega)), (by simp)⟩)⟩
 ·-- 15
  by_cases hw : σ.μ.V (2, 0, 0) % 2 = 1
  ·have hs : ak σ t now = (eL σ t, { t with q := σ.μ.V (2, 0, 0), at' := 7 }, false) := by simp only [ak, hat]; rw [if_pos hw]
   rw [hs];exact ⟨(h.acc _ _ _).mono (by omega), rfl, rfl, rfl, Nat.le_succ _, rfl, rfl, fun _ => ⟨fun _ => T.obj (.inl (by omega)), T.s, (fun h1 h2 => by simp at h1), T.w, (fun h => by simp at h), (fun h => by simp at h), (by simp)⟩⟩
  ·have hs : ak σ t now = (eL σ t, { t with q := σ.μ.V (2, 0, 0), at' := 16 }, false) := by simp only [ak, hat]; rw [if_neg hw]
   rw [hs];exact ⟨(h.acc _ _ _).mono (by omega), rfl, rfl, rfl, Nat.le_succ _, rfl, rfl, fun _ => ⟨fun _ => T.obj (.inl (by omega)), T.s, (fun h1 h2 => by simp at h1), T.w, (fun h => by simp at h), (fun h => by simp at h), (by simp)⟩⟩
 ·-- 16
  by_cases hw : aZ (σ.μ.V (11, (t.obj : Int), 0)) = 2
  ·have hs : ak σ t now = (dg σ t, { t with w := σ.μ.V (11, (t.obj : Int), 0), at' := 3 }, false) := by simp only [ak, hat]; rw [if_pos hw]
   rw [hs];exact ⟨(h.acc _ _ _).mono (by omega), rfl, rfl, rfl, Nat.le_succ _, rfl, rfl, fun _ => ⟨fun _ => (by rename_i hh; simp at hh), T.s, (fun _ h2 => by simp at h2), h.V _, (fun h => by simp at h), (fun h => by simp at h), (by simp)⟩⟩
  ·have hs : ak σ t now = (dg σ t, { t with w := σ.μ.V (11, (t.obj : Int), 0), at' := 17 }, false) := by simp only [ak, hat]; rw [if_neg hw]
   rw [hs];exact ⟨(h.acc _ _ _).mono (by omega), rfl, rfl, rfl, Nat.le_succ _, rfl, rfl, fun _ => ⟨fun _ => T.obj (.inl (by omega)), T.s, (fun h1 h2 => by simp at h1), h.V _, (fun h => by simp at h), (fun h => by simp at h), (by simp)⟩⟩
 ·-- 17
  cases hf : j9 σ t with
  | true =>
   have hs : ak σ t now = (jA σ t, { t with at' := 18, mark := now }, false) := by simp only [ak, hat, hf]; rfl
   rw [hs];exact ⟨(h.acc _ _ _).mono (by omega), rfl, rfl, rfl, Nat.le_succ _, rfl, rfl, fun _ => ⟨fun _ => T.obj (.inl (by omega)), T.s, (fun h1 h2 => by simp at h1), T.w, (fun h => by simp at h), (fun h => by simp at h), (by simp)⟩⟩
  | false =>
   have hs : ak σ t now = (jA σ t, { t with at' := 7 }, false) := by simp only [ak, hat, hf]; rfl
   rw [hs];exact ⟨(h.acc _ _ _).mono (by omega), rfl, rfl, rfl, Nat.le_succ _, rfl, rfl, fun _ => ⟨fun _ => T.obj (.inl (by omega)), T.s, (fun h1 h2 => by simp at h1), T.w, (fun h => by simp at h), (fun h => by simp at h), (by simp)⟩⟩
 ·-- 18
  by_cases hw : σ.μ.V (2, 0, 0) = t.q
  ·have hs : ak σ t now = ((eL σ t).note t.mark t.who 9, { t with code := 9 }, true) := by simp only [ak, hat]; rw [if_pos hw]
   rw [hs];exact ⟨((h.acc _ _ _).note _ _ _).mono (by omega), rfl, rfl, rfl, (by simp [aN.note]), rfl, rfl, fun h => by simp at h⟩
  ·have hs : ak σ t now = (eL σ t, { t with at' := 7 }, false) := by simp only [ak, hat]; rw [if_neg hw]
   rw [hs];exact ⟨(h.acc _ _ _).mono (by omega), rfl, rfl, rfl, Nat.le_succ _, rfl, rfl, fun _ => ⟨fun _ => T.obj (.inl (by omega)), T.s, (fun h1 h2 => by simp at h1), T.w, (fun h => by simp at h), (fun h => by simp at h), (by simp)⟩⟩
 ·-- 20
  have hs : ak σ t now = (σ.mem (σ.μ.cnt t.who (3, 0, 0) 1), { t with at' := 7 }, false) := by simp only [ak, hat]
  rw [hs];exact ⟨(h.cnt _ _ _ (by simp) (by simp)).mono (by omega), rfl, rfl, rfl, Nat.le_succ _, rfl, rfl, fun _ => ⟨fun _ => T.obj (.inl (by omega)), T.s, (fun h1 h2 => by simp at h1), T.w, (fun h => by simp at h), (fun h => by simp at h), (by simp)⟩⟩
 ·-- 21
  have hs : ak σ t now = (s0 σ t, { t with at' := 22 }, false) := by simp only [ak, hat]
  rw [hs];exact ⟨((h.acc _ _ _).put _ _ (by have := eV t.w; omega) (by simp) (.inl (by simp))).mono (by omega), rfl, rfl, rfl, Nat.le_succ _, rfl, rfl, fun _ => ⟨fun _ => T.obj (.inl (by omega)), T.s, (fun h1 h2 => by simp at h1), T.w, (fun h => by simp at h), (fun _ => T.c0 (by omega)), (by simp)⟩⟩
 ·-- 22
  have hs : ak σ t now = (σ.mem (σ.μ.acc t.who 1 (9, t.s, 0)), { t with top := σ.μ.V (9, t.s, 0), at' := 23 }, false) := by simp only [ak, hat]
  rw [hs];exact ⟨(h.acc _ _ _).mono (by omega), rfl, rfl, rfl, Nat.le_succ _, rfl, rfl, fun _ => ⟨fun _ => T.obj (.inl (by omega)), T.s, (fun h1 h2 => by simp at h1), T.w, (fun h => by simp at h), (fun _ => T.c0 (by omega)), (by simp)⟩⟩
 ·-- 23
  have hs : ak σ t now = ({ σ with μ := σ.μ.acc t.who 6 (14, (t.obj : Int), 0), nx := fun k => if k = (t.obj : Int) then some t.top else σ.nx k }, { t with at' := 24 }, false) := by simp only [ak, hat]
  rw [hs];exact ⟨(h.link _ _ _).mono (by omega), rfl, rfl, rfl, Nat.le_succ _, rfl, rfl, fun _ => ⟨fun _ => T.obj (.inl (by omega)), T.s, (fun h1 h2 => by simp at h1), T.w, (fun h => by simp at h), (fun _ => T.c0 (by omega)), (by simp)⟩⟩
 ·-- 24
  by_cases hw : σ.μ.V (9, t.s, 0) = t.top
  ·have hs : ak σ t now = (σ.mem (σ.μ.swp t.who (9, t.s, 0) t.top (t.obj + 1)), { t with at' := 25 }, false) := by simp only [ak, hat]; rw [if_pos hw]
   rw [hs];exact ⟨(h.swp _ _ _ _ (by have := T.obj (.inl (by omega)); have := h.obs; omega) (by simp) (by simp)).mono (by omega), rfl, rfl, rfl, Nat.le_succ _, rfl, rfl, fun _ => ⟨fun _ => T.obj (.inl (by omega)), T.s, (fun h1 h2 => by simp at h1), T.w, (fun h => by simp at h), (fun _ => T.c0 (by omega)), (by simp)⟩⟩
  ·have hs : ak σ t now = (σ.mem (σ.μ.swp t.who (9, t.s, 0) t.top (t.obj + 1)), { t with at' := 22 }, false) := by simp only [ak, hat]; rw [if_neg hw]
   rw [hs];exact ⟨(h.swp _ _ _ _ (by have := T.obj (.inl (by omega)); have := h.obs; omega) (by simp) (by simp)).mono (by omega), rfl, rfl, rfl, Nat.le_succ _, rfl, rfl, fun _ => ⟨fun _ => T.obj (.inl (by omega)), T.s, (fun h1 h2 => by simp at h1), T.w, (fun h => by simp at h), (fun _ => T.c0 (by omega)), (by simp)⟩⟩
 ·-- 25
  have hs : ak σ t now = (σ.mem (σ.μ.cnt t.who (3, 0, 0) 1), t, true) := by simp only [ak, hat]
  rw [hs];exact ⟨(h.cnt _ _ _ (by simp) (by simp)).mono (by omega), rfl, rfl, rfl, Nat.le_succ _, rfl, rfl, fun h => by simp at h⟩
theorem N5 {α : Type} (F : α → SP) (R : SP) : (ex fun x => F x * R) = ex F * R := by
 apply SP.ext;intro h
 constructor
 ·rintro ⟨x, a, b, hd, rfl, ha, hb⟩
  exact ⟨a, b, hd, rfl, ⟨x, ha⟩, hb⟩
 ·rintro ⟨a, b, hd, rfl, ⟨x, ha⟩, hb⟩
  exact ⟨x, a, b, hd, rfl, ha, hb⟩
def eT (e p : Nat) (rp : List Nat) (t : Tk) : SP := ex fun v : Value => pu (Kq rp t v) * eB e p (fE e (Bz t.at')) v t
def xT (x P : Nat) (t : Tk) : SP := ex fun k : Xk => pu (iM t k) * xB x P t k
theorem QO (e p : Nat) (rp : List Nat) (σ : aN) (t : Tk) : eP e p rp σ t = eT e p rp t * bn p rp σ := by
 unfold eP eT;rw [← N5]
 congr 1
 funext v
 rw [ai]
theorem aiQ (x P : Nat) (σ : aN) (t : Tk) : xP x P σ t = xT x P t * aK P σ := by
 unfold xP xT;rw [← N5]
 congr 1
 funext v
 rw [ai]
def xU (x P : Nat) (r : aN × Tk × Bool) : SP := ex fun k : Xk => pu (if r.2.2 = true then k.code = r.2.1.code else iM r.2.1 k) * xB x P r.2.1 k
theorem aiR (x P : Nat) (r : aN × Tk × Bool) : xQ x P r = xU x P r * aK P r.1 := by
 unfold xQ xU;rw [← N5]
 congr 1
 funext v
 rw [ai]
def eU (e p : Nat) (rp : List Nat) (r : aN × Tk × Bool) : SP := if r.2.2 = true then emp else eT e p rp r.2.1
theorem ahO (e p : Nat) (rp : List Nat) (r : aN × Tk × Bool) : eQ e p rp r = eU e p rp r * bn p rp r.1 := by
 unfold eQ eU
 split
 ·rw [kR]
 ·rw [QO]
theorem aiS {x P : Nat} {r : aN × Tk × Bool} (h : r.2.2 = false) : xU x P r = xT x P r.2.1 := by
 unfold xU xT;simp only [h]
 rfl
theorem ak5 {e p : Nat} {rp : List Nat} {r : aN × Tk × Bool} (h : r.2.2 = false) : eU e p rp r = eT e p rp r.2.1 := by
 unfold eU;rw [if_neg (by rw [h]; simp)]
section
variable (p x : Nat) (rp : List Nat) (σ : aN)
theorem Ly (hc : bZ σ.c = true) (who : Int) (c : Cl) : Sp tL [vp p, vi who, .agg (Cl.cells c).toArray] (bn p rp σ) (fun e : Nat => vp e) (fun e => eT e p rp (Tk.new σ.c who c) * bn p rp σ) := by
 have hr := bo.1 hc;refine br (N2 _ _ _) fun R H h => ?_;refine aS h fun b H1 h1 => ?_;refine aJ h1 ?_;obtain ⟨g, hrp, hg, k1⟩ := dZ (p := p) (rp := rp) (σ := σ) (R := blk b (.cells false (Cl.cells c)) * R) (H := H1) h1.to;refine aj k1 ac rfl ?_;refine aj k1 aA rfl ?_;refine ag k1 (CD (p := p) (g := g) (σ := σ) (s7 g.tb g.m σ.c.sh.toNat σ.c.sl.toNat (by omega) c.flow)) fun _ H2 k2 => ?_;refine dA k2 k1 rfl ?_
 have es : vi ((c.flow.tmod (σ.c.sh.toNat : Int) + (σ.c.sh.toNat : Int)).tmod (σ.c.sh.toNat : Int)) = vi (Tk.new σ.c who c).s := by rw [show ((σ.c.sh.toNat : Nat) : Int) = σ.c.sh from by omega]
 rw [es];have h2 := bG (p := p) (rp := rp) (σ := σ) (R := blk b (.cells false (Cl.cells c)) * R) (H := H2) g hrp hg k2.to;refine iz ?_;refine aS h2 fun e H3 h3 => ?_;refine bi h3 ac rfl rfl fun H4 h4 => ?_;refine aq ⟨e, rfl, ?_⟩;rw [← QO];exact Lw (v := .pointer none) (n := m6) (i7 (by simp)) rfl h4.to
theorem AL (who : Int) (c : Cl) (s : Int) : Sp iS [vp x, vi who, .agg (Cl.cells c).toArray] emp (fun b : Nat => vp b) (fun b => xT b x (Tk.new σ.c who c)) := by
 refine br (sN _ _ _) fun R H h => ?_;refine aS h fun b H1 h1 => ?_;refine aJ h1 ?_;refine iz ?_;refine aS h1 fun xb H2 h2 => ?_;refine aq ⟨xb, rfl, ?_⟩;refine ae.ex.2 ⟨⟨0, 0, -1, false, 0, 0, 0, 0, 0, 0, 0⟩, ?_⟩;rw [ai, ae.pu];exact ⟨by simp [iM], h2.to⟩
theorem EK (who place : Int) (hN : σ.μ.N < 1000000) : Sp ij [.agg [vp p, vp x].toArray, vi who, vi place] (bn p rp σ * aK x σ) (fun _ : Unit => .tuple #[]) (fun _ => bn p rp (σ.begin who place) * aK x (σ.begin who place)) := by
 refine br (xo _ _ _) fun R H h => ?_;refine aS (l := [vp p, vp x]) h fun b H1 h1 => ?_;refine aj h1 aA rfl ?_;refine ag h1 (aiZ p rp σ who place) fun _ H2 h2 => ?_;refine aj h2 aA rfl ?_;refine ag h2 (akE x σ who place (by omega)) fun _ H3 h3 => ?_;exact aq ⟨(), rfl, h3.to⟩
theorem acT (xb : Nat) (r : aN × Tk × Bool) : Sp kC [vp xb, vb r.2.2] (xU xb x r) (fun _ : Unit => .agg (ef (if r.2.2 = true then r.2.1.code else 0)).toArray) (fun _ => xU xb x r) := by
 refine aP fun R H h => ?_;obtain ⟨k, h1⟩ := ae.ex.1 h;rw [ai, ae.pu] at h1;obtain ⟨hk, h1⟩ := h1;refine bg (fun r => AC _ _ H) ?_;refine bf h1 fun b H2 h2 => ?_;have back : ∀ {H' : AH}, ae (xB xb x r.2.1 k * R) H' → ae (xU xb x r * R) H' := fun h => ae.ex.2 ⟨k, by rw [ai]; exact ae.pu.2 ⟨hk, h⟩⟩;cases hd : r.2.2
 ·refine gs ?_
  refine iz ?_;refine cX h2 rfl rfl fun H3 h3 => ?_;refine aJ h3 ?_;exact aq ⟨(), rfl, back h3.to⟩
 ·refine gs ?_
  rw [hd, if_pos rfl] at hk;refine Tv h2 ac ?_;rw [hk];refine cX h2 rfl rfl fun H3 h3 => ?_;refine aJ h3 ?_;exact aq ⟨(), rfl, back h3.to⟩
end
theorem ajP (d : Bool) : ap .bool .neq (vb d) (vb d) = some (vb false) := by cases d <;> rfl
theorem akA {p x pb : Nat} {rp : List Nat} {σ : aN} {P R : SP} {H : AH} {Q : Value → AH → Prop} {k : Value × AH → Value → OV} (h : ae P H) [f : Fr P (blk pb (.cells false [vp p, vp x]) * (bn p rp σ * aK x σ)) R]
 (hk : ∀ H', ae (blk pb (.cells false [vp p, vp x]) * (bn p rp σ * aK x σ) * R) H' → wp (k (vi σ.μ.E.length, H') (vb false)) Q) :
 wp (fF (vb false) false [.f 0] (vp pb) H fun v29 =>
  fF (vb false) false [.n, .f 0] v29 H fun v30 =>
  (gE (vb false) false H (FF fA [v30] H)).bind fun r31 =>
  xe (vb false) false [.f 1] (vp pb) fun v32 =>
  (gB (vb false) false (ar v32 r31.2)).bind fun v33 =>
  bO (ar v32 H) (ar v32 r31.2) <|
  xe (vb false) false [.n, .f 5] v33 fun v34 =>
  (gB (vb false) false (ar v34 r31.2)).bind fun v35 =>
  bO (ar v34 H) (ar v34 r31.2) <|
  xe (vb false) false [.n, .f 2] v35 fun v36 =>
  (gB (vb false) false (ar v36 r31.2)).bind fun v37 =>
  bO (ar v36 H) (ar v36 r31.2) <|
  (EI (yv (vb false)) false (iQ v37 some) (some undef)).bind fun v38 =>
  bO (Md v37) (Md v37) <|
  (gB (vb false) false (ap .other .neq r31.1 v38)).bind fun v39 =>
  (aV (vb false) (vb true) v39).bind (k r31)) Q := by
 have h0 := ae.fr (A := blk pb (.cells false [vp p, vp x]) * (bn p rp σ * aK x σ)) h;obtain ⟨g, hrp, hg, k1⟩ := dZ (p := p) (rp := rp) (σ := σ) (R := aK x σ * (blk pb (.cells false [vp p, vp x]) * R)) (H := H) h0.to;obtain ⟨gx, hgx, l1⟩ := fq (p := x) (σ := σ) (R := aE p g σ * (blk pb (.cells false [vp p, vp x]) * R)) (H := H) k1.to;obtain ⟨kv, vv, ev, Z, m1, back⟩ := Ht (x := x) (g := gx) (σ := σ) (R := aE p g σ * (blk pb (.cells false [vp p, vp x]) * R)) (H := H) l1.to;refine gs ?_;refine aj m1 aA rfl ?_;refine gs ?_;refine aj m1 ac rfl ?_;have bl : Sp fA [vp g.m] (aE p g σ) (fun _ : Unit => vi σ.μ.E.length) (fun _ => aE p g σ) := KO (p := p) (g := g) (σ := σ) (SG g.m σ.μ);refine CB ?_;refine ag m1 bl fun _ H2 m2 => ?_
 have gadff : ∀ {o : List Stp} {y : Value} {kk : Value → OV}, wp (ad o y kk) Q → wp (xe (vb false) false o y kk) Q := fun {o y kk} q => by rw [JD]; exact q
 refine gadff ?_;refine bz aA ?_;refine qu ?_;refine aR m2 rfl ?_;refine aH m1 m2 (by rfl) ?_;refine gadff ?_;refine bz ac ?_;refine qu ?_;refine aR m2 rfl ?_;refine aH m1 m2 (by rfl) ?_;refine gadff ?_;refine bz ac ?_;refine qu ?_;refine aR m2 rfl ?_;refine aH m1 m2 (by rfl) ?_;refine FN ?_;refine yV (s := ev) (l := σ.μ.E) m2 ?_;refine Ai ?_;refine qu ?_;refine aa (AJ rfl) ?_;refine aa (JZ _ _) ?_;refine hk H2 ?_;have m3 := back (R' := aE p g σ * (blk pb (.cells false [vp p, vp x]) * R)) (H' := H2) m2.to;have m4 := dd (p := x) (σ := σ) (R := aE p g σ * (blk pb (.cells false [vp p, vp x]) * R)) gx hgx m3;have m5 := bG (p := p) (rp := rp) (σ := σ) (R := aK x σ * (blk pb (.cells false [vp p, vp x]) * R)) (H := H2) g hrp hg m4.to;exact m5.to
def F7 (f : Value → Value → Bool) : List Value → List Value → Bool
 | [], [] => true
 | x :: xs, y :: ys => f x y && F7 f xs ys
 | _, _ => false
def eqV : Nat → Value → Value → Bool
 | _, .bool a, .bool b => a == b
 | _, .int k a, .int k' b => decide (k = k') && decide (a = b)
 | _, .string a, .string b => decide (a = b)
 | _, .pointer a, .pointer b => decide (a = b)
 | _, .slice a n e, .slice a' n' e' => decide (a = a') && decide (n = n') && decide (e = e')
 | _, .map a, .map b => decide (a = b)
 | _, .nilFunc, .nilFunc => true
 | _, .nilIface, .nilIface => true
 | n + 1, .agg xs, .agg ys => F7 (eqV n) xs.toList ys.toList
 | n + 1, .tuple xs, .tuple ys => F7 (eqV n) xs.toList ys.toList
 | n + 1, .func f xs zs, .func f' ys ws => decide (f = f') && F7 (eqV n) xs.toList ys.toList && F7 (eqV n) zs.toList ws.toList
 | _, _, _ => false
theorem Dq {f : Value → Value → Bool} (hf : ∀ x y, f x y = true → x = y) : ∀ xs ys, F7 f xs ys = true → xs = ys := by
 intro xs
 induction xs with
 | nil => intro ys h; cases ys with | nil => rfl | cons y ys => simp [F7] at h
 | cons x xs ih =>
  intro ys h
  cases ys with
  | nil => simp [F7] at h
  | cons y ys =>
   simp only [F7, Bool.and_eq_true] at h;rw [hf _ _ h.1, ih _ h.2]
theorem GT : ∀ (n : Nat) (x y : Value), eqV n x y = true → x = y := by
 intro n
 induction n with
 | zero =>
  intro x y h
  cases x <;> cases y <;> simp_all [eqV]
 | succ n ih =>
  have hl := Dq ih;intro x y h
  cases x <;> cases y <;> simp_all [eqV]
  ·exact ⟨Array.toList_inj.1 (hl _ _ h.1.2), Array.toList_inj.1 (hl _ _ h.2)⟩
  ·exact Array.toList_inj.1 (hl _ _ h)
  ·exact Array.toList_inj.1 (hl _ _ h)
def eqO : Option Value → Option Value → Bool
 | none, none => true
 | some x, some y => eqV 4 x y
 | _, _ => false
theorem Ug {x y : Option Value} (h : eqO x y = true) : x = y := by
 cases x <;> cases y <;> simp_all [eqO]
 exact GT _ _ _ h
section
variable (g d : Nat)
def B6 (b : Nat) : Nat := if b < g then b else b + d
def AQ (a : Addr) : Addr := { a with block := B6 g d a.block }
def bU : Value → Value
 | .pointer a => .pointer (a.map (AQ g d))
 | .slice a n e => .slice (a.map (AQ g d)) n e
 | .map r => .map (r.map (B6 g d))
 | .func fn f c => .func fn (f.map bU) (c.map bU)
 | .iface t v => .iface t (bU v)
 | .agg cs => .agg (cs.map bU)
 | .tuple cs => .tuple (cs.map bU)
 | v => v
end
abbrev iB (g d : Nat) (l : List Value) : List Value := l.map (bU g d)
section
variable {g d : Nat}
theorem Tg {a b : Nat} (h : B6 g d a = B6 g d b) : a = b := by unfold B6 at h; split at h <;> split at h <;> omega
@[simp] theorem Th (b : Bool) : (bU g d) (.bool b) = .bool b := by rw [bU] <;> simp
@[simp] theorem Ac (k : IntKind) (n : Int) : (bU g d) (.int k n) = .int k n := by rw [bU] <;> simp
@[simp] theorem alO (k : FloatKind) (n : Nat) : (bU g d) (.float k n) = .float k n := by rw [bU] <;> simp
@[simp] theorem aj2 (k : FloatKind) (n m : Nat) : (bU g d) (.complex k n m) = .complex k n m := by rw [bU] <;> simp
@[simp] theorem HS (b : ByteArray) : (bU g d) (.string b) = .string b := by rw [bU] <;> simp
@[simp] theorem al3 (r : Option Nat) : (bU g d) (.chan r) = .chan r := by rw [bU] <;> simp
@[simp] theorem aj3 : (bU g d) .nilFunc = .nilFunc := by rw [bU] <;> simp
@[simp] theorem aiK : (bU g d) .nilIface = .nilIface := by rw [bU] <;> simp
@[simp] theorem P4 (a : Option Addr) : (bU g d) (.pointer a) = .pointer (a.map (AQ g d)) := by rw [bU]
@[simp] theorem hF (a : Option Addr) (n e : Nat) : (bU g d) (.slice a n e) = .slice (a.map (AQ g d)) n e := by rw [bU]
@[simp] theorem Kt (r : Option Nat) : (bU g d) (.map r) = .map (r.map (B6 g d)) := by rw [bU]
@[simp] theorem alP (t : TypeId) (v : Value) : (bU g d) (.iface t v) = .iface t ((bU g d) v) := by rw [bU]
@[simp] theorem al4 (fn : Fn) (f c : Array Value) : (bU g d) (.func fn f c) = .func fn (f.map (bU g d)) (c.map (bU g d)) := by rw [bU]
@[simp] theorem PX (cs : Array Value) : (bU g d) (.agg cs) = .agg (cs.map (bU g d)) := by rw [bU]
@[simp] theorem acE (cs : Array Value) : (bU g d) (.tuple cs) = .tuple (cs.map (bU g d)) := by rw [bU]
@[simp] theorem sZ : (bU g d) undef = undef := by simp [undef]
theorem ab8 {v : Value} (h : du v = true) : (bU g d) v = v := by
 unfold du at h
 split at h <;> first | (simp; done) | cases h
theorem yK {l : List Value} (h : l.all du = true) : iB g d l = l := by
 induction l with
 | nil => rfl
 | cons x l ih => simp only [List.all_cons, Bool.and_eq_true] at h; simp only [iB, List.map_cons, ab8 h.1]; rw [show List.map (bU g d) l = l from ih h.2]
theorem MU {v : Value} (h : y6 v = true) : (bU g d) v = v := by
 unfold y6 at h
 split at h
 ·rename_i cs
  rw [PX]; congr 1; exact Array.toList_inj.1 (by rw [Array.toList_map]; exact yK h)
 ·rename_i cs
  rw [acE]; congr 1; exact Array.toList_inj.1 (by rw [Array.toList_map]; exact yK h)
 ·exact ab8 h
theorem Fm (v : Value) : ((bU g d) v).cells = v.cells.map (bU g d) := by
 cases v <;> simp [Value.cells]
theorem WD (v : Value) : ((bU g d) v).cells.toList = iB g d v.cells.toList := by rw [Fm, Array.toList_map]
theorem aj4 (v : Value) : Value.oneCell' ((bU g d) v) = Value.oneCell' v := by
 cases v <;> simp [Value.oneCell']
theorem Ti (l : List Value) : (iB g d l).all Value.oneCell' = l.all Value.oneCell' := by
 simp only [iB, List.all_map]; congr 1; funext v; exact aj4 v
theorem Ku (v : Value) : vB ((bU g d) v) = (vB v).map fun a => (B6 g d a.1, a.2) := by
 cases v with
 | pointer a =>
  cases a with
  | none => simp [vB]
  | some a =>
   obtain ⟨b, o, sp⟩ := a
   cases sp <;> simp [vB, AQ]
 | _ => simp [vB]
theorem acD (c a b : Value) : aV ((bU g d) c) ((bU g d) a) ((bU g d) b) = (aV c a b).map (bU g d) := by
 cases c with
 | bool t => cases t <;> simp [aV]
 | _ => simp [aV]
theorem agV (v : Value) : vC ((bU g d) v) = (vC v).map (bU g d) := by
 cases v with
 | pointer a => cases a <;> simp [vC]
 | func fn f c => cases fn <;> simp [vC]
 | _ => simp [vC]
theorem agQ (off : Nat) (v : Value) : Gk off ((bU g d) v) = (Gk off v).map (bU g d) := by
 unfold Gk;rw [Ku]
 cases vB v <;> simp [AQ]
theorem acC (n : Option Nat) (off : Nat) (v : Value) : lA n off ((bU g d) v) = (lA n off v).map (bU g d) := by
 cases v with
 | agg cs => cases n <;> simp [lA]
 | _ => simp [lA]
theorem agR (e : Nat) (v i : Value) : pF e ((bU g d) v) ((bU g d) i) = (pF e v i).map (bU g d) := by
 cases v with
 | slice a n k =>
  cases a with
  | none => simp [pF]
  | some a =>
   obtain ⟨b, o, sp⟩ := a
   cases sp with
   | none =>
    cases i with
    | int k i => simp only [hF, Ac, fH, AQ, pF]; split <;> simp [AQ]
    | _ => simp [pF, AQ]
   | some sp => simp [pF, AQ]
 | _ => simp [pF]
theorem acB (len e : Nat) (v i : Value) : ka len e ((bU g d) v) ((bU g d) i) = (ka len e v i).map (bU g d) := by
 cases v with
 | pointer a =>
  cases a with
  | none => simp [ka]
  | some a =>
   obtain ⟨b, o, sp⟩ := a
   cases sp with
   | none =>
    cases i with
    | int k i => simp only [P4, Ac, fH, AQ, ka]; split <;> simp [AQ]
    | _ => simp [ka, AQ]
   | some sp => simp [ka, AQ]
 | _ => simp [ka]
theorem P1 (len : Nat) (n : Option Nat) (e : Nat) (v i : Value) : jS len n e ((bU g d) v) ((bU g d) i) = (jS len n e v i).map (bU g d) := by
 cases v with
 | agg cs =>
  cases i with
  | int k i =>
   simp only [PX, Ac, jS]
   split
   ·cases n <;> simp
   ·rfl
  | _ => simp [jS]
 | _ => simp [jS]
theorem PZ (v i : Value) : jR ((bU g d) v) ((bU g d) i) = (jR v i).map (bU g d) := by
 cases v with
 | string b =>
  cases i with
  | int k i =>
   simp only [HS, Ac, jR]
   split
   ·rw [Option.map_map]; congr 1; funext x; simp
   ·rfl
  | _ => simp [jR]
 | _ => simp [jR]
theorem agS (v : Value) : rk ((bU g d) v) = (rk v).map (bU g d) := by cases v <;> simp [rk]
theorem agT (l : List Value) : iv (iB g d l) = (iv l).map (bU g d) := by
 match l with
 | [] => rfl
 | [x] => simp [iB, iv]
 | [x, y] => cases x <;> cases y <;> simp [iB, iv]
 | x :: y :: z :: l => simp [iB, iv]
theorem agU (l : List Value) : jT (iB g d l) = (jT l).map (bU g d) := by
 match l with
 | [] => rfl
 | [x] => simp [iB, jT]
 | [x, y] => cases x <;> cases y <;> simp [iB, jT]
 | x :: y :: z :: l => simp [iB, jT]
theorem Fo : ∀ xs ys : List Value, bM (iB g d xs) (iB g d ys) = bM xs ys := by
 intro xs
 induction xs with
 | nil => intro ys; cases ys <;> simp [iB, bM]
 | cons x xs ih =>
  intro ys
  cases ys with
  | nil => cases x <;> simp [iB, bM]
  | cons y ys =>
   have := ih ys;simp only [iB] at this
   cases x <;> cases y <;> simp [iB, bM, this]
theorem aj5 (cl : TCls) (x y : Value) : qk cl ((bU g d) x) ((bU g d) y) = qk cl x y := by
 cases cl with
 | flat n =>
  cases x with
  | agg a =>
   cases y with
   | agg b =>
    simp only [PX, qk, Array.size_map, Array.toList_map];rw [show bM (List.map (bU g d) a.toList) (List.map (bU g d) b.toList) = bM a.toList b.toList from Fo _ _]
   | _ => simp [qk]
  | _ => cases y <;> simp [qk]
 | bool => cases x <;> cases y <;> simp [qk]
 | ptr => cases x <;> cases y <;> simp [qk] <;> (rename_i a b; cases a <;> cases b <;> simp [qk])
 | slice => cases x <;> cases y <;> simp [qk] <;> (rename_i a _ _ b _ _; cases a <;> cases b <;> simp [qk])
 | map => cases x <;> cases y <;> simp [qk] <;> (rename_i a b; cases a <;> cases b <;> simp [qk])
 | func => cases x <;> cases y <;> simp [qk]
 | other => cases x <;> cases y <;> simp [qk]
theorem agF {op : BinOp} {k : IntKind} {a b : Int} : (nI op k a b).map (bU g d) = nI op k a b := by
 cases op <;> simp [nI] <;> (split <;> simp)
theorem V9 {op : BinOp} {k : IntKind} {a b : Int} : (nj op k a b).map (bU g d) = nj op k a b := by
 unfold nj
 split
 ·rfl
 ·cases op <;> simp
theorem agH {op : BinOp} {a b : ByteArray} : (aa7 op a b).map (bU g d) = aa7 op a b := by
 cases op <;> simp [aa7]
theorem acA (cl : TCls) (op : BinOp) (x y : Value) : Hr cl op ((bU g d) x) ((bU g d) y) = (Hr cl op x y).map (bU g d) := by
 cases op <;> simp only [Hr, aj5, Option.map_map, Option.map_none] <;> (congr 1; funext b; simp)
theorem agP (cl : TCls) (op : BinOp) (x y : Value) : ap cl op ((bU g d) x) ((bU g d) y) = (ap cl op x y).map (bU g d) := by
 have key := acA (g := g) (d := d) cl op x y
 cases x with
 | int k a =>
  cases y with
  | int k' b => cases op <;> simp only [Ac, ap, V9] <;> (split <;> simp [agF])
  | _ => simpa [ap] using key
 | string a =>
  cases y with
  | string b => simp [ap, agH]
  | _ => simpa [ap] using key
 | _ => simpa [ap] using key
theorem aj6 (op : UnOp) (x : Value) : nk op ((bU g d) x) = (nk op x).map (bU g d) := by cases op <;> cases x <;> simp [nk]
theorem ab9 (k : Option IntKind) (x : Value) : cN k ((bU g d) x) = (cN k x).map (bU g d) := by cases k <;> cases x <;> simp [cN]
theorem MV (v : Value) (i : Nat) : af ((bU g d) v) i = (af v i).map (bU g d) := by cases v <;> simp [af]
theorem Fs (v : Value) : n8 ((bU g d) v) = n8 v := by cases v <;> simp [n8]
end
inductive Tr (α : Type) where
 | lf
 | nd (v : Option α) (l r : Tr α)
section
variable {α : Type}
def Tr.get : Tr α → Nat → Option α
 | .lf, _ => none
 | .nd v l r, i => match i with
  | 0 => v
  | i + 1 => match Nat.beq (i % 2) 0 with
   | true => l.get (i / 2)
   | false => r.get (i / 2)
def Tr.set (x : α) : Nat → Tr α → Nat → Option (Tr α)
 | 0, _, _ => none
 | k + 1, t, i => match i with
  | 0 => match t with
   | .lf => some (.nd (some x) .lf .lf)
   | .nd _ l r => some (.nd (some x) l r)
  | i + 1 => match Nat.beq (i % 2) 0 with
   | true => match t with
    | .lf => (Tr.set x k .lf (i / 2)).map fun l' => .nd none l' .lf
    | .nd v l r => (Tr.set x k l (i / 2)).map fun l' => .nd v l' r
   | false => match t with
    | .lf => (Tr.set x k .lf (i / 2)).map fun r' => .nd none .lf r'
    | .nd v l r => (Tr.set x k r (i / 2)).map fun r' => .nd v l r'
theorem Tr.get_set {x : α} : ∀ (k : Nat) {t t' : Tr α} {i : Nat}, Tr.set x k t i = some t' → ∀ j, t'.get j = if j = i then some x else t.get j := by
 intro k
 induction k with
 | zero => intro t t' i h; cases h
 | succ k ih =>
  intro t t' i h j
  cases i with
  | zero =>
   cases t with
   | lf => simp only [Tr.set] at h; cases h; cases j with
    | zero => rfl
    | succ j => simp only [Tr.get]; split <;> simp [Tr.get]
   | nd v l r => simp only [Tr.set] at h; cases h; cases j with
    | zero => rfl
    | succ j => simp [Tr.get]
  | succ i =>
   simp only [Tr.set] at h
   have beq : ∀ a : Nat, Nat.beq a 0 = (a == 0) := fun a => by cases a <;> simp [Nat.beq]
   have lf : ∀ j, (Tr.lf : Tr α).get j = none := fun j => by cases j <;> rfl
   cases hb : Nat.beq (i % 2) 0 with
   | true =>
    have hi : i % 2 = 0 := by rw [beq] at hb; simpa using hb
    rw [hb] at h;simp only at h
    have key : ∃ v l r l', Tr.set x k l (i / 2) = some l' ∧ t' = .nd v l' r ∧ ∀ j, t.get j = (Tr.nd v l r).get j := by
     cases t with
     | lf => obtain ⟨l', h1, e⟩ := bm.1 h; exact ⟨none, .lf, .lf, l', h1, e.symm, fun j => by rw [lf]; cases j with | zero => rfl | succ j => simp only [Tr.get]; split <;> rfl⟩
     | nd v l r => obtain ⟨l', h1, e⟩ := bm.1 h; exact ⟨v, l, r, l', h1, e.symm, fun j => rfl⟩
    obtain ⟨v, l, r, l', h1, rfl, hg⟩ := key;rw [hg]
    cases j with
    | zero => rfl
    | succ j =>
     simp only [Tr.get]
     cases hj : Nat.beq (j % 2) 0 with
     | true =>
      have hj' : j % 2 = 0 := by rw [beq] at hj; simpa using hj
      simp only;rw [ih h1]
      by_cases e : j / 2 = i / 2
      ·rw [if_pos e, if_pos (by omega)]
      ·rw [if_neg e, if_neg (by omega)]
     | false =>
      have hj' : j % 2 ≠ 0 := by rw [beq] at hj; simpa using hj
      simp only;rw [if_neg (by omega)]
   | false =>
    have hi : i % 2 ≠ 0 := by rw [beq] at hb; simpa using hb
    rw [hb] at h;simp only at h
    have key : ∃ v l r r', Tr.set x k r (i / 2) = some r' ∧ t' = .nd v l r' ∧ ∀ j, t.get j = (Tr.nd v l r).get j := by
     cases t with
     | lf => obtain ⟨l', h1, e⟩ := bm.1 h; exact ⟨none, .lf, .lf, l', h1, e.symm, fun j => by rw [lf]; cases j with | zero => rfl | succ j => simp only [Tr.get]; split <;> rfl⟩
     | nd v l r => obtain ⟨l', h1, e⟩ := bm.1 h; exact ⟨v, l, r, l', h1, e.symm, fun j => rfl⟩
    obtain ⟨v, l, r, l', h1, rfl, hg⟩ := key;rw [hg]
    cases j with
    | zero => rfl
    | succ j =>
     simp only [Tr.get]
     cases hj : Nat.beq (j % 2) 0 with
     | false =>
      have hj' : j % 2 ≠ 0 := by rw [beq] at hj; simpa using hj
      simp only;rw [ih h1]
      by_cases e : j / 2 = i / 2
      ·rw [if_pos e, if_pos (by omega)]
      ·rw [if_neg e, if_neg (by omega)]
     | true =>
      have hj' : j % 2 = 0 := by rw [beq] at hj; simpa using hj
      simp only;rw [if_neg (by omega)]
end
structure EH where
 n : Nat
 t : Tr AObj
def EH.get (E : EH) (b : Nat) : Option AObj := E.t.get b
def EH.set (E : EH) (b : Nat) (o : AObj) : Option EH := (Tr.set o 24 E.t b).map fun t => ⟨E.n, t⟩
def EH.push (E : EH) (o : AObj) : Option EH := (Tr.set o 24 E.t E.n).map fun t => ⟨E.n + 1, t⟩
section
variable (g d : Nat)
def MT (e : MapEntry) : MapEntry := { e with key := bU g d e.key, val := bU g d e.val }
def Np : AObj → AObj
 | .cells ro cs => .cells ro (iB g d cs)
 | .map es c => .map (es.map (MT g d)) c
 | .dead => .dead
structure HR (F : List AObj) (E : EH) (H : AH) : Prop where
 len : F.length = d
 le : g ≤ E.n
 size : H.size = E.n + d
 get : ∀ b, H.get (B6 g d b) = (E.get b).map (Np g d)
 out : ∀ b, E.n ≤ b → E.get b = none
 fr : ∀ b, g ≤ b → b < g + d → H.get b = F[b - g]?
end
section
variable {g d : Nat} {F : List AObj} {E E' : EH} {H : AH}
theorem HR.lt (h : HR g d F E H) {b : Nat} {o : AObj} (hb : E.get b = some o) : b < E.n := by
 rcases Nat.lt_or_ge b E.n with h1 | h1
 ·exact h1
 ·rw [h.out b h1] at hb; cases hb
theorem HR.new (h : HR g d F E H) : H.size = B6 g d E.n := by
 unfold B6; rw [if_neg (by have := h.le; omega)]; exact h.size
theorem HR.shlt (h : HR g d F E H) {b : Nat} (hb : b < E.n) : B6 g d b < H.size := by
 rw [h.size]; unfold B6; split <;> omega
theorem HR.set (h : HR g d F E H) {b : Nat} {o : AObj} (hb : b < E.n) (hs : E.set b o = some E') : HR g d F E' (H.set (B6 g d b) (Np g d o)) := by
 obtain ⟨t, ht, rfl⟩ := bm.1 hs;have hg := Tr.get_set 24 ht;refine ⟨h.len, h.le, by rw [AH.size_set]; exact h.size, fun j => ?_, fun j hj => ?_, fun j h1 h2 => ?_⟩
 ·show _ = (t.get j).map _
  rw [hg j, AH.get_set]
  by_cases e : j = b
  ·subst e; rw [if_pos rfl, if_pos rfl, if_pos (h.shlt hb)]; rfl
  ·rw [if_neg (fun x => e (Tg x)), if_neg e]; exact h.get j
 ·show t.get j = none
  rw [hg j, if_neg (by have : E.n ≤ j := hj; omega)]; exact h.out j hj
 ·rw [AH.get_set_ne (by unfold B6; split <;> omega)]; exact h.fr j h1 h2
theorem HR.push (h : HR g d F E H) {o : AObj} (hs : E.push o = some E') : HR g d F E' (H.push (Np g d o)) := by
 obtain ⟨t, ht, rfl⟩ := bm.1 hs;have hg := Tr.get_set 24 ht;have hle := h.le;have hsz := h.size;refine ⟨h.len, by show g ≤ E.n + 1; omega, by rw [AH.size_push, hsz]; show _ = E.n + 1 + d; omega, fun j => ?_, fun j hj => ?_, fun j h1 h2 => ?_⟩
 ·show _ = (t.get j).map _
  rw [hg j, AH.get_push, h.new]
  by_cases e : j = E.n
  ·subst e; rw [if_pos rfl, if_pos rfl]; rfl
  ·rw [if_neg (fun x => e (Tg x)), if_neg e]; exact h.get j
 ·show t.get j = none
  have : E.n + 1 ≤ j := hj;rw [hg j, if_neg (by omega)]; exact h.out j (by omega)
 ·rw [AH.get_push_old (by omega)]; exact h.fr j h1 h2
end
section
variable {g d : Nat}
theorem HQ (cs : List Value) (o : Nat) (xs : List Value) : splice (iB g d cs) o (iB g d xs) = iB g d (splice cs o xs) := by
 simp [splice, iB, List.map_take, List.map_drop]
theorem Fq (places : Nat → Option (Nat × Nat)) : ∀ (parts : List (Nat × Value)) (zero : List Value), dt places (iB g d zero) (parts.map fun p => (p.1, (bU g d) p.2)) = (dt places zero parts).map (iB g d) := by
 intro parts
 induction parts with
 | nil => intro zero; rfl
 | cons p parts ih =>
  intro zero;obtain ⟨i, v⟩ := p;simp only [List.map_cons, dt]
  cases places i with
  | none => rfl
  | some q =>
   simp only [bL];rw [Fm, Array.size_map, Array.toList_map, show (iB g d zero).length = zero.length from pw _]
   split
   ·rw [show List.map (bU g d) v.cells.toList = iB g d v.cells.toList from rfl, HQ]; exact ih _
   ·rfl
theorem WE (e : Nat) (x : Value) (lo hi : Option Value) : dT e ((bU g d) x) (lo.map (bU g d)) (hi.map (bU g d)) = (dT e x lo hi).map (bU g d) := by
 cases x with
 | slice a n e' =>
  have key : ∀ L R : Option Int, (L.bind fun l => R.bind fun h =>
   if 0 ≤ l ∧ l ≤ h ∧ h ≤ n then
    match a.map (AQ g d) with
    | none => if n = 0 ∧ e' = 0 then some (.slice none 0 0) else none
    | some ⟨b, o, none⟩ => if e' = e ∧ 0 < e then some (.slice (some ⟨b, o + l.toNat * e, none⟩) (h.toNat - l.toNat) e) else none
    | _ => none
   else none : Option Value) = (L.bind fun l => R.bind fun h =>
   if 0 ≤ l ∧ l ≤ h ∧ h ≤ n then
    match a with
    | none => if n = 0 ∧ e' = 0 then some (.slice none 0 0) else none
    | some ⟨b, o, none⟩ => if e' = e ∧ 0 < e then some (.slice (some ⟨b, o + l.toNat * e, none⟩) (h.toNat - l.toNat) e) else none
    | _ => none
   else none : Option Value).map (bU g d) := by
   intro L R
   cases L with
   | none => rfl
   | some l =>
    cases R with
    | none => rfl
    | some r =>
     simp only [bL]
     split
     ·cases a with
      | none => simp only [Option.map_none]; split <;> simp
      | some a =>
       obtain ⟨b, o, sp⟩ := a
       cases sp with
       | none => simp only [fH, AQ]; split <;> simp [AQ]
       | some sp => simp [AQ]
     ·rfl
  cases lo with
  | none =>
   cases hi with
   | none => simp only [hF, dT, Option.map_none]; exact key (some 0) (some n)
   | some h => simp only [hF, dT, fH, Fs]; exact key (some 0) (n8 h)
  | some l =>
   cases hi with
   | none => simp only [hF, dT, fH, Fs]; exact key (n8 l) (some n)
   | some h => simp only [hF, dT, fH, Fs]; exact key (n8 l) (n8 h)
 | _ => simp [dT]
theorem P3 {x hi mx v : Value} (h : jU x hi mx = some v) : jU ((bU g d) x) ((bU g d) hi) ((bU g d) mx) = some ((bU g d) v) := by
 unfold jU at h
 split at h
 ·cases h; simp [jU]
 ·cases h; simp [jU, AQ]
 ·cases h
theorem ab6 (v : Value) : sc ((bU g d) v) = sc v := by cases v <;> simp [sc]
theorem Fp (cl : KCls) (k : Value) : jo cl ((bU g d) k) = jo cl k := by
 cases cl <;> cases k <;> simp [jo]
 rename_i n cs
 congr 2
 funext v; exact ab6 v
theorem ab7 (cl : KCls) (a b : Value) : lr cl ((bU g d) a) ((bU g d) b) = lr cl a b := by
 cases cl with
 | flat n =>
  cases a <;> cases b <;> simp [lr]
  rename_i x y
  rw [show bM (List.map (bU g d) x.toList) (List.map (bU g d) y.toList) = bM x.toList y.toList from Fo _ _]
 | int => cases a <;> cases b <;> simp [lr]
 | string => cases a <;> cases b <;> simp [lr]
theorem we (cl : KCls) (k : Value) : ∀ (es : List MapEntry) (i : Nat), bw cl ((bU g d) k) (es.map (MT g d)) i = (bw cl k es i).map fun r => r.map fun p => (p.1, (bU g d) p.2) := by
 intro es
 induction es with
 | nil => intro i; rfl
 | cons e es ih =>
  intro i;simp only [List.map_cons, bw, MT, ab7]
  cases lr cl k e.key with
  | none => rfl
  | some b =>
   simp only [bL]
   cases b with
   | true => simp
   | false => simp only [Bool.false_eq_true, if_false]; exact ih _
theorem PY (v : Value) (args : List Value) : di ((bU g d) v) (iB g d args) = (di v args).map fun r => (r.1, iB g d r.2) := by
 cases v with
 | func fn f c => cases fn <;> simp [di, iB]
 | _ => simp [di]
end
def rC (E : EH) (b : Nat) : Option (List Value) :=
 match E.get b with
 | some (.cells _ cs) => some cs
 | _ => none
def XT (v : Value) (E : EH) : Option Value := (vB v).bind fun a => (rC E a.1).bind fun cs => cs[a.2]?
def XU (n : Nat) (v : Value) (E : EH) : Option Value :=
 (vB v).bind fun a => (rC E a.1).bind fun cs => if a.2 + n ≤ cs.length then some (.agg ((cs.drop a.2).take n).toArray) else none
def eSt (n : Nat) (v x : Value) (E : EH) : Option EH :=
 (vB v).bind fun a => match E.get a.1 with
  | some (.cells false cs) => if x.cells.size = n ∧ a.2 + n ≤ cs.length ∧ x.cells.toList.all Value.oneCell' = true then E.set a.1 (.cells false (splice cs a.2 x.cells.toList)) else none
  | _ => none
def ai5 (cs : List Value) (E : EH) : Option (Value × EH) := (E.push (.cells false cs)).map fun E' => (.pointer (some ⟨E.n, 0, none⟩), E')
def GS (n e : Nat) (cs : List Value) (E : EH) : Option (Value × EH) := (E.push (.cells false cs)).map fun E' => (.slice (some ⟨E.n, 0, none⟩) n e, E')
def GR (v : Value) (E : EH) : Option Value :=
 match v with
 | .map none => some (.int .i64 0)
 | .map (some b) => match E.get b with
  | some (.map es _) => some (.int .i64 es.length)
  | _ => none
 | _ => none
def Ub (e : Nat) (x : Value) (E : EH) : Option (Nat × List Value) :=
 match x with
 | .slice none n _ => if n = 0 then some (0, []) else none
 | .slice (some ⟨b, o, none⟩) m _ => if m = 0 then some (0, []) else (rC E b).bind fun cs => if o + m * e ≤ cs.length then some (m, (cs.drop o).take (m * e)) else none
 | _ => none
def ai3 (e bytes : Nat) (s x : Value) (E : EH) : Option (Value × EH) :=
 (Ub e x E).bind fun r =>
  if r.2.all Value.oneCell' = true ∧ 0 < e then
   match s with
   | .slice none n k => if n = 0 ∧ k = 0 then (if r.1 = 0 then some (.slice none 0 0, E) else if r.1 * bytes ≤ room ∧ r.1 ≤ room then GS r.1 e r.2 E else none) else none
   | .slice (some ⟨b, o, none⟩) n e' =>
    if r.1 = 0 then some (s, E)
    else if e' = 0 then (if n = 0 ∧ r.1 * bytes ≤ room ∧ r.1 ≤ room then GS r.1 e r.2 E else none)
    else match E.get b with
     | some (.cells false cs) =>
      if e' = e ∧ o + n * e ≤ cs.length ∧ (n + r.1) * bytes ≤ room ∧ n + r.1 ≤ room then (E.set b .dead).bind fun E1 => GS (n + r.1) e ((cs.drop o).take (n * e) ++ r.2) E1 else none
     | _ => none
   | _ => none
  else none
def XV (zero : List Value) (e bytes : Nat) (len cap : Value) (E : EH) : Option (Value × EH) :=
 match len, cap with
 | .int _ l, .int _ c => if 0 ≤ l ∧ l = c ∧ l.toNat * bytes ≤ room ∧ l.toNat ≤ room ∧ 0 < e ∧ zero.length = e then
  GS l.toNat e (List.replicate l.toNat zero).flatten E else none
 | _, _ => none
def y7 (v : Value) (E : EH) : Option (List MapEntry × Nat) :=
 match v with
 | .map none => some ([], 0)
 | .map (some b) => match E.get b with
  | some (.map es c) => some (es, c)
  | _ => none
 | _ => none
def Cb (fl : KCls) (zero : Value) (m k : Value) (ok : Bool) (E : EH) : Option Value :=
 if jo fl k = true then (y7 m E).bind fun es => (bw fl k es.1 0).map fun r => match r with
  | some (_, v) => if ok then .tuple #[v, .bool true] else v
  | none => if ok then .tuple #[zero, .bool false] else zero
 else none
def Iy (fl : KCls) (m k x : Value) (E : EH) : Option EH :=
 if jo fl k = true then match m with
 | .map (some b) => match E.get b with
  | some (.map es c) => (bw fl k es 0).bind fun r => match r with
   | some (i, _) => E.set b (.map (es.modify i fun e => { e with key := k, val := x }) c)
   | none => E.set b (.map (es ++ [{ key := k, val := x, born := c }]) (c + 1))
  | _ => none
 | _ => none
 else none
def Is (fl : KCls) (m k : Value) (E : EH) : Option EH :=
 if jo fl k = true then match m with
 | .map (some b) => match E.get b with
  | some (.map es c) => (bw fl k es 0).bind fun r => match r with
   | some (i, _) => E.set b (.map (es.eraseIdx i) c)
   | none => E.set b (.map es c)
  | _ => none
 | _ => none
 else none
def eY (g d : Nat) (F : List AObj) (x : Option (Value × EH)) (y : Option (Value × AH)) : Prop := ∀ v E', x = some (v, E') → ∃ H', y = some (bU g d v, H') ∧ HR g d F E' H'
def ad2 (g d : Nat) (F : List AObj) (x : Option EH) (y : Option AH) : Prop := ∀ E', x = some E' → ∃ H', y = some H' ∧ HR g d F E' H'
section
variable {g d : Nat} {F : List AObj} {E E' : EH} {H : AH}
theorem HR.cells (h : HR g d F E H) (b : Nat) : eK H (B6 g d b) = (rC E b).map (iB g d) := by
 unfold eK rC;rw [h.get b]
 cases E.get b with
 | none => rfl
 | some o => cases o <;> rfl
theorem HR.ld1 (h : HR g d F E H) (v : Value) : ar ((bU g d) v) H = (XT v E).map (bU g d) := by
 unfold ar XT;rw [Ku]
 cases vB v with
 | none => rfl
 | some a =>
  simp only [fH, bL, h.cells]
  cases rC E a.1 <;> simp [iB]
theorem HR.ldN (h : HR g d F E H) (n : Nat) (v : Value) : ay n ((bU g d) v) H = (XU n v E).map (bU g d) := by
 unfold ay XU;rw [Ku]
 cases vB v with
 | none => rfl
 | some a =>
  simp only [fH, bL, h.cells]
  cases rC E a.1 with
  | none => rfl
  | some cs =>
   simp only [fH, bL, iB, pw]
   split
   ·simp [List.map_take, List.map_drop]
   ·rfl
theorem HR.st (h : HR g d F E H) (n : Nat) (v x : Value) : ad2 g d F (eSt n v x E) (cf n ((bU g d) v) ((bU g d) x) H) := by
 intro E' he;unfold eSt at he;unfold cf;rw [Ku];obtain ⟨a, ha, he⟩ := aI.1 he;rw [ha];simp only [fH, bL, h.get]
 split at he
 ·rename_i cs hcs
  split at he
  ·rename_i hc
   rw [hcs];simp only [fH, Np]
   rw [Fm, Array.size_map, Array.toList_map, show (iB g d cs).length = cs.length from pw _, show (List.map (bU g d) x.cells.toList).all Value.oneCell' = x.cells.toList.all Value.oneCell' from Ti _, if_pos hc,
    show splice (iB g d cs) a.2 (List.map (bU g d) x.cells.toList) = iB g d (splice cs a.2 x.cells.toList) from HQ _ _ _]
   exact ⟨_, rfl, h.set (h.lt hcs) he⟩
  ·cases he
 ·cases he
theorem HR.new' (h : HR g d F E H) (cs : List Value) : eY g d F (ai5 cs E) (some (agG (iB g d cs) H)) := by
 intro v E' he;obtain ⟨E1, h1, e⟩ := bm.1 he;cases e;exact ⟨H.push (Np g d (.cells false cs)), by simp [agG, h.new, AQ, Np], h.push h1⟩
theorem HR.rowP (h : HR g d F E H) (n e : Nat) (cs : List Value) : eY g d F (GS n e cs E) (some (.slice (some ⟨H.size, 0, none⟩) n e, H.push (.cells false (iB g d cs)))) := by
 intro v E' he;obtain ⟨E1, h1, e⟩ := bm.1 he;cases e;exact ⟨H.push (Np g d (.cells false cs)), by simp [h.new, AQ, Np], h.push h1⟩
theorem HR.lenM (h : HR g d F E H) (v : Value) : n9 ((bU g d) v) H = (GR v E).map (bU g d) := by
 cases v with
 | map r =>
  cases r with
  | none => simp [n9, GR]
  | some b =>
   simp only [Kt, fH, n9, GR, h.get]
   cases E.get b with
   | none => rfl
   | some o => cases o <;> simp [Np]
 | _ => simp [n9, GR]
theorem HR.row (h : HR g d F E H) (e : Nat) (x : Value) : md e ((bU g d) x) H = (Ub e x E).map fun r => (r.1, iB g d r.2) := by
 cases x with
 | slice a n k =>
  cases a with
  | none => simp only [hF, Option.map_none, md, Ub]; split <;> rfl
  | some a =>
   obtain ⟨b, o, sp⟩ := a
   cases sp with
   | some sp => simp [md, Ub, AQ]
   | none =>
    simp only [hF, fH, AQ, md, Ub, h.cells]
    split
    ·rfl
    ·cases rC E b with
     | none => rfl
     | some cs =>
      simp only [fH, bL, iB, pw]
      split
      ·simp [List.map_take, List.map_drop]
      ·rfl
 | _ => simp [md, Ub]
theorem HR.mapOf (h : HR g d F E H) (v : Value) : kL ((bU g d) v) H = (y7 v E).map fun r => (r.1.map (MT g d), r.2) := by
 cases v with
 | map r =>
  cases r with
  | none => simp [kL, y7]
  | some b =>
   simp only [Kt, fH, kL, y7, h.get]
   cases E.get b with
   | none => rfl
   | some o => cases o <;> simp [Np]
 | _ => simp [kL, y7]
theorem HR.lookup (h : HR g d F E H) (fl : KCls) {zero : Value} (hz : (bU g d) zero = zero) (m k : Value) (ok : Bool) : dc fl zero ((bU g d) m) ((bU g d) k) ok H = (Cb fl zero m k ok E).map (bU g d) := by
 unfold dc Cb;rw [Fp]
 split
 ·rw [h.mapOf]
  cases y7 m E with
  | none => rfl
  | some es =>
   simp only [fH, bL, we]
   cases bw fl k es.1 0 with
   | none => rfl
   | some r =>
    cases r with
    | none => cases ok <;> simp [hz]
    | some p => cases ok <;> simp
 ·rfl
theorem HR.update (h : HR g d F E H) (fl : KCls) (m k x : Value) : ad2 g d F (Iy fl m k x E) (fm fl ((bU g d) m) ((bU g d) k) ((bU g d) x) H) := by
 intro E' he;unfold Iy at he
 split at he
 ·rename_i hk
  split at he
  ·rename_i b
   split at he
   ·rename_i es c hb
    obtain ⟨r, hr, he⟩ := aI.1 he
    have hg : H.get (B6 g d b) = some (.map (es.map (MT g d)) c) := by rw [h.get, hb]; rfl
    have hf := we (g := g) (d := d) fl k es 0;rw [hr] at hf;simp only [Kt, fH, fm, Fp, hk, if_true, hg]
    cases r with
    | some p =>
     have hf : bw fl ((bU g d) k) (es.map (MT g d)) 0 = some (some (p.1, (bU g d) p.2)) := hf;rw [hf];refine ⟨_, rfl, ?_⟩;have := h.set (h.lt hb) he;simp only [Np] at this;show HR g d F E' (H.set (B6 g d b) (.map ((es.map (MT g d)).modify p.1 fun e => { e with key := (bU g d) k, val := (bU g d) x }) c));rw [show (es.map (MT g d)).modify p.1 (fun e => { e with key := (bU g d) k, val := (bU g d) x }) = (es.modify p.1 fun e => { e with key := k, val := x }).map (MT g d) from ?_]
     ·exact this
     ·apply List.ext_getElem?
      intro i;simp only [List.getElem?_modify, Bp]
      cases es[i]? with
      | none => rfl
      | some e => simp only [fH, Option.map_map]; split <;> rfl
    | none =>
     have hf : bw fl ((bU g d) k) (es.map (MT g d)) 0 = some none := hf;rw [hf];refine ⟨_, rfl, ?_⟩;have := h.set (h.lt hb) he;simp only [Np, zw, List.map_cons, List.map_nil, MT] at this;exact this
   ·cases he
  ·cases he
 ·cases he
theorem HR.delete (h : HR g d F E H) (fl : KCls) (m k : Value) : ad2 g d F (Is fl m k E) (n7 fl ((bU g d) m) ((bU g d) k) H) := by
 intro E' he;unfold Is at he
 split at he
 ·rename_i hk
  split at he
  ·rename_i b
   split at he
   ·rename_i es c hb
    obtain ⟨r, hr, he⟩ := aI.1 he
    have hg : H.get (B6 g d b) = some (.map (es.map (MT g d)) c) := by rw [h.get, hb]; rfl
    have hf := we (g := g) (d := d) fl k es 0;rw [hr] at hf;simp only [Kt, fH, n7, Fp, hk, if_true, hg]
    cases r with
    | some p =>
     have hf : bw fl ((bU g d) k) (es.map (MT g d)) 0 = some (some (p.1, (bU g d) p.2)) := hf;rw [hf];refine ⟨_, rfl, ?_⟩;have := h.set (h.lt hb) he;simp only [Np] at this;show HR g d F E' (H.set (B6 g d b) (.map ((es.map (MT g d)).eraseIdx p.1) c));rw [show (es.map (MT g d)).eraseIdx p.1 = (es.eraseIdx p.1).map (MT g d) from by simp [List.eraseIdx_eq_take_drop_succ, List.map_take, List.map_drop]];exact this
    | none =>
     have hf : bw fl ((bU g d) k) (es.map (MT g d)) 0 = some none := hf;rw [hf];exact ⟨_, rfl, h.set (h.lt hb) he⟩
   ·cases he
  ·cases he
 ·cases he
theorem HR.make (h : HR g d F E H) {zero : List Value} (hz : iB g d zero = zero) (e by' : Nat) (len cap : Value) : eY g d F (XV zero e by' len cap E) (oa zero e by' ((bU g d) len) ((bU g d) cap) H) := by
 intro v E' he;unfold XV at he
 split at he
 ·split at he
  ·rename_i k1 l k2 c hc
   obtain ⟨H', h1, h2⟩ := h.rowP _ _ _ v E' he;refine ⟨H', ?_, h2⟩;simp only [Ac, oa];rw [if_pos hc, ← h1]
   congr 4
   rw [iB, List.map_flatten, List.map_replicate, show List.map (bU g d) zero = zero from hz]
  ·cases he
 ·cases he
theorem HR.app (h : HR g d F E H) (e by' : Nat) (x y : Value) : eY g d F (ai3 e by' x y E) (fj e by' ((bU g d) x) ((bU g d) y) H) := by
 intro v E' he;unfold ai3 at he;unfold fj;rw [h.row];obtain ⟨r, hr, he⟩ := aI.1 he;rw [hr];simp only [fH, bL];rw [show (iB g d r.2).all Value.oneCell' = r.2.all Value.oneCell' from Ti _]
 split at he
 ·rename_i hc
  rw [if_pos hc]
  split at he
  ·rename_i n k
   simp only [hF, Option.map_none]
   split at he
   ·rename_i h0
    rw [if_pos h0]
    split at he
    ·rename_i h1
     rw [if_pos h1]; cases he; exact ⟨H, by simp, h⟩
    ·rename_i h1
     rw [if_neg h1]
     split at he
     ·rename_i h2
      rw [if_pos h2];exact h.rowP _ _ _ v E' he
     ·cases he
   ·cases he
  ·rename_i _ b o n e' _
   simp only [hF, fH, AQ]
   split at he
   ·rename_i h1
    rw [if_pos h1]; cases he; exact ⟨H, by simp [AQ], h⟩
   ·rename_i h1
    rw [if_neg h1]
    split at he
    ·rename_i h2
     rw [if_pos h2]
     split at he
     ·rename_i h3
      rw [if_pos h3];exact h.rowP _ _ _ v E' he
     ·cases he
    ·rename_i h2
     rw [if_neg h2]
     split at he
     ·rename_i cs hb
      have hg : H.get (B6 g d b) = some (.cells false (iB g d cs)) := by rw [h.get, hb]; rfl
      rw [hg];simp only;rw [show (iB g d cs).length = cs.length from pw _]
      split at he
      ·rename_i h3
       rw [if_pos h3];obtain ⟨E1, h4, he⟩ := aI.1 he;have hs := h.set (h.lt hb) h4;obtain ⟨H', h5, h6⟩ := hs.rowP _ _ _ v E' he;refine ⟨H', ?_, h6⟩;rw [← h5, AH.size_set];simp [Np, iB, List.map_take, List.map_drop]
      ·cases he
     ·cases he
  ·cases he
 ·cases he
end
abbrev TF := Nat → List Value → EH → Option (Value × EH)
def Fz (P : Program) (b : Builtin) (argTypes : Array TypeId) (args : List Value) (E : EH) : Option (Value × EH) :=
 match b, args with
 | .len, [x] => match (argTypes[0]?).bind fun t => P.underlying t with
  | some (.slice _) => match x with | .slice _ _ _ => (rk x).map (·, E) | _ => none
  | some .string => match x with | .string _ => (rk x).map (·, E) | _ => none
  | some (.map _ _) => (GR x E).map (·, E)
  | _ => none
 | .max, args => (iv args).map (·, E)
 | .min, args => (jT args).map (·, E)
 | .append, [s, x] => (argTypes[0]?).bind fun t => (cJ P t).bind fun el => (cR P el).bind fun e => (gl P el).bind fun by' => (bW P el).bind fun z =>
  if z.cells.size = e ∧ (argTypes[1]?).bind (fun u => cJ P u) = some el then ai3 e by' s x E else none
 | .delete, [m, k] => (argTypes[0]?).bind fun t => (cM P t).bind fun kt => (cZ P kt.1).bind fun fl => (Is fl m k E).map fun E' => (.tuple #[], E')
 | _, _ => none
def tRd (P : Program) (ev : Operand → Value) (op : Op) (E : EH) : Option Value :=
 match op with
 | .load t a => (f6 P t).bind fun g => match g with
  | some n => XU n (ev a) E
  | none => XT (ev a) E
 | .lookup t m k ok => (cM P t).bind fun kt => (cZ P kt.1).bind fun fl => (bW P kt.2).bind fun z => Cb fl z (ev m) (ev k) ok E
 | .call c => match c.args.toList.map ev with
  | [x] => match (c.argTypes[0]?).bind fun t => P.underlying t with
   | some (.slice _) => match x with | .slice _ _ _ => rk x | _ => none
   | some .string => match x with | .string _ => rk x | _ => none
   | some (.map _ _) => GR x E
   | _ => none
  | _ => none
 | _ => none
def yO (P : Program) (call : TF) (ev : Operand → Value) (o : Oper) (E : EH) : Option (Value × EH) :=
 match o.op with
 | .move x => some (ev x, E)
 | .assign x => some (ev x, E)
 | .pick c a b => (aV (ev c) (ev a) (ev b)).map (·, E)
 | .alloc t => (bW P t).bind fun z => ai5 z.cells.toList E
 | .box _ x => ai5 (ev x).cells.toList E
 | .build t parts => match P.underlying t with
  | some (.struct fs) => (bW P t).bind fun z => (jV P fs.toList).bind fun ps => (dt (ps[·]?) z.cells.toList (parts.toList.map fun p => (p.1, ev p.2))).map fun cs => (.agg cs.toArray, E)
  | some (.array _ el) => (bW P t).bind fun z => (cR P el).bind fun e => (dt (fun i => some (i * e, e)) z.cells.toList (parts.toList.map fun p => (p.1, ev p.2))).map fun cs => (.agg cs.toArray, E)
  | _ => none
 | .buildSlice t len parts => (cJ P t).bind fun el => (cR P el).bind fun e => (bW P el).bind fun z =>
  if 0 < e ∧ z.cells.size = e ∧ len * e ≤ 2 ^ 24 then
   (dt (fun i => some (i * e, e)) (List.replicate len z.cells.toList).flatten (parts.toList.map fun p => (p.1, ev p.2))).bind fun cs => GS len e cs E
  else none
 | .load t a => (f6 P t).bind fun g => match g with
  | some n => (XU n (ev a) E).map (·, E)
  | none => (XT (ev a) E).map (·, E)
 | .store t a x => (cR P t).bind fun n => (eSt n (ev a) (ev x) E).map fun E' => (undef, E')
 | .nilCheck x => (vC (ev x)).map (·, E)
 | .binOp op t x y _ => (ap (Ao P t) op (ev x) (ev y)).map (·, E)
 | .unOp op _ x => (nk op (ev x)).map (·, E)
 | .convert src dst x => match P.underlying src with
  | some _ => (cN (sd P dst) (ev x)).map (·, E)
  | none => none
 | .makeFunc fn first captured => some (.func fn (first.map ev) (captured.map ev), E)
 | .makeMap _ none => (E.push (.map [] 0)).map fun E' => (.map (some E.n), E')
 | .makeSlice t l c => (cJ P t).bind fun el => (cR P el).bind fun e => (gl P el).bind fun by' => (bW P el).bind fun z => XV z.cells.toList e by' (ev l) (ev c) E
 | .slice t x lo hi none => (cJ P t).bind fun el => (cR P el).bind fun e => (dT e (ev x) (lo.map ev) (hi.map ev)).map (·, E)
 | .slice t x none (some hi) (some mx) => (cJ P t).bind fun el => (cR P el).bind fun _ => (jU (ev x) (ev hi) (ev mx)).map (·, E)
 | .fieldAddr s x f => (kS P s f).bind fun f => (cR P f.type).bind fun n => if n = 0 then none else (Gk f.offset (ev x)).map (·, E)
 | .field s x f => (kS P s f).bind fun f => (f6 P f.type).bind fun n => (lA n f.offset (ev x)).map (·, E)
 | .indexAddr t x i => match P.underlying t with
  | some (.slice el) => (cR P el).bind fun e => (pF e (ev x) (ev i)).map (·, E)
  | some (.array len el) => (cR P el).bind fun e => (ka len e (ev x) (ev i)).map (·, E)
  | _ => none
 | .index t x i => match P.underlying t with
  | some (.array len el) => (cR P el).bind fun e => (f6 P el).bind fun n => (jS len n e (ev x) (ev i)).map (·, E)
  | some .string => (jR (ev x) (ev i)).map (·, E)
  | _ => none
 | .lookup t m k ok => (cM P t).bind fun kt => (cZ P kt.1).bind fun fl => (bW P kt.2).bind fun z => (Cb fl z (ev m) (ev k) ok E).map (·, E)
 | .mapUpdate t m k x => (cM P t).bind fun kt => (cZ P kt.1).bind fun fl => (Iy fl (ev m) (ev k) (ev x) E).map fun E' => (undef, E')
 | .extract t i => (af (ev t) i).map (·, E)
 | .call c => match c.callee with
  | .builtin b => Fz P b c.argTypes (c.args.toList.map ev) E
  | .value f => (di (ev f) (c.args.toList.map ev)).bind fun fa => call fa.1 fa.2 E
  | _ => none
 | _ => none
section
variable {P : Program} {g d : Nat} {F : List AObj} {E E' : EH} {H : AH}
theorem kP {t : TypeId} {z : Value} (h : bW P t = some z) : (bU g d) z = z ∧ iB g d z.cells.toList = z.cells.toList := by
 obtain ⟨i, _, _, h1, h2⟩ := dh h;exact ⟨MU h2, yK h1⟩
theorem eY.val (h : HR g d F E H) {x y : Option Value} (e : y = x.map (bU g d)) : eY g d F (x.map (·, E)) (y.map (·, H)) := by
 intro v E' hx;obtain ⟨z, hz, e1⟩ := bm.1 hx;cases e1;rw [e, hz];exact ⟨H, rfl, h⟩
theorem eY.bind {α : Type} {o : Option α} {f : α → Option (Value × EH)} {f' : α → Option (Value × AH)} (h : ∀ a, o = some a → eY g d F (f a) (f' a)) : eY g d F (o.bind f) (o.bind f') := by
 intro v E' hx;obtain ⟨a, ha, hx⟩ := aI.1 hx;rw [ha];exact h a ha v E' hx
theorem eY.no {y : Option (Value × AH)} : eY g d F none y := fun v E' h => by cases h
theorem eY.ite {c : Prop} [Decidable c] {x : Option (Value × EH)} {y : Option (Value × AH)} (h : c → eY g d F x y) : eY g d F (if c then x else none) (if c then y else none) := by
 intro v E' hx
 split at hx
 ·rename_i hc; rw [if_pos hc]; exact h hc v E' hx
 ·cases hx
theorem eY.heap {x : Option EH} {y : Option AH} (v : Value) (hv : (bU g d) v = v) (h : ad2 g d F x y) : eY g d F (x.map fun E' => (v, E')) (y.map fun H' => (v, H')) := by
 intro v' E' hx;obtain ⟨E1, h1, e⟩ := bm.1 hx;cases e;obtain ⟨H', h2, h3⟩ := h E' h1;exact ⟨H', by rw [h2, hv]; rfl, h3⟩
theorem N4 {ev ev' : Operand → Value} {l : List Operand} (h : ∀ x ∈ l, ev' x = (bU g d) (ev x)) : l.map ev' = iB g d (l.map ev) := by
 rw [iB, List.map_map];exact List.map_congr_left h
theorem Li (h : HR g d F E H) (b : Builtin) (ats : Array TypeId) (args : List Value) : eY g d F (Fz P b ats args E) (cY P b ats (iB g d args) H) := by
 intro v E' hx;unfold Fz at hx
 split at hx
 ·rename_i x
  simp only [iB, List.map_cons, List.map_nil, cY]
  split at hx
  ·rename_i hu
   rw [hu];simp only
   split at hx
   ·simp only [hF]
    exact eY.val h (by rw [← hF, agS]) v E' hx
   ·cases hx
  ·rename_i hu
   rw [hu];simp only
   split at hx
   ·simp only [HS]
    exact eY.val h (by simp [rk]) v E' hx
   ·cases hx
  ·rename_i hu
   rw [hu];exact eY.val h (h.lenM _) v E' hx
  ·cases hx
 ·exact eY.val h (agT _) v E' hx
 ·exact eY.val h (agU _) v E' hx
 ·simp only [iB, List.map_cons, List.map_nil, cY]
  exact eY.bind (fun t _ => eY.bind fun el _ => eY.bind fun e _ => eY.bind fun by' _ => eY.bind fun z _ => eY.ite fun _ => h.app _ _ _ _) v E' hx
 ·simp only [iB, List.map_cons, List.map_nil, cY]
  exact eY.bind (fun t _ => eY.bind fun kt _ => eY.bind fun fl _ => eY.heap _ (by simp) (h.delete _ _ _)) v E' hx
 ·cases hx
theorem aiJ (h : HR g d F E H) {ev ev' : Operand → Value} {op : Op} (hev : ∀ x, x ∈ op.operands.toList → ev' x = (bU g d) (ev x)) : CN P ev' op H = (tRd P ev op E).map (bU g d) := by
 cases op with
 | load t a =>
  simp only [CN, tRd];rw [hev a (by simp [Op.operands])]
  cases f6 P t with
  | none => rfl
  | some n => cases n with
   | none => exact h.ld1 _
   | some n => exact h.ldN _ _
 | lookup t m k ok =>
  simp only [CN, tRd];rw [hev m (by simp [Op.operands]), hev k (by simp [Op.operands])]
  cases cM P t with
  | none => rfl
  | some kt =>
   simp only [bL]
   cases cZ P kt.1 with
   | none => rfl
   | some fl =>
    simp only [bL]
    cases hz : bW P kt.2 with
    | none => rfl
    | some z => exact h.lookup fl (kP hz).1 _ _ _
 | call c =>
  have ha : c.args.toList.map ev' = iB g d (c.args.toList.map ev) := N4 fun x hx => hev x (by simp only [Op.operands, Call.operands, Array.toList_append, List.mem_append]; exact .inr hx);simp only [CN, tRd];rw [ha]
  generalize c.args.toList.map ev = l
  match l with
  | [] => rfl
  | [x] =>
   simp only [iB, List.map_cons, List.map_nil]
   generalize (c.argTypes[0]?).bind (fun t => P.underlying t) = u
   cases u with
   | none => rfl
   | some u => cases u <;> first | rfl | exact h.lenM _ | (cases x <;> simp [rk])
  | x :: y :: l => rfl
 | _ => rfl
def tk (g d : Nat) (F : List AObj) (c : TF) (c' : bE) : Prop := ∀ (E : EH) (H : AH) f args, HR g d F E H → eY g d F (c f args E) (c' f (iB g d args) H)
theorem ajS (h : HR g d F E H) {c : TF} {c' : bE} (hc : tk g d F c c') {ev ev' : Operand → Value} {o : Oper} (hev : ∀ x, x ∈ o.op.operands.toList → ev' x = (bU g d) (ev x)) :
 eY g d F (yO P c ev o E) (ft P c' ev' o H) := by
 obtain ⟨dst, op, type, pos, after, guard⟩ := o;simp only at hev
 have fill : ∀ (parts : Array (Nat × Operand)), (∀ x, x ∈ (parts.toList.map (·.2)) → ev' x = (bU g d) (ev x)) → (parts.toList.map fun p => (p.1, ev' p.2)) = (parts.toList.map fun p => (p.1, ev p.2)).map fun p => (p.1, (bU g d) p.2) := by
  intro parts hp;rw [List.map_map];refine List.map_congr_left fun p hpm => ?_;simp only [Function.comp];rw [hp p.2 (List.mem_map_of_mem hpm)]
 have arr : ∀ (l : Array Operand), (∀ x ∈ l.toList, ev' x = (bU g d) (ev x)) → l.map ev' = (l.map ev).map (bU g d) := by
  intro l hl;apply Array.toList_inj.1;rw [Array.toList_map, Array.toList_map, Array.toList_map];exact N4 hl
 cases op
 case move x => intro v E' hx; simp only [yO] at hx; cases hx; exact ⟨H, by simp only [ft]; rw [hev x (by simp [Op.operands])], h⟩
 case assign x => intro v E' hx; simp only [yO] at hx; cases hx; exact ⟨H, by simp only [ft]; rw [hev x (by simp [Op.operands])], h⟩
 case pick k a b =>
  simp only [yO, ft];rw [hev k (by simp [Op.operands]), hev a (by simp [Op.operands]), hev b (by simp [Op.operands])];exact eY.val h (acD _ _ _)
 case alloc t =>
  intro v E' hx;simp only [yO] at hx;simp only [ft];obtain ⟨z, hz, hx⟩ := aI.1 hx;rw [hz];have := h.new' _ v E' hx;rw [(kP hz).2] at this;exact this
 case box t x =>
  simp only [yO, ft];rw [hev x (by simp [Op.operands]), WD];exact h.new' _
 case build t parts =>
  have hp := fill parts fun x hx => hev x (by simpa [Op.operands] using hx);intro v E' hx;simp only [yO] at hx;simp only [ft];rw [hp]
  split at hx
  ·rename_i fs hu
   rw [hu];simp only;obtain ⟨z, hz, hx⟩ := aI.1 hx;obtain ⟨ps, hps, hx⟩ := aI.1 hx;obtain ⟨cs, hcs, e⟩ := bm.1 hx;cases e;have hf := Fq (g := g) (d := d) (ps[·]?) (parts.toList.map fun p => (p.1, ev p.2)) z.cells.toList;rw [(kP hz).2, hcs] at hf;rw [hz, hps];simp only [bL];rw [hf];exact ⟨H, by simp, h⟩
  ·rename_i el hu
   rw [hu];simp only;obtain ⟨z, hz, hx⟩ := aI.1 hx;obtain ⟨e, he, hx⟩ := aI.1 hx;obtain ⟨cs, hcs, e⟩ := bm.1 hx;cases e;have hf := Fq (g := g) (d := d) (fun i => some (i * e, e)) (parts.toList.map fun p => (p.1, ev p.2)) z.cells.toList;rw [(kP hz).2, hcs] at hf;rw [hz, he];simp only [bL];rw [hf];exact ⟨H, by simp, h⟩
  ·cases hx
 case buildSlice t len parts =>
  have hp := fill parts fun x hx => hev x (by simpa [Op.operands] using hx);simp only [yO, ft];rw [hp];refine eY.bind fun el _ => eY.bind fun e _ => eY.bind fun z hz => eY.ite fun _ => ?_;intro v E' hx;obtain ⟨cs, hcs, hx⟩ := aI.1 hx;have hf := Fq (g := g) (d := d) (fun i => some (i * e, e)) (parts.toList.map fun p => (p.1, ev p.2)) (List.replicate len z.cells.toList).flatten
  rw [hcs, show iB g d (List.replicate len z.cells.toList).flatten = (List.replicate len z.cells.toList).flatten from by
   rw [iB, List.map_flatten, List.map_replicate, show List.map (bU g d) z.cells.toList = z.cells.toList from (kP hz).2]] at hf
  rw [hf];exact h.rowP _ _ _ v E' hx
 case load t a =>
  simp only [yO, ft];rw [hev a (by simp [Op.operands])];refine eY.bind fun n _ => ?_
  cases n with
  | none => exact eY.val h (h.ld1 _)
  | some n => exact eY.val h (h.ldN _ _)
 case store t a x =>
  simp only [yO, ft];rw [hev a (by simp [Op.operands]), hev x (by simp [Op.operands])];exact eY.bind fun n _ => eY.heap _ sZ (h.st _ _ _)
 case nilCheck x =>
  simp only [yO, ft];rw [hev x (by simp [Op.operands])];exact eY.val h (agV _)
 case binOp op t x y z =>
  simp only [yO, ft];rw [hev x (by simp [Op.operands]), hev y (by simp [Op.operands])];exact eY.val h (agP _ _ _ _)
 case unOp op t x =>
  simp only [yO, ft];rw [hev x (by simp [Op.operands])];exact eY.val h (aj6 _ _)
 case convert src dst x =>
  simp only [yO, ft];rw [hev x (by simp [Op.operands])]
  split
  ·rename_i hu; rw [hu]; exact eY.val h (ab9 _ _)
  ·exact eY.no
 case makeFunc fn first captured =>
  simp only [yO, ft];rw [arr first fun x hx => hev x (by simp only [Op.operands, Array.toList_append, List.mem_append]; exact .inl hx), arr captured fun x hx => hev x (by simp only [Op.operands, Array.toList_append, List.mem_append]; exact .inr hx)];intro v E' hx; cases hx; exact ⟨H, by simp, h⟩
 case makeMap t r =>
  cases r with
  | none =>
   intro v E' hx;simp only [yO] at hx;simp only [ft];obtain ⟨E1, h1, e⟩ := bm.1 hx;cases e;exact ⟨H.push (Np g d (.map [] 0)), by simp [h.new, Np], h.push h1⟩
  | some r => exact eY.no
 case makeSlice t l k =>
  simp only [yO, ft];rw [hev l (by simp [Op.operands]), hev k (by simp [Op.operands])]
  exact eY.bind fun el _ => eY.bind fun e _ => eY.bind fun by' _ => eY.bind fun z hz => h.make (kP hz).2 _ _ _ _
 case slice t x lo hi mx =>
  have hx := hev x (by simp [Op.operands])
  have ho : ∀ (q : Option Operand), (∀ y ∈ q.toArray.toList, ev' y = (bU g d) (ev y)) → q.map ev' = (q.map ev).map (bU g d) := by
   intro q hq
   cases q with
   | none => rfl
   | some y => simp [hq y (by simp)]
  have hlo : lo.map ev' = (lo.map ev).map (bU g d) := ho lo fun y hy => hev y (by simp only [Op.operands, Array.toList_append, List.mem_append]; exact .inl (.inl (.inr hy)));have hhi : hi.map ev' = (hi.map ev).map (bU g d) := ho hi fun y hy => hev y (by simp only [Op.operands, Array.toList_append, List.mem_append]; exact .inl (.inr hy));have hmx : mx.map ev' = (mx.map ev).map (bU g d) := ho mx fun y hy => hev y (by simp only [Op.operands, Array.toList_append, List.mem_append]; exact .inr hy)
  cases mx with
  | none =>
   simp only [yO, ft];rw [hx, hlo, hhi];exact eY.bind fun el _ => eY.bind fun e _ => eY.val h (WE _ _ _ _)
  | some mx =>
   cases lo with
   | some lo => cases hi <;> exact eY.no
   | none =>
    cases hi with
    | none => exact eY.no
    | some hi =>
     simp only [fH, Option.some.injEq] at hhi hmx;simp only [yO, ft];rw [hx, hhi, hmx];refine eY.bind fun el _ => eY.bind fun e _ => ?_;intro v E' hv;obtain ⟨z, hz, e⟩ := bm.1 hv;cases e;rw [P3 hz];exact ⟨H, rfl, h⟩
 case fieldAddr st x f =>
  simp only [yO, ft];rw [hev x (by simp [Op.operands])];refine eY.bind fun f _ => eY.bind fun n _ => ?_
  split
  ·exact eY.no
  ·exact eY.val h (agQ _ _)
 case field st x f =>
  simp only [yO, ft];rw [hev x (by simp [Op.operands])];exact eY.bind fun f _ => eY.bind fun n _ => eY.val h (acC _ _ _)
 case indexAddr t x i =>
  simp only [yO, ft];rw [hev x (by simp [Op.operands]), hev i (by simp [Op.operands])]
  split
  ·rename_i hu; rw [hu]; exact eY.bind fun e _ => eY.val h (agR _ _ _)
  ·rename_i hu; rw [hu]; exact eY.bind fun e _ => eY.val h (acB _ _ _ _)
  ·exact eY.no
 case index t x i =>
  simp only [yO, ft];rw [hev x (by simp [Op.operands]), hev i (by simp [Op.operands])]
  split
  ·rename_i hu; rw [hu]; exact eY.bind fun e _ => eY.bind fun n _ => eY.val h (P1 _ _ _ _ _)
  ·rename_i hu; rw [hu]; exact eY.val h (PZ _ _)
  ·exact eY.no
 case lookup t m k ok =>
  simp only [yO, ft];rw [hev m (by simp [Op.operands]), hev k (by simp [Op.operands])];exact eY.bind fun kt _ => eY.bind fun fl _ => eY.bind fun z hz => eY.val h (h.lookup fl (kP hz).1 _ _ _)
 case mapUpdate t m k x =>
  simp only [yO, ft];rw [hev m (by simp [Op.operands]), hev k (by simp [Op.operands]), hev x (by simp [Op.operands])];exact eY.bind fun kt _ => eY.bind fun fl _ => eY.heap _ sZ (h.update _ _ _ _)
 case extract t i =>
  simp only [yO, ft];rw [hev t (by simp [Op.operands])];exact eY.val h (MV _ _)
 case call k =>
  obtain ⟨callee, args, ats⟩ := k;have ha : args.toList.map ev' = iB g d (args.toList.map ev) := N4 fun x hx => hev x (by simp only [Op.operands, Call.operands, Array.toList_append, List.mem_append]; exact .inr hx)
  cases callee with
  | builtin b =>
   simp only [yO, ft];rw [ha];exact Li h _ _ _
  | value f =>
   simp only [yO, ft];rw [ha, hev f (by simp [Op.operands, Call.operands])];intro v E' hx;obtain ⟨q, hq, hx⟩ := aI.1 hx;rw [PY, hq];exact hc E H _ _ h v E' hx
  | invoke r m => exact eY.no
 all_goals exact eY.no
end
def tEv (T : Tr Value) : Operand → Value
 | .tmp t => match T.get t with
  | some v => v
  | none => undef
 | .const v => v
 | .global g => .pointer (some ⟨g, 0, none⟩)
 | .func f => .func (.func f) #[] #[]
def agZ (m : Nat) (T : Tr Value) (dst : Option Tmp) (v : Value) : Option (Tr Value) :=
 match dst with
 | some j => match Nat.blt j m with
  | true => Tr.set v 24 T j
  | false => none
 | none => some T
def Qc (ops : Array Oper) (T : Tr Value) (j : Nat) : Option Bool :=
 match (ops[j]?).bind (·.dst) with
 | some t => match T.get t with
  | some (.bool b) => some b
  | _ => none
 | none => none
def Tn (P : Program) (G : List Nat) (call : TF) (ops : Array Oper) (m : Nat) (o : Oper) (T : Tr Value) (E : EH) : Option (Tr Value × EH) :=
 match o.op.operands.toList.all (No G) with
 | true => match Region.wanted o (Qc ops T) with
  | true => (yO P call (tEv T) o E).bind fun r => (agZ m T o.dst r.1).map fun T' => (T', r.2)
  | false => (agZ m T o.dst undef).map fun T' => (T', E)
 | false => none
def Qb (P : Program) (G : List Nat) (call : TF) (ops : Array Oper) (m : Nat) : List Oper → Tr Value → EH → List (Tr Value × EH) → Option (List (Tr Value × EH) × Tr Value × EH)
 | [], T, E, hist => some (hist ++ [(T, E)], T, E)
 | o :: rest, T, E, hist => (Tn P G call ops m o T E).bind fun r => Qb P G call ops m rest r.1 r.2 (hist ++ [(T, E)])
def aiM (P : Program) (G : List Nat) (hist : List (Tr Value × EH)) (ops : Array Oper) (p : Nat × Nat) : Bool :=
 match ops[p.1]?, hist[p.1]?, hist[if p.2 < p.1 then p.2 else p.2 + 1]? with
 | some o, some s, some s' => o.op.operands.toList.all (No G) && eqO (tRd P (tEv s.1) o.op s'.2) (tRd P (tEv s.1) o.op s.2)
 | _, _, _ => false
def Cz (P : Program) (G : List Nat) (call : TF) (ops : Array Oper) (m : Nat) (draw : Bool) (T : Tr Value) (E : EH) : Option (Tr Value × EH) :=
 match draw with
 | true => match uC ops.toList with
  | true => (Qb P G call ops m ops.toList T E []).bind fun r => match (ee ops.toList).all (aiM P G r.1 ops) with
   | true => some r.2
   | false => none
  | false => none
 | false => (Qb P G call ops m ops.toList T E []).map (·.2)
abbrev TR := AE × Tr Value × EH
def Tm (f : Tr Value → EH → Option TR) : Nat → Tr Value → EH → Option TR
 | 0, _, _ => none
 | n + 1, T, E => (f T E).bind fun r => match r.1 with
  | .normal => Tm f n r.2.1 r.2.2
  | _ => some r
def j4 (P : Program) (G : List Nat) (call : TF) (N m : Nat) : Code → Tr Value → EH → Option TR
 | .skip, T, E => some (.normal, T, E)
 | .label _, T, E => some (.normal, T, E)
 | .region _ ops draw, T, E => (Cz P G call ops m draw T E).map fun s => (.normal, s.1, s.2)
 | .seq x y, T, E => (j4 P G call N m x T E).bind fun r => match r.1 with
  | .normal => j4 P G call N m y r.2.1 r.2.2
  | _ => some r
 | .cond c x y, T, E => match No G c with
  | true => match tEv T c with
   | .bool true => j4 P G call N m x T E
   | .bool false => j4 P G call N m y T E
   | _ => none
  | false => none
 | .block id x, T, E => (j4 P G call N m x T E).map fun r => match r.1 with
  | .exit i => if i = id then (.normal, r.2.1, r.2.2) else r
  | _ => r
 | .loop x, T, E => Tm (j4 P G call N m x) N T E
 | .exit id, T, E => some (.exit id, T, E)
 | .ret, T, E => some (.ret, T, E)
 | _, _, _ => none
def FB (T : Tr Value) (t : Nat) : Value := match T.get t with
 | some v => v
 | none => undef
def yP (P : Program) (T : Tr Value) (E : EH) : ResultVar → Option Value
 | .tmp t => some (FB T t)
 | .cell a t => (f6 P t).bind fun g => match g with
  | some n => XU n (FB T a) E
  | none => XT (FB T a) E
def HY (P : Program) (T : Tr Value) (E : EH) : List ResultVar → Option (List Value)
 | [] => some []
 | r :: rs => (yP P T E r).bind fun v => (HY P T E rs).bind fun vs => some (v :: vs)
def acP (P : Program) (rs : List ResultVar) (r : TR) : Option (Value × EH) :=
 match r.1 with
 | .exit _ => none
 | _ => (HY P r.2.1 r.2.2 rs).map fun vs => (match vs with
  | [v] => v
  | vs => .tuple vs.toArray, r.2.2)
def M1 : List Value → Nat → Tr Value → Option (Tr Value)
 | [], _, T => some T
 | v :: vs, i, T => (Tr.set v 24 T i).bind fun T' => M1 vs (i + 1) T'
def acO (P : Program) (G : List Nat) (call : TF) (N n : Nat) (rs : List ResultVar) (s : DSh) (T : Tr Value) (E : EH) : Option (Value × EH) :=
 (j4 P G call N n s.c1 T E).bind fun r => match r.1 with
  | .normal => match Nat.blt s.t n with
   | true => (Tn P G call s.ops2 n s.om r.2.1 r.2.2).bind fun q => (Qb P G call s.ops3 n s.ops3.toList q.1 q.2 []).bind fun z => acP P rs (.normal, z.2.1, z.2.2)
   | false => none
  | _ => none
def FA (P : Program) (G D : List Nat) (N : Nat) : Nat → TF
 | 0 => fun _ _ _ => none
 | k + 1 => fun f args E => match P.funcs[f]? with
  | some fn => if fn.name = "runtime.NumGoroutine" then none else match fn.body with
   | some c => match Nat.ble args.length fn.ntmps with
    | true => (M1 args 0 .lf).bind fun T => match lH c with
     | none => (j4 P G (FA P G D N k) N fn.ntmps c T E).bind (acP P fn.results.toList)
     | some s => match D.contains s.k with
      | true => acO P G (FA P G D N k) N fn.ntmps fn.results.toList s T E
      | false => none
    | false => none
   | none => none
  | none => none
section
variable {P : Program} {G : List Nat} {g d m N : Nat} {F : List AObj}
structure ER (g d m : Nat) (T : Tr Value) (A : List Value) : Prop where
 len : A.length = m
 get : ∀ t, A[t]?.getD undef = bU g d (FB T t)
theorem M0 {v : Value} {T T' : Tr Value} {j : Nat} (h : Tr.set v 24 T j = some T') (t : Nat) : FB T' t = if t = j then v else FB T t := by
 unfold FB;rw [Tr.get_set 24 h t]
 by_cases e : t = j
 ·rw [if_pos e, if_pos e]
 ·rw [if_neg e, if_neg e]
theorem ER.put {T T' : Tr Value} {A : List Value} (h : ER g d m T A) {dst : Option Tmp} {v : Value} (hp : agZ m T dst v = some T') : ER g d m T' (lY A dst ((bU g d) v)) := by
 unfold agZ at hp
 cases dst with
 | none => cases hp; exact h
 | some j =>
  simp only at hp
  split at hp
  ·rename_i hb
   have hj : j < m := Nat.le_of_ble_eq_true hb;refine ⟨by simp [lY, h.len], fun t => ?_⟩;rw [M0 hp];simp only [lY];rw [List.getElem?_set]
   by_cases e : t = j
   ·rw [if_pos e, if_pos e.symm, if_pos (by rw [h.len]; omega)]; rfl
   ·rw [if_neg e, if_neg (fun x => e x.symm)]; exact h.get t
  ·cases hp
theorem ER.ev {T : Tr Value} {A : List Value} (h : ER g d m T A) (hG : ∀ b ∈ G, b < g) {x : Operand} (hx : No G x = true) : f8 A x = (bU g d) (tEv T x) := by
 cases x with
 | tmp t => exact h.get t
 | const v => exact (MU hx).symm
 | global b =>
  simp only [No, List.contains_iff_mem] at hx;simp [f8, tEv, AQ, B6, hG b hx]
 | func f => simp [f8, tEv]
theorem ER.yield {T : Tr Value} {A : List Value} (h : ER g d m T A) (ops : Array Oper) : dN ops A = Qc ops T := by
 funext j
 unfold dN Qc
 cases (ops[j]?).bind (·.dst) with
 | none => rfl
 | some t =>
  simp only [bL];have hg := h.get t;unfold FB at hg
  cases hT : T.get t with
  | none =>
   rw [hT] at hg;simp only [sZ] at hg
   cases hA : A[t]? with
   | none => rfl
   | some v => rw [hA] at hg; simp only [Option.getD_some] at hg; subst hg; rfl
  | some v =>
   rw [hT] at hg;simp only at hg
   cases hA : A[t]? with
   | none => rw [hA] at hg; simp only [Option.getD_none] at hg; cases v <;> simp [undef] at hg ⊢
   | some w => rw [hA] at hg; simp only [Option.getD_some] at hg; subst hg; cases v <;> simp
structure St (g d m : Nat) (F : List AObj) (x : Tr Value × EH) (y : List Value × AH) : Prop where
 er : ER g d m x.1 y.1
 hr : HR g d F x.2 y.2
theorem MX {c : TF} {c' : bE} (hG : ∀ b ∈ G, b < g) (hc : tk g d F c c') {ops : Array Oper} {o : Oper} {T : Tr Value} {E : EH} {A : List Value} {H : AH} {r} (hS : St g d m F (T, E) (A, H)) (h : Tn P G c ops m o T E = some r) :
 ∃ r', gS P G c' ops o A H = some r' ∧ St g d m F r r' := by
 unfold Tn at h;unfold gS
 split at h
 ·rename_i hok
  rw [if_pos hok];have hev : ∀ x, x ∈ o.op.operands.toList → f8 A x = (bU g d) (tEv T x) := fun x hx => hS.er.ev hG (List.all_eq_true.1 hok x hx);rw [hS.er.yield]
  split at h
  ·rename_i hw
   rw [if_pos hw];obtain ⟨⟨v, E1⟩, h1, h⟩ := aI.1 h;obtain ⟨T', h2, e⟩ := bm.1 h;cases e;obtain ⟨H', h3, h4⟩ := ajS hS.hr hc hev v E1 h1;rw [h3];exact ⟨_, rfl, hS.er.put h2, h4⟩
  ·rename_i hw
   rw [if_neg (by rw [hw]; simp)];obtain ⟨T', h2, e⟩ := bm.1 h;cases e;refine ⟨_, rfl, ?_, hS.hr⟩;have := hS.er.put h2
   rwa [sZ] at this
 ·cases h
theorem JU {c : TF} {c' : bE} (hG : ∀ b ∈ G, b < g) (hc : tk g d F c c') {ops : Array Oper} : ∀ (l : List Oper) {T : Tr Value} {E : EH} {A : List Value} {H : AH} {hist r}, St g d m F (T, E) (A, H) → Qb P G c ops m l T E hist = some r →
 (∃ r', dm P G c' ops l A H = some r' ∧ St g d m F r.2 r') ∧ ∃ t, r.1 = hist ++ t ∧ t.length = l.length + 1 ∧ ∀ i, i ≤ l.length → ∃ x y, t[i]? = some x ∧ dm P G c' ops (l.take i) A H = some y ∧ St g d m F x y := by
 intro l
 induction l with
 | nil =>
  intro T E A H hist r hS h;simp only [Qb] at h; cases h;refine ⟨⟨_, rfl, hS⟩, [(T, E)], rfl, rfl, ?_⟩;intro i hi
  have : i = 0 := by simpa using hi
  subst this;exact ⟨_, _, rfl, rfl, hS⟩
 | cons o l ih =>
  intro T E A H hist r hS h;simp only [Qb] at h;obtain ⟨q, hq, h⟩ := aI.1 h;obtain ⟨⟨A1, H1⟩, h1, hS1⟩ := MX hG hc hS hq;obtain ⟨T1, E1⟩ := q;obtain ⟨⟨r', h2, hS2⟩, t, e, hl, ht⟩ := ih hS1 h;refine ⟨⟨r', by simp only [dm, h1, bL]; exact h2, hS2⟩, (T, E) :: t, by rw [e]; simp, by simp [hl], ?_⟩;intro i hi
  cases i with
  | zero => exact ⟨_, _, rfl, rfl, hS⟩
  | succ i =>
   obtain ⟨x, y, hx, hy, hxy⟩ := ht i (by simpa using hi);exact ⟨x, y, by simpa using hx, by simp only [List.take_succ_cons, dm, h1, bL]; exact hy, hxy⟩
theorem PO {c : TF} {c' : bE} (hG : ∀ b ∈ G, b < g) (hc : tk g d F c c') {ops : Array Oper} {draw : Bool} {T : Tr Value} {E : EH} {A : List Value} {H : AH} {r} (hS : St g d m F (T, E) (A, H)) (h : Cz P G c ops m draw T E = some r) :
 ∃ r', gF P G c' ops draw A H = some r' ∧ St g d m F r r' := by
 cases draw with
 | false =>
  simp only [Cz, gF] at h ⊢;obtain ⟨q, hq, e⟩ := bm.1 h;subst e;exact (JU hG hc _ hS hq).1
 | true =>
  simp only [Cz, gF] at h ⊢
  split at h
  ·rename_i hreg
   obtain ⟨q, hq, h⟩ := aI.1 h
   split at h
   ·rename_i hall
    cases h;obtain ⟨⟨r', h1, h2⟩, t, e, hl, ht⟩ := JU hG hc _ hS hq;refine ⟨r', ?_, h2⟩;unfold nM;rw [hreg];simp only
    cases hp : ee ops.toList with
    | nil => exact h1
    | cons p ps =>
     simp only;rw [lh ?_]
     ·exact h1
     ·rw [← hp]
      intro p hpm o ho;have hx := List.all_eq_true.1 hall p hpm;unfold aiM at hx;rw [ho] at hx;simp only [List.nil_append] at e
      have st : ∀ i x, q.1[i]? = some x → St g d m F x (km P G c' ops A H i) := by
       intro i x hs
       have hi : i < t.length := by rw [e] at hs; exact (Gb.1 hs).1
       obtain ⟨x', y, hx', hy, hxy⟩ := ht i (by omega);rw [e, hx'] at hs;cases hs;unfold km;rw [hy];exact hxy
      split at hx
      ·rename_i o' x1 x2 ho' hs hs'
       cases ho';simp only [Bool.and_eq_true] at hx;have hev : ∀ x, x ∈ o.op.operands.toList → f8 (km P G c' ops A H p.1).1 x = (bU g d) (tEv x1.1 x) := fun x hxm => (st _ _ hs).er.ev hG (List.all_eq_true.1 hx.1 x hxm);rw [aiJ (st _ _ hs').hr hev, aiJ (st _ _ hs).hr hev, Ug hx.2]
      ·cases hx
   ·cases h
  ·cases h
structure Ar (g d m : Nat) (F : List AObj) (x : TR) (y : AR) : Prop where
 e : x.1 = y.1
 st : St g d m F x.2 y.2
theorem Lo {c : TF} {c' : bE} (hG : ∀ b ∈ G, b < g) (hc : tk g d F c c') : ∀ (k : Code) {T : Tr Value} {E : EH} {A : List Value} {H : AH} {r : TR}, St g d m F (T, E) (A, H) → j4 P G c N m k T E = some r →
 ∃ r', be P G c' k A H = some r' ∧ Ar g d m F r r' := by
 intro k
 induction k with
 | region id ops draw =>
  intro T E A H r hS hr;simp only [j4, be] at hr ⊢;obtain ⟨q, hq, e⟩ := bm.1 hr;obtain ⟨r', h1, h2⟩ := PO hG hc hS hq;subst e;rw [h1];exact ⟨_, rfl, rfl, h2⟩
 | seq x y ihx ihy =>
  intro T E A H r hS hr;simp only [j4, be] at hr ⊢;obtain ⟨⟨e, T1, E1⟩, hx, hr⟩ := aI.1 hr;obtain ⟨⟨e', A1, H1⟩, h1, h2⟩ := ihx hS hx;have he : e = e' := h2.e;subst he;rw [h1];simp only [bL]
  cases e with
  | normal => exact ihy h2.st hr
  | exit i => cases hr; exact ⟨_, rfl, h2⟩
  | ret => cases hr; exact ⟨_, rfl, h2⟩
 | cond b x y ihx ihy =>
  intro T E A H r hS hr;simp only [j4, be] at hr ⊢
  split at hr
  ·rename_i hok
   rw [hS.er.ev hG hok]
   split at hr
   ·rename_i e; rw [e]; simp only [Th]; exact ihx hS hr
   ·rename_i e; rw [e]; simp only [Th]; exact ihy hS hr
   ·cases hr
  ·cases hr
 | block id x ih =>
  intro T E A H r hS hr;simp only [j4, be] at hr ⊢;obtain ⟨⟨e, T1, E1⟩, hx, hr⟩ := bm.1 hr;obtain ⟨⟨e', A1, H1⟩, h1, h2⟩ := ih hS hx;have he : e = e' := h2.e;subst he;rw [h1];subst hr
  cases e with
  | normal => exact ⟨_, rfl, h2⟩
  | exit i =>
   simp only [fH]
   by_cases hi : i = id
   ·rw [if_pos hi, if_pos hi]; exact ⟨_, rfl, rfl, h2.st⟩
   ·rw [if_neg hi, if_neg hi]; exact ⟨_, rfl, h2⟩
  | ret => exact ⟨_, rfl, h2⟩
 | loop x ih =>
  intro T E A H r hS hr;simp only [j4, be] at hr ⊢
  suffices key : ∀ n T E A H, St g d m F (T, E) (A, H) → Tm (j4 P G c N m x) n T E = some r → ∃ r', fK (be P G c' x) n A H = some r' ∧ Ar g d m F r r' from by
   obtain ⟨r', h1, h2⟩ := key N T E A H hS hr;exact ⟨r', dl.2 ⟨N, h1⟩, h2⟩
  clear hr hS
  intro n
  induction n with
  | zero => intro T E A H hS hr; cases hr
  | succ n ihn =>
   intro T E A H hS hr;simp only [Tm, fK] at hr ⊢;obtain ⟨⟨e, T1, E1⟩, hx, hr⟩ := aI.1 hr;obtain ⟨⟨e', A1, H1⟩, h1, h2⟩ := ih hS hx;have he : e = e' := h2.e;subst he;rw [h1];simp only [bL]
   cases e with
   | normal => exact ihn _ _ _ _ h2.st hr
   | exit i => cases hr; exact ⟨_, rfl, h2⟩
   | ret => cases hr; exact ⟨_, rfl, h2⟩
 | skip => intro T E A H r hS hr; simp only [j4] at hr; cases hr; exact ⟨_, rfl, rfl, hS⟩
 | label l => intro T E A H r hS hr; simp only [j4] at hr; cases hr; exact ⟨_, rfl, rfl, hS⟩
 | exit i => intro T E A H r hS hr; simp only [j4] at hr; cases hr; exact ⟨_, rfl, rfl, hS⟩
 | ret => intro T E A H r hS hr; simp only [j4] at hr; cases hr; exact ⟨_, rfl, rfl, hS⟩
 | _ => intro T E A H r hS hr; cases hr
theorem PS {T : Tr Value} {E : EH} {A : List Value} {H : AH} (hS : St g d m F (T, E) (A, H)) (r : ResultVar) : lZ P A H r = (yP P T E r).map (bU g d) := by
 cases r with
 | tmp t => simp only [lZ, yP, fH]; rw [hS.er.get t]
 | cell a t =>
  simp only [lZ, yP];rw [hS.er.get a]
  cases f6 P t with
  | none => rfl
  | some n => cases n with
   | none => exact hS.hr.ld1 _
   | some n => exact hS.hr.ldN _ _
theorem aaL {T : Tr Value} {E : EH} {A : List Value} {H : AH} (hS : St g d m F (T, E) (A, H)) : ∀ rs : List ResultVar, uh P A H rs = (HY P T E rs).map (iB g d) := by
 intro rs
 induction rs with
 | nil => rfl
 | cons r rs ih =>
  simp only [uh, HY];rw [PS hS, ih]
  cases yP P T E r with
  | none => rfl
  | some v => cases HY P T E rs <;> rfl
theorem Sx {rs : List ResultVar} {x : TR} {y : AR} (h : Ar g d m F x y) : eY g d F (acP P rs x) (Xn P rs y) := by
 intro v E' hx;obtain ⟨e, T, E⟩ := x;obtain ⟨e', A, H⟩ := y;have he : e = e' := h.e;subst he;have hS := h.st;have hm := aaL (P := P) hS rs
 have key : ∀ vs, HY P T E rs = some vs → jv P A H rs = some ((bU g d) (match vs with | [v] => v | vs => .tuple vs.toArray)) := by
  intro vs hvs;unfold jv;rw [hm, hvs];simp only [fH]
  congr 1
  match vs with
  | [] => simp [iB]
  | [v] => rfl
  | v :: w :: vs => simp [iB]
 cases e with
 | exit i => cases hx
 | normal =>
  simp only [acP, Xn] at hx ⊢;obtain ⟨vs, hvs, e⟩ := bm.1 hx;cases e;rw [key vs hvs];exact ⟨H, rfl, hS.hr⟩
 | ret =>
  simp only [acP, Xn] at hx ⊢;obtain ⟨vs, hvs, e⟩ := bm.1 hx;cases e;rw [key vs hvs];exact ⟨H, rfl, hS.hr⟩
theorem Z4 : ∀ (vs : List Value) (i : Nat) (T : Tr Value) {T' : Tr Value}, M1 vs i T = some T' → ∀ t, FB T' t = if i ≤ t ∧ t < i + vs.length then (vs[t - i]?).getD undef else FB T t := by
 intro vs
 induction vs with
 | nil => intro i T T' h t; simp only [M1] at h; cases h; rw [if_neg (by simp only [List.length_nil]; omega)]
 | cons v vs ih =>
  intro i T T' h t;simp only [M1] at h;obtain ⟨T1, h1, h⟩ := aI.1 h;rw [ih _ _ h t, M0 h1]
  by_cases e1 : i + 1 ≤ t ∧ t < i + 1 + vs.length
  ·rw [if_pos e1, if_pos (by simp; omega)]
   rw [show t - i = (t - (i + 1)) + 1 from by omega, List.getElem?_cons_succ]
  ·rw [if_neg e1]
   by_cases e2 : t = i
   ·subst e2; rw [if_pos rfl, if_pos (by simp)]; simp
   ·rw [if_neg e2, if_neg (by simp; omega)]
theorem XH {D : List Nat} (hG : ∀ b ∈ G, b < g) (hD : ∀ k ∈ D, wn P k) : ∀ k, tk g d F (FA P G D N k) (fZ P G k) := by
 intro k
 induction k with
 | zero => intro E H f args hR v E' h; cases h
 | succ k ih =>
  intro E H f args hR v E' h;rw [FA] at h;rw [fZ];simp only [] at h ⊢
  cases hf : P.funcs[f]? with
  | none => rw [hf] at h; cases h
  | some fn =>
   rw [hf] at h;simp only at h ⊢
   split at h
   ·cases h
   ·rename_i hn
    rw [if_neg hn]
    cases hb : fn.body with
    | none => rw [hb] at h; cases h
    | some c =>
     rw [hb] at h;simp only at h ⊢
     split at h
     ·rename_i hle
      have hle := Nat.le_of_ble_eq_true hle;obtain ⟨T, hT, h⟩ := aI.1 h
      have hS : St g d fn.ntmps F (T, E) (iB g d args ++ List.replicate (fn.ntmps - (iB g d args).length) undef, H) := by
       refine ⟨⟨by simp; omega, fun t => ?_⟩, hR⟩;rw [Z4 _ _ _ hT];simp only [iB, List.getElem?_append, pw, Bp, List.getElem?_replicate]
       by_cases e : t < args.length
       ·rw [if_pos (show 0 ≤ t ∧ t < 0 + args.length from by omega), if_pos e]
        simp [cS e]
       ·rw [if_neg (show ¬ (0 ≤ t ∧ t < 0 + args.length) from by omega), if_neg e]
        have : FB .lf t = undef := rfl;rw [this, sZ]
        split <;> rfl
      cases hd : lH c with
      | none =>
       rw [hd] at h;obtain ⟨r, hr, h⟩ := aI.1 h;obtain ⟨r', h1, h2⟩ := Lo hG ih c hS hr;simp only;unfold qy;rw [h1];exact Sx h2 v E' h
      | some q =>
       rw [hd] at h;simp only at h ⊢
       split at h
       ·rename_i hin
        rw [lh (hD _ (by simpa using hin))];unfold acO at h;unfold pR;obtain ⟨⟨e1, T1, E1⟩, hr, h⟩ := aI.1 h;obtain ⟨⟨e2, A1, H1⟩, h1, h2⟩ := Lo hG ih q.c1 hS hr;have he : e1 = e2 := h2.e;subst he;rw [h1];simp only [bL]
        cases e1 with
        | exit i => cases h
        | ret => cases h
        | normal =>
         simp only at h ⊢
         split at h
         ·rename_i hlt
          have hlt : q.t < fn.ntmps := Nat.le_of_ble_eq_true hlt;have hlen : A1.length = fn.ntmps := h2.st.er.len;rw [if_neg (by omega)];obtain ⟨⟨T2, E2⟩, h3, h⟩ := aI.1 h;obtain ⟨⟨A2, H2⟩, h4, h5⟩ := MX hG ih h2.st h3;obtain ⟨z, h6, h⟩ := aI.1 h;obtain ⟨⟨⟨A3, H3⟩, h7, h8⟩, _⟩ := JU hG ih _ h5 h6;rw [h4];simp only [bL];rw [h7];exact Sx (x := (.normal, z.2.1, z.2.2)) (y := (.normal, A3, H3)) ⟨rfl, h8⟩ v E' h
         ·cases h
       ·cases h
     ·cases h
end
def SM (tab : List Value) : Option (Value × EH) → Bool
 | some (.bool true, E) => match E.get 0 with
  | some (.cells true cs) => F7 (eqV 0) cs tab
  | _ => false
 | _ => false
def Kz (tab : List Value) : EH := ⟨1, .nd (some (.cells true tab)) .lf .lf⟩
theorem Dc {P : Program} {D : List Nat} {N k f : Nat} {tab : List Value} (hD : ∀ k ∈ D, wn P k) (hl : tab.all du = true) (h : SM tab (FA P [0] D N k f [] (Kz tab)) = true)
 {H : AH} (hH : H.get 0 = some (.cells true tab)) : ∃ H', aF P [0] f [] H = some (.bool true, H') ∧ H.size ≤ H'.size ∧ ∀ i, i < H.size → H'.get i = H.get i := by
 obtain ⟨objs⟩ := H
 cases objs with
 | nil => cases hH
 | cons o F =>
  have ho : o = .cells true tab := by simpa [AH.get] using hH
  subst ho
  have hR : HR 1 F.length F (Kz tab) ⟨.cells true tab :: F⟩ := by
   refine ⟨rfl, bI _, by simp [AH.size, Kz, Nat.add_comm], fun b => ?_, fun b hb => ?_, fun b h1 h2 => ?_⟩
   ·cases b with
    | zero =>
     have : B6 1 F.length 0 = 0 := rfl;rw [this];show some _ = some (AObj.cells true (iB 1 F.length tab));rw [yK hl]
    | succ b =>
     have e : B6 1 F.length (b + 1) = b + 1 + F.length := by simp [B6]
     have e2 : (Kz tab).get (b + 1) = none := by
      simp only [EH.get, Kz, Tr.get]; split <;> rfl
     rw [e, e2];exact AH.get_none (by simp [AH.size]; omega)
   ·have : 1 ≤ b := hb
    obtain ⟨b, rfl⟩ : ∃ c, b = c + 1 := ⟨b - 1, by omega⟩
    simp only [EH.get, Kz, Tr.get]; split <;> rfl
   ·obtain ⟨b, rfl⟩ : ∃ c, b = c + 1 := ⟨b - 1, by omega⟩
    simp [AH.get]
  unfold SM at h
  split at h
  ·rename_i E' hE
   obtain ⟨H', h1, h2⟩ := XH (F := F) (N := N) (P := P) (by simp) hD k (Kz tab) _ f [] hR _ _ hE;refine ⟨H', ?_, ?_, fun i hi => ?_⟩
   ·have := Qr k _ _ _ _ h1
    simpa using this
   ·rw [h2.size]
    have := h2.le;simp [AH.size]; omega
   ·split at h
    ·rename_i cs hcs
     have he : cs = tab := Dq (GT 0) _ _ h;subst he
     cases i with
     | zero =>
      have := h2.get 0;rw [show B6 1 F.length 0 = 0 from rfl, hcs] at this;rw [this];show some (AObj.cells true (iB 1 F.length cs)) = _;rw [yK hl]; rfl
     | succ i =>
      have hi : i < F.length := by simpa [AH.size] using hi
      rw [h2.fr (i + 1) (by omega) (by omega)];simp [AH.get]
    ·cases h
  ·cases h
section
variable {P : Program} {w : World} {ev : Operand → Value} {d : Option Tmp} {x : Operand} {v a b : Value} {y : TypeId} {p : String} {e : Array Edge} {gd : Option (Nat × Bool)}
end
def tabC : List Value := [0,1,56,2,57,49,28,3,61,58,42,50,38,29,17,4,62,47,59,36,45,43,51,22,53,39,33,30,24,18,12,5,63,55,48,27,60,41,37,16,46,35,44,21,52,32,23,11,54,26,40,15,34,20,31,10,25,14,19,9,13,8,7,6].map fun n => .int .u8 n
theorem TT : SM tabC (FA Tryz.prog [0] [] 100000 60 25 [] (Kz tabC)) = true := by decide +kernel
theorem K7 : SM tabC (FA Tryz.prog [0] [] 100000 60 13 [] (Kz tabC)) = true := by decide +kernel
theorem ae.keeps {P : SP} {H H' : AH} (h : ae P H) (k : ∀ i, i < H.size → H'.get i = H.get i) : ae P H' := by
 obtain ⟨x, hx, hg⟩ := h
 exact ⟨x, hx, fun i o hi => by
  have := hg i o hi
  rw [k i (AH.lt_of_get this)]; exact this⟩
theorem CV {H0 : AH} (hT : H0.get 0 = some (.cells true tabC)) : Hs (Nn H0) 0 (.cells true tabC) := ⟨fun h => (Fx.refl H0).fx h 0 _ hT⟩
abbrev ITy : Ty := .int .i64
abbrev CfgTy : Ty := .pair ITy (.pair ITy (.pair ITy (.pair ITy (.pair (.int .u64) .unit))))
abbrev ClTy : Ty := .pair ITy (.pair ITy (.pair ITy (.pair ITy .unit)))
def Qg (x : ClTy.I) : Cl := ⟨x.1, x.2.1, x.2.2.1, x.2.2.2.1⟩
theorem XM {H : AH} {x : ClTy.I} {cs : List Value} (h : Abs H ClTy x cs) : cs = Cl.cells (Qg x) := by
 obtain ⟨c1, c2, rfl, h1, c3, c4, rfl, h2, c5, c6, rfl, h3, c7, c8, rfl, h4, h5⟩ := h;have h5 : c8 = [] := h5;rw [h1.1, h2.1, h3.1, h4.1, h5]
 rfl
theorem Ir {H : AH} {x : CfgTy.I} {cs : List Value} (h : Abs H CfgTy x cs) : ∃ c : eg, cs = eg.cells c := by
 obtain ⟨c1, c2, rfl, h1, c3, c4, rfl, h2, c5, c6, rfl, h3, c7, c8, rfl, h4, c9, c10, rfl, h5, h6⟩ := h;have h6 : c10 = [] := h6;obtain ⟨e5, hw⟩ := h5
 have : 0 ≤ x.2.2.2.2.1 ∧ x.2.2.2.2.1 ≤ 18446744073709551615 := by simpa [Lit.wf, IntKind.has, IntKind.min, IntKind.max, IntKind.bits, IntKind.signed] using hw
 refine ⟨⟨x.1, x.2.1, x.2.2.1, x.2.2.2.1, x.2.2.2.2.1.toNat⟩, ?_⟩;rw [h1.1, h2.1, h3.1, h4.1, e5, h6];show _ = [vi x.1, vi x.2.1, vi x.2.2.1, vi x.2.2.2.1, .int .u64 ((x.2.2.2.2.1.toNat : Nat) : Int)];rw [Int.toNat_of_nonneg this.1]
 rfl
theorem CU {H0 : AH} {v : Value} {l : List ClTy.I} (h : Abs H0 (.slice ClTy) l [v]) : Rd (Nn H0) v 4 Cl.cells (l.map Qg) := by
 have E : Enc (fun x : ClTy.I => Cl.cells (Qg x)) ClTy.w := ⟨fun _ => rfl, fun _ => rfl, by decide⟩;have r := Rd.arg (t := ClTy) (enc := fun x => Cl.cells (Qg x)) (E := E) (fun x c hx => XM hx) h;refine ⟨fun {H} hh => ?_⟩;have := r.rd hh;rw [List.flatMap_map, pw];exact this
theorem Id {P : SP} {H : AH} {k : Value × AH → OV} {Q : Value → AH → Prop} (h : ae P H) [i : Hs P 0 (.cells true tabC)] (hk : ∀ H', ae P H' → wp (k (vb true, H')) Q) : wp ((FF nX [] H).bind k) Q := by
 obtain ⟨H', e, _, hg⟩ := Dc (D := []) (fun j hj => by cases hj) (by decide) K7 (i.get h);have e' : FF nX [] H = some (vb true, H') := e;rw [e'];exact hk H' (h.keeps hg)
structure New (σ : aN) (k : Nat) : Prop where
 si : SI σ k
 js : ∀ l, l.1 ≠ 10 → σ.μ.V l = 0
theorem Ae {flow : Int} {obj : Nat} (h : obj < 4294967296) : cy flow obj % 4294967296 = obj := by
 unfold cy;omega
theorem New.lay {σ : aN} {k : Nat} (h : New σ k) (ho : σ.obs.length < 90) (f w most : Int) (hf : 0 ≤ f ∧ f < 1000) : New (σ.lay f w most) (k + 4) := by
 obtain ⟨⟨c, N, E, pts, V, obs, cells, slot, head⟩, js⟩ := h;obtain ⟨q1, q2, q3⟩ := mp most
 have hsl : cy f σ.obs.length < 18446744073709551616 := by unfold cy; omega
 have hlen : (σ.lay f w most).obs.length = σ.obs.length + 1 := by simp [aN.lay, aN.make]
 refine ⟨⟨c, by simp [aN.lay, aN.make]; omega, by simp [aN.lay, aN.make]; omega, by simp [aN.lay, aN.make]; omega, fun l => ?_, by rw [hlen]; omega, fun o ho2 => ?_, fun s i => ?_, fun o => ?_⟩, fun l hl => ?_⟩
 ·show (if l = (10, f.tmod σ.c.sh, f.tdiv σ.c.sh) then cy f σ.obs.length else σ.μ.V l) < _
  split
  ·exact hsl
  ·exact V l
 ·rw [hlen] at ho2
  unfold au;show 1 ≤ ((((σ.obs ++ [_])[o]?).map _).getD []).length ∧ ((((σ.obs ++ [_])[o]?).map _).getD []).length < 1000
  by_cases e : o < σ.obs.length
  ·rw [List.getElem?_append_left e]
   exact cells o e
  ·rw [show o = σ.obs.length from by omega, List.getElem?_append_right (bI _), Nat.sub_self]
   show 1 ≤ (List.replicate (bP most) FW).length ∧ (List.replicate (bP most) FW).length < 1000;rw [List.length_replicate];omega
 ·rw [hlen]
  show (if (10, s, i) = ((10 : Int), f.tmod σ.c.sh, f.tdiv σ.c.sh) then cy f σ.obs.length else σ.μ.V (10, s, i)) ≠ 0 → (if (10, s, i) = ((10 : Int), f.tmod σ.c.sh, f.tdiv σ.c.sh) then cy f σ.obs.length else σ.μ.V (10, s, i)) % 4294967296 < _
  split
  ·intro _
   rw [Ae (by omega)];omega
  ·intro hv
   have := slot s i hv;omega
 ·show (if ((12 : Int), (o : Int), (0 : Int)) = (10, f.tmod σ.c.sh, f.tdiv σ.c.sh) then cy f σ.obs.length else σ.μ.V (12, o, 0)) ≤ _
  rw [if_neg (by simp)];have := head o;omega
 ·show (if l = (10, f.tmod σ.c.sh, f.tdiv σ.c.sh) then cy f σ.obs.length else σ.μ.V l) = 0
  rw [if_neg (fun e => hl (by rw [e]))];exact js l hl
theorem so (c : eg) (hc : bZ c = true) : ∀ n, n ≤ 16 → New (aN.made c n) (4 * n) := by
 intro n
 induction n with
 | zero =>
  intro _;exact ⟨⟨hc, bI _, bI _, bI _, fun _ => (by show (0 : Nat) < _; omega), (by show (0 : Nat) ≤ _; omega), fun o ho => (by cases ho), fun s i h => absurd rfl h, fun o => bI _⟩, fun _ _ => rfl⟩
 | succ n ih =>
  intro hn;have h := ih (by omega);have hm := (vl c n).2.2;unfold aN.made
  split
  ·exact h.lay (by omega) _ _ _ (by omega)
  ·exact ⟨h.si.mono (by omega), h.js⟩
theorem SI.clear {σ : aN} {k : Nat} (h : SI σ k) (s i : Int) : SI (σ.mem (σ.μ.put (10, s, i) 0)) k := by
 refine ⟨h.c, h.N, h.E, h.pts, fun x => ?_, h.obs, h.cells, fun s' i' => ?_, fun o => ?_⟩
 ·show (if x = (10, s, i) then 0 else σ.μ.V x) < _
  split
  ·omega
  ·exact h.V x
 ·show (if ((10 : Int), s', i') = (10, s, i) then 0 else σ.μ.V (10, s', i')) ≠ 0 → (if ((10 : Int), s', i') = (10, s, i) then 0 else σ.μ.V (10, s', i')) % _ < _
  split
  ·intro h; exact absurd rfl h
  ·exact h.slot s' i'
 ·show (if ((12 : Int), (o : Int), (0 : Int)) = (10, s, i) then 0 else σ.μ.V (12, o, 0)) ≤ _
  rw [if_neg (by simp)];exact h.head o
section
variable (p x : Nat) (rp : List Nat) (σ : aN) (K : Nat)
theorem wj {P : SP} {H : AH} {Q : Value → AH → Prop} {k : Value × AH → OV} {a b : Int} (h : ae P H) (h0 : 0 < b) (h1 : b < 9223372036854775808) (hk : ∀ H', ae P H' → wp (k (vi (eJ a b), H')) Q) : wp ((FF bF [vi a, vi b] H).bind k) Q := by
 refine ag h (eE a b h0 h1) fun _ H1 h2 => ?_;exact hk H1 h2.to
end
theorem SI.slotput {σ : aN} {k : Nat} (h : SI σ k) (s i f : Int) (o : Nat) (hf : 0 ≤ f ∧ f ≤ 1048576) (ho : o < σ.obs.length) (hk : k < 400000) : SI (σ.mem (σ.μ.put (10, s, i) (cy f o))) k := by
 have hob := h.obs
 have hsl : cy f o < 18446744073709551616 := by unfold cy; omega
 refine ⟨h.c, h.N, h.E, h.pts, fun x => ?_, h.obs, h.cells, fun s' i' => ?_, fun o' => ?_⟩
 ·show (if x = (10, s, i) then cy f o else σ.μ.V x) < _
  split
  ·exact hsl
  ·exact h.V x
 ·show (if ((10 : Int), s', i') = (10, s, i) then cy f o else σ.μ.V (10, s', i')) ≠ 0 → (if ((10 : Int), s', i') = (10, s, i) then cy f o else σ.μ.V (10, s', i')) % _ < _
  split
  ·intro _
   rw [Ae (by omega)];exact ho
  ·exact h.slot s' i'
 ·show (if ((12 : Int), (o' : Int), (0 : Int)) = (10, s, i) then cy f o else σ.μ.V (12, o', 0)) ≤ _
  rw [if_neg (by simp)];exact h.head o'
theorem SI.make {σ : aN} {k : Nat} (h : SI σ k) (who : Int) (o : Ob) : SI (σ.make who o) (k + 3) := by
 obtain ⟨c, N, E, pts, V, obs, cells, slot, head⟩ := h;obtain ⟨q1, q2, q3⟩ := mp o.most
 have hlen : (σ.make who o).obs.length = σ.obs.length + 1 := by simp [aN.make]
 refine ⟨c, by simp [aN.make]; omega, by simp [aN.make]; omega, by simp [aN.make]; omega, V, by rw [hlen]; omega, fun o' ho2 => ?_, fun s i hv => ?_, fun o' => ?_⟩
 ·rw [hlen] at ho2
  unfold au;show 1 ≤ ((((σ.obs ++ [_])[o']?).map _).getD []).length ∧ ((((σ.obs ++ [_])[o']?).map _).getD []).length < 1000
  by_cases e : o' < σ.obs.length
  ·rw [List.getElem?_append_left e]
   exact cells o' e
  ·rw [show o' = σ.obs.length from by omega, List.getElem?_append_right (bI _), Nat.sub_self]
   show 1 ≤ (List.replicate (bP o.most) FW).length ∧ (List.replicate (bP o.most) FW).length < 1000;rw [List.length_replicate];omega
 ·rw [hlen]
  have := slot s i hv;show σ.μ.V (10, s, i) % 4294967296 < _;omega
 ·have := head o'
  show σ.μ.V (12, o', 0) ≤ _;omega
structure KeptR (σ : aN) (t : Tk) (r : aN × Tk × Bool) (k : Nat) : Prop where
 si : SI r.1 (k + 3)
 c : r.1.c = σ.c
 obs : σ.obs.length ≤ r.1.obs.length
 ok : r.2.2 = false → mJ r.1 r.2.1
 x : r.2.1.x = t.x
 who : r.2.1.who = t.who
section
variable {σ : aN} {t : Tk} {k : Nat}
theorem Hj (h : SI σ k) (T : mJ σ t) (hat : t.at' < 4) (hx : dM t.x = none) : KeptR σ t (fG σ t) k := by
 have hs : SI (lS σ t) (k + 3) := (h.swp t.who (8, t.s, 0) 0 1 (by omega) (by simp) (by simp)).mono (by omega)
 by_cases hw : σ.μ.V (8, t.s, 0) = 0
 ·have e : fG σ t = (lS σ t, { t with at' := 3 }, false) := by unfold fG; rw [if_pos hw]
  rw [e];exact ⟨hs, rfl, bI _, fun _ => ⟨T.s, fun _ => T.i hat, fun _ => hx, .inr (.inr (.inl rfl)), by simp, by simp, T.w⟩, rfl, rfl⟩
 ·have e : fG σ t = (lS σ t, { t with at' := 2 }, false) := by unfold fG; rw [if_neg hw]
  rw [e];exact ⟨hs, rfl, bI _, fun _ => ⟨T.s, fun _ => T.i hat, fun _ => hx, .inr (.inl rfl), by simp, by simp, T.w⟩, rfl, rfl⟩
theorem M8 (h : SI σ k) : SI (i8 σ t) (k + 3) := ((h.acc t.who 2 (8, t.s, 0)).put (8, t.s, 0) 0 (by omega) (by simp) (.inl (by simp))).mono (by omega)
theorem PU (h : SI σ k) (T : mJ σ t) (now : Int) (hat : t.at' = 3) : KeptR σ t (az σ t now) k := by
 have hc := bo.1 h.c;have hx : dM t.x = none := T.x (by omega);have hi := T.i (by omega);have ha : SI (ba σ t) (k + 2) := h.acc t.who 1 (10, t.s, (t.i : Int));have hn : ∀ code, SI ((ba σ t).note now t.who code) (k + 3) := fun code => ha.note now t.who code
 by_cases hfd : (aC σ t).found = true
 ·by_cases ho : t.x.op = 1
  ·have e : az σ t now = ((ba σ t).note now t.who 6, { aC σ t with at' := 6, code := 6 }, false) := by simp only [az, hat]; rw [if_pos hfd, if_pos ho]
   rw [e];exact ⟨hn 6, rfl, bI _, fun _ => ⟨T.s, by simp, fun _ => hx, .inr (.inr (.inr (.inl ⟨by simp, by simp⟩))), by simp, fun hh => by simp [aC, ho] at hh, T.w⟩, rfl, rfl⟩
  ·have e : az σ t now = (ba σ t, { aC σ t with at' := 4 }, false) := by simp only [az, hat]; rw [if_pos hfd, if_neg ho]
   have hob : (aC σ t).obj < σ.obs.length := by
    show (if (aC σ t).found = true then σ.μ.V (10, t.s, (t.i : Int)) % 4294967296 else t.obj) < _;rw [if_pos hfd];refine h.slot t.s t.i fun h0 => ?_;have : f9 (σ.μ.V (10, t.s, (t.i : Int))) t.x.flow = true := hfd;rw [h0] at this;cases this
   rw [e];exact ⟨ha.mono (by omega), rfl, bI _, fun _ => ⟨T.s, by simp, fun _ => hx, .inr (.inr (.inr (.inl ⟨by simp, by simp⟩))), fun _ hh => absurd hh ho, fun _ => hob, T.w⟩, rfl, rfl⟩
 ·have hli : (aC σ t).i = t.i + 1 := by
   show (if (aC σ t).found = true then t.i else t.i + 1) = _;rw [if_neg hfd]
  by_cases hla : bK σ (aC σ t) = true
  ·by_cases ho : t.x.op = 1
   ·by_cases hm : (aC σ t).mark < 0
    ·have e : az σ t now = ((ba σ t).note now t.who 7, { aC σ t with at' := 6, code := 7 }, false) := by simp only [az, hat]; rw [if_neg hfd, if_pos hla, if_pos ho, if_pos hm]
     rw [e];exact ⟨hn 7, rfl, bI _, fun _ => ⟨T.s, by simp, fun _ => hx, .inr (.inr (.inr (.inl ⟨by simp, by simp⟩))), by simp, fun hh => by simp [aC, ho] at hh, T.w⟩, rfl, rfl⟩
    ·have e : az σ t now = (ba σ t, { aC σ t with at' := 4 }, false) := by simp only [az, hat]; rw [if_neg hfd, if_pos hla, if_pos ho, if_neg hm]
     rw [e];exact ⟨ha.mono (by omega), rfl, bI _, fun _ => ⟨T.s, by simp, fun _ => hx, .inr (.inr (.inr (.inl ⟨by simp, by simp⟩))), fun _ _ => by show 0 ≤ (aC σ t).mark; omega, fun hh => by simp [aC, ho] at hh, T.w⟩, rfl, rfl⟩
   ·have e : az σ t now = ((ba σ t).note now t.who 5, { aC σ t with at' := 10, code := 5 }, false) := by simp only [az, hat]; rw [if_neg hfd, if_pos hla, if_neg ho]
    rw [e];exact ⟨hn 5, rfl, bI _, fun _ => ⟨T.s, by simp, fun _ => hx, .inr (.inr (.inr (.inr ⟨ho, by simp, by simp⟩))), by simp, by simp, T.w⟩, rfl, rfl⟩
  ·have e : az σ t now = (ba σ t, aC σ t, false) := by simp only [az, hat]; rw [if_neg hfd, if_neg hla]
   have hil : ((aC σ t).i : Int) < σ.c.sl := by
    have hla2 : bK σ (aC σ t) = decide (σ.c.sl ≤ ((aC σ t).i : Int)) := rfl;rw [hla2] at hla;have := of_decide_eq_false (by simpa using hla : decide (σ.c.sl ≤ ((aC σ t).i : Int)) = false);omega
   have hat' : (aC σ t).at' = 3 := hat;rw [e];exact ⟨ha.mono (by omega), rfl, bI _, fun _ => ⟨T.s, fun _ => hil, fun _ => hx, .inr (.inr (.inl hat')), by show (aC σ t).at' = 4 ∨ (aC σ t).at' = 5 → _; omega, by show (aC σ t).at' = 5 ∧ _ ∨ 4 ≤ (aC σ t).at' ∧ _ → _; omega, T.w⟩, rfl, rfl⟩
theorem Fv (now : Int) (hk : k < 300000) (h : SI σ k) (T : mJ σ t) : KeptR σ t (az σ t now) k := by
 rcases T.ats with hat | hat | hat | hat | hat
 ·cases hx : dM t.x with
  | some e =>
   have hs : az σ t now = (σ.note now t.who e, { t with code := e }, true) := by simp only [az, hat, hx]
   rw [hs];exact ⟨(h.note now t.who e).mono (by omega), rfl, bI _, (fun h => by cases h), rfl, rfl⟩
  | none =>
   have hs : az σ t now = fG σ t := by simp only [az, hat, hx]
   rw [hs];exact Hj h T (by omega) hx
 ·have hs : az σ t now = fG σ t := by simp only [az, hat]
  rw [hs];exact Hj h T (by omega) (T.x (by omega))
 ·exact PU h T now hat
 all_goals
  have hx : dM t.x = none := T.x (by omega);have hx2 := yu hx
  have fin : az σ t now = (i8 σ t, t, true) → KeptR σ t (az σ t now) k := fun hs => by
   rw [hs];exact ⟨M8 h, rfl, bI _, (fun h => by cases h), rfl, rfl⟩
  by_cases ho : t.x.op = 1
  ·by_cases h4 : t.at' = 4
   ·have hst : az σ t now = (σ.make t.who (obR σ t), { t with obj := σ.obs.length, at' := 5 }, false) := by rw [mi σ t now ho (by omega)]; simp only [yw, h4]
    rw [hst];exact ⟨h.make t.who (obR σ t), rfl, by simp [aN.make], fun _ => ⟨T.s, by simp, fun _ => hx, .inr (.inr (.inr (.inl ⟨by simp, by simp⟩))), fun _ _ => T.mark (.inl h4) ho, fun _ => by simp [aN.make], T.w⟩, rfl, rfl⟩
   by_cases h5 : t.at' = 5
   ·have hst : az σ t now = ((σ.mem ((σ.μ.acc t.who 2 (10, t.s, t.mark)).put (10, t.s, t.mark) (cy t.x.flow t.obj))).note now t.who 0, { t with at' := 6, code := 0 }, false) := by rw [mi σ t now ho (by omega)]; simp only [yw, h5]
    rw [hst];have hob := T.obj (.inl ⟨h5, ho⟩);exact ⟨((h.acc t.who 2 (10, t.s, t.mark)).slotput t.s t.mark t.x.flow t.obj hx2.1 hob (by omega)).note now t.who 0, rfl, bI _, fun _ => ⟨T.s, by simp, fun _ => hx, .inr (.inr (.inr (.inl ⟨by simp, by simp⟩))), by simp, fun hh => by simp [ho] at hh, T.w⟩, rfl, rfl⟩
   have h6 : t.at' = 6 := by omega
   exact fin (by rw [mi σ t now ho (by omega)]; simp only [yw, h6])
  ·have hm : ∀ {u : Tk}, u.x = t.x → (u.at' = 4 ∨ u.at' = 5 → u.x.op = 1 → 0 ≤ u.mark) := fun e _ hh => absurd (by rw [← e]; exact hh) ho
   by_cases h4 : t.at' = 4
   ·have hob := T.obj (.inr ⟨by omega, by omega, ho⟩)
    have hS : SI (dg σ t) (k + 3) := (h.acc t.who 1 (11, (t.obj : Int), 0)).mono (by omega)
    by_cases hw : aZ (σ.μ.V (11, (t.obj : Int), 0)) = 0
    ·have hst : az σ t now = (dg σ t, { t with w := σ.μ.V (11, (t.obj : Int), 0), at' := 8 }, false) := by rw [bR σ t now ho (by omega)]; simp only [eH, h4]; rw [if_pos hw]
     rw [hst];exact ⟨hS, rfl, bI _, fun _ => ⟨T.s, by simp, fun _ => hx, .inr (.inr (.inr (.inr ⟨ho, by simp, by simp⟩))), hm rfl, fun _ => hob, h.V _⟩, rfl, rfl⟩
    ·have hst : az σ t now = (dg σ t, { t with w := σ.μ.V (11, (t.obj : Int), 0), at' := 5 }, false) := by rw [bR σ t now ho (by omega)]; simp only [eH, h4]; rw [if_neg hw]
     rw [hst];exact ⟨hS, rfl, bI _, fun _ => ⟨T.s, by simp, fun _ => hx, .inr (.inr (.inr (.inl ⟨by simp, by simp⟩))), hm rfl, fun _ => hob, h.V _⟩, rfl, rfl⟩
   by_cases h5 : t.at' = 5
   ·have hob := T.obj (.inr ⟨by omega, by omega, ho⟩)
    have hS : SI (eL σ t) (k + 3) := (h.acc t.who 1 (2, 0, 0)).mono (by omega)
    by_cases hw : σ.μ.V (2, 0, 0) % 2 = 1
    ·have hst : az σ t now = (eL σ t, { t with q := σ.μ.V (2, 0, 0), at' := 4 }, false) := by rw [bR σ t now ho (by omega)]; simp only [eH, h5]; rw [if_pos hw]
     rw [hst];exact ⟨hS, rfl, bI _, fun _ => ⟨T.s, by simp, fun _ => hx, .inr (.inr (.inr (.inl ⟨by simp, by simp⟩))), hm rfl, fun _ => hob, T.w⟩, rfl, rfl⟩
    ·have hst : az σ t now = (eL σ t, { t with q := σ.μ.V (2, 0, 0), at' := 6 }, false) := by rw [bR σ t now ho (by omega)]; simp only [eH, h5]; rw [if_neg hw]
     rw [hst];exact ⟨hS, rfl, bI _, fun _ => ⟨T.s, by simp, fun _ => hx, .inr (.inr (.inr (.inl ⟨by simp, by simp⟩))), hm rfl, fun _ => hob, T.w⟩, rfl, rfl⟩
   by_cases h6 : t.at' = 6
   ·have hob := T.obj (.inr ⟨by omega, by omega, ho⟩)
    have hS : SI (dg σ t) (k + 3) := (h.acc t.who 1 (11, (t.obj : Int), 0)).mono (by omega)
    by_cases hw : aZ (σ.μ.V (11, (t.obj : Int), 0)) = 0
    ·have hst : az σ t now = (dg σ t, { t with w := σ.μ.V (11, (t.obj : Int), 0), mark := now, at' := 8 }, false) := by rw [bR σ t now ho (by omega)]; simp only [eH, h6]; rw [if_pos hw]
     rw [hst];exact ⟨hS, rfl, bI _, fun _ => ⟨T.s, by simp, fun _ => hx, .inr (.inr (.inr (.inr ⟨ho, by simp, by simp⟩))), hm rfl, fun _ => hob, h.V _⟩, rfl, rfl⟩
    ·have hst : az σ t now = (dg σ t, { t with w := σ.μ.V (11, (t.obj : Int), 0), mark := now, at' := 7 }, false) := by rw [bR σ t now ho (by omega)]; simp only [eH, h6]; rw [if_neg hw]
     rw [hst];exact ⟨hS, rfl, bI _, fun _ => ⟨T.s, by simp, fun _ => hx, .inr (.inr (.inr (.inr ⟨ho, by simp, by simp⟩))), hm rfl, fun _ => hob, h.V _⟩, rfl, rfl⟩
   by_cases h7 : t.at' = 7
   ·have hob := T.obj (.inr ⟨by omega, by omega, ho⟩)
    have hS : SI (eL σ t) (k + 2) := h.acc t.who 1 (2, 0, 0)
    by_cases hw : σ.μ.V (2, 0, 0) = t.q
    ·have hst : az σ t now = ((eL σ t).note t.mark t.who 8, { t with at' := 10, code := 8 }, false) := by rw [bR σ t now ho (by omega)]; simp only [eH, h7]; rw [if_pos hw]
     rw [hst];exact ⟨hS.note t.mark t.who 8, rfl, bI _, fun _ => ⟨T.s, by simp, fun _ => hx, .inr (.inr (.inr (.inr ⟨ho, by simp, by simp⟩))), hm rfl, by simp, T.w⟩, rfl, rfl⟩
    ·have hst : az σ t now = (eL σ t, { t with at' := 4 }, false) := by rw [bR σ t now ho (by omega)]; simp only [eH, h7]; rw [if_neg hw]
     rw [hst];exact ⟨hS.mono (by omega), rfl, bI _, fun _ => ⟨T.s, by simp, fun _ => hx, .inr (.inr (.inr (.inl ⟨by simp, by simp⟩))), hm rfl, fun _ => hob, T.w⟩, rfl, rfl⟩
   by_cases h8 : t.at' = 8
   ·have hob := T.obj (.inr ⟨by omega, by omega, ho⟩)
    have hS : SI (σ.mem (σ.μ.turn t.who t.obj t.w (bd t.w 2))) (k + 2) := h.turn t.who t.obj t.w 2;have hc : (σ.mem (σ.μ.turn t.who t.obj t.w (bd t.w 2))).c = σ.c := rfl
    cases hw : fD σ.μ t.obj t.w (bd t.w 2) with
    | true =>
     have hst : az σ t now = ((σ.mem (σ.μ.turn t.who t.obj t.w (bd t.w 2))).note now t.who 0, { t with at' := 9, code := 0 }, false) := by rw [bR σ t now ho (by omega)]; simp only [eH, h8]; rw [if_pos hw]
     rw [hst];exact ⟨hS.note now t.who 0, rfl, bI _, fun _ => ⟨T.s, by simp, fun _ => hx, .inr (.inr (.inr (.inr ⟨ho, by simp, by simp⟩))), hm rfl, fun _ => hob, T.w⟩, rfl, rfl⟩
    | false =>
     have hst : az σ t now = (σ.mem (σ.μ.turn t.who t.obj t.w (bd t.w 2)), { t with at' := 4 }, false) := by rw [bR σ t now ho (by omega)]; simp only [eH, h8]; rw [if_neg (by rw [hw]; simp)]
     rw [hst];exact ⟨hS.mono (by omega), rfl, bI _, fun _ => ⟨T.s, by simp, fun _ => hx, .inr (.inr (.inr (.inl ⟨by simp, by simp⟩))), hm rfl, fun _ => hob, T.w⟩, rfl, rfl⟩
   by_cases h9 : t.at' = 9
   ·have hst : az σ t now = (σ.mem ((σ.μ.acc t.who 2 (10, t.s, (t.i : Int))).put (10, t.s, (t.i : Int)) 0), { t with at' := 10 }, false) := by rw [bR σ t now ho (by omega)]; simp only [eH, h9]
    rw [hst];exact ⟨((h.acc t.who 2 (10, t.s, (t.i : Int))).clear t.s t.i).mono (by omega), rfl, bI _, fun _ => ⟨T.s, by simp, fun _ => hx, .inr (.inr (.inr (.inr ⟨ho, by simp, by simp⟩))), hm rfl, by simp, T.w⟩, rfl, rfl⟩
   have h10 : t.at' = 10 := by omega
   exact fin (by rw [bR σ t now ho (by omega)]; simp only [eH, h10])
end
theorem mJ.new {σ : aN} (hc : bZ σ.c = true) (who : Int) (x : Cl) : mJ σ (Tk.newR σ.c who x) := by
 have := bo.1 hc;exact ⟨rfl, fun _ => by simp; omega, by simp, .inl rfl, by simp, by simp, by simp⟩
theorem mJ.mono {σ σ' : aN} {t : Tk} (T : mJ σ t) (hc : σ'.c = σ.c) (ho : σ.obs.length ≤ σ'.obs.length) : mJ σ' t :=
 ⟨by rw [hc]; exact T.s, by rw [hc]; exact T.i, T.x, T.ats, T.mark, fun h => Nat.lt_of_lt_of_le (T.obj h) ho, T.w⟩
theorem hU.mono' {σ σ' : aN} {t : Tk} (T : hU σ t) (hc : σ'.c = σ.c) (ho : σ.obs.length ≤ σ'.obs.length) : hU σ' t :=
 ⟨fun h => Nat.lt_of_lt_of_le (T.obj h) ho, by rw [hc]; exact T.s, by rw [hc]; exact T.i, T.w, T.c5, T.c0, T.ats⟩
theorem Kx (σ : aN) (t : Tk) (now : Int) : (ak σ t now).2.1.x = t.x := by
 unfold ak;dsimp only
 repeat' split
 all_goals rfl
theorem WH (σ : aN) (t : Tk) (now : Int) : (ak σ t now).1.obs.length = σ.obs.length := by
 unfold ak;dsimp only
 repeat' split
 all_goals first | rfl | exact jD σ t
def bx (σ : aN) (t : Tk) (now : Int) : aN × Tk × Bool := if t.x.op = 3 then ak σ t now else az σ t now
def aT (e p : Nat) (rp : List Nat) (t : Tk) : SP := if t.x.op = 3 then eT e p rp t else rT e p rp t
def zT (xb x : Nat) (t : Tk) : SP := if t.x.op = 3 then xT xb x t else yT xb x t
def aU (e p : Nat) (rp : List Nat) (r : aN × Tk × Bool) : SP := if r.2.2 = true then emp else aT e p rp r.2.1
def zU (xb x : Nat) (r : aN × Tk × Bool) : SP := if r.2.1.x.op = 3 then xU xb x r else yU xb x r
structure FX (σ : aN) (t : Tk) : Prop where
 e : t.x.op = 3 → hU σ t
 r : t.x.op ≠ 3 → mJ σ t
def Tk.newA (c : eg) (who : Int) (x : Cl) : Tk := if x.op = 3 then Tk.new c who x else Tk.newR c who x
abbrev tkV (op : Int) (e xb : Nat) : List Value := [if op = 3 then vp e else .pointer none, if op = 3 then .pointer none else vp e, vp xb]
theorem acQ {op : Int} {e xb : Nat} (ho : op = 3) : tkV op e xb = [vp e, .pointer none, vp xb] := by simp [tkV, ho]
theorem acR {op : Int} {e xb : Nat} (ho : op ≠ 3) : tkV op e xb = [.pointer none, vp e, vp xb] := by simp [tkV, ho]
structure KeptA (σ : aN) (t : Tk) (r : aN × Tk × Bool) (k : Nat) : Prop where
 si : SI r.1 (k + 3)
 c : r.1.c = σ.c
 obs : σ.obs.length ≤ r.1.obs.length
 ok : r.2.2 = false → FX r.1 r.2.1
 x : r.2.1.x = t.x
theorem Fu {σ : aN} {t : Tk} {k : Nat} (now : Int) (hk : k < 300000) (h : SI σ k) (T : FX σ t) : KeptA σ t (bx σ t now) k := by
 by_cases ho : t.x.op = 3
 ·rw [show bx σ t now = ak σ t now from if_pos ho]
  have K := HW now hk h (T.e ho);have hx := Kx σ t now;exact ⟨K.si, K.c, Nat.le_of_eq (WH σ t now).symm, fun hf => ⟨fun _ => K.ok hf, fun hn => absurd (by rw [hx]; exact ho) hn⟩, hx⟩
 ·rw [show bx σ t now = az σ t now from if_neg ho]
  have K := Fv now hk h (T.r ho);exact ⟨K.si, K.c, K.obs, fun hf => ⟨fun hn => absurd (by rw [K.x] at hn; exact hn) ho, fun _ => K.ok hf⟩, K.x⟩
theorem FX.new {σ : aN} (hc : bZ σ.c = true) (who : Int) (x : Cl) : FX σ (Tk.newA σ.c who x) := by
 by_cases ho : x.op = 3
 ·rw [show Tk.newA σ.c who x = Tk.new σ.c who x from if_pos ho]
  exact ⟨fun _ => hU.new hc who x, fun h => absurd ho h⟩
 ·rw [show Tk.newA σ.c who x = Tk.newR σ.c who x from if_neg ho]
  exact ⟨fun h => absurd h ho, fun _ => mJ.new hc who x⟩
theorem FX.mono {σ σ' : aN} {t : Tk} (T : FX σ t) (hc : σ'.c = σ.c) (ho : σ.obs.length ≤ σ'.obs.length) : FX σ' t := ⟨fun h => (T.e h).mono' hc ho, fun h => (T.r h).mono hc ho⟩
theorem ajQ (c : eg) (who : Int) (x : Cl) : (Tk.newA c who x).x = x := by unfold Tk.newA; split <;> rfl
theorem acS (xb x : Nat) (t : Tk) (C : Xk → Prop) (d : Bool) (c : Int) (hC : d = true → ∀ k, C k → k.code = c) (c' : Int) (hc' : c' = if d = true then c else 0) :
 Sp kC [vp xb, vb d] (ex fun k : Xk => pu (C k) * xB xb x t k) (fun _ : Unit => .agg (ef c').toArray) (fun _ => ex fun k : Xk => pu (C k) * xB xb x t k) := by
 subst hc';refine aP fun R H h => ?_;obtain ⟨k, h1⟩ := ae.ex.1 h;rw [ai, ae.pu] at h1;obtain ⟨hk, h1⟩ := h1;refine bg (fun r => AC _ _ H) ?_;refine bf h1 fun b H2 h2 => ?_;have back : ∀ {H' : AH}, ae (xB xb x t k * R) H' → ae ((ex fun k : Xk => pu (C k) * xB xb x t k) * R) H' := fun h => ae.ex.2 ⟨k, by rw [ai]; exact ae.pu.2 ⟨hk, h⟩⟩;cases d
 ·refine gs ?_
  refine iz ?_;refine cX h2 rfl rfl fun H3 h3 => ?_;refine aJ h3 ?_;exact aq ⟨(), rfl, back h3.to⟩
 ·refine gs ?_
  have hk2 := hC rfl k hk;refine Tv h2 ac ?_;rw [hk2];refine cX h2 rfl rfl fun H3 h3 => ?_;refine aJ h3 ?_;exact aq ⟨(), rfl, back h3.to⟩
theorem aj8 (xb x : Nat) (r : aN × Tk × Bool) : Sp kC [vp xb, vb r.2.2] (zU xb x r) (fun _ : Unit => .agg (ef (if r.2.2 = true then r.2.1.code else 0)).toArray) (fun _ => zU xb x r) := by
 unfold zU
 split
 ·exact acS xb x r.2.1 _ r.2.2 r.2.1.code (fun hd k hk => by rw [if_pos hd] at hk; exact hk) _ rfl
 ·exact acS xb x r.2.1 _ r.2.2 r.2.1.code (fun hd k hk => by rw [if_pos hd] at hk; exact hk) _ rfl
theorem ajA (d : Bool) : ap .bool .eql (vb d) (vb d) = some (vb true) := by cases d <;> rfl
section
variable (p x : Nat) (rp : List Nat)
theorem Ib {pb b6 b9 tb xb : Nat} {x0 x1 : Value} {c : Int} {σ : aN} {r : aN × Tk × Bool} {x7 x8 : Value} {R : SP} {H : AH} (hc : c = if r.2.2 = true then r.2.1.code else 0)
 (h : ae (blk tb (.cells false [x0, x1, vp xb]) * (blk pb (.cells false [vp p, vp x]) * (blk b6 (.cells false [vi 0, .slice none 0 0, vi 0, vw 0]) * (blk b9 (.cells false (ef c)) * (zU xb x r * (bn p rp σ * (aK x σ * R))))))) H) :
 wp (ie (vp tb) (vp pb) (vp b6) x7 x8 (vp b9) (vb r.2.2) (vb r.2.2) H) fun v' H' => v' = .tuple #[.agg (ef c).toArray, vb r.2.2, vb true] ∧ ae (zU xb x r * (bn p rp σ * (aK x σ * R))) H' := by
 refine ah (t4 ..) ?_;refine aJ h ?_;refine aa (ajA _) ?_;refine gs ?_;refine aJ h ?_;refine gs ?_;refine aj h aA rfl ?_;refine gs ?_;refine ag h (aj8 xb x r) fun _ H1 h1 => ?_;rw [← hc];refine dA h1 h rfl ?_;refine dA h1 h rfl ?_;refine gs ?_;refine ag h1 (xl c) fun _ H2 h2 => ?_;refine dA h2 h rfl ?_;refine gs ?_;refine aj h2 aA rfl ?_;refine gs ?_;obtain ⟨g, hrp, hg, k1⟩ := dZ (p := p) (rp := rp) (σ := σ) (R := aK x σ * (blk b9 (.cells false (ef c)) * (blk b6 (.cells false [vi 0, .slice none 0 0, vi 0, vw 0]) * (blk pb (.cells false [vp p, vp x]) * (zU xb x r * R))))) (H := H2) h2.to;obtain ⟨gx, hgx, l1⟩ := fq (p := x) (σ := σ) (R := aE p g σ * (blk b9 (.cells false (ef c)) * (blk b6 (.cells false [vi 0, .slice none 0 0, vi 0, vw 0]) * (blk pb (.cells false [vp p, vp x]) * (zU xb x r * R))))) (H := H2) k1.to;obtain ⟨kv, vv, ev, Z, m1, back⟩ := Ht (x := x) (g := gx) (σ := σ) (R := aE p g σ * (blk b9 (.cells false (ef c)) * (blk b6 (.cells false [vi 0, .slice none 0 0, vi 0, vw 0]) * (blk pb (.cells false [vp p, vp x]) * (zU xb x r * R))))) (H := H2) l1.to;refine gs ?_;refine aj m1 ac rfl ?_;refine gs ?_;have bl : Sp fA [vp g.m] (aE p g σ) (fun _ : Unit => vi σ.μ.E.length) (fun _ => aE p g σ) := KO (p := p) (g := g) (σ := σ) (SG g.m σ.μ);refine ag m1 bl fun _ H3 m2 => ?_;refine dA m2 h rfl ?_;refine j5 ?_;refine bz aA ?_;refine gs ?_;refine aR m2 rfl ?_;refine aH m1 m2 (by rfl) ?_;refine j5 ?_;refine bz ac ?_;refine gs ?_;refine aR m2 rfl ?_;refine aH m1 m2 (by rfl) ?_;refine j5 ?_;refine bz ac ?_;refine gs ?_;refine aR m2 rfl ?_;refine aH m1 m2 (by rfl) ?_;refine gs ?_;refine yV (s := ev) (l := σ.μ.E) m2 ?_;refine Ai ?_;refine gs ?_;refine aa (bk rfl) ?_;refine gs ?_;refine cX m2 rfl rfl fun H4 m4 => ?_;refine aH m4 m2 (by rfl) ?_;refine aH m4 m2 (by rfl) ?_;refine aH m4 m2 (by rfl) ?_;refine Ai ?_;refine aJ m4 ?_;have m3 := back (R' := aE p g σ * (zU xb x r * R)) (H' := H4) m4.to;have n4 := dd (p := x) (σ := σ) (R := aE p g σ * (zU xb x r * R)) gx hgx m3;have n5 := bG (p := p) (rp := rp) (σ := σ) (R := aK x σ * (zU xb x r * R)) (H := H4) g hrp hg n4.to;exact aq ⟨rfl, n5.to⟩
theorem WU (e xb : Nat) (σ : aN) (t : Tk) (now : Int) (K : Nat) (S : SI σ K) (hK : K < 290000) (T : FX σ t) :
 Sp lI [.agg (tkV t.x.op e xb).toArray, .agg [vp p, vp x].toArray, vi now] (aT e p rp t * (bn p rp σ * (zT xb x t * aK x σ)))
  (fun _ : List Nat => .tuple #[.agg (ef (if (bx σ t now).2.2 = true then (bx σ t now).2.1.code else 0)).toArray, vb (bx σ t now).2.2, vb true])
  (fun rp' => pu (rp <+: rp') * (aU e p rp' (bx σ t now) * (zU xb x (bx σ t now) * (bn p rp' (bx σ t now).1 * aK x (bx σ t now).1)))) := by
 refine aP fun R H h => ?_
 by_cases ho : t.x.op = 3
 ·have hA : bx σ t now = ak σ t now := if_pos ho
  have hx3 : (ak σ t now).2.1.x.op = 3 := by rw [Kx]; exact ho
  rw [hA, acQ ho];refine bg (fun r => pr _ _ _ H) ?_;refine aS (l := [vp e, .pointer none, vp xb]) h fun tb H1 h1 => ?_;refine aS (l := [vp p, vp x]) h1 fun pb H2 h2 => ?_;refine bf h2 fun b6 H3 h3 => ?_;refine bf h3 fun b9 H4 h4 => ?_;refine ah (lR ..) ?_;refine aj h4 aA rfl ?_;refine aa (v := vb true) rfl ?_;refine gs ?_;refine aj h4 aA rfl ?_
  have h5 : ae (eP e p rp σ t * (xP xb x σ t * (blk tb (.cells false [vp e, .pointer none, vp xb]) * (blk pb (.cells false [vp p, vp x]) * (blk b6 (.cells false [vi 0, .slice none 0 0, vi 0, vw 0]) * (blk b9 (.cells false [vi 0, .slice none 0 0, vi 0, vw 0]) * R)))))) H4 := by
   rw [QO, aiQ];unfold aT zT at h4;rw [if_pos ho, if_pos ho] at h4;exact h4.to
  refine ag h5 (Lz e p rp σ t now (S.ok (by omega)) (T.e ho)) fun _ H5 h6 => ?_;refine aa (v := .agg (ef (if (ak σ t now).2.2 = true then (ak σ t now).2.1.code else 0)).toArray) rfl ?_;refine aa (v := vb (ak σ t now).2.2) rfl ?_;refine cX h6 rfl rfl fun H7 h7 => ?_;refine aj h7 aA rfl ?_;refine ag h7 (If xb x σ t now (S.ok (by omega)) (T.e ho)) fun _ H8 h8 => ?_;rw [aiR, ahO] at h8;refine Aj ?_ (Ib p x rp (xb := xb) (x0 := vp e) (x1 := .pointer none) (pb := pb) (tb := tb) (b6 := b6) (b9 := b9) (σ := (ak σ t now).1) (r := ak σ t now) (R := eU e p rp (ak σ t now) * R) (H := H8) rfl (by unfold zU; rw [if_pos hx3]; exact h8.to))
  rintro v' H' ⟨rfl, h9⟩
  refine ⟨rp, rfl, ?_⟩;rw [ai, ae.pu];refine ⟨lw _, ?_⟩
  have ea : aU e p rp (ak σ t now) = eU e p rp (ak σ t now) := by
   unfold aU eU aT;rw [if_pos hx3]
  rw [ea];exact h9.to
 ·have hA : bx σ t now = az σ t now := if_neg ho
  have KR := Fv now (by omega) S (T.r ho)
  have hx3 : ¬ (az σ t now).2.1.x.op = 3 := by rw [KR.x]; exact ho
  rw [hA, acR ho];refine bg (fun r => pr _ _ _ H) ?_;refine aS (l := [.pointer none, vp e, vp xb]) h fun tb H1 h1 => ?_;refine aS (l := [vp p, vp x]) h1 fun pb H2 h2 => ?_;refine bf h2 fun b6 H3 h3 => ?_;refine bf h3 fun b9 H4 h4 => ?_;refine ah (lR ..) ?_;refine aj h4 aA rfl ?_;refine aa (v := vb false) rfl ?_;refine gs ?_;refine aj h4 aA rfl ?_;refine aa (v := vb true) rfl ?_;refine gs ?_;refine aj h4 aA rfl ?_
  have h5 : ae (rT e p rp t * (bn p rp σ * (yT xb x t * (aK x σ * (blk tb (.cells false [.pointer none, vp e, vp xb]) * (blk pb (.cells false [vp p, vp x]) * (blk b6 (.cells false [vi 0, .slice none 0 0, vi 0, vw 0]) * (blk b9 (.cells false [vi 0, .slice none 0 0, vi 0, vw 0]) * R)))))))) H4 := by
   unfold aT zT at h4;rw [if_neg ho, if_neg ho] at h4;exact h4.to
  refine ag h5 (ab0 e p rp σ t now (S.ok (by omega)) (T.r ho)) fun rp' H5 h6 => ?_;unfold rQ at h6;rw [ai, ae.pu] at h6;obtain ⟨hpre, h6⟩ := h6;refine aa (v := .agg (ef (if (az σ t now).2.2 = true then (az σ t now).2.1.code else 0)).toArray) rfl ?_;refine aa (v := vb (az σ t now).2.2) rfl ?_;refine cX h6 rfl rfl fun H7 h7 => ?_;refine aj h7 aA rfl ?_;refine ag h7 (W8 xb x σ t now (S.ok (by omega)) (T.r ho)) fun _ H8 h8 => ?_;refine Aj ?_ (Ib p x rp' (xb := xb) (x0 := .pointer none) (x1 := vp e) (pb := pb) (tb := tb) (b6 := b6) (b9 := b9) (σ := (az σ t now).1) (r := az σ t now) (R := rU e p rp' (az σ t now) * R) (H := H8) rfl (by unfold zU; rw [if_neg hx3]; exact h8.to))
  rintro v' H' ⟨rfl, h9⟩
  refine ⟨rp', rfl, ?_⟩;rw [ai, ae.pu];refine ⟨hpre, ?_⟩
  have ea : aU e p rp' (az σ t now) = rU e p rp' (az σ t now) := by
   unfold aU rU aT;rw [if_neg hx3]
  rw [ea];exact h9.to
theorem TU (σ : aN) (hc : bZ σ.c = true) (hN : σ.μ.N < 1000000) (who place : Int) (c : Cl) :
 Sp sw [.agg [vp p, vp x].toArray, vi who, vi place, .agg (Cl.cells c).toArray] (bn p rp σ * aK x σ) (fun g : Nat × Nat => .agg (tkV c.op g.1 g.2).toArray)
  (fun g => aT g.1 p rp (Tk.newA σ.c who c) * (zT g.2 x (Tk.newA σ.c who c) * (bn p rp (σ.begin who place) * aK x (σ.begin who place)))) := by
 refine br (JL _ _ _ _) fun R H h => ?_;refine aS (l := [vp p, vp x]) h fun pb H1 h1 => ?_;refine aS h1 fun cb H2 h2 => ?_;refine bf h2 fun b3 H3 h3 => ?_;refine aJ h3 ?_;refine ag h3 (EK p x rp σ who place hN) fun _ H4 h4 => ?_;refine aj h4 aA rfl ?_;refine aJ h4 ?_;have hcb : bZ (σ.begin who place).c = true := hc
 by_cases ho : c.op = 3
 ·refine ag h4 (AL x (σ.begin who place) who c 0) fun xb H5 h5 => ?_
  refine iz ?_;refine bf h5 fun b5 H6 h6 => ?_;refine cX h6 rfl rfl fun H7 h7 => ?_;refine ah (qO ..) ?_;refine aj h7 aA rfl ?_;refine aa (bk ho) ?_;refine gs ?_;refine aj h7 aA rfl ?_;refine aJ h7 ?_;refine ag h7 (Ly p rp (σ.begin who place) hcb who c) fun e H8 h8 => ?_;refine bi h8 aA rfl rfl fun H9 h9 => ?_;refine ah (qP ..) ?_;refine aJ h9 ?_;refine cX h9 rfl rfl fun HA hA => ?_;refine aJ hA ?_;refine aq ⟨(e, xb), by rw [acQ ho], ?_⟩;rw [show Tk.newA σ.c who c = Tk.new σ.c who c from if_pos ho];rw [show aT (e, xb).1 p rp (Tk.new σ.c who c) = eT e p rp (Tk.new σ.c who c) from if_pos ho, show zT (e, xb).2 x (Tk.new σ.c who c) = xT xb x (Tk.new σ.c who c) from if_pos ho];exact hA.to
 ·have nt : Sp iS [vp x, vi who, .agg (Cl.cells c).toArray] emp (fun b : Nat => vp b) (fun b => yT b x (Tk.newR σ.c who c)) := by
   refine br (sN _ _ _) fun R H h => ?_;refine aS h fun b H1 h1 => ?_;refine aJ h1 ?_;refine iz ?_;refine aS h1 fun xb H2 h2 => ?_;refine aq ⟨xb, rfl, ?_⟩;unfold yT;refine ae.ex.2 ⟨⟨0, 0, -1, false, 0, 0, 0, 0, 0, 0, 0⟩, ?_⟩;rw [ai, ae.pu];exact ⟨CF rfl (by simp) ⟨rfl, rfl⟩, h2.to⟩
  refine ag h4 nt fun xb H5 h5 => ?_;refine iz ?_;refine bf h5 fun b5 H6 h6 => ?_;refine cX h6 rfl rfl fun H7 h7 => ?_;refine ah (qO ..) ?_;refine aj h7 aA rfl ?_;refine aa (aG ho) ?_;refine gs ?_;refine aj h7 aA rfl ?_;refine aJ h7 ?_;refine ag h7 (abY p rp (σ.begin who place) hcb who c) fun e H8 h8 => ?_;refine bi h8 aA rfl rfl fun H9 h9 => ?_;refine ah (qP ..) ?_;refine aJ h9 ?_;refine cX h9 rfl rfl fun HA hA => ?_;refine aJ hA ?_;refine aq ⟨(e, xb), by rw [acR ho], ?_⟩;rw [show Tk.newA σ.c who c = Tk.newR σ.c who c from if_neg ho];rw [show aT (e, xb).1 p rp (Tk.newR σ.c who c) = rT e p rp (Tk.newR σ.c who c) from if_neg ho, show zT (e, xb).2 x (Tk.newR σ.c who c) = yT xb x (Tk.newR σ.c who c) from if_neg ho];exact hA.to
end

abbrev Wk := Option (Nat × Nat × Tk)
def WkR (σ : aN) (q : Wk) : Prop := match q with
 | none => True
 | some q => FX σ q.2.2
structure WsR (σ : aN) (ws : List Wk) (ats : List Nat) : Prop where
 l : ws.length = 4
 al : ats.length = 4
 r : ∀ w (h : w < 4), WkR σ (ws[w]'(by omega))
theorem WkR.mono {σ σ' : aN} {q : Wk} (h : WkR σ q) (hc : σ'.c = σ.c) (ho : σ.obs.length ≤ σ'.obs.length) : WkR σ' q := by
 cases q with
 | none => trivial
 | some q => exact FX.mono (show FX σ q.2.2 from h) hc ho
theorem WsR.mono {σ σ' : aN} {ws : List Wk} {ats : List Nat} (h : WsR σ ws ats) (hc : σ'.c = σ.c) (ho : σ.obs.length ≤ σ'.obs.length) : WsR σ' ws ats :=
 ⟨h.l, h.al, fun w hw => (h.r w hw).mono hc ho⟩
theorem WsR.set {σ : aN} {ws : List Wk} {ats : List Nat} (h : WsR σ ws ats) {w : Nat} (hw : w < 4) {q : Wk} (a : Nat) (hq : WkR σ q) : WsR σ (ws.set w q) (ats.set w a) := by
 refine ⟨by simp [h.l], by simp [h.al], fun w' hw' => ?_⟩;rw [List.getElem_set]
 by_cases e : w = w'
 ·rw [if_pos e]; exact hq
 ·rw [if_neg e]; exact h.r w' hw'
theorem agD (b : Nat) : ap .ptr .neq (vp b) (.pointer none) = some (vb true) := rfl
abbrev SlT := Option Addr × Nat × Nat
abbrev slv (x : SlT) : Value := .slice x.1 x.2.1 x.2.2
abbrev ak6 (x : SlT) : List Value := [slv x]
instance : Enc ak6 1 := ⟨fun _ => rfl, fun _ => rfl, by omega⟩
structure AfterR (σ σ' : aN) (k : Nat) : Prop where
 si : SI σ' k
 c : σ'.c = σ.c
 obs : σ'.obs.length = σ.obs.length
section
variable (p x : Nat) (rp : List Nat) (σ : aN) (K : Nat)
end
instance {c : Bool} {e1 : Option Value} {k : Value → OV} : Gd ((EI (yv undef) c e1 (some undef)).bind k) (k undef) := ⟨fun h => by cases c <;> exact h⟩
theorem alY {xb x : Nat} {r : aN × Tk × Bool} (h : r.2.2 = false) : zU xb x r = zT xb x r.2.1 := by
 unfold zU zT
 split
 ·exact aiS h
 ·unfold yU yT
  simp only [h]
  rfl
theorem akZ {e p : Nat} {rp : List Nat} {r : aN × Tk × Bool} (h : r.2.2 = false) : aU e p rp r = aT e p rp r.2.1 := by
 unfold aU;rw [if_neg (by rw [h]; simp)]
section
variable (p x pb tb ab : Nat) (lb : Nat) (LL : List (SlT × List Cl)) (pv : Value) (picks : List Int) (blows : Bool) (most : Nat)
variable (I : aN → List Wk → Prop)
variable (x10 x11 : Value) (Z : SP)
variable (hL : LL.length = 4) (hQ : ∀ q ∈ LL, q.2.length ≤ 1000) (hm : most ≤ 500) [hP : Rd Z pv 1 l5 picks]
variable (hIs : ∀ (σ : aN) (ws : List Wk) (w : Nat) (q : Nat × Nat × Tk) (now : Int) (K : Nat), K < 20000 → SI σ K → ws.length = 4 → ws[w]? = some (some q) → FX σ q.2.2 → I σ ws →
 I (bx σ q.2.2 now).1 (ws.set w (if (bx σ q.2.2 now).2.2 = true then none else some (q.1, q.2.1, (bx σ q.2.2 now).2.1))))
variable (hIb : ∀ (σ : aN) (ws : List Wk) (w e xk : Nat) (place : Int) (c : Cl), bZ σ.c = true → ws.length = 4 → ws[w]? = some none → I σ ws → I (σ.begin w place) (ws.set w (some (e, xk, Tk.newA σ.c w c))))
variable (hIt : blows = true → ∀ (σ σ' : aN) (ws : List Wk) (k : Nat), AfterR σ σ' k → I σ ws → I σ' ws)
include hL hm hP hIs hIb hIt
end
def i9 : Nat → aN → Tk → Int → Option (aN × Tk × Int)
 | 0, _, _, _ => none
 | n + 1, σ, t, now => if (bx σ t now).2.2 = true then some ((bx σ t now).1, (bx σ t now).2.1, now + 1) else i9 n (bx σ t now).1 (bx σ t now).2.1 (now + 1)
theorem rz : ∀ (n : Nat) (σ : aN) (t : Tk) (now : Int) (k : Nat) (res : aN × Tk × Int), SI σ k → FX σ t → k + 3 * n < 300000 → i9 n σ t now = some res → SI res.1 (k + 3 * n) ∧ res.1.c = σ.c ∧ now < res.2.2 ∧ res.2.2 ≤ now + n := by
 intro n
 induction n with
 | zero => intro σ t now k res _ _ _ h; cases h
 | succ n ih =>
  intro σ t now k res S T hk h;have K := Fu now (by omega) S T;unfold i9 at h
  by_cases hd : (bx σ t now).2.2 = true
  ·rw [if_pos hd] at h
   obtain rfl := gr h;exact ⟨K.si.mono (by omega), K.c, by show now < now + 1; omega, by show now + 1 ≤ _; omega⟩
  ·rw [if_neg hd] at h
   obtain ⟨h1, h2, h3, h4⟩ := ih _ _ _ _ _ K.si (K.ok (by simpa using hd)) (by omega) h;exact ⟨h1.mono (by omega), h2.trans K.c, by omega, by omega⟩
theorem K5 : ∀ (n m : Nat) (σ : aN) (t : Tk) (now : Int) (res : aN × Tk × Int), n ≤ m → i9 n σ t now = some res → i9 m σ t now = some res := by
 intro n
 induction n with
 | zero => intro m σ t now res _ h; cases h
 | succ n ih =>
  intro m σ t now res hm h;obtain ⟨m, rfl⟩ : ∃ m', m = m' + 1 := ⟨m - 1, by omega⟩;unfold i9 at h ⊢
  by_cases hd : (bx σ t now).2.2 = true
  ·rw [if_pos hd] at h ⊢; exact h
  ·rw [if_neg hd] at h ⊢; exact ih m _ _ _ _ (by omega) h
abbrev upd (V : cO → Nat) (l : cO) (v : Nat) : cO → Nat := fun x => if x = l then v else V x
section
variable {V : cO → Nat} {l x : cO} {v : Nat}
theorem upd_ne (h : x ≠ l) : upd V l v x = V x := if_neg h
theorem oX : upd V l v l = v := if_pos rfl
theorem te (h : V l = 0) (u : Nat) : upd (upd V l u) l 0 = V := by
 funext z
 show (if z = l then 0 else if z = l then u else V z) = V z
 by_cases e : z = l
 ·rw [if_pos e, e, h]
 ·rw [if_neg e, if_neg e]
end
theorem qt {μ : Mu} {who : Int} {l : cO} {was now : Nat} (h : μ.V l = was) : (μ.swp who l was now).V = upd μ.V l now := by
 show (μ.swap who l was now).V = _;unfold Mu.swap;rw [if_pos h]
def ju (n : Nat) (σ : aN) (t : Tk) (now : Int) (P : aN → Int → Prop) : Prop := ∃ res, i9 n σ t now = some res ∧ P res.1 res.2.1.code
structure Sm (σ σ' : aN) : Prop where
 c : σ'.c = σ.c
 V : σ'.μ.V = σ.μ.V
 obs : σ'.obs = σ.obs
theorem Sm.rfl' {σ : aN} : Sm σ σ := ⟨rfl, rfl, rfl⟩
theorem Sm.trans {σ σ1 σ2 : aN} (a : Sm σ σ1) (b : Sm σ1 σ2) : Sm σ σ2 := ⟨b.c.trans a.c, b.V.trans a.V, b.obs.trans a.obs⟩
section
variable {n m : Nat} {σ σ1 : aN} {t t1 : Tk} {now : Int} {P P' : aN → Int → Prop}
theorem ju.step (h : bx σ t now = (σ1, t1, false)) (k : ju n σ1 t1 (now + 1) P) : ju (n + 1) σ t now P := by
 obtain ⟨res, h1, h2⟩ := k;refine ⟨res, ?_, h2⟩;unfold i9;rw [h, if_neg (by simp)];exact h1
theorem ju.last (h : bx σ t now = (σ1, t1, true)) (p : P σ1 t1.code) : ju (n + 1) σ t now P := by
 refine ⟨(σ1, t1, now + 1), ?_, p⟩;unfold i9;rw [h, if_pos rfl]
theorem ju.mono (h : n ≤ m) (k : ju n σ t now P) : ju m σ t now P := by
 obtain ⟨res, h1, h2⟩ := k;exact ⟨res, K5 _ _ _ _ _ _ h h1, h2⟩
theorem ju.congr (h : bx σ t now = bx σ t1 now) (k : ju n σ t1 now P) : ju n σ t now P := by
 obtain ⟨res, h1, h2⟩ := k
 cases n with
 | zero => cases h1
 | succ n =>
  refine ⟨res, ?_, h2⟩;unfold i9 at h1 ⊢;rw [h];exact h1
end
theorem cg {σ : aN} {t : Tk} {now : Int} (hx : t.x.op = 3) : bx σ t now = ak σ t now := if_pos hx
theorem dW {σ : aN} {t : Tk} {now : Int} (hx : ¬ t.x.op = 3) : bx σ t now = az σ t now := if_neg hx
section
variable (who s : Int) (x : Cl) (i o : Nat) (f : Bool) (w q : Nat) (mk : Int) (tp : Nat) (cd : Int) (σ : aN) (now : Int) (hx : x.op = 3)
include hx
theorem e0e {e : Int} (h : cL x = some e) : bx σ ⟨who, x, s, 0, i, o, f, w, q, mk, tp, cd⟩ now = (σ.note now who e, ⟨who, x, s, 0, i, o, f, w, q, mk, tp, e⟩, true) := by
 rw [cg hx]; simp only [ak, h]
theorem e0 (h : cL x = none) : bx σ ⟨who, x, s, 0, i, o, f, w, q, mk, tp, cd⟩ now = bx σ ⟨who, x, s, 2, i, o, f, w, q, mk, tp, cd⟩ now := by
 rw [cg hx, cg hx]; simp only [ak, h]; rfl
theorem e2h (h : f9 (σ.μ.V (10, s, (i : Int))) x.flow = true) : bx σ ⟨who, x, s, 2, i, o, f, w, q, mk, tp, cd⟩ now = (σ.mem (σ.μ.acc who 1 (10, s, (i : Int))), ⟨who, x, s, 6, i + 1, σ.μ.V (10, s, (i : Int)) % 4294967296, true, w, q, mk, tp, cd⟩, false) := by
 rw [cg hx]; simp only [ak, aW, h]; rfl
theorem e2m (h : f9 (σ.μ.V (10, s, (i : Int))) x.flow = false) (hl : ((i + 1 : Nat) : Int) < σ.c.sl) : bx σ ⟨who, x, s, 2, i, o, f, w, q, mk, tp, cd⟩ now = (σ.mem (σ.μ.acc who 1 (10, s, (i : Int))), ⟨who, x, s, 2, i + 1, o, false, w, q, mk, tp, cd⟩, false) := by
 have e : bK σ ⟨who, x, s, 2, i + 1, o, false, w, q, mk, tp, cd⟩ = false := dP (by show ¬ σ.c.sl ≤ ((i + 1 : Nat) : Int); omega);rw [cg hx]; simp only [ak, aW, h];show (ba σ _, (⟨_, _, _, (if bK σ ⟨who, x, s, 2, i + 1, o, false, w, q, mk, tp, cd⟩ = true then 3 else 2), _, _, _, _, _, _, _, _⟩ : Tk), false) = _;rw [e]; rfl
theorem e2l (h : f9 (σ.μ.V (10, s, (i : Int))) x.flow = false) (hl : σ.c.sl ≤ ((i + 1 : Nat) : Int)) : bx σ ⟨who, x, s, 2, i, o, f, w, q, mk, tp, cd⟩ now = (σ.mem (σ.μ.acc who 1 (10, s, (i : Int))), ⟨who, x, s, 3, i + 1, o, false, w, q, mk, tp, cd⟩, false) := by
 have e : bK σ ⟨who, x, s, 2, i + 1, o, false, w, q, mk, tp, cd⟩ = true := dj hl;rw [cg hx]; simp only [ak, aW, h];show (ba σ _, (⟨_, _, _, (if bK σ ⟨who, x, s, 2, i + 1, o, false, w, q, mk, tp, cd⟩ = true then 3 else 2), _, _, _, _, _, _, _, _⟩ : Tk), false) = _;rw [e]; rfl
theorem e3 (h : σ.μ.V (8, s, 0) = 0) : bx σ ⟨who, x, s, 3, i, o, f, w, q, mk, tp, cd⟩ now = (σ.mem (σ.μ.swp who (8, s, 0) 0 1), ⟨who, x, s, 4, 0, o, f, w, q, mk, tp, cd⟩, false) := by
 rw [cg hx]; simp only [ak]; rw [if_pos h]
theorem e4m (h : f9 (σ.μ.V (10, s, (i : Int))) x.flow = false) (hl : ((i + 1 : Nat) : Int) < σ.c.sl) : bx σ ⟨who, x, s, 4, i, o, f, w, q, mk, tp, cd⟩ now = (σ.mem (σ.μ.acc who 1 (10, s, (i : Int))), ⟨who, x, s, 4, i + 1, o, false, w, q, mk, tp, cd⟩, false) := by
 have e : bK σ ⟨who, x, s, 4, i + 1, o, false, w, q, mk, tp, cd⟩ = false := dP (by show ¬ σ.c.sl ≤ ((i + 1 : Nat) : Int); omega);rw [cg hx]; simp only [ak, aW, h];show (if bK σ ⟨who, x, s, 4, i + 1, o, false, w, q, mk, tp, cd⟩ = true then _ else (ba σ _, (⟨who, x, s, 4, i + 1, o, false, w, q, mk, tp, cd⟩ : Tk), false)) = _;rw [e]; rfl
theorem e4l (h : f9 (σ.μ.V (10, s, (i : Int))) x.flow = false) (hl : σ.c.sl ≤ ((i + 1 : Nat) : Int)) : bx σ ⟨who, x, s, 4, i, o, f, w, q, mk, tp, cd⟩ now = ((σ.mem (σ.μ.acc who 1 (10, s, (i : Int)))).note now who 5, ⟨who, x, s, 5, i + 1, o, false, w, q, mk, tp, 5⟩, false) := by
 have e : bK σ ⟨who, x, s, 4, i + 1, o, false, w, q, mk, tp, cd⟩ = true := dj hl;rw [cg hx]; simp only [ak, aW, h];show (if bK σ ⟨who, x, s, 4, i + 1, o, false, w, q, mk, tp, cd⟩ = true then ((ba σ _).note now who 5, (⟨who, x, s, 5, i + 1, o, false, w, q, mk, tp, 5⟩ : Tk), false) else _) = _;rw [e]; rfl
theorem e5 : bx σ ⟨who, x, s, 5, i, o, false, w, q, mk, tp, cd⟩ now = (σ.mem ((σ.μ.acc who 2 (8, s, 0)).put (8, s, 0) 0), ⟨who, x, s, 6, i, o, false, w, q, mk, tp, cd⟩, true) := by
 rw [cg hx]; simp only [ak]; rfl
theorem e6 : bx σ ⟨who, x, s, 6, i, o, f, w, q, mk, tp, cd⟩ now = (σ.mem (σ.μ.acc who 5 (13, (o : Int), 0)), ⟨who, x, s, 7, i, o, f, w, q, mk, tp, cd⟩, false) := by
 rw [cg hx]; simp only [ak]
theorem e7 (h : aZ (σ.μ.V (11, (o : Int), 0)) ≠ 2) : bx σ ⟨who, x, s, 7, i, o, f, w, q, mk, tp, cd⟩ now = (σ.mem (σ.μ.acc who 1 (11, (o : Int), 0)), ⟨who, x, s, 8, i, o, f, σ.μ.V (11, (o : Int), 0), q, mk, tp, cd⟩, false) := by
 rw [cg hx]; simp only [ak]; rw [if_neg h]
theorem e8f (h : gG w (σ.μ.V (12, (o : Int), 0)) (au σ o).length = true) : bx σ ⟨who, x, s, 8, i, o, f, w, q, mk, tp, cd⟩ now = (σ.mem (σ.μ.acc who 1 (12, (o : Int), 0)), ⟨who, x, s, 15, i, o, f, w, q, mk, tp, cd⟩, false) := by
 have h' : j9 σ ⟨who, x, s, 8, i, o, f, w, q, mk, tp, cd⟩ = true := h;rw [cg hx]; simp only [ak]; rw [if_pos h']
theorem e8a (h : gG w (σ.μ.V (12, (o : Int), 0)) (au σ o).length = false) (h1 : aZ w = 1) : bx σ ⟨who, x, s, 8, i, o, f, w, q, mk, tp, cd⟩ now = (σ.mem (σ.μ.acc who 1 (12, (o : Int), 0)), ⟨who, x, s, 9, i, o, f, w, q, mk, tp, cd⟩, false) := by
 have h' : j9 σ ⟨who, x, s, 8, i, o, f, w, q, mk, tp, cd⟩ = false := h;rw [cg hx]; simp only [ak]; rw [if_neg (by rw [h']; simp), if_pos h1]
theorem e8r (h : gG w (σ.μ.V (12, (o : Int), 0)) (au σ o).length = false) (h1 : aZ w ≠ 1) : bx σ ⟨who, x, s, 8, i, o, f, w, q, mk, tp, cd⟩ now = (σ.mem (σ.μ.acc who 1 (12, (o : Int), 0)), ⟨who, x, s, 12, i, o, f, w, q, mk, tp, cd⟩, false) := by
 have h' : j9 σ ⟨who, x, s, 8, i, o, f, w, q, mk, tp, cd⟩ = false := h;rw [cg hx]; simp only [ak]; rw [if_neg (by rw [h']; simp), if_neg h1]
omit hx in
theorem tu {μ : Mu} {v : Nat} {how : Nat} (hn : bd w how = some v) (hw : μ.V (11, (o : Int), 0) = w) : fD μ o w (bd w how) = true := by
 rw [hn]; show (true && decide (μ.V (11, (o : Int), 0) = w)) = true; rw [dj hw]; rfl
theorem e9 {v : Nat} (hn : bd w 0 = some v) (hw : σ.μ.V (11, (o : Int), 0) = w) : bx σ ⟨who, x, s, 9, i, o, f, w, q, mk, tp, cd⟩ now = ((σ.mem (σ.μ.swp who (11, (o : Int), 0) w v)).note now who 0, ⟨who, x, s, 10, i, o, f, w, q, mk, tp, 0⟩, false) := by
 rw [cg hx]; simp only [ak]; rw [if_pos (tu o w hn hw), hn]
theorem e10 : bx σ ⟨who, x, s, 10, i, o, f, w, q, mk, tp, cd⟩ now = (px σ ⟨who, x, s, 10, i, o, f, w, q, mk, tp, cd⟩, ⟨who, x, s, 11, i, o, f, w, q, mk, tp, cd⟩, false) := by
 rw [cg hx]; simp only [ak]
theorem e11 : bx σ ⟨who, x, s, 11, i, o, f, w, q, mk, tp, cd⟩ now = (s0 σ ⟨who, x, s, 11, i, o, f, w, q, mk, tp, cd⟩, ⟨who, x, s, 11, i, o, f, w, q, mk, tp, cd⟩, true) := by
 rw [cg hx]; simp only [ak]
theorem e12 : bx σ ⟨who, x, s, 12, i, o, f, w, q, mk, tp, cd⟩ now = (σ.mem (σ.μ.cnt who (3, 0, 0) 4294967296), ⟨who, x, s, 13, i, o, f, w, q, mk, tp, cd⟩, false) := by
 rw [cg hx]; simp only [ak]
theorem e13 {v : Nat} (hn : bd w 0 = some v) (hw : σ.μ.V (11, (o : Int), 0) = w) : bx σ ⟨who, x, s, 13, i, o, f, w, q, mk, tp, cd⟩ now = ((σ.mem (σ.μ.swp who (11, (o : Int), 0) w v)).note now who 0, ⟨who, x, s, 14, i, o, f, w, q, mk, tp, 0⟩, false) := by
 rw [cg hx]; simp only [ak]; rw [if_pos (tu o w hn hw), hn]
theorem e14 : bx σ ⟨who, x, s, 14, i, o, f, w, q, mk, tp, cd⟩ now = (px σ ⟨who, x, s, 14, i, o, f, w, q, mk, tp, cd⟩, ⟨who, x, s, 21, i, o, f, w, q, mk, tp, cd⟩, false) := by
 rw [cg hx]; simp only [ak]
theorem e15 (h : ¬ σ.μ.V (2, 0, 0) % 2 = 1) : bx σ ⟨who, x, s, 15, i, o, f, w, q, mk, tp, cd⟩ now = (σ.mem (σ.μ.acc who 1 (2, 0, 0)), ⟨who, x, s, 16, i, o, f, w, σ.μ.V (2, 0, 0), mk, tp, cd⟩, false) := by
 rw [cg hx]; simp only [ak]; rw [if_neg h]
theorem e16 (h : aZ (σ.μ.V (11, (o : Int), 0)) ≠ 2) : bx σ ⟨who, x, s, 16, i, o, f, w, q, mk, tp, cd⟩ now = (σ.mem (σ.μ.acc who 1 (11, (o : Int), 0)), ⟨who, x, s, 17, i, o, f, σ.μ.V (11, (o : Int), 0), q, mk, tp, cd⟩, false) := by
 rw [cg hx]; simp only [ak]; rw [if_neg h]
theorem e17 (h : gG w (σ.μ.V (12, (o : Int), 0)) (au σ o).length = true) : bx σ ⟨who, x, s, 17, i, o, f, w, q, mk, tp, cd⟩ now = (σ.mem (σ.μ.acc who 1 (12, (o : Int), 0)), ⟨who, x, s, 18, i, o, f, w, q, now, tp, cd⟩, false) := by
 have h' : j9 σ ⟨who, x, s, 17, i, o, f, w, q, mk, tp, cd⟩ = true := h;rw [cg hx]; simp only [ak]; rw [if_pos h']
theorem e18 (h : σ.μ.V (2, 0, 0) = q) : bx σ ⟨who, x, s, 18, i, o, f, w, q, mk, tp, cd⟩ now = ((σ.mem (σ.μ.acc who 1 (2, 0, 0))).note mk who 9, ⟨who, x, s, 18, i, o, f, w, q, mk, tp, 9⟩, true) := by
 rw [cg hx]; simp only [ak]; rw [if_pos h]
theorem e21 : bx σ ⟨who, x, s, 21, i, o, f, w, q, mk, tp, cd⟩ now = (s0 σ ⟨who, x, s, 21, i, o, f, w, q, mk, tp, cd⟩, ⟨who, x, s, 22, i, o, f, w, q, mk, tp, cd⟩, false) := by
 rw [cg hx]; simp only [ak]
theorem e22 : bx σ ⟨who, x, s, 22, i, o, f, w, q, mk, tp, cd⟩ now = (σ.mem (σ.μ.acc who 1 (9, s, 0)), ⟨who, x, s, 23, i, o, f, w, q, mk, σ.μ.V (9, s, 0), cd⟩, false) := by
 rw [cg hx]; simp only [ak]
theorem e23 : bx σ ⟨who, x, s, 23, i, o, f, w, q, mk, tp, cd⟩ now = ({ σ with μ := σ.μ.acc who 6 (14, (o : Int), 0), nx := fun k => if k = (o : Int) then some tp else σ.nx k }, ⟨who, x, s, 24, i, o, f, w, q, mk, tp, cd⟩, false) := by
 rw [cg hx]; simp only [ak]
theorem e24 (h : σ.μ.V (9, s, 0) = tp) : bx σ ⟨who, x, s, 24, i, o, f, w, q, mk, tp, cd⟩ now = (σ.mem (σ.μ.swp who (9, s, 0) tp (o + 1)), ⟨who, x, s, 25, i, o, f, w, q, mk, tp, cd⟩, false) := by
 rw [cg hx]; simp only [ak]; rw [if_pos h]
theorem e25 : bx σ ⟨who, x, s, 25, i, o, f, w, q, mk, tp, cd⟩ now = (σ.mem (σ.μ.cnt who (3, 0, 0) 1), ⟨who, x, s, 25, i, o, f, w, q, mk, tp, cd⟩, true) := by
 rw [cg hx]; simp only [ak]
end
abbrev uj (σ : aN) (o w : Nat) : Nat := aL w % (au σ o).length
structure KP (σ σ' : aN) (o : Nat) (x : Cl) : Prop where
 c : σ'.c = σ.c
 w : σ'.μ.V (11, (o : Int), 0) = aL (σ.μ.V (11, (o : Int), 0)) + 1 + 2305843009213693952
 sh : σ'.μ.V (15, (o : Int), ((uj σ o (σ.μ.V (11, (o : Int), 0)) : Nat) : Int)) = aL (σ.μ.V (11, (o : Int), 0)) + 1
 V : ∀ l : cO, l ≠ (11, (o : Int), 0) → l.1 ≠ 3 → l.1 ≠ 9 → l ≠ (15, (o : Int), ((uj σ o (σ.μ.V (11, (o : Int), 0)) : Nat) : Int)) → σ'.μ.V l = σ.μ.V l
 obs : σ'.obs = σ.obs.modify o fun p => (p.1, p.2.set (uj σ o (σ.μ.V (11, (o : Int), 0))) ⟨x.flow, x.a, x.b⟩)
theorem Hi (σ : aN) (t : Tk) (o : Nat) : (au (px σ t) o).length = (au σ o).length := by
 show ((((σ.obs.modify t.obj _)[o]?).map _).getD []).length = (((σ.obs[o]?).map _).getD []).length;rw [List.getElem?_modify]
 cases σ.obs[o]? with
 | none => rfl
 | some q =>
  show (if t.obj = o then _ else q).2.length = q.2.length
  split
  ·exact Mc
  ·rfl
theorem acF (σ : aN) (t : Tk) : (s0 σ t).μ.V = upd σ.μ.V (15, (t.obj : Int), ((aL t.w % (au σ t.obj).length : Nat) : Int)) (aL t.w + 1) := rfl
theorem QN (μ : Mu) (who : Int) (l : cO) (n : Nat) : (μ.cnt who l n).V = upd μ.V l ((μ.V l + n) % 18446744073709551616) := rfl
section
variable {who s : Int} {x : Cl} {σ : aN} {P : aN → Int → Prop}
theorem aeK (hx : x.op = 3) (i o : Nat) (f : Bool) (w q : Nat) (mk : Int) (tp : Nat) (cd now : Int) (k : ∀ σ', σ'.c = σ.c → (∀ l : cO, l.1 ≠ 3 → l.1 ≠ 9 → σ'.μ.V l = σ.μ.V l) → σ'.obs = σ.obs → P σ' cd) :
 ju 4 σ ⟨who, x, s, 22, i, o, f, w, q, mk, tp, cd⟩ now P := by
 refine .step (e22 _ _ _ _ _ _ _ _ _ _ _ _ _ hx) ?_;refine .step (e23 _ _ _ _ _ _ _ _ _ _ _ _ _ hx) ?_;refine .step (e24 _ _ _ _ _ _ _ _ _ _ _ _ _ hx rfl) ?_;refine .last (e25 _ _ _ _ _ _ _ _ _ _ _ _ _ hx) (k _ rfl (fun l a2 a3 => ?_) rfl);refine Eq.trans (congrFun (QN _ _ _ _) _) (Eq.trans (upd_ne (fun e => a2 (by rw [e]))) ?_);refine Eq.trans (congrFun (qt (μ := (σ.μ.acc who 1 (9, s, 0)).acc who 6 (14, (o : Int), 0)) (l := (9, s, 0)) rfl) _) ?_;exact upd_ne (l := (9, s, 0)) (x := l) (fun e => a3 (by rw [e]))
theorem aeI (hx : x.op = 3) (i o : Nat) (f : Bool) (w q : Nat) (mk : Int) (tp : Nat) (cd now : Int) (k : ∀ σ', σ'.c = σ.c → σ'.μ.V = upd σ.μ.V (15, (o : Int), ((uj σ o w : Nat) : Int)) (aL w + 1) → σ'.obs = (σ.obs.modify o fun p => (p.1, p.2.set (uj σ o w) ⟨x.flow, x.a, x.b⟩)) → P σ' cd) :
 ju 2 σ ⟨who, x, s, 10, i, o, f, w, q, mk, tp, cd⟩ now P := by
 refine .step (e10 _ _ _ _ _ _ _ _ _ _ _ _ _ hx) ?_;refine .last (e11 _ _ _ _ _ _ _ _ _ _ _ _ _ hx) (k _ rfl ?_ rfl);refine Eq.trans (acF _ _) ?_;show upd σ.μ.V (15, (o : Int), ((aL w % (au (px σ _) o).length : Nat) : Int)) (aL w + 1) = _;rw [Hi]
theorem aeJ (hx : x.op = 3) (i o : Nat) (f : Bool) (w q : Nat) (mk : Int) (tp : Nat) (cd now : Int) (k : ∀ σ', σ'.c = σ.c → (∀ l : cO, l.1 ≠ 3 → l.1 ≠ 9 → σ'.μ.V l = upd σ.μ.V (15, (o : Int), ((uj σ o w : Nat) : Int)) (aL w + 1) l) → σ'.obs = (σ.obs.modify o fun p => (p.1, p.2.set (uj σ o w) ⟨x.flow, x.a, x.b⟩)) → P σ' cd) :
 ju 6 σ ⟨who, x, s, 14, i, o, f, w, q, mk, tp, cd⟩ now P := by
 refine .step (e14 _ _ _ _ _ _ _ _ _ _ _ _ _ hx) ?_;refine .step (e21 _ _ _ _ _ _ _ _ _ _ _ _ _ hx) ?_;refine aeK hx _ _ _ _ _ _ _ _ _ fun σ' c' V' O' => k σ' c' (fun l a2 a3 => ?_) O';refine Eq.trans (V' l a2 a3) (Eq.trans (congrFun (acF _ _) l) ?_);show upd σ.μ.V (15, (o : Int), ((aL w % (au (px σ _) o).length : Nat) : Int)) (aL w + 1) l = _;rw [Hi]
theorem N1 (hx : x.op = 3) (i o : Nat) (f : Bool) (w q : Nat) (mk : Int) (tp : Nat) (cd now : Int) (hr : cI (σ.μ.V (11, (o : Int), 0)) = true) (h2 : aZ (σ.μ.V (11, (o : Int), 0)) ≠ 2) (hc : aL (σ.μ.V (11, (o : Int), 0)) < 2305843009213693951) (hq : σ.μ.V (2, 0, 0) = 0)
 (hf : gG (σ.μ.V (11, (o : Int), 0)) (σ.μ.V (12, (o : Int), 0)) (au σ o).length = true → ∀ σ', Sm σ σ' → P σ' 9)
 (hn : gG (σ.μ.V (11, (o : Int), 0)) (σ.μ.V (12, (o : Int), 0)) (au σ o).length = false → ∀ σ', KP σ σ' o x → P σ' 0) :
 ju 11 σ ⟨who, x, s, 6, i, o, f, w, q, mk, tp, cd⟩ now P := by
 refine .step (e6 _ _ _ _ _ _ _ _ _ _ _ _ _ hx) ?_;refine .step (e7 _ _ _ _ _ _ _ _ _ _ _ _ _ hx h2) ?_;obtain ⟨W, hW⟩ : ∃ W, W = σ.μ.V (11, (o : Int), 0) := ⟨_, rfl⟩;have hv : bd W 0 = some (aL W + 1 + 2305843009213693952) := ac0 ⟨by rw [hW]; exact hr, by rw [hW]; exact h2, by rw [hW]; exact hc⟩
 cases hfu : gG (σ.μ.V (11, (o : Int), 0)) (σ.μ.V (12, (o : Int), 0)) (au σ o).length with
 | true =>
  refine .step (e8f _ _ _ _ _ _ _ _ _ _ _ _ _ hx hfu) ?_;refine .step (e15 _ _ _ _ _ _ _ _ _ _ _ _ _ hx (by show ¬ σ.μ.V (2, 0, 0) % 2 = 1; rw [hq]; omega)) ?_;refine .step (e16 _ _ _ _ _ _ _ _ _ _ _ _ _ hx h2) ?_;refine .step (e17 _ _ _ _ _ _ _ _ _ _ _ _ _ hx hfu) ?_;exact .last (e18 _ _ _ _ _ _ _ _ _ _ _ _ _ hx rfl) (hf hfu _ ⟨rfl, rfl, rfl⟩)
 | false =>
  by_cases h1 : aZ (σ.μ.V (11, (o : Int), 0)) = 1
  ·refine .step (e8a _ _ _ _ _ _ _ _ _ _ _ _ _ hx hfu h1) ?_
   rw [← hW];refine .step (e9 _ _ _ _ _ _ _ _ _ _ _ _ _ hx hv hW.symm) ?_;have sv := qt (μ := ((σ.μ.acc who 5 (13, (o : Int), 0)).acc who 1 (11, (o : Int), 0)).acc who 1 (12, (o : Int), 0)) (who := who) (l := (11, (o : Int), 0)) (was := W) (now := aL W + 1 + 2305843009213693952) hW.symm;refine .mono (n := 2) (by omega) (aeI hx _ _ _ _ _ _ _ _ _ fun σ' c' V' O' => hn hfu σ' ⟨c', ?_, ?_, fun l a1 a2 a3 a4 => ?_, ?_⟩)
   ·refine Eq.trans (congrFun V' _) (Eq.trans (upd_ne ?_) ?_)
    ·simp
    refine Eq.trans (congrFun sv _) ?_;rw [oX, hW]
   ·subst hW; exact Eq.trans (congrFun V' _) oX
   ·subst hW
    refine Eq.trans (congrFun V' _) (Eq.trans (upd_ne a4) ?_);refine Eq.trans (congrFun sv _) ?_;exact upd_ne (l := (11, (o : Int), 0)) (x := l) a1
   ·subst hW; exact O'
  ·refine .step (e8r _ _ _ _ _ _ _ _ _ _ _ _ _ hx hfu h1) ?_
   rw [← hW];refine .step (e12 _ _ _ _ _ _ _ _ _ _ _ _ _ hx) ?_;refine .step (e13 _ _ _ _ _ _ _ _ _ _ _ _ _ hx hv (Eq.trans (congrFun (QN _ _ _ _) _) (Eq.trans (upd_ne (by simp)) hW.symm))) ?_;have sv := qt (μ := (((σ.μ.acc who 5 (13, (o : Int), 0)).acc who 1 (11, (o : Int), 0)).acc who 1 (12, (o : Int), 0)).cnt who (3, 0, 0) 4294967296) (who := who) (l := (11, (o : Int), 0)) (was := W) (now := aL W + 1 + 2305843009213693952) (Eq.trans (congrFun (QN _ _ _ _) _) (Eq.trans (upd_ne (by simp)) hW.symm));refine aeJ hx _ _ _ _ _ _ _ _ _ fun σ' c' V' O' => hn hfu σ' ⟨c', ?_, ?_, fun l a1 a2 a3 a4 => ?_, ?_⟩
   ·refine Eq.trans (V' (11, (o : Int), 0) (by simp) (by simp)) (Eq.trans (upd_ne ?_) ?_)
    ·simp
    refine Eq.trans (congrFun sv _) ?_;rw [oX, hW]
   ·subst hW; exact Eq.trans (V' _ (by simp) (by simp)) oX
   ·subst hW
    refine Eq.trans (V' l a2 a3) (Eq.trans (upd_ne a4) ?_);refine Eq.trans (congrFun sv _) (Eq.trans (upd_ne a1) ?_);exact Eq.trans (congrFun (QN _ _ _ _) _) (upd_ne (fun e => a2 (by rw [e])))
   ·subst hW; exact O'
theorem KP.of_sm {σ1 σ' : aN} {o : Nat} (a : Sm σ σ1) (h : KP σ1 σ' o x) : KP σ σ' o x := by
 obtain ⟨c, V, obs⟩ := a
 have e : ∀ w, uj σ1 o w = uj σ o w := fun w => by unfold uj au; rw [obs]
 have hs := h.sh;have hv := h.V;have ho := h.obs;rw [e, V] at hs hv ho;exact ⟨h.c.trans c, by rw [h.w, V], hs, fun l a1 a2 a3 a4 => by rw [hv l a1 a2 a3 a4], by rw [ho, obs]⟩
theorem D8 (p : Nat → Bool) : ∀ N : Nat, (∀ i, i < N → p i = false) ∨ ∃ j, j < N ∧ p j = true ∧ ∀ i, i < j → p i = false := by
 intro N
 induction N with
 | zero => exact .inl fun i h => by omega
 | succ N ih =>
  rcases ih with h | ⟨j, h1, h2, h3⟩
  ·cases e : p N with
   | true => exact .inr ⟨N, by omega, e, h⟩
   | false =>
    refine .inl fun i hi => ?_
    by_cases hN : i = N
    ·rw [hN]; exact e
    ·exact h i (by omega)
  ·exact .inr ⟨j, by omega, h2, h3⟩
abbrev e8 (σ : aN) (s flow : Int) (i : Nat) : Bool := f9 (σ.μ.V (10, s, (i : Int))) flow
theorem MQ (hx : x.op = 3) (n j : Nat) (w q : Nat) (mk : Int) (tp : Nat) (cd : Int) (o : Nat) : ∀ (d i : Nat) (f : Bool) (σ : aN) (now : Int), i + d = j → (j : Int) < σ.c.sl → (∀ i', i ≤ i' → i' < j → e8 σ s x.flow i' = false) →
 (∀ σ' now' f', Sm σ σ' → ju n σ' ⟨who, x, s, 2, j, o, f', w, q, mk, tp, cd⟩ now' P) → ju (n + d) σ ⟨who, x, s, 2, i, o, f, w, q, mk, tp, cd⟩ now P := by
 intro d
 induction d with
 | zero =>
  intro i f σ now hi hj hm k
  obtain rfl : i = j := by omega
  exact k σ now f Sm.rfl'
 | succ d ih =>
  intro i f σ now hi hj hm k;refine ju.step (n := n + d) (e2m _ _ _ _ _ _ _ _ _ _ _ _ _ hx (hm i (by omega) (by omega)) (by omega)) ?_;exact ih (i + 1) false _ _ (by omega) hj (fun i' h1 h2 => hm i' (by omega) h2) fun σ' now' f' a => k σ' now' f' (Sm.trans (σ1 := σ.mem (σ.μ.acc who 1 (10, s, (i : Int)))) ⟨rfl, rfl, rfl⟩ a)
theorem ab5 (hx : x.op = 3) (n j : Nat) (w q : Nat) (mk : Int) (tp : Nat) (cd : Int) (o : Nat) : ∀ (d i : Nat) (f : Bool) (σ : aN) (now : Int), i + d = j → (j : Int) < σ.c.sl → (∀ i', i ≤ i' → i' < j → e8 σ s x.flow i' = false) →
 (∀ σ' now' f', Sm σ σ' → ju n σ' ⟨who, x, s, 4, j, o, f', w, q, mk, tp, cd⟩ now' P) → ju (n + d) σ ⟨who, x, s, 4, i, o, f, w, q, mk, tp, cd⟩ now P := by
 intro d
 induction d with
 | zero =>
  intro i f σ now hi hj hm k
  obtain rfl : i = j := by omega
  exact k σ now f Sm.rfl'
 | succ d ih =>
  intro i f σ now hi hj hm k;refine ju.step (n := n + d) (e4m _ _ _ _ _ _ _ _ _ _ _ _ _ hx (hm i (by omega) (by omega)) (by omega)) ?_;exact ih (i + 1) false _ _ (by omega) hj (fun i' h1 h2 => hm i' (by omega) h2) fun σ' now' f' a => k σ' now' f' (Sm.trans (σ1 := σ.mem (σ.μ.acc who 1 (10, s, (i : Int)))) ⟨rfl, rfl, rfl⟩ a)
abbrev cW (σ : aN) (s : Int) (j : Nat) : Nat := σ.μ.V (10, s, (j : Int)) % 4294967296
theorem ai7 (hx : x.op = 3) (now : Int) (hc : bZ σ.c = true) (hq : σ.μ.V (2, 0, 0) = 0) (h8 : σ.μ.V (8, s, 0) = 0)
 (hw : ∀ j, j < σ.c.sl.toNat → e8 σ s x.flow j = true → cI (σ.μ.V (11, (cW σ s j : Nat), 0)) = true ∧ aZ (σ.μ.V (11, (cW σ s j : Nat), 0)) ≠ 2 ∧ aL (σ.μ.V (11, (cW σ s j : Nat), 0)) < 2305843009213693951)
 (hr : ∀ e, cL x = some e → ∀ σ', Sm σ σ' → P σ' e)
 (hm : cL x = none → (∀ i, i < σ.c.sl.toNat → e8 σ s x.flow i = false) → ∀ σ', Sm σ σ' → P σ' 5)
 (hf : cL x = none → ∀ j, j < σ.c.sl.toNat → e8 σ s x.flow j = true → (∀ i, i < j → e8 σ s x.flow i = false) → gG (σ.μ.V (11, (cW σ s j : Nat), 0)) (σ.μ.V (12, (cW σ s j : Nat), 0)) (au σ (cW σ s j)).length = true → ∀ σ', Sm σ σ' → P σ' 9)
 (hn : cL x = none → ∀ j, j < σ.c.sl.toNat → e8 σ s x.flow j = true → (∀ i, i < j → e8 σ s x.flow i = false) → gG (σ.μ.V (11, (cW σ s j : Nat), 0)) (σ.μ.V (12, (cW σ s j : Nat), 0)) (au σ (cW σ s j)).length = false → ∀ σ', KP σ σ' (cW σ s j) x → P σ' 0) :
 ju (σ.c.sl.toNat + 11) σ ⟨who, x, s, 0, 0, 0, false, 0, 0, 0, 0, 0⟩ now P := by
 have hsl := bo.1 hc;obtain ⟨N, hN⟩ : ∃ N, N = σ.c.sl.toNat := ⟨_, rfl⟩;rw [← hN] at hw hm hf hn ⊢
 cases hx2 : cL x with
 | some e => exact .last (e0e _ _ _ _ _ _ _ _ _ _ _ _ _ hx hx2) (hr e hx2 _ ⟨rfl, rfl, rfl⟩)
 | none =>
  refine .congr (e0 _ _ _ _ _ _ _ _ _ _ _ _ _ hx hx2) ?_
  rcases D8 (e8 σ s x.flow) N with hmiss | ⟨j, hj, hh, hb⟩
  ·refine .mono (n := ((((1 + 1) + (N - 1)) + 1) + 1) + (N - 1)) (by omega) ?_
   refine MQ hx _ (N - 1) _ _ _ _ _ _ (N - 1) 0 _ σ now (by omega) (by omega) (fun i' _ h2 => hmiss i' (by omega)) fun σ2 now2 f2 a2 => ?_;obtain ⟨c2, V2, O2⟩ := a2;refine .step (e2l _ _ _ _ _ _ _ _ _ _ _ _ _ hx (by rw [V2]; exact hmiss _ (by omega)) (by rw [c2]; omega)) ?_;refine .step (e3 _ _ _ _ _ _ _ _ _ _ _ _ _ hx (by show σ2.μ.V (8, s, 0) = 0; rw [V2]; exact h8)) ?_
   have sv : ((σ2.μ.acc who 1 (10, s, ((N - 1 : Nat) : Int))).swp who (8, s, 0) 0 1).V = upd σ.μ.V (8, s, 0) 1 := by
    rw [qt (by show σ2.μ.V (8, s, 0) = 0; rw [V2]; exact h8)];show upd σ2.μ.V _ _ = _;rw [V2]
   refine ab5 hx _ (N - 1) _ _ _ _ _ _ (N - 1) 0 _ _ _ (by omega) (by show ((N - 1 : Nat) : Int) < σ2.c.sl; rw [c2]; omega) (fun i' _ h2 => ?_) fun σ4 now4 f4 a4 => ?_
   ·show f9 (((σ2.μ.acc who 1 (10, s, ((N - 1 : Nat) : Int))).swp who (8, s, 0) 0 1).V (10, s, (i' : Int))) x.flow = false
    rw [sv, upd_ne (by simp)];exact hmiss i' (by omega)
   obtain ⟨c4, V4, O4⟩ := a4;have V4' : σ4.μ.V = upd σ.μ.V (8, s, 0) 1 := V4.trans sv;refine .step (e4l _ _ _ _ _ _ _ _ _ _ _ _ _ hx (by rw [V4', upd_ne (by simp)]; exact hmiss _ (by omega)) (by rw [c4]; show σ2.c.sl ≤ _; rw [c2]; omega)) ?_;refine .last (e5 _ _ _ _ _ _ _ _ _ _ _ _ hx) (hm hx2 hmiss _ ⟨c4.trans c2, ?_, O4.trans O2⟩);show upd σ4.μ.V (8, s, 0) 0 = σ.μ.V;rw [V4'];exact te h8 1
  ·refine .mono (n := (11 + 1) + j) (by omega) ?_
   refine MQ hx _ j _ _ _ _ _ _ j 0 _ σ now (by omega) (by omega) (fun i' _ h2 => hb i' h2) fun σ2 now2 f2 a2 => ?_;obtain ⟨c2, V2, O2⟩ := a2
   have hh2 : f9 (σ2.μ.V (10, s, (j : Int))) x.flow = true := by rw [V2]; exact hh
   refine .step (e2h _ _ _ _ _ _ _ _ _ _ _ _ _ hx hh2) ?_;obtain ⟨w1, w2, w3⟩ := hw j hj hh
   have eo : σ2.μ.V (10, s, (j : Int)) % 4294967296 = cW σ s j := by rw [V2]
   have ec : au σ2 (cW σ s j) = au σ (cW σ s j) := by unfold au; rw [O2]
   rw [eo];have am : Sm σ (σ2.mem (σ2.μ.acc who 1 (10, s, (j : Int)))) := ⟨c2, V2, O2⟩
   refine N1 (σ := σ2.mem (σ2.μ.acc who 1 (10, s, (j : Int)))) hx _ _ _ _ _ _ _ _ _ (by show cI (σ2.μ.V _) = true; rw [V2]; exact w1) (by show aZ (σ2.μ.V _) ≠ 2; rw [V2]; exact w2) (by show aL (σ2.μ.V _) < _; rw [V2]; exact w3) (by show σ2.μ.V _ = 0; rw [V2]; exact hq) (fun g σ' a => hf hx2 j hj hh hb (by
    have g' : gG (σ2.μ.V (11, (cW σ s j : Nat), 0)) (σ2.μ.V (12, (cW σ s j : Nat), 0)) (au σ2 (cW σ s j)).length = true := g;rw [ec, V2] at g'
    exact g') σ' (am.trans a)) (fun g σ' a => hn hx2 j hj hh hb (by
    have g' : gG (σ2.μ.V (11, (cW σ s j : Nat), 0)) (σ2.μ.V (12, (cW σ s j : Nat), 0)) (au σ2 (cW σ s j)).length = false := g;rw [ec, V2] at g'
    exact g') σ' (KP.of_sm am a))
end
section
variable (who s : Int) (x : Cl) (i o : Nat) (f : Bool) (w q : Nat) (mk : Int) (tp : Nat) (cd : Int) (σ : aN) (now : Int) (hx : ¬ x.op = 3)
include hx
theorem r0e {e : Int} (h : dM x = some e) : bx σ ⟨who, x, s, 0, i, o, f, w, q, mk, tp, cd⟩ now = (σ.note now who e, ⟨who, x, s, 0, i, o, f, w, q, mk, tp, e⟩, true) := by
 rw [dW hx]; simp only [az, h]
theorem r0 (h : dM x = none) (h0 : σ.μ.V (8, s, 0) = 0) : bx σ ⟨who, x, s, 0, i, o, f, w, q, mk, tp, cd⟩ now = (σ.mem (σ.μ.swp who (8, s, 0) 0 1), ⟨who, x, s, 3, i, o, f, w, q, mk, tp, cd⟩, false) := by
 rw [dW hx]; simp only [az, h, fG]; rw [if_pos h0]
def EA (σ : aN) (s : Int) (i : Nat) (mk : Int) : Int := if σ.μ.V (10, s, (i : Int)) = 0 ∧ mk < 0 then (i : Int) else mk
theorem r3m (h : f9 (σ.μ.V (10, s, (i : Int))) x.flow = false) (hl : ((i + 1 : Nat) : Int) < σ.c.sl) : bx σ ⟨who, x, s, 3, i, o, f, w, q, mk, tp, cd⟩ now = (σ.mem (σ.μ.acc who 1 (10, s, (i : Int))), ⟨who, x, s, 3, i + 1, o, false, w, q, EA σ s i mk, tp, cd⟩, false) := by
 have e : bK σ ⟨who, x, s, 3, i + 1, o, false, w, q, EA σ s i mk, tp, cd⟩ = false := dP (by show ¬ σ.c.sl ≤ ((i + 1 : Nat) : Int); omega);rw [dW hx]; simp only [az, aC, h];show (if bK σ ⟨who, x, s, 3, i + 1, o, false, w, q, EA σ s i mk, tp, cd⟩ = true then _ else (ba σ _, (⟨who, x, s, 3, i + 1, o, false, w, q, EA σ s i mk, tp, cd⟩ : Tk), false)) = _;rw [e]; rfl
theorem r3h (h : f9 (σ.μ.V (10, s, (i : Int))) x.flow = true) (ho : x.op = 1) : bx σ ⟨who, x, s, 3, i, o, f, w, q, mk, tp, cd⟩ now = ((σ.mem (σ.μ.acc who 1 (10, s, (i : Int)))).note now who 6, ⟨who, x, s, 6, i, σ.μ.V (10, s, (i : Int)) % 4294967296, true, w, q, EA σ s i mk, tp, 6⟩, false) := by
 rw [dW hx]; simp only [az, aC, h];rw [if_pos ho]; rfl
theorem c3h (h : f9 (σ.μ.V (10, s, (i : Int))) x.flow = true) (ho : ¬ x.op = 1) : bx σ ⟨who, x, s, 3, i, o, f, w, q, mk, tp, cd⟩ now = (σ.mem (σ.μ.acc who 1 (10, s, (i : Int))), ⟨who, x, s, 4, i, σ.μ.V (10, s, (i : Int)) % 4294967296, true, w, q, EA σ s i mk, tp, cd⟩, false) := by
 rw [dW hx]; simp only [az, aC, h];rw [if_neg ho]; rfl
theorem r3n (h : f9 (σ.μ.V (10, s, (i : Int))) x.flow = false) (hl : σ.c.sl ≤ ((i + 1 : Nat) : Int)) (ho : x.op = 1) (hk : EA σ s i mk < 0) : bx σ ⟨who, x, s, 3, i, o, f, w, q, mk, tp, cd⟩ now = ((σ.mem (σ.μ.acc who 1 (10, s, (i : Int)))).note now who 7, ⟨who, x, s, 6, i + 1, o, false, w, q, EA σ s i mk, tp, 7⟩, false) := by
 have e : bK σ ⟨who, x, s, 3, i + 1, o, false, w, q, EA σ s i mk, tp, cd⟩ = true := dj hl;rw [dW hx]; simp only [az, aC, h];show (if bK σ ⟨who, x, s, 3, i + 1, o, false, w, q, EA σ s i mk, tp, cd⟩ = true then (if x.op = 1 then (if EA σ s i mk < 0 then _ else _) else _) else _) = _;rw [if_pos e, if_pos ho, if_pos hk]; rfl
theorem r3f (h : f9 (σ.μ.V (10, s, (i : Int))) x.flow = false) (hl : σ.c.sl ≤ ((i + 1 : Nat) : Int)) (ho : x.op = 1) (hk : ¬ EA σ s i mk < 0) : bx σ ⟨who, x, s, 3, i, o, f, w, q, mk, tp, cd⟩ now = (σ.mem (σ.μ.acc who 1 (10, s, (i : Int))), ⟨who, x, s, 4, i + 1, o, false, w, q, EA σ s i mk, tp, cd⟩, false) := by
 have e : bK σ ⟨who, x, s, 3, i + 1, o, false, w, q, EA σ s i mk, tp, cd⟩ = true := dj hl;rw [dW hx]; simp only [az, aC, h];show (if bK σ ⟨who, x, s, 3, i + 1, o, false, w, q, EA σ s i mk, tp, cd⟩ = true then (if x.op = 1 then (if EA σ s i mk < 0 then _ else _) else _) else _) = _;rw [if_pos e, if_pos ho, if_neg hk]; rfl
theorem c3n (h : f9 (σ.μ.V (10, s, (i : Int))) x.flow = false) (hl : σ.c.sl ≤ ((i + 1 : Nat) : Int)) (ho : ¬ x.op = 1) : bx σ ⟨who, x, s, 3, i, o, f, w, q, mk, tp, cd⟩ now = ((σ.mem (σ.μ.acc who 1 (10, s, (i : Int)))).note now who 5, ⟨who, x, s, 10, i + 1, o, false, w, q, EA σ s i mk, tp, 5⟩, false) := by
 have e : bK σ ⟨who, x, s, 3, i + 1, o, false, w, q, EA σ s i mk, tp, cd⟩ = true := dj hl;rw [dW hx]; simp only [az, aC, h];show (if bK σ ⟨who, x, s, 3, i + 1, o, false, w, q, EA σ s i mk, tp, cd⟩ = true then (if x.op = 1 then _ else _) else _) = _;rw [if_pos e, if_neg ho]; rfl
theorem r4 (ho : x.op = 1) : bx σ ⟨who, x, s, 4, i, o, f, w, q, mk, tp, cd⟩ now = (σ.make who ⟨x.flow, x.b, max (σ.c.un / x.a.toNat) 1⟩, ⟨who, x, s, 5, i, σ.obs.length, f, w, q, mk, tp, cd⟩, false) := by
 rw [dW hx]; simp only [az]; rw [if_pos ho]; simp only [yw]
theorem r5 (ho : x.op = 1) : bx σ ⟨who, x, s, 5, i, o, f, w, q, mk, tp, cd⟩ now = ((σ.mem ((σ.μ.acc who 2 (10, s, mk)).put (10, s, mk) (cy x.flow o))).note now who 0, ⟨who, x, s, 6, i, o, f, w, q, mk, tp, 0⟩, false) := by
 rw [dW hx]; simp only [az]; rw [if_pos ho]; simp only [yw]
theorem r6 (ho : x.op = 1) : bx σ ⟨who, x, s, 6, i, o, f, w, q, mk, tp, cd⟩ now = (σ.mem ((σ.μ.acc who 2 (8, s, 0)).put (8, s, 0) 0), ⟨who, x, s, 6, i, o, f, w, q, mk, tp, cd⟩, true) := by
 rw [dW hx]; simp only [az]; rw [if_pos ho]; simp only [yw]
theorem c4s (ho : ¬ x.op = 1) (h : aZ (σ.μ.V (11, (o : Int), 0)) = 0) : bx σ ⟨who, x, s, 4, i, o, f, w, q, mk, tp, cd⟩ now = (σ.mem (σ.μ.acc who 1 (11, (o : Int), 0)), ⟨who, x, s, 8, i, o, f, σ.μ.V (11, (o : Int), 0), q, mk, tp, cd⟩, false) := by
 rw [dW hx]; simp only [az]; rw [if_neg ho]; simp only [eH]; rw [if_pos h]
theorem c4b (ho : ¬ x.op = 1) (h : ¬ aZ (σ.μ.V (11, (o : Int), 0)) = 0) : bx σ ⟨who, x, s, 4, i, o, f, w, q, mk, tp, cd⟩ now = (σ.mem (σ.μ.acc who 1 (11, (o : Int), 0)), ⟨who, x, s, 5, i, o, f, σ.μ.V (11, (o : Int), 0), q, mk, tp, cd⟩, false) := by
 rw [dW hx]; simp only [az]; rw [if_neg ho]; simp only [eH]; rw [if_neg h]
theorem c5 (ho : ¬ x.op = 1) (h : ¬ σ.μ.V (2, 0, 0) % 2 = 1) : bx σ ⟨who, x, s, 5, i, o, f, w, q, mk, tp, cd⟩ now = (σ.mem (σ.μ.acc who 1 (2, 0, 0)), ⟨who, x, s, 6, i, o, f, w, σ.μ.V (2, 0, 0), mk, tp, cd⟩, false) := by
 rw [dW hx]; simp only [az]; rw [if_neg ho]; simp only [eH]; rw [if_neg h]
theorem c6 (ho : ¬ x.op = 1) (h : ¬ aZ (σ.μ.V (11, (o : Int), 0)) = 0) : bx σ ⟨who, x, s, 6, i, o, f, w, q, mk, tp, cd⟩ now = (σ.mem (σ.μ.acc who 1 (11, (o : Int), 0)), ⟨who, x, s, 7, i, o, f, σ.μ.V (11, (o : Int), 0), q, now, tp, cd⟩, false) := by
 rw [dW hx]; simp only [az]; rw [if_neg ho]; simp only [eH]; rw [if_neg h]
theorem c7 (ho : ¬ x.op = 1) (h : σ.μ.V (2, 0, 0) = q) : bx σ ⟨who, x, s, 7, i, o, f, w, q, mk, tp, cd⟩ now = ((σ.mem (σ.μ.acc who 1 (2, 0, 0))).note mk who 8, ⟨who, x, s, 10, i, o, f, w, q, mk, tp, 8⟩, false) := by
 rw [dW hx]; simp only [az]; rw [if_neg ho]; simp only [eH]; rw [if_pos h]
theorem c8 (ho : ¬ x.op = 1) {v : Nat} (hn : bd w 2 = some v) (hw : σ.μ.V (11, (o : Int), 0) = w) : bx σ ⟨who, x, s, 8, i, o, f, w, q, mk, tp, cd⟩ now = ((σ.mem (σ.μ.swp who (11, (o : Int), 0) w v)).note now who 0, ⟨who, x, s, 9, i, o, f, w, q, mk, tp, 0⟩, false) := by
 have tu : fD σ.μ o w (bd w 2) = true := by
  rw [hn]; show (true && decide (σ.μ.V (11, (o : Int), 0) = w)) = true; rw [dj hw]; rfl
 rw [dW hx]; simp only [az]; rw [if_neg ho]; simp only [eH]; rw [if_pos tu, hn]
theorem c9 (ho : ¬ x.op = 1) : bx σ ⟨who, x, s, 9, i, o, f, w, q, mk, tp, cd⟩ now = (σ.mem ((σ.μ.acc who 2 (10, s, (i : Int))).put (10, s, (i : Int)) 0), ⟨who, x, s, 10, i, o, f, w, q, mk, tp, cd⟩, false) := by
 rw [dW hx]; simp only [az]; rw [if_neg ho]; simp only [eH]
theorem c10 (ho : ¬ x.op = 1) : bx σ ⟨who, x, s, 10, i, o, f, w, q, mk, tp, cd⟩ now = (σ.mem ((σ.μ.acc who 2 (8, s, 0)).put (8, s, 0) 0), ⟨who, x, s, 10, i, o, f, w, q, mk, tp, cd⟩, true) := by
 rw [dW hx]; simp only [az]; rw [if_neg ho]; simp only [eH]
end
def MkI (V : cO → Nat) (s : Int) (i : Nat) (mk : Int) : Prop := mk < 0 ∧ (∀ i', i' < i → V (10, s, ((i' : Nat) : Int)) ≠ 0) ∨ ∃ m : Nat, m < i ∧ mk = (m : Int) ∧ V (10, s, (m : Int)) = 0 ∧ ∀ i', i' < m → V (10, s, ((i' : Nat) : Int)) ≠ 0
theorem MkI.next {σ : aN} {s : Int} {i : Nat} {mk : Int} (h : MkI σ.μ.V s i mk) : MkI σ.μ.V s (i + 1) (EA σ s i mk) := by
 unfold EA
 rcases h with ⟨h1, h2⟩ | ⟨m, h1, h2, h3, h4⟩
 ·by_cases h0 : σ.μ.V (10, s, (i : Int)) = 0
  ·rw [if_pos ⟨h0, h1⟩]
   exact .inr ⟨i, by omega, rfl, h0, h2⟩
  ·rw [if_neg (fun h => h0 h.1)]
   refine .inl ⟨h1, fun i' hi => ?_⟩
   by_cases e : i' = i
   ·rw [e]; exact h0
   ·exact h2 i' (by omega)
 ·rw [if_neg (by omega)]
  exact .inr ⟨m, by omega, h2, h3, h4⟩
section
variable {who s : Int} {x : Cl} {σ : aN} {P : aN → Int → Prop}
theorem yI (hx : ¬ x.op = 3) (n j : Nat) (w q : Nat) (tp : Nat) (cd : Int) (o : Nat) : ∀ (d i : Nat) (f : Bool) (mk : Int) (σ : aN) (now : Int), i + d = j → (j : Int) < σ.c.sl → (∀ i', i ≤ i' → i' < j → e8 σ s x.flow i' = false) → MkI σ.μ.V s i mk →
 (∀ σ' now' f' mk', Sm σ σ' → MkI σ'.μ.V s j mk' → ju n σ' ⟨who, x, s, 3, j, o, f', w, q, mk', tp, cd⟩ now' P) → ju (n + d) σ ⟨who, x, s, 3, i, o, f, w, q, mk, tp, cd⟩ now P := by
 intro d
 induction d with
 | zero =>
  intro i f mk σ now hi hj hm hk k
  obtain rfl : i = j := by omega
  exact k σ now f mk Sm.rfl' hk
 | succ d ih =>
  intro i f mk σ now hi hj hm hk k;refine ju.step (n := n + d) (r3m _ _ _ _ _ _ _ _ _ _ _ _ _ hx (hm i (by omega) (by omega)) (by omega)) ?_;exact ih (i + 1) false _ _ _ (by omega) hj (fun i' h1 h2 => hm i' (by omega) h2) hk.next fun σ' now' f' mk' a => k σ' now' f' mk' (Sm.trans (σ1 := σ.mem (σ.μ.acc who 1 (10, s, (i : Int)))) ⟨rfl, rfl, rfl⟩ a)
structure Newly (σ σ' : aN) (s : Int) (m : Nat) (x : Cl) : Prop where
 c : σ'.c = σ.c
 V : σ'.μ.V = upd σ.μ.V (10, s, (m : Int)) (cy x.flow σ.obs.length)
 obs : σ'.obs = σ.obs ++ [((⟨x.flow, x.b, max (σ.c.un / x.a.toNat) 1⟩ : Ob), List.replicate (bP x.b) FW)]
theorem acY {V : cO → Nat} {s : Int} {l : cO} {v : Nat} (h8 : V (8, s, 0) = 0) (hl : l ≠ (8, s, 0)) : upd (upd (upd V (8, s, 0) 1) l v) (8, s, 0) 0 = upd V l v := by
 funext z
 show (if z = (8, s, 0) then 0 else if z = l then v else if z = (8, s, 0) then 1 else V z) = if z = l then v else V z
 by_cases e : z = (8, s, 0)
 ·rw [if_pos e, if_neg (fun h => hl (h.symm.trans e)), e, h8]
 ·rw [if_neg e, if_neg e]
theorem XW (hx : x.op = 1) (now : Int) (hc : bZ σ.c = true) (h8 : σ.μ.V (8, s, 0) = 0)
 (hr : ∀ e, dM x = some e → ∀ σ', Sm σ σ' → P σ' e)
 (hh : dM x = none → ∀ j, j < σ.c.sl.toNat → e8 σ s x.flow j = true → (∀ i, i < j → e8 σ s x.flow i = false) → ∀ σ', Sm σ σ' → P σ' 6)
 (hf : dM x = none → (∀ i, i < σ.c.sl.toNat → e8 σ s x.flow i = false) → (∀ i, i < σ.c.sl.toNat → σ.μ.V (10, s, ((i : Nat) : Int)) ≠ 0) → ∀ σ', Sm σ σ' → P σ' 7)
 (hn : dM x = none → (∀ i, i < σ.c.sl.toNat → e8 σ s x.flow i = false) → ∀ m, m < σ.c.sl.toNat → σ.μ.V (10, s, ((m : Nat) : Int)) = 0 → (∀ i, i < m → σ.μ.V (10, s, ((i : Nat) : Int)) ≠ 0) → ∀ σ', Newly σ σ' s m x → P σ' 0) :
 ju (σ.c.sl.toNat + 11) σ ⟨who, x, s, 0, 0, 0, false, 0, 0, -1, 0, 0⟩ now P := by
 have hsl := bo.1 hc
 have hx3 : ¬ x.op = 3 := by omega
 obtain ⟨N, hN⟩ : ∃ N, N = σ.c.sl.toNat := ⟨_, rfl⟩;rw [← hN] at hh hf hn ⊢
 cases hx2 : dM x with
 | some e => exact .last (r0e _ _ _ _ _ _ _ _ _ _ _ _ _ hx3 hx2) (hr e hx2 _ ⟨rfl, rfl, rfl⟩)
 | none =>
  have sv : (σ.μ.swp who (8, s, 0) 0 1).V = upd σ.μ.V (8, s, 0) 1 := qt h8
  have hl : ∀ j : Nat, e8 (σ.mem (σ.μ.swp who (8, s, 0) 0 1)) s x.flow j = e8 σ s x.flow j := fun j => by
   show f9 ((σ.μ.swp who (8, s, 0) 0 1).V (10, s, (j : Int))) x.flow = _;rw [sv, upd_ne (by simp)]
  have mk0 : MkI (σ.mem (σ.μ.swp who (8, s, 0) 0 1)).μ.V s 0 (-1) := .inl ⟨by omega, fun i' h => by omega⟩
  rcases D8 (e8 σ s x.flow) N with hmiss | ⟨j, hj, hjh, hb⟩
  ·refine .mono (n := (((1 + 1 + 1) + 1) + (N - 1)) + 1) (by omega) ?_
   refine .step (r0 _ _ _ _ _ _ _ _ _ _ _ _ _ hx3 hx2 h8) ?_;refine yI hx3 _ (N - 1) _ _ _ _ _ (N - 1) 0 _ _ _ _ (by omega) (by show ((N - 1 : Nat) : Int) < σ.c.sl; omega) (fun i' _ h2 => by rw [hl]; exact hmiss i' (by omega)) mk0 fun σ2 now2 f2 mk2 a2 k2 => ?_;obtain ⟨c2, V2, O2⟩ := a2;have V2' : σ2.μ.V = upd σ.μ.V (8, s, 0) 1 := V2.trans sv
   have hm2 : f9 (σ2.μ.V (10, s, ((N - 1 : Nat) : Int))) x.flow = false := by rw [V2', upd_ne (by simp)]; exact hmiss _ (by omega)
   have cl : σ2.c = σ.c := c2
   have hlast : σ2.c.sl ≤ ((N - 1 + 1 : Nat) : Int) := by rw [cl]; omega
   have k3 := k2.next;rw [show N - 1 + 1 = N from by omega] at k3
   have ve : ∀ i : Nat, σ2.μ.V (10, s, (i : Int)) = σ.μ.V (10, s, (i : Int)) := fun i => by rw [V2']; exact upd_ne (by simp)
   by_cases hk : EA σ2 s (N - 1) mk2 < 0
   ·refine .step (r3n _ _ _ _ _ _ _ _ _ _ _ _ _ hx3 hm2 hlast hx hk) ?_
    refine .last (r6 _ _ _ _ _ _ _ _ _ _ _ _ _ hx3 hx) (hf hx2 hmiss (fun i hi => ?_) _ ⟨cl, ?_, O2⟩)
    ·rcases k3 with ⟨_, k4⟩ | ⟨m, _, k4, _⟩
     ·rw [← ve]; exact k4 i hi
     ·omega
    ·show upd σ2.μ.V (8, s, 0) 0 = σ.μ.V
     rw [V2'];exact te h8 1
   ·refine .step (r3f _ _ _ _ _ _ _ _ _ _ _ _ _ hx3 hm2 hlast hx hk) ?_
    refine .step (r4 _ _ _ _ _ _ _ _ _ _ _ _ _ hx3 hx) ?_;refine .step (r5 _ _ _ _ _ _ _ _ _ _ _ _ _ hx3 hx) ?_
    rcases k3 with ⟨k4, _⟩ | ⟨m, k5, k4, k6, k7⟩
    ·exact absurd k4 hk
    have O2' : σ2.obs = σ.obs := O2;refine .last (r6 _ _ _ _ _ _ _ _ _ _ _ _ _ hx3 hx) (hn hx2 hmiss m k5 (by rw [← ve]; exact k6) (fun i hi => by rw [← ve]; exact k7 i hi) _ ⟨cl, ?_, ?_⟩)
    ·show upd (upd σ2.μ.V (10, s, EA σ2 s (N - 1) mk2) (cy x.flow σ2.obs.length)) (8, s, 0) 0 = _
     rw [V2', k4, O2'];exact acY h8 (by simp)
    ·show σ2.obs ++ [((⟨x.flow, x.b, max (σ2.c.un / x.a.toNat) 1⟩ : Ob), List.replicate (bP x.b) FW)] = _
     rw [O2', cl]
  ·refine .mono (n := ((1 + 1) + j) + 1) (by omega) ?_
   refine .step (r0 _ _ _ _ _ _ _ _ _ _ _ _ _ hx3 hx2 h8) ?_;refine yI hx3 _ j _ _ _ _ _ j 0 _ _ _ _ (by omega) (by show (j : Int) < σ.c.sl; omega) (fun i' _ h2 => by rw [hl]; exact hb i' h2) mk0 fun σ2 now2 f2 mk2 a2 k2 => ?_;obtain ⟨c2, V2, O2⟩ := a2;have V2' : σ2.μ.V = upd σ.μ.V (8, s, 0) 1 := V2.trans sv
   have hm2 : f9 (σ2.μ.V (10, s, (j : Int))) x.flow = true := by rw [V2', upd_ne (by simp)]; exact hjh
   refine .step (r3h _ _ _ _ _ _ _ _ _ _ _ _ _ hx3 hm2 hx) ?_;refine .last (r6 _ _ _ _ _ _ _ _ _ _ _ _ _ hx3 hx) (hh hx2 j hj hjh hb _ ⟨c2, ?_, O2⟩);show upd σ2.μ.V (8, s, 0) 0 = σ.μ.V;rw [V2'];exact te h8 1
structure Closed (σ σ' : aN) (s : Int) (j : Nat) : Prop where
 c : σ'.c = σ.c
 V : σ'.μ.V = upd (upd σ.μ.V (11, ((cW σ s j : Nat) : Int), 0) (aL (σ.μ.V (11, ((cW σ s j : Nat) : Int), 0)) + 4611686018427387904)) (10, s, (j : Int)) 0
 obs : σ'.obs = σ.obs
theorem WV {V : cO → Nat} {s : Int} {l l2 : cO} {v v2 : Nat} (h8 : V (8, s, 0) = 0) (hl : l ≠ (8, s, 0)) (hl2 : l2 ≠ (8, s, 0)) : upd (upd (upd (upd V (8, s, 0) 1) l v) l2 v2) (8, s, 0) 0 = upd (upd V l v) l2 v2 := by
 funext z
 show (if z = (8, s, 0) then 0 else if z = l2 then v2 else if z = l then v else if z = (8, s, 0) then 1 else V z) = if z = l2 then v2 else if z = l then v else V z
 by_cases e : z = (8, s, 0)
 ·rw [if_pos e, if_neg (fun h => hl2 (h.symm.trans e)), if_neg (fun h => hl (h.symm.trans e)), e, h8]
 ·rw [if_neg e, if_neg e]
theorem ai6 (hx : ¬ x.op = 3) (hx1 : ¬ x.op = 1) (now : Int) (hc : bZ σ.c = true) (hq : σ.μ.V (2, 0, 0) = 0) (h8 : σ.μ.V (8, s, 0) = 0)
 (hr : ∀ e, dM x = some e → ∀ σ', Sm σ σ' → P σ' e)
 (hm : dM x = none → (∀ i, i < σ.c.sl.toNat → e8 σ s x.flow i = false) → ∀ σ', Sm σ σ' → P σ' 5)
 (hb : dM x = none → ∀ j, j < σ.c.sl.toNat → e8 σ s x.flow j = true → (∀ i, i < j → e8 σ s x.flow i = false) → ¬ aZ (σ.μ.V (11, (cW σ s j : Nat), 0)) = 0 → ∀ σ', Sm σ σ' → P σ' 8)
 (hn : dM x = none → ∀ j, j < σ.c.sl.toNat → e8 σ s x.flow j = true → (∀ i, i < j → e8 σ s x.flow i = false) → aZ (σ.μ.V (11, (cW σ s j : Nat), 0)) = 0 → ∀ σ', Closed σ σ' s j → P σ' 0) :
 ju (σ.c.sl.toNat + 11) σ ⟨who, x, s, 0, 0, 0, false, 0, 0, -1, 0, 0⟩ now P := by
 have hsl := bo.1 hc;obtain ⟨N, hN⟩ : ∃ N, N = σ.c.sl.toNat := ⟨_, rfl⟩;rw [← hN] at hm hb hn ⊢
 cases hx2 : dM x with
 | some e => exact .last (r0e _ _ _ _ _ _ _ _ _ _ _ _ _ hx hx2) (hr e hx2 _ ⟨rfl, rfl, rfl⟩)
 | none =>
  have sv : (σ.μ.swp who (8, s, 0) 0 1).V = upd σ.μ.V (8, s, 0) 1 := qt h8
  have hl : ∀ j : Nat, e8 (σ.mem (σ.μ.swp who (8, s, 0) 0 1)) s x.flow j = e8 σ s x.flow j := fun j => by
   show f9 ((σ.μ.swp who (8, s, 0) 0 1).V (10, s, (j : Int))) x.flow = _;rw [sv, upd_ne (by simp)]
  have mk0 : MkI (σ.mem (σ.μ.swp who (8, s, 0) 0 1)).μ.V s 0 (-1) := .inl ⟨by omega, fun i' h => by omega⟩
  rcases D8 (e8 σ s x.flow) N with hmiss | ⟨j, hj, hjh, hbf⟩
  ·refine .mono (n := ((1 + 1) + (N - 1)) + 1) (by omega) ?_
   refine .step (r0 _ _ _ _ _ _ _ _ _ _ _ _ _ hx hx2 h8) ?_;refine yI hx _ (N - 1) _ _ _ _ _ (N - 1) 0 _ _ _ _ (by omega) (by show ((N - 1 : Nat) : Int) < σ.c.sl; omega) (fun i' _ h2 => by rw [hl]; exact hmiss i' (by omega)) mk0 fun σ2 now2 f2 mk2 a2 k2 => ?_;obtain ⟨c2, V2, O2⟩ := a2;have V2' : σ2.μ.V = upd σ.μ.V (8, s, 0) 1 := V2.trans sv
   have hm2 : f9 (σ2.μ.V (10, s, ((N - 1 : Nat) : Int))) x.flow = false := by rw [V2', upd_ne (by simp)]; exact hmiss _ (by omega)
   have cl : σ2.c = σ.c := c2;refine .step (c3n _ _ _ _ _ _ _ _ _ _ _ _ _ hx hm2 (by rw [cl]; omega) hx1) ?_;refine .last (c10 _ _ _ _ _ _ _ _ _ _ _ _ _ hx hx1) (hm hx2 hmiss _ ⟨cl, ?_, O2⟩);show upd σ2.μ.V (8, s, 0) 0 = σ.μ.V;rw [V2'];exact te h8 1
  ·refine .mono (n := (((((1 + 1) + 1) + 1) + 1) + 1 + j) + 1) (by omega) ?_
   refine .step (r0 _ _ _ _ _ _ _ _ _ _ _ _ _ hx hx2 h8) ?_;refine yI hx _ j _ _ _ _ _ j 0 _ _ _ _ (by omega) (by show (j : Int) < σ.c.sl; omega) (fun i' _ h2 => by rw [hl]; exact hbf i' h2) mk0 fun σ2 now2 f2 mk2 a2 k2 => ?_;obtain ⟨c2, V2, O2⟩ := a2;have V2' : σ2.μ.V = upd σ.μ.V (8, s, 0) 1 := V2.trans sv
   have ev : σ2.μ.V (10, s, (j : Int)) = σ.μ.V (10, s, (j : Int)) := by rw [V2', upd_ne (by simp)]
   have hm2 : f9 (σ2.μ.V (10, s, (j : Int))) x.flow = true := by rw [ev]; exact hjh
   refine .step (c3h _ _ _ _ _ _ _ _ _ _ _ _ _ hx hm2 hx1) ?_;rw [show σ2.μ.V (10, s, (j : Int)) % 4294967296 = cW σ s j from by rw [ev]]
   have ew : σ2.μ.V (11, ((cW σ s j : Nat) : Int), 0) = σ.μ.V (11, ((cW σ s j : Nat) : Int), 0) := by rw [V2', upd_ne (by simp)]
   by_cases hs0 : aZ (σ.μ.V (11, (cW σ s j : Nat), 0)) = 0
   ·refine .step (c4s _ _ _ _ _ _ _ _ _ _ _ _ _ hx hx1 (by show aZ (σ2.μ.V _) = 0; rw [ew]; exact hs0)) ?_
    obtain ⟨W, hW⟩ : ∃ W, W = σ.μ.V (11, ((cW σ s j : Nat) : Int), 0) := ⟨_, rfl⟩;have hv : bd W 2 = some (aL W + 4611686018427387904) := ac1 (by rw [hW]; exact hs0);have eW : σ2.μ.V (11, ((cW σ s j : Nat) : Int), 0) = W := ew.trans hW.symm;rw [show (σ2.mem (σ2.μ.acc who 1 (10, s, (j : Int)))).μ.V (11, ((cW σ s j : Nat) : Int), 0) = W from eW];refine .step (c8 _ _ _ _ _ _ _ _ _ _ _ _ _ hx hx1 hv eW) ?_;refine .step (c9 _ _ _ _ _ _ _ _ _ _ _ _ _ hx hx1) ?_;have sv2 := qt (μ := (σ2.μ.acc who 1 (10, s, (j : Int))).acc who 1 (11, ((cW σ s j : Nat) : Int), 0)) (who := who) (l := (11, ((cW σ s j : Nat) : Int), 0)) (was := W) (now := aL W + 4611686018427387904) eW;refine .last (c10 _ _ _ _ _ _ _ _ _ _ _ _ _ hx hx1) (hn hx2 j hj hjh hbf hs0 _ ⟨c2, ?_, O2⟩);show upd (upd (((σ2.μ.acc who 1 (10, s, (j : Int))).acc who 1 (11, ((cW σ s j : Nat) : Int), 0)).swp who (11, ((cW σ s j : Nat) : Int), 0) W (aL W + 4611686018427387904)).V (10, s, (j : Int)) 0) (8, s, 0) 0 = _;rw [sv2];show upd (upd (upd σ2.μ.V _ _) _ _) _ _ = _;rw [V2', WV h8 (by simp) (by simp), hW]
   ·refine .step (c4b _ _ _ _ _ _ _ _ _ _ _ _ _ hx hx1 (by show ¬ aZ (σ2.μ.V _) = 0; rw [ew]; exact hs0)) ?_
    have eq0 : σ2.μ.V (2, 0, 0) = 0 := by rw [V2', upd_ne (by simp)]; exact hq
    refine .step (c5 _ _ _ _ _ _ _ _ _ _ _ _ _ hx hx1 (by show ¬ σ2.μ.V (2, 0, 0) % 2 = 1; rw [eq0]; omega)) ?_;refine .step (c6 _ _ _ _ _ _ _ _ _ _ _ _ _ hx hx1 (by show ¬ aZ (σ2.μ.V _) = 0; rw [ew]; exact hs0)) ?_;refine .step (c7 _ _ _ _ _ _ _ _ _ _ _ _ _ hx hx1 rfl) ?_;refine .last (c10 _ _ _ _ _ _ _ _ _ _ _ _ _ hx hx1) (hb hx2 j hj hjh hbf hs0 _ ⟨c2, ?_, O2⟩);show upd σ2.μ.V (8, s, 0) 0 = σ.μ.V;rw [V2'];exact te h8 1
end
structure QS (σ : aN) (k : Nat) : Prop where
 seq : σ.μ.V (2, 0, 0) = 0
 mx : ∀ s : Int, σ.μ.V (8, s, 0) = 0
 word : ∀ s i : Int, σ.μ.V (10, s, i) ≠ 0 → cI (σ.μ.V (11, ((σ.μ.V (10, s, i) % 4294967296 : Nat) : Int), 0)) = true ∧ aZ (σ.μ.V (11, ((σ.μ.V (10, s, i) % 4294967296 : Nat) : Int), 0)) ≠ 2 ∧ aL (σ.μ.V (11, ((σ.μ.V (10, s, i) % 4294967296 : Nat) : Int), 0)) ≤ k
 uniq : ∀ s i s' i' : Int, σ.μ.V (10, s, i) ≠ 0 → σ.μ.V (10, s', i') ≠ 0 → σ.μ.V (10, s, i) % 4294967296 = σ.μ.V (10, s', i') % 4294967296 → s = s' ∧ i = i'
 fresh : ∀ o : Nat, σ.obs.length ≤ o → σ.μ.V (11, (o : Int), 0) = 0
section
variable {σ σ' : aN} {k : Nat}
theorem QS.mono {k' : Nat} (h : QS σ k) (hk : k ≤ k') : QS σ k' := ⟨h.seq, h.mx, fun s i hv => ⟨(h.word s i hv).1, (h.word s i hv).2.1, fy (h.word s i hv).2.2 hk⟩, h.uniq, h.fresh⟩
theorem QS.sm (h : QS σ k) (a : Sm σ σ') : QS σ' k := by
 obtain ⟨c, V, O⟩ := a;refine ⟨by rw [V]; exact h.seq, fun s => by rw [V]; exact h.mx s, fun s i => by rw [V]; exact h.word s i, fun s i s' i' => by rw [V]; exact h.uniq s i s' i', fun o ho => by rw [V]; rw [O] at ho; exact h.fresh o ho⟩
theorem QS.begin (h : QS σ k) (who place : Int) : QS (σ.begin who place) k := ⟨h.seq, h.mx, h.word, h.uniq, h.fresh⟩
theorem xw {k : Int} {a b : Nat} (h : ((k, (a : Int), (0 : Int)) : cO) = (k, (b : Int), 0)) : a = b := by
 have h2 : (a : Int) = (b : Int) := congrArg (fun l : cO => l.2.1) h;omega
theorem ag0 (op : Int) (e xb : Nat) : (tkV op e xb).all Value.oneCell' = true := by
 by_cases ho : op = 3
 ·rw [acQ ho]; rfl
 ·rw [acR ho]; rfl
theorem Nf {n : Nat} (hn : n < 2305843009213693951) : cI (n + 1 + 2305843009213693952) = true ∧ aZ (n + 1 + 2305843009213693952) ≠ 2 ∧ aL (n + 1 + 2305843009213693952) = n + 1 := by
 have h1 : (n + 1 + 2305843009213693952) / 2305843009213693952 = 1 := by omega
 have h2 : (n + 1 + 2305843009213693952) % 2305843009213693952 = n + 1 := by omega
 have hr : cI (n + 1 + 2305843009213693952) = true := by rw [cI, h1]; rfl
 refine ⟨hr, ?_, ?_⟩
 ·rw [aZ, if_pos hr, h1]; decide
 ·rw [aL, if_pos hr, h2]
theorem QS.laid {o : Nat} {x : Cl} (h : QS σ k) (hk : k < 2305843009213693950) (ho : o < σ.obs.length) (hw : ∃ s i : Int, σ.μ.V (10, s, i) ≠ 0 ∧ σ.μ.V (10, s, i) % 4294967296 = o) (a : KP σ σ' o x) : QS σ' (k + 1) := by
 obtain ⟨c, w, _, V, O⟩ := a;have v10 : ∀ s i : Int, σ'.μ.V (10, s, i) = σ.μ.V (10, s, i) := fun s i => V _ (by simp) (by simp) (by simp) (by simp)
 have hl : σ'.obs.length = σ.obs.length := by rw [O]; simp
 refine ⟨by rw [V _ (by simp) (by simp) (by simp) (by simp)]; exact h.seq, fun s => by rw [V _ (by simp) (by simp) (by simp) (by simp)]; exact h.mx s, fun s i hv => ?_, fun s i s' i' => by rw [v10, v10]; exact h.uniq s i s' i', fun z hz => ?_⟩
 ·rw [v10] at hv ⊢
  by_cases e : σ.μ.V (10, s, i) % 4294967296 = o
  ·rw [e, w]
   obtain ⟨q1, q2, q3⟩ := h.word s i hv;rw [e] at q3;obtain ⟨z1, z2, z3⟩ := Nf (n := aL (σ.μ.V (11, (o : Int), 0))) (by omega);exact ⟨z1, z2, by rw [z3]; omega⟩
  ·rw [V _ (fun q => e (xw q)) (by simp) (by simp) (by simp)]
   exact ⟨(h.word s i hv).1, (h.word s i hv).2.1, fy (h.word s i hv).2.2 (by omega)⟩
 ·rw [hl] at hz
  rw [V _ (fun q => by have := xw q; omega) (by simp) (by simp) (by simp)];exact h.fresh z hz
theorem QS.fill {s m f : Int} (h : QS σ k) (hs : ∀ s i, σ.μ.V (10, s, i) ≠ 0 → σ.μ.V (10, s, i) % 4294967296 < σ.obs.length) (hl : σ.obs.length < 4294967296) (V : σ'.μ.V = upd σ.μ.V (10, s, m) (cy f σ.obs.length)) (hlen : σ'.obs.length = σ.obs.length + 1) : QS σ' k := by
 have v11 : ∀ o : Int, σ'.μ.V (11, o, 0) = σ.μ.V (11, o, 0) := fun o => by rw [V]; exact upd_ne (by simp)
 have vm : σ'.μ.V (10, s, m) % 4294967296 = σ.obs.length := by rw [V, oX]; exact Ae hl
 have vo : ∀ a b : Int, ¬ (a = s ∧ b = m) → σ'.μ.V (10, a, b) = σ.μ.V (10, a, b) := fun a b hab => by
  rw [V]; exact upd_ne (fun q => hab (by simpa using q))
 have f0 := h.fresh σ.obs.length (bI _);refine ⟨by rw [V]; exact (upd_ne (by simp)).trans h.seq, fun s' => by rw [V]; exact (upd_ne (by simp)).trans (h.mx s'), fun a b hv => ?_, fun a b a' b' hv hv' he => ?_, fun z hz => ?_⟩
 ·rw [v11]
  by_cases e : a = s ∧ b = m
  ·obtain ⟨rfl, rfl⟩ := e
   rw [vm, f0];exact ⟨rfl, by decide, Nat.zero_le _⟩
  ·rw [vo a b e] at hv ⊢
   exact h.word a b hv
 ·by_cases e : a = s ∧ b = m
  ·obtain ⟨rfl, rfl⟩ := e
   by_cases e' : a' = a ∧ b' = b
   ·exact ⟨e'.1.symm, e'.2.symm⟩
   ·rw [vm, vo a' b' e'] at he
    rw [vo a' b' e'] at hv';have := hs a' b' hv';omega
  ·by_cases e' : a' = s ∧ b' = m
   ·obtain ⟨rfl, rfl⟩ := e'
    rw [vm, vo a b e] at he;rw [vo a b e] at hv;have := hs a b hv;omega
   ·rw [vo a b e, vo a' b' e'] at he
    rw [vo a b e] at hv;rw [vo a' b' e'] at hv';exact h.uniq a b a' b' hv hv' he
 ·rw [v11]
  exact h.fresh z (by omega)
theorem QS.newly {s : Int} {m : Nat} {x : Cl} (h : QS σ k) (hs : ∀ s i, σ.μ.V (10, s, i) ≠ 0 → σ.μ.V (10, s, i) % 4294967296 < σ.obs.length) (hl : σ.obs.length < 4294967296) (a : Newly σ σ' s m x) : QS σ' k :=
 h.fill hs hl a.V (by rw [a.obs]; simp)
theorem QS.closed {s : Int} {j : Nat} (h : QS σ k) (hj : σ.μ.V (10, s, (j : Int)) ≠ 0) (hs : cW σ s j < σ.obs.length) (a : Closed σ σ' s j) : QS σ' k := by
 obtain ⟨c, V, O⟩ := a
 have vm : σ'.μ.V (10, s, (j : Int)) = 0 := by rw [V, oX]
 have vo : ∀ a b : Int, ¬ (a = s ∧ b = j) → σ'.μ.V (10, a, b) = σ.μ.V (10, a, b) := fun a b hab => by
  rw [V]; exact (upd_ne (fun q => hab (by simpa using q))).trans (upd_ne (by simp))
 have v11 : ∀ o : Nat, o ≠ cW σ s j → σ'.μ.V (11, (o : Int), 0) = σ.μ.V (11, (o : Int), 0) := fun o ho => by
  rw [V]; exact (upd_ne (by simp)).trans (upd_ne (fun q => ho (xw q)))
 have no : ∀ a b : Int, σ'.μ.V (10, a, b) ≠ 0 → ¬ (a = s ∧ b = j) := fun a b hv e => by
  obtain ⟨rfl, rfl⟩ := e;exact hv vm
 refine ⟨by rw [V]; exact (upd_ne (by simp)).trans ((upd_ne (by simp)).trans h.seq), fun s' => by rw [V]; exact (upd_ne (by simp)).trans ((upd_ne (by simp)).trans (h.mx s')), fun a b hv => ?_, fun a b a' b' hv hv' he => ?_, fun z hz => ?_⟩
 ·have e := no a b hv
  rw [vo a b e] at hv ⊢;rw [v11 _ (fun q => e (h.uniq a b s j hv hj q))];exact h.word a b hv
 ·have e := no a b hv
  have e' := no a' b' hv';rw [vo a b e, vo a' b' e'] at he;rw [vo a b e] at hv;rw [vo a' b' e'] at hv';exact h.uniq a b a' b' hv hv' he
 ·rw [O] at hz
  rw [v11 z (by omega)];exact h.fresh z hz
theorem r9 {v : Nat} {flow : Int} (h : f9 v flow = true) : v ≠ 0 := (of_decide_eq_true h).1
end
section
variable (p x : Nat)
theorem K4 (now most : Int) (pb rb tb e xb : Nat) (op : Int) (x13 x14 : Value) (res : aN × Tk × Int) (hnow : 0 ≤ now ∧ now < 1000000) (hm : most < 1000) {R : SP} :
 ∀ (fuel k K : Nat) (rp : List Nat) (σ : aN) (t : Tk) (H : AH), (k : Int) + fuel = most → i9 fuel σ t (now + k) = some res → SI σ K → FX σ t → t.x.op = op → K + 3 * fuel < 280000 →
  ae (blk pb (.cells false [vp p, vp x]) * (blk rb (.cells false [vi 0, .slice none 0 0, vi 0, vw 0]) * (blk tb (.cells false (tkV op e xb)) * (aT e p rp t * (bn p rp σ * (zT xb x t * (aK x σ * R))))))) H →
  wp (l8 (vi now) (vi most) (vp pb) (vp rb) x13 x14 (vp tb) (vi (k : Int)) H) fun v' H' => ∃ rp' : List Nat, v' = .tuple #[.agg (ef res.2.1.code).toArray, vi res.2.2, vb true] ∧ ae (pu (rp <+: rp') * (bn p rp' res.1 * aK x res.1) * R) H' := by
 intro fuel
 induction fuel with
 | zero => intro k K rp σ t H _ h; cases h
 | succ fuel ih =>
  intro k K rp σ t H hk ha S T ho hK h;subst ho;have K1 := Fu (now + k) (by omega) S T;unfold i9 at ha;refine ah (Bm ..) ?_;refine aa (cK (by omega)) ?_;refine gs ?_;refine ah (Bn ..) ?_;refine aJ h ?_;refine aJ h ?_;refine aa (aM (by omega) (by omega)) ?_;have law := WU p x rp e xb σ t (now + k) K S (by omega) T;obtain ⟨r, hr⟩ : ∃ r, r = bx σ t (now + k) := ⟨_, rfl⟩;rw [← hr] at law ha K1;refine ag h law fun rp' H2 h3 => ?_;rw [ai, ae.pu] at h3;obtain ⟨hpre, h3⟩ := h3;refine aa (v := .agg (ef (if r.2.2 = true then r.2.1.code else 0)).toArray) rfl ?_;refine aa (v := vb r.2.2) rfl ?_;refine aa (v := vb true) rfl ?_;refine bf h3 fun qb H3 h4 => ?_;refine cX h4 rfl rfl fun H4 h5 => ?_;refine gs ?_;rw [Bool.not_true];refine gs ?_;cases hd : r.2.2
  ·rw [hd] at ha
   rw [if_neg (by simp)] at ha;refine gs ?_;refine ah (Bo ..) ?_;refine aa (aM (by omega) (by omega)) ?_;rw [show ((k : Nat) : Int) + 1 = ((k + 1 : Nat) : Int) from by omega];rw [akZ hd, alY hd] at h5;refine Aj ?_ (ih (k + 1) (K + 3) rp' _ _ H4 (by omega) (by rw [← ha]; congr 1; omega) K1.si (K1.ok hd) (by rw [K1.x]) (by omega) h5.to)
   rintro v' H' ⟨rp2, rfl, h6⟩
   refine ⟨rp2, rfl, ?_⟩;rw [ai, ae.pu] at h6 ⊢;exact ⟨List.IsPrefix.trans hpre h6.1, h6.2⟩
  ·rw [hd, if_pos rfl] at ha
   obtain rfl := gr ha;rw [hd, if_pos rfl] at h5;refine gs ?_;refine aJ h5 ?_;refine aa (aM (by omega) (by omega)) ?_;refine aa (aM (by omega) (by omega)) ?_;refine cX h5 rfl rfl fun HA hA => ?_;refine aJ hA ?_;refine aq ⟨rp', rfl, ?_⟩;rw [ai, ae.pu];exact ⟨hpre, hA.to⟩
theorem GI (rp : List Nat) (σ : aN) (K : Nat) (S : SI σ K) (who place : Int) (c : Cl) (now : Int) (fuel : Nat) (hnow : 0 ≤ now ∧ now < 1000000) (hm : fuel < 1000) (hK : K + 1 + 3 * fuel < 280000) (res : aN × Tk × Int)
 (ha : i9 fuel (σ.begin who place) (Tk.newA σ.c who c) now = some res) :
 Sp nW [.agg [vp p, vp x].toArray, vi who, vi place, .agg (Cl.cells c).toArray, vi now, vi (fuel : Int)] (bn p rp σ * aK x σ) (fun _ : List Nat => .tuple #[.agg (ef res.2.1.code).toArray, vi res.2.2, vb true]) (fun rp' => pu (rp <+: rp') * (bn p rp' res.1 * aK x res.1)) := by
 have S1 := S.begin who place;refine br (JK _ _ _ _ _ _) fun R H h => ?_;refine aS (l := [vp p, vp x]) h fun pb H1 h1 => ?_;refine aS h1 fun cb H2 h2 => ?_;refine bf h2 fun rb H3 h3 => ?_;refine aJ h3 ?_;refine aJ h3 ?_;refine ag h3 (TU p x rp σ S.c (by have := S.N; omega) who place c) fun g H4 h4 => ?_;obtain ⟨e, xb⟩ := g;dsimp only at h4 ⊢;refine bf h4 fun tb H5 h5 => ?_;refine cX (l := tkV c.op e xb) (cs' := tkV c.op e xb) h5 rfl (ag0 _ _ _) fun H6 h6 => ?_;refine ah (Bk ..) ?_;refine ah (Bl ..) ?_;exact K4 p x now fuel pb rb tb e xb c.op (vi 0) (vb false) res hnow (by omega) (R := R) fuel 0 (K + 1) rp (σ.begin who place) (Tk.newA σ.c who c) H6 (by omega) (by rw [← ha]; congr 1; omega) S1 (FX.new (σ := σ.begin who place) S.c who c) (by rw [ajQ]) (by omega) h6.to
end
theorem FX.new' {σ : aN} (hc : bZ σ.c = true) (who place : Int) (x : Cl) : FX (σ.begin who place) (Tk.newA σ.c who x) := FX.new (σ := σ.begin who place) hc who x
theorem QS.made (c : eg) (hc : bZ c = true) : ∀ n, n ≤ 16 → QS (aN.made c n) 0 := by
 intro n
 induction n with
 | zero => exact fun _ => ⟨rfl, fun _ => rfl, fun s i h => absurd rfl h, fun s i s' i' h => absurd rfl h, fun _ _ => rfl⟩
 | succ n ih =>
  intro hn;have h := ih (by omega);have M := so c hc n (by omega);have hm := (vl c n).2.2;unfold aN.made
  split
  ·exact h.fill M.si.slot (by omega) rfl (by simp [aN.lay, aN.make])
  ·exact h
structure Mf where
 id : Int
 r : Nat
 most : Nat
 L : List Pk
abbrev Gf := Mf × Nat × Nat
def gD (f : Int) : List Mf → Option Mf
 | [] => none
 | a :: l => if a.id = f then some a else gD f l
def Gc (f : Int) (g : Mf → Mf) (M : List Mf) : List Mf := M.map fun a => if a.id = f then g a else a
def O3 (f : Int) (M : List Mf) : List Mf := M.filter fun a => decide (a.id ≠ f)
def pz (n : Mf) : List Mf → List Mf
 | [] => [n]
 | a :: l => if a.id < n.id then a :: pz n l else n :: a :: l
def py (c : eg) (M : List Mf) (f : Int) : Nat := (M.filter fun a => decide (a.id.tmod c.sh = f.tmod c.sh)).length
def tH (c : eg) (M : List Mf) (x : Cl) : List Mf × Int :=
 if x.op = 1 then
  (match dM x with
  | some e => (M, e)
  | none => match gD x.flow M with
   | some _ => (M, 6)
   | none => if c.sl ≤ (py c M x.flow : Int) then (M, 7) else (pz ⟨x.flow, max (c.un / x.a.toNat) 1, bP x.b, []⟩ M, 0))
 else if x.op = 2 then
  (match gD x.flow M with
  | none => (M, 5)
  | some a => if a.L.length = 0 then (O3 x.flow M, 0) else (M, 8))
 else if x.a < 1 ∨ 65536 < x.a then (M, 3)
 else match gD x.flow M with
  | none => (M, 5)
  | some a => if a.most ≤ a.L.length then (M, 9) else (Gc x.flow (fun a => { a with L := a.L ++ [⟨x.flow, x.a, x.b⟩] }) M, 0)
theorem Eo {c : eg} {M : List Mf} {x : Cl} (h : x.op = 1) : tH c M x = (match dM x with
 | some e => (M, e)
 | none => match gD x.flow M with
  | some _ => (M, 6)
  | none => if c.sl ≤ (py c M x.flow : Int) then (M, 7) else (pz ⟨x.flow, max (c.un / x.a.toNat) 1, bP x.b, []⟩ M, 0)) := if_pos h
theorem Hk {c : eg} {M : List Mf} {x : Cl} (h : x.op = 2) : tH c M x = (match gD x.flow M with
 | none => (M, 5)
 | some a => if a.L.length = 0 then (O3 x.flow M, 0) else (M, 8)) := (if_neg (by omega)).trans (if_pos h)
theorem xx {c : eg} {M : List Mf} {x : Cl} (h : x.op = 3) : tH c M x = (if x.a < 1 ∨ 65536 < x.a then (M, (3 : Int))
 else match gD x.flow M with
  | none => (M, 5)
  | some a => if a.most ≤ a.L.length then (M, 9) else (Gc x.flow (fun a => { a with L := a.L ++ [⟨x.flow, x.a, x.b⟩] }) M, 0)) := (if_neg (by omega)).trans (if_neg (by omega))
abbrev nH (c : eg) (f : Int) : Int := (f.tmod c.sh + c.sh).tmod c.sh
structure jt (σ : aN) (M : List Gf) : Prop where
 srt : M.Pairwise fun a b => a.1.id < b.1.id
 ids : ∀ g ∈ M, 0 ≤ g.1.id ∧ g.1.id ≤ 1048576
 fl : ∀ g ∈ M, g.2.2 < σ.c.sl.toNat ∧ σ.μ.V (10, nH σ.c g.1.id, ((g.2.2 : Nat) : Int)) = cy g.1.id g.2.1 ∧ g.2.1 < σ.obs.length
 w : ∀ g ∈ M, aL (σ.μ.V (11, ((g.2.1 : Nat) : Int), 0)) = g.1.L.length ∧ (aZ (σ.μ.V (11, ((g.2.1 : Nat) : Int), 0)) = 0 ↔ g.1.L.length = 0) ∧ (au σ g.2.1).length = g.1.most
 slot : ∀ s i : Int, σ.μ.V (10, s, i) ≠ 0 → ∃ g ∈ M, nH σ.c g.1.id = s ∧ ((g.2.2 : Nat) : Int) = i
 hd : ∀ o : Int, σ.μ.V (12, o, 0) = 0
theorem mo {f : Int} {a : Mf} : ∀ {M : List Mf}, gD f M = some a → a ∈ M ∧ a.id = f := by
 intro M
 induction M with
 | nil => intro h; cases h
 | cons b l ih =>
  intro h;unfold gD at h
  split at h
  ·rename_i e
   obtain rfl := gr h;exact ⟨List.mem_cons_self .., e⟩
  ·exact ⟨List.mem_cons_of_mem _ (ih h).1, (ih h).2⟩
theorem zn {f : Int} : ∀ {M : List Mf}, gD f M = none → ∀ a ∈ M, a.id ≠ f := by
 intro M
 induction M with
 | nil => intro _ a ha; cases ha
 | cons b l ih =>
  intro h a ha;unfold gD at h
  split at h
  ·cases h
  ·rename_i e
   rcases vj.1 ha with rfl | ha
   ·exact e
   ·exact ih h a ha
def JW (n : Gf) : List Gf → List Gf
 | [] => [n]
 | a :: l => if a.1.id < n.1.id then a :: JW n l else n :: a :: l
theorem Mq (n : Gf) : ∀ M : List Gf, (JW n M).map (fun g => g.1) = pz n.1 (M.map fun g => g.1) := by
 intro M
 induction M with
 | nil => rfl
 | cons a l ih =>
  show (if a.1.id < n.1.id then a :: JW n l else n :: a :: l).map _ = if a.1.id < n.1.id then a.1 :: pz n.1 (l.map _) else n.1 :: a.1 :: l.map _
  split
  ·rw [List.map_cons, ih]
  ·rfl
theorem mZ {n x : Gf} : ∀ {M : List Gf}, x ∈ JW n M ↔ x = n ∨ x ∈ M := by
 intro M
 induction M with
 | nil => simp [JW]
 | cons a l ih =>
  unfold JW
  split
  ·rw [vj, ih, vj]
   constructor
   ·rintro (h | h | h)
    ·exact .inr (.inl h)
    ·exact .inl h
    ·exact .inr (.inr h)
   ·rintro (h | h | h)
    ·exact .inr (.inl h)
    ·exact .inl h
    ·exact .inr (.inr h)
  ·rw [vj]
theorem acH {n : Gf} : ∀ {M : List Gf}, (M.Pairwise fun a b => a.1.id < b.1.id) → (∀ a ∈ M, a.1.id ≠ n.1.id) → (JW n M).Pairwise fun a b => a.1.id < b.1.id := by
 intro M
 induction M with
 | nil => intro _ _; exact List.pairwise_singleton _ _
 | cons a l ih =>
  intro h hn;rw [List.pairwise_cons] at h;unfold JW
  split
  ·rename_i hlt
   rw [List.pairwise_cons];refine ⟨fun b hb => ?_, ih h.2 fun b hb => hn b (List.mem_cons_of_mem _ hb)⟩
   rcases mZ.1 hb with rfl | hb
   ·exact hlt
   ·exact h.1 b hb
  ·rename_i hlt
   have hne := hn a (List.mem_cons_self ..);rw [List.pairwise_cons];refine ⟨fun b hb => ?_, List.pairwise_cons.2 h⟩
   rcases vj.1 hb with rfl | hb
   ·omega
   ·have := h.1 b hb; omega
theorem Cy {M : List Gf} (h : M.Pairwise fun a b => a.1.id < b.1.id) {a b : Gf} (ha : a ∈ M) (hb : b ∈ M) (e : a.1.id = b.1.id) : a = b := by
 induction M with
 | nil => cases ha
 | cons x l ih =>
  rw [List.pairwise_cons] at h
  rcases vj.1 ha with ea | ha
  ·rcases vj.1 hb with eb | hb
   ·rw [ea, eb]
   ·have := h.1 b hb; rw [ea] at e; omega
  ·rcases vj.1 hb with eb | hb
   ·have := h.1 a ha; rw [eb] at e; omega
   ·exact ih h.2 ha hb
theorem aaE : ∀ (A B : List Nat), A.Nodup → (∀ x ∈ A, x ∈ B) → A.length ≤ B.length := by
 intro A
 induction A with
 | nil => intro B _ _; exact Nat.zero_le _
 | cons a A ih =>
  intro B hn hs;rw [List.nodup_cons] at hn;have hb := hs a (List.mem_cons_self ..);have := ih (B.erase a) hn.2 fun x hx => (List.mem_erase_of_ne (fun e => hn.1 (by rw [← e]; exact hx))).2 (hs x (List.mem_cons_of_mem _ hx));rw [List.length_erase_of_mem hb] at this;have hp : 0 < B.length := List.length_pos_of_mem hb;rw [List.length_cons];omega
section
variable {σ σ' : aN} {M : List Gf} {k K : Nat}
theorem gh {f : Int} {o : Nat} (hf : 0 ≤ f) (ho : o < 4294967296) : ((cy f o / 4294967296 : Nat) : Int) - 1 = f ∧ cy f o ≠ 0 ∧ cy f o % 4294967296 = o := by
 unfold cy;omega
theorem P5 {c : eg} (hc : bZ c = true) {f : Int} (hf : 0 ≤ f) : nH c f = f.tmod c.sh := by
 have h := bo.1 hc;have h1 := Int.tmod_nonneg c.sh hf;have h2 := Int.tmod_lt_of_pos f (b := c.sh) (by omega);unfold nH;rw [Int.tmod_eq_emod_of_nonneg (by omega : 0 ≤ f.tmod c.sh + c.sh), Int.add_emod_right, Int.emod_eq_of_lt h1 h2]
theorem jt.hit (R : jt σ M) (S : SI σ K) (hK : K < 4294967296) {f : Int} {j : Nat} (h : e8 σ (nH σ.c f) f j = true) : ∃ g ∈ M, g.1.id = f ∧ g.2.2 = j ∧ cW σ (nH σ.c f) j = g.2.1 := by
 obtain ⟨h0, h1⟩ := of_decide_eq_true h;obtain ⟨g, hg, e1, e2⟩ := R.slot _ _ h0
 have hj : g.2.2 = j := by omega
 obtain ⟨q1, q2, q3⟩ := R.fl g hg;rw [e1, e2] at q2;have hid := R.ids g hg
 have ho : g.2.1 < 4294967296 := by have := S.obs; omega
 obtain ⟨z1, z2, z3⟩ := gh hid.1 ho;rw [← q2] at z1 z3;exact ⟨g, hg, by omega, hj, z3⟩
theorem jt.at (R : jt σ M) (S : SI σ K) (hK : K < 4294967296) {g : Gf} (hg : g ∈ M) : e8 σ (nH σ.c g.1.id) g.1.id g.2.2 = true ∧ cW σ (nH σ.c g.1.id) g.2.2 = g.2.1 := by
 obtain ⟨q1, q2, q3⟩ := R.fl g hg;have hid := R.ids g hg
 have ho : g.2.1 < 4294967296 := by have := S.obs; omega
 obtain ⟨z1, z2, z3⟩ := gh hid.1 ho;refine ⟨?_, ?_⟩
 ·show f9 (σ.μ.V _) _ = true
  rw [q2];exact dj ⟨z2, z1⟩
 ·show σ.μ.V _ % 4294967296 = _
  rw [q2];exact z3
theorem jt.cnt (R : jt σ M) (hc : bZ σ.c = true) (S : SI σ K) (hK : K < 4294967296) {f : Int} (hf : 0 ≤ f) :
 ((∀ i, i < σ.c.sl.toNat → σ.μ.V (10, nH σ.c f, ((i : Nat) : Int)) ≠ 0) → σ.c.sl ≤ (py σ.c (M.map fun g => g.1) f : Int)) ∧
 ((∃ m, m < σ.c.sl.toNat ∧ σ.μ.V (10, nH σ.c f, ((m : Nat) : Int)) = 0) → (py σ.c (M.map fun g => g.1) f : Int) < σ.c.sl) := by
 have hsl := bo.1 hc;obtain ⟨A, hA⟩ : ∃ A, A = (M.filter fun g => decide (nH σ.c g.1.id = nH σ.c f)).map fun g => g.2.2 := ⟨_, rfl⟩
 have hlen : py σ.c (M.map fun g => g.1) f = A.length := by
  rw [hA, pw];unfold py;rw [List.filter_map, pw]
  congr 1
  apply List.filter_congr;intro g hg;have h1 := R.ids g hg;show decide (g.1.id.tmod σ.c.sh = f.tmod σ.c.sh) = _;rw [P5 hc h1.1, P5 hc hf]
 have hmem : ∀ i, i ∈ A ↔ ∃ g ∈ M, nH σ.c g.1.id = nH σ.c f ∧ g.2.2 = i := by
  intro i;rw [hA, List.mem_map]
  constructor
  ·rintro ⟨g, hg, e⟩
   rw [List.mem_filter] at hg;exact ⟨g, hg.1, of_decide_eq_true hg.2, e⟩
  ·rintro ⟨g, hg, e1, e2⟩
   exact ⟨g, List.mem_filter.2 ⟨hg, dj e1⟩, e2⟩
 have hv : ∀ i, i ∈ A → i < σ.c.sl.toNat ∧ σ.μ.V (10, nH σ.c f, ((i : Nat) : Int)) ≠ 0 := by
  intro i hi;obtain ⟨g, hg, e1, e2⟩ := (hmem i).1 hi;obtain ⟨q1, q2, q3⟩ := R.fl g hg
  have ho : g.2.1 < 4294967296 := by have := S.obs; omega
  rw [e1, e2] at q2;rw [e2] at q1;exact ⟨q1, by rw [q2]; exact (gh (R.ids g hg).1 ho).2.1⟩
 have hnd : A.Nodup := by
  rw [hA];refine List.pairwise_map.2 ?_;have hp : (M.filter fun g => decide (nH σ.c g.1.id = nH σ.c f)).Pairwise fun a b => a.1.id < b.1.id := R.srt.filter _;refine List.Pairwise.imp_of_mem (fun {a b} ha hb hab e => ?_) hp;rw [List.mem_filter] at ha hb;have e1 := of_decide_eq_true ha.2;have e2 := of_decide_eq_true hb.2;have a2 := (R.fl a ha.1).2.1;have b2 := (R.fl b hb.1).2.1;rw [e1, e] at a2;rw [e2, a2] at b2
  have ho : a.2.1 < 4294967296 := by have := (R.fl a ha.1).2.2; have := S.obs; omega
  have ho2 : b.2.1 < 4294967296 := by have := (R.fl b hb.1).2.2; have := S.obs; omega
  have z1 := (gh (R.ids a ha.1).1 ho).1;have z2 := (gh (R.ids b hb.1).1 ho2).1;rw [b2] at z1;omega
 rw [hlen];refine ⟨fun h => ?_, fun ⟨m, hm, h0⟩ => ?_⟩
 ·have := aaE (List.range σ.c.sl.toNat) A List.nodup_range fun i hi => by
   rw [List.mem_range] at hi;obtain ⟨g, hg, e1, e2⟩ := R.slot _ _ (h i hi);exact (hmem i).2 ⟨g, hg, e1, by omega⟩
  rw [List.length_range] at this;omega
 ·have := aaE (m :: A) (List.range σ.c.sl.toNat) (List.nodup_cons.2 ⟨fun hA2 => (hv m hA2).2 h0, hnd⟩) fun i hi => by
   rcases vj.1 hi with rfl | hi
   ·exact List.mem_range.2 hm
   ·exact List.mem_range.2 (hv i hi).1
  rw [List.length_range, List.length_cons] at this;omega
theorem jt.sm (R : jt σ M) (a : Sm σ σ') : jt σ' M := by
 obtain ⟨c, V, O⟩ := a
 have e : ∀ o, au σ' o = au σ o := fun o => by unfold au; rw [O]
 exact ⟨R.srt, R.ids, fun g hg => by rw [c, V, O]; exact R.fl g hg, fun g hg => by rw [V, e]; exact R.w g hg, fun s i h => by rw [V] at h; rw [c]; exact R.slot s i h, fun o => by rw [V]; exact R.hd o⟩
theorem jt.obj (R : jt σ M) (Q : QS σ k) (S : SI σ K) (hK : K < 4294967296) {a b : Gf} (ha : a ∈ M) (hb : b ∈ M) (e : a.2.1 = b.2.1) : a = b := by
 obtain ⟨a1, a2⟩ := R.at S hK ha;obtain ⟨b1, b2⟩ := R.at S hK hb;obtain ⟨u1, u2⟩ := Q.uniq _ _ _ _ (r9 a1) (r9 b1) (a2.trans (e.trans b2.symm));have a3 := (R.fl a ha).2.1;have b3 := (R.fl b hb).2.1;rw [u1, u2] at a3;rw [a3] at b3
 have ho : a.2.1 < 4294967296 := by have := (R.fl a ha).2.2; have := S.obs; omega
 have z1 := (gh (R.ids a ha).1 ho).1;have z2 := (gh (R.ids b hb).1 (by omega : b.2.1 < 4294967296)).1;rw [b3] at z1;exact Cy R.srt ha hb (by omega)
theorem jt.newly {m : Nat} {x : Cl} (R : jt σ M) (Q : QS σ k) (S : SI σ K) (hK : K < 4294967296) (hf : 0 ≤ x.flow ∧ x.flow ≤ 1048576) (hn : ∀ g ∈ M, g.1.id ≠ x.flow) (hm : m < σ.c.sl.toNat) (h0 : σ.μ.V (10, nH σ.c x.flow, (m : Int)) = 0) (a : Newly σ σ' (nH σ.c x.flow) m x) :
 jt σ' (JW (⟨x.flow, max (σ.c.un / x.a.toNat) 1, bP x.b, []⟩, σ.obs.length, m) M) := by
 obtain ⟨c, V, O⟩ := a
 have ho : σ.obs.length < 4294967296 := by have := S.obs; omega
 have vm : σ'.μ.V (10, nH σ.c x.flow, (m : Int)) = cy x.flow σ.obs.length := by rw [V, oX]
 have vo : ∀ a b : Int, ¬ (a = nH σ.c x.flow ∧ b = m) → σ'.μ.V (10, a, b) = σ.μ.V (10, a, b) := fun a b hab => by
  rw [V]; exact upd_ne (fun q => hab (by simpa using q))
 have hlen : σ'.obs.length = σ.obs.length + 1 := by rw [O]; simp
 have old : ∀ g ∈ M, ¬ (nH σ.c g.1.id = nH σ.c x.flow ∧ ((g.2.2 : Nat) : Int) = m) := fun g hg e => by
  have q := (R.fl g hg).2.1;rw [e.1, e.2, h0] at q;have := (gh (R.ids g hg).1 (by have := (R.fl g hg).2.2; omega : g.2.1 < 4294967296)).2.1;exact this q.symm
 refine ⟨acH R.srt hn, fun g hg => ?_, fun g hg => ?_, fun g hg => ?_, fun s i hv => ?_, fun o => by rw [V]; exact Eq.trans (upd_ne (by simp)) (R.hd o)⟩
 ·rcases mZ.1 hg with rfl | hg
  ·exact hf
  ·exact R.ids g hg
 ·rw [c, hlen]
  rcases mZ.1 hg with rfl | hg
  ·exact ⟨hm, vm, by show σ.obs.length < _; omega⟩
  ·obtain ⟨q1, q2, q3⟩ := R.fl g hg
   exact ⟨q1, by rw [vo _ _ (old g hg)]; exact q2, by omega⟩
 ·have v11 : ∀ o : Int, σ'.μ.V (11, o, 0) = σ.μ.V (11, o, 0) := fun o => by rw [V]; exact upd_ne (by simp)
  rw [v11]
  rcases mZ.1 hg with rfl | hg
  ·show aL (σ.μ.V (11, ((σ.obs.length : Nat) : Int), 0)) = 0 ∧ (aZ (σ.μ.V (11, ((σ.obs.length : Nat) : Int), 0)) = 0 ↔ ([] : List Pk).length = 0) ∧ (au σ' σ.obs.length).length = bP x.b
   rw [Q.fresh _ (bI _)];refine ⟨rfl, ⟨fun _ => rfl, fun _ => rfl⟩, ?_⟩;unfold au;rw [O, List.getElem?_append_right (bI _), Nat.sub_self];exact List.length_replicate
  ·obtain ⟨q1, q2, q3⟩ := R.w g hg
   refine ⟨q1, q2, ?_⟩
   have e : au σ' g.2.1 = au σ g.2.1 := by
    unfold au;rw [O, List.getElem?_append_left (R.fl g hg).2.2]
   rw [e];exact q3
 ·rw [c]
  by_cases e : s = nH σ.c x.flow ∧ i = m
  ·exact ⟨_, mZ.2 (.inl rfl), e.1.symm, e.2.symm⟩
  ·rw [vo s i e] at hv
   obtain ⟨g, hg, h1, h2⟩ := R.slot s i hv;exact ⟨g, mZ.2 (.inr hg), h1, h2⟩
theorem jt.closed (R : jt σ M) (Q : QS σ k) (S : SI σ K) (hK : K < 4294967296) {f : Int} {g : Gf} (hg : g ∈ M) (hid : g.1.id = f) (ho : cW σ (nH σ.c f) g.2.2 = g.2.1) (a : Closed σ σ' (nH σ.c f) g.2.2) :
 jt σ' (M.filter fun h => decide (h.1.id ≠ f)) := by
 obtain ⟨c, V, O⟩ := a
 have vm : σ'.μ.V (10, nH σ.c f, ((g.2.2 : Nat) : Int)) = 0 := by rw [V, oX]
 have vo : ∀ a b : Int, ¬ (a = nH σ.c f ∧ b = ((g.2.2 : Nat) : Int)) → σ'.μ.V (10, a, b) = σ.μ.V (10, a, b) := fun a b hab => by
  rw [V]; exact (upd_ne (fun q => hab (by simpa using q))).trans (upd_ne (by simp))
 have v11 : ∀ o : Nat, o ≠ g.2.1 → σ'.μ.V (11, (o : Int), 0) = σ.μ.V (11, (o : Int), 0) := fun o hne => by
  rw [V]; exact (upd_ne (by simp)).trans (upd_ne (fun q => hne ((xw q).trans ho)))
 have ec : ∀ o, au σ' o = au σ o := fun o => by unfold au; rw [O]
 have mem : ∀ h, h ∈ (M.filter fun h => decide (h.1.id ≠ f)) → h ∈ M ∧ h ≠ g := fun h hh => by
  rw [List.mem_filter] at hh;exact ⟨hh.1, fun e => of_decide_eq_true hh.2 (by rw [e]; exact hid)⟩
 have other : ∀ h ∈ M, h ≠ g → ¬ (nH σ.c h.1.id = nH σ.c f ∧ ((h.2.2 : Nat) : Int) = ((g.2.2 : Nat) : Int)) := fun h hh hne e => by
  have q := (R.at S hK hh).2;have q2 := (R.at S hK hg).2;rw [hid] at q2
  have e2 : h.2.2 = g.2.2 := by omega
  rw [e.1, e2, q2] at q;exact hne (R.obj Q S hK hh hg q.symm)
 refine ⟨R.srt.filter _, fun h hh => R.ids h (mem h hh).1, fun h hh => ?_, fun h hh => ?_, fun s i hv => ?_, fun o => by rw [V]; exact Eq.trans (upd_ne (by simp)) (Eq.trans (upd_ne (by simp)) (R.hd o))⟩
 ·obtain ⟨m1, m2⟩ := mem h hh
  obtain ⟨q1, q2, q3⟩ := R.fl h m1;rw [c, O];exact ⟨q1, by rw [vo _ _ (other h m1 m2)]; exact q2, q3⟩
 ·obtain ⟨m1, m2⟩ := mem h hh
  rw [v11 _ (fun e => m2 (R.obj Q S hK m1 hg e)), ec];exact R.w h m1
 ·rw [c]
  have hne : ¬ (s = nH σ.c f ∧ i = ((g.2.2 : Nat) : Int)) := fun e => hv (by rw [e.1, e.2]; exact vm);rw [vo s i hne] at hv;obtain ⟨h, hh, h1, h2⟩ := R.slot s i hv;refine ⟨h, List.mem_filter.2 ⟨hh, dj fun e => hne ?_⟩, h1, h2⟩;have := Cy R.srt hh hg (e.trans hid.symm);subst this;exact ⟨by rw [← h1, hid], h2.symm⟩
theorem ag6 {n : Nat} (hn : n < 2305843009213693951) : aZ (n + 1 + 2305843009213693952) = 1 := by
 have h1 : (n + 1 + 2305843009213693952) / 2305843009213693952 = 1 := by omega
 have hr : cI (n + 1 + 2305843009213693952) = true := by rw [cI, h1]; rfl
 rw [aZ, if_pos hr, h1]; rfl
theorem jt.laid (R : jt σ M) (Q : QS σ k) (hk : k < 2305843009213693950) (S : SI σ K) (hK : K < 4294967296) {x : Cl} {g : Gf} (hg : g ∈ M) (hid : g.1.id = x.flow) (a : KP σ σ' g.2.1 x) :
 jt σ' (M.map fun h => if h.1.id = x.flow then ({ h.1 with L := h.1.L ++ [⟨x.flow, x.a, x.b⟩] }, h.2) else h) := by
 obtain ⟨c, w, _, V, O⟩ := a;have v10 : ∀ s i : Int, σ'.μ.V (10, s, i) = σ.μ.V (10, s, i) := fun s i => V _ (by simp) (by simp) (by simp) (by simp)
 have hl : σ'.obs.length = σ.obs.length := by rw [O]; simp
 have ec : ∀ o, (au σ' o).length = (au σ o).length := fun o => by
  unfold au;rw [O, List.getElem?_modify]
  cases σ.obs[o]? with
  | none => rfl
  | some q =>
   show (if g.2.1 = o then _ else q).2.length = q.2.length
   split
   ·exact Mc
   ·rfl
 have wd : aL (σ.μ.V (11, ((g.2.1 : Nat) : Int), 0)) < 2305843009213693951 := by
  obtain ⟨a1, a2⟩ := R.at S hK hg;have := (Q.word _ _ (r9 a1)).2.2;rw [show σ.μ.V (10, nH σ.c g.1.id, ((g.2.2 : Nat) : Int)) % 4294967296 = g.2.1 from a2] at this;omega
 have im : ∀ h ∈ (M.map fun h : Gf => if h.1.id = x.flow then (({ h.1 with L := h.1.L ++ [⟨x.flow, x.a, x.b⟩] } : Mf), h.2) else h), ∃ h0 ∈ M, h.1.id = h0.1.id ∧ h.2 = h0.2 ∧ (h0.1.id = x.flow ∧ h0 = g ∧ h.1.most = g.1.most ∧ h.1.L = g.1.L ++ [⟨x.flow, x.a, x.b⟩] ∨ h0 ≠ g ∧ h = h0) := fun h hh => by
  rw [List.mem_map] at hh;obtain ⟨h0, q1, q2⟩ := hh;refine ⟨h0, q1, ?_⟩
  split at q2
  ·rename_i e
   have := Cy R.srt q1 hg (e.trans hid.symm);subst q2;subst this;exact ⟨rfl, rfl, .inl ⟨e, rfl, rfl, rfl⟩⟩
  ·rename_i e
   subst q2;exact ⟨rfl, rfl, .inr ⟨fun e2 => e (by rw [e2]; exact hid), rfl⟩⟩
 refine ⟨?_, fun h hh => ?_, fun h hh => ?_, fun h hh => ?_, fun s i hv => ?_, fun o => by rw [V _ (by simp) (by simp) (by simp) (by simp)]; exact R.hd o⟩
 ·rw [List.pairwise_map]
  refine R.srt.imp fun {a b} hab => ?_
  have e : ∀ h : Gf, (if h.1.id = x.flow then (({ h.1 with L := h.1.L ++ [⟨x.flow, x.a, x.b⟩] } : Mf), h.2) else h).1.id = h.1.id := fun h => by split <;> rfl
  rw [e, e];exact hab
 ·obtain ⟨h0, m0, e1, _⟩ := im h hh
  rw [e1];exact R.ids h0 m0
 ·obtain ⟨h0, m0, e1, e2, _⟩ := im h hh
  rw [e1, e2, c, v10, hl];exact R.fl h0 m0
 ·obtain ⟨h0, m0, e1, e2, e3⟩ := im h hh
  rw [e2, ec]
  rcases e3 with ⟨_, e4, e5, e6⟩ | ⟨e4, e5⟩
  ·rw [e4, w, e5, e6]
   obtain ⟨q1, q2, q3⟩ := R.w g hg;obtain ⟨z1, z2, z3⟩ := Nf wd;refine ⟨by rw [z3, q1, sn]; rfl, ?_, q3⟩;rw [ag6 wd]
   constructor
   ·intro h; omega
   ·intro h; simp at h
  ·rw [e5, V _ (fun q => e4 (R.obj Q S hK m0 hg (xw q))) (by simp) (by simp) (by simp)]
   exact R.w h0 m0
 ·rw [v10] at hv
  rw [c];obtain ⟨h0, m0, q1, q2⟩ := R.slot s i hv
  have e : ∀ h : Gf, (if h.1.id = x.flow then (({ h.1 with L := h.1.L ++ [⟨x.flow, x.a, x.b⟩] } : Mf), h.2) else h).1.id = h.1.id ∧ (if h.1.id = x.flow then (({ h.1 with L := h.1.L ++ [⟨x.flow, x.a, x.b⟩] } : Mf), h.2) else h).2 = h.2 := fun h => by split <;> exact ⟨rfl, rfl⟩
  exact ⟨_, List.mem_map_of_mem m0, by rw [(e h0).1]; exact q1, by rw [(e h0).2]; exact q2⟩
theorem EE (R : jt σ M) (Q : QS σ k) (hk : k < 1000000) (S : SI σ K) (hK : K < 1000000) (who : Int) (x : Cl) (hop : x.op = 1 ∨ x.op = 2 ∨ x.op = 3) (now : Int) :
 ju (σ.c.sl.toNat + 11) σ (Tk.newA σ.c who x) now fun σ' code => QS σ' (k + 1) ∧ code = (tH σ.c (M.map fun g => g.1) x).2 ∧ ∃ M', jt σ' M' ∧ (M'.map fun g => g.1) = (tH σ.c (M.map fun g => g.1) x).1 := by
 have none_of : (∀ i, i < σ.c.sl.toNat → e8 σ (nH σ.c x.flow) x.flow i = false) → gD x.flow (M.map fun g => g.1) = none := fun hm => by
  cases e : gD x.flow (M.map fun g => g.1) with
  | none => rfl
  | some a =>
   obtain ⟨h1, h2⟩ := mo e;rw [List.mem_map] at h1;obtain ⟨g, hg, rfl⟩ := h1;have q := (R.at S (by omega) hg).1;rw [h2] at q;rw [hm _ (R.fl g hg).1] at q;cases q
 have some_of : ∀ {j}, e8 σ (nH σ.c x.flow) x.flow j = true → ∃ g ∈ M, g.1.id = x.flow ∧ g.2.2 = j ∧ cW σ (nH σ.c x.flow) j = g.2.1 ∧ gD x.flow (M.map fun g => g.1) = some g.1 := fun {j} h => by
  obtain ⟨g, hg, h1, h2, h3⟩ := R.hit S (by omega) h;refine ⟨g, hg, h1, h2, h3, ?_⟩
  cases e : gD x.flow (M.map fun g => g.1) with
  | none => exact absurd h1 (zn e g.1 (List.mem_map_of_mem hg))
  | some a =>
   obtain ⟨q1, q2⟩ := mo e;rw [List.mem_map] at q1;obtain ⟨g2, hg2, rfl⟩ := q1;rw [Cy R.srt hg2 hg (q2.trans h1.symm)]
 have sm : ∀ σ' code, Sm σ σ' → code = (tH σ.c (M.map fun g => g.1) x).2 → (M.map fun g => g.1) = (tH σ.c (M.map fun g => g.1) x).1 → QS σ' (k + 1) ∧ code = (tH σ.c (M.map fun g => g.1) x).2 ∧ ∃ M', jt σ' M' ∧ (M'.map fun g => g.1) = (tH σ.c (M.map fun g => g.1) x).1 :=
  fun σ' code a h1 h2 => ⟨(Q.sm a).mono (by omega), h1, M, R.sm a, h2⟩
 rcases hop with ho | ho | ho
 ·have ho3 : ¬ x.op = 3 := by omega
  rw [show Tk.newA σ.c who x = Tk.newR σ.c who x from if_neg ho3]
  have rf : dM x = none → 0 ≤ x.flow ∧ x.flow ≤ 1048576 := fun h => by
   unfold dM at h;rw [if_pos ho] at h
   split at h
   ·cases h
   ·rename_i hn; unfold lN at hn; omega
  refine XW ho now S.c (Q.mx _) (fun e he σ' a => ?_) (fun hr j _ hj _ σ' a => ?_) (fun hr hm hfull σ' a => ?_) (fun hr hm m hmm h0 _ σ' a => ?_)
  ·have e' : tH σ.c (M.map fun g => g.1) x = ((M.map fun g => g.1), e) := by rw [Eo ho, he]
   exact sm σ' _ a (by rw [e']) (by rw [e'])
  ·obtain ⟨g, hg, h1, h2, h3, h4⟩ := some_of hj
   have e : tH σ.c (M.map fun g => g.1) x = ((M.map fun g => g.1), 6) := by rw [Eo ho, hr]; dsimp only; rw [h4]
   exact sm σ' _ a (by rw [e]) (by rw [e])
  ·have hn := none_of hm
   have hc := (R.cnt S.c S (by omega) (rf hr).1).1 hfull
   have e : tH σ.c (M.map fun g => g.1) x = ((M.map fun g => g.1), 7) := by rw [Eo ho, hr]; dsimp only; rw [hn]; dsimp only; rw [if_pos hc]
   exact sm σ' _ a (by rw [e]) (by rw [e])
  ·have hn := none_of hm
   have hc := (R.cnt S.c S (by omega) (rf hr).1).2 ⟨m, hmm, h0⟩
   have e : tH σ.c (M.map fun g => g.1) x = (pz ⟨x.flow, max (σ.c.un / x.a.toNat) 1, bP x.b, []⟩ (M.map fun g => g.1), 0) := by
    rw [Eo ho, hr]; dsimp only; rw [hn]; dsimp only; rw [if_neg (by omega)]
   rw [e];refine ⟨(Q.newly S.slot (by have := S.obs; omega) a).mono (by omega), rfl, _, R.newly Q S (by omega) (rf hr) (fun g hg => zn hn g.1 (List.mem_map_of_mem hg)) hmm h0 a, ?_⟩;exact Mq _ M
 ·have ho3 : ¬ x.op = 3 := by omega
  have ho1 : ¬ x.op = 1 := by omega
  rw [show Tk.newA σ.c who x = Tk.newR σ.c who x from if_neg ho3];refine ai6 ho3 ho1 now S.c Q.seq (Q.mx _) (fun e he σ' a => ?_) (fun _ hm σ' a => ?_) (fun hr j _ hj _ hs σ' a => ?_) (fun hr j _ hj _ hs σ' a => ?_)
  ·have hout : lN x ∧ e = 5 := by
    unfold dM at he;rw [if_neg ho1] at he
    split at he
    ·rename_i h; exact ⟨h, (gr he).symm⟩
    ·cases he
   have hn : gD x.flow (M.map fun g => g.1) = none := by
    cases e : gD x.flow (M.map fun g => g.1) with
    | none => rfl
    | some a =>
     obtain ⟨h1, h2⟩ := mo e;rw [List.mem_map] at h1;obtain ⟨g, hg, rfl⟩ := h1;have := R.ids g hg;have := hout.1;unfold lN at this;omega
   have e' : tH σ.c (M.map fun g => g.1) x = (M.map fun g => g.1, e) := by rw [Hk ho, hn, hout.2]
   exact sm σ' _ a (by rw [e']) (by rw [e'])
  ·have hn := none_of hm
   have e : tH σ.c (M.map fun g => g.1) x = ((M.map fun g => g.1), 5) := by rw [Hk ho, hn]
   exact sm σ' _ a (by rw [e]) (by rw [e])
  ·obtain ⟨g, hg, h1, h2, h3, h4⟩ := some_of hj
   have hL : ¬ g.1.L.length = 0 := fun e => hs (by rw [h3]; exact (R.w g hg).2.1.2 e)
   have e : tH σ.c (M.map fun g => g.1) x = ((M.map fun g => g.1), 8) := by rw [Hk ho, h4]; dsimp only; rw [if_neg hL]
   exact sm σ' _ a (by rw [e]) (by rw [e])
  ·obtain ⟨g, hg, h1, h2, h3, h4⟩ := some_of hj
   have hL : g.1.L.length = 0 := (R.w g hg).2.1.1 (by rw [← h3]; exact hs)
   have e : tH σ.c (M.map fun g => g.1) x = (O3 x.flow (M.map fun g => g.1), 0) := by
    rw [Hk ho, h4]; dsimp only; rw [if_pos hL]
   rw [e];subst h2;refine ⟨(Q.closed (r9 hj) (S.slot _ _ (r9 hj)) a).mono (by omega), rfl, _, R.closed Q S (by omega) hg h1 h3 a, ?_⟩;unfold O3;rw [List.filter_map]
   rfl
 ·rw [show Tk.newA σ.c who x = Tk.new σ.c who x from if_pos ho]
  have ho1 : ¬ x.op = 1 := by omega
  have ho2 : ¬ x.op = 2 := by omega
  have rf : cL x = none → ¬ (x.a < 1 ∨ 65536 < x.a) := fun h hn => by
   unfold cL at h;rw [if_pos hn] at h;cases h
  refine ai7 ho now S.c Q.seq (Q.mx _) (fun j _ hj => ?_) (fun e he σ' a => ?_) (fun hr hm σ' a => ?_) (fun hr j _ hj _ hfu σ' a => ?_) (fun hr j _ hj _ hfu σ' a => ?_)
  ·obtain ⟨q1, q2, q3⟩ := Q.word _ _ (r9 hj)
   exact ⟨q1, q2, Nat.lt_of_le_of_lt q3 (by omega)⟩
  ·unfold cL at he
   split at he
   ·rename_i hb
    obtain rfl := gr he
    have e : tH σ.c (M.map fun g => g.1) x = (M.map fun g => g.1, 3) := by rw [xx ho, if_pos hb]
    exact sm σ' _ a (by rw [e]) (by rw [e])
   ·rename_i hb
    split at he
    ·rename_i hout
     obtain rfl := gr he
     have hn : gD x.flow (M.map fun g => g.1) = none := by
      cases e : gD x.flow (M.map fun g => g.1) with
      | none => rfl
      | some a =>
       obtain ⟨h1, h2⟩ := mo e;rw [List.mem_map] at h1;obtain ⟨g, hg, rfl⟩ := h1;have := R.ids g hg;omega
     have e : tH σ.c (M.map fun g => g.1) x = (M.map fun g => g.1, 5) := by rw [xx ho, if_neg hb, hn]
     exact sm σ' _ a (by rw [e]) (by rw [e])
    ·cases he
  ·have hn := none_of hm
   have e : tH σ.c (M.map fun g => g.1) x = ((M.map fun g => g.1), 5) := by rw [xx ho, if_neg (rf hr), hn]
   exact sm σ' _ a (by rw [e]) (by rw [e])
  ·obtain ⟨g, hg, h1, h2, h3, h4⟩ := some_of hj
   have hfu' : g.1.most ≤ g.1.L.length := by
    rw [h3, R.hd] at hfu;obtain ⟨q1, q2, q3⟩ := R.w g hg;have := of_decide_eq_true hfu;omega
   have e : tH σ.c (M.map fun g => g.1) x = ((M.map fun g => g.1), 9) := by rw [xx ho, if_neg (rf hr), h4]; dsimp only; rw [if_pos hfu']
   exact sm σ' _ a (by rw [e]) (by rw [e])
  ·obtain ⟨g, hg, h1, h2, h3, h4⟩ := some_of hj
   have hfu' : ¬ g.1.most ≤ g.1.L.length := by
    rw [h3, R.hd] at hfu;obtain ⟨q1, q2, q3⟩ := R.w g hg;have := of_decide_eq_false hfu;omega
   have e : tH σ.c (M.map fun g => g.1) x = (Gc x.flow (fun a => { a with L := a.L ++ [⟨x.flow, x.a, x.b⟩] }) (M.map fun g => g.1), 0) := by
    rw [xx ho, if_neg (rf hr), h4];dsimp only;rw [if_neg hfu']
   rw [e];rw [h3] at a;refine ⟨Q.laid (by omega) (R.fl g hg).2.2 ⟨_, _, r9 hj, h3⟩ a, rfl, _, R.laid Q (by omega) S (by omega) hg h1 a, ?_⟩;unfold Gc;rw [List.map_map, List.map_map];apply List.map_congr_left;intro h _;show (if h.1.id = x.flow then _ else h).1 = if h.1.id = x.flow then _ else h.1
   split <;> rfl
end
end Go.Proofs.YtghoamdlcjdfjaaGreatDoor.Gst
