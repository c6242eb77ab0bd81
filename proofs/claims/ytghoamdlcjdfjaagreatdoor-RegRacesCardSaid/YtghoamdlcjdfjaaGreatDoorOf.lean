/- Several texts in one. -/
import Derived.Test.YtghoamdlcjdfjaaGreatDoorOe
namespace Go.Proofs.YtghoamdlcjdfjaaGreatDoor.Gst
open Go Go.RowKit
set_option linter.unusedSimpArgs false
set_option linter.unusedVariables false
set_option maxHeartbeats 4000000
set_option synthInstance.maxSize 2000
set_option synthInstance.maxHeartbeats 400000
set_option maxRecDepth 100000
def Rlr (t : Tk) (k : Xk) : Prop := k.a = t.at' ∧ (t.at' < 4 → k.I = t.i ∧ k.free = t.mark) ∧ (t.x.op = 1 → (t.at' = 4 ∨ t.at' = 5 → k.free = t.mark) ∧ (t.at' = 5 → k.obj = t.obj) ∧ (t.at' = 6 → k.code = t.code)) ∧
 (t.x.op ≠ 1 → (4 ≤ t.at' → t.at' < 10 → k.I = t.i ∧ k.obj = t.obj) ∧ (t.at' = 6 ∨ t.at' = 7 → k.q = t.q) ∧ (t.at' = 7 → k.mark = t.mark) ∧ (t.at' = 8 → k.w = t.w) ∧ (t.at' = 9 ∨ t.at' = 10 → k.code = t.code))
theorem Eh {t : Tk} {k : Xk} (h0 : k.a = t.at') (ha : t.at' < 4) (h : k.I = t.i ∧ k.free = t.mark) : Rlr t k :=
 ⟨h0, fun _ => h, fun _ => ⟨fun h => by omega, fun h => by omega, fun h => by omega⟩, fun _ => ⟨fun h _ => by omega, fun h => by omega, fun h => by omega, fun h => by omega, fun h => by omega⟩⟩
theorem M5 {t : Tk} {k : Xk} (h0 : k.a = t.at') (ho : t.x.op = 1) (ha : 4 ≤ t.at') (h4 : t.at' = 4 ∨ t.at' = 5 → k.free = t.mark) (h5 : t.at' = 5 → k.obj = t.obj) (h6 : t.at' = 6 → k.code = t.code) : Rlr t k :=
 ⟨h0, fun h => by omega, fun _ => ⟨h4, h5, h6⟩, fun h => absurd ho h⟩
theorem uF {t : Tk} {k : Xk} (h0 : k.a = t.at') (ho : t.x.op ≠ 1) (ha : 4 ≤ t.at') (h1 : k.I = t.i) (h2 : k.obj = t.obj) (hq : t.at' = 6 ∨ t.at' = 7 → k.q = t.q) (hm : t.at' = 7 → k.mark = t.mark) (hw : t.at' = 8 → k.w = t.w) (hc : t.at' = 9 ∨ t.at' = 10 → k.code = t.code) : Rlr t k :=
 ⟨h0, fun h => by omega, fun h => absurd h ho, fun _ => ⟨fun _ _ => ⟨h1, h2⟩, hq, hm, hw, hc⟩⟩
theorem abA {t : Tk} {k : Xk} (h0 : k.a = t.at') (ho : t.x.op ≠ 1) (ha : t.at' = 10) (h : k.code = t.code) : Rlr t k :=
 ⟨h0, fun h => by omega, fun h => absurd h ho, fun _ => ⟨fun _ _ => by omega, fun h => by omega, fun h => by omega, fun h => by omega, fun _ => h⟩⟩
def yT (x P : Nat) (t : Tk) : SP := ex fun k : Xk => pu (Rlr t k) * xB x P t k
def yU (x P : Nat) (r : aM × Tk × Bool) : SP := ex fun k : Xk => pu (if r.2.2 = true then k.code = r.2.1.code else Rlr r.2.1 k) * xB x P r.2.1 k
section
variable {x P : Nat} {g : XIds} {σ σ' : aM} {t t' : Tk} {R : SP} {H : AH} {r : aM × Tk × Bool} {k : Xk}
theorem jR (h : ac (yT x P t * aJ P σ * R) H) : ∃ (k : Xk) (g : XIds), Rlr t k ∧ e9 g σ ∧ ac (xB x P t k * (au P g σ * R)) H := by
 unfold yT at h;rw [ai] at h;obtain ⟨k, h1⟩ := ac.ex.1 h;rw [ai, ac.pu] at h1;obtain ⟨g, h2, h3⟩ := dW (p := P) (σ := σ) (R := xB x P t k * R) (H := H) h1.2.to;exact ⟨k, g, h1.1, h2, h3.to⟩
theorem ip (hr : r = (σ', t', false)) (hR : Rlr t' k) (hg : e9 g σ') (h : ac (xB x P t' k * (au P g σ' * R)) H) : ∃ y : Unit, (vb false : Value) = vb r.2.2 ∧ ac (yU x P r * aJ P r.1 * R) H := by
 subst hr;refine ⟨(), rfl, ?_⟩;have h1 := cN (p := P) (σ := σ') (R := xB x P t' k * R) g hg h.to;unfold yU;rw [ai];refine ac.ex.2 ⟨k, ?_⟩;rw [ai, ac.pu];exact ⟨hR, h1.to⟩
theorem SG (hr : r = (σ', t', true)) (hc : k.code = t'.code) (hg : e9 g σ') (h : ac (xB x P t' k * (au P g σ' * R)) H) : ∃ y : Unit, (vb true : Value) = vb r.2.2 ∧ ac (yU x P r * aJ P r.1 * R) H := by
 subst hr;refine ⟨(), rfl, ?_⟩;have h1 := cN (p := P) (σ := σ') (R := xB x P t' k * R) g hg h.to;unfold yU;rw [ai];refine ac.ex.2 ⟨k, ?_⟩;rw [ai, ac.pu];exact ⟨hc, h1.to⟩
end
section
variable (x P : Nat) (g : XIds) (σ : aM) (t : Tk) (k : Xk)
def ve : Xk := { k with I := (aC σ t).i, free := (aC σ t).mark, hit := (k.hit || (aC σ t).found), obj := if (aC σ t).found = true then (aC σ t).obj else k.obj }
theorem Pi (S : SOk σ) (T : mN σ t) (hI : k.I = t.i) (hfr : k.free = t.mark) (hi : (t.i : Int) < σ.c.sl) :
 Sp F6 [vp x] (xB x P t k * au P g σ) (fun _ : Unit => .tuple #[vb (aC σ t).found, vb (!(aC σ t).found && decide (σ.c.sl ≤ ((t.i + 1 : Nat) : Int)))]) (fun _ => xB x P t (ve σ t k) * au P g (aY σ t)) := by
 have hN : σ.μ.N < 1099511627000 := by have := S.N; omega
 have hc := bL.1 S.c;refine bh (ah7 _) fun R H h => ?_;refine bC ae ?_;refine aV h rfl ?_;refine bC ae ?_;refine aV h rfl ?_;refine bC ae ?_;refine aV h rfl ?_;refine ak h ae rfl ?_;refine ak h ae rfl ?_;refine ak h (b7 (aR (aR bf))) rfl ?_;refine af h (DF (p := P) (g := g) (σ := σ) (mr g.tb g.m σ.c.sh.toNat σ.c.sl.toNat (by omega) t.x.flow)) fun _ H1 h1 => ?_;refine aI h1 h (by rfl) ?_;refine aI h1 h (by rfl) ?_;refine aI h1 h (by rfl) ?_
 have es : vi ((t.x.flow.tmod (σ.c.sh.toNat : Int) + (σ.c.sh.toNat : Int)).tmod (σ.c.sh.toNat : Int)) = vi t.s := by rw [T.s, show ((σ.c.sh.toNat : Nat) : Int) = σ.c.sh from by omega]
 rw [es];refine bC ae ?_;refine aV h1 rfl ?_;refine aI h h1 (by rfl) ?_;rw [hI];refine af h1 (p6 (p := P) (g := g) (σ := σ) (μ' := σ.μ.acc t.who 1 (10, t.s, (t.i : Int))) (by simp) (Jr g.tb g.m σ.c.sh.toNat σ.c.sl.toNat σ.μ t.who t.s t.i hN (S.V _))) fun _ H2 h2 => ?_;obtain ⟨v, hv⟩ : ∃ v, v = σ.μ.V (10, t.s, (t.i : Int)) := ⟨_, rfl⟩;rw [← hv]
 have ifo : ∀ b, (aC σ t).found = b → (aC σ t).i = if b = true then t.i else t.i + 1 := by
  intro b hb;show (if (aC σ t).found = true then t.i else t.i + 1) = _;rw [hb]
 have tail : ∀ (k' : Xk) (H' : AH), k'.I = t.i → { k' with I := t.i + 1 } = ve σ t k → (aC σ t).found = false → ac (xB x P t k' * (au P g (aY σ t) * R)) H' →
  wp (GQ (vp x) (vb false) (vb false) H') fun v' H' => ∃ _ : Unit, v' = .tuple #[vb (aC σ t).found, vb (!(aC σ t).found && decide (σ.c.sl ≤ ((t.i + 1 : Nat) : Int)))] ∧ ac (xB x P t (ve σ t k) * au P g (aY σ t) * R) H' := by
  intro k' H' hI' hX hf h';refine ah (Jy ..) ?_;refine ak h' ae rfl ?_;rw [hI'];refine aa (aS (by omega) (by omega)) ?_;rw [show ((t.i : Nat) : Int) + 1 = ((t.i + 1 : Nat) : Int) from by omega];refine bk h' ae rfl rfl fun H3 h3 => ?_;refine ak h3 ae rfl ?_;refine ak h3 ae rfl ?_;refine ak h3 ae rfl ?_;have h4 := h3;unfold au tab at h4;refine ak h4 ae rfl ?_;refine aa (v := vb (decide (σ.c.sl ≤ ((t.i + 1 : Nat) : Int)))) ?_ ?_
  ·show aj _ .geq (vi ((t.i + 1 : Nat) : Int)) _ = _
   rw [tF]
   congr 3
   show ((σ.c.sl.toNat : Int) ≤ _) = (σ.c.sl ≤ ((t.i + 1 : Nat) : Int));apply propext;omega
  refine am ⟨(), by rw [hf]; rfl, ?_⟩;rw [← hX, ai];exact h3.to
 by_cases hv0 : v = 0
 ·have e1 : io v = .tuple #[vi 0, vi 0, vb false] := by rw [io, if_pos hv0]
  have hf : (aC σ t).found = false := d4 fun q => q.1 (hv.symm.trans hv0);have hii := ifo _ hf;rw [e1];refine aa (v := vi 0) rfl ?_;refine aa (v := vi 0) rfl ?_;refine aa (v := vb false) rfl ?_;refine gs ?_;refine ah (uk ..) ?_;refine gs ?_;rw [Bool.not_false];refine gs ?_;refine ak h2 ae rfl ?_
  by_cases hm : k.free < 0
  ·refine mq ?_
   refine aa (cE hm) ?_;refine gs ?_
   have em : (aC σ t).mark = t.i := by
    show (if σ.μ.V (10, t.s, (t.i : Int)) = 0 ∧ t.mark < 0 then (t.i : Int) else t.mark) = _;rw [if_pos ⟨hv.symm.trans hv0, by rw [← hfr]; exact hm⟩]
   refine ak h2 ae rfl ?_;rw [hI];refine bk h2 ae rfl rfl fun H3 h3 => ?_;exact tail { k with free := t.i } H3 hI (by unfold ve; rw [hii, em, hf]; simp) hf h3.to
  ·refine mq ?_
   refine aa (bP hm) ?_;refine gs ?_
   have em : (aC σ t).mark = k.free := by
    show (if σ.μ.V (10, t.s, (t.i : Int)) = 0 ∧ t.mark < 0 then (t.i : Int) else t.mark) = _;rw [if_neg (fun h => hm (by rw [hfr]; exact h.2)), hfr]
   exact tail k H2 hI (by unfold ve; rw [hii, em, hf]; simp) hf h2.to
 ·have e1 : io v = .tuple #[vi ((v / 4294967296 : Nat) - 1), vi (v % 4294967296 : Nat), vb true] := by rw [io, if_neg hv0]
  have em : (aC σ t).mark = k.free := by
   show (if σ.μ.V (10, t.s, (t.i : Int)) = 0 ∧ t.mark < 0 then (t.i : Int) else t.mark) = _;rw [if_neg (fun h => hv0 (hv.trans h.1)), hfr]
  rw [e1];refine aa (v := vi ((v / 4294967296 : Nat) - 1)) rfl ?_;refine aa (v := vi (v % 4294967296 : Nat)) rfl ?_;refine aa (v := vb true) rfl ?_;refine gs ?_;refine ak h2 (b7 (aR (aR bf))) rfl ?_;refine mq ?_
  by_cases hf : ((v / 4294967296 : Nat) : Int) - 1 = t.x.flow
  ·have hfo : (aC σ t).found = true := eu ⟨fun h => hv0 (hv.trans h), by rw [← hv]; exact hf⟩
   have hob : (aC σ t).obj = v % 4294967296 := by
    show (if (aC σ t).found = true then σ.μ.V (10, t.s, (t.i : Int)) % 4294967296 else t.obj) = _;rw [if_pos hfo, ← hv]
   have hii := ifo _ hfo;refine aa (bg hf) ?_;refine gs ?_;refine bk h2 ae rfl rfl fun H3 h3 => ?_;refine bk h3 ae rfl rfl fun H4 h4 => ?_;refine am ⟨(), by rw [hfo]; rfl, ?_⟩
   have eX : ve σ t k = { k with hit := true, obj := v % 4294967296 } := by
    unfold ve;rw [hii, em, hfo, hob];simp [← hI]
   rw [eX, ai];exact h4.to
  ·have hfo : (aC σ t).found = false := d4 fun q => hf (by rw [hv]; exact q.2)
   have hii := ifo _ hfo;refine aa (aE hf) ?_;refine gs ?_;refine ah (uk ..) ?_;refine gs ?_;rw [Bool.not_true];refine gs ?_;exact tail k H2 hI (by unfold ve; rw [hii, em, hfo]; simp) hfo h2.to
variable (now : Int)
theorem JW {R : SP} {H : AH} (S : SOk σ) (hR : k.I = t.i ∧ k.free = t.mark) (ha : k.a = 2) (hg : e9 g σ) (h : ac (xB x P t k * (au P g σ * R)) H) :
 wp (gg (vp x) (vi now) (vb false) (vp P) (vi t.s) H) fun v' H' => ∃ y : Unit, v' = vb (fm σ t).2.2 ∧ ac (yU x P (fm σ t) * aJ P (fm σ t).1 * R) H' := by
 have hN : σ.μ.N < 1099511627000 := by have := S.N; omega
 refine ah (iY ..) ?_;refine ak h ae rfl ?_;refine aa (bg (by omega)) ?_;refine ah (iZ ..) ?_;refine gs ?_;refine ak h ae rfl ?_;refine ak h ae rfl ?_;refine af h (p6 (p := P) (g := g) (σ := σ) (μ' := σ.μ.swp t.who (8, t.s, 0) 0 1) (by simp) (Ov g.tb g.m σ.c.sh.toNat σ.c.sl.toNat σ.μ t.who t.s hN)) fun _ H2 h2 => ?_
 by_cases hw : σ.μ.V (8, t.s, 0) = 0
 ·rw [eu hw]
  refine gs ?_;refine bk h2 ae rfl rfl fun H3 h3 => ?_;refine ah (nJ ..) ?_;exact am (ip (g := g) (k := { k with a := 3 }) (σ' := lM σ t) (t' := { t with at' := 3 }) (by unfold fm; rw [if_pos hw]) (Eh rfl (by simp) hR) (aw (σ := σ) hg (by simp) rfl) (show ac (xB x P t { k with a := 3 } * (au P g (lM σ t) * R)) H3 from h3.to))
 ·rw [d4 hw]
  refine gs ?_;refine ah (nJ ..) ?_;exact am (ip (g := g) (k := k) (σ' := lM σ t) (t' := { t with at' := 2 }) (by unfold fm; rw [if_neg hw]) (Eh ha (by simp) hR) (aw (σ := σ) hg (by simp) rfl) (show ac (xB x P t k * (au P g (lM σ t) * R)) H2 from h2.to))
theorem Pg {R : SP} {H : AH} {Q : Value → AH → Prop} (S : SOk σ) (T : mN σ t) (h : ac (xB x P t k * (au P g σ * R)) H)
 (hk : ∀ H', ac (xB x P t k * (au P g σ * R)) H' → wp (lI (vp x) (vi now) (vb false) (vp P) (vi t.s) H') Q) :
 wp (FF bo [vp x, vi now] H) Q := by
 have hc := bL.1 S.c;refine bm (fun r => Dp _ _ H) ?_;refine bC ae ?_;refine aV h rfl ?_;refine ak h ae rfl ?_;refine ak h ae rfl ?_;refine ak h (b7 (aR (aR bf))) rfl ?_;refine af h (DF (p := P) (g := g) (σ := σ) (mr g.tb g.m σ.c.sh.toNat σ.c.sl.toNat (by omega) t.x.flow)) fun _ H1 h1 => ?_;refine aI h1 h (by rfl) ?_
 have es : vi ((t.x.flow.tmod (σ.c.sh.toNat : Int) + (σ.c.sh.toNat : Int)).tmod (σ.c.sh.toNat : Int)) = vi t.s := by rw [T.s, show ((σ.c.sh.toNat : Nat) : Int) = σ.c.sh from by omega]
 rw [es];exact hk H1 h1.to
theorem Bn {R : SP} {H : AH} {Q : Value → AH → Prop} (S : SOk σ) (T : mN σ t) (ha : k.a ≠ 0) (h : ac (xB x P t k * (au P g σ * R)) H)
 (hk : ∀ H', ac (xB x P t k * (au P g σ * R)) H' → wp (gg (vp x) (vi now) (vb false) (vp P) (vi t.s) H') Q) :
 wp (FF bo [vp x, vi now] H) Q := by
 refine Pg x P g σ t k now S T h fun H1 h1 => ?_;refine ah (nI ..) ?_;refine ak h1 ae rfl ?_;refine aa (aE (by omega)) ?_;refine ah (lR ..) ?_;refine gs ?_;exact hk H1 h1
theorem Wq {fn : Nat} {args : List Value} {H : AH} {Q : Value → AH → Prop} (h : wp (FF fn args H) Q) : wp ((FF fn args H).bind fun r => some (r.1, r.2)) Q := by
 obtain ⟨v, H', e, q⟩ := h;exact ⟨v, H', by rw [e]; rfl, q⟩
theorem M2 {R : SP} {H : AH} {Q : Value → AH → Prop} (S : SOk σ) (T : mN σ t) (ho : t.x.op = 1) (ha : 3 ≤ k.a) (h : ac (xB x P t k * (au P g σ * R)) H)
 (hk : ∀ H', ac (xB x P t k * (au P g σ * R)) H' → wp (gO (vp x) (vi now) (vi t.s) (vb false) (vp P) (vi (k.a : Int)) H') Q) :
 wp (FF bo [vp x, vi now] H) Q := by
 refine Bn x P g σ t k now S T (by omega) h fun H1 h1 => ?_;refine ah (iY ..) ?_;refine ak h1 ae rfl ?_;refine aa (aE (by omega)) ?_;refine ah (iZ ..) ?_;refine gs ?_;refine ak h1 (b7 (aR (aR bf))) rfl ?_;refine aa (bg ho) ?_;refine gs ?_;refine Wq ?_;refine bm (fun r => tc _ _ _ H1) ?_;refine ak h1 ae rfl ?_;refine ah (pT ..) ?_;refine ak h1 ae rfl ?_;exact hk H1 h1
theorem tx {R : SP} {H : AH} {Q : Value → AH → Prop} (S : SOk σ) (T : mN σ t) (ho : t.x.op ≠ 1) (ha : 3 ≤ k.a) (h : ac (xB x P t k * (au P g σ * R)) H)
 (hk : ∀ H', ac (xB x P t k * (au P g σ * R)) H' → wp (ku (vp x) (vi now) (vi t.s) (vb false) (vp P) (vi (k.a : Int)) H') Q) :
 wp (FF bo [vp x, vi now] H) Q := by
 refine Bn x P g σ t k now S T (by omega) h fun H1 h1 => ?_;refine ah (iY ..) ?_;refine ak h1 ae rfl ?_;refine aa (aE (by omega)) ?_;refine ah (iZ ..) ?_;refine gs ?_;refine ak h1 (b7 (aR (aR bf))) rfl ?_;refine aa (aE ho) ?_;refine gs ?_;refine ah (wm ..) ?_;refine Wq ?_;refine bm (fun r => A8 _ _ _ H1) ?_;refine ak h1 ae rfl ?_;refine ah (uz ..) ?_;refine ak h1 ae rfl ?_;exact hk H1 h1
end
section
variable (x P : Nat) (σ : aM) (t : Tk) (now : Int)
theorem aqZ (S : SOk σ) (T : mN σ t) (ho : t.x.op = 1) (hat : t.at' = 3) : Sp bo [vp x, vi now] (yT x P t * aJ P σ) (fun _ : Unit => vb (ay σ t now).2.2) (fun _ => yU x P (ay σ t now) * aJ P (ay σ t now).1) := by
 have hN : σ.μ.N < 1099511627000 := by have := S.N; omega
 refine aO fun R H h => ?_;obtain ⟨k, g, hR, hg, h0⟩ := jR h;have hl := hg.1;have ha := hR.1;obtain ⟨hI, hfr⟩ := hR.2.1 (by omega);have hi := T.i (by omega);refine M2 x P g σ t k now S T ho (by omega) h0 fun H1 h1 => ?_;refine ah (dE ..) ?_;refine aa (bg (by omega)) ?_;refine ah (dF ..) ?_;refine gs ?_;refine af h1 (Pi x P g σ t k S T hI hfr hi) fun _ H2 h2 => ?_;obtain ⟨k2, hk2⟩ : ∃ k2 : Xk, k2 = ve σ t k := ⟨_, rfl⟩;rw [← hk2] at h2;refine aa (v := vb (aC σ t).found) rfl ?_;refine aa (v := vb (!(aC σ t).found && decide (σ.c.sl ≤ ((t.i + 1 : Nat) : Int)))) rfl ?_;refine ah (pU ..) ?_
 cases hfd : (aC σ t).found with
 | true =>
  refine gs ?_;refine af h2 (jP x P g (aY σ t) t (k2) (aw (σ := σ) hg (by simp) rfl) now 6 (by have := S.N; show σ.μ.N + 2 < _; omega) S.pts) fun v H3 h3 => ?_;refine bk h3 ae rfl rfl fun H4 h4 => ?_;refine ah (cp ..) ?_;exact am (ip (g := { g with pv := v }) (k := { k2 with a := 6, code := 6 }) (σ' := (aY σ t).note now t.who 6) (t' := { aC σ t with at' := 6, code := 6 }) (by simp only [ay, hat]; rw [if_pos hfd, if_pos ho]) (M5 rfl ho (by simp) (by simp) (by simp) (by simp)) (dK (σ := σ) hg (by simp) rfl) (show ac (xB x P t ({ k2 with a := 6, code := 6 }) * (au P ({ g with pv := v }) ((aY σ t).note now t.who 6) * R)) _ from h4.to))
 | false =>
  rw [Bool.not_false, Bool.true_and]
  have hli : (aC σ t).i = t.i + 1 := by
   show (if (aC σ t).found = true then t.i else t.i + 1) = _;rw [if_neg (by rw [hfd]; simp)]
  have hla : cn σ (aC σ t) = decide (σ.c.sl ≤ ((t.i + 1 : Nat) : Int)) := by unfold cn; rw [hli]
  have nf : ¬ (aC σ t).found = true := by rw [hfd]; simp
  by_cases hL : σ.c.sl ≤ ((t.i + 1 : Nat) : Int)
  ·have hla' : cn σ (aC σ t) = true := hla.trans (eu hL)
   rw [eu hL];refine gs ?_;refine ak h2 ae (show _ = some (vi (aC σ t).mark) from by rw [hk2]; rfl) ?_;refine gs ?_
   by_cases hm : (aC σ t).mark < 0
   ·refine aa (cE hm) ?_
    refine gs ?_;refine af h2 (jP x P g (aY σ t) t (k2) (aw (σ := σ) hg (by simp) rfl) now 7 (by have := S.N; show σ.μ.N + 2 < _; omega) S.pts) fun v H3 h3 => ?_;refine bk h3 ae rfl rfl fun H4 h4 => ?_;refine ah (cp ..) ?_;exact am (ip (g := { g with pv := v }) (k := { k2 with a := 6, code := 7 }) (σ' := (aY σ t).note now t.who 7) (t' := { aC σ t with at' := 6, code := 7 }) (by simp only [ay, hat]; rw [if_neg nf, if_pos hla', if_pos ho, if_pos hm]) (M5 rfl ho (by simp) (by simp) (by simp) (by simp)) (dK (σ := σ) hg (by simp) rfl) (show ac (xB x P t ({ k2 with a := 6, code := 7 }) * (au P ({ g with pv := v }) ((aY σ t).note now t.who 7) * R)) _ from h4.to))
   ·refine aa (bP hm) ?_
    refine gs ?_;refine bk h2 ae rfl rfl fun H4 h4 => ?_;refine ah (cp ..) ?_;exact am (ip (g := g) (k := { k2 with a := 4 }) (σ' := aY σ t) (t' := { aC σ t with at' := 4 }) (by simp only [ay, hat]; rw [if_neg nf, if_pos hla', if_pos ho, if_neg hm]) (M5 rfl ho (by simp) (fun _ => by rw [hk2]; rfl) (by simp) (by simp)) (aw (σ := σ) hg (by simp) rfl) (show ac (xB x P t ({ k2 with a := 4 }) * (au P (g) (aY σ t) * R)) _ from h4.to))
  ·have hla' : ¬ cn σ (aC σ t) = true := by rw [hla, d4 hL]; simp
   rw [d4 hL];refine gs ?_;refine ah (cp ..) ?_;exact am (ip (g := g) (k := k2) (σ' := aY σ t) (t' := aC σ t) (by simp only [ay, hat]; rw [if_neg nf, if_neg hla']) (Eh (by rw [hk2]; show k.a = t.at'; exact ha) (by show t.at' < 4; omega) ⟨by rw [hk2]; rfl, by rw [hk2]; rfl⟩) (aw (σ := σ) hg (by simp) rfl) (show ac (xB x P t (k2) * (au P (g) (aY σ t) * R)) _ from h2.to))
theorem aq0 (S : SOk σ) (T : mN σ t) (ho : t.x.op = 1) (hat : t.at' = 4) : Sp bo [vp x, vi now] (yT x P t * aJ P σ) (fun _ : Unit => vb (ay σ t now).2.2) (fun _ => yU x P (ay σ t now) * aJ P (ay σ t now).1) := by
 have hN : σ.μ.N < 1099511627000 := by have := S.N; omega
 refine aO fun R H h => ?_;obtain ⟨k, g, hR, hg, h0⟩ := jR h;have hl := hg.1;have ha := hR.1;have hfr := (hR.2.2.1 ho).1 (.inl hat);have hx := zk (T.x (by omega));have hc := bL.1 S.c
 have hst : ay σ t now = (σ.make t.who (HZ σ t), { t with obj := σ.obs.length, at' := 5 }, false) := by rw [mn σ t now ho (by omega)]; simp only [Dq, hat]
 refine M2 x P g σ t k now S T ho (by omega) h0 fun H1 h1 => ?_;refine ah (dE ..) ?_;refine aa (aE (by omega)) ?_;refine ah (dF ..) ?_;refine gs ?_;refine aa (bg (by omega)) ?_;refine gs ?_;refine ak h1 (b7 (aR (aR bf))) rfl ?_;refine ak h1 (b7 (aR (aR bf))) rfl ?_;refine af h1 (BN σ.c.un t.x.a (by omega) (hx.2 ho).1) fun _ H2 h2 => ?_;refine aa (v := vu (max (σ.c.un / t.x.a.toNat) 1)) rfl ?_;refine aa (v := vb true) rfl ?_;refine ak h2 ae rfl ?_;refine ak h2 (b7 (aR (aR bf))) rfl ?_;refine ak h2 (b7 (aR (aR bf))) rfl ?_;refine jc ?_;have h3 := cN (p := P) (σ := σ) (R := xB x P t k * R) g hg h2.to;refine af h3 (aoF P σ t.who (HZ σ t) hN (by have := S.obs; omega)) fun _ H4 h4 => ?_;obtain ⟨g', hg', h5⟩ := dW (p := P) (σ := σ.make t.who (HZ σ t)) (R := xB x P t k * R) (H := H4) h4.to;refine bk h5 ae rfl rfl fun H6 h6 => ?_;refine bk h6 ae rfl rfl fun H7 h7 => ?_;refine ah (cp ..) ?_;exact am (ip (g := g') (k := { k with obj := σ.obs.length, a := 5 }) (σ' := σ.make t.who (HZ σ t)) (t' := { t with obj := σ.obs.length, at' := 5 }) (hst) (M5 rfl ho (by simp) (fun _ => hfr) (by simp) (by simp)) hg' (show ac (xB x P t ({ k with obj := σ.obs.length, a := 5 }) * (au P (g') (σ.make t.who (HZ σ t)) * R)) _ from h7.to))
theorem aq1 (S : SOk σ) (T : mN σ t) (ho : t.x.op = 1) (hat : t.at' = 5) : Sp bo [vp x, vi now] (yT x P t * aJ P σ) (fun _ : Unit => vb (ay σ t now).2.2) (fun _ => yU x P (ay σ t now) * aJ P (ay σ t now).1) := by
 have hN : σ.μ.N < 1099511627000 := by have := S.N; omega
 refine aO fun R H h => ?_;obtain ⟨k, g, hR, hg, h0⟩ := jR h;have hl := hg.1;have ha := hR.1;have hfm := (hR.2.2.1 ho).1 (.inr hat);have hko := (hR.2.2.1 ho).2.1 hat;have hx := zk (T.x (by omega));have hob := T.obj (.inl ⟨hat, ho⟩);have hso := S.obs
 have hst : ay σ t now = ((σ.mem ((σ.μ.acc t.who 2 (10, t.s, t.mark)).put (10, t.s, t.mark) (cG t.x.flow t.obj))).note now t.who 0, { t with at' := 6, code := 0 }, false) := by rw [mn σ t now ho (by omega)]; simp only [Dq, hat]
 refine M2 x P g σ t k now S T ho (by omega) h0 fun H1 h1 => ?_;refine ah (dE ..) ?_;refine aa (aE (by omega)) ?_;refine ah (dF ..) ?_;refine gs ?_;refine aa (aE (by omega)) ?_;refine gs ?_;refine aa (bg (by omega)) ?_;refine gs ?_;refine ak h1 ae rfl ?_;refine ak h1 ae rfl ?_;refine ak h1 ae rfl ?_;refine ak h1 (b7 (aR (aR bf))) rfl ?_;refine ak h1 ae rfl ?_;rw [hfm, hko];refine af h1 (p6 (p := P) (g := g) (σ := σ) (μ' := (σ.μ.acc t.who 2 (10, t.s, t.mark)).put (10, t.s, t.mark) (cG t.x.flow t.obj)) (by simp) (VM g.tb g.m σ.c.sh.toNat σ.c.sl.toNat σ.μ t.who t.s t.mark t.x.flow t.obj hN hx.1 (by omega))) fun _ H2 h2 => ?_;refine af h2 (jP x P g (σ.mem ((σ.μ.acc t.who 2 (10, t.s, t.mark)).put (10, t.s, t.mark) (cG t.x.flow t.obj))) t (k) (aw (σ := σ) hg (by simp) rfl) now 0 (by have := S.N; show σ.μ.N + 2 < _; omega) S.pts) fun v H3 h3 => ?_;refine bk h3 ae rfl rfl fun H4 h4 => ?_;refine ah (cp ..) ?_;exact am (ip (g := { g with pv := v }) (k := { k with a := 6, code := 0 }) (σ' := (σ.mem ((σ.μ.acc t.who 2 (10, t.s, t.mark)).put (10, t.s, t.mark) (cG t.x.flow t.obj))).note now t.who 0) (t' := { t with at' := 6, code := 0 }) (hst) (M5 rfl ho (by simp) (by simp) (by simp) (by simp)) (dK (σ := σ) hg (by simp) rfl) (show ac (xB x P t ({ k with a := 6, code := 0 }) * (au P ({ g with pv := v }) ((σ.mem ((σ.μ.acc t.who 2 (10, t.s, t.mark)).put (10, t.s, t.mark) (cG t.x.flow t.obj))).note now t.who 0) * R)) _ from h4.to))
theorem aq2 (S : SOk σ) (T : mN σ t) (ho : t.x.op = 1) (hat : t.at' = 6) : Sp bo [vp x, vi now] (yT x P t * aJ P σ) (fun _ : Unit => vb (ay σ t now).2.2) (fun _ => yU x P (ay σ t now) * aJ P (ay σ t now).1) := by
 have hN : σ.μ.N < 1099511627000 := by have := S.N; omega
 refine aO fun R H h => ?_;obtain ⟨k, g, hR, hg, h0⟩ := jR h;have hl := hg.1;have ha := hR.1
 have hst : ay σ t now = (ig σ t, t, true) := by rw [mn σ t now ho (by omega)]; simp only [Dq, hat]
 have hto : k.code = t.code := (hR.2.2.1 ho).2.2 hat;refine M2 x P g σ t k now S T ho (by omega) h0 fun H1 h1 => ?_;refine ah (dE ..) ?_;refine aa (aE (by omega)) ?_;refine ah (dF ..) ?_;refine gs ?_;refine aa (aE (by omega)) ?_;refine gs ?_;refine aa (aE (by omega)) ?_;refine gs ?_;refine ak h1 ae rfl ?_;refine ak h1 ae rfl ?_;refine af h1 (p6 (p := P) (g := g) (σ := σ) (μ' := (σ.μ.acc t.who 2 (8, t.s, 0)).put (8, t.s, 0) 0) (by simp) (wn g.tb g.m σ.c.sh.toNat σ.c.sl.toNat σ.μ t.who t.s hN)) fun _ H2 h2 => ?_;exact am (SG (g := g) (k := k) (σ' := ig σ t) (t' := t) hst hto (aw (σ := σ) hg (by simp) rfl) (show ac (xB x P t k * (au P g (ig σ t) * R)) H2 from h2.to))
theorem anY (S : SOk σ) (T : mN σ t) (ho : t.x.op ≠ 1) (hat : t.at' = 10) : Sp bo [vp x, vi now] (yT x P t * aJ P σ) (fun _ : Unit => vb (ay σ t now).2.2) (fun _ => yU x P (ay σ t now) * aJ P (ay σ t now).1) := by
 have hN : σ.μ.N < 1099511627000 := by have := S.N; omega
 refine aO fun R H h => ?_;obtain ⟨k, g, hR, hg, h0⟩ := jR h;have hl := hg.1;have ha := hR.1
 have hst : ay σ t now = (ig σ t, t, true) := by rw [bO σ t now ho (by omega)]; simp only [fY, hat]
 have hto : k.code = t.code := (hR.2.2.2 ho).2.2.2.2 (.inr hat);refine tx x P g σ t k now S T ho (by omega) h0 fun H1 h1 => ?_;refine ah (cm ..) ?_;refine aa (aE (by omega)) ?_;refine gs ?_;refine aa (aE (by omega)) ?_;refine gs ?_;refine aa (aE (by omega)) ?_;refine gs ?_;refine aa (aE (by omega)) ?_;refine gs ?_;refine aa (aE (by omega)) ?_;refine gs ?_;refine aa (aE (by omega)) ?_;refine gs ?_;refine aa (aE (by omega)) ?_;refine gs ?_;refine ak h1 ae rfl ?_;refine ak h1 ae rfl ?_;refine af h1 (p6 (p := P) (g := g) (σ := σ) (μ' := (σ.μ.acc t.who 2 (8, t.s, 0)).put (8, t.s, 0) 0) (by simp) (wn g.tb g.m σ.c.sh.toNat σ.c.sl.toNat σ.μ t.who t.s hN)) fun _ H2 h2 => ?_;exact am (SG (g := g) (k := k) (σ' := ig σ t) (t' := t) hst hto (aw (σ := σ) hg (by simp) rfl) (show ac (xB x P t k * (au P g (ig σ t) * R)) H2 from h2.to))
theorem aqS (S : SOk σ) (T : mN σ t) (ho : t.x.op ≠ 1) (hat : t.at' = 3) : Sp bo [vp x, vi now] (yT x P t * aJ P σ) (fun _ : Unit => vb (ay σ t now).2.2) (fun _ => yU x P (ay σ t now) * aJ P (ay σ t now).1) := by
 have hN : σ.μ.N < 1099511627000 := by have := S.N; omega
 refine aO fun R H h => ?_;obtain ⟨k, g, hR, hg, h0⟩ := jR h;have hl := hg.1;have ha := hR.1;obtain ⟨hI, hfr⟩ := hR.2.1 (by omega);have hi := T.i (by omega);refine tx x P g σ t k now S T ho (by omega) h0 fun H1 h1 => ?_;refine ah (cm ..) ?_;refine aa (bg (by omega)) ?_;refine gs ?_;refine af h1 (Pi x P g σ t k S T hI hfr hi) fun _ H2 h2 => ?_;obtain ⟨k2, hk2⟩ : ∃ k2 : Xk, k2 = ve σ t k := ⟨_, rfl⟩;rw [← hk2] at h2;refine aa (v := vb (aC σ t).found) rfl ?_;refine aa (v := vb (!(aC σ t).found && decide (σ.c.sl ≤ ((t.i + 1 : Nat) : Int)))) rfl ?_
 cases hfd : (aC σ t).found with
 | true =>
  refine gs ?_;refine bk h2 ae rfl rfl fun H4 h4 => ?_;refine ah (bp ..) ?_;exact am (ip (g := g) (k := { k2 with a := 4 }) (σ' := aY σ t) (t' := { aC σ t with at' := 4 }) (by simp only [ay, hat]; rw [if_pos hfd, if_neg ho]) (uF rfl ho (by simp) (by rw [hk2]; rfl) (by rw [hk2]; show (if (aC σ t).found = true then (aC σ t).obj else k.obj) = (aC σ t).obj; rw [if_pos hfd]) (by simp) (by simp) (by simp) (by simp)) (aw (σ := σ) hg (by simp) rfl) (show ac (xB x P t ({ k2 with a := 4 }) * (au P (g) (aY σ t) * R)) _ from h4.to))
 | false =>
  rw [Bool.not_false, Bool.true_and];refine gs ?_
  have hli : (aC σ t).i = t.i + 1 := by
   show (if (aC σ t).found = true then t.i else t.i + 1) = _;rw [if_neg (by rw [hfd]; simp)]
  have hla : cn σ (aC σ t) = decide (σ.c.sl ≤ ((t.i + 1 : Nat) : Int)) := by unfold cn; rw [hli]
  have nf : ¬ (aC σ t).found = true := by rw [hfd]; simp
  by_cases hL : σ.c.sl ≤ ((t.i + 1 : Nat) : Int)
  ·have hla' : cn σ (aC σ t) = true := hla.trans (eu hL)
   rw [eu hL];refine gs ?_;refine af h2 (jP x P g (aY σ t) t (k2) (aw (σ := σ) hg (by simp) rfl) now 5 (by have := S.N; show σ.μ.N + 2 < _; omega) S.pts) fun v H3 h3 => ?_;refine bk h3 ae rfl rfl fun H4 h4 => ?_;refine ah (bp ..) ?_;exact am (ip (g := { g with pv := v }) (k := { k2 with a := 10, code := 5 }) (σ' := (aY σ t).note now t.who 5) (t' := { aC σ t with at' := 10, code := 5 }) (by simp only [ay, hat]; rw [if_neg nf, if_pos hla', if_neg ho]) (abA rfl ho rfl rfl) (dK (σ := σ) hg (by simp) rfl) (show ac (xB x P t ({ k2 with a := 10, code := 5 }) * (au P ({ g with pv := v }) ((aY σ t).note now t.who 5) * R)) _ from h4.to))
  ·have hla' : ¬ cn σ (aC σ t) = true := by rw [hla, d4 hL]; simp
   rw [d4 hL];refine gs ?_;refine ah (bp ..) ?_;exact am (ip (g := g) (k := k2) (σ' := aY σ t) (t' := aC σ t) (by simp only [ay, hat]; rw [if_neg nf, if_neg hla']) (Eh (by rw [hk2]; show k.a = t.at'; exact ha) (by show t.at' < 4; omega) ⟨by rw [hk2]; rfl, by rw [hk2]; rfl⟩) (aw (σ := σ) hg (by simp) rfl) (show ac (xB x P t (k2) * (au P (g) (aY σ t) * R)) _ from h2.to))
theorem aqT (S : SOk σ) (T : mN σ t) (ho : t.x.op ≠ 1) (hat : t.at' = 4) : Sp bo [vp x, vi now] (yT x P t * aJ P σ) (fun _ : Unit => vb (ay σ t now).2.2) (fun _ => yU x P (ay σ t now) * aJ P (ay σ t now).1) := by
 have hN : σ.μ.N < 1099511627000 := by have := S.N; omega
 refine aO fun R H h => ?_;obtain ⟨k, g, hR, hg, h0⟩ := jR h;have hl := hg.1;have ha := hR.1;obtain ⟨hI, hko⟩ := (hR.2.2.2 ho).1 (by omega) (by omega);have hob := T.obj (.inr ⟨by omega, by omega, ho⟩)
 have hob' : k.obj < σ.obs.length := by omega
 obtain ⟨b, hb⟩ : ∃ b, g.rp[k.obj]? = some b := ⟨_, cB (by omega)⟩;refine tx x P g σ t k now S T ho (by omega) h0 fun H1 h1 => ?_;refine ah (cm ..) ?_;refine aa (aE (by omega)) ?_;refine gs ?_;refine aa (bg (by omega)) ?_;refine gs ?_;refine bk h1 ae rfl rfl fun H2 h2 => ?_;refine af h2 (Ef x P g σ t { k with a := 5 } S hl b hob' hb) fun _ H3 h3 => ?_;dsimp only at h3;rw [hko] at h3
 by_cases hw : aN (σ.μ.V (11, (t.obj : Int), 0)) = 0
 ·refine aa (bg (by rw [hko]; exact hw)) ?_
  refine gs ?_;refine bk h3 ae rfl rfl fun H4 h4 => ?_;refine ah (bp ..) ?_;exact am (ip (g := g) (k := { k with a := 8, obj := t.obj, w := σ.μ.V (11, (t.obj : Int), 0) }) (σ' := dg σ t) (t' := { t with w := σ.μ.V (11, (t.obj : Int), 0), at' := 8 }) (by rw [bO σ t now ho (by omega)]; simp only [fY, hat]; rw [if_pos hw]) (uF rfl ho (by simp) hI rfl (by simp) (by simp) (fun _ => rfl) (by simp)) (aw (σ := σ) hg (by simp) rfl) (show ac (xB x P t ({ k with a := 8, obj := t.obj, w := σ.μ.V (11, (t.obj : Int), 0) }) * (au P (g) (dg σ t) * R)) _ from h4.to))
 ·refine aa (aE (by rw [hko]; exact hw)) ?_
  refine gs ?_;refine ah (bp ..) ?_;exact am (ip (g := g) (k := { k with a := 5, obj := t.obj, w := σ.μ.V (11, (t.obj : Int), 0) }) (σ' := dg σ t) (t' := { t with w := σ.μ.V (11, (t.obj : Int), 0), at' := 5 }) (by rw [bO σ t now ho (by omega)]; simp only [fY, hat]; rw [if_neg hw]) (uF rfl ho (by simp) hI rfl (by simp) (by simp) (by simp) (by simp)) (aw (σ := σ) hg (by simp) rfl) (show ac (xB x P t ({ k with a := 5, obj := t.obj, w := σ.μ.V (11, (t.obj : Int), 0) }) * (au P (g) (dg σ t) * R)) _ from h3.to))
theorem aqU (S : SOk σ) (T : mN σ t) (ho : t.x.op ≠ 1) (hat : t.at' = 5) : Sp bo [vp x, vi now] (yT x P t * aJ P σ) (fun _ : Unit => vb (ay σ t now).2.2) (fun _ => yU x P (ay σ t now) * aJ P (ay σ t now).1) := by
 have hN : σ.μ.N < 1099511627000 := by have := S.N; omega
 refine aO fun R H h => ?_;obtain ⟨k, g, hR, hg, h0⟩ := jR h;have hl := hg.1;have ha := hR.1;obtain ⟨hI, hko⟩ := (hR.2.2.2 ho).1 (by omega) (by omega);have hob := T.obj (.inr ⟨by omega, by omega, ho⟩)
 have hob' : k.obj < σ.obs.length := by omega
 obtain ⟨b, hb⟩ : ∃ b, g.rp[k.obj]? = some b := ⟨_, cB (by omega)⟩;refine tx x P g σ t k now S T ho (by omega) h0 fun H1 h1 => ?_;refine ah (cm ..) ?_;refine aa (aE (by omega)) ?_;refine gs ?_;refine aa (aE (by omega)) ?_;refine gs ?_;refine aa (bg (by omega)) ?_;refine gs ?_;refine ak h1 ae rfl ?_;refine af h1 (qM P g σ t.who S.N) fun _ H2 h2 => ?_;refine bk h2 ae rfl rfl fun H3 h3 => ?_;refine bk h3 ae rfl rfl fun H4 h4 => ?_;refine ak h4 ae rfl ?_;refine aa (JB 2 (by omega)) ?_
 by_cases hw : σ.μ.V (2, 0, 0) % 2 = 1
 ·refine aa (bg (show ((σ.μ.V (2, 0, 0) % 2 : Nat) : Int) = 1 by omega)) ?_
  refine gs ?_;refine bk h4 ae rfl rfl fun H5 h5 => ?_;refine ah (bp ..) ?_;exact am (ip (g := g) (k := { k with a := 4, q := σ.μ.V (2, 0, 0) }) (σ' := eD σ t) (t' := { t with q := σ.μ.V (2, 0, 0), at' := 4 }) (by rw [bO σ t now ho (by omega)]; simp only [fY, hat]; rw [if_pos hw]) (uF rfl ho (by simp) hI hko (by simp) (by simp) (by simp) (by simp)) (aw (σ := σ) hg (by simp) rfl) (show ac (xB x P t ({ k with a := 4, q := σ.μ.V (2, 0, 0) }) * (au P (g) (eD σ t) * R)) _ from h5.to))
 ·refine aa (aE (show ¬ ((σ.μ.V (2, 0, 0) % 2 : Nat) : Int) = 1 by omega)) ?_
  refine gs ?_;refine ah (bp ..) ?_;exact am (ip (g := g) (k := { k with a := 6, q := σ.μ.V (2, 0, 0) }) (σ' := eD σ t) (t' := { t with q := σ.μ.V (2, 0, 0), at' := 6 }) (by rw [bO σ t now ho (by omega)]; simp only [fY, hat]; rw [if_neg hw]) (uF rfl ho (by simp) hI hko (fun _ => rfl) (by simp) (by simp) (by simp)) (aw (σ := σ) hg (by simp) rfl) (show ac (xB x P t ({ k with a := 6, q := σ.μ.V (2, 0, 0) }) * (au P (g) (eD σ t) * R)) _ from h4.to))
theorem aqV (S : SOk σ) (T : mN σ t) (ho : t.x.op ≠ 1) (hat : t.at' = 6) : Sp bo [vp x, vi now] (yT x P t * aJ P σ) (fun _ : Unit => vb (ay σ t now).2.2) (fun _ => yU x P (ay σ t now) * aJ P (ay σ t now).1) := by
 have hN : σ.μ.N < 1099511627000 := by have := S.N; omega
 refine aO fun R H h => ?_;obtain ⟨k, g, hR, hg, h0⟩ := jR h;have hl := hg.1;have ha := hR.1;obtain ⟨hI, hko⟩ := (hR.2.2.2 ho).1 (by omega) (by omega);have hob := T.obj (.inr ⟨by omega, by omega, ho⟩)
 have hob' : k.obj < σ.obs.length := by omega
 obtain ⟨b, hb⟩ : ∃ b, g.rp[k.obj]? = some b := ⟨_, cB (by omega)⟩;have hkq := (hR.2.2.2 ho).2.1 (.inl hat);refine tx x P g σ t k now S T ho (by omega) h0 fun H1 h1 => ?_;refine ah (cm ..) ?_;refine aa (aE (by omega)) ?_;refine gs ?_;refine aa (aE (by omega)) ?_;refine gs ?_;refine aa (aE (by omega)) ?_;refine gs ?_;refine aa (bg (by omega)) ?_;refine gs ?_;refine bk h1 ae rfl rfl fun H2 h2 => ?_;refine bk h2 ae rfl rfl fun H5 h5 => ?_;refine af h5 (Ef x P g σ t { k with a := 7, mark := now } S hl b hob' hb) fun _ H3 h3 => ?_;dsimp only at h3;rw [hko] at h3
 by_cases hw : aN (σ.μ.V (11, (t.obj : Int), 0)) = 0
 ·refine aa (bg (by rw [hko]; exact hw)) ?_
  refine gs ?_;refine bk h3 ae rfl rfl fun H4 h4 => ?_;refine ah (bp ..) ?_;exact am (ip (g := g) (k := { k with a := 8, mark := now, obj := t.obj, w := σ.μ.V (11, (t.obj : Int), 0) }) (σ' := dg σ t) (t' := { t with w := σ.μ.V (11, (t.obj : Int), 0), mark := now, at' := 8 }) (by rw [bO σ t now ho (by omega)]; simp only [fY, hat]; rw [if_pos hw]) (uF rfl ho (by simp) hI rfl (by simp) (by simp) (fun _ => rfl) (by simp)) (aw (σ := σ) hg (by simp) rfl) (show ac (xB x P t ({ k with a := 8, mark := now, obj := t.obj, w := σ.μ.V (11, (t.obj : Int), 0) }) * (au P (g) (dg σ t) * R)) _ from h4.to))
 ·refine aa (aE (by rw [hko]; exact hw)) ?_
  refine gs ?_;refine ah (bp ..) ?_;exact am (ip (g := g) (k := { k with a := 7, mark := now, obj := t.obj, w := σ.μ.V (11, (t.obj : Int), 0) }) (σ' := dg σ t) (t' := { t with w := σ.μ.V (11, (t.obj : Int), 0), mark := now, at' := 7 }) (by rw [bO σ t now ho (by omega)]; simp only [fY, hat]; rw [if_neg hw]) (uF rfl ho (by simp) hI rfl (fun _ => hkq) (fun _ => rfl) (by simp) (by simp)) (aw (σ := σ) hg (by simp) rfl) (show ac (xB x P t ({ k with a := 7, mark := now, obj := t.obj, w := σ.μ.V (11, (t.obj : Int), 0) }) * (au P (g) (dg σ t) * R)) _ from h3.to))
theorem aqW (S : SOk σ) (T : mN σ t) (ho : t.x.op ≠ 1) (hat : t.at' = 7) : Sp bo [vp x, vi now] (yT x P t * aJ P σ) (fun _ : Unit => vb (ay σ t now).2.2) (fun _ => yU x P (ay σ t now) * aJ P (ay σ t now).1) := by
 have hN : σ.μ.N < 1099511627000 := by have := S.N; omega
 refine aO fun R H h => ?_;obtain ⟨k, g, hR, hg, h0⟩ := jR h;have hl := hg.1;have ha := hR.1;obtain ⟨hI, hko⟩ := (hR.2.2.2 ho).1 (by omega) (by omega);have hob := T.obj (.inr ⟨by omega, by omega, ho⟩)
 have hob' : k.obj < σ.obs.length := by omega
 obtain ⟨b, hb⟩ : ∃ b, g.rp[k.obj]? = some b := ⟨_, cB (by omega)⟩;have hkq := (hR.2.2.2 ho).2.1 (.inr hat);have hkm := (hR.2.2.2 ho).2.2.1 hat;refine tx x P g σ t k now S T ho (by omega) h0 fun H1 h1 => ?_;refine ah (cm ..) ?_;refine aa (aE (by omega)) ?_;refine gs ?_;refine aa (aE (by omega)) ?_;refine gs ?_;refine aa (aE (by omega)) ?_;refine gs ?_;refine aa (aE (by omega)) ?_;refine gs ?_;refine aa (bg (by omega)) ?_;refine gs ?_;refine bk h1 ae rfl rfl fun H2 h2 => ?_;refine ak h2 ae rfl ?_;refine af h2 (qM P g σ t.who S.N) fun _ H3 h3' => ?_;refine bC ae ?_;refine aV h3' rfl ?_;refine aI h2 h3' (by rfl) ?_;rw [hkq]
 by_cases hw : σ.μ.V (2, 0, 0) = t.q
 ·refine aa (bg (show ((σ.μ.V (2, 0, 0) : Nat) : Int) = (t.q : Int) by omega)) ?_
  refine gs ?_;refine ak h3' ae rfl ?_;rw [hkm];refine af h3' (jP x P g (eD σ t) t ({ k with a := 4 }) (aw (σ := σ) hg (by simp) rfl) t.mark 8 (by have := S.N; show σ.μ.N + 2 < _; omega) S.pts) fun v H3 h3 => ?_;refine bk h3 ae rfl rfl fun H4 h4 => ?_;refine ah (bp ..) ?_;exact am (ip (g := { g with pv := v }) (k := { k with a := 10, code := 8 }) (σ' := (eD σ t).note t.mark t.who 8) (t' := { t with at' := 10, code := 8 }) (by rw [bO σ t now ho (by omega)]; simp only [fY, hat]; rw [if_pos hw]) (abA rfl ho rfl rfl) (dK (σ := σ) hg (by simp) rfl) (show ac (xB x P t ({ k with a := 10, code := 8 }) * (au P ({ g with pv := v }) ((eD σ t).note t.mark t.who 8) * R)) _ from h4.to))
 ·refine aa (aE (show ¬ ((σ.μ.V (2, 0, 0) : Nat) : Int) = (t.q : Int) by omega)) ?_
  refine gs ?_;refine ah (bp ..) ?_;exact am (ip (g := g) (k := { k with a := 4 }) (σ' := eD σ t) (t' := { t with at' := 4 }) (by rw [bO σ t now ho (by omega)]; simp only [fY, hat]; rw [if_neg hw]) (uF rfl ho (by simp) hI hko (by simp) (by simp) (by simp) (by simp)) (aw (σ := σ) hg (by simp) rfl) (show ac (xB x P t ({ k with a := 4 }) * (au P (g) (eD σ t) * R)) _ from h3'.to))
theorem aqX (S : SOk σ) (T : mN σ t) (ho : t.x.op ≠ 1) (hat : t.at' = 8) : Sp bo [vp x, vi now] (yT x P t * aJ P σ) (fun _ : Unit => vb (ay σ t now).2.2) (fun _ => yU x P (ay σ t now) * aJ P (ay σ t now).1) := by
 have hN : σ.μ.N < 1099511627000 := by have := S.N; omega
 refine aO fun R H h => ?_;obtain ⟨k, g, hR, hg, h0⟩ := jR h;have hl := hg.1;have ha := hR.1;obtain ⟨hI, hko⟩ := (hR.2.2.2 ho).1 (by omega) (by omega);have hob := T.obj (.inr ⟨by omega, by omega, ho⟩)
 have hob' : k.obj < σ.obs.length := by omega
 obtain ⟨b, hb⟩ : ∃ b, g.rp[k.obj]? = some b := ⟨_, cB (by omega)⟩;have hkw := (hR.2.2.2 ho).2.2.2.1 hat
 have leT : σ.μ.N ≤ (σ.μ.turn t.who t.obj t.w (aP t.w 2)).N := by
  cases aP t.w 2 with
  | none => exact bv _
  | some n => show σ.μ.N ≤ σ.μ.N + 2; omega
 have leN : (σ.μ.turn t.who t.obj t.w (aP t.w 2)).N ≤ σ.μ.N + 2 := by
  cases aP t.w 2 with
  | none => show σ.μ.N ≤ σ.μ.N + 2; omega
  | some n => exact bv _
 refine tx x P g σ t k now S T ho (by omega) h0 fun H1 h1 => ?_;refine ah (cm ..) ?_;refine aa (aE (by omega)) ?_;refine gs ?_;refine aa (aE (by omega)) ?_;refine gs ?_;refine aa (aE (by omega)) ?_;refine gs ?_;refine aa (aE (by omega)) ?_;refine gs ?_;refine aa (aE (by omega)) ?_;refine gs ?_;refine aa (bg (by omega)) ?_;refine gs ?_;refine bk h1 ae rfl rfl fun H2 h2 => ?_;refine af h2 (jQ x P g σ t { k with a := 4 } hl b hob' hb) fun _ H3 h3 => ?_;refine bC ae ?_;refine aV h3 rfl ?_;refine aI h2 h3 (by rfl) ?_;refine bC ae ?_;refine aV h3 rfl ?_;refine aI h2 h3 (by rfl) ?_;rw [hkw];refine af h3 (kR (p := P) (μ' := σ.μ.turn t.who t.obj t.w (aP t.w 2)) leT hl hob' hb (by rw [hko]; exact wK g.m t.obj b (az σ t.obj) σ.μ t.who t.w 2 (by omega) T.w hN)) fun _ H5 h5 => ?_;cases hw : dT σ.μ t.obj t.w (aP t.w 2)
 ·refine gs ?_
  refine ah (bp ..) ?_;exact am (ip (g := g) (k := { k with a := 4 }) (σ' := σ.mem (σ.μ.turn t.who t.obj t.w (aP t.w 2))) (t' := { t with at' := 4 }) (by rw [bO σ t now ho (by omega)]; simp only [fY, hat]; rw [if_neg (by rw [hw]; simp)]) (uF rfl ho (by simp) hI hko (by simp) (by simp) (by simp) (by simp)) (aw (σ := σ) hg leT rfl) (show ac (xB x P t ({ k with a := 4 }) * (au P (g) (σ.mem (σ.μ.turn t.who t.obj t.w (aP t.w 2))) * R)) _ from h5.to))
 ·refine gs ?_
  refine af h5 (jP x P g (σ.mem (σ.μ.turn t.who t.obj t.w (aP t.w 2))) t { k with a := 4 } (aw (σ := σ) hg leT rfl) now 0 (by have := S.N; show (σ.μ.turn t.who t.obj t.w (aP t.w 2)).N < _; omega) S.pts) fun v H6 h6 => ?_;refine bk h6 ae rfl rfl fun H7 h7 => ?_;refine ah (bp ..) ?_;exact am (ip (g := { g with pv := v }) (k := { k with a := 9, code := 0 }) (σ' := (σ.mem (σ.μ.turn t.who t.obj t.w (aP t.w 2))).note now t.who 0) (t' := { t with at' := 9, code := 0 }) (by rw [bO σ t now ho (by omega)]; simp only [fY, hat]; rw [if_pos hw]) (uF rfl ho (by simp) hI hko (by simp) (by simp) (by simp) (fun _ => rfl)) (dK (σ := σ) hg leT rfl) (show ac (xB x P t ({ k with a := 9, code := 0 }) * (au P ({ g with pv := v }) ((σ.mem (σ.μ.turn t.who t.obj t.w (aP t.w 2))).note now t.who 0) * R)) _ from h7.to))
theorem aqY (S : SOk σ) (T : mN σ t) (ho : t.x.op ≠ 1) (hat : t.at' = 9) : Sp bo [vp x, vi now] (yT x P t * aJ P σ) (fun _ : Unit => vb (ay σ t now).2.2) (fun _ => yU x P (ay σ t now) * aJ P (ay σ t now).1) := by
 have hN : σ.μ.N < 1099511627000 := by have := S.N; omega
 refine aO fun R H h => ?_;obtain ⟨k, g, hR, hg, h0⟩ := jR h;have hl := hg.1;have ha := hR.1;obtain ⟨hI, hko⟩ := (hR.2.2.2 ho).1 (by omega) (by omega);have hob := T.obj (.inr ⟨by omega, by omega, ho⟩)
 have hob' : k.obj < σ.obs.length := by omega
 obtain ⟨b, hb⟩ : ∃ b, g.rp[k.obj]? = some b := ⟨_, cB (by omega)⟩;have hkc := (hR.2.2.2 ho).2.2.2.2 (.inl hat);refine tx x P g σ t k now S T ho (by omega) h0 fun H1 h1 => ?_;refine ah (cm ..) ?_;refine aa (aE (by omega)) ?_;refine gs ?_;refine aa (aE (by omega)) ?_;refine gs ?_;refine aa (aE (by omega)) ?_;refine gs ?_;refine aa (aE (by omega)) ?_;refine gs ?_;refine aa (aE (by omega)) ?_;refine gs ?_;refine aa (aE (by omega)) ?_;refine gs ?_;refine aa (bg (by omega)) ?_;refine gs ?_;refine ak h1 ae rfl ?_;refine ak h1 ae rfl ?_;refine ak h1 ae rfl ?_;rw [hI];refine af h1 (p6 (p := P) (g := g) (σ := σ) (μ' := (σ.μ.acc t.who 2 (10, t.s, (t.i : Int))).put (10, t.s, (t.i : Int)) 0) (by simp) (ZB g.tb g.m σ.c.sh.toNat σ.c.sl.toNat σ.μ t.who t.s t.i hN)) fun _ H2 h2 => ?_;refine bk h2 ae rfl rfl fun H4 h4 => ?_;refine ah (bp ..) ?_;exact am (ip (g := g) (k := { k with a := 10 }) (σ' := σ.mem ((σ.μ.acc t.who 2 (10, t.s, (t.i : Int))).put (10, t.s, (t.i : Int)) 0)) (t' := { t with at' := 10 }) (by rw [bO σ t now ho (by omega)]; simp only [fY, hat]) (abA rfl ho rfl hkc) (aw (σ := σ) hg (by simp) rfl) (show ac (xB x P t ({ k with a := 10 }) * (au P (g) (σ.mem ((σ.μ.acc t.who 2 (10, t.s, (t.i : Int))).put (10, t.s, (t.i : Int)) 0)) * R)) _ from h4.to))
theorem akC (S : SOk σ) (T : mN σ t) (hat : t.at' = 2) : Sp bo [vp x, vi now] (yT x P t * aJ P σ) (fun _ : Unit => vb (ay σ t now).2.2) (fun _ => yU x P (ay σ t now) * aJ P (ay σ t now).1) := by
 have hN : σ.μ.N < 1099511627000 := by have := S.N; omega
 refine aO fun R H h => ?_;obtain ⟨k, g, hR, hg, h0⟩ := jR h;have hl := hg.1;have ha := hR.1
 have hst : ay σ t now = fm σ t := by simp only [ay, hat]
 refine Bn x P g σ t k now S T (by omega) h0 fun H1 h1 => ?_;rw [hst];exact JW x P g σ t k now S (hR.2.1 (by omega)) (by omega) hg h1
theorem akB (S : SOk σ) (T : mN σ t) (hat : t.at' = 0) : Sp bo [vp x, vi now] (yT x P t * aJ P σ) (fun _ : Unit => vb (ay σ t now).2.2) (fun _ => yU x P (ay σ t now) * aJ P (ay σ t now).1) := by
 have hN : σ.μ.N < 1099511627000 := by have := S.N; omega
 refine aO fun R H h => ?_;obtain ⟨k, g, hR, hg, h0⟩ := jR h;have hl := hg.1;have ha := hR.1;refine Pg x P g σ t k now S T h0 fun H1 h1 => ?_;refine ah (nI ..) ?_;refine ak h1 ae rfl ?_;refine aa (bg (by omega)) ?_;refine ah (lR ..) ?_;refine gs ?_
 have bad : ∀ code, code ≠ 0 → uA t.x = some code → wp (cS (vp x) (vi now) (vb false) (vp P) (vi t.s) (vi code) H1) fun v' H' => ∃ y : Unit, v' = vb (ay σ t now).2.2 ∧ ac (yU x P (ay σ t now) * aJ P (ay σ t now).1 * R) H' := by
  intro code h0 hx;refine ah (lT ..) ?_;refine aa (Jm h0) ?_;refine gs ?_;refine af h1 (jP x P g σ t k hg now code (by have := S.N; omega) S.pts) fun v H2 h2 => ?_;exact am (SG (g := { g with pv := v }) (k := { k with code := code }) (σ' := σ.note now t.who code) (t' := { t with code := code }) (by simp only [ay, hat, hx]) rfl (dK (σ := σ) hg (bv _) rfl) h2.to)
 have good : uA t.x = none → wp (cS (vp x) (vi now) (vb false) (vp P) (vi t.s) (vi 0) H1) fun v' H' => ∃ y : Unit, v' = vb (ay σ t now).2.2 ∧ ac (yU x P (ay σ t now) * aJ P (ay σ t now).1 * R) H' := by
  intro hx
  have hst : ay σ t now = fm σ t := by simp only [ay, hat, hx]
  refine ah (lT ..) ?_;refine aa (BJ rfl) ?_;refine gs ?_;refine bk h1 ae rfl rfl fun H2 h2 => ?_;rw [hst];exact JW x P g σ t { k with a := 2 } now S (hR.2.1 (by omega)) rfl hg h2.to
 have k17f : sS t.x → wp (ic (vp x) (vi now) (vb false) (vp P) (vi t.s) (vi 0) (vb false) H1) fun v' H' => ∃ y : Unit, v' = vb (ay σ t now).2.2 ∧ ac (yU x P (ay σ t now) * aJ P (ay σ t now).1 * R) H' := by
  intro hf;refine ah (lS ..) ?_;refine ak h1 (b7 (aR (aR bf))) rfl ?_
  by_cases ho : t.x.op = 1
  ·refine aa (BJ ho) ?_
   refine gs ?_;rw [Bool.not_false];refine gs ?_;exact bad 1 (by omega) (by rw [nL ho, if_pos hf])
  ·refine aa (Jm ho) ?_
   refine gs ?_;rw [Bool.not_false];refine gs ?_;exact bad 5 (by omega) (by rw [GS ho, if_pos hf])
 have k17t : ¬ sS t.x → wp (ic (vp x) (vi now) (vb false) (vp P) (vi t.s) (vi 0) (vb true) H1) fun v' H' => ∃ y : Unit, v' = vb (ay σ t now).2.2 ∧ ac (yU x P (ay σ t now) * aJ P (ay σ t now).1 * R) H' := by
  intro hf;refine ah (lS ..) ?_;refine ak h1 (b7 (aR (aR bf))) rfl ?_
  by_cases ho : t.x.op = 1
  ·refine aa (BJ ho) ?_
   refine gs ?_;rw [Bool.not_true];refine gs ?_;refine ak h1 (b7 (aR (aR bf))) rfl ?_;refine aa (bg ho) ?_;refine gs ?_;refine ak h1 (b7 (aR (aR bf))) rfl ?_;refine gs ?_
   by_cases ha1 : t.x.a < 1
   ·refine aa (cE ha1) ?_
    refine gs ?_;exact bad 4 (by omega) (by rw [nL ho, if_neg hf, if_pos (.inl ha1)])
   refine aa (bP ha1) ?_;refine gs ?_;refine ak h1 (b7 (aR (aR bf))) rfl ?_;refine gs ?_
   by_cases ha2 : 65536 < t.x.a
   ·refine aa (pA ha2) ?_
    refine gs ?_;exact bad 4 (by omega) (by rw [nL ho, if_neg hf, if_pos (.inr ha2)])
   refine aa (fV ha2) ?_;refine gs ?_;refine ak h1 (b7 (aR (aR bf))) rfl ?_;refine aa (bg ho) ?_;refine gs ?_;refine ak h1 (b7 (aR (aR bf))) rfl ?_;refine gs ?_
   by_cases hb1 : t.x.b < 1
   ·refine aa (cE hb1) ?_
    refine gs ?_;exact bad 1 (by omega) (by rw [nL ho, if_neg hf, if_neg (by omega), if_pos (.inl hb1)])
   refine aa (bP hb1) ?_;refine gs ?_;refine ak h1 (b7 (aR (aR bf))) rfl ?_;refine gs ?_
   by_cases hb2 : 8 < t.x.b
   ·refine aa (pA hb2) ?_
    refine gs ?_;exact bad 1 (by omega) (by rw [nL ho, if_neg hf, if_neg (by omega), if_pos (.inr hb2)])
   refine aa (fV hb2) ?_;refine gs ?_;exact good (by rw [nL ho, if_neg hf, if_neg (by omega), if_neg (by omega)])
  ·refine aa (Jm ho) ?_
   refine gs ?_;rw [Bool.not_true];refine gs ?_;rw [Bool.not_true];refine gs ?_;refine ak h1 (b7 (aR (aR bf))) rfl ?_;refine aa (aE ho) ?_;refine gs ?_;refine ak h1 (b7 (aR (aR bf))) rfl ?_;refine aa (aE ho) ?_;refine gs ?_;exact good (by rw [GS ho, if_neg hf])
 refine ak h1 (b7 (aR (aR bf))) rfl ?_
 by_cases hf : t.x.flow < 0
 ·refine aa (il (by omega)) ?_
  refine gs ?_;exact k17f (.inl hf)
 refine aa (jV (by omega)) ?_;refine gs ?_;refine ak h1 (b7 (aR (aR bf))) rfl ?_;refine gs ?_
 by_cases hf2 : 1048576 < t.x.flow
 ·refine aa (Vt (by omega)) ?_
  refine gs ?_;exact k17f (.inr hf2)
 refine aa (Vu (by omega)) ?_;refine gs ?_;exact k17t (fun h => h.elim hf hf2)
theorem aaY (S : SOk σ) (T : mN σ t) : Sp bo [vp x, vi now] (yT x P t * aJ P σ) (fun _ : Unit => vb (ay σ t now).2.2) (fun _ => yU x P (ay σ t now) * aJ P (ay σ t now).1) := by
 by_cases ho : t.x.op = 1
 ·rcases T.ats with hat | hat | hat | hat | hat
  ·exact akB x P σ t now S T hat
  ·exact akC x P σ t now S T hat
  ·exact aqZ x P σ t now S T ho hat
  ·by_cases h4 : t.at' = 4
   ·exact aq0 x P σ t now S T ho h4
   by_cases h5 : t.at' = 5
   ·exact aq1 x P σ t now S T ho h5
   exact aq2 x P σ t now S T ho (by omega)
  ·exact absurd ho hat.1
 ·rcases T.ats with hat | hat | hat | hat | hat
  ·exact akB x P σ t now S T hat
  ·exact akC x P σ t now S T hat
  ·exact aqS x P σ t now S T ho hat
  ·by_cases h4 : t.at' = 4
   ·exact aqT x P σ t now S T ho h4
   by_cases h5 : t.at' = 5
   ·exact aqU x P σ t now S T ho h5
   exact aqV x P σ t now S T ho (by omega)
  ·by_cases h7 : t.at' = 7
   ·exact aqW x P σ t now S T ho h7
   by_cases h8 : t.at' = 8
   ·exact aqX x P σ t now S T ho h8
   by_cases h9 : t.at' = 9
   ·exact aqY x P σ t now S T ho h9
   exact anY x P σ t now S T ho (by omega)
end
abbrev TP := Nat × Pt
def ltT (a b : TP) : Prop := a.2.step < b.2.step ∨ a.2.step = b.2.step ∧ a.1 < b.1
def Srt (L : List TP) : Prop := L.Pairwise ltT
def Bel (X Y : List TP) : Prop := ∀ x ∈ X, ∀ y ∈ Y, x.1 < y.1
abbrev pl (L : List TP) : List Pt := L.map fun x : TP => x.2
theorem anE : Srt [] := List.Pairwise.nil
inductive Chk (bs : Nat) : List TP → Prop
 | last {X : List TP} (h1 : X.length ≤ bs) (h2 : Srt X) : Chk bs X
 | cons {X L : List TP} (h1 : X.length = bs) (h2 : Srt X) (h3 : Bel X L) (h4 : Chk bs L) : Chk bs (X ++ L)
theorem Chk.nil {bs : Nat} : Chk bs [] := .last (by simp) anE
theorem Chk.split {bs : Nat} {L : List TP} (h : Chk bs L) (hl : bs ≤ L.length) : ∃ X L2, L = X ++ L2 ∧ X.length = bs ∧ Srt X ∧ Bel X L2 ∧ Chk bs L2 := by
 cases h with
 | last h1 h2 => exact ⟨L, [], by simp, by omega, h2, (fun x _ y hy => by cases hy), .nil⟩
 | @cons X L' h1 h2 h3 h4 => exact ⟨X, L', rfl, h1, h2, h3, h4⟩
theorem Bel.left {X X2 Y : List TP} (h : Bel (X ++ X2) Y) : Bel X Y := fun x hx y hy => h x (List.mem_append_left _ hx) y hy
theorem Bel.sub {X X' Y Y' : List TP} (h : Bel X Y) (hx : ∀ x ∈ X', x ∈ X) (hy : ∀ y ∈ Y', y ∈ Y) : Bel X' Y' := fun x h1 y h2 => h x (hx x h1) y (hy y h2)
theorem ajT {x : OV} {Q Q' : Value → AH → Prop} (f : ∀ v H, Q v H → Q' v H) (k : wp x Q) : wp x Q' := let ⟨v, H, e, q⟩ := k; ⟨v, H, e, f _ _ q⟩
theorem FM : Sp fZ [.slice none 0 0, .slice none 0 0] emp (fun _ : Unit => vb true) (fun _ => emp) := by
 have same : ∀ f : Value, Sp sE [.slice none 0 0, .slice none 0 0, f] emp (fun _ : Unit => vb true) (fun _ => emp) := by
  intro f;refine bh (LS _ _ _) fun R H h => ?_;refine Wn ?_;refine Wn ?_;refine aa (BJ rfl) ?_;refine gs ?_;refine ah (Cj _ _ _ _ H) ?_;refine ah (Cn _ _ _ _ _ H) ?_;refine ah (Co _ _ _ _ _ H) ?_;refine Wn ?_;refine aa (bP (by omega)) ?_;refine gs ?_;refine ah (xL _ H) ?_;refine ah (Cm _ H) ?_;exact am ⟨(), rfl, h⟩
 refine bh (pB _ _) fun R H h => ?_;refine af h (same _) fun _ H1 h1 => ?_;exact am ⟨(), rfl, h1.to⟩
theorem agG (e : Int) : Sp vJ [.agg (ie e).toArray, .agg (ie e).toArray] emp (fun _ : Unit => vb true) (fun _ => emp) := by
 refine bh (NZ _ _) fun R H h => ?_;refine ba h fun b1 H1 h1 => ?_;refine ba h1 fun b2 H2 h2 => ?_;refine ak h2 aD rfl ?_;refine ak h2 aD rfl ?_;refine aa (bg rfl) ?_;refine gs ?_;refine ak h2 aD rfl ?_;refine gs ?_;refine ak h2 aD rfl ?_;refine gs ?_;refine aa (bg rfl) ?_;refine gs ?_;refine ak h2 aD rfl ?_;refine gs ?_;refine ak h2 aD rfl ?_;refine gs ?_;refine aa (bg rfl) ?_;refine gs ?_;refine ak h2 aD rfl ?_;refine gs ?_;refine ak h2 aD rfl ?_;refine gs ?_;refine af h2 FM fun _ H3 h3 => ?_;refine gs ?_;exact am ⟨(), rfl, h3.to⟩
section
variable {α : Type}
theorem ao6 (A B : List α) (x : α) : (A ++ x :: B)[A.length]? = some x := by simp
theorem akQ {A B : List α} {x : α} {i : Nat} (h : i = A.length) : (A ++ x :: B)[i]? = some x := by subst h; exact ao6 A B x
theorem at2 {A B C : List α} {x y : α} {j : Nat} (hj : j = A.length + 1 + B.length) : (A ++ x :: (B ++ y :: C))[j]? = some y := by
 have e : A ++ x :: (B ++ y :: C) = (A ++ x :: B) ++ y :: C := by simp
 rw [e];exact akQ (by simp; omega)
end
section
variable {P R : SP} {H : AH} {s : Value} {l : List Pt} {Q : Value → AH → Prop}
end

section
variable (A B : List Pt) (s : Value) (X Y : List TP)
end
section
variable (A B : List Pt) (s : Value) (X Y : List TP) (hX : Srt X) (hY : Srt Y) (hB : Bel X Y) (hb : A.length + X.length + Y.length < 1000000)
include hX hY hB hb
end


theorem J7 (s : Value) (l : List Ev) (hl : l.length ≤ 1000000) : Sp ag5 [s] (ts 5 Ev.cells s l) (fun v : Value => v) (fun v => ts 5 Ev.cells v l * ts 5 Ev.cells s l) := by
 refine bh (ap8 _) fun R H h => ?_
 rcases mp h (enc := Ev.cells) (s := s) with ⟨rfl, rfl, h1⟩ | ⟨b, rfl, h1⟩
 ·refine aa (v := vb true) rfl ?_
  refine gs ?_;exact am ⟨_, rfl, by have := dL 5 Ev.cells (dL 5 Ev.cells h1); exact this.to⟩
 ·refine aa (v := vb false) rfl ?_
  refine gs ?_;refine Wo (cs := []) h rfl fun b2 H2 h2 => ?_;have h3 := Ed (e := 5) (enc := Ev.cells) (l := []) h2;refine Hr (s := vs b2 0 5) (l := ([] : List Ev)) (m := l) h3 ?_ (by omega) fun v H4 h4 => ?_
  ·unfold room; simp; omega
  rw [List.nil_append] at h4;exact am ⟨v, rfl, h4.to⟩
theorem Rh (m : Nat) (μ : Mu) (hE : μ.E.length ≤ 1000000) : Sp g7 [vp m] (bF m μ) (fun v : Value => v) (fun v => ts 5 Ev.cells v μ.E * bF m μ) := by
 refine aO fun R H h => ?_;obtain ⟨⟨c, l, al, es, ck⟩, h1⟩ := ac.ex.1 h;rw [ai, ac.pu] at h1;obtain ⟨hp, h1⟩ := h1;dsimp only at h1;have h2 : ac (blk m (.cells false [.map (some c), l]) * (blk c (.map es ck) * ts 5 Ev.cells l μ.E) * R) H := h1;refine bm (fun r => ym _ H) ?_;refine ak h2 ae rfl ?_;refine af h2 (J7 l μ.E hE) fun v H3 h3 => ?_;refine am ⟨v, rfl, ?_⟩
 have h4 : ac (bF m μ * (ts 5 Ev.cells v μ.E * R)) H3 := by
  refine ac.ex.2 ⟨(c, l, al, es, ck), ?_⟩;rw [ai, ac.pu];refine ⟨hp, ?_⟩;have h5 : ac (blk m (.cells false [.map (some c), l]) * (blk c (.map es ck) * ts 5 Ev.cells l μ.E) * (ts 5 Ev.cells v μ.E * R)) H3 := h3.to;exact h5
 exact h4.to
theorem aa5 {p : Nat} {g : PIds} {σ : aM} (hE : σ.μ.E.length ≤ 1000000) : Sp g7 [vp g.m] (aA p g σ) (fun v : Value => v) (fun v => ts 5 Ev.cells v σ.μ.E * aA p g σ) := by
 intro R H h;unfold aA at h;obtain ⟨x, H', h1, h2⟩ := Rh g.m σ.μ hE _ H (ac.fr (A := bF g.m σ.μ) h);refine ⟨x, H', h1, ?_⟩;unfold aA;exact h2.to
theorem Zq {x : Nat} {g : XIds} {σ : aM} {R : SP} {H : AH} (h : ac (au x g σ * R) H) : ∃ (kv vv ev : Value) (Z : SP), ac (blk g.m (.cells false [kv, vv, ev]) * (ts 5 Ev.cells ev σ.μ.E * (blk x (.cells false [vi σ.c.sh, vi σ.c.sl, vi σ.c.wk, vi σ.c.wd, vu σ.c.un, vp g.m, vp g.ib, vp g.tb, vp g.po, vp g.co, g.ov, g.rv, g.wv, g.pv]) * (Z * R)))) H ∧
 ∀ {R' : SP} {H' : AH}, ac (blk g.m (.cells false [kv, vv, ev]) * (ts 5 Ev.cells ev σ.μ.E * (blk x (.cells false [vi σ.c.sh, vi σ.c.sl, vi σ.c.wk, vi σ.c.wd, vu σ.c.un, vp g.m, vp g.ib, vp g.tb, vp g.po, vp g.co, g.ov, g.rv, g.wv, g.pv]) * (Z * R')))) H' → ac (au x g σ * R') H' := by
 unfold au at h
 have h1 : ac (bK g.m σ.μ * (blk x (.cells false [vi σ.c.sh, vi σ.c.sl, vi σ.c.wk, vi σ.c.wd, vu σ.c.un, vp g.m, vp g.ib, vp g.tb, vp g.po, vp g.co, g.ov, g.rv, g.wv, g.pv]) * ((gW g.ib g.m σ.c.sh σ.nx σ.μ.N * (tab g.tb g.m σ.c.sh.toNat σ.c.sl.toNat *
  (ts 3 uJ g.ov (σ.obs.map fun x => x.1) * (ts 1 nT g.rv g.rp * (jK g.m 0 (g.rp.zip (σ.obs.map fun x => x.2)) * (ts 1 cr g.wv (fP g.ws) * ts 7 Pt.cells g.pv (bV σ.pts))))))) * R))) H := h.to
 obtain ⟨al, h2⟩ := ac.ex.1 h1;rw [ai, ac.pu] at h2;obtain ⟨hp, h2⟩ := h2;obtain ⟨⟨kv, vv, ev⟩, h3⟩ := ac.ex.1 h2;dsimp only at h3
 refine ⟨kv, vv, ev, (ts 3 Kg kv al * ts 1 ND vv al) * (gW g.ib g.m σ.c.sh σ.nx σ.μ.N * (tab g.tb g.m σ.c.sh.toNat σ.c.sl.toNat *
  (ts 3 uJ g.ov (σ.obs.map fun x => x.1) * (ts 1 nT g.rv g.rp * (jK g.m 0 (g.rp.zip (σ.obs.map fun x => x.2)) * (ts 1 cr g.wv (fP g.ws) * ts 7 Pt.cells g.pv (bV σ.pts))))))), h3.to, fun {R' H'} h4 => ?_⟩
 unfold au
 have h5 : ac (bK g.m σ.μ * (blk x (.cells false [vi σ.c.sh, vi σ.c.sl, vi σ.c.wk, vi σ.c.wd, vu σ.c.un, vp g.m, vp g.ib, vp g.tb, vp g.po, vp g.co, g.ov, g.rv, g.wv, g.pv]) * ((gW g.ib g.m σ.c.sh σ.nx σ.μ.N * (tab g.tb g.m σ.c.sh.toNat σ.c.sl.toNat *
  (ts 3 uJ g.ov (σ.obs.map fun x => x.1) * (ts 1 nT g.rv g.rp * (jK g.m 0 (g.rp.zip (σ.obs.map fun x => x.2)) * (ts 1 cr g.wv (fP g.ws) * ts 7 Pt.cells g.pv (bV σ.pts))))))) * R'))) H' := by
  refine ac.ex.2 ⟨al, ?_⟩;rw [ai, ac.pu];refine ⟨hp, ac.ex.2 ⟨(kv, vv, ev), ?_⟩⟩;dsimp only;exact h4.to
 exact h5.to
theorem ajJ {w how n : Nat} (h : aP w how = some n) : n < 18446744073709551616 := by
 have := dZ w;unfold aP at h
 split at h
 ·split at h
  ·have := gD h; omega
  ·cases h
 ·split at h
  ·have := gD h; omega
  ·cases h
 ·split at h
  ·have := gD h; omega
  ·cases h
 ·cases h
structure SI (σ : aM) (k : Nat) : Prop where
 c : cQ σ.c = true
 N : σ.μ.N ≤ k
 E : σ.μ.E.length ≤ k
 pts : σ.pts.length ≤ k
 V : ∀ l, σ.μ.V l < 18446744073709551616
 obs : σ.obs.length ≤ k
 cells : ∀ o, o < σ.obs.length → 1 ≤ (az σ o).length ∧ (az σ o).length < 1000
 slot : ∀ s i, σ.μ.V (10, s, i) ≠ 0 → σ.μ.V (10, s, i) % 4294967296 < σ.obs.length
 head : ∀ o, σ.μ.V (12, o, 0) ≤ k
theorem SI.ok {σ : aM} {k : Nat} (h : SI σ k) (hk : k < 300000) : SOk σ :=
 ⟨h.c, by have := h.N; omega, by have := h.pts; omega, h.V, by have := h.obs; omega, h.cells, h.slot⟩
theorem SI.mono {σ : aM} {k k' : Nat} (h : SI σ k) (hk : k ≤ k') : SI σ k' :=
 ⟨h.c, eA h.N hk, eA h.E hk, eA h.pts hk, h.V, eA h.obs (by omega), h.cells, h.slot, fun o => eA (h.head o) hk⟩
theorem SI.acc {σ : aM} {k : Nat} (h : SI σ k) (who kd : Int) (l : cA) : SI (σ.mem (σ.μ.acc who kd l)) (k + 2) :=
 ⟨h.c, by have := h.N; show σ.μ.N + 2 ≤ _; omega, by have := h.E; show (σ.μ.E ++ [_]).length ≤ _; simp; omega, eA h.pts (by omega), h.V, eA h.obs (by omega), h.cells, h.slot, fun o => eA (h.head o) (by omega)⟩
theorem SI.put {σ : aM} {k : Nat} (h : SI σ k) (l : cA) (v : Nat) (hv : v < 18446744073709551616) (h1 : l.1 ≠ 10) (h2 : l.1 ≠ 12 ∨ v ≤ k) : SI (σ.mem (σ.μ.put l v)) k := by
 refine ⟨h.c, h.N, h.E, h.pts, fun x => ?_, h.obs, h.cells, fun s i => ?_, fun o => ?_⟩
 ·show (if x = l then v else σ.μ.V x) < _
  split
  ·exact hv
  ·exact h.V x
 ·show (if (10, s, i) = l then v else σ.μ.V (10, s, i)) ≠ 0 → (if (10, s, i) = l then v else σ.μ.V (10, s, i)) % _ < _
  rw [if_neg (fun e => h1 (by rw [← e]))];exact h.slot s i
 ·show (if (12, o, 0) = l then v else σ.μ.V (12, o, 0)) ≤ _
  split
  ·rename_i e
   rcases h2 with h2 | h2
   ·exact absurd (by rw [← e]) h2
   ·exact h2
  ·exact h.head o
theorem SI.swp {σ : aM} {k : Nat} (h : SI σ k) (who : Int) (l : cA) (was now : Nat) (hv : now < 18446744073709551616) (h1 : l.1 ≠ 10) (h2 : l.1 ≠ 12) : SI (σ.mem (σ.μ.swp who l was now)) (k + 2) := by
 have e : σ.μ.swp who l was now = (if σ.μ.V l = was then (σ.μ.acc who 3 l).put l now else σ.μ.acc who 4 l) := by
  show (⟨_, _, _⟩ : Mu) = _;unfold Mu.swap
  split <;> rfl
 rw [e]
 split
 ·exact (h.acc who 3 l).put l now hv h1 (.inl h2)
 ·exact h.acc who 4 l
theorem SI.turn {σ : aM} {k : Nat} (h : SI σ k) (who : Int) (o w how : Nat) : SI (σ.mem (σ.μ.turn who o w (aP w how))) (k + 2) := by
 cases e : aP w how with
 | none => exact h.mono (by omega)
 | some n => exact h.swp who (11, (o : Int), 0) w n (ajJ e) (by simp) (by simp)
theorem SI.cnt {σ : aM} {k : Nat} (h : SI σ k) (who : Int) (l : cA) (n : Nat) (h1 : l.1 ≠ 10) (h2 : l.1 ≠ 12) : SI (σ.mem (σ.μ.cnt who l n)) (k + 2) :=
 (h.acc who 3 l).put l _ (Nat.mod_lt _ (by omega)) h1 (.inl h2)
theorem SI.note {σ : aM} {k : Nat} (h : SI σ k) (step who e : Int) : SI (σ.note step who e) (k + 1) :=
 ⟨h.c, eA h.N (by omega), eA h.E (by omega), by have := h.pts; show (σ.pts ++ [_]).length ≤ _; simp; omega, h.V, eA h.obs (by omega), h.cells, h.slot, fun o => eA (h.head o) (by omega)⟩
theorem SI.link {σ : aM} {k : Nat} (h : SI σ k) (who : Int) (l : cA) (nx : Int → Option Nat) : SI { σ with μ := σ.μ.acc who 6 l, nx := nx } (k + 2) := by
 have := h.acc who 6 l;exact ⟨this.c, this.N, this.E, this.pts, this.V, this.obs, this.cells, this.slot, this.head⟩
theorem SI.begin {σ : aM} {k : Nat} (h : SI σ k) (who place : Int) : SI (σ.begin who place) (k + 1) :=
 ⟨h.c, by have := h.N; show σ.μ.N + 1 ≤ _; omega, eA h.E (by omega), eA h.pts (by omega), h.V, eA h.obs (by omega), h.cells, h.slot, fun o => eA (h.head o) (by omega)⟩
theorem SI.lay {σ : aM} {k : Nat} (h : SI σ k) (t : Tk) : SI (iv σ t) (k + 2) := by
 have ha := h.acc t.who 6 (16, (t.obj : Int), ((aG t.w % (az σ t.obj).length : Nat) : Int));rw [D3]
 have hl : (σ.obs.modify t.obj fun q => (q.1, (az σ t.obj).set (aG t.w % (az σ t.obj).length) (⟨t.x.flow, t.x.a, t.x.b⟩ : Pk))).length = σ.obs.length := by simp
 refine ⟨ha.c, ha.N, ha.E, ha.pts, ha.V, by rw [hl]; exact eA h.obs (by omega), fun o ho => ?_, fun s i hs => by show _ < List.length _; rw [hl]; exact h.slot s i hs, ha.head⟩
 have ho' : o < σ.obs.length := by
  have : o < (σ.obs.modify t.obj fun q => (q.1, (az σ t.obj).set (aG t.w % (az σ t.obj).length) (⟨t.x.flow, t.x.a, t.x.b⟩ : Pk))).length := ho
  rwa [hl] at this
 have hc := h.cells o ho';rw [w5 ho'] at hc
 have hx : ∀ z : Ob × List Pk, z.2.length = (σ.obs[o]).2.length → 1 ≤ z.2.length ∧ z.2.length < 1000 := fun z hz => by rw [hz]; exact hc
 unfold az;rw [List.getElem?_modify, cB ho'];refine hx (if t.obj = o then ((σ.obs[o]).1, (az σ t.obj).set (aG t.w % (az σ t.obj).length) ⟨t.x.flow, t.x.a, t.x.b⟩) else σ.obs[o]) ?_
 split
 ·rename_i e
  subst e;rw [w5 ho', N6]
 ·rfl
theorem ij.mono {σ σ' : aM} {t : Tk} (T : ij σ t) (hc : σ'.c = σ.c) (ho : σ'.obs.length = σ.obs.length) : ij σ' t :=
 ⟨fun h => by rw [ho]; exact T.obj h, by rw [hc]; exact T.s, by rw [hc]; exact T.i, T.w, T.c5, T.c0, T.ats⟩
abbrev Tk.new (c : i5) (who : Int) (x : Cl) : Tk := ⟨who, x, (x.flow.tmod c.sh + c.sh).tmod c.sh, 0, 0, 0, false, 0, 0, 0, 0, 0⟩
theorem ij.new {σ : aM} (hc : cQ σ.c = true) (who : Int) (x : Cl) : ij σ (Tk.new σ.c who x) := by
 have := bL.1 hc;exact ⟨fun h => by simp at h, rfl, fun _ _ => by simp; omega, by simp, fun h => by simp at h, fun h => by simp at h, .inl rfl⟩
theorem Vs (σ : aM) (t : Tk) : ((iv σ t).obs.map fun q => q.1) = σ.obs.map fun q => q.1 := by
 unfold iv;apply List.ext_getElem?;intro j;simp only [An, List.getElem?_modify]
 cases σ.obs[j]? with
 | none => rfl
 | some q =>
  show some (if t.obj = j then _ else q).1 = some q.1
  split <;> rfl
structure Kept (σ : aM) (t : Tk) (r : aM × Tk × Bool) (k : Nat) : Prop where
 si : SI r.1 (k + 3)
 c : r.1.c = σ.c
 obs : r.1.obs.length = σ.obs.length
 hd : (r.1.obs.map fun q => q.1) = σ.obs.map fun q => q.1
 pts : r.1.pts.length ≤ σ.pts.length + 1
 who : r.2.1.who = t.who
 x : r.2.1.x = t.x
 ok : r.2.2 = false → ij r.1 r.2.1
theorem JG {σ : aM} {t : Tk} {k : Nat} (h : SI σ k) (T : ij σ t) (hat : t.at' = 0 ∨ t.at' = 2) : Kept σ t (gA σ t) k := by
 refine ⟨(h.acc _ _ _).mono (by omega), rfl, rfl, rfl, Nat.le_succ _, rfl, rfl, fun _ => ?_⟩;have hi := T.i (by omega) (by omega);refine ⟨fun hh => ?_, T.s, fun h1 h2 => ?_, T.w, fun hh => ?_, fun hh => ?_, ?_⟩
 ·show (aL σ t).obj < σ.obs.length
  have hf : (aL σ t).found = true := by
   cases hf : (aL σ t).found with
   | true => rfl
   | false =>
    have hh' : 6 ≤ (if (aL σ t).found = true then 6 else if cn σ (aL σ t) = true then 3 else 2 : Nat) ∨ (if (aL σ t).found = true then 6 else if cn σ (aL σ t) = true then 3 else 2 : Nat) = 5 ∧ _ := hh;rw [hf, if_neg (by simp)] at hh'
    rcases hh' with q | q
    ·split at q <;> omega
    ·have q := q.1
     split at q <;> omega
  have hf' : qn (σ.μ.V (10, t.s, (t.i : Int))) t.x.flow = true := hf;have e : (aL σ t).obj = σ.μ.V (10, t.s, (t.i : Int)) % 4294967296 := if_pos hf';rw [e];have hv := (of_decide_eq_true hf').1;exact h.slot _ _ hv
 ·have h1 : (if (aL σ t).found = true then 6 else if cn σ (aL σ t) = true then 3 else 2 : Nat) < 5 := h1
  have h2 : (if (aL σ t).found = true then 6 else if cn σ (aL σ t) = true then 3 else 2 : Nat) ≠ 3 := h2
  have hl : ¬ cn σ (aL σ t) = true := by
   intro hl;rw [if_pos hl] at h1 h2
   split at h1
   ·omega
   ·rename_i hn
    rw [if_neg hn] at h2;exact h2 rfl
  have : ¬ (σ.c.sl ≤ ((t.i + 1 : Nat) : Int)) := fun q => hl (eu q);show ((t.i + 1 : Nat) : Int) < σ.c.sl;omega
 ·have hh : (if (aL σ t).found = true then 6 else if cn σ (aL σ t) = true then 3 else 2 : Nat) = 5 := hh
  split at hh
  ·omega
  ·split at hh <;> omega
 ·have hh : (if (aL σ t).found = true then 6 else if cn σ (aL σ t) = true then 3 else 2 : Nat) = 10 ∨ (if (aL σ t).found = true then 6 else if cn σ (aL σ t) = true then 3 else 2 : Nat) = 11 ∨ (if (aL σ t).found = true then 6 else if cn σ (aL σ t) = true then 3 else 2 : Nat) = 14 ∨ 21 ≤ (if (aL σ t).found = true then 6 else if cn σ (aL σ t) = true then 3 else 2 : Nat) := hh
  split at hh
  ·omega
  ·split at hh <;> omega
 ·show (if (aL σ t).found = true then 6 else if cn σ (aL σ t) = true then 3 else 2 : Nat) = 0 ∨ _
  simp only [gA]
  split
  ·simp
  ·split <;> simp
theorem Z7 {σ : aM} {t : Tk} {k : Nat} (now : Int) (hk : k < 300000) (h : SI σ k) (T : ij σ t) : Kept σ t (ap σ t now) k := by
 rcases T.ats with hat | hat | hat | hat | hat | hat | hat | hat | hat | hat | hat | hat | hat | hat | hat | hat | hat | hat | hat | hat | hat | hat | hat | hat
 ·-- 0
  cases hx : fy t.x with
  | some e =>
   have hs : ap σ t now = (σ.note now t.who e, { t with code := e }, true) := by simp only [ap, hat, hx]
   rw [hs];exact ⟨(h.note _ _ _).mono (by omega), rfl, rfl, rfl, (by simp [aM.note]), rfl, rfl, fun h => by simp at h⟩
  | none =>
   have hs : ap σ t now = gA σ t := by simp only [ap, hat, hx, gA]
   rw [hs];exact JG h T (.inl hat)
 ·-- 2
  have hs : ap σ t now = gA σ t := by simp only [ap, hat, gA]
  rw [hs];exact JG h T (.inr hat)
 ·-- 3
  by_cases hw : σ.μ.V (8, t.s, 0) = 0
  ·have hs : ap σ t now = (σ.mem (σ.μ.swp t.who (8, t.s, 0) 0 1), { t with at' := 4, i := 0 }, false) := by simp only [ap, hat]; rw [if_pos hw]
   rw [hs];exact ⟨(h.swp _ _ _ _ (by omega) (by simp) (by simp)).mono (by omega), rfl, rfl, rfl, Nat.le_succ _, rfl, rfl, fun _ => ⟨fun _ => (by rename_i hh; simp at hh), T.s, (fun _ _ => by have := bL.1 h.c; show ((0 : Nat) : Int) < σ.c.sl; omega), T.w, (fun h => by simp at h), (fun h => by simp at h), (by simp)⟩⟩
  ·have hs : ap σ t now = (σ.mem (σ.μ.swp t.who (8, t.s, 0) 0 1), t, false) := by simp only [ap, hat]; rw [if_neg hw]
   rw [hs];exact ⟨(h.swp _ _ _ _ (by omega) (by simp) (by simp)).mono (by omega), rfl, rfl, rfl, Nat.le_succ _, rfl, rfl, fun _ => T.mono rfl rfl⟩
 ·-- 4
  have hi := T.i (by omega) (by omega)
  cases hf : (aL σ t).found with
  | true =>
   have hs : ap σ t now = (aY σ t, { aL σ t with at' := 5 }, false) := by simp only [ap, hat, hf]; rfl
   rw [hs];have hf' : qn (σ.μ.V (10, t.s, (t.i : Int))) t.x.flow = true := hf;have e : (aL σ t).obj = σ.μ.V (10, t.s, (t.i : Int)) % 4294967296 := if_pos hf'
   have ho : (aL σ t).obj < σ.obs.length := by rw [e]; exact h.slot _ _ (of_decide_eq_true hf').1
   exact ⟨(h.acc _ _ _).mono (by omega), rfl, rfl, rfl, Nat.le_succ _, rfl, rfl, fun _ => ⟨fun _ => ho, T.s, (fun h1 h2 => by simp at h1), T.w, (fun _ h2 => by rw [show (aL σ t).found = false from h2] at hf; cases hf), (fun h => by simp at h), (by simp)⟩⟩
  | false =>
   cases hla : cn σ (aL σ t) with
   | true =>
    have hs : ap σ t now = ((aY σ t).note now t.who 5, { aL σ t with at' := 5, code := 5 }, false) := by simp only [ap, hat, hf, hla]; rfl
    rw [hs];exact ⟨((h.acc _ _ _).note _ _ _).mono (by omega), rfl, rfl, rfl, (by simp [aM.note]), rfl, rfl, fun _ => ⟨fun _ => (by rename_i hh; rw [show (aL σ t).found = false from hf] at hh; simp at hh), T.s, (fun h1 h2 => by simp at h1), T.w, (fun _ _ => rfl), (fun h => by simp at h), (by simp)⟩⟩
   | false =>
    have hs : ap σ t now = (aY σ t, aL σ t, false) := by simp only [ap, hat, hf, hla]; rfl
    rw [hs]
    have hl : ¬ (σ.c.sl ≤ ((t.i + 1 : Nat) : Int)) := fun q => by rw [show cn σ (aL σ t) = true from eu q] at hla; cases hla
    have ea : (aL σ t).at' = 4 := hat;exact ⟨(h.acc _ _ _).mono (by omega), rfl, rfl, rfl, Nat.le_succ _, rfl, rfl, fun _ => ⟨fun _ => (by rename_i hh; rw [ea] at hh; simp at hh), T.s, (fun _ _ => by show ((t.i + 1 : Nat) : Int) < σ.c.sl; omega), T.w, (fun h => by rw [ea] at h; simp at h), (fun h => by rw [ea] at h; simp at h), (by rw [ea]; simp)⟩⟩
 ·-- 5
  cases hf : t.found with
  | false =>
   have hs : ap σ t now = (σ.mem ((σ.μ.acc t.who 2 (8, t.s, 0)).put (8, t.s, 0) 0), { t with at' := 6 }, true) := by simp only [ap, hat, hf]; rfl
   rw [hs];exact ⟨((h.acc _ _ _).put _ _ (by omega) (by simp) (.inl (by simp))).mono (by omega), rfl, rfl, rfl, Nat.le_succ _, rfl, rfl, fun h => by simp at h⟩
  | true =>
   have hs : ap σ t now = (σ.mem ((σ.μ.acc t.who 2 (8, t.s, 0)).put (8, t.s, 0) 0), { t with at' := 6 }, false) := by simp only [ap, hat, hf]; rfl
   rw [hs];exact ⟨((h.acc _ _ _).put _ _ (by omega) (by simp) (.inl (by simp))).mono (by omega), rfl, rfl, rfl, Nat.le_succ _, rfl, rfl, fun _ => ⟨fun _ => T.obj (.inr ⟨hat, hf⟩), T.s, (fun h1 h2 => by simp at h1), T.w, (fun h => by simp at h), (fun h => by simp at h), (by simp)⟩⟩
 ·-- 6
  have hs : ap σ t now = (σ.mem (σ.μ.acc t.who 5 (13, (t.obj : Int), 0)), { t with at' := 7 }, false) := by simp only [ap, hat]
  rw [hs];exact ⟨(h.acc _ _ _).mono (by omega), rfl, rfl, rfl, Nat.le_succ _, rfl, rfl, fun _ => ⟨fun _ => T.obj (.inl (by omega)), T.s, (fun h1 h2 => by simp at h1), T.w, (fun h => by simp at h), (fun h => by simp at h), (by simp)⟩⟩
 ·-- 7
  by_cases hw : aN (σ.μ.V (11, (t.obj : Int), 0)) = 2
  ·have hs : ap σ t now = (dg σ t, { t with w := σ.μ.V (11, (t.obj : Int), 0), at' := 3 }, false) := by simp only [ap, hat]; rw [if_pos hw]
   rw [hs];exact ⟨(h.acc _ _ _).mono (by omega), rfl, rfl, rfl, Nat.le_succ _, rfl, rfl, fun _ => ⟨fun _ => (by rename_i hh; simp at hh), T.s, (fun _ h2 => by simp at h2), h.V _, (fun h => by simp at h), (fun h => by simp at h), (by simp)⟩⟩
  ·have hs : ap σ t now = (dg σ t, { t with w := σ.μ.V (11, (t.obj : Int), 0), at' := 8 }, false) := by simp only [ap, hat]; rw [if_neg hw]
   rw [hs];exact ⟨(h.acc _ _ _).mono (by omega), rfl, rfl, rfl, Nat.le_succ _, rfl, rfl, fun _ => ⟨fun _ => T.obj (.inl (by omega)), T.s, (fun h1 h2 => by simp at h1), h.V _, (fun h => by simp at h), (fun h => by simp at h), (by simp)⟩⟩
 ·-- 8
  cases hf : jU σ t with
  | true =>
   have hs : ap σ t now = (jo σ t, { t with at' := 15 }, false) := by simp only [ap, hat, hf]; rfl
   rw [hs];exact ⟨(h.acc _ _ _).mono (by omega), rfl, rfl, rfl, Nat.le_succ _, rfl, rfl, fun _ => ⟨fun _ => T.obj (.inl (by omega)), T.s, (fun h1 h2 => by simp at h1), T.w, (fun h => by simp at h), (fun h => by simp at h), (by simp)⟩⟩
  | false =>
   by_cases hw : aN t.w = 1
   ·have hs : ap σ t now = (jo σ t, { t with at' := 9 }, false) := by simp only [ap, hat, hf]; rw [if_pos hw]; rfl
    rw [hs];exact ⟨(h.acc _ _ _).mono (by omega), rfl, rfl, rfl, Nat.le_succ _, rfl, rfl, fun _ => ⟨fun _ => T.obj (.inl (by omega)), T.s, (fun h1 h2 => by simp at h1), T.w, (fun h => by simp at h), (fun h => by simp at h), (by simp)⟩⟩
   ·have hs : ap σ t now = (jo σ t, { t with at' := 12 }, false) := by simp only [ap, hat, hf]; rw [if_neg hw]; rfl
    rw [hs];exact ⟨(h.acc _ _ _).mono (by omega), rfl, rfl, rfl, Nat.le_succ _, rfl, rfl, fun _ => ⟨fun _ => T.obj (.inl (by omega)), T.s, (fun h1 h2 => by simp at h1), T.w, (fun h => by simp at h), (fun h => by simp at h), (by simp)⟩⟩
 ·-- 9
  cases hw : dT σ.μ t.obj t.w (aP t.w 0) with
  | true =>
   have hs : ap σ t now = ((σ.mem (σ.μ.turn t.who t.obj t.w (aP t.w 0))).note now t.who 0, { t with at' := 10, code := 0 }, false) := by simp only [ap, hat, hw]; rfl
   rw [hs];exact ⟨((h.turn _ _ _ _).note _ _ _).mono (by omega), rfl, rfl, rfl, (by simp [aM.note]), rfl, rfl, fun _ => ⟨fun _ => T.obj (.inl (by omega)), T.s, (fun h1 h2 => by simp at h1), T.w, (fun h => by simp at h), (fun _ => rfl), (by simp)⟩⟩
  | false =>
   have hs : ap σ t now = (σ.mem (σ.μ.turn t.who t.obj t.w (aP t.w 0)), { t with at' := 7 }, false) := by simp only [ap, hat, hw]; rfl
   rw [hs];exact ⟨(h.turn _ _ _ _).mono (by omega), rfl, rfl, rfl, Nat.le_succ _, rfl, rfl, fun _ => ⟨fun _ => T.obj (.inl (by omega)), T.s, (fun h1 h2 => by simp at h1), T.w, (fun h => by simp at h), (fun h => by simp at h), (by simp)⟩⟩
 ·-- 10
  have hs : ap σ t now = (iv σ t, { t with at' := 11 }, false) := by simp only [ap, hat]
  rw [hs];exact ⟨(h.lay t).mono (by omega), rfl, jq σ t, Vs σ t, Nat.le_succ _, rfl, rfl, fun _ => (by have := jq σ t; exact ⟨fun _ => (by rw [this]; exact T.obj (.inl (by omega))), T.s, (fun h1 h2 => by simp at h1), T.w, (fun h => by simp at h), (fun _ => T.c0 (by omega)), (by simp)⟩)⟩
 ·-- 11
  have hs : ap σ t now = (B1 σ t, t, true) := by simp only [ap, hat]
  rw [hs];exact ⟨((h.acc _ _ _).put _ _ (by have := dZ t.w; omega) (by simp) (.inl (by simp))).mono (by omega), rfl, rfl, rfl, Nat.le_succ _, rfl, rfl, fun h => by simp at h⟩
 ·-- 12
  have hs : ap σ t now = (σ.mem (σ.μ.cnt t.who (3, 0, 0) 4294967296), { t with at' := 13 }, false) := by simp only [ap, hat]
  rw [hs];exact ⟨(h.cnt _ _ _ (by simp) (by simp)).mono (by omega), rfl, rfl, rfl, Nat.le_succ _, rfl, rfl, fun _ => ⟨fun _ => T.obj (.inl (by omega)), T.s, (fun h1 h2 => by simp at h1), T.w, (fun h => by simp at h), (fun h => by simp at h), (by simp)⟩⟩
 ·-- 13
  cases hw : dT σ.μ t.obj t.w (aP t.w 0) with
  | true =>
   have hs : ap σ t now = ((σ.mem (σ.μ.turn t.who t.obj t.w (aP t.w 0))).note now t.who 0, { t with at' := 14, code := 0 }, false) := by simp only [ap, hat, hw]; rfl
   rw [hs];exact ⟨((h.turn _ _ _ _).note _ _ _).mono (by omega), rfl, rfl, rfl, (by simp [aM.note]), rfl, rfl, fun _ => ⟨fun _ => T.obj (.inl (by omega)), T.s, (fun h1 h2 => by simp at h1), T.w, (fun h => by simp at h), (fun _ => rfl), (by simp)⟩⟩
  | false =>
   have hs : ap σ t now = (σ.mem (σ.μ.turn t.who t.obj t.w (aP t.w 0)), { t with at' := 20 }, false) := by simp only [ap, hat, hw]; rfl
   rw [hs];exact ⟨(h.turn _ _ _ _).mono (by omega), rfl, rfl, rfl, Nat.le_succ _, rfl, rfl, fun _ => ⟨fun _ => T.obj (.inl (by omega)), T.s, (fun h1 h2 => by simp at h1), T.w, (fun h => by simp at h), (fun h => by simp at h), (by simp)⟩⟩
 ·-- 14
  have hs : ap σ t now = (iv σ t, { t with at' := 21 }, false) := by simp only [ap, hat]
  rw [hs];exact ⟨(h.lay t).mono (by omega), rfl, jq σ t, Vs σ t, Nat.le_succ _, rfl, rfl, fun _ => (by have := jq σ t; exact ⟨fun _ => (by rw [this]; exact T.obj (.inl (by omega))), T.s, (fun h1 h2 => by simp at h1), T.w, (fun h => by simp at h), (fun _ => T.c0 (by omega)), (by simp)⟩)⟩
 ·-- 15
  by_cases hw : σ.μ.V (2, 0, 0) % 2 = 1
  ·have hs : ap σ t now = (eD σ t, { t with q := σ.μ.V (2, 0, 0), at' := 7 }, false) := by simp only [ap, hat]; rw [if_pos hw]
   rw [hs];exact ⟨(h.acc _ _ _).mono (by omega), rfl, rfl, rfl, Nat.le_succ _, rfl, rfl, fun _ => ⟨fun _ => T.obj (.inl (by omega)), T.s, (fun h1 h2 => by simp at h1), T.w, (fun h => by simp at h), (fun h => by simp at h), (by simp)⟩⟩
  ·have hs : ap σ t now = (eD σ t, { t with q := σ.μ.V (2, 0, 0), at' := 16 }, false) := by simp only [ap, hat]; rw [if_neg hw]
   rw [hs];exact ⟨(h.acc _ _ _).mono (by omega), rfl, rfl, rfl, Nat.le_succ _, rfl, rfl, fun _ => ⟨fun _ => T.obj (.inl (by omega)), T.s, (fun h1 h2 => by simp at h1), T.w, (fun h => by simp at h), (fun h => by simp at h), (by simp)⟩⟩
 ·-- 16
  by_cases hw : aN (σ.μ.V (11, (t.obj : Int), 0)) = 2
  ·have hs : ap σ t now = (dg σ t, { t with w := σ.μ.V (11, (t.obj : Int), 0), at' := 3 }, false) := by simp only [ap, hat]; rw [if_pos hw]
   rw [hs];exact ⟨(h.acc _ _ _).mono (by omega), rfl, rfl, rfl, Nat.le_succ _, rfl, rfl, fun _ => ⟨fun _ => (by rename_i hh; simp at hh), T.s, (fun _ h2 => by simp at h2), h.V _, (fun h => by simp at h), (fun h => by simp at h), (by simp)⟩⟩
  ·have hs : ap σ t now = (dg σ t, { t with w := σ.μ.V (11, (t.obj : Int), 0), at' := 17 }, false) := by simp only [ap, hat]; rw [if_neg hw]
   rw [hs];exact ⟨(h.acc _ _ _).mono (by omega), rfl, rfl, rfl, Nat.le_succ _, rfl, rfl, fun _ => ⟨fun _ => T.obj (.inl (by omega)), T.s, (fun h1 h2 => by simp at h1), h.V _, (fun h => by simp at h), (fun h => by simp at h), (by simp)⟩⟩
 ·-- 17
  cases hf : jU σ t with
  | true =>
   have hs : ap σ t now = (jo σ t, { t with at' := 18, mark := now }, false) := by simp only [ap, hat, hf]; rfl
   rw [hs];exact ⟨(h.acc _ _ _).mono (by omega), rfl, rfl, rfl, Nat.le_succ _, rfl, rfl, fun _ => ⟨fun _ => T.obj (.inl (by omega)), T.s, (fun h1 h2 => by simp at h1), T.w, (fun h => by simp at h), (fun h => by simp at h), (by simp)⟩⟩
  | false =>
   have hs : ap σ t now = (jo σ t, { t with at' := 7 }, false) := by simp only [ap, hat, hf]; rfl
   rw [hs];exact ⟨(h.acc _ _ _).mono (by omega), rfl, rfl, rfl, Nat.le_succ _, rfl, rfl, fun _ => ⟨fun _ => T.obj (.inl (by omega)), T.s, (fun h1 h2 => by simp at h1), T.w, (fun h => by simp at h), (fun h => by simp at h), (by simp)⟩⟩
 ·-- 18
  by_cases hw : σ.μ.V (2, 0, 0) = t.q
  ·have hs : ap σ t now = ((eD σ t).note t.mark t.who 9, { t with code := 9 }, true) := by simp only [ap, hat]; rw [if_pos hw]
   rw [hs];exact ⟨((h.acc _ _ _).note _ _ _).mono (by omega), rfl, rfl, rfl, (by simp [aM.note]), rfl, rfl, fun h => by simp at h⟩
  ·have hs : ap σ t now = (eD σ t, { t with at' := 7 }, false) := by simp only [ap, hat]; rw [if_neg hw]
   rw [hs];exact ⟨(h.acc _ _ _).mono (by omega), rfl, rfl, rfl, Nat.le_succ _, rfl, rfl, fun _ => ⟨fun _ => T.obj (.inl (by omega)), T.s, (fun h1 h2 => by simp at h1), T.w, (fun h => by simp at h), (fun h => by simp at h), (by simp)⟩⟩
 ·-- 20
  have hs : ap σ t now = (σ.mem (σ.μ.cnt t.who (3, 0, 0) 1), { t with at' := 7 }, false) := by simp only [ap, hat]
  rw [hs];exact ⟨(h.cnt _ _ _ (by simp) (by simp)).mono (by omega), rfl, rfl, rfl, Nat.le_succ _, rfl, rfl, fun _ => ⟨fun _ => T.obj (.inl (by omega)), T.s, (fun h1 h2 => by simp at h1), T.w, (fun h => by simp at h), (fun h => by simp at h), (by simp)⟩⟩
 ·-- 21
  have hs : ap σ t now = (B1 σ t, { t with at' := 22 }, false) := by simp only [ap, hat]
  rw [hs];exact ⟨((h.acc _ _ _).put _ _ (by have := dZ t.w; omega) (by simp) (.inl (by simp))).mono (by omega), rfl, rfl, rfl, Nat.le_succ _, rfl, rfl, fun _ => ⟨fun _ => T.obj (.inl (by omega)), T.s, (fun h1 h2 => by simp at h1), T.w, (fun h => by simp at h), (fun _ => T.c0 (by omega)), (by simp)⟩⟩
 ·-- 22
  have hs : ap σ t now = (σ.mem (σ.μ.acc t.who 1 (9, t.s, 0)), { t with top := σ.μ.V (9, t.s, 0), at' := 23 }, false) := by simp only [ap, hat]
  rw [hs];exact ⟨(h.acc _ _ _).mono (by omega), rfl, rfl, rfl, Nat.le_succ _, rfl, rfl, fun _ => ⟨fun _ => T.obj (.inl (by omega)), T.s, (fun h1 h2 => by simp at h1), T.w, (fun h => by simp at h), (fun _ => T.c0 (by omega)), (by simp)⟩⟩
 ·-- 23
  have hs : ap σ t now = ({ σ with μ := σ.μ.acc t.who 6 (14, (t.obj : Int), 0), nx := fun k => if k = (t.obj : Int) then some t.top else σ.nx k }, { t with at' := 24 }, false) := by simp only [ap, hat]
  rw [hs];exact ⟨(h.link _ _ _).mono (by omega), rfl, rfl, rfl, Nat.le_succ _, rfl, rfl, fun _ => ⟨fun _ => T.obj (.inl (by omega)), T.s, (fun h1 h2 => by simp at h1), T.w, (fun h => by simp at h), (fun _ => T.c0 (by omega)), (by simp)⟩⟩
 ·-- 24
  by_cases hw : σ.μ.V (9, t.s, 0) = t.top
  ·have hs : ap σ t now = (σ.mem (σ.μ.swp t.who (9, t.s, 0) t.top (t.obj + 1)), { t with at' := 25 }, false) := by simp only [ap, hat]; rw [if_pos hw]
   rw [hs];exact ⟨(h.swp _ _ _ _ (by have := T.obj (.inl (by omega)); have := h.obs; omega) (by simp) (by simp)).mono (by omega), rfl, rfl, rfl, Nat.le_succ _, rfl, rfl, fun _ => ⟨fun _ => T.obj (.inl (by omega)), T.s, (fun h1 h2 => by simp at h1), T.w, (fun h => by simp at h), (fun _ => T.c0 (by omega)), (by simp)⟩⟩
  ·have hs : ap σ t now = (σ.mem (σ.μ.swp t.who (9, t.s, 0) t.top (t.obj + 1)), { t with at' := 22 }, false) := by simp only [ap, hat]; rw [if_neg hw]
   rw [hs];exact ⟨(h.swp _ _ _ _ (by have := T.obj (.inl (by omega)); have := h.obs; omega) (by simp) (by simp)).mono (by omega), rfl, rfl, rfl, Nat.le_succ _, rfl, rfl, fun _ => ⟨fun _ => T.obj (.inl (by omega)), T.s, (fun h1 h2 => by simp at h1), T.w, (fun h => by simp at h), (fun _ => T.c0 (by omega)), (by simp)⟩⟩
 ·-- 25
  have hs : ap σ t now = (σ.mem (σ.μ.cnt t.who (3, 0, 0) 1), t, true) := by simp only [ap, hat]
  rw [hs];exact ⟨(h.cnt _ _ _ (by simp) (by simp)).mono (by omega), rfl, rfl, rfl, Nat.le_succ _, rfl, rfl, fun h => by simp at h⟩
theorem P7 {α : Type} (F : α → SP) (R : SP) : (ex fun x => F x * R) = ex F * R := by
 apply SP.ext;intro h
 constructor
 ·rintro ⟨x, a, b, hd, rfl, ha, hb⟩
  exact ⟨a, b, hd, rfl, ⟨x, ha⟩, hb⟩
 ·rintro ⟨a, b, hd, rfl, ⟨x, ha⟩, hb⟩
  exact ⟨x, a, b, hd, rfl, ha, hb⟩
def eT (e p : Nat) (rp : List Nat) (t : Tk) : SP := ex fun v : Value => pu (MI rp t v) * eB e p (fj e (CO t.at')) v t
def xT (x P : Nat) (t : Tk) : SP := ex fun k : Xk => pu (iA t k) * xB x P t k
theorem acF (e p : Nat) (rp : List Nat) (σ : aM) (t : Tk) : eP e p rp σ t = eT e p rp t * bd p rp σ := by
 unfold eP eT;rw [← P7]
 congr 1
 funext v
 rw [ai]
theorem ar4 (x P : Nat) (σ : aM) (t : Tk) : xP x P σ t = xT x P t * aJ P σ := by
 unfold xP xT;rw [← P7]
 congr 1
 funext v
 rw [ai]
def xU (x P : Nat) (r : aM × Tk × Bool) : SP := ex fun k : Xk => pu (if r.2.2 = true then k.code = r.2.1.code else iA r.2.1 k) * xB x P r.2.1 k
theorem ar5 (x P : Nat) (r : aM × Tk × Bool) : xQ x P r = xU x P r * aJ P r.1 := by
 unfold xQ xU;rw [← P7]
 congr 1
 funext v
 rw [ai]
def eU (e p : Nat) (rp : List Nat) (r : aM × Tk × Bool) : SP := if r.2.2 = true then emp else eT e p rp r.2.1
theorem arI (e p : Nat) (rp : List Nat) (r : aM × Tk × Bool) : eQ e p rp r = eU e p rp r * bd p rp r.1 := by
 unfold eQ eU
 split
 ·rw [ft]
 ·rw [acF]
theorem ar6 {x P : Nat} {r : aM × Tk × Bool} (h : r.2.2 = false) : xU x P r = xT x P r.2.1 := by
 unfold xU xT;simp only [h]
 rfl
section
variable (p x : Nat) (rp : List Nat) (σ : aM)
theorem acG (hc : cQ σ.c = true) (who : Int) (c : Cl) : Sp At [vp p, vi who, .agg (Cl.cells c).toArray] (bd p rp σ) (fun e : Nat => vp e) (fun e => eT e p rp (Tk.new σ.c who c) * bd p rp σ) := by
 have hr := bL.1 hc;refine bh (P4 _ _ _) fun R H h => ?_;refine ba h fun b H1 h1 => ?_;refine aZ h1 ?_;obtain ⟨g, hrp, hg, k1⟩ := dz (p := p) (rp := rp) (σ := σ) (R := blk b (.cells false (Cl.cells c)) * R) (H := H1) h1.to;refine ak k1 ae rfl ?_;refine ak k1 aD rfl ?_;refine af k1 (JZ (p := p) (g := g) (σ := σ) (B3 g.tb g.m σ.c.sh.toNat σ.c.sl.toNat (by omega) c.flow)) fun _ H2 k2 => ?_;refine dX k2 k1 rfl ?_
 have es : vi ((c.flow.tmod (σ.c.sh.toNat : Int) + (σ.c.sh.toNat : Int)).tmod (σ.c.sh.toNat : Int)) = vi (Tk.new σ.c who c).s := by rw [show ((σ.c.sh.toNat : Nat) : Int) = σ.c.sh from by omega]
 rw [es];have h2 := bB (p := p) (rp := rp) (σ := σ) (R := blk b (.cells false (Cl.cells c)) * R) (H := H2) g hrp hg k2.to;refine jc ?_;refine ba h2 fun e H3 h3 => ?_;refine bk h3 ae rfl rfl fun H4 h4 => ?_;refine am ⟨e, rfl, ?_⟩;rw [← acF];exact NB (v := .pointer none) (n := ne) (iR (by simp)) rfl h4.to
theorem Oy (who : Int) (c : Cl) (s : Int) : Sp kH [vp x, vi who, .agg (Cl.cells c).toArray] emp (fun b : Nat => vp b) (fun b => xT b x (Tk.new σ.c who c)) := by
 refine bh (s8 _ _ _) fun R H h => ?_;refine ba h fun b H1 h1 => ?_;refine aZ h1 ?_;refine jc ?_;refine ba h1 fun xb H2 h2 => ?_;refine am ⟨xb, rfl, ?_⟩;refine ac.ex.2 ⟨⟨0, 0, -1, false, 0, 0, 0, 0, 0, 0, 0⟩, ?_⟩;rw [ai, ac.pu];exact ⟨by simp [iA], h2.to⟩
theorem Rv (who place : Int) (hN : σ.μ.N < 1000000) : Sp kf [.agg [vp p, vp x].toArray, vi who, vi place] (bd p rp σ * aJ x σ) (fun _ : Unit => .tuple #[]) (fun _ => bd p rp (σ.begin who place) * aJ x (σ.begin who place)) := by
 refine bh (xW _ _ _) fun R H h => ?_;refine ba (l := [vp p, vp x]) h fun b H1 h1 => ?_;refine ak h1 aD rfl ?_;refine af h1 (ao7 p rp σ who place) fun _ H2 h2 => ?_;refine ak h2 aD rfl ?_;refine af h2 (aqQ x σ who place (by omega)) fun _ H3 h3 => ?_;exact am ⟨(), rfl, h3.to⟩
end
def HQ (f : Value → Value → Bool) : List Value → List Value → Bool
 | [], [] => true
 | x :: xs, y :: ys => f x y && HQ f xs ys
 | _, _ => false
def eqV : Nat → Value → Value → Bool
 | _, .bool a, .bool b => a == b
 | _, .int k a, .int k' b => decide (k = k') && decide (a = b)
 | _, .string a, .string b => decide (a = b)
 | _, .pointer a, .pointer b => decide (a = b)
 | _, .slice a n e, .slice a' n' e' => decide (a = a') && decide (n = n') && decide (e = e')
 | _, .map a, .map b => decide (a = b)
 | _, .nilFunc, .nilFunc => true
 | _, .nilIface, .nilIface => true
 | n + 1, .agg xs, .agg ys => HQ (eqV n) xs.toList ys.toList
 | n + 1, .tuple xs, .tuple ys => HQ (eqV n) xs.toList ys.toList
 | n + 1, .func f xs zs, .func f' ys ws => decide (f = f') && HQ (eqV n) xs.toList ys.toList && HQ (eqV n) zs.toList ws.toList
 | _, _, _ => false
theorem E0 {f : Value → Value → Bool} (hf : ∀ x y, f x y = true → x = y) : ∀ xs ys, HQ f xs ys = true → xs = ys := by
 intro xs
 induction xs with
 | nil => intro ys h; cases ys with | nil => rfl | cons y ys => simp [HQ] at h
 | cons x xs ih =>
  intro ys h
  cases ys with
  | nil => simp [HQ] at h
  | cons y ys =>
   simp only [HQ, Bool.and_eq_true] at h;rw [hf _ _ h.1, ih _ h.2]
theorem IO : ∀ (n : Nat) (x y : Value), eqV n x y = true → x = y := by
 intro n
 induction n with
 | zero =>
  intro x y h
  cases x <;> cases y <;> simp_all [eqV]
 | succ n ih =>
  have hl := E0 ih;intro x y h
  cases x <;> cases y <;> simp_all [eqV]
  ·exact ⟨Array.toList_inj.1 (hl _ _ h.1.2), Array.toList_inj.1 (hl _ _ h.2)⟩
  ·exact Array.toList_inj.1 (hl _ _ h)
  ·exact Array.toList_inj.1 (hl _ _ h)
def eqO : Option Value → Option Value → Bool
 | none, none => true
 | some x, some y => eqV 4 x y
 | _, _ => false
theorem W5 {x y : Option Value} (h : eqO x y = true) : x = y := by
 cases x <;> cases y <;> simp_all [eqO]
 exact IO _ _ _ h
section
variable (g d : Nat)
def DC (b : Nat) : Nat := if b < g then b else b + d
def B0 (a : Addr) : Addr := { a with block := DC g d a.block }
def bR : Value → Value
 | .pointer a => .pointer (a.map (B0 g d))
 | .slice a n e => .slice (a.map (B0 g d)) n e
 | .map r => .map (r.map (DC g d))
 | .func fn f c => .func fn (f.map bR) (c.map bR)
 | .iface t v => .iface t (bR v)
 | .agg cs => .agg (cs.map bR)
 | .tuple cs => .tuple (cs.map bR)
 | v => v
end
abbrev im (g d : Nat) (l : List Value) : List Value := l.map (bR g d)
section
variable {g d : Nat}
theorem V6 {a b : Nat} (h : DC g d a = DC g d b) : a = b := by unfold DC at h; split at h <;> split at h <;> omega
@[simp] theorem V7 (b : Bool) : (bR g d) (.bool b) = .bool b := by rw [bR] <;> simp
@[simp] theorem Bh (k : IntKind) (n : Int) : (bR g d) (.int k n) = .int k n := by rw [bR] <;> simp
@[simp] theorem arX (k : FloatKind) (n : Nat) : (bR g d) (.float k n) = .float k n := by rw [bR] <;> simp
@[simp] theorem ap9 (k : FloatKind) (n m : Nat) : (bR g d) (.complex k n m) = .complex k n m := by rw [bR] <;> simp
@[simp] theorem JI (b : ByteArray) : (bR g d) (.string b) = .string b := by rw [bR] <;> simp
@[simp] theorem asD (r : Option Nat) : (bR g d) (.chan r) = .chan r := by rw [bR] <;> simp
@[simp] theorem aqA : (bR g d) .nilFunc = .nilFunc := by rw [bR] <;> simp
@[simp] theorem aoO : (bR g d) .nilIface = .nilIface := by rw [bR] <;> simp
@[simp] theorem Sh (a : Option Addr) : (bR g d) (.pointer a) = .pointer (a.map (B0 g d)) := by rw [bR]
@[simp] theorem gP (a : Option Addr) (n e : Nat) : (bR g d) (.slice a n e) = .slice (a.map (B0 g d)) n e := by rw [bR]
@[simp] theorem MK (r : Option Nat) : (bR g d) (.map r) = .map (r.map (DC g d)) := by rw [bR]
@[simp] theorem arY (t : TypeId) (v : Value) : (bR g d) (.iface t v) = .iface t ((bR g d) v) := by rw [bR]
@[simp] theorem asE (fn : Fn) (f c : Array Value) : (bR g d) (.func fn f c) = .func fn (f.map (bR g d)) (c.map (bR g d)) := by rw [bR]
@[simp] theorem Sc (cs : Array Value) : (bR g d) (.agg cs) = .agg (cs.map (bR g d)) := by rw [bR]
@[simp] theorem aiW (cs : Array Value) : (bR g d) (.tuple cs) = .tuple (cs.map (bR g d)) := by rw [bR]
@[simp] theorem tj : (bR g d) undef = undef := by simp [undef]
theorem aiQ {v : Value} (h : dq v = true) : (bR g d) v = v := by
 unfold dq at h
 split at h <;> first | (simp; done) | cases h
theorem zz {l : List Value} (h : l.all dq = true) : im g d l = l := by
 induction l with
 | nil => rfl
 | cons x l ih => simp only [List.all_cons, Bool.and_eq_true] at h; simp only [im, List.map_cons, aiQ h.1]; rw [show List.map (bR g d) l = l from ih h.2]
theorem OM {v : Value} (h : zS v = true) : (bR g d) v = v := by
 unfold zS at h
 split at h
 ·rename_i cs
  rw [Sc]; congr 1; exact Array.toList_inj.1 (by rw [Array.toList_map]; exact zz h)
 ·rename_i cs
  rw [aiW]; congr 1; exact Array.toList_inj.1 (by rw [Array.toList_map]; exact zz h)
 ·exact aiQ h
theorem G4 (v : Value) : ((bR g d) v).cells = v.cells.map (bR g d) := by
 cases v <;> simp [Value.cells]
theorem ZZ (v : Value) : ((bR g d) v).cells.toList = im g d v.cells.toList := by rw [G4, Array.toList_map]
theorem aqB (v : Value) : Value.oneCell' ((bR g d) v) = Value.oneCell' v := by
 cases v <;> simp [Value.oneCell']
theorem V8 (l : List Value) : (im g d l).all Value.oneCell' = l.all Value.oneCell' := by
 simp only [im, List.all_map]; congr 1; funext v; exact aqB v
theorem ML (v : Value) : uU ((bR g d) v) = (uU v).map fun a => (DC g d a.1, a.2) := by
 cases v with
 | pointer a =>
  cases a with
  | none => simp [uU]
  | some a =>
   obtain ⟨b, o, sp⟩ := a
   cases sp <;> simp [uU, B0]
 | _ => simp [uU]
theorem aiV (c a b : Value) : aK ((bR g d) c) ((bR g d) a) ((bR g d) b) = (aK c a b).map (bR g d) := by
 cases c with
 | bool t => cases t <;> simp [aK]
 | _ => simp [aK]
theorem anD (v : Value) : vT ((bR g d) v) = (vT v).map (bR g d) := by
 cases v with
 | pointer a => cases a <;> simp [vT]
 | func fn f c => cases fn <;> simp [vT]
 | _ => simp [vT]
theorem am8 (off : Nat) (v : Value) : Ia off ((bR g d) v) = (Ia off v).map (bR g d) := by
 unfold Ia;rw [ML]
 cases uU v <;> simp [B0]
theorem aiU (n : Option Nat) (off : Nat) (v : Value) : lP n off ((bR g d) v) = (lP n off v).map (bR g d) := by
 cases v with
 | agg cs => cases n <;> simp [lP]
 | _ => simp [lP]
theorem am9 (e : Nat) (v i : Value) : pL e ((bR g d) v) ((bR g d) i) = (pL e v i).map (bR g d) := by
 cases v with
 | slice a n k =>
  cases a with
  | none => simp [pL]
  | some a =>
   obtain ⟨b, o, sp⟩ := a
   cases sp with
   | none =>
    cases i with
    | int k i => simp only [gP, Bh, fp, B0, pL]; split <;> simp [B0]
    | _ => simp [pL, B0]
   | some sp => simp [pL, B0]
 | _ => simp [pL]
theorem aiT (len e : Nat) (v i : Value) : jb len e ((bR g d) v) ((bR g d) i) = (jb len e v i).map (bR g d) := by
 cases v with
 | pointer a =>
  cases a with
  | none => simp [jb]
  | some a =>
   obtain ⟨b, o, sp⟩ := a
   cases sp with
   | none =>
    cases i with
    | int k i => simp only [Sh, Bh, fp, B0, jb]; split <;> simp [B0]
    | _ => simp [jb, B0]
   | some sp => simp [jb, B0]
 | _ => simp [jb]
theorem Sf (len : Nat) (n : Option Nat) (e : Nat) (v i : Value) : jE len n e ((bR g d) v) ((bR g d) i) = (jE len n e v i).map (bR g d) := by
 cases v with
 | agg cs =>
  cases i with
  | int k i =>
   simp only [Sc, Bh, jE]
   split
   ·cases n <;> simp
   ·rfl
  | _ => simp [jE]
 | _ => simp [jE]
theorem Se (v i : Value) : jD ((bR g d) v) ((bR g d) i) = (jD v i).map (bR g d) := by
 cases v with
 | string b =>
  cases i with
  | int k i =>
   simp only [JI, Bh, jD]
   split
   ·rw [Option.map_map]; congr 1; funext x; simp
   ·rfl
  | _ => simp [jD]
 | _ => simp [jD]
theorem anA (v : Value) : rD ((bR g d) v) = (rD v).map (bR g d) := by cases v <;> simp [rD]
theorem anB (l : List Value) : gk (im g d l) = (gk l).map (bR g d) := by
 match l with
 | [] => rfl
 | [x] => simp [im, gk]
 | [x, y] => cases x <;> cases y <;> simp [im, gk]
 | x :: y :: z :: l => simp [im, gk]
theorem anC (l : List Value) : jS (im g d l) = (jS l).map (bR g d) := by
 match l with
 | [] => rfl
 | [x] => simp [im, jS]
 | [x, y] => cases x <;> cases y <;> simp [im, jS]
 | x :: y :: z :: l => simp [im, jS]
theorem G5 : ∀ xs ys : List Value, bM (im g d xs) (im g d ys) = bM xs ys := by
 intro xs
 induction xs with
 | nil => intro ys; cases ys <;> simp [im, bM]
 | cons x xs ih =>
  intro ys
  cases ys with
  | nil => cases x <;> simp [im, bM]
  | cons y ys =>
   have := ih ys;simp only [im] at this
   cases x <;> cases y <;> simp [im, bM, this]
theorem aqC (cl : TCls) (x y : Value) : qy cl ((bR g d) x) ((bR g d) y) = qy cl x y := by
 cases cl with
 | flat n =>
  cases x with
  | agg a =>
   cases y with
   | agg b =>
    simp only [Sc, qy, Array.size_map, Array.toList_map];rw [show bM (List.map (bR g d) a.toList) (List.map (bR g d) b.toList) = bM a.toList b.toList from G5 _ _]
   | _ => simp [qy]
  | _ => cases y <;> simp [qy]
 | bool => cases x <;> cases y <;> simp [qy]
 | ptr => cases x <;> cases y <;> simp [qy] <;> (rename_i a b; cases a <;> cases b <;> simp [qy])
 | slice => cases x <;> cases y <;> simp [qy] <;> (rename_i a _ _ b _ _; cases a <;> cases b <;> simp [qy])
 | map => cases x <;> cases y <;> simp [qy] <;> (rename_i a b; cases a <;> cases b <;> simp [qy])
 | func => cases x <;> cases y <;> simp [qy]
 | other => cases x <;> cases y <;> simp [qy]
theorem amW {op : BinOp} {k : IntKind} {a b : Int} : (nP op k a b).map (bR g d) = nP op k a b := by
 cases op <;> simp [nP] <;> (split <;> simp)
theorem Zo {op : BinOp} {k : IntKind} {a b : Int} : (nA op k a b).map (bR g d) = nA op k a b := by
 unfold nA
 split
 ·rfl
 ·cases op <;> simp
theorem amY {op : BinOp} {a b : ByteArray} : (ahK op a b).map (bR g d) = ahK op a b := by
 cases op <;> simp [ahK]
theorem aiS (cl : TCls) (op : BinOp) (x y : Value) : Jo cl op ((bR g d) x) ((bR g d) y) = (Jo cl op x y).map (bR g d) := by
 cases op <;> simp only [Jo, aqC, Option.map_map, Option.map_none] <;> (congr 1; funext b; simp)
theorem am7 (cl : TCls) (op : BinOp) (x y : Value) : aj cl op ((bR g d) x) ((bR g d) y) = (aj cl op x y).map (bR g d) := by
 have key := aiS (g := g) (d := d) cl op x y
 cases x with
 | int k a =>
  cases y with
  | int k' b => cases op <;> simp only [Bh, aj, Zo] <;> (split <;> simp [amW])
  | _ => simpa [aj] using key
 | string a =>
  cases y with
  | string b => simp [aj, amY]
  | _ => simpa [aj] using key
 | _ => simpa [aj] using key
theorem aqD (op : UnOp) (x : Value) : pM op ((bR g d) x) = (pM op x).map (bR g d) := by cases op <;> cases x <;> simp [pM]
theorem aiR (k : Option IntKind) (x : Value) : cL k ((bR g d) x) = (cL k x).map (bR g d) := by cases k <;> cases x <;> simp [cL]
theorem ON (v : Value) (i : Nat) : ag ((bR g d) v) i = (ag v i).map (bR g d) := by cases v <;> simp [ag]
theorem G8 (v : Value) : oq ((bR g d) v) = oq v := by cases v <;> simp [oq]
end
inductive Tr (α : Type) where
 | lf
 | nd (v : Option α) (l r : Tr α)
section
variable {α : Type}
def Tr.get : Tr α → Nat → Option α
 | .lf, _ => none
 | .nd v l r, i => match i with
  | 0 => v
  | i + 1 => match Nat.beq (i % 2) 0 with
   | true => l.get (i / 2)
   | false => r.get (i / 2)
def Tr.set (x : α) : Nat → Tr α → Nat → Option (Tr α)
 | 0, _, _ => none
 | k + 1, t, i => match i with
  | 0 => match t with
   | .lf => some (.nd (some x) .lf .lf)
   | .nd _ l r => some (.nd (some x) l r)
  | i + 1 => match Nat.beq (i % 2) 0 with
   | true => match t with
    | .lf => (Tr.set x k .lf (i / 2)).map fun l' => .nd none l' .lf
    | .nd v l r => (Tr.set x k l (i / 2)).map fun l' => .nd v l' r
   | false => match t with
    | .lf => (Tr.set x k .lf (i / 2)).map fun r' => .nd none .lf r'
    | .nd v l r => (Tr.set x k r (i / 2)).map fun r' => .nd v l r'
theorem Tr.get_set {x : α} : ∀ (k : Nat) {t t' : Tr α} {i : Nat}, Tr.set x k t i = some t' → ∀ j, t'.get j = if j = i then some x else t.get j := by
 intro k
 induction k with
 | zero => intro t t' i h; cases h
 | succ k ih =>
  intro t t' i h j
  cases i with
  | zero =>
   cases t with
   | lf => simp only [Tr.set] at h; cases h; cases j with
    | zero => rfl
    | succ j => simp only [Tr.get]; split <;> simp [Tr.get]
   | nd v l r => simp only [Tr.set] at h; cases h; cases j with
    | zero => rfl
    | succ j => simp [Tr.get]
  | succ i =>
   simp only [Tr.set] at h
   have beq : ∀ a : Nat, Nat.beq a 0 = (a == 0) := fun a => by cases a <;> simp [Nat.beq]
   have lf : ∀ j, (Tr.lf : Tr α).get j = none := fun j => by cases j <;> rfl
   cases hb : Nat.beq (i % 2) 0 with
   | true =>
    have hi : i % 2 = 0 := by rw [beq] at hb; simpa using hb
    rw [hb] at h;simp only at h
    have key : ∃ v l r l', Tr.set x k l (i / 2) = some l' ∧ t' = .nd v l' r ∧ ∀ j, t.get j = (Tr.nd v l r).get j := by
     cases t with
     | lf => obtain ⟨l', h1, e⟩ := bj.1 h; exact ⟨none, .lf, .lf, l', h1, e.symm, fun j => by rw [lf]; cases j with | zero => rfl | succ j => simp only [Tr.get]; split <;> rfl⟩
     | nd v l r => obtain ⟨l', h1, e⟩ := bj.1 h; exact ⟨v, l, r, l', h1, e.symm, fun j => rfl⟩
    obtain ⟨v, l, r, l', h1, rfl, hg⟩ := key;rw [hg]
    cases j with
    | zero => rfl
    | succ j =>
     simp only [Tr.get]
     cases hj : Nat.beq (j % 2) 0 with
     | true =>
      have hj' : j % 2 = 0 := by rw [beq] at hj; simpa using hj
      simp only;rw [ih h1]
      by_cases e : j / 2 = i / 2
      ·rw [if_pos e, if_pos (by omega)]
      ·rw [if_neg e, if_neg (by omega)]
     | false =>
      have hj' : j % 2 ≠ 0 := by rw [beq] at hj; simpa using hj
      simp only;rw [if_neg (by omega)]
   | false =>
    have hi : i % 2 ≠ 0 := by rw [beq] at hb; simpa using hb
    rw [hb] at h;simp only at h
    have key : ∃ v l r r', Tr.set x k r (i / 2) = some r' ∧ t' = .nd v l r' ∧ ∀ j, t.get j = (Tr.nd v l r).get j := by
     cases t with
     | lf => obtain ⟨l', h1, e⟩ := bj.1 h; exact ⟨none, .lf, .lf, l', h1, e.symm, fun j => by rw [lf]; cases j with | zero => rfl | succ j => simp only [Tr.get]; split <;> rfl⟩
     | nd v l r => obtain ⟨l', h1, e⟩ := bj.1 h; exact ⟨v, l, r, l', h1, e.symm, fun j => rfl⟩
    obtain ⟨v, l, r, l', h1, rfl, hg⟩ := key;rw [hg]
    cases j with
    | zero => rfl
    | succ j =>
     simp only [Tr.get]
     cases hj : Nat.beq (j % 2) 0 with
     | false =>
      have hj' : j % 2 ≠ 0 := by rw [beq] at hj; simpa using hj
      simp only;rw [ih h1]
      by_cases e : j / 2 = i / 2
      ·rw [if_pos e, if_pos (by omega)]
      ·rw [if_neg e, if_neg (by omega)]
     | true =>
      have hj' : j % 2 = 0 := by rw [beq] at hj; simpa using hj
      simp only;rw [if_neg (by omega)]
end
structure EH where
 n : Nat
 t : Tr AObj
def EH.get (E : EH) (b : Nat) : Option AObj := E.t.get b
def EH.set (E : EH) (b : Nat) (o : AObj) : Option EH := (Tr.set o 24 E.t b).map fun t => ⟨E.n, t⟩
def EH.push (E : EH) (o : AObj) : Option EH := (Tr.set o 24 E.t E.n).map fun t => ⟨E.n + 1, t⟩
section
variable (g d : Nat)
def OL (e : MapEntry) : MapEntry := { e with key := bR g d e.key, val := bR g d e.val }
def Po : AObj → AObj
 | .cells ro cs => .cells ro (im g d cs)
 | .map es c => .map (es.map (OL g d)) c
 | .dead => .dead
structure HR (F : List AObj) (E : EH) (H : AH) : Prop where
 len : F.length = d
 le : g ≤ E.n
 size : H.size = E.n + d
 get : ∀ b, H.get (DC g d b) = (E.get b).map (Po g d)
 out : ∀ b, E.n ≤ b → E.get b = none
 fr : ∀ b, g ≤ b → b < g + d → H.get b = F[b - g]?
end
section
variable {g d : Nat} {F : List AObj} {E E' : EH} {H : AH}
theorem HR.lt (h : HR g d F E H) {b : Nat} {o : AObj} (hb : E.get b = some o) : b < E.n := by
 rcases Nat.lt_or_ge b E.n with h1 | h1
 ·exact h1
 ·rw [h.out b h1] at hb; cases hb
theorem HR.new (h : HR g d F E H) : H.size = DC g d E.n := by
 unfold DC; rw [if_neg (by have := h.le; omega)]; exact h.size
theorem HR.shlt (h : HR g d F E H) {b : Nat} (hb : b < E.n) : DC g d b < H.size := by
 rw [h.size]; unfold DC; split <;> omega
theorem HR.set (h : HR g d F E H) {b : Nat} {o : AObj} (hb : b < E.n) (hs : E.set b o = some E') : HR g d F E' (H.set (DC g d b) (Po g d o)) := by
 obtain ⟨t, ht, rfl⟩ := bj.1 hs;have hg := Tr.get_set 24 ht;refine ⟨h.len, h.le, by rw [AH.size_set]; exact h.size, fun j => ?_, fun j hj => ?_, fun j h1 h2 => ?_⟩
 ·show _ = (t.get j).map _
  rw [hg j, AH.get_set]
  by_cases e : j = b
  ·subst e; rw [if_pos rfl, if_pos rfl, if_pos (h.shlt hb)]; rfl
  ·rw [if_neg (fun x => e (V6 x)), if_neg e]; exact h.get j
 ·show t.get j = none
  rw [hg j, if_neg (by have : E.n ≤ j := hj; omega)]; exact h.out j hj
 ·rw [AH.get_set_ne (by unfold DC; split <;> omega)]; exact h.fr j h1 h2
theorem HR.push (h : HR g d F E H) {o : AObj} (hs : E.push o = some E') : HR g d F E' (H.push (Po g d o)) := by
 obtain ⟨t, ht, rfl⟩ := bj.1 hs;have hg := Tr.get_set 24 ht;have hle := h.le;have hsz := h.size;refine ⟨h.len, by show g ≤ E.n + 1; omega, by rw [AH.size_push, hsz]; show _ = E.n + 1 + d; omega, fun j => ?_, fun j hj => ?_, fun j h1 h2 => ?_⟩
 ·show _ = (t.get j).map _
  rw [hg j, AH.get_push, h.new]
  by_cases e : j = E.n
  ·subst e; rw [if_pos rfl, if_pos rfl]; rfl
  ·rw [if_neg (fun x => e (V6 x)), if_neg e]; exact h.get j
 ·show t.get j = none
  have : E.n + 1 ≤ j := hj;rw [hg j, if_neg (by omega)]; exact h.out j (by omega)
 ·rw [AH.get_push_old (by omega)]; exact h.fr j h1 h2
end
section
variable {g d : Nat}
theorem JH (cs : List Value) (o : Nat) (xs : List Value) : splice (im g d cs) o (im g d xs) = im g d (splice cs o xs) := by
 simp [splice, im, List.map_take, List.map_drop]
theorem G7 (places : Nat → Option (Nat × Nat)) : ∀ (parts : List (Nat × Value)) (zero : List Value), dp places (im g d zero) (parts.map fun p => (p.1, (bR g d) p.2)) = (dp places zero parts).map (im g d) := by
 intro parts
 induction parts with
 | nil => intro zero; rfl
 | cons p parts ih =>
  intro zero;obtain ⟨i, v⟩ := p;simp only [List.map_cons, dp]
  cases places i with
  | none => rfl
  | some q =>
   simp only [bJ];rw [G4, Array.size_map, Array.toList_map, show (im g d zero).length = zero.length from us _]
   split
   ·rw [show List.map (bR g d) v.cells.toList = im g d v.cells.toList from rfl, JH]; exact ih _
   ·rfl
theorem Z0 (e : Nat) (x : Value) (lo hi : Option Value) : fO e ((bR g d) x) (lo.map (bR g d)) (hi.map (bR g d)) = (fO e x lo hi).map (bR g d) := by
 cases x with
 | slice a n e' =>
  have key : ∀ L R : Option Int, (L.bind fun l => R.bind fun h =>
   if 0 ≤ l ∧ l ≤ h ∧ h ≤ n then
    match a.map (B0 g d) with
    | none => if n = 0 ∧ e' = 0 then some (.slice none 0 0) else none
    | some ⟨b, o, none⟩ => if e' = e ∧ 0 < e then some (.slice (some ⟨b, o + l.toNat * e, none⟩) (h.toNat - l.toNat) e) else none
    | _ => none
   else none : Option Value) = (L.bind fun l => R.bind fun h =>
   if 0 ≤ l ∧ l ≤ h ∧ h ≤ n then
    match a with
    | none => if n = 0 ∧ e' = 0 then some (.slice none 0 0) else none
    | some ⟨b, o, none⟩ => if e' = e ∧ 0 < e then some (.slice (some ⟨b, o + l.toNat * e, none⟩) (h.toNat - l.toNat) e) else none
    | _ => none
   else none : Option Value).map (bR g d) := by
   intro L R
   cases L with
   | none => rfl
   | some l =>
    cases R with
    | none => rfl
    | some r =>
     simp only [bJ]
     split
     ·cases a with
      | none => simp only [Option.map_none]; split <;> simp
      | some a =>
       obtain ⟨b, o, sp⟩ := a
       cases sp with
       | none => simp only [fp, B0]; split <;> simp [B0]
       | some sp => simp [B0]
     ·rfl
  cases lo with
  | none =>
   cases hi with
   | none => simp only [gP, fO, Option.map_none]; exact key (some 0) (some n)
   | some h => simp only [gP, fO, fp, G8]; exact key (some 0) (oq h)
  | some l =>
   cases hi with
   | none => simp only [gP, fO, fp, G8]; exact key (oq l) (some n)
   | some h => simp only [gP, fO, fp, G8]; exact key (oq l) (oq h)
 | _ => simp [fO]
theorem Sg {x hi mx v : Value} (h : jF x hi mx = some v) : jF ((bR g d) x) ((bR g d) hi) ((bR g d) mx) = some ((bR g d) v) := by
 unfold jF at h
 split at h
 ·cases h; simp [jF]
 ·cases h; simp [jF, B0]
 ·cases h
theorem aiO (v : Value) : sw ((bR g d) v) = sw v := by cases v <;> simp [sw]
theorem G6 (cl : KCls) (k : Value) : i8 cl ((bR g d) k) = i8 cl k := by
 cases cl <;> cases k <;> simp [i8]
 rename_i n cs
 congr 2
 funext v; exact aiO v
theorem aiP (cl : KCls) (a b : Value) : lh cl ((bR g d) a) ((bR g d) b) = lh cl a b := by
 cases cl with
 | flat n =>
  cases a <;> cases b <;> simp [lh]
  rename_i x y
  rw [show bM (List.map (bR g d) x.toList) (List.map (bR g d) y.toList) = bM x.toList y.toList from G5 _ _]
 | int => cases a <;> cases b <;> simp [lh]
 | string => cases a <;> cases b <;> simp [lh]
theorem wE (cl : KCls) (k : Value) : ∀ (es : List MapEntry) (i : Nat), bu cl ((bR g d) k) (es.map (OL g d)) i = (bu cl k es i).map fun r => r.map fun p => (p.1, (bR g d) p.2) := by
 intro es
 induction es with
 | nil => intro i; rfl
 | cons e es ih =>
  intro i;simp only [List.map_cons, bu, OL, aiP]
  cases lh cl k e.key with
  | none => rfl
  | some b =>
   simp only [bJ]
   cases b with
   | true => simp
   | false => simp only [Bool.false_eq_true, if_false]; exact ih _
theorem Sd (v : Value) (args : List Value) : di ((bR g d) v) (im g d args) = (di v args).map fun r => (r.1, im g d r.2) := by
 cases v with
 | func fn f c => cases fn <;> simp [di, im]
 | _ => simp [di]
end
def rP (E : EH) (b : Nat) : Option (List Value) :=
 match E.get b with
 | some (.cells _ cs) => some cs
 | _ => none
def acC (v : Value) (E : EH) : Option Value := (uU v).bind fun a => (rP E a.1).bind fun cs => cs[a.2]?
def acD (n : Nat) (v : Value) (E : EH) : Option Value :=
 (uU v).bind fun a => (rP E a.1).bind fun cs => if a.2 + n ≤ cs.length then some (.agg ((cs.drop a.2).take n).toArray) else none
def eSt (n : Nat) (v x : Value) (E : EH) : Option EH :=
 (uU v).bind fun a => match E.get a.1 with
  | some (.cells false cs) => if x.cells.size = n ∧ a.2 + n ≤ cs.length ∧ x.cells.toList.all Value.oneCell' = true then E.set a.1 (.cells false (splice cs a.2 x.cells.toList)) else none
  | _ => none
def apG (cs : List Value) (E : EH) : Option (Value × EH) := (E.push (.cells false cs)).map fun E' => (.pointer (some ⟨E.n, 0, none⟩), E')
def IN (n e : Nat) (cs : List Value) (E : EH) : Option (Value × EH) := (E.push (.cells false cs)).map fun E' => (.slice (some ⟨E.n, 0, none⟩) n e, E')
def IM (v : Value) (E : EH) : Option Value :=
 match v with
 | .map none => some (.int .i64 0)
 | .map (some b) => match E.get b with
  | some (.map es _) => some (.int .i64 es.length)
  | _ => none
 | _ => none
def WZ (e : Nat) (x : Value) (E : EH) : Option (Nat × List Value) :=
 match x with
 | .slice none n _ => if n = 0 then some (0, []) else none
 | .slice (some ⟨b, o, none⟩) m _ => if m = 0 then some (0, []) else (rP E b).bind fun cs => if o + m * e ≤ cs.length then some (m, (cs.drop o).take (m * e)) else none
 | _ => none
def apE (e bytes : Nat) (s x : Value) (E : EH) : Option (Value × EH) :=
 (WZ e x E).bind fun r =>
  if r.2.all Value.oneCell' = true ∧ 0 < e then
   match s with
   | .slice none n k => if n = 0 ∧ k = 0 then (if r.1 = 0 then some (.slice none 0 0, E) else if r.1 * bytes ≤ room ∧ r.1 ≤ room then IN r.1 e r.2 E else none) else none
   | .slice (some ⟨b, o, none⟩) n e' =>
    if r.1 = 0 then some (s, E)
    else if e' = 0 then (if n = 0 ∧ r.1 * bytes ≤ room ∧ r.1 ≤ room then IN r.1 e r.2 E else none)
    else match E.get b with
     | some (.cells false cs) =>
      if e' = e ∧ o + n * e ≤ cs.length ∧ (n + r.1) * bytes ≤ room ∧ n + r.1 ≤ room then (E.set b .dead).bind fun E1 => IN (n + r.1) e ((cs.drop o).take (n * e) ++ r.2) E1 else none
     | _ => none
   | _ => none
  else none
def acE (zero : List Value) (e bytes : Nat) (len cap : Value) (E : EH) : Option (Value × EH) :=
 match len, cap with
 | .int _ l, .int _ c => if 0 ≤ l ∧ l = c ∧ l.toNat * bytes ≤ room ∧ l.toNat ≤ room ∧ 0 < e ∧ zero.length = e then
  IN l.toNat e (List.replicate l.toNat zero).flatten E else none
 | _, _ => none
def zV (v : Value) (E : EH) : Option (List MapEntry × Nat) :=
 match v with
 | .map none => some ([], 0)
 | .map (some b) => match E.get b with
  | some (.map es c) => some (es, c)
  | _ => none
 | _ => none
def DI (fl : KCls) (zero : Value) (m k : Value) (ok : Bool) (E : EH) : Option Value :=
 if i8 fl k = true then (zV m E).bind fun es => (bu fl k es.1 0).map fun r => match r with
  | some (_, v) => if ok then .tuple #[v, .bool true] else v
  | none => if ok then .tuple #[zero, .bool false] else zero
 else none
def Kf (fl : KCls) (m k x : Value) (E : EH) : Option EH :=
 if i8 fl k = true then match m with
 | .map (some b) => match E.get b with
  | some (.map es c) => (bu fl k es 0).bind fun r => match r with
   | some (i, _) => E.set b (.map (es.modify i fun e => { e with key := k, val := x }) c)
   | none => E.set b (.map (es ++ [{ key := k, val := x, born := c }]) (c + 1))
  | _ => none
 | _ => none
 else none
def J9 (fl : KCls) (m k : Value) (E : EH) : Option EH :=
 if i8 fl k = true then match m with
 | .map (some b) => match E.get b with
  | some (.map es c) => (bu fl k es 0).bind fun r => match r with
   | some (i, _) => E.set b (.map (es.eraseIdx i) c)
   | none => E.set b (.map es c)
  | _ => none
 | _ => none
 else none
def eM (g d : Nat) (F : List AObj) (x : Option (Value × EH)) (y : Option (Value × AH)) : Prop := ∀ v E', x = some (v, E') → ∃ H', y = some (bR g d v, H') ∧ HR g d F E' H'
def akJ (g d : Nat) (F : List AObj) (x : Option EH) (y : Option AH) : Prop := ∀ E', x = some E' → ∃ H', y = some H' ∧ HR g d F E' H'
section
variable {g d : Nat} {F : List AObj} {E E' : EH} {H : AH}
theorem HR.cells (h : HR g d F E H) (b : Nat) : ei H (DC g d b) = (rP E b).map (im g d) := by
 unfold ei rP;rw [h.get b]
 cases E.get b with
 | none => rfl
 | some o => cases o <;> rfl
theorem HR.ld1 (h : HR g d F E H) (v : Value) : aq ((bR g d) v) H = (acC v E).map (bR g d) := by
 unfold aq acC;rw [ML]
 cases uU v with
 | none => rfl
 | some a =>
  simp only [fp, bJ, h.cells]
  cases rP E a.1 <;> simp [im]
theorem HR.ldN (h : HR g d F E H) (n : Nat) (v : Value) : ax n ((bR g d) v) H = (acD n v E).map (bR g d) := by
 unfold ax acD;rw [ML]
 cases uU v with
 | none => rfl
 | some a =>
  simp only [fp, bJ, h.cells]
  cases rP E a.1 with
  | none => rfl
  | some cs =>
   simp only [fp, bJ, im, us]
   split
   ·simp [List.map_take, List.map_drop]
   ·rfl
theorem HR.st (h : HR g d F E H) (n : Nat) (v x : Value) : akJ g d F (eSt n v x E) (cH n ((bR g d) v) ((bR g d) x) H) := by
 intro E' he;unfold eSt at he;unfold cH;rw [ML];obtain ⟨a, ha, he⟩ := aH.1 he;rw [ha];simp only [fp, bJ, h.get]
 split at he
 ·rename_i cs hcs
  split at he
  ·rename_i hc
   rw [hcs];simp only [fp, Po]
   rw [G4, Array.size_map, Array.toList_map, show (im g d cs).length = cs.length from us _, show (List.map (bR g d) x.cells.toList).all Value.oneCell' = x.cells.toList.all Value.oneCell' from V8 _, if_pos hc,
    show splice (im g d cs) a.2 (List.map (bR g d) x.cells.toList) = im g d (splice cs a.2 x.cells.toList) from JH _ _ _]
   exact ⟨_, rfl, h.set (h.lt hcs) he⟩
  ·cases he
 ·cases he
theorem HR.new' (h : HR g d F E H) (cs : List Value) : eM g d F (apG cs E) (some (amX (im g d cs) H)) := by
 intro v E' he;obtain ⟨E1, h1, e⟩ := bj.1 he;cases e;exact ⟨H.push (Po g d (.cells false cs)), by simp [amX, h.new, B0, Po], h.push h1⟩
theorem HR.rowP (h : HR g d F E H) (n e : Nat) (cs : List Value) : eM g d F (IN n e cs E) (some (.slice (some ⟨H.size, 0, none⟩) n e, H.push (.cells false (im g d cs)))) := by
 intro v E' he;obtain ⟨E1, h1, e⟩ := bj.1 he;cases e;exact ⟨H.push (Po g d (.cells false cs)), by simp [h.new, B0, Po], h.push h1⟩
theorem HR.lenM (h : HR g d F E H) (v : Value) : ot ((bR g d) v) H = (IM v E).map (bR g d) := by
 cases v with
 | map r =>
  cases r with
  | none => simp [ot, IM]
  | some b =>
   simp only [MK, fp, ot, IM, h.get]
   cases E.get b with
   | none => rfl
   | some o => cases o <;> simp [Po]
 | _ => simp [ot, IM]
theorem HR.row (h : HR g d F E H) (e : Nat) (x : Value) : mf e ((bR g d) x) H = (WZ e x E).map fun r => (r.1, im g d r.2) := by
 cases x with
 | slice a n k =>
  cases a with
  | none => simp only [gP, Option.map_none, mf, WZ]; split <;> rfl
  | some a =>
   obtain ⟨b, o, sp⟩ := a
   cases sp with
   | some sp => simp [mf, WZ, B0]
   | none =>
    simp only [gP, fp, B0, mf, WZ, h.cells]
    split
    ·rfl
    ·cases rP E b with
     | none => rfl
     | some cs =>
      simp only [fp, bJ, im, us]
      split
      ·simp [List.map_take, List.map_drop]
      ·rfl
 | _ => simp [mf, WZ]
theorem HR.mapOf (h : HR g d F E H) (v : Value) : ks ((bR g d) v) H = (zV v E).map fun r => (r.1.map (OL g d), r.2) := by
 cases v with
 | map r =>
  cases r with
  | none => simp [ks, zV]
  | some b =>
   simp only [MK, fp, ks, zV, h.get]
   cases E.get b with
   | none => rfl
   | some o => cases o <;> simp [Po]
 | _ => simp [ks, zV]
theorem HR.lookup (h : HR g d F E H) (fl : KCls) {zero : Value} (hz : (bR g d) zero = zero) (m k : Value) (ok : Bool) : cZ fl zero ((bR g d) m) ((bR g d) k) ok H = (DI fl zero m k ok E).map (bR g d) := by
 unfold cZ DI;rw [G6]
 split
 ·rw [h.mapOf]
  cases zV m E with
  | none => rfl
  | some es =>
   simp only [fp, bJ, wE]
   cases bu fl k es.1 0 with
   | none => rfl
   | some r =>
    cases r with
    | none => cases ok <;> simp [hz]
    | some p => cases ok <;> simp
 ·rfl
theorem HR.update (h : HR g d F E H) (fl : KCls) (m k x : Value) : akJ g d F (Kf fl m k x E) (e8 fl ((bR g d) m) ((bR g d) k) ((bR g d) x) H) := by
 intro E' he;unfold Kf at he
 split at he
 ·rename_i hk
  split at he
  ·rename_i b
   split at he
   ·rename_i es c hb
    obtain ⟨r, hr, he⟩ := aH.1 he
    have hg : H.get (DC g d b) = some (.map (es.map (OL g d)) c) := by rw [h.get, hb]; rfl
    have hf := wE (g := g) (d := d) fl k es 0;rw [hr] at hf;simp only [MK, fp, e8, G6, hk, if_true, hg]
    cases r with
    | some p =>
     have hf : bu fl ((bR g d) k) (es.map (OL g d)) 0 = some (some (p.1, (bR g d) p.2)) := hf;rw [hf];refine ⟨_, rfl, ?_⟩;have := h.set (h.lt hb) he;simp only [Po] at this;show HR g d F E' (H.set (DC g d b) (.map ((es.map (OL g d)).modify p.1 fun e => { e with key := (bR g d) k, val := (bR g d) x }) c));rw [show (es.map (OL g d)).modify p.1 (fun e => { e with key := (bR g d) k, val := (bR g d) x }) = (es.modify p.1 fun e => { e with key := k, val := x }).map (OL g d) from ?_]
     ·exact this
     ·apply List.ext_getElem?
      intro i;simp only [List.getElem?_modify, An]
      cases es[i]? with
      | none => rfl
      | some e => simp only [fp, Option.map_map]; split <;> rfl
    | none =>
     have hf : bu fl ((bR g d) k) (es.map (OL g d)) 0 = some none := hf;rw [hf];refine ⟨_, rfl, ?_⟩;have := h.set (h.lt hb) he;simp only [Po, HV, List.map_cons, List.map_nil, OL] at this;exact this
   ·cases he
  ·cases he
 ·cases he
theorem HR.delete (h : HR g d F E H) (fl : KCls) (m k : Value) : akJ g d F (J9 fl m k E) (oo fl ((bR g d) m) ((bR g d) k) H) := by
 intro E' he;unfold J9 at he
 split at he
 ·rename_i hk
  split at he
  ·rename_i b
   split at he
   ·rename_i es c hb
    obtain ⟨r, hr, he⟩ := aH.1 he
    have hg : H.get (DC g d b) = some (.map (es.map (OL g d)) c) := by rw [h.get, hb]; rfl
    have hf := wE (g := g) (d := d) fl k es 0;rw [hr] at hf;simp only [MK, fp, oo, G6, hk, if_true, hg]
    cases r with
    | some p =>
     have hf : bu fl ((bR g d) k) (es.map (OL g d)) 0 = some (some (p.1, (bR g d) p.2)) := hf;rw [hf];refine ⟨_, rfl, ?_⟩;have := h.set (h.lt hb) he;simp only [Po] at this;show HR g d F E' (H.set (DC g d b) (.map ((es.map (OL g d)).eraseIdx p.1) c));rw [show (es.map (OL g d)).eraseIdx p.1 = (es.eraseIdx p.1).map (OL g d) from by simp [List.eraseIdx_eq_take_drop_succ, List.map_take, List.map_drop]];exact this
    | none =>
     have hf : bu fl ((bR g d) k) (es.map (OL g d)) 0 = some none := hf;rw [hf];exact ⟨_, rfl, h.set (h.lt hb) he⟩
   ·cases he
  ·cases he
 ·cases he
theorem HR.make (h : HR g d F E H) {zero : List Value} (hz : im g d zero = zero) (e by' : Nat) (len cap : Value) : eM g d F (acE zero e by' len cap E) (nz zero e by' ((bR g d) len) ((bR g d) cap) H) := by
 intro v E' he;unfold acE at he
 split at he
 ·split at he
  ·rename_i k1 l k2 c hc
   obtain ⟨H', h1, h2⟩ := h.rowP _ _ _ v E' he;refine ⟨H', ?_, h2⟩;simp only [Bh, nz];rw [if_pos hc, ← h1]
   congr 4
   rw [im, List.map_flatten, List.map_replicate, show List.map (bR g d) zero = zero from hz]
  ·cases he
 ·cases he
theorem HR.app (h : HR g d F E H) (e by' : Nat) (x y : Value) : eM g d F (apE e by' x y E) (dS e by' ((bR g d) x) ((bR g d) y) H) := by
 intro v E' he;unfold apE at he;unfold dS;rw [h.row];obtain ⟨r, hr, he⟩ := aH.1 he;rw [hr];simp only [fp, bJ];rw [show (im g d r.2).all Value.oneCell' = r.2.all Value.oneCell' from V8 _]
 split at he
 ·rename_i hc
  rw [if_pos hc]
  split at he
  ·rename_i n k
   simp only [gP, Option.map_none]
   split at he
   ·rename_i h0
    rw [if_pos h0]
    split at he
    ·rename_i h1
     rw [if_pos h1]; cases he; exact ⟨H, by simp, h⟩
    ·rename_i h1
     rw [if_neg h1]
     split at he
     ·rename_i h2
      rw [if_pos h2];exact h.rowP _ _ _ v E' he
     ·cases he
   ·cases he
  ·rename_i _ b o n e' _
   simp only [gP, fp, B0]
   split at he
   ·rename_i h1
    rw [if_pos h1]; cases he; exact ⟨H, by simp [B0], h⟩
   ·rename_i h1
    rw [if_neg h1]
    split at he
    ·rename_i h2
     rw [if_pos h2]
     split at he
     ·rename_i h3
      rw [if_pos h3];exact h.rowP _ _ _ v E' he
     ·cases he
    ·rename_i h2
     rw [if_neg h2]
     split at he
     ·rename_i cs hb
      have hg : H.get (DC g d b) = some (.cells false (im g d cs)) := by rw [h.get, hb]; rfl
      rw [hg];simp only;rw [show (im g d cs).length = cs.length from us _]
      split at he
      ·rename_i h3
       rw [if_pos h3];obtain ⟨E1, h4, he⟩ := aH.1 he;have hs := h.set (h.lt hb) h4;obtain ⟨H', h5, h6⟩ := hs.rowP _ _ _ v E' he;refine ⟨H', ?_, h6⟩;rw [← h5, AH.size_set];simp [Po, im, List.map_take, List.map_drop]
      ·cases he
     ·cases he
  ·cases he
 ·cases he
end
abbrev TF := Nat → List Value → EH → Option (Value × EH)
def He (P : Program) (b : Builtin) (argTypes : Array TypeId) (args : List Value) (E : EH) : Option (Value × EH) :=
 match b, args with
 | .len, [x] => match (argTypes[0]?).bind fun t => P.underlying t with
  | some (.slice _) => match x with | .slice _ _ _ => (rD x).map (·, E) | _ => none
  | some .string => match x with | .string _ => (rD x).map (·, E) | _ => none
  | some (.map _ _) => (IM x E).map (·, E)
  | _ => none
 | .max, args => (gk args).map (·, E)
 | .min, args => (jS args).map (·, E)
 | .append, [s, x] => (argTypes[0]?).bind fun t => (cJ P t).bind fun el => (cR P el).bind fun e => (f9 P el).bind fun by' => (bS P el).bind fun z =>
  if z.cells.size = e ∧ (argTypes[1]?).bind (fun u => cJ P u) = some el then apE e by' s x E else none
 | .delete, [m, k] => (argTypes[0]?).bind fun t => (cK P t).bind fun kt => (cW P kt.1).bind fun fl => (J9 fl m k E).map fun E' => (.tuple #[], E')
 | _, _ => none
def tRd (P : Program) (ev : Operand → Value) (op : Op) (E : EH) : Option Value :=
 match op with
 | .load t a => (fU P t).bind fun g => match g with
  | some n => acD n (ev a) E
  | none => acC (ev a) E
 | .lookup t m k ok => (cK P t).bind fun kt => (cW P kt.1).bind fun fl => (bS P kt.2).bind fun z => DI fl z (ev m) (ev k) ok E
 | .call c => match c.args.toList.map ev with
  | [x] => match (c.argTypes[0]?).bind fun t => P.underlying t with
   | some (.slice _) => match x with | .slice _ _ _ => rD x | _ => none
   | some .string => match x with | .string _ => rD x | _ => none
   | some (.map _ _) => IM x E
   | _ => none
  | _ => none
 | _ => none
def zE (P : Program) (call : TF) (ev : Operand → Value) (o : Oper) (E : EH) : Option (Value × EH) :=
 match o.op with
 | .move x => some (ev x, E)
 | .assign x => some (ev x, E)
 | .pick c a b => (aK (ev c) (ev a) (ev b)).map (·, E)
 | .alloc t => (bS P t).bind fun z => apG z.cells.toList E
 | .box _ x => apG (ev x).cells.toList E
 | .build t parts => match P.underlying t with
  | some (.struct fs) => (bS P t).bind fun z => (jG P fs.toList).bind fun ps => (dp (ps[·]?) z.cells.toList (parts.toList.map fun p => (p.1, ev p.2))).map fun cs => (.agg cs.toArray, E)
  | some (.array _ el) => (bS P t).bind fun z => (cR P el).bind fun e => (dp (fun i => some (i * e, e)) z.cells.toList (parts.toList.map fun p => (p.1, ev p.2))).map fun cs => (.agg cs.toArray, E)
  | _ => none
 | .buildSlice t len parts => (cJ P t).bind fun el => (cR P el).bind fun e => (bS P el).bind fun z =>
  if 0 < e ∧ z.cells.size = e ∧ len * e ≤ 2 ^ 24 then
   (dp (fun i => some (i * e, e)) (List.replicate len z.cells.toList).flatten (parts.toList.map fun p => (p.1, ev p.2))).bind fun cs => IN len e cs E
  else none
 | .load t a => (fU P t).bind fun g => match g with
  | some n => (acD n (ev a) E).map (·, E)
  | none => (acC (ev a) E).map (·, E)
 | .store t a x => (cR P t).bind fun n => (eSt n (ev a) (ev x) E).map fun E' => (undef, E')
 | .nilCheck x => (vT (ev x)).map (·, E)
 | .binOp op t x y _ => (aj (Bt P t) op (ev x) (ev y)).map (·, E)
 | .unOp op _ x => (pM op (ev x)).map (·, E)
 | .convert src dst x => match P.underlying src with
  | some _ => (cL (sx P dst) (ev x)).map (·, E)
  | none => none
 | .makeFunc fn first captured => some (.func fn (first.map ev) (captured.map ev), E)
 | .makeMap _ none => (E.push (.map [] 0)).map fun E' => (.map (some E.n), E')
 | .makeSlice t l c => (cJ P t).bind fun el => (cR P el).bind fun e => (f9 P el).bind fun by' => (bS P el).bind fun z => acE z.cells.toList e by' (ev l) (ev c) E
 | .slice t x lo hi none => (cJ P t).bind fun el => (cR P el).bind fun e => (fO e (ev x) (lo.map ev) (hi.map ev)).map (·, E)
 | .slice t x none (some hi) (some mx) => (cJ P t).bind fun el => (cR P el).bind fun _ => (jF (ev x) (ev hi) (ev mx)).map (·, E)
 | .fieldAddr s x f => (kA P s f).bind fun f => (cR P f.type).bind fun n => if n = 0 then none else (Ia f.offset (ev x)).map (·, E)
 | .field s x f => (kA P s f).bind fun f => (fU P f.type).bind fun n => (lP n f.offset (ev x)).map (·, E)
 | .indexAddr t x i => match P.underlying t with
  | some (.slice el) => (cR P el).bind fun e => (pL e (ev x) (ev i)).map (·, E)
  | some (.array len el) => (cR P el).bind fun e => (jb len e (ev x) (ev i)).map (·, E)
  | _ => none
 | .index t x i => match P.underlying t with
  | some (.array len el) => (cR P el).bind fun e => (fU P el).bind fun n => (jE len n e (ev x) (ev i)).map (·, E)
  | some .string => (jD (ev x) (ev i)).map (·, E)
  | _ => none
 | .lookup t m k ok => (cK P t).bind fun kt => (cW P kt.1).bind fun fl => (bS P kt.2).bind fun z => (DI fl z (ev m) (ev k) ok E).map (·, E)
 | .mapUpdate t m k x => (cK P t).bind fun kt => (cW P kt.1).bind fun fl => (Kf fl (ev m) (ev k) (ev x) E).map fun E' => (undef, E')
 | .extract t i => (ag (ev t) i).map (·, E)
 | .call c => match c.callee with
  | .builtin b => He P b c.argTypes (c.args.toList.map ev) E
  | .value f => (di (ev f) (c.args.toList.map ev)).bind fun fa => call fa.1 fa.2 E
  | _ => none
 | _ => none
section
variable {P : Program} {g d : Nat} {F : List AObj} {E E' : EH} {H : AH}
theorem kz {t : TypeId} {z : Value} (h : bS P t = some z) : (bR g d) z = z ∧ im g d z.cells.toList = z.cells.toList := by
 obtain ⟨i, _, _, h1, h2⟩ := dh h;exact ⟨OM h2, zz h1⟩
theorem eM.val (h : HR g d F E H) {x y : Option Value} (e : y = x.map (bR g d)) : eM g d F (x.map (·, E)) (y.map (·, H)) := by
 intro v E' hx;obtain ⟨z, hz, e1⟩ := bj.1 hx;cases e1;rw [e, hz];exact ⟨H, rfl, h⟩
theorem eM.bind {α : Type} {o : Option α} {f : α → Option (Value × EH)} {f' : α → Option (Value × AH)} (h : ∀ a, o = some a → eM g d F (f a) (f' a)) : eM g d F (o.bind f) (o.bind f') := by
 intro v E' hx;obtain ⟨a, ha, hx⟩ := aH.1 hx;rw [ha];exact h a ha v E' hx
theorem eM.no {y : Option (Value × AH)} : eM g d F none y := fun v E' h => by cases h
theorem eM.ite {c : Prop} [Decidable c] {x : Option (Value × EH)} {y : Option (Value × AH)} (h : c → eM g d F x y) : eM g d F (if c then x else none) (if c then y else none) := by
 intro v E' hx
 split at hx
 ·rename_i hc; rw [if_pos hc]; exact h hc v E' hx
 ·cases hx
theorem eM.heap {x : Option EH} {y : Option AH} (v : Value) (hv : (bR g d) v = v) (h : akJ g d F x y) : eM g d F (x.map fun E' => (v, E')) (y.map fun H' => (v, H')) := by
 intro v' E' hx;obtain ⟨E1, h1, e⟩ := bj.1 hx;cases e;obtain ⟨H', h2, h3⟩ := h E' h1;exact ⟨H', by rw [h2, hv]; rfl, h3⟩
theorem P6 {ev ev' : Operand → Value} {l : List Operand} (h : ∀ x ∈ l, ev' x = (bR g d) (ev x)) : l.map ev' = im g d (l.map ev) := by
 rw [im, List.map_map];exact List.map_congr_left h
theorem Nn (h : HR g d F E H) (b : Builtin) (ats : Array TypeId) (args : List Value) : eM g d F (He P b ats args E) (cV P b ats (im g d args) H) := by
 intro v E' hx;unfold He at hx
 split at hx
 ·rename_i x
  simp only [im, List.map_cons, List.map_nil, cV]
  split at hx
  ·rename_i hu
   rw [hu];simp only
   split at hx
   ·simp only [gP]
    exact eM.val h (by rw [← gP, anA]) v E' hx
   ·cases hx
  ·rename_i hu
   rw [hu];simp only
   split at hx
   ·simp only [JI]
    exact eM.val h (by simp [rD]) v E' hx
   ·cases hx
  ·rename_i hu
   rw [hu];exact eM.val h (h.lenM _) v E' hx
  ·cases hx
 ·exact eM.val h (anB _) v E' hx
 ·exact eM.val h (anC _) v E' hx
 ·simp only [im, List.map_cons, List.map_nil, cV]
  exact eM.bind (fun t _ => eM.bind fun el _ => eM.bind fun e _ => eM.bind fun by' _ => eM.bind fun z _ => eM.ite fun _ => h.app _ _ _ _) v E' hx
 ·simp only [im, List.map_cons, List.map_nil, cV]
  exact eM.bind (fun t _ => eM.bind fun kt _ => eM.bind fun fl _ => eM.heap _ (by simp) (h.delete _ _ _)) v E' hx
 ·cases hx
theorem aoN (h : HR g d F E H) {ev ev' : Operand → Value} {op : Op} (hev : ∀ x, x ∈ op.operands.toList → ev' x = (bR g d) (ev x)) : Ep P ev' op H = (tRd P ev op E).map (bR g d) := by
 cases op with
 | load t a =>
  simp only [Ep, tRd];rw [hev a (by simp [Op.operands])]
  cases fU P t with
  | none => rfl
  | some n => cases n with
   | none => exact h.ld1 _
   | some n => exact h.ldN _ _
 | lookup t m k ok =>
  simp only [Ep, tRd];rw [hev m (by simp [Op.operands]), hev k (by simp [Op.operands])]
  cases cK P t with
  | none => rfl
  | some kt =>
   simp only [bJ]
   cases cW P kt.1 with
   | none => rfl
   | some fl =>
    simp only [bJ]
    cases hz : bS P kt.2 with
    | none => rfl
    | some z => exact h.lookup fl (kz hz).1 _ _ _
 | call c =>
  have ha : c.args.toList.map ev' = im g d (c.args.toList.map ev) := P6 fun x hx => hev x (by simp only [Op.operands, Call.operands, Array.toList_append, List.mem_append]; exact .inr hx);simp only [Ep, tRd];rw [ha]
  generalize c.args.toList.map ev = l
  match l with
  | [] => rfl
  | [x] =>
   simp only [im, List.map_cons, List.map_nil]
   generalize (c.argTypes[0]?).bind (fun t => P.underlying t) = u
   cases u with
   | none => rfl
   | some u => cases u <;> first | rfl | exact h.lenM _ | (cases x <;> simp [rD])
  | x :: y :: l => rfl
 | _ => rfl
def tA (g d : Nat) (F : List AObj) (c : TF) (c' : bG) : Prop := ∀ (E : EH) (H : AH) f args, HR g d F E H → eM g d F (c f args E) (c' f (im g d args) H)
theorem apX (h : HR g d F E H) {c : TF} {c' : bG} (hc : tA g d F c c') {ev ev' : Operand → Value} {o : Oper} (hev : ∀ x, x ∈ o.op.operands.toList → ev' x = (bR g d) (ev x)) :
 eM g d F (zE P c ev o E) (fe P c' ev' o H) := by
 obtain ⟨dst, op, type, pos, after, guard⟩ := o;simp only at hev
 have fill : ∀ (parts : Array (Nat × Operand)), (∀ x, x ∈ (parts.toList.map (·.2)) → ev' x = (bR g d) (ev x)) → (parts.toList.map fun p => (p.1, ev' p.2)) = (parts.toList.map fun p => (p.1, ev p.2)).map fun p => (p.1, (bR g d) p.2) := by
  intro parts hp;rw [List.map_map];refine List.map_congr_left fun p hpm => ?_;simp only [Function.comp];rw [hp p.2 (List.mem_map_of_mem hpm)]
 have arr : ∀ (l : Array Operand), (∀ x ∈ l.toList, ev' x = (bR g d) (ev x)) → l.map ev' = (l.map ev).map (bR g d) := by
  intro l hl;apply Array.toList_inj.1;rw [Array.toList_map, Array.toList_map, Array.toList_map];exact P6 hl
 cases op
 case move x => intro v E' hx; simp only [zE] at hx; cases hx; exact ⟨H, by simp only [fe]; rw [hev x (by simp [Op.operands])], h⟩
 case assign x => intro v E' hx; simp only [zE] at hx; cases hx; exact ⟨H, by simp only [fe]; rw [hev x (by simp [Op.operands])], h⟩
 case pick k a b =>
  simp only [zE, fe];rw [hev k (by simp [Op.operands]), hev a (by simp [Op.operands]), hev b (by simp [Op.operands])];exact eM.val h (aiV _ _ _)
 case alloc t =>
  intro v E' hx;simp only [zE] at hx;simp only [fe];obtain ⟨z, hz, hx⟩ := aH.1 hx;rw [hz];have := h.new' _ v E' hx;rw [(kz hz).2] at this;exact this
 case box t x =>
  simp only [zE, fe];rw [hev x (by simp [Op.operands]), ZZ];exact h.new' _
 case build t parts =>
  have hp := fill parts fun x hx => hev x (by simpa [Op.operands] using hx);intro v E' hx;simp only [zE] at hx;simp only [fe];rw [hp]
  split at hx
  ·rename_i fs hu
   rw [hu];simp only;obtain ⟨z, hz, hx⟩ := aH.1 hx;obtain ⟨ps, hps, hx⟩ := aH.1 hx;obtain ⟨cs, hcs, e⟩ := bj.1 hx;cases e;have hf := G7 (g := g) (d := d) (ps[·]?) (parts.toList.map fun p => (p.1, ev p.2)) z.cells.toList;rw [(kz hz).2, hcs] at hf;rw [hz, hps];simp only [bJ];rw [hf];exact ⟨H, by simp, h⟩
  ·rename_i el hu
   rw [hu];simp only;obtain ⟨z, hz, hx⟩ := aH.1 hx;obtain ⟨e, he, hx⟩ := aH.1 hx;obtain ⟨cs, hcs, e⟩ := bj.1 hx;cases e;have hf := G7 (g := g) (d := d) (fun i => some (i * e, e)) (parts.toList.map fun p => (p.1, ev p.2)) z.cells.toList;rw [(kz hz).2, hcs] at hf;rw [hz, he];simp only [bJ];rw [hf];exact ⟨H, by simp, h⟩
  ·cases hx
 case buildSlice t len parts =>
  have hp := fill parts fun x hx => hev x (by simpa [Op.operands] using hx);simp only [zE, fe];rw [hp];refine eM.bind fun el _ => eM.bind fun e _ => eM.bind fun z hz => eM.ite fun _ => ?_;intro v E' hx;obtain ⟨cs, hcs, hx⟩ := aH.1 hx;have hf := G7 (g := g) (d := d) (fun i => some (i * e, e)) (parts.toList.map fun p => (p.1, ev p.2)) (List.replicate len z.cells.toList).flatten
  rw [hcs, show im g d (List.replicate len z.cells.toList).flatten = (List.replicate len z.cells.toList).flatten from by
   rw [im, List.map_flatten, List.map_replicate, show List.map (bR g d) z.cells.toList = z.cells.toList from (kz hz).2]] at hf
  rw [hf];exact h.rowP _ _ _ v E' hx
 case load t a =>
  simp only [zE, fe];rw [hev a (by simp [Op.operands])];refine eM.bind fun n _ => ?_
  cases n with
  | none => exact eM.val h (h.ld1 _)
  | some n => exact eM.val h (h.ldN _ _)
 case store t a x =>
  simp only [zE, fe];rw [hev a (by simp [Op.operands]), hev x (by simp [Op.operands])];exact eM.bind fun n _ => eM.heap _ tj (h.st _ _ _)
 case nilCheck x =>
  simp only [zE, fe];rw [hev x (by simp [Op.operands])];exact eM.val h (anD _)
 case binOp op t x y z =>
  simp only [zE, fe];rw [hev x (by simp [Op.operands]), hev y (by simp [Op.operands])];exact eM.val h (am7 _ _ _ _)
 case unOp op t x =>
  simp only [zE, fe];rw [hev x (by simp [Op.operands])];exact eM.val h (aqD _ _)
 case convert src dst x =>
  simp only [zE, fe];rw [hev x (by simp [Op.operands])]
  split
  ·rename_i hu; rw [hu]; exact eM.val h (aiR _ _)
  ·exact eM.no
 case makeFunc fn first captured =>
  simp only [zE, fe];rw [arr first fun x hx => hev x (by simp only [Op.operands, Array.toList_append, List.mem_append]; exact .inl hx), arr captured fun x hx => hev x (by simp only [Op.operands, Array.toList_append, List.mem_append]; exact .inr hx)];intro v E' hx; cases hx; exact ⟨H, by simp, h⟩
 case makeMap t r =>
  cases r with
  | none =>
   intro v E' hx;simp only [zE] at hx;simp only [fe];obtain ⟨E1, h1, e⟩ := bj.1 hx;cases e;exact ⟨H.push (Po g d (.map [] 0)), by simp [h.new, Po], h.push h1⟩
  | some r => exact eM.no
 case makeSlice t l k =>
  simp only [zE, fe];rw [hev l (by simp [Op.operands]), hev k (by simp [Op.operands])]
  exact eM.bind fun el _ => eM.bind fun e _ => eM.bind fun by' _ => eM.bind fun z hz => h.make (kz hz).2 _ _ _ _
 case slice t x lo hi mx =>
  have hx := hev x (by simp [Op.operands])
  have ho : ∀ (q : Option Operand), (∀ y ∈ q.toArray.toList, ev' y = (bR g d) (ev y)) → q.map ev' = (q.map ev).map (bR g d) := by
   intro q hq
   cases q with
   | none => rfl
   | some y => simp [hq y (by simp)]
  have hlo : lo.map ev' = (lo.map ev).map (bR g d) := ho lo fun y hy => hev y (by simp only [Op.operands, Array.toList_append, List.mem_append]; exact .inl (.inl (.inr hy)));have hhi : hi.map ev' = (hi.map ev).map (bR g d) := ho hi fun y hy => hev y (by simp only [Op.operands, Array.toList_append, List.mem_append]; exact .inl (.inr hy));have hmx : mx.map ev' = (mx.map ev).map (bR g d) := ho mx fun y hy => hev y (by simp only [Op.operands, Array.toList_append, List.mem_append]; exact .inr hy)
  cases mx with
  | none =>
   simp only [zE, fe];rw [hx, hlo, hhi];exact eM.bind fun el _ => eM.bind fun e _ => eM.val h (Z0 _ _ _ _)
  | some mx =>
   cases lo with
   | some lo => cases hi <;> exact eM.no
   | none =>
    cases hi with
    | none => exact eM.no
    | some hi =>
     simp only [fp, Option.some.injEq] at hhi hmx;simp only [zE, fe];rw [hx, hhi, hmx];refine eM.bind fun el _ => eM.bind fun e _ => ?_;intro v E' hv;obtain ⟨z, hz, e⟩ := bj.1 hv;cases e;rw [Sg hz];exact ⟨H, rfl, h⟩
 case fieldAddr st x f =>
  simp only [zE, fe];rw [hev x (by simp [Op.operands])];refine eM.bind fun f _ => eM.bind fun n _ => ?_
  split
  ·exact eM.no
  ·exact eM.val h (am8 _ _)
 case field st x f =>
  simp only [zE, fe];rw [hev x (by simp [Op.operands])];exact eM.bind fun f _ => eM.bind fun n _ => eM.val h (aiU _ _ _)
 case indexAddr t x i =>
  simp only [zE, fe];rw [hev x (by simp [Op.operands]), hev i (by simp [Op.operands])]
  split
  ·rename_i hu; rw [hu]; exact eM.bind fun e _ => eM.val h (am9 _ _ _)
  ·rename_i hu; rw [hu]; exact eM.bind fun e _ => eM.val h (aiT _ _ _ _)
  ·exact eM.no
 case index t x i =>
  simp only [zE, fe];rw [hev x (by simp [Op.operands]), hev i (by simp [Op.operands])]
  split
  ·rename_i hu; rw [hu]; exact eM.bind fun e _ => eM.bind fun n _ => eM.val h (Sf _ _ _ _ _)
  ·rename_i hu; rw [hu]; exact eM.val h (Se _ _)
  ·exact eM.no
 case lookup t m k ok =>
  simp only [zE, fe];rw [hev m (by simp [Op.operands]), hev k (by simp [Op.operands])];exact eM.bind fun kt _ => eM.bind fun fl _ => eM.bind fun z hz => eM.val h (h.lookup fl (kz hz).1 _ _ _)
 case mapUpdate t m k x =>
  simp only [zE, fe];rw [hev m (by simp [Op.operands]), hev k (by simp [Op.operands]), hev x (by simp [Op.operands])];exact eM.bind fun kt _ => eM.bind fun fl _ => eM.heap _ tj (h.update _ _ _ _)
 case extract t i =>
  simp only [zE, fe];rw [hev t (by simp [Op.operands])];exact eM.val h (ON _ _)
 case call k =>
  obtain ⟨callee, args, ats⟩ := k;have ha : args.toList.map ev' = im g d (args.toList.map ev) := P6 fun x hx => hev x (by simp only [Op.operands, Call.operands, Array.toList_append, List.mem_append]; exact .inr hx)
  cases callee with
  | builtin b =>
   simp only [zE, fe];rw [ha];exact Nn h _ _ _
  | value f =>
   simp only [zE, fe];rw [ha, hev f (by simp [Op.operands, Call.operands])];intro v E' hx;obtain ⟨q, hq, hx⟩ := aH.1 hx;rw [Sd, hq];exact hc E H _ _ h v E' hx
  | invoke r m => exact eM.no
 all_goals exact eM.no
end
def tEv (T : Tr Value) : Operand → Value
 | .tmp t => match T.get t with
  | some v => v
  | none => undef
 | .const v => v
 | .global g => .pointer (some ⟨g, 0, none⟩)
 | .func f => .func (.func f) #[] #[]
def anH (m : Nat) (T : Tr Value) (dst : Option Tmp) (v : Value) : Option (Tr Value) :=
 match dst with
 | some j => match Nat.blt j m with
  | true => Tr.set v 24 T j
  | false => none
 | none => some T
def Sw (ops : Array Oper) (T : Tr Value) (j : Nat) : Option Bool :=
 match (ops[j]?).bind (·.dst) with
 | some t => match T.get t with
  | some (.bool b) => some b
  | _ => none
 | none => none
def We (P : Program) (G : List Nat) (call : TF) (ops : Array Oper) (m : Nat) (o : Oper) (T : Tr Value) (E : EH) : Option (Tr Value × EH) :=
 match o.op.operands.toList.all (Pn G) with
 | true => match Region.wanted o (Sw ops T) with
  | true => (zE P call (tEv T) o E).bind fun r => (anH m T o.dst r.1).map fun T' => (T', r.2)
  | false => (anH m T o.dst undef).map fun T' => (T', E)
 | false => none
def Su (P : Program) (G : List Nat) (call : TF) (ops : Array Oper) (m : Nat) : List Oper → Tr Value → EH → List (Tr Value × EH) → Option (List (Tr Value × EH) × Tr Value × EH)
 | [], T, E, hist => some (hist ++ [(T, E)], T, E)
 | o :: rest, T, E, hist => (We P G call ops m o T E).bind fun r => Su P G call ops m rest r.1 r.2 (hist ++ [(T, E)])
def aoR (P : Program) (G : List Nat) (hist : List (Tr Value × EH)) (ops : Array Oper) (p : Nat × Nat) : Bool :=
 match ops[p.1]?, hist[p.1]?, hist[if p.2 < p.1 then p.2 else p.2 + 1]? with
 | some o, some s, some s' => o.op.operands.toList.all (Pn G) && eqO (tRd P (tEv s.1) o.op s'.2) (tRd P (tEv s.1) o.op s.2)
 | _, _, _ => false
def Ec (P : Program) (G : List Nat) (call : TF) (ops : Array Oper) (m : Nat) (draw : Bool) (T : Tr Value) (E : EH) : Option (Tr Value × EH) :=
 match draw with
 | true => match vc ops.toList with
  | true => (Su P G call ops m ops.toList T E []).bind fun r => match (dY ops.toList).all (aoR P G r.1 ops) with
   | true => some r.2
   | false => none
  | false => none
 | false => (Su P G call ops m ops.toList T E []).map (·.2)
abbrev TR := AE × Tr Value × EH
def Wd (f : Tr Value → EH → Option TR) : Nat → Tr Value → EH → Option TR
 | 0, _, _ => none
 | n + 1, T, E => (f T E).bind fun r => match r.1 with
  | .normal => Wd f n r.2.1 r.2.2
  | _ => some r
def jN (P : Program) (G : List Nat) (call : TF) (N m : Nat) : Code → Tr Value → EH → Option TR
 | .skip, T, E => some (.normal, T, E)
 | .label _, T, E => some (.normal, T, E)
 | .region _ ops draw, T, E => (Ec P G call ops m draw T E).map fun s => (.normal, s.1, s.2)
 | .seq x y, T, E => (jN P G call N m x T E).bind fun r => match r.1 with
  | .normal => jN P G call N m y r.2.1 r.2.2
  | _ => some r
 | .cond c x y, T, E => match Pn G c with
  | true => match tEv T c with
   | .bool true => jN P G call N m x T E
   | .bool false => jN P G call N m y T E
   | _ => none
  | false => none
 | .block id x, T, E => (jN P G call N m x T E).map fun r => match r.1 with
  | .exit i => if i = id then (.normal, r.2.1, r.2.2) else r
  | _ => r
 | .loop x, T, E => Wd (jN P G call N m x) N T E
 | .exit id, T, E => some (.exit id, T, E)
 | .ret, T, E => some (.ret, T, E)
 | _, _, _ => none
def Hf (T : Tr Value) (t : Nat) : Value := match T.get t with
 | some v => v
 | none => undef
def zF (P : Program) (T : Tr Value) (E : EH) : ResultVar → Option Value
 | .tmp t => some (Hf T t)
 | .cell a t => (fU P t).bind fun g => match g with
  | some n => acD n (Hf T a) E
  | none => acC (Hf T a) E
def JO (P : Program) (T : Tr Value) (E : EH) : List ResultVar → Option (List Value)
 | [] => some []
 | r :: rs => (zF P T E r).bind fun v => (JO P T E rs).bind fun vs => some (v :: vs)
def ai7 (P : Program) (rs : List ResultVar) (r : TR) : Option (Value × EH) :=
 match r.1 with
 | .exit _ => none
 | _ => (JO P r.2.1 r.2.2 rs).map fun vs => (match vs with
  | [v] => v
  | vs => .tuple vs.toArray, r.2.2)
def OT : List Value → Nat → Tr Value → Option (Tr Value)
 | [], _, T => some T
 | v :: vs, i, T => (Tr.set v 24 T i).bind fun T' => OT vs (i + 1) T'
def ai6 (P : Program) (G : List Nat) (call : TF) (N n : Nat) (rs : List ResultVar) (s : DSh) (T : Tr Value) (E : EH) : Option (Value × EH) :=
 (jN P G call N n s.c1 T E).bind fun r => match r.1 with
  | .normal => match Nat.blt s.t n with
   | true => (We P G call s.ops2 n s.om r.2.1 r.2.2).bind fun q => (Su P G call s.ops3 n s.ops3.toList q.1 q.2 []).bind fun z => ai7 P rs (.normal, z.2.1, z.2.2)
   | false => none
  | _ => none
def JN (P : Program) (G D : List Nat) (N : Nat) : Nat → TF
 | 0 => fun _ _ _ => none
 | k + 1 => fun f args E => match P.funcs[f]? with
  | some fn => if fn.name = "runtime.NumGoroutine" then none else match fn.body with
   | some c => match Nat.ble args.length fn.ntmps with
    | true => (OT args 0 .lf).bind fun T => match lC c with
     | none => (jN P G (JN P G D N k) N fn.ntmps c T E).bind (ai7 P fn.results.toList)
     | some s => match D.contains s.k with
      | true => ai6 P G (JN P G D N k) N fn.ntmps fn.results.toList s T E
      | false => none
    | false => none
   | none => none
  | none => none
section
variable {P : Program} {G : List Nat} {g d m N : Nat} {F : List AObj}
structure ER (g d m : Nat) (T : Tr Value) (A : List Value) : Prop where
 len : A.length = m
 get : ∀ t, A[t]?.getD undef = bR g d (Hf T t)
theorem OS {v : Value} {T T' : Tr Value} {j : Nat} (h : Tr.set v 24 T j = some T') (t : Nat) : Hf T' t = if t = j then v else Hf T t := by
 unfold Hf;rw [Tr.get_set 24 h t]
 by_cases e : t = j
 ·rw [if_pos e, if_pos e]
 ·rw [if_neg e, if_neg e]
theorem ER.put {T T' : Tr Value} {A : List Value} (h : ER g d m T A) {dst : Option Tmp} {v : Value} (hp : anH m T dst v = some T') : ER g d m T' (lV A dst ((bR g d) v)) := by
 unfold anH at hp
 cases dst with
 | none => cases hp; exact h
 | some j =>
  simp only at hp
  split at hp
  ·rename_i hb
   have hj : j < m := Nat.le_of_ble_eq_true hb;refine ⟨by simp [lV, h.len], fun t => ?_⟩;rw [OS hp];simp only [lV];rw [List.getElem?_set]
   by_cases e : t = j
   ·rw [if_pos e, if_pos e.symm, if_pos (by rw [h.len]; omega)]; rfl
   ·rw [if_neg e, if_neg (fun x => e x.symm)]; exact h.get t
  ·cases hp
theorem ER.ev {T : Tr Value} {A : List Value} (h : ER g d m T A) (hG : ∀ b ∈ G, b < g) {x : Operand} (hx : Pn G x = true) : fX A x = (bR g d) (tEv T x) := by
 cases x with
 | tmp t => exact h.get t
 | const v => exact (OM hx).symm
 | global b =>
  simp only [Pn, List.contains_iff_mem] at hx;simp [fX, tEv, B0, DC, hG b hx]
 | func f => simp [fX, tEv]
theorem ER.yield {T : Tr Value} {A : List Value} (h : ER g d m T A) (ops : Array Oper) : dO ops A = Sw ops T := by
 funext j
 unfold dO Sw
 cases (ops[j]?).bind (·.dst) with
 | none => rfl
 | some t =>
  simp only [bJ];have hg := h.get t;unfold Hf at hg
  cases hT : T.get t with
  | none =>
   rw [hT] at hg;simp only [tj] at hg
   cases hA : A[t]? with
   | none => rfl
   | some v => rw [hA] at hg; simp only [Option.getD_some] at hg; subst hg; rfl
  | some v =>
   rw [hT] at hg;simp only at hg
   cases hA : A[t]? with
   | none => rw [hA] at hg; simp only [Option.getD_none] at hg; cases v <;> simp [undef] at hg ⊢
   | some w => rw [hA] at hg; simp only [Option.getD_some] at hg; subst hg; cases v <;> simp
structure St (g d m : Nat) (F : List AObj) (x : Tr Value × EH) (y : List Value × AH) : Prop where
 er : ER g d m x.1 y.1
 hr : HR g d F x.2 y.2
theorem OP {c : TF} {c' : bG} (hG : ∀ b ∈ G, b < g) (hc : tA g d F c c') {ops : Array Oper} {o : Oper} {T : Tr Value} {E : EH} {A : List Value} {H : AH} {r} (hS : St g d m F (T, E) (A, H)) (h : We P G c ops m o T E = some r) :
 ∃ r', gG P G c' ops o A H = some r' ∧ St g d m F r r' := by
 unfold We at h;unfold gG
 split at h
 ·rename_i hok
  rw [if_pos hok];have hev : ∀ x, x ∈ o.op.operands.toList → fX A x = (bR g d) (tEv T x) := fun x hx => hS.er.ev hG (List.all_eq_true.1 hok x hx);rw [hS.er.yield]
  split at h
  ·rename_i hw
   rw [if_pos hw];obtain ⟨⟨v, E1⟩, h1, h⟩ := aH.1 h;obtain ⟨T', h2, e⟩ := bj.1 h;cases e;obtain ⟨H', h3, h4⟩ := apX hS.hr hc hev v E1 h1;rw [h3];exact ⟨_, rfl, hS.er.put h2, h4⟩
  ·rename_i hw
   rw [if_neg (by rw [hw]; simp)];obtain ⟨T', h2, e⟩ := bj.1 h;cases e;refine ⟨_, rfl, ?_, hS.hr⟩;have := hS.er.put h2
   rwa [tj] at this
 ·cases h
theorem L7 {c : TF} {c' : bG} (hG : ∀ b ∈ G, b < g) (hc : tA g d F c c') {ops : Array Oper} : ∀ (l : List Oper) {T : Tr Value} {E : EH} {A : List Value} {H : AH} {hist r}, St g d m F (T, E) (A, H) → Su P G c ops m l T E hist = some r →
 (∃ r', dk P G c' ops l A H = some r' ∧ St g d m F r.2 r') ∧ ∃ t, r.1 = hist ++ t ∧ t.length = l.length + 1 ∧ ∀ i, i ≤ l.length → ∃ x y, t[i]? = some x ∧ dk P G c' ops (l.take i) A H = some y ∧ St g d m F x y := by
 intro l
 induction l with
 | nil =>
  intro T E A H hist r hS h;simp only [Su] at h; cases h;refine ⟨⟨_, rfl, hS⟩, [(T, E)], rfl, rfl, ?_⟩;intro i hi
  have : i = 0 := by simpa using hi
  subst this;exact ⟨_, _, rfl, rfl, hS⟩
 | cons o l ih =>
  intro T E A H hist r hS h;simp only [Su] at h;obtain ⟨q, hq, h⟩ := aH.1 h;obtain ⟨⟨A1, H1⟩, h1, hS1⟩ := OP hG hc hS hq;obtain ⟨T1, E1⟩ := q;obtain ⟨⟨r', h2, hS2⟩, t, e, hl, ht⟩ := ih hS1 h;refine ⟨⟨r', by simp only [dk, h1, bJ]; exact h2, hS2⟩, (T, E) :: t, by rw [e]; simp, by simp [hl], ?_⟩;intro i hi
  cases i with
  | zero => exact ⟨_, _, rfl, rfl, hS⟩
  | succ i =>
   obtain ⟨x, y, hx, hy, hxy⟩ := ht i (by simpa using hi);exact ⟨x, y, by simpa using hx, by simp only [List.take_succ_cons, dk, h1, bJ]; exact hy, hxy⟩
theorem R6 {c : TF} {c' : bG} (hG : ∀ b ∈ G, b < g) (hc : tA g d F c c') {ops : Array Oper} {draw : Bool} {T : Tr Value} {E : EH} {A : List Value} {H : AH} {r} (hS : St g d m F (T, E) (A, H)) (h : Ec P G c ops m draw T E = some r) :
 ∃ r', gm P G c' ops draw A H = some r' ∧ St g d m F r r' := by
 cases draw with
 | false =>
  simp only [Ec, gm] at h ⊢;obtain ⟨q, hq, e⟩ := bj.1 h;subst e;exact (L7 hG hc _ hS hq).1
 | true =>
  simp only [Ec, gm] at h ⊢
  split at h
  ·rename_i hreg
   obtain ⟨q, hq, h⟩ := aH.1 h
   split at h
   ·rename_i hall
    cases h;obtain ⟨⟨r', h1, h2⟩, t, e, hl, ht⟩ := L7 hG hc _ hS hq;refine ⟨r', ?_, h2⟩;unfold nQ;rw [hreg];simp only
    cases hp : dY ops.toList with
    | nil => exact h1
    | cons p ps =>
     simp only;rw [kU ?_]
     ·exact h1
     ·rw [← hp]
      intro p hpm o ho;have hx := List.all_eq_true.1 hall p hpm;unfold aoR at hx;rw [ho] at hx;simp only [List.nil_append] at e
      have st : ∀ i x, q.1[i]? = some x → St g d m F x (jY P G c' ops A H i) := by
       intro i x hs
       have hi : i < t.length := by rw [e] at hs; exact (HU.1 hs).1
       obtain ⟨x', y, hx', hy, hxy⟩ := ht i (by omega);rw [e, hx'] at hs;cases hs;unfold jY;rw [hy];exact hxy
      split at hx
      ·rename_i o' x1 x2 ho' hs hs'
       cases ho';simp only [Bool.and_eq_true] at hx;have hev : ∀ x, x ∈ o.op.operands.toList → fX (jY P G c' ops A H p.1).1 x = (bR g d) (tEv x1.1 x) := fun x hxm => (st _ _ hs).er.ev hG (List.all_eq_true.1 hx.1 x hxm);rw [aoN (st _ _ hs').hr hev, aoN (st _ _ hs).hr hev, W5 hx.2]
      ·cases hx
   ·cases h
  ·cases h
structure Ar (g d m : Nat) (F : List AObj) (x : TR) (y : AR) : Prop where
 e : x.1 = y.1
 st : St g d m F x.2 y.2
theorem Nt {c : TF} {c' : bG} (hG : ∀ b ∈ G, b < g) (hc : tA g d F c c') : ∀ (k : Code) {T : Tr Value} {E : EH} {A : List Value} {H : AH} {r : TR}, St g d m F (T, E) (A, H) → jN P G c N m k T E = some r →
 ∃ r', aX P G c' k A H = some r' ∧ Ar g d m F r r' := by
 intro k
 induction k with
 | region id ops draw =>
  intro T E A H r hS hr;simp only [jN, aX] at hr ⊢;obtain ⟨q, hq, e⟩ := bj.1 hr;obtain ⟨r', h1, h2⟩ := R6 hG hc hS hq;subst e;rw [h1];exact ⟨_, rfl, rfl, h2⟩
 | seq x y ihx ihy =>
  intro T E A H r hS hr;simp only [jN, aX] at hr ⊢;obtain ⟨⟨e, T1, E1⟩, hx, hr⟩ := aH.1 hr;obtain ⟨⟨e', A1, H1⟩, h1, h2⟩ := ihx hS hx;have he : e = e' := h2.e;subst he;rw [h1];simp only [bJ]
  cases e with
  | normal => exact ihy h2.st hr
  | exit i => cases hr; exact ⟨_, rfl, h2⟩
  | ret => cases hr; exact ⟨_, rfl, h2⟩
 | cond b x y ihx ihy =>
  intro T E A H r hS hr;simp only [jN, aX] at hr ⊢
  split at hr
  ·rename_i hok
   rw [hS.er.ev hG hok]
   split at hr
   ·rename_i e; rw [e]; simp only [V7]; exact ihx hS hr
   ·rename_i e; rw [e]; simp only [V7]; exact ihy hS hr
   ·cases hr
  ·cases hr
 | block id x ih =>
  intro T E A H r hS hr;simp only [jN, aX] at hr ⊢;obtain ⟨⟨e, T1, E1⟩, hx, hr⟩ := bj.1 hr;obtain ⟨⟨e', A1, H1⟩, h1, h2⟩ := ih hS hx;have he : e = e' := h2.e;subst he;rw [h1];subst hr
  cases e with
  | normal => exact ⟨_, rfl, h2⟩
  | exit i =>
   simp only [fp]
   by_cases hi : i = id
   ·rw [if_pos hi, if_pos hi]; exact ⟨_, rfl, rfl, h2.st⟩
   ·rw [if_neg hi, if_neg hi]; exact ⟨_, rfl, h2⟩
  | ret => exact ⟨_, rfl, h2⟩
 | loop x ih =>
  intro T E A H r hS hr;simp only [jN, aX] at hr ⊢
  suffices key : ∀ n T E A H, St g d m F (T, E) (A, H) → Wd (jN P G c N m x) n T E = some r → ∃ r', fC (aX P G c' x) n A H = some r' ∧ Ar g d m F r r' from by
   obtain ⟨r', h1, h2⟩ := key N T E A H hS hr;exact ⟨r', dj.2 ⟨N, h1⟩, h2⟩
  clear hr hS
  intro n
  induction n with
  | zero => intro T E A H hS hr; cases hr
  | succ n ihn =>
   intro T E A H hS hr;simp only [Wd, fC] at hr ⊢;obtain ⟨⟨e, T1, E1⟩, hx, hr⟩ := aH.1 hr;obtain ⟨⟨e', A1, H1⟩, h1, h2⟩ := ih hS hx;have he : e = e' := h2.e;subst he;rw [h1];simp only [bJ]
   cases e with
   | normal => exact ihn _ _ _ _ h2.st hr
   | exit i => cases hr; exact ⟨_, rfl, h2⟩
   | ret => cases hr; exact ⟨_, rfl, h2⟩
 | skip => intro T E A H r hS hr; simp only [jN] at hr; cases hr; exact ⟨_, rfl, rfl, hS⟩
 | label l => intro T E A H r hS hr; simp only [jN] at hr; cases hr; exact ⟨_, rfl, rfl, hS⟩
 | exit i => intro T E A H r hS hr; simp only [jN] at hr; cases hr; exact ⟨_, rfl, rfl, hS⟩
 | ret => intro T E A H r hS hr; simp only [jN] at hr; cases hr; exact ⟨_, rfl, rfl, hS⟩
 | _ => intro T E A H r hS hr; cases hr
theorem R9 {T : Tr Value} {E : EH} {A : List Value} {H : AH} (hS : St g d m F (T, E) (A, H)) (r : ResultVar) : lW P A H r = (zF P T E r).map (bR g d) := by
 cases r with
 | tmp t => simp only [lW, zF, fp]; rw [hS.er.get t]
 | cell a t =>
  simp only [lW, zF];rw [hS.er.get a]
  cases fU P t with
  | none => rfl
  | some n => cases n with
   | none => exact hS.hr.ld1 _
   | some n => exact hS.hr.ldN _ _
theorem agT {T : Tr Value} {E : EH} {A : List Value} {H : AH} (hS : St g d m F (T, E) (A, H)) : ∀ rs : List ResultVar, uG P A H rs = (JO P T E rs).map (im g d) := by
 intro rs
 induction rs with
 | nil => rfl
 | cons r rs ih =>
  simp only [uG, JO];rw [R9 hS, ih]
  cases zF P T E r with
  | none => rfl
  | some v => cases JO P T E rs <;> rfl
theorem Vl {rs : List ResultVar} {x : TR} {y : AR} (h : Ar g d m F x y) : eM g d F (ai7 P rs x) (abF P rs y) := by
 intro v E' hx;obtain ⟨e, T, E⟩ := x;obtain ⟨e', A, H⟩ := y;have he : e = e' := h.e;subst he;have hS := h.st;have hm := agT (P := P) hS rs
 have key : ∀ vs, JO P T E rs = some vs → jg P A H rs = some ((bR g d) (match vs with | [v] => v | vs => .tuple vs.toArray)) := by
  intro vs hvs;unfold jg;rw [hm, hvs];simp only [fp]
  congr 1
  match vs with
  | [] => simp [im]
  | [v] => rfl
  | v :: w :: vs => simp [im]
 cases e with
 | exit i => cases hx
 | normal =>
  simp only [ai7, abF] at hx ⊢;obtain ⟨vs, hvs, e⟩ := bj.1 hx;cases e;rw [key vs hvs];exact ⟨H, rfl, hS.hr⟩
 | ret =>
  simp only [ai7, abF] at hx ⊢;obtain ⟨vs, hvs, e⟩ := bj.1 hx;cases e;rw [key vs hvs];exact ⟨H, rfl, hS.hr⟩
theorem agI : ∀ (vs : List Value) (i : Nat) (T : Tr Value) {T' : Tr Value}, OT vs i T = some T' → ∀ t, Hf T' t = if i ≤ t ∧ t < i + vs.length then (vs[t - i]?).getD undef else Hf T t := by
 intro vs
 induction vs with
 | nil => intro i T T' h t; simp only [OT] at h; cases h; rw [if_neg (by simp only [List.length_nil]; omega)]
 | cons v vs ih =>
  intro i T T' h t;simp only [OT] at h;obtain ⟨T1, h1, h⟩ := aH.1 h;rw [ih _ _ h t, OS h1]
  by_cases e1 : i + 1 ≤ t ∧ t < i + 1 + vs.length
  ·rw [if_pos e1, if_pos (by simp; omega)]
   rw [show t - i = (t - (i + 1)) + 1 from by omega, List.getElem?_cons_succ]
  ·rw [if_neg e1]
   by_cases e2 : t = i
   ·subst e2; rw [if_pos rfl, if_pos (by simp)]; simp
   ·rw [if_neg e2, if_neg (by simp; omega)]
theorem ab2 {D : List Nat} (hG : ∀ b ∈ G, b < g) (hD : ∀ k ∈ D, wP P k) : ∀ k, tA g d F (JN P G D N k) (fT P G k) := by
 intro k
 induction k with
 | zero => intro E H f args hR v E' h; cases h
 | succ k ih =>
  intro E H f args hR v E' h;rw [JN] at h;rw [fT];simp only [] at h ⊢
  cases hf : P.funcs[f]? with
  | none => rw [hf] at h; cases h
  | some fn =>
   rw [hf] at h;simp only at h ⊢
   split at h
   ·cases h
   ·rename_i hn
    rw [if_neg hn]
    cases hb : fn.body with
    | none => rw [hb] at h; cases h
    | some c =>
     rw [hb] at h;simp only at h ⊢
     split at h
     ·rename_i hle
      have hle := Nat.le_of_ble_eq_true hle;obtain ⟨T, hT, h⟩ := aH.1 h
      have hS : St g d fn.ntmps F (T, E) (im g d args ++ List.replicate (fn.ntmps - (im g d args).length) undef, H) := by
       refine ⟨⟨by simp; omega, fun t => ?_⟩, hR⟩;rw [agI _ _ _ hT];simp only [im, List.getElem?_append, us, An, List.getElem?_replicate]
       by_cases e : t < args.length
       ·rw [if_pos (show 0 ≤ t ∧ t < 0 + args.length from by omega), if_pos e]
        simp [cB e]
       ·rw [if_neg (show ¬ (0 ≤ t ∧ t < 0 + args.length) from by omega), if_neg e]
        have : Hf .lf t = undef := rfl;rw [this, tj]
        split <;> rfl
      cases hd : lC c with
      | none =>
       rw [hd] at h;obtain ⟨r, hr, h⟩ := aH.1 h;obtain ⟨r', h1, h2⟩ := Nt hG ih c hS hr;simp only;unfold qO;rw [h1];exact Vl h2 v E' h
      | some q =>
       rw [hd] at h;simp only at h ⊢
       split at h
       ·rename_i hin
        rw [kU (hD _ (by simpa using hin))];unfold ai6 at h;unfold p7;obtain ⟨⟨e1, T1, E1⟩, hr, h⟩ := aH.1 h;obtain ⟨⟨e2, A1, H1⟩, h1, h2⟩ := Nt hG ih q.c1 hS hr;have he : e1 = e2 := h2.e;subst he;rw [h1];simp only [bJ]
        cases e1 with
        | exit i => cases h
        | ret => cases h
        | normal =>
         simp only at h ⊢
         split at h
         ·rename_i hlt
          have hlt : q.t < fn.ntmps := Nat.le_of_ble_eq_true hlt;have hlen : A1.length = fn.ntmps := h2.st.er.len;rw [if_neg (by omega)];obtain ⟨⟨T2, E2⟩, h3, h⟩ := aH.1 h;obtain ⟨⟨A2, H2⟩, h4, h5⟩ := OP hG ih h2.st h3;obtain ⟨z, h6, h⟩ := aH.1 h;obtain ⟨⟨⟨A3, H3⟩, h7, h8⟩, _⟩ := L7 hG ih _ h5 h6;rw [h4];simp only [bJ];rw [h7];exact Vl (x := (.normal, z.2.1, z.2.2)) (y := (.normal, A3, H3)) ⟨rfl, h8⟩ v E' h
         ·cases h
       ·cases h
     ·cases h
end
def ahA (tab : List Value) : Option (Value × EH) → Bool
 | some (.bool true, E) => match E.get 0 with
  | some (.cells true cs) => HQ (eqV 0) cs tab
  | _ => false
 | _ => false
def OU (tab : List Value) : EH := ⟨1, .nd (some (.cells true tab)) .lf .lf⟩
theorem PH {P : Program} {D : List Nat} {N k f : Nat} {tab : List Value} (hD : ∀ k ∈ D, wP P k) (hl : tab.all dq = true) (h : ahA tab (JN P [0] D N k f [] (OU tab)) = true)
 {H : AH} (hH : H.get 0 = some (.cells true tab)) : ∃ H', aF P [0] f [] H = some (.bool true, H') ∧ H.size ≤ H'.size ∧ ∀ i, i < H.size → H'.get i = H.get i := by
 obtain ⟨objs⟩ := H
 cases objs with
 | nil => cases hH
 | cons o F =>
  have ho : o = .cells true tab := by simpa [AH.get] using hH
  subst ho
  have hR : HR 1 F.length F (OU tab) ⟨.cells true tab :: F⟩ := by
   refine ⟨rfl, bv _, by simp [AH.size, OU, Nat.add_comm], fun b => ?_, fun b hb => ?_, fun b h1 h2 => ?_⟩
   ·cases b with
    | zero =>
     have : DC 1 F.length 0 = 0 := rfl;rw [this];show some _ = some (AObj.cells true (im 1 F.length tab));rw [zz hl]
    | succ b =>
     have e : DC 1 F.length (b + 1) = b + 1 + F.length := by simp [DC]
     have e2 : (OU tab).get (b + 1) = none := by
      simp only [EH.get, OU, Tr.get]; split <;> rfl
     rw [e, e2];exact AH.get_none (by simp [AH.size]; omega)
   ·have : 1 ≤ b := hb
    obtain ⟨b, rfl⟩ : ∃ c, b = c + 1 := ⟨b - 1, by omega⟩
    simp only [EH.get, OU, Tr.get]; split <;> rfl
   ·obtain ⟨b, rfl⟩ : ∃ c, b = c + 1 := ⟨b - 1, by omega⟩
    simp [AH.get]
  unfold ahA at h
  split at h
  ·rename_i E' hE
   obtain ⟨H', h1, h2⟩ := ab2 (F := F) (N := N) (P := P) (by simp) hD k (OU tab) _ f [] hR _ _ hE;refine ⟨H', ?_, ?_, fun i hi => ?_⟩
   ·have := SK k _ _ _ _ h1
    simpa using this
   ·rw [h2.size]
    have := h2.le;simp [AH.size]; omega
   ·split at h
    ·rename_i cs hcs
     have he : cs = tab := E0 (IO 0) _ _ h;subst he
     cases i with
     | zero =>
      have := h2.get 0;rw [show DC 1 F.length 0 = 0 from rfl, hcs] at this;rw [this];show some (AObj.cells true (im 1 F.length cs)) = _;rw [zz hl]; rfl
     | succ i =>
      have hi : i < F.length := by simpa [AH.size] using hi
      rw [h2.fr (i + 1) (by omega) (by omega)];simp [AH.get]
    ·cases h
  ·cases h
section
variable {P : Program} {w : World} {ev : Operand → Value} {d : Option Tmp} {x : Operand} {v a b : Value} {y : TypeId} {p : String} {e : Array Edge} {gd : Option (Nat × Bool)}
end
def tabC : List Value := [0,1,56,2,57,49,28,3,61,58,42,50,38,29,17,4,62,47,59,36,45,43,51,22,53,39,33,30,24,18,12,5,63,55,48,27,60,41,37,16,46,35,44,21,52,32,23,11,54,26,40,15,34,20,31,10,25,14,19,9,13,8,7,6].map fun n => .int .u8 n
theorem Nd : ahA tabC (JN Tryz.prog [0] [] 100000 60 13 [] (OU tabC)) = true := by decide +kernel
theorem ac.keeps {P : SP} {H H' : AH} (h : ac P H) (k : ∀ i, i < H.size → H'.get i = H.get i) : ac P H' := by
 obtain ⟨x, hx, hg⟩ := h
 exact ⟨x, hx, fun i o hi => by
  have := hg i o hi
  rw [k i (AH.lt_of_get this)]; exact this⟩
theorem abJ {H0 : AH} (hT : H0.get 0 = some (.cells true tabC)) : Hs (fix H0) 0 (.cells true tabC) := ⟨fun h => (Fx.refl H0).fx h 0 _ hT⟩
theorem WI {H0 : AH} {v : Value} {l : List Int} (h : Abs H0 (.slice (.int .i64)) l [v]) : Rd (fix H0) v 1 cr l :=
 Rd.arg (t := .int .i64) (enc := cr) (E := inferInstanceAs (Enc cr 1)) (fun x c h => h.1) h
abbrev ITy : Ty := .int .i64
abbrev CfgTy : Ty := .pair ITy (.pair ITy (.pair ITy (.pair ITy (.pair (.int .u64) .unit))))
abbrev ClTy : Ty := .pair ITy (.pair ITy (.pair ITy (.pair ITy .unit)))
def ajB (x : ClTy.I) : Cl := ⟨x.1, x.2.1, x.2.2.1, x.2.2.2.1⟩
theorem apD {H : AH} {x : ClTy.I} {cs : List Value} (h : Abs H ClTy x cs) : cs = Cl.cells (ajB x) := by
 obtain ⟨c1, c2, rfl, h1, c3, c4, rfl, h2, c5, c6, rfl, h3, c7, c8, rfl, h4, h5⟩ := h;have h5 : c8 = [] := h5;rw [h1.1, h2.1, h3.1, h4.1, h5]
 rfl
theorem akU {H : AH} {x : CfgTy.I} {cs : List Value} (h : Abs H CfgTy x cs) : ∃ c : i5, cs = i5.cells c := by
 obtain ⟨c1, c2, rfl, h1, c3, c4, rfl, h2, c5, c6, rfl, h3, c7, c8, rfl, h4, c9, c10, rfl, h5, h6⟩ := h;have h6 : c10 = [] := h6;obtain ⟨e5, hw⟩ := h5
 have : 0 ≤ x.2.2.2.2.1 ∧ x.2.2.2.2.1 ≤ 18446744073709551615 := by simpa [Lit.wf, IntKind.has, IntKind.min, IntKind.max, IntKind.bits, IntKind.signed] using hw
 refine ⟨⟨x.1, x.2.1, x.2.2.1, x.2.2.2.1, x.2.2.2.2.1.toNat⟩, ?_⟩;rw [h1.1, h2.1, h3.1, h4.1, e5, h6];show _ = [vi x.1, vi x.2.1, vi x.2.2.1, vi x.2.2.2.1, .int .u64 ((x.2.2.2.2.1.toNat : Nat) : Int)];rw [Int.toNat_of_nonneg this.1]
 rfl
theorem Px {H0 : AH} {v : Value} {l : List ClTy.I} (h : Abs H0 (.slice ClTy) l [v]) : Rd (fix H0) v 4 Cl.cells (l.map ajB) := by
 have E : Enc (fun x : ClTy.I => Cl.cells (ajB x)) ClTy.w := ⟨fun _ => rfl, fun _ => rfl, by decide⟩;have r := Rd.arg (t := ClTy) (enc := fun x => Cl.cells (ajB x)) (E := E) (fun x c hx => apD hx) h;refine ⟨fun {H} hh => ?_⟩;have := r.rd hh;rw [List.flatMap_map, us];exact this
theorem aaK {P : SP} {H : AH} {k : Value × AH → OV} {Q : Value → AH → Prop} (h : ac P H) [i : Hs P 0 (.cells true tabC)] (hk : ∀ H', ac P H' → wp (k (vb true, H')) Q) : wp ((FF sG [] H).bind k) Q := by
 obtain ⟨H', e, _, hg⟩ := PH (D := []) (fun j hj => by cases hj) (by decide) Nd (i.get h);have e' : FF sG [] H = some (vb true, H') := e;rw [e'];exact hk H' (h.keeps hg)
structure New (σ : aM) (k : Nat) : Prop where
 si : SI σ k
 js : ∀ l, l.1 ≠ 10 → σ.μ.V l = 0
theorem um {flow : Int} {obj : Nat} (h : obj < 4294967296) : cG flow obj % 4294967296 = obj := by
 unfold cG;omega
theorem New.lay {σ : aM} {k : Nat} (h : New σ k) (ho : σ.obs.length < 90) (f w most : Int) (hf : 0 ≤ f ∧ f < 1000) : New (σ.lay f w most) (k + 4) := by
 obtain ⟨⟨c, N, E, pts, V, obs, cells, slot, head⟩, js⟩ := h;obtain ⟨q1, q2, q3⟩ := ua most
 have hsl : cG f σ.obs.length < 18446744073709551616 := by unfold cG; omega
 have hlen : (σ.lay f w most).obs.length = σ.obs.length + 1 := by simp [aM.lay, aM.make]
 refine ⟨⟨c, by simp [aM.lay, aM.make]; omega, by simp [aM.lay, aM.make]; omega, by simp [aM.lay, aM.make]; omega, fun l => ?_, by rw [hlen]; omega, fun o ho2 => ?_, fun s i => ?_, fun o => ?_⟩, fun l hl => ?_⟩
 ·show (if l = (10, f.tmod σ.c.sh, f.tdiv σ.c.sh) then cG f σ.obs.length else σ.μ.V l) < _
  split
  ·exact hsl
  ·exact V l
 ·rw [hlen] at ho2
  unfold az;show 1 ≤ ((((σ.obs ++ [_])[o]?).map _).getD []).length ∧ ((((σ.obs ++ [_])[o]?).map _).getD []).length < 1000
  by_cases e : o < σ.obs.length
  ·rw [List.getElem?_append_left e]
   exact cells o e
  ·rw [show o = σ.obs.length from by omega, List.getElem?_append_right (bv _), Nat.sub_self]
   show 1 ≤ (List.replicate (dv most) HH).length ∧ (List.replicate (dv most) HH).length < 1000;rw [List.length_replicate];omega
 ·rw [hlen]
  show (if (10, s, i) = ((10 : Int), f.tmod σ.c.sh, f.tdiv σ.c.sh) then cG f σ.obs.length else σ.μ.V (10, s, i)) ≠ 0 → (if (10, s, i) = ((10 : Int), f.tmod σ.c.sh, f.tdiv σ.c.sh) then cG f σ.obs.length else σ.μ.V (10, s, i)) % 4294967296 < _
  split
  ·intro _
   rw [um (by omega)];omega
  ·intro hv
   have := slot s i hv;omega
 ·show (if ((12 : Int), (o : Int), (0 : Int)) = (10, f.tmod σ.c.sh, f.tdiv σ.c.sh) then cG f σ.obs.length else σ.μ.V (12, o, 0)) ≤ _
  rw [if_neg (by simp)];have := head o;omega
 ·show (if l = (10, f.tmod σ.c.sh, f.tdiv σ.c.sh) then cG f σ.obs.length else σ.μ.V l) = 0
  rw [if_neg (fun e => hl (by rw [e]))];exact js l hl
theorem agR (c : i5) (hc : cQ c = true) : ∀ n, n ≤ 16 → New (aM.made c n) (4 * n) := by
 intro n
 induction n with
 | zero =>
  intro _;exact ⟨⟨hc, bv _, bv _, bv _, fun _ => (by show (0 : Nat) < _; omega), (by show (0 : Nat) ≤ _; omega), fun o ho => (by cases ho), fun s i h => absurd rfl h, fun o => bv _⟩, fun _ _ => rfl⟩
 | succ n ih =>
  intro hn;have h := ih (by omega);have hm := (Re c n).2.2;unfold aM.made
  split
  ·exact h.lay (by omega) _ _ _ (by omega)
  ·exact ⟨h.si.mono (by omega), h.js⟩
abbrev aM.bump (σ : aM) (n : Nat) : aM := { σ with μ := { σ.μ with N := σ.μ.N + n } }
theorem SI.bump {σ : aM} {k : Nat} (h : SI σ k) (n : Nat) : SI (σ.bump n) (k + n) :=
 ⟨h.c, by have := h.N; show σ.μ.N + n ≤ _; omega, eA h.E (by omega), eA h.pts (by omega), h.V, eA h.obs (by omega), h.cells, h.slot, fun o => eA (h.head o) (by omega)⟩
theorem SI.clear {σ : aM} {k : Nat} (h : SI σ k) (s i : Int) : SI (σ.mem (σ.μ.put (10, s, i) 0)) k := by
 refine ⟨h.c, h.N, h.E, h.pts, fun x => ?_, h.obs, h.cells, fun s' i' => ?_, fun o => ?_⟩
 ·show (if x = (10, s, i) then 0 else σ.μ.V x) < _
  split
  ·omega
  ·exact h.V x
 ·show (if ((10 : Int), s', i') = (10, s, i) then 0 else σ.μ.V (10, s', i')) ≠ 0 → (if ((10 : Int), s', i') = (10, s, i) then 0 else σ.μ.V (10, s', i')) % _ < _
  split
  ·intro h; exact absurd rfl h
  ·exact h.slot s' i'
 ·show (if ((12 : Int), (o : Int), (0 : Int)) = (10, s, i) then 0 else σ.μ.V (12, o, 0)) ≤ _
  rw [if_neg (by simp)];exact h.head o
theorem ajS {α : Type} {P : SP} {H : AH} {s : Value} {enc : α → List Value} {l : List α} {i : Nat} {kk : IntKind} {v : Value} {Q : Value → AH → Prop} {k : Value → OV} (h : ac P H) [r : Rd P s 1 enc l] [E : Enc enc 1] (hi : i < l.length) (hv : enc l[i] = [v])
 (hk : ∀ a : Value, (∀ {P' : SP} {H' : AH}, ac P' H' → [Rd P' s 1 enc l] → aq a H' = some v) → wp (k a) Q) : wp (ad [.i 1 (.int kk (i : Int))] s k) Q := by
 obtain ⟨b, o, ro, row, rfl, h2, h3, h4⟩ := GR (s := s) (enc := enc) (l := l) h hi;rw [WD hi];refine hk (qL b (o + i * 1)) fun {P' H'} h' _ => ?_;obtain ⟨b', o', ro', row', e', h2', h3', h4'⟩ := GR (s := .slice (some ⟨b, o, none⟩) l.length 1) (enc := enc) (l := l) h' hi
 obtain ⟨rfl, rfl⟩ : b = b' ∧ o = o' := by simpa using e'
 have c := VZ (enc := enc) (l := l) (g := 0) h4' hi (by omega);rw [hv] at c;simp only [aq, uU, ei, bJ, h2'];exact c
section
variable (p x : Nat) (rp : List Nat) (σ : aM) (K : Nat)
theorem aqI (who : Int) (hN : σ.μ.N < 800000) : Sp d9 [vp p, vi who] (bd p rp σ) (fun _ : Unit => .tuple #[]) (fun _ => bd p rp (σ.mem (σ.μ.cnt who (2, 0, 0) 1))) := by
 intro R H h;obtain ⟨g, hrp, hg, h1⟩ := dz h;obtain ⟨y, H', e, h2⟩ := Oh p g σ who hN R H h1;exact ⟨y, H', e, bB g hrp hg h2⟩
theorem aqJ (who : Int) (hN : σ.μ.N < 800000) : Sp fJ [vp x, vi who] (aJ x σ) (fun _ : Unit => .tuple #[]) (fun _ => aJ x (σ.mem (σ.μ.cnt who (2, 0, 0) 1))) := by
 intro R H h;obtain ⟨g, hg, h1⟩ := dW h;obtain ⟨y, H', e, h2⟩ := Pf x g σ who hN R H h1;exact ⟨y, H', e, cN g ⟨hg.1, hg.2.1, eA hg.2.2 (by simp)⟩ h2⟩
theorem Bl {P : SP} {H : AH} {Q : Value → AH → Prop} {k : Value × AH → OV} {a b : Int} (h : ac P H) (h0 : 0 < b) (h1 : b < 9223372036854775808) (hk : ∀ H', ac P H' → wp (k (vi (ez a b), H')) Q) : wp ((FF bz [vi a, vi b] H).bind k) Q := by
 refine af h (da a b h0 h1) fun _ H1 h2 => ?_;exact hk H1 h2.to
end
theorem SI.slotput {σ : aM} {k : Nat} (h : SI σ k) (s i f : Int) (o : Nat) (hf : 0 ≤ f ∧ f ≤ 1048576) (ho : o < σ.obs.length) (hk : k < 400000) : SI (σ.mem (σ.μ.put (10, s, i) (cG f o))) k := by
 have hob := h.obs
 have hsl : cG f o < 18446744073709551616 := by unfold cG; omega
 refine ⟨h.c, h.N, h.E, h.pts, fun x => ?_, h.obs, h.cells, fun s' i' => ?_, fun o' => ?_⟩
 ·show (if x = (10, s, i) then cG f o else σ.μ.V x) < _
  split
  ·exact hsl
  ·exact h.V x
 ·show (if ((10 : Int), s', i') = (10, s, i) then cG f o else σ.μ.V (10, s', i')) ≠ 0 → (if ((10 : Int), s', i') = (10, s, i) then cG f o else σ.μ.V (10, s', i')) % _ < _
  split
  ·intro _
   rw [um (by omega)];exact ho
  ·exact h.slot s' i'
 ·show (if ((12 : Int), (o' : Int), (0 : Int)) = (10, s, i) then cG f o else σ.μ.V (12, o', 0)) ≤ _
  rw [if_neg (by simp)];exact h.head o'
theorem SI.make {σ : aM} {k : Nat} (h : SI σ k) (who : Int) (o : Ob) : SI (σ.make who o) (k + 3) := by
 obtain ⟨c, N, E, pts, V, obs, cells, slot, head⟩ := h;obtain ⟨q1, q2, q3⟩ := ua o.most
 have hlen : (σ.make who o).obs.length = σ.obs.length + 1 := by simp [aM.make]
 refine ⟨c, by simp [aM.make]; omega, by simp [aM.make]; omega, by simp [aM.make]; omega, V, by rw [hlen]; omega, fun o' ho2 => ?_, fun s i hv => ?_, fun o' => ?_⟩
 ·rw [hlen] at ho2
  unfold az;show 1 ≤ ((((σ.obs ++ [_])[o']?).map _).getD []).length ∧ ((((σ.obs ++ [_])[o']?).map _).getD []).length < 1000
  by_cases e : o' < σ.obs.length
  ·rw [List.getElem?_append_left e]
   exact cells o' e
  ·rw [show o' = σ.obs.length from by omega, List.getElem?_append_right (bv _), Nat.sub_self]
   show 1 ≤ (List.replicate (dv o.most) HH).length ∧ (List.replicate (dv o.most) HH).length < 1000;rw [List.length_replicate];omega
 ·rw [hlen]
  have := slot s i hv;show σ.μ.V (10, s, i) % 4294967296 < _;omega
 ·have := head o'
  show σ.μ.V (12, o', 0) ≤ _;omega
structure KeptR (σ : aM) (t : Tk) (r : aM × Tk × Bool) (k : Nat) : Prop where
 si : SI r.1 (k + 3)
 c : r.1.c = σ.c
 obs : σ.obs.length ≤ r.1.obs.length
 ok : r.2.2 = false → mN r.1 r.2.1
 x : r.2.1.x = t.x
 who : r.2.1.who = t.who
section
variable {σ : aM} {t : Tk} {k : Nat}
theorem Jj (h : SI σ k) (T : mN σ t) (hat : t.at' < 4) (hx : uA t.x = none) : KeptR σ t (fm σ t) k := by
 have hs : SI (lM σ t) (k + 3) := (h.swp t.who (8, t.s, 0) 0 1 (by omega) (by simp) (by simp)).mono (by omega)
 by_cases hw : σ.μ.V (8, t.s, 0) = 0
 ·have e : fm σ t = (lM σ t, { t with at' := 3 }, false) := by unfold fm; rw [if_pos hw]
  rw [e];exact ⟨hs, rfl, bv _, fun _ => ⟨T.s, fun _ => T.i hat, fun _ => hx, .inr (.inr (.inl rfl)), by simp, by simp, T.w⟩, rfl, rfl⟩
 ·have e : fm σ t = (lM σ t, { t with at' := 2 }, false) := by unfold fm; rw [if_neg hw]
  rw [e];exact ⟨hs, rfl, bv _, fun _ => ⟨T.s, fun _ => T.i hat, fun _ => hx, .inr (.inl rfl), by simp, by simp, T.w⟩, rfl, rfl⟩
theorem O2 (h : SI σ k) : SI (ig σ t) (k + 3) := ((h.acc t.who 2 (8, t.s, 0)).put (8, t.s, 0) 0 (by omega) (by simp) (.inl (by simp))).mono (by omega)
theorem Sb (h : SI σ k) (T : mN σ t) (now : Int) (hat : t.at' = 3) : KeptR σ t (ay σ t now) k := by
 have hc := bL.1 h.c;have hx : uA t.x = none := T.x (by omega);have hi := T.i (by omega);have ha : SI (aY σ t) (k + 2) := h.acc t.who 1 (10, t.s, (t.i : Int));have hn : ∀ code, SI ((aY σ t).note now t.who code) (k + 3) := fun code => ha.note now t.who code
 by_cases hfd : (aC σ t).found = true
 ·by_cases ho : t.x.op = 1
  ·have e : ay σ t now = ((aY σ t).note now t.who 6, { aC σ t with at' := 6, code := 6 }, false) := by simp only [ay, hat]; rw [if_pos hfd, if_pos ho]
   rw [e];exact ⟨hn 6, rfl, bv _, fun _ => ⟨T.s, by simp, fun _ => hx, .inr (.inr (.inr (.inl ⟨by simp, by simp⟩))), by simp, fun hh => by simp [aC, ho] at hh, T.w⟩, rfl, rfl⟩
  ·have e : ay σ t now = (aY σ t, { aC σ t with at' := 4 }, false) := by simp only [ay, hat]; rw [if_pos hfd, if_neg ho]
   have hob : (aC σ t).obj < σ.obs.length := by
    show (if (aC σ t).found = true then σ.μ.V (10, t.s, (t.i : Int)) % 4294967296 else t.obj) < _;rw [if_pos hfd];refine h.slot t.s t.i fun h0 => ?_;have : qn (σ.μ.V (10, t.s, (t.i : Int))) t.x.flow = true := hfd;rw [h0] at this;cases this
   rw [e];exact ⟨ha.mono (by omega), rfl, bv _, fun _ => ⟨T.s, by simp, fun _ => hx, .inr (.inr (.inr (.inl ⟨by simp, by simp⟩))), fun _ hh => absurd hh ho, fun _ => hob, T.w⟩, rfl, rfl⟩
 ·have hli : (aC σ t).i = t.i + 1 := by
   show (if (aC σ t).found = true then t.i else t.i + 1) = _;rw [if_neg hfd]
  by_cases hla : cn σ (aC σ t) = true
  ·by_cases ho : t.x.op = 1
   ·by_cases hm : (aC σ t).mark < 0
    ·have e : ay σ t now = ((aY σ t).note now t.who 7, { aC σ t with at' := 6, code := 7 }, false) := by simp only [ay, hat]; rw [if_neg hfd, if_pos hla, if_pos ho, if_pos hm]
     rw [e];exact ⟨hn 7, rfl, bv _, fun _ => ⟨T.s, by simp, fun _ => hx, .inr (.inr (.inr (.inl ⟨by simp, by simp⟩))), by simp, fun hh => by simp [aC, ho] at hh, T.w⟩, rfl, rfl⟩
    ·have e : ay σ t now = (aY σ t, { aC σ t with at' := 4 }, false) := by simp only [ay, hat]; rw [if_neg hfd, if_pos hla, if_pos ho, if_neg hm]
     rw [e];exact ⟨ha.mono (by omega), rfl, bv _, fun _ => ⟨T.s, by simp, fun _ => hx, .inr (.inr (.inr (.inl ⟨by simp, by simp⟩))), fun _ _ => by show 0 ≤ (aC σ t).mark; omega, fun hh => by simp [aC, ho] at hh, T.w⟩, rfl, rfl⟩
   ·have e : ay σ t now = ((aY σ t).note now t.who 5, { aC σ t with at' := 10, code := 5 }, false) := by simp only [ay, hat]; rw [if_neg hfd, if_pos hla, if_neg ho]
    rw [e];exact ⟨hn 5, rfl, bv _, fun _ => ⟨T.s, by simp, fun _ => hx, .inr (.inr (.inr (.inr ⟨ho, by simp, by simp⟩))), by simp, by simp, T.w⟩, rfl, rfl⟩
  ·have e : ay σ t now = (aY σ t, aC σ t, false) := by simp only [ay, hat]; rw [if_neg hfd, if_neg hla]
   have hil : ((aC σ t).i : Int) < σ.c.sl := by
    have hla2 : cn σ (aC σ t) = decide (σ.c.sl ≤ ((aC σ t).i : Int)) := rfl;rw [hla2] at hla;have := of_decide_eq_false (by simpa using hla : decide (σ.c.sl ≤ ((aC σ t).i : Int)) = false);omega
   have hat' : (aC σ t).at' = 3 := hat;rw [e];exact ⟨ha.mono (by omega), rfl, bv _, fun _ => ⟨T.s, fun _ => hil, fun _ => hx, .inr (.inr (.inl hat')), by show (aC σ t).at' = 4 ∨ (aC σ t).at' = 5 → _; omega, by show (aC σ t).at' = 5 ∧ _ ∨ 4 ≤ (aC σ t).at' ∧ _ → _; omega, T.w⟩, rfl, rfl⟩
theorem Ha (now : Int) (hk : k < 300000) (h : SI σ k) (T : mN σ t) : KeptR σ t (ay σ t now) k := by
 rcases T.ats with hat | hat | hat | hat | hat
 ·cases hx : uA t.x with
  | some e =>
   have hs : ay σ t now = (σ.note now t.who e, { t with code := e }, true) := by simp only [ay, hat, hx]
   rw [hs];exact ⟨(h.note now t.who e).mono (by omega), rfl, bv _, (fun h => by cases h), rfl, rfl⟩
  | none =>
   have hs : ay σ t now = fm σ t := by simp only [ay, hat, hx]
   rw [hs];exact Jj h T (by omega) hx
 ·have hs : ay σ t now = fm σ t := by simp only [ay, hat]
  rw [hs];exact Jj h T (by omega) (T.x (by omega))
 ·exact Sb h T now hat
 all_goals
  have hx : uA t.x = none := T.x (by omega);have hx2 := zk hx
  have fin : ay σ t now = (ig σ t, t, true) → KeptR σ t (ay σ t now) k := fun hs => by
   rw [hs];exact ⟨O2 h, rfl, bv _, (fun h => by cases h), rfl, rfl⟩
  by_cases ho : t.x.op = 1
  ·by_cases h4 : t.at' = 4
   ·have hst : ay σ t now = (σ.make t.who (HZ σ t), { t with obj := σ.obs.length, at' := 5 }, false) := by rw [mn σ t now ho (by omega)]; simp only [Dq, h4]
    rw [hst];exact ⟨h.make t.who (HZ σ t), rfl, by simp [aM.make], fun _ => ⟨T.s, by simp, fun _ => hx, .inr (.inr (.inr (.inl ⟨by simp, by simp⟩))), fun _ _ => T.mark (.inl h4) ho, fun _ => by simp [aM.make], T.w⟩, rfl, rfl⟩
   by_cases h5 : t.at' = 5
   ·have hst : ay σ t now = ((σ.mem ((σ.μ.acc t.who 2 (10, t.s, t.mark)).put (10, t.s, t.mark) (cG t.x.flow t.obj))).note now t.who 0, { t with at' := 6, code := 0 }, false) := by rw [mn σ t now ho (by omega)]; simp only [Dq, h5]
    rw [hst];have hob := T.obj (.inl ⟨h5, ho⟩);exact ⟨((h.acc t.who 2 (10, t.s, t.mark)).slotput t.s t.mark t.x.flow t.obj hx2.1 hob (by omega)).note now t.who 0, rfl, bv _, fun _ => ⟨T.s, by simp, fun _ => hx, .inr (.inr (.inr (.inl ⟨by simp, by simp⟩))), by simp, fun hh => by simp [ho] at hh, T.w⟩, rfl, rfl⟩
   have h6 : t.at' = 6 := by omega
   exact fin (by rw [mn σ t now ho (by omega)]; simp only [Dq, h6])
  ·have hm : ∀ {u : Tk}, u.x = t.x → (u.at' = 4 ∨ u.at' = 5 → u.x.op = 1 → 0 ≤ u.mark) := fun e _ hh => absurd (by rw [← e]; exact hh) ho
   by_cases h4 : t.at' = 4
   ·have hob := T.obj (.inr ⟨by omega, by omega, ho⟩)
    have hS : SI (dg σ t) (k + 3) := (h.acc t.who 1 (11, (t.obj : Int), 0)).mono (by omega)
    by_cases hw : aN (σ.μ.V (11, (t.obj : Int), 0)) = 0
    ·have hst : ay σ t now = (dg σ t, { t with w := σ.μ.V (11, (t.obj : Int), 0), at' := 8 }, false) := by rw [bO σ t now ho (by omega)]; simp only [fY, h4]; rw [if_pos hw]
     rw [hst];exact ⟨hS, rfl, bv _, fun _ => ⟨T.s, by simp, fun _ => hx, .inr (.inr (.inr (.inr ⟨ho, by simp, by simp⟩))), hm rfl, fun _ => hob, h.V _⟩, rfl, rfl⟩
    ·have hst : ay σ t now = (dg σ t, { t with w := σ.μ.V (11, (t.obj : Int), 0), at' := 5 }, false) := by rw [bO σ t now ho (by omega)]; simp only [fY, h4]; rw [if_neg hw]
     rw [hst];exact ⟨hS, rfl, bv _, fun _ => ⟨T.s, by simp, fun _ => hx, .inr (.inr (.inr (.inl ⟨by simp, by simp⟩))), hm rfl, fun _ => hob, h.V _⟩, rfl, rfl⟩
   by_cases h5 : t.at' = 5
   ·have hob := T.obj (.inr ⟨by omega, by omega, ho⟩)
    have hS : SI (eD σ t) (k + 3) := (h.acc t.who 1 (2, 0, 0)).mono (by omega)
    by_cases hw : σ.μ.V (2, 0, 0) % 2 = 1
    ·have hst : ay σ t now = (eD σ t, { t with q := σ.μ.V (2, 0, 0), at' := 4 }, false) := by rw [bO σ t now ho (by omega)]; simp only [fY, h5]; rw [if_pos hw]
     rw [hst];exact ⟨hS, rfl, bv _, fun _ => ⟨T.s, by simp, fun _ => hx, .inr (.inr (.inr (.inl ⟨by simp, by simp⟩))), hm rfl, fun _ => hob, T.w⟩, rfl, rfl⟩
    ·have hst : ay σ t now = (eD σ t, { t with q := σ.μ.V (2, 0, 0), at' := 6 }, false) := by rw [bO σ t now ho (by omega)]; simp only [fY, h5]; rw [if_neg hw]
     rw [hst];exact ⟨hS, rfl, bv _, fun _ => ⟨T.s, by simp, fun _ => hx, .inr (.inr (.inr (.inl ⟨by simp, by simp⟩))), hm rfl, fun _ => hob, T.w⟩, rfl, rfl⟩
   by_cases h6 : t.at' = 6
   ·have hob := T.obj (.inr ⟨by omega, by omega, ho⟩)
    have hS : SI (dg σ t) (k + 3) := (h.acc t.who 1 (11, (t.obj : Int), 0)).mono (by omega)
    by_cases hw : aN (σ.μ.V (11, (t.obj : Int), 0)) = 0
    ·have hst : ay σ t now = (dg σ t, { t with w := σ.μ.V (11, (t.obj : Int), 0), mark := now, at' := 8 }, false) := by rw [bO σ t now ho (by omega)]; simp only [fY, h6]; rw [if_pos hw]
     rw [hst];exact ⟨hS, rfl, bv _, fun _ => ⟨T.s, by simp, fun _ => hx, .inr (.inr (.inr (.inr ⟨ho, by simp, by simp⟩))), hm rfl, fun _ => hob, h.V _⟩, rfl, rfl⟩
    ·have hst : ay σ t now = (dg σ t, { t with w := σ.μ.V (11, (t.obj : Int), 0), mark := now, at' := 7 }, false) := by rw [bO σ t now ho (by omega)]; simp only [fY, h6]; rw [if_neg hw]
     rw [hst];exact ⟨hS, rfl, bv _, fun _ => ⟨T.s, by simp, fun _ => hx, .inr (.inr (.inr (.inr ⟨ho, by simp, by simp⟩))), hm rfl, fun _ => hob, h.V _⟩, rfl, rfl⟩
   by_cases h7 : t.at' = 7
   ·have hob := T.obj (.inr ⟨by omega, by omega, ho⟩)
    have hS : SI (eD σ t) (k + 2) := h.acc t.who 1 (2, 0, 0)
    by_cases hw : σ.μ.V (2, 0, 0) = t.q
    ·have hst : ay σ t now = ((eD σ t).note t.mark t.who 8, { t with at' := 10, code := 8 }, false) := by rw [bO σ t now ho (by omega)]; simp only [fY, h7]; rw [if_pos hw]
     rw [hst];exact ⟨hS.note t.mark t.who 8, rfl, bv _, fun _ => ⟨T.s, by simp, fun _ => hx, .inr (.inr (.inr (.inr ⟨ho, by simp, by simp⟩))), hm rfl, by simp, T.w⟩, rfl, rfl⟩
    ·have hst : ay σ t now = (eD σ t, { t with at' := 4 }, false) := by rw [bO σ t now ho (by omega)]; simp only [fY, h7]; rw [if_neg hw]
     rw [hst];exact ⟨hS.mono (by omega), rfl, bv _, fun _ => ⟨T.s, by simp, fun _ => hx, .inr (.inr (.inr (.inl ⟨by simp, by simp⟩))), hm rfl, fun _ => hob, T.w⟩, rfl, rfl⟩
   by_cases h8 : t.at' = 8
   ·have hob := T.obj (.inr ⟨by omega, by omega, ho⟩)
    have hS : SI (σ.mem (σ.μ.turn t.who t.obj t.w (aP t.w 2))) (k + 2) := h.turn t.who t.obj t.w 2;have hc : (σ.mem (σ.μ.turn t.who t.obj t.w (aP t.w 2))).c = σ.c := rfl
    cases hw : dT σ.μ t.obj t.w (aP t.w 2) with
    | true =>
     have hst : ay σ t now = ((σ.mem (σ.μ.turn t.who t.obj t.w (aP t.w 2))).note now t.who 0, { t with at' := 9, code := 0 }, false) := by rw [bO σ t now ho (by omega)]; simp only [fY, h8]; rw [if_pos hw]
     rw [hst];exact ⟨hS.note now t.who 0, rfl, bv _, fun _ => ⟨T.s, by simp, fun _ => hx, .inr (.inr (.inr (.inr ⟨ho, by simp, by simp⟩))), hm rfl, fun _ => hob, T.w⟩, rfl, rfl⟩
    | false =>
     have hst : ay σ t now = (σ.mem (σ.μ.turn t.who t.obj t.w (aP t.w 2)), { t with at' := 4 }, false) := by rw [bO σ t now ho (by omega)]; simp only [fY, h8]; rw [if_neg (by rw [hw]; simp)]
     rw [hst];exact ⟨hS.mono (by omega), rfl, bv _, fun _ => ⟨T.s, by simp, fun _ => hx, .inr (.inr (.inr (.inl ⟨by simp, by simp⟩))), hm rfl, fun _ => hob, T.w⟩, rfl, rfl⟩
   by_cases h9 : t.at' = 9
   ·have hst : ay σ t now = (σ.mem ((σ.μ.acc t.who 2 (10, t.s, (t.i : Int))).put (10, t.s, (t.i : Int)) 0), { t with at' := 10 }, false) := by rw [bO σ t now ho (by omega)]; simp only [fY, h9]
    rw [hst];exact ⟨((h.acc t.who 2 (10, t.s, (t.i : Int))).clear t.s t.i).mono (by omega), rfl, bv _, fun _ => ⟨T.s, by simp, fun _ => hx, .inr (.inr (.inr (.inr ⟨ho, by simp, by simp⟩))), hm rfl, by simp, T.w⟩, rfl, rfl⟩
   have h10 : t.at' = 10 := by omega
   exact fin (by rw [bO σ t now ho (by omega)]; simp only [fY, h10])
end
theorem mN.new {σ : aM} (hc : cQ σ.c = true) (who : Int) (x : Cl) : mN σ (Tk.newR σ.c who x) := by
 have := bL.1 hc;exact ⟨rfl, fun _ => by simp; omega, by simp, .inl rfl, by simp, by simp, by simp⟩
theorem mN.mono {σ σ' : aM} {t : Tk} (T : mN σ t) (hc : σ'.c = σ.c) (ho : σ.obs.length ≤ σ'.obs.length) : mN σ' t :=
 ⟨by rw [hc]; exact T.s, by rw [hc]; exact T.i, T.x, T.ats, T.mark, fun h => Nat.lt_of_lt_of_le (T.obj h) ho, T.w⟩
theorem ij.mono' {σ σ' : aM} {t : Tk} (T : ij σ t) (hc : σ'.c = σ.c) (ho : σ.obs.length ≤ σ'.obs.length) : ij σ' t :=
 ⟨fun h => Nat.lt_of_lt_of_le (T.obj h) ho, by rw [hc]; exact T.s, by rw [hc]; exact T.i, T.w, T.c5, T.c0, T.ats⟩
theorem Wa (σ : aM) (t : Tk) (now : Int) : (ap σ t now).2.1.x = t.x := by
 unfold ap;dsimp only
 repeat' split
 all_goals rfl
theorem Z2 (σ : aM) (t : Tk) (now : Int) : (ap σ t now).1.obs.length = σ.obs.length := by
 unfold ap;dsimp only
 repeat' split
 all_goals first | rfl | exact jq σ t
def fW (σ : aM) (t : Tk) (now : Int) : aM × Tk × Bool := if t.x.op = 3 then ap σ t now else ay σ t now
def aT (e p : Nat) (rp : List Nat) (t : Tk) : SP := if t.x.op = 3 then eT e p rp t else rT e p rp t
def zT (xb x : Nat) (t : Tk) : SP := if t.x.op = 3 then xT xb x t else yT xb x t
def aU (e p : Nat) (rp : List Nat) (r : aM × Tk × Bool) : SP := if r.2.2 = true then emp else aT e p rp r.2.1
def zU (xb x : Nat) (r : aM × Tk × Bool) : SP := if r.2.1.x.op = 3 then xU xb x r else yU xb x r
structure Pp (σ : aM) (t : Tk) : Prop where
 e : t.x.op = 3 → ij σ t
 r : t.x.op ≠ 3 → mN σ t
def Tk.newA (c : i5) (who : Int) (x : Cl) : Tk := if x.op = 3 then Tk.new c who x else Tk.newR c who x
abbrev tkV (op : Int) (e xb : Nat) : List Value := [if op = 3 then vp e else .pointer none, if op = 3 then .pointer none else vp e, vp xb]
theorem ai9 {op : Int} {e xb : Nat} (ho : op = 3) : tkV op e xb = [vp e, .pointer none, vp xb] := by simp [tkV, ho]
theorem ajA {op : Int} {e xb : Nat} (ho : op ≠ 3) : tkV op e xb = [.pointer none, vp e, vp xb] := by simp [tkV, ho]
structure KeptA (σ : aM) (t : Tk) (r : aM × Tk × Bool) (k : Nat) : Prop where
 si : SI r.1 (k + 3)
 c : r.1.c = σ.c
 obs : σ.obs.length ≤ r.1.obs.length
 ok : r.2.2 = false → Pp r.1 r.2.1
 x : r.2.1.x = t.x
theorem Sn {σ : aM} {t : Tk} {k : Nat} (now : Int) (hk : k < 300000) (h : SI σ k) (T : Pp σ t) : KeptA σ t (fW σ t now) k := by
 by_cases ho : t.x.op = 3
 ·rw [show fW σ t now = ap σ t now from if_pos ho]
  have K := Z7 now hk h (T.e ho);have hx := Wa σ t now;exact ⟨K.si, K.c, Nat.le_of_eq (Z2 σ t now).symm, fun hf => ⟨fun _ => K.ok hf, fun hn => absurd (by rw [hx]; exact ho) hn⟩, hx⟩
 ·rw [show fW σ t now = ay σ t now from if_neg ho]
  have K := Ha now hk h (T.r ho);exact ⟨K.si, K.c, K.obs, fun hf => ⟨fun hn => absurd (by rw [K.x] at hn; exact hn) ho, fun _ => K.ok hf⟩, K.x⟩
theorem Pp.new {σ : aM} (hc : cQ σ.c = true) (who : Int) (x : Cl) : Pp σ (Tk.newA σ.c who x) := by
 by_cases ho : x.op = 3
 ·rw [show Tk.newA σ.c who x = Tk.new σ.c who x from if_pos ho]
  exact ⟨fun _ => ij.new hc who x, fun h => absurd ho h⟩
 ·rw [show Tk.newA σ.c who x = Tk.newR σ.c who x from if_neg ho]
  exact ⟨fun h => absurd h ho, fun _ => mN.new hc who x⟩
theorem Pp.mono {σ σ' : aM} {t : Tk} (T : Pp σ t) (hc : σ'.c = σ.c) (ho : σ.obs.length ≤ σ'.obs.length) : Pp σ' t := ⟨fun h => (T.e h).mono' hc ho, fun h => (T.r h).mono hc ho⟩
theorem apV (c : i5) (who : Int) (x : Cl) : (Tk.newA c who x).x = x := by unfold Tk.newA; split <;> rfl
theorem VK {l l' : List Nat} (h : l <+: l') {i b : Nat} (e : l[i]? = some b) : l'[i]? = some b := by
 obtain ⟨s, rfl⟩ := h;rw [List.getElem?_append_left (HU.1 e).1];exact e
theorem akM {e p : Nat} {rp rp' : List Nat} {t : Tk} {R : SP} {H : AH} (hp : rp <+: rp') (h : ac (aT e p rp t * R) H) : ac (aT e p rp' t * R) H := by
 unfold aT at h ⊢
 split
 ·rename_i ho
  rw [if_pos ho] at h;unfold eT at h ⊢;obtain ⟨v, h1⟩ := ac.ex.1 h;rw [ai, ac.pu] at h1;refine ac.ex.2 ⟨v, ?_⟩;rw [ai, ac.pu];exact ⟨fun h7 => by obtain ⟨b, e1, e2⟩ := h1.1 h7; exact ⟨b, VK hp e1, e2⟩, h1.2⟩
 ·rename_i ho
  rw [if_neg ho] at h;unfold rT at h ⊢;obtain ⟨k, h1⟩ := ac.ex.1 h;rw [ai, ac.pu] at h1;refine ac.ex.2 ⟨k, ?_⟩;rw [ai, ac.pu];obtain ⟨⟨q1, q2, q3⟩, h2⟩ := h1;refine ⟨⟨q1, q2, fun hn => ?_⟩, h2⟩;obtain ⟨a1, a2⟩ := q3 hn;exact ⟨fun g1 g2 => by obtain ⟨c1, b, e1, e2⟩ := a1 g1 g2; exact ⟨c1, b, VK hp e1, e2⟩, a2⟩
theorem ajC (xb x : Nat) (t : Tk) (C : Xk → Prop) (d : Bool) (c : Int) (hC : d = true → ∀ k, C k → k.code = c) (c' : Int) (hc' : c' = if d = true then c else 0) :
 Sp qt [vp xb, vb d] (ex fun k : Xk => pu (C k) * xB xb x t k) (fun _ : Unit => .agg (ie c').toArray) (fun _ => ex fun k : Xk => pu (C k) * xB xb x t k) := by
 subst hc';refine aO fun R H h => ?_;obtain ⟨k, h1⟩ := ac.ex.1 h;rw [ai, ac.pu] at h1;obtain ⟨hk, h1⟩ := h1;refine bm (fun r => N3 _ _ H) ?_;refine br h1 fun b H2 h2 => ?_;have back : ∀ {H' : AH}, ac (xB xb x t k * R) H' → ac ((ex fun k : Xk => pu (C k) * xB xb x t k) * R) H' := fun h => ac.ex.2 ⟨k, by rw [ai]; exact ac.pu.2 ⟨hk, h⟩⟩;cases d
 ·refine gs ?_
  refine jc ?_;refine fi h2 rfl rfl fun H3 h3 => ?_;refine aZ h3 ?_;exact am ⟨(), rfl, back h3.to⟩
 ·refine gs ?_
  have hk2 := hC rfl k hk;refine JT h2 ae ?_;rw [hk2];refine fi h2 rfl rfl fun H3 h3 => ?_;refine aZ h3 ?_;exact am ⟨(), rfl, back h3.to⟩
theorem aqH (xb x : Nat) (r : aM × Tk × Bool) : Sp qt [vp xb, vb r.2.2] (zU xb x r) (fun _ : Unit => .agg (ie (if r.2.2 = true then r.2.1.code else 0)).toArray) (fun _ => zU xb x r) := by
 unfold zU
 split
 ·exact ajC xb x r.2.1 _ r.2.2 r.2.1.code (fun hd k hk => by rw [if_pos hd] at hk; exact hk) _ rfl
 ·exact ajC xb x r.2.1 _ r.2.2 r.2.1.code (fun hd k hk => by rw [if_pos hd] at hk; exact hk) _ rfl
theorem apJ (d : Bool) : aj .bool .eql (vb d) (vb d) = some (vb true) := by cases d <;> rfl
section
variable (p x : Nat) (rp : List Nat)
theorem JQ {pb b6 b9 tb xb : Nat} {x0 x1 : Value} {c : Int} {σ : aM} {r : aM × Tk × Bool} {x7 x8 : Value} {R : SP} {H : AH} (hc : c = if r.2.2 = true then r.2.1.code else 0)
 (h : ac (blk tb (.cells false [x0, x1, vp xb]) * (blk pb (.cells false [vp p, vp x]) * (blk b6 (.cells false [vi 0, .slice none 0 0, vi 0, vw 0]) * (blk b9 (.cells false (ie c)) * (zU xb x r * (bd p rp σ * (aJ x σ * R))))))) H) :
 wp (gX (vp tb) (vp pb) (vp b6) x7 x8 (vp b9) (vb r.2.2) (vb r.2.2) H) fun v' H' => v' = .tuple #[.agg (ie c).toArray, vb r.2.2, vb true] ∧ ac (zU xb x r * (bd p rp σ * (aJ x σ * R))) H' := by
 refine ah (ur ..) ?_;refine aZ h ?_;refine aa (apJ _) ?_;refine gs ?_;refine aZ h ?_;refine gs ?_;refine ak h aD rfl ?_;refine gs ?_;refine af h (aqH xb x r) fun _ H1 h1 => ?_;rw [← hc];refine dX h1 h rfl ?_;refine dX h1 h rfl ?_;refine gs ?_;refine af h1 (agG c) fun _ H2 h2 => ?_;refine dX h2 h rfl ?_;refine gs ?_;refine ak h2 aD rfl ?_;refine gs ?_;obtain ⟨g, hrp, hg, k1⟩ := dz (p := p) (rp := rp) (σ := σ) (R := aJ x σ * (blk b9 (.cells false (ie c)) * (blk b6 (.cells false [vi 0, .slice none 0 0, vi 0, vw 0]) * (blk pb (.cells false [vp p, vp x]) * (zU xb x r * R))))) (H := H2) h2.to;obtain ⟨gx, hgx, l1⟩ := dW (p := x) (σ := σ) (R := aA p g σ * (blk b9 (.cells false (ie c)) * (blk b6 (.cells false [vi 0, .slice none 0 0, vi 0, vw 0]) * (blk pb (.cells false [vp p, vp x]) * (zU xb x r * R))))) (H := H2) k1.to;obtain ⟨kv, vv, ev, Z, m1, back⟩ := Zq (x := x) (g := gx) (σ := σ) (R := aA p g σ * (blk b9 (.cells false (ie c)) * (blk b6 (.cells false [vi 0, .slice none 0 0, vi 0, vw 0]) * (blk pb (.cells false [vp p, vp x]) * (zU xb x r * R))))) (H := H2) l1.to;refine gs ?_;refine ak m1 ae rfl ?_;refine gs ?_;have bl : Sp kF [vp g.m] (aA p g σ) (fun _ : Unit => vi σ.μ.E.length) (fun _ => aA p g σ) := SH (p := p) (g := g) (σ := σ) (amR g.m σ.μ);refine af m1 bl fun _ H3 m2 => ?_;refine dX m2 h rfl ?_;refine pX ?_;refine bC aD ?_;refine gs ?_;refine aV m2 rfl ?_;refine aI m1 m2 (by rfl) ?_;refine pX ?_;refine bC ae ?_;refine gs ?_;refine aV m2 rfl ?_;refine aI m1 m2 (by rfl) ?_;refine pX ?_;refine bC ae ?_;refine gs ?_;refine aV m2 rfl ?_;refine aI m1 m2 (by rfl) ?_;refine gs ?_;refine ii (s := ev) (l := σ.μ.E) m2 ?_;refine JS ?_;refine gs ?_;refine aa (bg rfl) ?_;refine gs ?_;refine fi m2 rfl rfl fun H4 m4 => ?_;refine aI m4 m2 (by rfl) ?_;refine aI m4 m2 (by rfl) ?_;refine aI m4 m2 (by rfl) ?_;refine JS ?_;refine aZ m4 ?_;have m3 := back (R' := aA p g σ * (zU xb x r * R)) (H' := H4) m4.to;have n4 := cN (p := x) (σ := σ) (R := aA p g σ * (zU xb x r * R)) gx hgx m3;have n5 := bB (p := p) (rp := rp) (σ := σ) (R := aJ x σ * (zU xb x r * R)) (H := H4) g hrp hg n4.to;exact am ⟨rfl, n5.to⟩
theorem aaG (e xb : Nat) (σ : aM) (t : Tk) (now : Int) (K : Nat) (S : SI σ K) (hK : K < 290000) (T : Pp σ t) :
 Sp lD [.agg (tkV t.x.op e xb).toArray, .agg [vp p, vp x].toArray, vi now] (aT e p rp t * (bd p rp σ * (zT xb x t * aJ x σ)))
  (fun _ : List Nat => .tuple #[.agg (ie (if (fW σ t now).2.2 = true then (fW σ t now).2.1.code else 0)).toArray, vb (fW σ t now).2.2, vb true])
  (fun rp' => pu (rp <+: rp') * (aU e p rp' (fW σ t now) * (zU xb x (fW σ t now) * (bd p rp' (fW σ t now).1 * aJ x (fW σ t now).1)))) := by
 refine aO fun R H h => ?_
 by_cases ho : t.x.op = 3
 ·have hA : fW σ t now = ap σ t now := if_pos ho
  have hx3 : (ap σ t now).2.1.x.op = 3 := by rw [Wa]; exact ho
  rw [hA, ai9 ho];refine bm (fun r => pE _ _ _ H) ?_;refine ba (l := [vp e, .pointer none, vp xb]) h fun tb H1 h1 => ?_;refine ba (l := [vp p, vp x]) h1 fun pb H2 h2 => ?_;refine br h2 fun b6 H3 h3 => ?_;refine br h3 fun b9 H4 h4 => ?_;refine ah (lL ..) ?_;refine ak h4 aD rfl ?_;refine aa (v := vb true) rfl ?_;refine gs ?_;refine ak h4 aD rfl ?_
  have h5 : ac (eP e p rp σ t * (xP xb x σ t * (blk tb (.cells false [vp e, .pointer none, vp xb]) * (blk pb (.cells false [vp p, vp x]) * (blk b6 (.cells false [vi 0, .slice none 0 0, vi 0, vw 0]) * (blk b9 (.cells false [vi 0, .slice none 0 0, vi 0, vw 0]) * R)))))) H4 := by
   rw [acF, ar4];unfold aT zT at h4;rw [if_pos ho, if_pos ho] at h4;exact h4.to
  refine af h5 (acH e p rp σ t now (S.ok (by omega)) (T.e ho)) fun _ H5 h6 => ?_;refine aa (v := .agg (ie (if (ap σ t now).2.2 = true then (ap σ t now).2.1.code else 0)).toArray) rfl ?_;refine aa (v := vb (ap σ t now).2.2) rfl ?_;refine fi h6 rfl rfl fun H7 h7 => ?_;refine ak h7 aD rfl ?_;refine af h7 (aaV xb x σ t now (S.ok (by omega)) (T.e ho)) fun _ H8 h8 => ?_;rw [ar5, arI] at h8;refine ajT ?_ (JQ p x rp (xb := xb) (x0 := vp e) (x1 := .pointer none) (pb := pb) (tb := tb) (b6 := b6) (b9 := b9) (σ := (ap σ t now).1) (r := ap σ t now) (R := eU e p rp (ap σ t now) * R) (H := H8) rfl (by unfold zU; rw [if_pos hx3]; exact h8.to))
  rintro v' H' ⟨rfl, h9⟩
  refine ⟨rp, rfl, ?_⟩;rw [ai, ac.pu];refine ⟨lm _, ?_⟩
  have ea : aU e p rp (ap σ t now) = eU e p rp (ap σ t now) := by
   unfold aU eU aT;rw [if_pos hx3]
  rw [ea];exact h9.to
 ·have hA : fW σ t now = ay σ t now := if_neg ho
  have KR := Ha now (by omega) S (T.r ho)
  have hx3 : ¬ (ay σ t now).2.1.x.op = 3 := by rw [KR.x]; exact ho
  rw [hA, ajA ho];refine bm (fun r => pE _ _ _ H) ?_;refine ba (l := [.pointer none, vp e, vp xb]) h fun tb H1 h1 => ?_;refine ba (l := [vp p, vp x]) h1 fun pb H2 h2 => ?_;refine br h2 fun b6 H3 h3 => ?_;refine br h3 fun b9 H4 h4 => ?_;refine ah (lL ..) ?_;refine ak h4 aD rfl ?_;refine aa (v := vb false) rfl ?_;refine gs ?_;refine ak h4 aD rfl ?_;refine aa (v := vb true) rfl ?_;refine gs ?_;refine ak h4 aD rfl ?_
  have h5 : ac (rT e p rp t * (bd p rp σ * (yT xb x t * (aJ x σ * (blk tb (.cells false [.pointer none, vp e, vp xb]) * (blk pb (.cells false [vp p, vp x]) * (blk b6 (.cells false [vi 0, .slice none 0 0, vi 0, vw 0]) * (blk b9 (.cells false [vi 0, .slice none 0 0, vi 0, vw 0]) * R)))))))) H4 := by
   unfold aT zT at h4;rw [if_neg ho, if_neg ho] at h4;exact h4.to
  refine af h5 (aiI e p rp σ t now (S.ok (by omega)) (T.r ho)) fun rp' H5 h6 => ?_;unfold rQ at h6;rw [ai, ac.pu] at h6;obtain ⟨hpre, h6⟩ := h6;refine aa (v := .agg (ie (if (ay σ t now).2.2 = true then (ay σ t now).2.1.code else 0)).toArray) rfl ?_;refine aa (v := vb (ay σ t now).2.2) rfl ?_;refine fi h6 rfl rfl fun H7 h7 => ?_;refine ak h7 aD rfl ?_;refine af h7 (aaY xb x σ t now (S.ok (by omega)) (T.r ho)) fun _ H8 h8 => ?_;refine ajT ?_ (JQ p x rp' (xb := xb) (x0 := .pointer none) (x1 := vp e) (pb := pb) (tb := tb) (b6 := b6) (b9 := b9) (σ := (ay σ t now).1) (r := ay σ t now) (R := rU e p rp' (ay σ t now) * R) (H := H8) rfl (by unfold zU; rw [if_neg hx3]; exact h8.to))
  rintro v' H' ⟨rfl, h9⟩
  refine ⟨rp', rfl, ?_⟩;rw [ai, ac.pu];refine ⟨hpre, ?_⟩
  have ea : aU e p rp' (ay σ t now) = rU e p rp' (ay σ t now) := by
   unfold aU rU aT;rw [if_neg hx3]
  rw [ea];exact h9.to
theorem WK (σ : aM) (hc : cQ σ.c = true) (hN : σ.μ.N < 1000000) (who place : Int) (c : Cl) :
 Sp sH [.agg [vp p, vp x].toArray, vi who, vi place, .agg (Cl.cells c).toArray] (bd p rp σ * aJ x σ) (fun g : Nat × Nat => .agg (tkV c.op g.1 g.2).toArray)
  (fun g => aT g.1 p rp (Tk.newA σ.c who c) * (zT g.2 x (Tk.newA σ.c who c) * (bd p rp (σ.begin who place) * aJ x (σ.begin who place)))) := by
 refine bh (LV _ _ _ _) fun R H h => ?_;refine ba (l := [vp p, vp x]) h fun pb H1 h1 => ?_;refine ba h1 fun cb H2 h2 => ?_;refine br h2 fun b3 H3 h3 => ?_;refine aZ h3 ?_;refine af h3 (Rv p x rp σ who place hN) fun _ H4 h4 => ?_;refine ak h4 aD rfl ?_;refine aZ h4 ?_;have hcb : cQ (σ.begin who place).c = true := hc
 by_cases ho : c.op = 3
 ·refine af h4 (Oy x (σ.begin who place) who c 0) fun xb H5 h5 => ?_
  refine jc ?_;refine br h5 fun b5 H6 h6 => ?_;refine fi h6 rfl rfl fun H7 h7 => ?_;refine ah (qS ..) ?_;refine ak h7 aD rfl ?_;refine aa (bg ho) ?_;refine gs ?_;refine ak h7 aD rfl ?_;refine aZ h7 ?_;refine af h7 (acG p rp (σ.begin who place) hcb who c) fun e H8 h8 => ?_;refine bk h8 aD rfl rfl fun H9 h9 => ?_;refine ah (qT ..) ?_;refine aZ h9 ?_;refine fi h9 rfl rfl fun HA hA => ?_;refine aZ hA ?_;refine am ⟨(e, xb), by rw [ai9 ho], ?_⟩;rw [show Tk.newA σ.c who c = Tk.new σ.c who c from if_pos ho];rw [show aT (e, xb).1 p rp (Tk.new σ.c who c) = eT e p rp (Tk.new σ.c who c) from if_pos ho, show zT (e, xb).2 x (Tk.new σ.c who c) = xT xb x (Tk.new σ.c who c) from if_pos ho];exact hA.to
 ·have nt : Sp kH [vp x, vi who, .agg (Cl.cells c).toArray] emp (fun b : Nat => vp b) (fun b => yT b x (Tk.newR σ.c who c)) := by
   refine bh (s8 _ _ _) fun R H h => ?_;refine ba h fun b H1 h1 => ?_;refine aZ h1 ?_;refine jc ?_;refine ba h1 fun xb H2 h2 => ?_;refine am ⟨xb, rfl, ?_⟩;unfold yT;refine ac.ex.2 ⟨⟨0, 0, -1, false, 0, 0, 0, 0, 0, 0, 0⟩, ?_⟩;rw [ai, ac.pu];exact ⟨Eh rfl (by simp) ⟨rfl, rfl⟩, h2.to⟩
  refine af h4 nt fun xb H5 h5 => ?_;refine jc ?_;refine br h5 fun b5 H6 h6 => ?_;refine fi h6 rfl rfl fun H7 h7 => ?_;refine ah (qS ..) ?_;refine ak h7 aD rfl ?_;refine aa (aE ho) ?_;refine gs ?_;refine ak h7 aD rfl ?_;refine aZ h7 ?_;refine af h7 (aiG p rp (σ.begin who place) hcb who c) fun e H8 h8 => ?_;refine bk h8 aD rfl rfl fun H9 h9 => ?_;refine ah (qT ..) ?_;refine aZ h9 ?_;refine fi h9 rfl rfl fun HA hA => ?_;refine aZ hA ?_;refine am ⟨(e, xb), by rw [ajA ho], ?_⟩;rw [show Tk.newA σ.c who c = Tk.newR σ.c who c from if_neg ho];rw [show aT (e, xb).1 p rp (Tk.newR σ.c who c) = rT e p rp (Tk.newR σ.c who c) from if_neg ho, show zT (e, xb).2 x (Tk.newR σ.c who c) = yT xb x (Tk.newR σ.c who c) from if_neg ho];exact hA.to
end
theorem Zu {P : SP} {H : AH} {s : Value} {l : List Int} [hR : Rd P s 1 cr l] (n most : Nat) (hn : 0 < n ∧ n < 1000) (hm : most < 1000) {k : Value × AH → OV} {Q : Value → AH → Prop} (h : ac P H)
 (hk : ∀ (v : Value) (o : List Int) (H' : AH), o.length ≤ most → (∀ y ∈ o, 0 ≤ y ∧ y < n) → ac (ts 1 cr v o * P) H' → wp (k (v, H')) Q) : wp ((FF Vz [s, vi (n : Int), vi (most : Int)] H).bind k) Q := by
 have law : Sp Vz [s, vi (n : Int), vi (most : Int)] P (fun g : Value × List Int => g.1) (fun g => pu (g.2.length ≤ most ∧ ∀ y ∈ g.2, 0 ≤ y ∧ y < n) * (ts 1 cr g.1 g.2 * P)) := by
  refine bh (apY _ _ _) fun R H h => ?_;refine ah (Zj ..) ?_;refine ah (Zk ..) ?_;have app : ∀ (v : Value) (o : List Int) (x : Int) (H : AH) {kk : Value × AH → OV} {Q : Value → AH → Prop}, o.length < most → ac (ts 1 cr v o * (P * R)) H → (∀ v' H', ac (ts 1 cr v' (o ++ [x]) * (P * R)) H' → wp (kk (v', H')) Q) →
   wp (wL 1 1 [(vi 0)] [(0, vi x)] H fun v25 H26 => (dS 1 8 v v25 H26).bind kk) Q := by
   intro v o x H kk Q ho hh hk;refine MS hh fun b H1 h1 => ?_;refine f5 (s := v) (l := o) (x : Int) h1 rfl ?_ (by omega) fun a c H2 h2 => ?_
   ·unfold room; omega
   exact hk _ H2 h2.to
  have snoc : ∀ {o : List Int} {x : Int}, (∀ y ∈ o, 0 ≤ y ∧ y < (n : Int)) → ∀ y ∈ o ++ [ez x n], 0 ≤ y ∧ y < (n : Int) := by
   intro o x hv y hy
   rcases List.mem_append.1 hy with hy | hy
   ·exact hv y hy
   ·rw [List.mem_singleton.1 hy]; exact fv (by omega)
  -- one again and again
  have inner : ∀ (d i j : Nat) (ki : Int) (v : Value) (o : List Int) (H : AH) {Q : Value → AH → Prop}, most - o.length = d → o.length ≤ most → (∀ y ∈ o, 0 ≤ y ∧ y < (n : Int)) → i < l.length → 0 ≤ ki ∧ ki < 40 → j < 1000 + o.length → ac (ts 1 cr v o * (P * R)) H →
   (∀ v' o' H', o.length ≤ o'.length → o'.length ≤ most → (∀ y ∈ o', 0 ≤ y ∧ y < (n : Int)) → ac (ts 1 cr v' o' * (P * R)) H' → wp (L9 s (vi (n : Int)) (vi (most : Int)) (.slice none 0 0) v' (vi ki) (vi (i : Int)) H') Q) →
   wp (D6 s (vi (n : Int)) (vi (most : Int)) (.slice none 0 0) v (vi ki) (vi (i : Int)) (vi (j : Int)) H) Q := by
   intro d
   induction d with
   | zero =>
    intro i j ki v o H Q hd ho hv hil hki hj hh hk;refine ah (F9 ..) ?_;refine eF (s := s) (l := l) (v := vi l[i]) hh hil rfl ?_;refine af hh (da l[i] 7 (by omega) (by omega)) fun _ H1 h1 => ?_;have m7 := fv (v := l[i]) (n := 7) (by omega);refine aa (ky (by omega)) ?_;have q3 : 0 ≤ ki.tmod 3 ∧ ki.tmod 3 < 3 := ⟨Int.tmod_nonneg _ hki.1, Int.tmod_lt_of_pos _ (by omega)⟩;have p0 : 0 ≤ ez l[i] 7 * ki.tmod 3 := Int.mul_nonneg m7.1 q3.1;have p1 : ez l[i] 7 * ki.tmod 3 ≤ 7 * 3 := Int.mul_le_mul (by omega) (by omega) q3.1 (by omega);refine aa (tH (by omega) (by omega)) ?_
    have out : wp (ud s (vi (n : Int)) (vi (most : Int)) (.slice none 0 0) v (vi ki) (vi (i : Int)) H1) Q := by
     refine ah (yy ..) ?_;exact hk v o H1 (bv _) ho hv h1.to
    by_cases hlt : (j : Int) < ez l[i] 7 * ki.tmod 3
    ·refine aa (cE hlt) ?_
     refine gs ?_;refine ii (s := v) (l := o) h1 ?_;refine gs ?_;refine aa (bP (by omega)) ?_;refine gs ?_;exact out
    ·refine aa (bP hlt) ?_
     refine gs ?_;exact out
   | succ d ih =>
    intro i j ki v o H Q hd ho hv hil hki hj hh hk;refine ah (F9 ..) ?_;refine eF (s := s) (l := l) (v := vi l[i]) hh hil rfl ?_;refine af hh (da l[i] 7 (by omega) (by omega)) fun _ H1 h1 => ?_;have m7 := fv (v := l[i]) (n := 7) (by omega);refine aa (ky (by omega)) ?_;have q3 : 0 ≤ ki.tmod 3 ∧ ki.tmod 3 < 3 := ⟨Int.tmod_nonneg _ hki.1, Int.tmod_lt_of_pos _ (by omega)⟩;have p0 : 0 ≤ ez l[i] 7 * ki.tmod 3 := Int.mul_nonneg m7.1 q3.1;have p1 : ez l[i] 7 * ki.tmod 3 ≤ 7 * 3 := Int.mul_le_mul (by omega) (by omega) q3.1 (by omega);refine aa (tH (by omega) (by omega)) ?_
    have out : wp (ud s (vi (n : Int)) (vi (most : Int)) (.slice none 0 0) v (vi ki) (vi (i : Int)) H1) Q := by
     refine ah (yy ..) ?_;exact hk v o H1 (bv _) ho hv h1.to
    by_cases hlt : (j : Int) < ez l[i] 7 * ki.tmod 3
    ·refine aa (cE hlt) ?_
     refine gs ?_;refine ii (s := v) (l := o) h1 ?_;refine gs ?_;refine aa (cE (by omega)) ?_;refine gs ?_;refine ah (Rp ..) ?_;refine eF (s := s) (l := l) (v := vi l[i]) h1 hil rfl ?_;refine af h1 (da l[i] n (by omega) (by omega)) fun _ H2 h2 => ?_;refine app v o (ez l[i] n) H2 (by omega) h2.to fun v' H3 h3 => ?_;refine ah (Rq ..) ?_;refine aa (aS (by omega) (by omega)) ?_;rw [show ((j : Nat) : Int) + 1 = ((j + 1 : Nat) : Int) from by omega]
     have hl1 : (o ++ [ez l[i] n]).length = o.length + 1 := by simp
     exact ih i (j + 1) ki v' (o ++ [ez l[i] n]) H3 (by omega) (by omega) (snoc hv) hil hki (by omega) h3 (fun v4 o4 H4 hle h1' hv' h2' => hk v4 o4 H4 (by omega) h1' hv' h2')
    ·refine aa (bP hlt) ?_
     refine gs ?_;exact out
  have mid : ∀ (d i : Nat) (ki : Int) (v : Value) (o : List Int) (H : AH) {Q : Value → AH → Prop}, most - o.length = d → o.length ≤ most → (∀ y ∈ o, 0 ≤ y ∧ y < (n : Int)) → i ≤ o.length → 0 ≤ ki ∧ ki < 40 → ac (ts 1 cr v o * (P * R)) H →
   (∀ v' o' H', o'.length ≤ most → (∀ y ∈ o', 0 ≤ y ∧ y < (n : Int)) → ac (ts 1 cr v' o' * (P * R)) H' → wp (Rs s (vi (n : Int)) (vi (most : Int)) (.slice none 0 0) v' (vi ki) H') Q) →
   wp (D5 s (vi (n : Int)) (vi (most : Int)) (.slice none 0 0) v (vi ki) (vi (i : Int)) H) Q := by
   intro d
   induction d using Nat.strongRecOn with
   | ind d ih =>
    intro i ki v o H Q hd ho hv hio hki hh hk;refine ah (Rl ..) ?_;refine de (s := s) (l := l) hh ?_
    have out : wp (Az s (vi (n : Int)) (vi (most : Int)) (.slice none 0 0) v (vi ki) H) Q := by
     refine ah (L8 ..) ?_;exact hk v o H ho hv hh
    by_cases hil : i < l.length
    ·refine aa (cE (by omega)) ?_
     refine gs ?_;refine ii (s := v) (l := o) hh ?_;refine gs ?_
     by_cases hlt : o.length < most
     ·refine aa (cE (by omega)) ?_
      refine gs ?_;refine ah (Rm ..) ?_;refine eF (s := s) (l := l) (v := vi l[i]) hh hil rfl ?_;refine af hh (da l[i] n (by omega) (by omega)) fun _ H2 h2 => ?_;refine app v o (ez l[i] n) H2 (by omega) h2.to fun v' H3 h3 => ?_;refine ah (Ro ..) ?_
      have hl1 : (o ++ [ez l[i] n]).length = o.length + 1 := by simp
      refine inner (most - (o.length + 1)) i 0 ki v' (o ++ [ez l[i] n]) H3 (by omega) (by omega) (snoc hv) hil hki (by omega) h3 fun v4 o4 H4 hle h1' hv' h2' => ?_;refine ah (Rn ..) ?_;refine aa (aS (by omega) (by omega)) ?_;rw [show ((i : Nat) : Int) + 1 = ((i + 1 : Nat) : Int) from by omega];exact ih (most - o4.length) (by omega) (i + 1) ki v4 o4 H4 rfl h1' hv' (by omega) hki h2' hk
     ·refine aa (bP (by omega)) ?_
      refine gs ?_;exact out
    ·refine aa (bP (by omega)) ?_
     refine gs ?_;exact out
  have outer : ∀ (d k : Nat) (v : Value) (o : List Int) (H : AH), k + d = 40 → o.length ≤ most → (∀ y ∈ o, 0 ≤ y ∧ y < (n : Int)) → ac (ts 1 cr v o * (P * R)) H →
   wp (Ma s (vi (n : Int)) (vi (most : Int)) (.slice none 0 0) v (vi (k : Int)) H) fun v' H' => ∃ g : Value × List Int, v' = g.1 ∧ ac (pu (g.2.length ≤ most ∧ ∀ y ∈ g.2, 0 ≤ y ∧ y < n) * (ts 1 cr g.1 g.2 * P) * R) H' := by
   intro d
   induction d with
   | zero =>
    intro k v o H hk ho hv hh;refine ah (Jq ..) ?_;refine aa (bP (by omega)) ?_;refine gs ?_;refine ah (BK ..) ?_;refine ah (Jp ..) ?_;refine am ⟨(v, o), rfl, ?_⟩;rw [ai, ac.pu];exact ⟨⟨ho, hv⟩, hh.to⟩
   | succ d ih =>
    intro k v o H hk ho hv hh;refine ah (Jq ..) ?_;refine aa (cE (by omega)) ?_;refine gs ?_;refine ii (s := s) (l := l) hh ?_;refine gs ?_
    by_cases hl0 : 0 < l.length
    ·refine aa (pA (by omega)) ?_
     refine gs ?_;refine ah (Zl ..) ?_;refine ah (Zn ..) ?_;refine mid (most - o.length) 0 k v o H rfl ho hv (Nat.zero_le _) (by omega) hh fun v' o' H' ho' hv' h' => ?_;refine ah (Zm ..) ?_;refine aa (aS (by omega) (by omega)) ?_;rw [show ((k : Nat) : Int) + 1 = ((k + 1 : Nat) : Int) from by omega];exact ih (k + 1) v' o' H' (by omega) ho' hv' h'
    ·refine aa (fV (by omega)) ?_
     refine gs ?_;refine ah (BK ..) ?_;refine ah (Jp ..) ?_;refine am ⟨(v, o), rfl, ?_⟩;rw [ai, ac.pu];exact ⟨⟨ho, hv⟩, hh.to⟩
  have h0 := dL 1 cr h;exact outer 40 0 (.slice none 0 0) [] H rfl (Nat.zero_le _) (fun y hy => by cases hy) h0
 obtain ⟨⟨v, o⟩, H', e, h'⟩ := law emp H (by rw [fA]; exact h);rw [e];rw [fA, ac.pu] at h';exact hk v o H' h'.1.1 h'.1.2 h'.2
theorem P3 {b w n e : Nat} {kk : IntKind} (hw : w < n) : Pj [.a n e (.int kk (w : Int))] (vp b) b (w * e) := fun k => by
 rw [ao5 hw]; show k (qL b (0 + w * e)) = _; rw [Nat.zero_add]
theorem ak1 {b w n e f : Nat} {kk : IntKind} (hw : w < n) : Pj [.a n e (.int kk (w : Int)), .f f] (vp b) b (w * e + f) := fun k => by
 rw [ao5 hw]; show k (qL b (0 + w * e + f)) = _; rw [Nat.zero_add]
theorem O5 {P : SP} {H : AH} {b w n : Nat} {kk : IntKind} {ro : Bool} {cs : List Value} {v : Value} {Q : Value → AH → Prop} {k : Value → OV} (h : ac P H) [i : Hs P b (.cells ro cs)] (hw : w < n) (hv : cs[w]? = some v) (hk : wp (k v) Q) : wp (ld [.a n 1 (.int kk (w : Int))] (vp b) H k) Q :=
 ak h (P3 hw) (by rw [Nat.mul_one]; exact hv) hk
theorem Sk (cs : List Value) (w : Nat) (v : Value) (h : w < cs.length) : splice cs w [v] = cs.set w v := by
 unfold splice;rw [List.set_eq_take_append_cons_drop, if_pos h];simp
theorem ar2 {P P' : SP} {H : AH} {b w n : Nat} {kk : IntKind} {cs : List Value} {v : Value} {Q : Value → AH → Prop} {k : AH → OV} (h : ac P H) [i : Hs P b (.cells false cs)] (hw : w < n) (hn : cs.length = n) [c : wO v [v]] (hv : [v].all Value.oneCell' = true) [u : Up P b (.cells false (cs.set w v)) P']
 (hk : ∀ H', ac P' H' → wp (k H') Q) : wp (st 1 [.a n 1 (.int kk (w : Int))] (vp b) v H k) Q := by
 haveI : wQ cs w [v] (cs.set w v) := ⟨by simp; omega, (Sk cs w v (by omega)).symm⟩
 exact bk h (o := w) (fun k => by rw [ao5 hw]; show k (qL b (0 + w * 1)) = _; rw [Nat.zero_add, Nat.mul_one]) rfl hv hk
theorem Si (cs xs : List Value) (h : xs.length = cs.length) : splice cs 0 xs = xs := by
 unfold splice;rw [List.take_zero, List.nil_append, Nat.zero_add, List.drop_eq_nil_of_le (by omega), List.append_nil]
abbrev Wk := Option (Nat × Nat × Tk)
def wM : Wk → List Value
 | none => [.pointer none, .pointer none, .pointer none]
 | some q => tkV q.2.2.x.op q.1 q.2.1
theorem kQ (q : Wk) : (wM q).length = 3 := by cases q <;> rfl
def Wr (p x : Nat) (rp : List Nat) : Wk → SP
 | none => emp
 | some q => aT q.1 p rp q.2.2 * zT q.2.1 x q.2.2
def lU (p x : Nat) (rp : List Nat) : List Wk → SP
 | [] => emp
 | q :: l => Wr p x rp q * lU p x rp l
theorem JV (p x : Nat) (rp : List Nat) : ∀ {ws : List Wk} {i : Nat} (h : i < ws.length), ∃ l1 l2, (∀ rp', lU p x rp' ws = Wr p x rp' ws[i] * (lU p x rp' l1 * lU p x rp' l2)) ∧ ∀ rp' q, lU p x rp' (ws.set i q) = Wr p x rp' q * (lU p x rp' l1 * lU p x rp' l2) := by
 intro ws
 induction ws with
 | nil => intro i h; simp at h
 | cons q ws ih =>
  intro i h
  cases i with
  | zero =>
   refine ⟨[], ws, fun rp' => ?_, fun rp' q => ?_⟩
   ·show Wr p x rp' q * lU p x rp' ws = _ * (emp * _); rw [ft]; rfl
   ·show Wr p x rp' q * lU p x rp' ws = _ * (emp * _); rw [ft]
  | succ i =>
   have hi : i < ws.length := by simpa using h
   obtain ⟨l1, l2, e1, e2⟩ := ih (i := i) hi;refine ⟨q :: l1, l2, fun rp' => ?_, fun rp' q' => ?_⟩
   ·show Wr p x rp' q * lU p x rp' ws = Wr p x rp' (ws[i]'hi) * (Wr p x rp' q * lU p x rp' l1 * lU p x rp' l2)
    rw [e1]; ac_rfl
   ·show Wr p x rp' q * lU p x rp' (ws.set i q') = Wr p x rp' q' * (Wr p x rp' q * lU p x rp' l1 * lU p x rp' l2)
    rw [e2]; ac_rfl
theorem Pb {p x : Nat} {rp rp' : List Nat} (hp : rp <+: rp') : ∀ (ws : List Wk) {R : SP} {H : AH}, ac (lU p x rp ws * R) H → ac (lU p x rp' ws * R) H := by
 intro ws
 induction ws with
 | nil => intro R H h; exact h
 | cons q ws ih =>
  intro R H h
  have h1 : ac (lU p x rp ws * (Wr p x rp q * R)) H := by
   have : ac (Wr p x rp q * lU p x rp ws * R) H := h;exact this.to
  have h2 := ih h1;show ac (Wr p x rp' q * lU p x rp' ws * R) H
  cases q with
  | none =>
   have h3 : ac (lU p x rp' ws * (emp * R)) H := h2;have h4 : ac (emp * lU p x rp' ws * R) H := h3.to;exact h4
  | some q =>
   have h3 : ac (aT q.1 p rp q.2.2 * (zT q.2.1 x q.2.2 * (lU p x rp' ws * R))) H := by
    have h4 : ac (lU p x rp' ws * (aT q.1 p rp q.2.2 * zT q.2.1 x q.2.2 * R)) H := h2;exact h4.to
   have h5 := akM hp h3;have h6 : ac (aT q.1 p rp' q.2.2 * zT q.2.1 x q.2.2 * lU p x rp' ws * R) H := h5.to;exact h6
def WkR (σ : aM) (q : Wk) : Prop := match q with
 | none => True
 | some q => Pp σ q.2.2
structure WsR (σ : aM) (ws : List Wk) (ats : List Nat) : Prop where
 l : ws.length = 4
 al : ats.length = 4
 r : ∀ w (h : w < 4), WkR σ (ws[w]'(by omega))
theorem WkR.mono {σ σ' : aM} {q : Wk} (h : WkR σ q) (hc : σ'.c = σ.c) (ho : σ.obs.length ≤ σ'.obs.length) : WkR σ' q := by
 cases q with
 | none => trivial
 | some q => exact Pp.mono (show Pp σ q.2.2 from h) hc ho
theorem WsR.mono {σ σ' : aM} {ws : List Wk} {ats : List Nat} (h : WsR σ ws ats) (hc : σ'.c = σ.c) (ho : σ.obs.length ≤ σ'.obs.length) : WsR σ' ws ats :=
 ⟨h.l, h.al, fun w hw => (h.r w hw).mono hc ho⟩
theorem WsR.set {σ : aM} {ws : List Wk} {ats : List Nat} (h : WsR σ ws ats) {w : Nat} (hw : w < 4) {q : Wk} (a : Nat) (hq : WkR σ q) : WsR σ (ws.set w q) (ats.set w a) := by
 refine ⟨by simp [h.l], by simp [h.al], fun w' hw' => ?_⟩;rw [List.getElem_set]
 by_cases e : w = w'
 ·rw [if_pos e]; exact hq
 ·rw [if_neg e]; exact h.r w' hw'
theorem OK {α : Type} {l : List α} {i : Nat} (h : i < l.length) : l.set i l[i] = l := List.set_getElem_self h
theorem amZ : aj .ptr .eql (.pointer none) (.pointer none) = some (vb true) := rfl
theorem ag7 : aj .ptr .neq (.pointer none) (.pointer none) = some (vb false) := rfl
theorem amT (b : Nat) : aj .ptr .neq (vp b) (.pointer none) = some (vb true) := rfl
theorem Wm {P : SP} {H : AH} {b w f : Nat} {kk : IntKind} {ws : List Wk} {v : Value} {Q : Value → AH → Prop} {k : Value → OV} (h : ac P H) [i : Hs P b (.cells false (ws.flatMap wM))] (hl : ws.length = 4) (hw : w < 4) (hf : f < 3) (hv : (wM (ws[w]'(by omega)))[f]? = some v) (hk : wp (k v) Q) :
 wp (ld [.a 4 3 (.int kk (w : Int)), .f f] (vp b) H k) Q :=
 ak h (ak1 hw) (by rw [vC kQ ws w (by omega) f hf]; exact hv) hk
theorem aqM {P : SP} {H : AH} {b w : Nat} {kk : IntKind} {ws : List Wk} {Q : Value → AH → Prop} {k : Value → OV} (h : ac P H) [i : Hs P b (.cells false (ws.flatMap wM))] (hl : ws.length = 4) (hw : w < 4) (hk : wp (k (.agg (wM (ws[w]'(by omega))).toArray)) Q) :
 wp (ldN 3 [.a 4 3 (.int kk (w : Int))] (vp b) H k) Q := by
 have hlen := iF kQ ws
 haveI : Ej (ws.flatMap wM) (w * 3) 3 (wM (ws[w]'(by omega))) := ⟨by omega, (D0 kQ ws w (by omega)).symm⟩
 exact JT h (P3 hw) hk
theorem aoZ {P P' : SP} {H : AH} {b w : Nat} {kk : IntKind} {ws : List Wk} {q : Wk} {Q : Value → AH → Prop} {k : AH → OV} (h : ac P H) [i : Hs P b (.cells false (ws.flatMap wM))] (hl : ws.length = 4) (hw : w < 4) [u : Up P b (.cells false ((ws.set w q).flatMap wM)) P']
 (hk : ∀ H', ac P' H' → wp (k H') Q) : wp (st 3 [.a 4 3 (.int kk (w : Int))] (vp b) (.agg (wM q).toArray) H k) Q := by
 have hlen := iF kQ ws;have hs := BA kQ ws w (by omega) 0 (wM q) (by rw [kQ]; omega) q (by rw [Si _ _ (by rw [kQ, kQ])])
 haveI : wQ (ws.flatMap wM) (w * 3) (wM q) ((ws.set w q).flatMap wM) := ⟨by rw [kQ, hlen]; omega, by rw [Nat.add_zero] at hs; exact hs.symm⟩
 exact bk h (l := wM q) (P3 hw) (kQ q) (by
  cases q with
  | none => rfl
  | some q =>
   by_cases ho : q.2.2.x.op = 3
   ·rw [show wM (some q) = tkV q.2.2.x.op q.1 q.2.1 from rfl, ai9 ho]; rfl
   ·rw [show wM (some q) = tkV q.2.2.x.op q.1 q.2.1 from rfl, ajA ho]; rfl) hk
abbrev zL := Option Addr × Nat × Nat
abbrev jT (x : zL) : Value := .slice x.1 x.2.1 x.2.2
abbrev cO (x : zL) : List Value := [jT x]
instance : Enc cO 1 := ⟨fun _ => rfl, fun _ => rfl, by omega⟩
def eC : List (zL × List Cl) → SP
 | [] => emp
 | q :: l => ts 4 Cl.cells (jT q.1) q.2 * eC l
theorem yi : ∀ {LL : List (zL × List Cl)} {i : Nat} (h : i < LL.length), ∃ R, eC LL = ts 4 Cl.cells (jT LL[i].1) LL[i].2 * R ∧ ∀ q, eC (LL.set i q) = ts 4 Cl.cells (jT q.1) q.2 * R := by
 intro LL
 induction LL with
 | nil => intro i h; simp at h
 | cons q LL ih =>
  intro i h
  cases i with
  | zero => exact ⟨eC LL, rfl, fun q => rfl⟩
  | succ i =>
   obtain ⟨R, e1, e2⟩ := ih (i := i) (by simpa using h);refine ⟨ts 4 Cl.cells (jT q.1) q.2 * R, ?_, fun q' => ?_⟩
   ·show ts 4 Cl.cells (jT q.1) q.2 * eC LL = _
    rw [e1, ci]; rfl
   ·show ts 4 Cl.cells (jT q.1) q.2 * eC (LL.set i q') = _
    rw [e2, ci]
theorem Ji {LL : List (zL × List Cl)} {i : Nat} (h : i < LL.length) : Rd (eC LL) (jT LL[i].1) 4 Cl.cells LL[i].2 := by
 obtain ⟨R, e1, _⟩ := yi h;rw [e1]; infer_instance
abbrev cw (LL : List (zL × List Cl)) : List zL := LL.map fun q : zL × List Cl => q.1
theorem ab9 (c : Cl) (mark : Int) : Sp vL [.agg (Cl.cells c).toArray, vi mark] emp (fun y : Cl => .agg (Cl.cells y).toArray) (fun _ => emp) := by
 refine bh (N4 _ _) fun R H h => ?_;refine ba h fun b1 H1 h1 => ?_;refine br h1 fun b2 H2 h2 => ?_;refine aZ h2 ?_;refine af h2 (Zt c) fun y H3 h3 => ?_;refine br h3 fun b4 H4 h4 => ?_;refine fi h4 rfl rfl fun H5 h5 => ?_;refine ah (FU ..) ?_;refine ak h5 aD rfl ?_;refine Bl h5 (by omega) (by omega) fun H6 h6 => ?_
 have out : ∀ (z : Cl) {H : AH}, ac (blk b4 (.cells false (Cl.cells z)) * (blk b2 (.cells false [vi 0, vi 0, vi 0, vi 0]) * R)) H → wp (i9 (vp b2) (vp b4) H) fun v' H' => ∃ y : Cl, v' = .agg (Cl.cells y).toArray ∧ ac (emp * R) H' := by
  intro z H h;refine ah (FV ..) ?_;refine aZ h ?_;refine fi h rfl rfl fun H2 h2 => ?_;refine aZ h2 ?_;exact am ⟨z, rfl, h2.to⟩
 refine ah (FW ..) ?_
 have r1 : wp (lj (vi mark) (vp b1) (vp b2) (vp b4) (vi (ez c.op 5)) (vb true) H6) fun v' H' => ∃ y : Cl, v' = .agg (Cl.cells y).toArray ∧ ac (emp * R) H' := by
  refine ah (sB ..) ?_;refine gs ?_;refine bk h6 aD rfl rfl fun H7 h7 => ?_;refine ak h7 aD rfl ?_;refine Bl h7 (by omega) (by omega) fun H8 h8 => ?_
  by_cases hg : 0 < ez c.a 4
  ·refine aa (pA hg) ?_
   refine gs ?_;refine ak h8 aD rfl ?_;refine Bl h8 (by omega) (by omega) fun H9 h9 => ?_;have m5 := fv (v := c.a) (n := 5) (by omega);refine aa (aS (by omega) (by omega)) ?_;refine bC aD ?_;refine aV h9 rfl ?_;refine aI h8 h9 (by rfl) ?_;refine Bl h9 (by omega) (by omega) fun HA hA => ?_;have m3 := fv (v := c.b) (n := 3) (by omega);refine aa (aS (by omega) (by omega)) ?_;refine bk hA aD rfl rfl fun HB hB => ?_;refine bk hB aD rfl rfl fun HC hC => ?_;exact out ⟨1, y.flow, 1 + ez c.a 5, 1 + ez c.b 3⟩ hC.to
  ·refine aa (fV hg) ?_
   refine gs ?_;exact out ⟨1, y.flow, y.a, y.b⟩ h8.to
 have k21 : ∀ b : Bool, wp (lY (vi mark) (vp b2) (vp b4) (vb b) H6) fun v' H' => ∃ y : Cl, v' = .agg (Cl.cells y).toArray ∧ ac (emp * R) H' := by
  intro b;refine ah (Cq ..) ?_;cases b
  ·refine gs ?_
   refine bk h6 aD rfl rfl fun H7 h7 => ?_;refine bk h7 aD rfl rfl fun H8 h8 => ?_;exact out ⟨3, y.flow, y.a, mark⟩ h8.to
  ·refine gs ?_
   refine bk h6 aD rfl rfl fun H7 h7 => ?_;exact out ⟨2, y.flow, y.a, y.b⟩ h7.to
 have r2 : wp (lj (vi mark) (vp b1) (vp b2) (vp b4) (vi (ez c.op 5)) (vb false) H6) fun v' H' => ∃ y : Cl, v' = .agg (Cl.cells y).toArray ∧ ac (emp * R) H' := by
  refine ah (sB ..) ?_;refine gs ?_
  by_cases h2 : ez c.op 5 = 2
  ·refine aa (bg h2) ?_
   refine gs ?_;exact k21 true
  ·refine aa (aE h2) ?_
   refine gs ?_
   by_cases h3 : ez c.op 5 = 3
   ·refine aa (bg h3) ?_
    exact k21 true
   ·refine aa (aE h3) ?_
    exact k21 false
 by_cases h0 : ez c.op 5 = 0
 ·refine aa (bg h0) ?_
  refine gs ?_;exact r1
 ·refine aa (aE h0) ?_
  refine gs ?_
  by_cases h1 : ez c.op 5 = 1
  ·refine aa (bg h1) ?_
   exact r1
  ·refine aa (aE h1) ?_
   exact r2
theorem arH {P : SP} {H : AH} {s : Value} {L : List Cl} [hR : Rd P s 4 Cl.cells L] (most : Nat) (hm : most < 1000) {k : Value × AH → OV} {Q : Value → AH → Prop} (h : ac P H)
 (hk : ∀ (b : Nat) (LL : List (zL × List Cl)) (H' : AH), LL.length = 4 → (∀ q ∈ LL, q.2.length ≤ most) → ac (ts 1 cO (vs b 4 1) (cw LL) * (eC LL * P)) H' → wp (k (vs b 4 1, H')) Q) :
 wp ((FF oa [s, vi (most : Int)] H).bind k) Q := by
 have law : Sp oa [s, vi (most : Int)] P (fun g : Nat × List (zL × List Cl) => vs g.1 4 1) (fun g => pu (g.2.length = 4 ∧ ∀ q ∈ g.2, q.2.length ≤ most) * (ts 1 cO (vs g.1 4 1) (cw g.2) * (eC g.2 * P))) := by
  refine bh (LW _ _) fun R H h => ?_;refine MT (n := 4) (enc := cO) ((none, 0, 0) : zL) h rfl (by unfold room; omega) (by omega) fun b H1 h1 => ?_;refine ah (Cs ..) ?_;refine ah (Ct ..) ?_;have loop : ∀ (d i : Nat) (LL : List (zL × List Cl)) (H : AH), most - i = d → i ≤ most → LL.length = 4 → (∀ q ∈ LL, q.2.length ≤ i) → ac (ts 1 cO (vs b 4 1) (cw LL) * (eC LL * (P * R))) H →
   wp (lZ s (vi (most : Int)) (.slice none 0 0) (vs b 4 1) (vi (i : Int)) H) fun v' H' => ∃ g : Nat × List (zL × List Cl), v' = vs g.1 4 1 ∧ ac (pu (g.2.length = 4 ∧ ∀ q ∈ g.2, q.2.length ≤ most) * (ts 1 cO (vs g.1 4 1) (cw g.2) * (eC g.2 * P)) * R) H' := by
   intro d
   induction d with
   | zero =>
    intro i LL H hd hi h4 hq hh
    have out : wp (jp (.slice none 0 0) (vs b 4 1) H) fun v' H' => ∃ g : Nat × List (zL × List Cl), v' = vs g.1 4 1 ∧ ac (pu (g.2.length = 4 ∧ ∀ q ∈ g.2, q.2.length ≤ most) * (ts 1 cO (vs g.1 4 1) (cw g.2) * (eC g.2 * P)) * R) H' := by
     refine ah (n9 ..) ?_;refine ah (qU ..) ?_;refine am ⟨(b, LL), rfl, ?_⟩;rw [ai, ac.pu];exact ⟨⟨h4, fun q hq2 => eA (hq q hq2) hi⟩, hh.to⟩
    refine ah (qV ..) ?_;refine de (s := s) (l := L) hh ?_
    by_cases hl : i < L.length
    ·refine aa (cE (by omega)) ?_
     refine gs ?_;refine aa (bP (by omega)) ?_;refine gs ?_;exact out
    ·refine aa (bP (by omega)) ?_
     refine gs ?_;exact out
   | succ d ih =>
    intro i LL H hd hi h4 hq hh
    have out : wp (jp (.slice none 0 0) (vs b 4 1) H) fun v' H' => ∃ g : Nat × List (zL × List Cl), v' = vs g.1 4 1 ∧ ac (pu (g.2.length = 4 ∧ ∀ q ∈ g.2, q.2.length ≤ most) * (ts 1 cO (vs g.1 4 1) (cw g.2) * (eC g.2 * P)) * R) H' := by
     refine ah (n9 ..) ?_;refine ah (qU ..) ?_;refine am ⟨(b, LL), rfl, ?_⟩;rw [ai, ac.pu];exact ⟨⟨h4, fun q hq2 => eA (hq q hq2) hi⟩, hh.to⟩
    refine ah (qV ..) ?_;refine de (s := s) (l := L) hh ?_
    by_cases hl : i < L.length
    case neg =>
     refine aa (bP (by omega)) ?_;refine gs ?_;exact out
    refine aa (cE (by omega)) ?_;refine gs ?_;refine aa (cE (by omega)) ?_;refine gs ?_;refine ah (Cu ..) ?_
    have hw4 : i % 4 < LL.length := by omega
    have hhl : (cw LL).length = LL.length := by simp [cw]
    refine aa (ky (by omega)) ?_;refine aa (ky (by omega)) ?_;rw [show (i : Int).tmod 4 = ((i % 4 : Nat) : Int) from by rw [agH (by omega)]; omega];refine ajS (s := vs b 4 1) (enc := cO) (l := cw LL) (i := i % 4) (v := jT LL[i % 4].1) hh (by omega) (by simp [cw]) fun a ha => ?_;refine aa (ha hh) ?_;refine Ht (s := s) (l := L) hh hl ?_;refine af hh (ab9 L[i] i) fun y H2 h2 => ?_;refine zI ((ha h2).trans (ha hh).symm) ?_;refine MS h2 fun rb H8 h8 => ?_;obtain ⟨Rr, e1, e2⟩ := yi hw4;have hql := hq LL[i % 4] (FX hw4);rw [e1] at h8;refine f5 (s := jT LL[i % 4].1) (l := LL[i % 4].2) (y : Cl) h8 rfl ?_ (by omega) fun a c H9 h9 => ?_
    ·unfold room; omega
    refine JU (s := vs b 4 1) (l := cw LL) (i := i % 4) ((a, LL[i % 4].2.length + 1, c) : zL) h9 (by omega) (.inl ⟨rfl, rfl⟩) rfl (by omega) rfl rfl fun H10 h10 => ?_;refine ah (Cv ..) ?_;refine aa (aS (by omega) (by omega)) ?_;rw [show ((i : Nat) : Int) + 1 = ((i + 1 : Nat) : Int) from by omega]
    have eh : cw (LL.set (i % 4) ((a, LL[i % 4].2.length + 1, c), LL[i % 4].2 ++ [y])) = (cw LL).set (i % 4) (a, LL[i % 4].2.length + 1, c) := by
     simp [cw, List.map_set]
    refine ih (i + 1) (LL.set (i % 4) ((a, LL[i % 4].2.length + 1, c), LL[i % 4].2 ++ [y])) H10 (by omega) (by omega) (by rw [N6]; exact h4) (fun q hq2 => ?_) ?_
    ·rcases List.mem_or_eq_of_mem_set hq2 with hq2 | rfl
     ·have := hq q hq2; omega
     ·simp; omega
    ·rw [eh, e2]
     exact h10.to
  refine loop most 0 [((none, 0, 0), []), ((none, 0, 0), []), ((none, 0, 0), []), ((none, 0, 0), [])] H1 rfl (Nat.zero_le _) rfl (fun q hq => by
   simp only [List.mem_cons, List.not_mem_nil, or_false] at hq
   rcases hq with rfl | rfl | rfl | rfl <;> simp) ?_
  have z := dL 4 Cl.cells (dL 4 Cl.cells (dL 4 Cl.cells (dL 4 Cl.cells h1)));show ac (ts 1 cO (vs b 4 1) (List.replicate 4 ((none, 0, 0) : zL)) * ((ts 4 Cl.cells (.slice none 0 0) [] * (ts 4 Cl.cells (.slice none 0 0) [] * (ts 4 Cl.cells (.slice none 0 0) [] * (ts 4 Cl.cells (.slice none 0 0) [] * emp)))) * (P * R))) H1;exact z.to
 obtain ⟨⟨b, LL⟩, H', e, h'⟩ := law emp H (by rw [fA]; exact h);rw [e];rw [fA, ac.pu] at h';exact hk b LL H' h'.1.1 h'.1.2 h'.2
structure AfterR (σ σ' : aM) (k : Nat) : Prop where
 si : SI σ' k
 c : σ'.c = σ.c
 obs : σ'.obs.length = σ.obs.length
theorem amS (d : Bool) : aj .bool .eql (vb d) (vb d) = some (vb true) := by cases d <;> rfl
section
variable (p x : Nat) (rp : List Nat) (σ : aM) (K : Nat)
theorem abV (S : SI σ K) (hK : K < 200000) (n : Nat) (hn : n < 10000) :
 Sp vM [.agg [vp p, vp x].toArray, vi n] (bd p rp σ * aJ x σ) (fun _ : aM => vb true) (fun σ' => pu (AfterR σ σ' (K + 8)) * (bd p rp σ' * aJ x σ')) := by
 have hc := bL.1 S.c;have hobs := S.obs;have hN0 := S.N;refine bh (N5 _ _) fun R H h => ?_;refine ba (l := [vp p, vp x]) h fun pb H1 h1 => ?_;refine aa (ky (by omega)) ?_;rw [show (n : Int).tmod 2 = ((n % 2 : Nat) : Int) from by rw [agH (by omega)]; omega]
 have turn : wp (ld [.f 0] (vp pb) H1 fun v9 => (FF d9 [v9, vi 5] H1).bind fun r10 => ld [.f 1] (vp pb) r10.2 fun v11 => (FF fJ [v11, vi 5] r10.2).bind fun r12 => some (vb true, r12.2)) fun v' H' => ∃ σ' : aM, v' = vb true ∧ ac (pu (AfterR σ σ' (K + 8)) * (bd p rp σ' * aJ x σ') * R) H' := by
  refine ak h1 aD rfl ?_;refine af h1 (aqI p rp σ 5 (by omega)) fun _ H2 h2 => ?_;refine ak h2 aD rfl ?_;refine af h2 (aqJ x σ 5 (by omega)) fun _ H3 h3 => ?_;refine am ⟨σ.mem (σ.μ.cnt 5 (2, 0, 0) 1), rfl, ?_⟩;rw [ai, ac.pu];exact ⟨⟨(S.cnt 5 (2, 0, 0) 1 (by simp) (by simp)).mono (by omega), rfl, rfl⟩, h3.to⟩
 by_cases he : n % 2 = 0
 ·refine aa (bg (show ((n % 2 : Nat) : Int) = 0 by omega)) ?_
  refine gs ?_;exact turn
 refine aa (aE (show ¬ ((n % 2 : Nat) : Int) = 0 by omega)) ?_;refine gs ?_;refine ak h1 aD rfl ?_;obtain ⟨g, rfl, hg, k1⟩ := dz (p := p) (rp := rp) (σ := σ) (R := aJ x σ * (blk pb (.cells false [vp p, vp x]) * R)) (H := H1) h1.to;obtain ⟨gx, hgx, l1⟩ := dW (p := x) (σ := σ) (R := aA p g σ * (blk pb (.cells false [vp p, vp x]) * R)) (H := H1) k1.to;refine gs ?_;refine ak l1 ae rfl ?_;have l1u := l1;unfold au at l1u;have hxl := hgx.1;refine gs ?_;refine ii (s := gx.rv) (l := gx.rp) l1u ?_;refine gs ?_
 by_cases h0 : gx.rp.length = 0
 ·refine aa (bg (by omega)) ?_
  refine gs ?_;exact turn
 ·refine aa (aE (by omega)) ?_
  refine gs ?_;refine aa (Mg (by omega) (by rw [Int.tdiv_eq_ediv_of_nonneg (by omega)]; omega) (by rw [Int.tdiv_eq_ediv_of_nonneg (by omega)]; omega)) ?_;refine ak l1 aD rfl ?_;refine ak l1 ae rfl ?_;refine de (s := gx.rv) (l := gx.rp) l1u ?_;refine Bl l1 (by omega) (by omega) fun H2 l2 => ?_;have m0 := fv (v := (n : Int).tdiv 2) (n := gx.rp.length) (by omega);obtain ⟨o, ho⟩ : ∃ o : Nat, (o : Int) = ez ((n : Int).tdiv 2) gx.rp.length := ⟨(ez ((n : Int).tdiv 2) gx.rp.length).toNat, by omega⟩;rw [← ho];rw [← ho] at m0
  have hol : o < σ.obs.length := by omega
  obtain ⟨b, hb⟩ : ∃ b, g.rp[o]? = some b := ⟨_, cB (by omega)⟩;obtain ⟨bx, hbx⟩ : ∃ b, gx.rp[o]? = some b := ⟨_, cB (by omega)⟩;refine ak l2 aD rfl ?_;refine af l2 (sU p g σ hg o b hol hb) fun _ H3 l3 => ?_;refine bC aD ?_;refine aV l3 rfl ?_;refine aI l2 l3 (by rfl) ?_;refine bC ae ?_;refine aV l3 rfl ?_;refine aI l2 l3 (by rfl) ?_;have l3u := l3;unfold au at l3u;have l2u := l2;unfold au at l2u
  have hbx' : nT (gx.rp[o]'(by omega)) = [vp bx] := by
   rw [cB (by omega)] at hbx;rw [gD hbx]
  refine ajS (s := gx.rv) (enc := nT) (l := gx.rp) (i := o) l3u (by omega) hbx' fun a ha => ?_;refine aa (ha l3u) ?_;refine zI ((ha l2u).trans (ha l3u).symm) ?_;obtain ⟨Rr, er1, er2⟩ := qB x gx σ o bx hxl hol hbx
  have l4 : ac (db gx.m o bx (az σ o) * (bK gx.m σ.μ * (gW gx.ib gx.m σ.c.sh σ.nx σ.μ.N * (Rr * (aA p g σ * (blk pb (.cells false [vp p, vp x]) * R)))))) H3 := by
   have l5 : ac (au x gx σ * (aA p g σ * (blk pb (.cells false [vp p, vp x]) * R))) H3 := l3.to;rw [er1 _ rfl] at l5;exact l5.to
  obtain ⟨cv, l6⟩ := fh l4;refine bC ae ?_;refine aV l6 rfl ?_;refine af l6 (dG 11 (o : Int) 0) fun _ H4 l7 => ?_;refine aI l7 l6 (by rfl) ?_;refine af l7 (ahT gx.m σ.μ (11, (o : Int), 0) (by have := S.N; omega)) fun _ H5 l8 => ?_
  -- both parts again, each a little older
  obtain ⟨σ1, hs1⟩ : ∃ σ1, σ1 = σ.bump 1 := ⟨_, rfl⟩
  have S1 : SI σ1 (K + 1) := by rw [hs1]; exact S.bump 1
  have m1 : ac (aA p g σ1 * (au x gx σ1 * (blk pb (.cells false [vp p, vp x]) * R))) H5 := by
   have q1 : ac (db gx.m o bx (az σ o) * (bK gx.m { σ.μ with N := σ.μ.N + 1 } * (gW gx.ib gx.m σ.c.sh σ.nx σ.μ.N * (Rr * (aA p g σ * (blk pb (.cells false [vp p, vp x]) * R)))))) H5 := lz (cv := cv) l8.to;have q2 := n7 (L' := σ.μ.N + 1) (by omega) (ac.fr (A := gW gx.ib gx.m σ.c.sh σ.nx σ.μ.N) q1)
   have q3 : ac (au x gx (σ.bump 1) * (aA p g σ * (blk pb (.cells false [vp p, vp x]) * R))) H5 := by
    have e2 := er2 { σ.μ with N := σ.μ.N + 1 } (az σ o);rw [F7 hol] at e2;have e3 : au x gx (σ.bump 1) = _ := e2;rw [e3];exact q2.to
   have q5 : ac (aA p g σ * (au x gx (σ.bump 1) * (blk pb (.cells false [vp p, vp x]) * R))) H5 := q3.to;unfold aA at q5;have q6 := jr (V := σ.μ.V) (E := σ.μ.E) (N := σ.μ.N) (N' := σ.μ.N + 1) (by omega) (ac.fr (A := bF g.m σ.μ) q5);rw [hs1];unfold aA;exact q6.to
  have es : σ1.obs = σ.obs ∧ σ1.c = σ.c ∧ σ1.μ.V = σ.μ.V ∧ σ1.places = σ.places ∧ σ.μ.N ≤ σ1.μ.N ∧ σ1.μ.N < 800000 := by rw [hs1]; exact ⟨rfl, rfl, rfl, rfl, by simp, by have := S.N; show σ.μ.N + 1 < _; omega⟩
  clear hs1
  obtain ⟨eo, ec, eV, ep, eN, eN8⟩ := es
  have hg1 : g.rp.length = σ1.obs.length := by rw [eo]; exact hg
  have hx1 : gx.rp.length = σ1.obs.length := by rw [eo]; exact hxl
  have ho1 : o < σ1.obs.length := by rw [eo]; exact hol
  clear l8 l7 l6 l4 l3 l2 l1 k1 l3u l2u l1u h1 h turn
  have hw : σ.μ.V (11, (o : Int), 0) < 18446744073709551616 := S.V _
  have hN8 : σ1.μ.N < 1099511627000 := by omega
  refine aa (v := vb true) rfl ?_;refine gs ?_;refine af m1 (jf (p := p) hg1 ho1 hb (ZX g.m o b (az σ1 o) σ1.μ 5 (σ.μ.V (11, (o : Int), 0)) hw hN8)) fun _ H9 m3 => ?_
  have ht : σ1.μ.N ≤ (σ1.μ.turn 5 o (σ.μ.V (11, (o : Int), 0)) (aP (σ.μ.V (11, (o : Int), 0)) 1)).N := by cases aP (σ.μ.V (11, (o : Int), 0)) 1 <;> simp
  refine gs ?_;refine af m3 (kR (p := x) ht hx1 ho1 hbx (wK gx.m o bx (az σ1 o) σ1.μ 5 (σ.μ.V (11, (o : Int), 0)) 1 (by omega) hw hN8)) fun _ H10 m4 => ?_;refine gs ?_;refine aa (amS _) ?_;refine gs ?_;refine am ⟨σ1.mem (σ1.μ.turn 5 o (σ.μ.V (11, (o : Int), 0)) (aP (σ.μ.V (11, (o : Int), 0)) 1)), rfl, ?_⟩;rw [ai, ac.pu];refine ⟨⟨(S1.turn 5 o _ 1).mono (by omega), ec, by show σ1.obs.length = _; rw [eo]⟩, ?_⟩;obtain ⟨σ2, hs2⟩ : ∃ σ2, σ2 = σ1.mem (σ1.μ.turn 5 o (σ.μ.V (11, (o : Int), 0)) (aP (σ.μ.V (11, (o : Int), 0)) 1)) := ⟨_, rfl⟩
  have e2 : σ2.obs = σ.obs ∧ σ2.places = σ.places ∧ σ.μ.N ≤ σ2.μ.N := by rw [hs2]; exact ⟨eo, ep, eA eN ht⟩
  have m5 : ac (aA p g σ2 * (au x gx σ2 * (blk pb (.cells false [vp p, vp x]) * R))) H10 := by rw [hs2]; exact m4.to
  rw [← hs2];have q1 := bB (p := p) (rp := g.rp) (σ := σ2) (R := au x gx σ2 * (blk pb (.cells false [vp p, vp x]) * R)) (H := H10) g rfl (by rw [e2.1]; exact hg) m5;have q2 := cN (p := x) (σ := σ2) (R := bd p g.rp σ2 * (blk pb (.cells false [vp p, vp x]) * R)) (H := H10) gx ⟨by rw [e2.1]; exact hxl, by rw [e2.2.1]; exact hgx.2.1, eA hgx.2.2 e2.2.2⟩ q1.to;exact q2.to
end
instance {c : Bool} {e1 : Option Value} {k : Value → OV} : Gd ((zM (yv undef) c e1 (some undef)).bind k) (k undef) := ⟨fun h => by cases c <;> exact h⟩
theorem Y4 {ws : List Wk} {w : Nat} (h : w < ws.length) {q : Wk} (e : wM q = wM ws[w]) : (ws.set w q).flatMap wM = ws.flatMap wM := by
 rw [FL ws w h q, e, ← nb ws w h]
theorem ar8 {xb x : Nat} {r : aM × Tk × Bool} (h : r.2.2 = false) : zU xb x r = zT xb x r.2.1 := by
 unfold zU zT
 split
 ·exact ar6 h
 ·unfold yU yT
  simp only [h]
  rfl
theorem arC {e p : Nat} {rp : List Nat} {r : aM × Tk × Bool} (h : r.2.2 = false) : aU e p rp r = aT e p rp r.2.1 := by
 unfold aU;rw [if_neg (by rw [h]; simp)]
section
variable (p x pb tb ab : Nat) (lb : Nat) (LL : List (zL × List Cl)) (pv : Value) (picks : List Int) (blows : Bool) (most : Nat)
abbrev TuP (rp : List Nat) (σ : aM) (ws : List Wk) (ats : List Nat) (R : SP) : SP :=
 blk pb (.cells false [vp p, vp x]) * (blk tb (.cells false (ws.flatMap wM)) * (blk ab (.cells false (ats.map fun (n : Nat) => vi (n : Int))) * (bd p rp σ * (aJ x σ * (lU p x rp ws * (ts 1 cO (vs lb 4 1) (cw LL) * (eC LL * R)))))))
def TuQ (I : aM → List Wk → Prop) (R : SP) (v' : Value) (H' : AH) : Prop := ∃ (b : Bool) (rp' : List Nat) (σ' : aM) (ws' : List Wk), v' = .tuple #[vb b, vb true] ∧ SI σ' 60000 ∧ I σ' ws' ∧ ac (bd p rp' σ' * (aJ x σ' * R)) H'
variable (I : aM → List Wk → Prop)
theorem aaI (hL : LL.length = 4) {rp : List Nat} {R : SP} {σ : aM} {ws : List Wk} {ats : List Nat} {H : AH} (S : SI σ 60000) (hI : I σ ws) (W : WsR σ ws ats)
 (h : ac (TuP p x pb tb ab lb LL rp σ ws ats R) H) (x10 x11 : Value) :
 wp (qp (vs lb 4 1) x10 x11 (vp tb) (vp ab) H) (TuQ p x I R) := by
 have hhl : (cw LL).length = 4 := by simp [cw, hL]
 have fin : ∀ b, TuQ p x I R (.tuple #[vb b, vb true]) H := fun b => ⟨b, rp, σ, ws, rfl, S, hI, h.to⟩;refine ah (Cx ..) ?_;refine ah (Cz ..) ?_
 have loop : ∀ (d w : Nat), w + d = 4 → wp (ma (vs lb 4 1) x10 x11 (vp tb) (vp ab) (vi (w : Int)) H) (TuQ p x I R) := by
  intro d
  induction d with
  | zero =>
   intro w hw;refine ah (qX ..) ?_;refine aa (bP (by omega)) ?_;refine gs ?_;refine ah (yd ..) ?_;refine ah (Cy ..) ?_;exact am (fin true)
  | succ d ih =>
   intro w hw
   have hw4 : w < 4 := by omega
   have hwL : w < LL.length := by omega
   have hwl : w < ws.length := by rw [W.l]; exact hw4
   refine ah (qX ..) ?_;refine aa (cE (by omega)) ?_;refine gs ?_;refine ii (s := vs lb 4 1) (l := cw LL) h ?_;refine gs ?_;refine aa (cE (by omega)) ?_;refine gs ?_;refine ah (CA ..) ?_
   have next : wp (qq (vs lb 4 1) x10 x11 (vp tb) (vp ab) (vi (w : Int)) H) (TuQ p x I R) := by
    refine ah (CB ..) ?_;refine aa (aS (by omega) (by omega)) ?_;exact ih (w + 1) (by omega)
   cases hq : ws[w] with
   | some q =>
    refine Wm (v := vp q.2.1) h W.l hw4 (by omega) (by rw [hq]; rfl) ?_;refine aa (amT _) ?_;refine gs ?_;exact am (fin false)
   | none =>
    refine Wm (v := .pointer none) h W.l hw4 (by omega) (by rw [hq]; rfl) ?_;refine aa (ag7) ?_;refine gs ?_;refine O5 (v := vi (ats[w]'(by rw [W.al]; exact hw4) : Nat)) h hw4 (by rw [An, cB (by rw [W.al]; exact hw4)]; rfl) ?_;refine gs ?_;refine eF (s := vs lb 4 1) (l := cw LL) (i := w) (v := jT (LL[w]'hwL).1) h (by omega) (by simp [cw]) ?_;refine gs ?_
    haveI := Ji (LL := LL) (i := w) hwL
    refine ii (s := jT (LL[w]'hwL).1) (l := (LL[w]'hwL).2) h ?_;refine gs ?_
    by_cases hlt : ats[w]'(by rw [W.al]; exact hw4) < (LL[w]'hwL).2.length
    ·refine aa (cE (by omega)) ?_
     refine gs ?_;exact am (fin false)
    ·refine aa (bP (by omega)) ?_
     refine gs ?_;exact next
 exact loop 4 0 rfl
variable (x10 x11 : Value) (Z : SP)
variable (hL : LL.length = 4) (hQ : ∀ q ∈ LL, q.2.length ≤ 1000) (hm : most ≤ 4000) [hP : Rd Z pv 1 cr picks]
variable (hIs : ∀ (σ : aM) (ws : List Wk) (w : Nat) (q : Nat × Nat × Tk) (now : Int) (K : Nat), K < 60000 → SI σ K → ws.length = 4 → ws[w]? = some (some q) → Pp σ q.2.2 → I σ ws →
 I (fW σ q.2.2 now).1 (ws.set w (if (fW σ q.2.2 now).2.2 = true then none else some (q.1, q.2.1, (fW σ q.2.2 now).2.1))))
variable (hIb : ∀ (σ : aM) (ws : List Wk) (w e xk : Nat) (place : Int) (c : Cl), cQ σ.c = true → ws.length = 4 → ws[w]? = some none → I σ ws → I (σ.begin w place) (ws.set w (some (e, xk, Tk.newA σ.c w c))))
variable (hIt : blows = true → ∀ (σ σ' : aM) (ws : List Wk) (k : Nat), AfterR σ σ' k → I σ ws → I σ' ws)
include hL hm hP hIs hIb hIt
theorem Sz : ∀ (d i K now : Nat) (rp : List Nat) (σ : aM) (ws : List Wk) (ats : List Nat) (H : AH), i + d = most → SI σ K → K ≤ 16 + 12 * i → now ≤ i → WsR σ ws ats → (∀ a ∈ ats, a ≤ i) → I σ ws →
 ac (TuP p x pb tb ab lb LL rp σ ws ats Z) H →
 wp (kB (vs lb 4 1) pv (vi (most : Int)) (vb blows) (vp pb) x10 x11 (vp tb) (vp ab) (vi (now : Int)) (vi (i : Int)) H) (TuQ p x I Z) := by
 have hhl : (cw LL).length = 4 := by simp [cw, hL]
 intro d
 induction d with
 | zero =>
  intro i K now rp σ ws ats H hi S hK hnow W ha hI h;refine ah (pF ..) ?_;refine aa (bP (by omega)) ?_;refine gs ?_;refine ah (vF ..) ?_;exact aaI p x pb tb ab lb LL I hL (S.mono (by omega)) hI W h x10 x11
 | succ d ih =>
  intro i K now rp σ ws ats H hi S hK hnow W ha hI h;refine ah (pF ..) ?_;refine aa (cE (by omega)) ?_;refine gs ?_;refine ah (Ah ..) ?_;refine aa (ky (by omega)) ?_
  -- what is next, whatever was done
  have next : ∀ (K' now' : Nat) (rp' : List Nat) (σ' : aM) (ws' : List Wk) (ats' : List Nat) (H' : AH), SI σ' K' → K' ≤ 16 + 12 * (i + 1) → now' ≤ i + 1 → WsR σ' ws' ats' → (∀ a ∈ ats', a ≤ i + 1) → I σ' ws' →
   ac (TuP p x pb tb ab lb LL rp' σ' ws' ats' Z) H' →
   wp (iG (vs lb 4 1) pv (vi (most : Int)) (vb blows) (vp pb) x10 x11 (vp tb) (vp ab) (vi (now' : Int)) (vi (i : Int)) H') (TuQ p x I Z) := by
   intro K' now' rp' σ' ws' ats' H' S' hK' hnow' W' ha' hI' h';refine ah (Ai ..) ?_;refine aa (aS (by omega) (by omega)) ?_;rw [show ((i : Nat) : Int) + 1 = ((i + 1 : Nat) : Int) from by omega];exact ih (i + 1) K' now' rp' σ' ws' ats' H' (by omega) S' hK' hnow' W' ha' hI' h'
  have skip : ∀ (H' : AH), ac (TuP p x pb tb ab lb LL rp σ ws ats Z) H' → wp (iK (vs lb 4 1) pv (vi (most : Int)) (vb blows) (vp pb) x10 x11 (vp tb) (vp ab) (vi (now : Int)) (vi (i : Int)) H') (TuQ p x I Z) := by
   intro H' h';refine ah (nc ..) ?_;exact next K now rp σ ws ats H' S (by omega) (by omega) W (fun a h2 => by have := ha a h2; omega) hI h'
  -- a step of one that is under way
  have step : ∀ (w : Nat) (hw : w < 4) (e xk : Nat) (t : Tk) (K1 : Nat) (σ1 : aM) (ws1 : List Wk) (ats1 : List Nat) (H1 : AH), SI σ1 K1 → K1 ≤ 16 + 12 * i + 1 → (W1 : WsR σ1 ws1 ats1) → (∀ a ∈ ats1, a ≤ i + 1) → I σ1 ws1 →
   ws1[w]'(by rw [W1.l]; exact hw) = some (e, xk, t) → ac (TuP p x pb tb ab lb LL rp σ1 ws1 ats1 Z) H1 →
   wp (kE (vs lb 4 1) pv (vi (most : Int)) (vb blows) (vp pb) x10 x11 (vp tb) (vp ab) (vi (now : Int)) (vi (i : Int)) (vi (w : Int)) H1) (TuQ p x I Z) := by
   intro w hw e xk t K1 σ1 ws1 ats1 H1 S1 hK1 W1 ha1 hI1 hwk h1
   have hwl : w < ws1.length := by rw [W1.l]; exact hw
   have hal : w < ats1.length := by rw [W1.al]; exact hw
   have wt0 := W1.r w hw;rw [hwk] at wt0;have wt : Pp σ1 t := wt0;obtain ⟨l1, l2, es1, es2⟩ := JV p x rp hwl
   have es1' : lU p x rp ws1 = aT e p rp t * zT xk x t * (lU p x rp l1 * lU p x rp l2) := by rw [es1, hwk]; rfl
   have K2 := Sn (now : Int) (by omega) S1 wt;obtain ⟨r, hr⟩ : ∃ r, r = fW σ1 t now := ⟨_, rfl⟩;have hI2 := hIs σ1 ws1 w (e, xk, t) now K1 (by omega) S1 W1.l (by rw [cB hwl, hwk]) wt hI1;dsimp only at hI2;have law := aaG p x rp e xk σ1 t now K1 S1 (by omega) wt;rw [← hr] at K2 hI2 law;refine ah (Am ..) ?_;refine aqM h1 W1.l hw ?_;rw [show (ws1[w]'(by rw [W1.l]; exact hw)) = some (e, xk, t) from hwk];refine aZ h1 ?_
   have h2 : ac (aT e p rp t * (bd p rp σ1 * (zT xk x t * aJ x σ1)) * (blk pb (.cells false [vp p, vp x]) * (blk tb (.cells false (ws1.flatMap wM)) * (blk ab (.cells false (ats1.map fun (n : Nat) => vi (n : Int))) * (lU p x rp l1 * (lU p x rp l2 * (ts 1 cO (vs lb 4 1) (cw LL) * (eC LL * Z)))))))) H1 := by
    unfold TuP at h1;rw [es1'] at h1;exact h1.to
   refine af h2 law fun rp' H2 h3 => ?_;rw [ai, ac.pu] at h3;obtain ⟨hpre, h3⟩ := h3;refine aa (v := .agg (ie (if r.2.2 = true then r.2.1.code else 0)).toArray) rfl ?_;refine aa (v := vb r.2.2) rfl ?_;refine aa (v := vb true) rfl ?_;refine br h3 fun qb H3 h4 => ?_;refine fi h4 rfl rfl fun H4 h5 => ?_;refine gs ?_;rw [Bool.not_true];refine gs ?_;refine aa (aS (by omega) (by omega)) ?_;rw [show ((now : Nat) : Int) + 1 = ((now + 1 : Nat) : Int) from by omega]
   -- the other workers', with the rings there are now
   have h6 : ac (lU p x rp' l1 * (lU p x rp' l2 * (aU e p rp' r * (zU xk x r * (bd p rp' r.1 * (aJ x r.1 * (blk pb (.cells false [vp p, vp x]) * (blk tb (.cells false (ws1.flatMap wM)) * (blk ab (.cells false (ats1.map fun (n : Nat) => vi (n : Int))) * (ts 1 cO (vs lb 4 1) (cw LL) * (eC LL * Z))))))))))) H4 := by
    have q1 : ac (lU p x rp l1 * (lU p x rp l2 * (aU e p rp' r * (zU xk x r * (bd p rp' r.1 * (aJ x r.1 * (blk pb (.cells false [vp p, vp x]) * (blk tb (.cells false (ws1.flatMap wM)) * (blk ab (.cells false (ats1.map fun (n : Nat) => vi (n : Int))) * (ts 1 cO (vs lb 4 1) (cw LL) * (eC LL * Z))))))))))) H4 := h5.to;have q2 := Pb hpre l1 q1;have q3 : ac (lU p x rp l2 * (lU p x rp' l1 * (aU e p rp' r * (zU xk x r * (bd p rp' r.1 * (aJ x r.1 * (blk pb (.cells false [vp p, vp x]) * (blk tb (.cells false (ws1.flatMap wM)) * (blk ab (.cells false (ats1.map fun (n : Nat) => vi (n : Int))) * (ts 1 cO (vs lb 4 1) (cw LL) * (eC LL * Z))))))))))) H4 := q2.to;have q4 := Pb hpre l2 q3;exact q4.to
   cases hd : r.2.2
   ·rw [arC hd, ar8 hd] at h6
    refine gs ?_;rw [hd, if_neg (by simp)] at hI2;have W2 := (W1.mono K2.c K2.obs).set hw (q := some (e, xk, r.2.1)) ats1[w] (K2.ok hd);rw [OK hal] at W2
    have ew : (ws1.set w (some (e, xk, r.2.1))).flatMap wM = ws1.flatMap wM := Y4 hwl (by
     rw [hwk];show tkV r.2.1.x.op e xk = tkV t.x.op e xk
     rw [K2.x])
    refine next (K1 + 3) (now + 1) rp' r.1 _ ats1 H4 K2.si (by omega) (by omega) W2 ha1 hI2 ?_;have e3 : lU p x rp' (ws1.set w (some (e, xk, r.2.1))) = aT e p rp' r.2.1 * zT xk x r.2.1 * (lU p x rp' l1 * lU p x rp' l2) := es2 rp' _;unfold TuP;rw [e3, ew];exact h6.to
   ·refine gs ?_
    rw [hd, if_pos rfl] at hI2;refine jc ?_;refine aoZ (ws := ws1) (q := none) h6 W1.l hw fun H5 h7 => ?_;have W2 := (W1.mono K2.c K2.obs).set hw (q := none) ats1[w] trivial;rw [OK hal] at W2;refine next (K1 + 3) (now + 1) rp' r.1 _ ats1 H5 K2.si (by omega) (by omega) W2 ha1 hI2 ?_;have e3 : lU p x rp' (ws1.set w none) = emp * (lU p x rp' l1 * lU p x rp' l2) := es2 rp' _;unfold TuP;rw [e3, ft];exact h7.to
  -- one is picked
  have pick : ∀ (w : Nat) (hw : w < 4) (H' : AH), ac (TuP p x pb tb ab lb LL rp σ ws ats Z) H' →
   wp (kD (vs lb 4 1) pv (vi (most : Int)) (vb blows) (vp pb) x10 x11 (vp tb) (vp ab) (vi (now : Int)) (vi (i : Int)) (vi (w : Int)) H') (TuQ p x I Z) := by
   intro w hw H' h'
   have hwL : w < LL.length := by omega
   have hwl : w < ws.length := by rw [W.l]; exact hw
   have hal : w < ats.length := by rw [W.al]; exact hw
   refine ah (Al ..) ?_
   cases hq : ws[w] with
   | some q =>
    refine Wm (v := vp q.2.1) h' W.l hw (by omega) (by rw [hq]; rfl) ?_;refine aa (vW _) ?_;refine gs ?_;exact step w hw q.1 q.2.1 q.2.2 K σ ws ats H' S (by omega) W (fun a h2 => by have := ha a h2; omega) hI hq h'
   | none =>
    refine Wm (v := .pointer none) h' W.l hw (by omega) (by rw [hq]; rfl) ?_;refine aa (amZ) ?_;refine gs ?_;refine de (s := vs lb 4 1) (l := cw LL) h' ?_;refine aa (il (by omega)) ?_;refine gs ?_
    have hav : (ats.map fun (n : Nat) => vi (n : Int))[w]? = some (vi (ats[w] : Nat)) := by rw [An, cB hal]; rfl
    refine O5 (v := vi (ats[w] : Nat)) h' hw hav ?_;refine gs ?_;refine eF (s := vs lb 4 1) (l := cw LL) (i := w) (v := jT (LL[w]'hwL).1) h' (by omega) (by simp [cw]) ?_;refine gs ?_
    haveI := Ji (LL := LL) (i := w) hwL
    refine ii (s := jT (LL[w]'hwL).1) (l := (LL[w]'hwL).2) h' ?_;refine gs ?_
    by_cases hge : (LL[w]'hwL).2.length ≤ ats[w]
    ·refine aa (jV (by omega)) ?_
     refine gs ?_;exact skip H' h'
    ·refine aa (il (by omega)) ?_
     refine gs ?_
     have hat : ats[w] < (LL[w]'hwL).2.length := by omega
     refine aZ h' ?_;refine O5 (v := vi (ats[w] : Nat)) h' hw hav ?_;refine eF (s := vs lb 4 1) (l := cw LL) (i := w) (v := jT (LL[w]'hwL).1) h' (by omega) (by simp [cw]) ?_;refine O5 (v := vi (ats[w] : Nat)) h' hw hav ?_;refine Ht (s := jT (LL[w]'hwL).1) (l := (LL[w]'hwL).2) h' hat ?_;have hat400 : ats[w] ≤ i := ha _ (FX hal);obtain ⟨c, hc⟩ : ∃ c : Cl, c = (LL[w]'hwL).2[ats[w]]'hat := ⟨_, rfl⟩;rw [← hc];refine af h' (WK p x rp σ S.c (by have := S.N; omega) w ats[w] c) fun g H3 h3 => ?_;obtain ⟨e, xk⟩ := g
     have ev : tkV c.op e xk = wM (some (e, xk, Tk.newA σ.c w c)) := by
      show _ = tkV (Tk.newA σ.c w c).x.op e xk;rw [apV]
     dsimp only at h3 ⊢;rw [ev];refine aoZ (ws := ws) (q := some (e, xk, Tk.newA σ.c w c)) h3 W.l hw fun H6 h6 => ?_;refine O5 (v := vi (ats[w] : Nat)) h6 hw hav ?_;refine aa (aS (by omega) (by omega)) ?_;rw [show ((ats[w] : Nat) : Int) + 1 = ((ats[w] + 1 : Nat) : Int) from by omega];refine ar2 (v := vi ((ats[w] + 1 : Nat) : Int)) (w := w) h6 hw (by rw [us]; exact W.al) rfl fun H8 h8 => ?_;have W2 := (W.mono (σ' := σ.begin w ats[w]) rfl (bv _)).set hw (q := some (e, xk, Tk.newA σ.c w c)) (ats[w] + 1) (Pp.new (σ := σ.begin w ats[w]) S.c w c);obtain ⟨l1, l2, es1, es2⟩ := JV p x rp hwl
     have es1' : lU p x rp ws = emp * (lU p x rp l1 * lU p x rp l2) := by rw [es1, hq]; rfl
     have e3' : lU p x rp (ws.set w (some (e, xk, Tk.newA σ.c w c))) = aT e p rp (Tk.newA σ.c w c) * zT xk x (Tk.newA σ.c w c) * (lU p x rp l1 * lU p x rp l2) := es2 rp _;refine step w hw e xk (Tk.newA σ.c w c) (K + 1) (σ.begin w ats[w]) _ (ats.set w (ats[w] + 1)) H8 (S.begin _ _) (by omega) W2 (fun a h2 => ?_) (hIb σ ws w e xk ats[w] c S.c W.l (by rw [cB hwl, hq]) hI) (by rw [List.getElem_set_self]) ?_
     ·rcases List.mem_or_eq_of_mem_set h2 with h2 | rfl
      ·have := ha a h2; omega
      ·omega
     ·unfold TuP
      rw [e3']
      have em : ((ats.set w (ats[w] + 1)).map fun (n : Nat) => vi (n : Int)) = (ats.map fun (n : Nat) => vi (n : Int)).set w (vi ((ats[w] + 1 : Nat) : Int)) := by rw [List.map_set]
      rw [em];rw [es1', ft] at h8;exact h8.to
  have k34 : ∀ (m : Int) (H1 : AH), 0 ≤ m ∧ m < 9 → ac (TuP p x pb tb ab lb LL rp σ ws ats Z) H1 →
   wp (kC (vs lb 4 1) pv (vi (most : Int)) (vb blows) (vp pb) x10 x11 (vp tb) (vp ab) (vi (now : Int)) (vi (i : Int)) (vi m) H1) (TuQ p x I Z) := by
   intro m H1 m9 h1;refine ah (Ak ..) ?_
   have other : wp ((aj .other .rem (vi m) (vi 4)).bind fun v123 => kD (vs lb 4 1) pv (vi (most : Int)) (vb blows) (vp pb) x10 x11 (vp tb) (vp ab) (vi (now : Int)) (vi (i : Int)) v123 H1) (TuQ p x I Z) := by
    refine aa (ky (by omega)) ?_
    obtain ⟨w, hw, ew⟩ : ∃ w : Nat, w < 4 ∧ m.tmod 4 = (w : Int) := by
     rw [agH m9.1];exact ⟨(m % 4).toNat, by omega, by omega⟩
    rw [ew];exact pick w hw H1 h1
   by_cases h8 : m = 8
   ·refine aa (bg h8) ?_
    refine gs ?_;cases hbl : blows
    ·rw [hbl] at other
     refine gs ?_;exact other
    ·refine gs ?_
     refine aZ h1 ?_;refine af h1 (abV p x rp σ K S (by omega) i (by omega)) fun σ2 H2 h2 => ?_;have h2' : ac (pu (AfterR σ σ2 (K + 8)) * (bd p rp σ2 * (aJ x σ2 * (blk pb (.cells false [vp p, vp x]) * (blk tb (.cells false (ws.flatMap wM)) * (blk ab (.cells false (ats.map fun (n : Nat) => vi (n : Int))) * (lU p x rp ws * (ts 1 cO (vs lb 4 1) (cw LL) * (eC LL * Z))))))))) H2 := h2.to;rw [ac.pu] at h2';obtain ⟨A, h3⟩ := h2';refine gs ?_;rw [Bool.not_true];refine gs ?_;refine ah (nc ..) ?_;have := next (K + 8) now rp σ2 ws ats H2 A.si (by omega) (by omega) (W.mono A.c (Nat.le_of_eq A.obs.symm)) (fun a h2 => by have := ha a h2; omega) (hIt hbl σ σ2 ws _ A hI) h3.to;rw [hbl] at this;exact this
   ·refine aa (aE h8) ?_
    refine gs ?_;exact other
  refine ah (Aj ..) ?_;refine de (s := pv) (l := picks) h ?_;rw [show (i : Int).tmod 4 = ((i % 4 : Nat) : Int) from by rw [agH (by omega)]; omega]
  by_cases hpl : i < picks.length
  ·refine aa (cE (by omega)) ?_
   refine gs ?_;refine eF (s := pv) (l := picks) (v := vi picks[i]) h hpl rfl ?_;refine Bl h (by omega) (by omega) fun H1 h1 => ?_;exact k34 _ H1 (fv (v := picks[i]) (n := 9) (by omega)) h1
  ·refine aa (bP (by omega)) ?_
   refine gs ?_;exact k34 _ H (by omega) h
end
theorem aaJ (p x : Nat) (rp : List Nat) (σ : aM) (K : Nat) (S : SI σ K) (hK : K ≤ 16) (lb : Nat) (LL : List (zL × List Cl)) (hL : LL.length = 4) (pv : Value) (picks : List Int) (blows : Bool) (most : Nat) (hm : most ≤ 4000)
 (I : aM → List Wk → Prop) (hI0 : I σ [none, none, none, none])
 (hIs : ∀ (σ : aM) (ws : List Wk) (w : Nat) (q : Nat × Nat × Tk) (now : Int) (K : Nat), K < 60000 → SI σ K → ws.length = 4 → ws[w]? = some (some q) → Pp σ q.2.2 → I σ ws →
  I (fW σ q.2.2 now).1 (ws.set w (if (fW σ q.2.2 now).2.2 = true then none else some (q.1, q.2.1, (fW σ q.2.2 now).2.1))))
 (hIb : ∀ (σ : aM) (ws : List Wk) (w e xk : Nat) (place : Int) (c : Cl), cQ σ.c = true → ws.length = 4 → ws[w]? = some none → I σ ws → I (σ.begin w place) (ws.set w (some (e, xk, Tk.newA σ.c w c))))
 (hIt : blows = true → ∀ (σ σ' : aM) (ws : List Wk) (k : Nat), AfterR σ σ' k → I σ ws → I σ' ws)
 {Z : SP} [hP : Rd Z pv 1 cr picks] {P : SP} {H : AH} (h : ac P H) [f : Fr P (bd p rp σ * (aJ x σ * (ts 1 cO (vs lb 4 1) (cw LL) * eC LL))) Z] {k : Value × AH → OV} {Q : Value → AH → Prop}
 (hk : ∀ (b : Bool) (rp' : List Nat) (σ' : aM) (ws' : List Wk) (H' : AH), SI σ' 60000 → I σ' ws' → ac (bd p rp' σ' * (aJ x σ' * Z)) H' → wp (k (.tuple #[vb b, vb true], H')) Q) :
 wp ((FF oc [.agg [vp p, vp x].toArray, vs lb 4 1, pv, vi (most : Int), vb blows] H).bind k) Q := by
 have h0 : ac (bd p rp σ * (aJ x σ * (ts 1 cO (vs lb 4 1) (cw LL) * eC LL)) * Z) H := ac.fr h
 have main : wp (FF oc [.agg [vp p, vp x].toArray, vs lb 4 1, pv, vi (most : Int), vb blows] H) (TuQ p x I Z) := by
  refine bm (fun r => LX _ _ _ _ _ H) ?_;refine ba (l := [vp p, vp x]) h0 fun pb H1 h1 => ?_;refine br h1 fun tb H2 h2 => ?_;refine br h2 fun ab H4 h4 => ?_;refine ah (Cw ..) ?_;refine ah (Ag ..) ?_;refine Sz p x pb tb ab lb LL pv picks blows most I (vb false) (vb false) Z hL hm hIs hIb hIt most 0 K 0 rp σ [none, none, none, none] [0, 0, 0, 0] H4 (by omega) S (by omega) (bv _) ⟨rfl, rfl, fun w hw => ?_⟩ (fun a ha => ?_) hI0 ?_
  ·have : w = 0 ∨ w = 1 ∨ w = 2 ∨ w = 3 := by omega
   rcases this with rfl | rfl | rfl | rfl <;> trivial
  ·simp at ha; omega
  ·show ac (blk pb (.cells false [vp p, vp x]) * (blk tb (.cells false [.pointer none, .pointer none, .pointer none, .pointer none, .pointer none, .pointer none, .pointer none, .pointer none, .pointer none, .pointer none, .pointer none, .pointer none]) * (blk ab (.cells false [vi 0, vi 0, vi 0, vi 0]) * (bd p rp σ * (aJ x σ * ((emp * (emp * (emp * (emp * emp)))) * (ts 1 cO (vs lb 4 1) (cw LL) * (eC LL * Z)))))))) H4
   exact h4.to
 obtain ⟨v, H', e, b, rp', σ', ws', rfl, S', hI', h'⟩ := main;rw [e];exact hk b rp' σ' ws' H' S' hI' h'
section
variable (N Q R S O P T U : Value) (H : AH)
theorem Cr {r : Value × AH} (h : (
 aW (Value.cells N).toList H fun o l =>
 (ax 5 o l).bind fun p =>
 (FF vK [p, (vi 2)] l).bind fun e =>
 (ag e.1 0).bind fun q =>
 (ag e.1 1).bind fun s =>
 aW [(.pointer none), (.pointer none)] e.2 fun a t =>
 (cH 2 a q t).bind fun w =>
 (FF sG [] w).bind fun b =>
 (pM .not b.1).bind fun g =>
 (gV g false s).bind fun y =>
 (gB g false (pM .not y)).bind fun z =>
 (aK g (vb true) z).bind fun A =>
 av A
 (some ((vb false), b.2))
 ((ax 2 a b.2).bind fun B =>
 (FF oa [Q, (vi 16)] b.2).bind fun i =>
 bT (ax 2 a i.2) (ax 2 a b.2) <|
 (FF Vz [R, (vi 9), (vi 200)] i.2).bind fun j =>
 bT (ax 2 a j.2) (ax 2 a b.2) <|
 (FF oc [B, i.1, j.1, (vi 600), (vb false)] j.2).bind fun c =>
 (ag c.1 0).bind fun K =>
 (ag c.1 1).bind fun k =>
 ld [.f 0] a c.2 fun C =>
 ld [.n, .f 0] C c.2 fun D =>
 (FF g7 [D] c.2).bind fun m =>
 (FF sO [m.1] m.2).bind fun d =>
 (ag d.1 0).bind fun L =>
 (ag d.1 1).bind fun M =>
 (ag d.1 2).bind fun E =>
 (gV k true E).bind fun G =>
 (gB k true (pM .not G)).bind fun I =>
 (aK k I (vb false)).bind fun J =>
 some (J, d.2))) = some r) : FF ju [N, Q, R] H = some r :=
 fo Tryz.func6 (by kernel_rfl) h
noncomputable def lg (p : List Nat) : Code := Code.sub (bH Tryz.f31) p
noncomputable def m8 : KK := dM PP (Tryz.f31).results.toList
noncomputable def aeG : KK := CQ (lg [1, 1]) m8 bA m8
noncomputable def yP : OV := aeG (ls [N, u, R, S, O, P] 38) H
noncomputable def QI : KK := CQ (lg [1, 1, 1]) m8 bA m8
noncomputable def aeE : KK := eG Ni QI
noncomputable def yQ : OV := QI (ls [u, u, R, S, O] 39) H
noncomputable def aeI : KK := CQ (lg [1, 1, 0, 1]) aeE bA m8
noncomputable def yR : OV := aeI (ls [N, u, R, S, O, P, T] 37) H
noncomputable def QL : KX := BX 0 aeE bA
noncomputable def LJ : KX := qQ Ni QL
noncomputable def QJ : KK := Cb (lg [1, 1, 0, 1, 4, 5]) LJ m8
noncomputable def aeF : KK := eG uH QJ
noncomputable def mh : OV := QJ (ls [N, u, R, S, O, P, T] 37) H
noncomputable def aeK : KK := CQ (lg [1, 1, 0, 1, 4, 5, 1]) aeF LJ m8
noncomputable def yS : OV := aeK (ls [N, u, R, S, O, P, T] 37) H
noncomputable def QK : KK := CQ (lg [1, 1, 0, 1, 4, 5, 1, 1]) aeF LJ m8
noncomputable def QH : KK := eG uH QK
noncomputable def yV : OV := QK (ls [N, u, R, S, O, P, T] 37) H
noncomputable def aeO : KX := BX 1 QH LJ
noncomputable def aeP : KX := qQ uH aeO
noncomputable def aeM : KK := CQ (lg [1, 1, 0, 1, 4, 5, 1, 0, 4, 1]) QH aeP m8
noncomputable def yW : OV := aeM (ls [N, u, R, S, O, P, T, U] 36) H
noncomputable def LI : KX := BX 2 QH aeP
noncomputable def DW : KX := qQ uH LI
noncomputable def LG : KK := Cb (lg [1, 1, 0, 1, 4, 5, 1, 0, 4, 1, 4, 5]) DW m8
noncomputable def U2 : KK := eG EB LG
noncomputable def kO : OV := LG (ls [N, u, R, S, O, P, T, U] 36) H
noncomputable def U3 : KK := CQ (lg [1, 1, 0, 1, 4, 5, 1, 0, 4, 1, 4, 5, 1]) U2 DW m8
noncomputable def u4 : OV := U3 (ls [N, u, R, S, O, P, T, U] 36) H
noncomputable def LH : KK := CQ (lg [1, 1, 0, 1, 4, 5, 1, 0, 4, 1, 4, 5, 1, 1]) U2 DW m8
noncomputable def amB : KK := eG EB LH
noncomputable def oY : OV := LH (ls [N, u, R, S, O, P, T, U] 36) H
noncomputable def amC : KX := BX 3 amB DW
noncomputable def q8 : OV := LI 2 (ls [N, u, R, S, O, P, T] 37) H
noncomputable def sZ : OV := QL 0 (ls [u, u, R, S, O] 39) H
theorem iJ : ar Ni m8 := rf
theorem aeH : ar 17592186044354 aeG := rc iJ aB iJ
theorem Fw : ar Ni QI := rc iJ aB iJ
theorem aeJ : ar uH aeI := rc (cd Fw) aB iJ
theorem sm : ∀ i, ar Ni (QL i) := rb (cd Fw) aB
theorem xD : ar uH QJ := rl (cx sm) iJ
theorem aeL : ar uH aeK := rc (cd xD) (cx sm) iJ
theorem xE : ar uH QK := rc (cd xD) (cx sm) iJ
theorem Fy : ∀ i, ar uH (aeO i) := rb (cd xE) (cx sm)
theorem aeN : ar EB aeM := rc (cd xE) (cx Fy) iJ
theorem px : ∀ i, ar uH (LI i) := rb (cd xE) (cx Fy)
theorem t6 : ar EB LG := rl (cx px) iJ
theorem YE : ar EB U3 := rc (cd t6) (cx px) iJ
theorem Ja : ar EB LH := rc (cd t6) (cx px) iJ
theorem YF : ∀ i, ar EB (amC i) := rb (cd Ja) (cx px)
theorem C1 : yQ R S O H =
 some (Value.tuple #[(vi 0), (vi 0), (vb false)], H) :=
 (by kernel_rfl)
theorem C4 : yV N R S O P T H =
 (aj .other .add T (vi 1)).bind fun a =>
 mh N R S O P a H :=
 (by kernel_rfl)
theorem AN : oY N R S O P T U H =
 (aj .other .add U (vi 1)).bind fun a =>
 kO N R S O P T a H :=
 (by kernel_rfl)
theorem AM : u4 N R S O P T U H =
 ldN 5 [.i 5 U] N H fun c =>
 ldN 5 [.i 5 T] N H fun d =>
 (FF nj [c, d] H).bind fun a =>
 (gV a.1 true P).bind fun e =>
 (gV a.1 true U).bind fun f =>
 fc a.1 true  [.i 1 f] e a.2 fun g =>
 (gV a.1 true P).bind fun j =>
 (gV a.1 true T).bind fun k =>
 fc a.1 true  [.i 1 k] j a.2 fun l =>
 (gE a.1 true a.2 (FF Av [g, l] a.2)).bind fun b =>
 (gB a.1 true (pM .not b.1)).bind fun m =>
 (aK a.1 m (vb false)).bind fun n =>
 av n
 (some (Value.tuple #[U, T, (vb true)], b.2))
 (oY N R S O P T U b.2) :=
 (pt rfl 0 Ja (bt rfl (lg [1, 1, 0, 1, 4, 5, 1, 0, 4, 1, 4, 5, 1, 0, 4]) 3 YF (by kernel_rfl)))
theorem vY : q8 N R S O P T H = yV N R S O P T H :=
 (by kernel_rfl)
theorem pP : kO N R S O P T U H =
 (aj .other .lss U T).bind fun a =>
 av a
 (u4 N R S O P T U H)
 (q8 N R S O P T H) :=
 CD rfl t6 (pt rfl 0 YE (by kernel_rfl))
theorem C5 : yW N R S O P T U H =
 kO N R S O P T U H :=
 (bt rfl (lg [1, 1, 0, 1, 4, 5, 1, 0, 4, 1, 4]) 2 px (li rfl (lg [1, 1, 0, 1, 4, 5, 1, 0, 4, 1, 4, 5]) t6 (by kernel_rfl)))
theorem C3 : yS N R S O P T H =
 yW N R S O P T (vi 0) H :=
 (pt rfl 0 xE (bt rfl (lg [1, 1, 0, 1, 4, 5, 1, 0, 4]) 1 Fy (pt rfl 0 aeN (by kernel_rfl))))
theorem yO : sZ R S O H = yQ R S O H :=
 (by kernel_rfl)
theorem q9 : mh N R S O P T H =
 eS P fun a =>
 (aj .other .lss T a).bind fun b =>
 av b
 (yS N R S O P T H)
 (sZ R S O H) :=
 CD rfl xD (pt rfl 0 aeL (by kernel_rfl))
theorem C2 : yR N R S O P T H =
 mh N R S O P T H :=
 (bt rfl (lg [1, 1, 0, 1, 4]) 0 sm (li rfl (lg [1, 1, 0, 1, 4, 5]) xD (by kernel_rfl)))
theorem C0 : yP N R S O P H =
 yR N R S O P (vi 0) H :=
 (pt rfl 0 Fw (pt rfl 0 aeJ (by kernel_rfl)))
noncomputable def Zz : OV := be PP GG FF (lg []) (ls [N] 43) H m8 bA m8
theorem Mk {r : Value × AH} (h : (
 (FF qv [N] H).bind fun a =>
 yP N (vi 0) (vi 0) (vb false) a.1 a.2) = some r) : FF sO [N] H = some r :=
 fo (t := Zz N H) Tryz.func31 (by kernel_rfl) (Eq.trans (pt rfl 1 aeH (by kernel_rfl)) h)
noncomputable def py (p : List Nat) : Code := Code.sub (bH Tryz.f68) p
noncomputable def nX : KK := dM PP (Tryz.f68).results.toList
noncomputable def ae8 : KK := CQ (py [1, 1, 1]) nX bA nX
noncomputable def uY : OV := ae8 (ls [N, u, R, S] 66) H
noncomputable def QO : KK := CQ (py [1, 1, 1, 1]) nX bA nX
noncomputable def ae6 : KK := eG SS QO
noncomputable def uZ : OV := QO (ls [u, u, R, S] 66) H
noncomputable def afA : KK := CQ (py [1, 1, 1, 0, 1]) ae6 bA nX
noncomputable def u0 : OV := afA (ls [N, u, R, S, O] 65) H
noncomputable def QR : KX := BX 0 ae6 bA
noncomputable def LM : KX := qQ SS QR
noncomputable def QP : KK := Cb (py [1, 1, 1, 0, 1, 4, 5]) LM nX
noncomputable def ae7 : KK := eG Bq QP
noncomputable def kN : OV := QP (ls [N, u, R, S, O] 65) H
noncomputable def afC : KK := CQ (py [1, 1, 1, 0, 1, 4, 5, 1]) ae7 LM nX
noncomputable def u1 : OV := afC (ls [N, u, R, S, O] 65) H
noncomputable def QQ : KK := CQ (py [1, 1, 1, 0, 1, 4, 5, 1, 1]) ae7 LM nX
noncomputable def LK : KK := eG Bq QQ
noncomputable def u2 : OV := QQ (ls [N, u, R, S, O] 65) H
noncomputable def afG : KX := BX 1 LK LM
noncomputable def QS : KX := qQ Bq afG
noncomputable def afE : KK := CQ (py [1, 1, 1, 0, 1, 4, 5, 1, 0, 4, 1]) LK QS nX
noncomputable def u3 : OV := afE (ls [N, u, R, S, O, P] 64) H
noncomputable def Vh : KK := CQ (py [1, 1, 1, 0, 1, 4, 5, 1, 0, 4, 1, 1]) LK QS nX
noncomputable def jI : OV := Vh (ls [N, u, R, S, O, P] 64) H
noncomputable def Vi : KK := CQ (py [1, 1, 1, 0, 1, 4, 5, 1, 0, 4, 1, 1, 1]) LK QS nX
noncomputable def dA : OV := Vi (ls [N, u, R, S, O, P] 64) H
noncomputable def q7 : OV := QR 0 (ls [u, u, R, S] 66) H
theorem jm : ar 1180591620717411303419 nX := rf
theorem ae9 : ar 1180591620717411303410 ae8 := rc jm aB jm
theorem FB : ar SS QO := rc jm aB jm
theorem afB : ar Bq afA := rc (cd FB) aB jm
theorem so : ∀ i, ar SS (QR i) := rb (cd FB) aB
theorem xF : ar Bq QP := rl (cx so) jm
theorem afD : ar Bq afC := rc (cd xF) (cx so) jm
theorem sn : ar Bq QQ := rc (cd xF) (cx so) jm
theorem xG : ∀ i, ar Bq (afG i) := rb (cd sn) (cx so)
theorem afF : ar abQ afE := rc (cd sn) (cx xG) jm
theorem YU : ar abQ Vh := rc (cd sn) (cx xG) jm
theorem YV : ar abQ Vi := rc (cd sn) (cx xG) jm
theorem AG : uZ R S H =
 some (S, H) :=
 (by kernel_rfl)
theorem AK : u2 N R S O H =
 (aj .other .add O (vi 1)).bind fun a =>
 kN N R S a H :=
 (by kernel_rfl)
theorem yN : dA N R S O P H =
 ld [.i 5 O, .f 0] N H fun c =>
 (FF vP [P, c] H).bind fun a =>
 wL 1 1 [(.slice none 0 0)] [(0, a.1)] a.2 fun d e =>
 (dS 1 24 S d e).bind fun b =>
 u2 N R b.1 O b.2 :=
 (by kernel_rfl)
theorem yM : jI N R S O P H =
 ld [.i 5 O, .f 1] N H fun e =>
 (aj .other .eql e (vi 1)).bind fun a =>
 (gV a false N).bind fun g =>
 (gV a false O).bind fun j =>
 fc a false  [.i 5 j, .f 1] g H fun k =>
 (gB a false (aj .other .eql k (vi 3))).bind fun l =>
 (aK a (vb true) l).bind fun b =>
 (gV b false N).bind fun m =>
 (gV b false O).bind fun n =>
 fc b false  [.i 5 n, .f 1] m H fun o =>
 (gB b false (aj .other .eql o (vi 4))).bind fun p =>
 (aK b (vb true) p).bind fun q =>
 av q
 ((FF od [N, O] H).bind fun c =>
 (aj .other .geq c.1 (vi 0)).bind fun s =>
 av s
 (ld [.i 1 c.1] S c.2 fun t =>
 (FF qw [P, t] c.2).bind fun d =>
 dA N R S O d.1 d.2)
 (dA N R S O P c.2))
 (dA N R S O P H) :=
 (pt rfl 0 YV (by kernel_rfl))
theorem AL : u3 N R S O P H =
 (FF Aw [N, O] H).bind fun a =>
 (aj .other .geq a.1 (vi 0)).bind fun b =>
 av b
 (ld [.i 1 a.1] S a.2 fun c =>
 jI N R S O c a.2)
 (jI N R S O P a.2) :=
 (pt rfl 0 YU (by kernel_rfl))
theorem AJ : u1 N R S O H =
 u3 N R S O (.slice none 0 0) H :=
 (pt rfl 0 sn (bt rfl (py [1, 1, 1, 0, 1, 4, 5, 1, 0, 4]) 1 xG (pt rfl 0 afF (by kernel_rfl))))
theorem vX : q7 R S H = uZ R S H :=
 (by kernel_rfl)
theorem pO : kN N R S O H =
 eS N fun a =>
 (aj .other .lss O a).bind fun b =>
 av b
 (u1 N R S O H)
 (q7 R S H) :=
 CD rfl xF (pt rfl 0 afD (by kernel_rfl))
theorem AI : u0 N R S O H =
 kN N R S O H :=
 (bt rfl (py [1, 1, 1, 0, 1, 4]) 0 so (li rfl (py [1, 1, 1, 0, 1, 4, 5]) xF (by kernel_rfl)))
theorem AF : uY N R S H =
 u0 N R S (vi 0) H :=
 (pt rfl 0 FB (pt rfl 0 afB (by kernel_rfl)))
noncomputable def RD : OV := be PP GG FF (py []) (ls [N] 69) H nX bA nX
theorem Id {r : Value × AH} (h : (
 (FF jx [N] H).bind fun a =>
 (pM .not a.1).bind fun b =>
 av b
 (some ((.slice none 0 0), a.2))
 (uY N (.slice none 0 0) (.slice none 0 0) a.2)) = some r) : FF qv [N] H = some r :=
 fo (t := RD N H) Tryz.func68 (by kernel_rfl) (Eq.trans (pt rfl 2 ae9 (by kernel_rfl)) h)
theorem CZ {r : Value × AH} (h : (
 aW (Value.cells N).toList H fun c m =>
 aW (Value.cells Q).toList m fun d a =>
 ld [.f 1] c a fun n =>
 (aj .other .geq n (vi 5)).bind fun i =>
 fc i false  [.f 1] d a fun o =>
 (gB i false (aj .other .geq o (vi 5))).bind fun p =>
 (aK i (vb true) p).bind fun q =>
 ld [.f 0] c a fun s =>
 ld [.f 0] d a fun t =>
 (aj .other .neq s t).bind fun e =>
 pz e true  3 [.f 2] c a fun w =>
 pz e true  3 [.f 2] d a fun y =>
 (gB e true (aj (.flat 3) .eql w y)).bind fun z =>
 (aK e z (vb false)).bind fun k =>
 (gV k true q).bind fun A =>
 (aK k A (vb false)).bind fun b =>
 (gB b true (ax 5 c a)).bind fun B =>
 (gE b true a (FF g8 [B] a)).bind fun g =>
 (gV b true g.1).bind fun j =>
 (gB j false (ax 5 d g.2)).bind fun C =>
 (gE j false g.2 (FF g8 [C] g.2)).bind fun l =>
 (gB b true (aK j (vb true) l.1)).bind fun D =>
 (aK b D (vb false)).bind fun E =>
 some (E, l.2)) = some r) : FF nj [N, Q] H = some r :=
 fo Tryz.func69 (by kernel_rfl) h
noncomputable def uN (p : List Nat) : Code := Code.sub (bH Tryz.f70) p
noncomputable def sq : KK := dM PP (Tryz.f70).results.toList
noncomputable def afJ : KK := CQ (uN [1]) sq bA sq
noncomputable def Gm : OV := afJ (ls [N, Q, u, u, O] 17) H
noncomputable def QT : KK := CQ (uN [1, 1]) sq bA sq
noncomputable def afH : KK := eG 4194287 QT
noncomputable def Gn : OV := QT (ls [u, u, u, u, O] 17) H
noncomputable def afL : KK := CQ (uN [1, 0, 1]) afH bA sq
noncomputable def Gp : OV := afL (ls [N, Q, u, u, O, P] 16) H
noncomputable def QW : KX := BX 0 afH bA
noncomputable def LN : KX := qQ 4194287 QW
noncomputable def QU : KK := Cb (uN [1, 0, 1, 4, 5]) LN sq
noncomputable def afI : KK := eG 4194252 QU
noncomputable def qD : OV := QU (ls [N, Q, u, u, O, P] 16) H
noncomputable def afN : KK := CQ (uN [1, 0, 1, 4, 5, 1]) afI LN sq
noncomputable def Gq : OV := afN (ls [N, Q, u, u, O, P] 16) H
noncomputable def QV : KK := CQ (uN [1, 0, 1, 4, 5, 1, 1]) afI LN sq
noncomputable def apQ : KK := eG 4194252 QV
noncomputable def Gr : OV := QV (ls [N, Q, u, u, O, P] 16) H
noncomputable def apR : KX := BX 1 apQ LN
noncomputable def yX : OV := QW 0 (ls [u, u, u, u, O] 17) H
theorem nY : ar 4194287 sq := rf
theorem afK : ar 4194284 afJ := rc nY aB nY
theorem FC : ar 4194287 QT := rc nY aB nY
theorem afM : ar 4194252 afL := rc (cd FC) aB nY
theorem sr : ∀ i, ar 4194287 (QW i) := rb (cd FC) aB
theorem xH : ar 4194252 QU := rl (cx sr) nY
theorem afO : ar 4194252 afN := rc (cd xH) (cx sr) nY
theorem NU : ar 4194252 QV := rc (cd xH) (cx sr) nY
theorem afP : ∀ i, ar 4194252 (apR i) := rb (cd NU) (cx sr)
theorem If : Gn O H =
 some ((vb true), H) :=
 (by kernel_rfl)
theorem Ii : Gr N Q O P H =
 (aj .other .add P (vi 1)).bind fun a =>
 qD N Q O a H :=
 (by kernel_rfl)
theorem Ih : Gq N Q O P H =
 (FF sN [N, P] H).bind fun b =>
 (FF sN [Q, P] b.2).bind fun a =>
 (aj .other .gtr b.1 a.1).bind fun c =>
 av c
 (some ((vb false), a.2))
 (Gr N Q O P a.2) :=
 (pt rfl 0 NU (bt rfl (uN [1, 0, 1, 4, 5, 1, 0, 4]) 1 afP (by kernel_rfl)))
theorem C6 : yX O H = Gn O H :=
 (by kernel_rfl)
theorem u6 : qD N Q O P H =
 eS N fun a =>
 eS Q fun b =>
 (gk [a, b]).bind fun c =>
 (aj .other .lss P c).bind fun d =>
 av d
 (Gq N Q O P H)
 (yX O H) :=
 CD rfl xH (pt rfl 0 afO (by kernel_rfl))
theorem Ig : Gp N Q O P H =
 qD N Q O P H :=
 (bt rfl (uN [1, 0, 1, 4]) 0 sr (li rfl (uN [1, 0, 1, 4, 5]) xH (by kernel_rfl)))
theorem Ie : Gm N Q O H =
 Gp N Q O (vi 0) H :=
 (pt rfl 0 FC (pt rfl 0 afM (by kernel_rfl)))
noncomputable def am0 : OV := be PP GG FF (uN []) (ls [N, Q] 20) H sq bA sq
theorem RE {r : Value × AH} (h : (
 Gm N Q (vb false) H) = some r) : FF Av [N, Q] H = some r :=
 fo (t := am0 N Q H) Tryz.func70 (by kernel_rfl) (Eq.trans (pt rfl 0 afK (by kernel_rfl)) h)
noncomputable def oH (p : List Nat) : Code := Code.sub (bH Tryz.f133) p
noncomputable def mP : KK := dM PP (Tryz.f133).results.toList
noncomputable def Tw : KK := CQ (oH [1]) mP bA mP
noncomputable def nB : OV := Tw (ls [N, u, R] 37) H
noncomputable def Ko : KK := CQ (oH [1, 1]) mP bA mP
noncomputable def Tt : KK := eG Nk Ko
noncomputable def nC : OV := Ko (ls [u, u, R] 37) H
noncomputable def Tx : KK := CQ (oH [1, 0, 1]) Tt bA mP
noncomputable def nD : OV := Tx (ls [N, u, R, S] 36) H
noncomputable def Kr : KX := BX 0 Tt bA
noncomputable def DK : KX := qQ Nk Kr
noncomputable def Kp : KK := Cb (oH [1, 0, 1, 4, 5]) DK mP
noncomputable def Tv : KK := eG ED Kp
noncomputable def f4 : OV := Kp (ls [N, u, R, S] 36) H
noncomputable def Tz : KK := CQ (oH [1, 0, 1, 4, 5, 1]) Tv DK mP
noncomputable def nE : OV := Tz (ls [N, u, R, S] 36) H
noncomputable def Kq : KK := CQ (oH [1, 0, 1, 4, 5, 1, 1]) Tv DK mP
noncomputable def ak9 : KK := eG ED Kq
noncomputable def nF : OV := Kq (ls [N, u, R, S] 36) H
noncomputable def alA : KX := BX 1 ak9 DK
noncomputable def lu : OV := Kr 0 (ls [u, u, R] 37) H
theorem kV : ar Nk mP := rf
theorem Xo : ar 1099511627770 Tw := rc kV aB kV
theorem z0 : ar Nk Ko := rc kV aB kV
theorem Xp : ar ED Tx := rc (cd z0) aB kV
theorem o9 : ∀ i, ar Nk (Kr i) := rb (cd z0) aB
theorem tO : ar ED Kp := rl (cx o9) kV
theorem Xq : ar ED Tz := rc (cd tO) (cx o9) kV
theorem IQ : ar ED Kq := rc (cd tO) (cx o9) kV
theorem Xr : ∀ i, ar ED (alA i) := rb (cd IQ) (cx o9)
theorem rF : nC R H =
 some ((vb true), H) :=
 (by kernel_rfl)
theorem rI : nF N R S H =
 (aj .other .add S (vi 1)).bind fun a =>
 f4 N R a H :=
 (by kernel_rfl)
theorem rH : nE N R S H =
 ld [.i 5 S, .f 0] N H fun d =>
 (aj .other .lss d (vi 0)).bind fun a =>
 (gV a false N).bind fun e =>
 (gV a false S).bind fun g =>
 fc a false  [.i 5 g, .f 0] e H fun j =>
 (gB a false (aj .other .gtr j (vi 63))).bind fun k =>
 (aK a (vb true) k).bind fun b =>
 (gV b false N).bind fun l =>
 (gV b false S).bind fun m =>
 fc b false  [.i 5 m, .f 1] l H fun n =>
 (gB b false (aj .other .lss n (vi 1))).bind fun o =>
 (aK b (vb true) o).bind fun c =>
 (gV c false N).bind fun p =>
 (gV c false S).bind fun q =>
 fc c false  [.i 5 q, .f 1] p H fun s =>
 (gB c false (aj .other .gtr s (vi 6))).bind fun t =>
 (aK c (vb true) t).bind fun w =>
 av w
 (some ((vb false), H))
 (nF N R S H) :=
 (pt rfl 0 IQ (bt rfl (oH [1, 0, 1, 4, 5, 1, 0, 4]) 1 Xr (by kernel_rfl)))
theorem pQ : lu R H = nC R H :=
 (by kernel_rfl)
theorem jW : f4 N R S H =
 eS N fun a =>
 (aj .other .lss S a).bind fun b =>
 av b
 (nE N R S H)
 (lu R H) :=
 CD rfl tO (pt rfl 0 Xq (by kernel_rfl))
theorem rG : nD N R S H =
 f4 N R S H :=
 (bt rfl (oH [1, 0, 1, 4]) 0 o9 (li rfl (oH [1, 0, 1, 4, 5]) tO (by kernel_rfl)))
theorem rE : nB N R H =
 nD N R (vi 0) H :=
 (pt rfl 0 z0 (pt rfl 0 Xp (by kernel_rfl)))
noncomputable def C7 : OV := be PP GG FF (oH []) (ls [N] 39) H mP bA mP
theorem vZ {r : Value × AH} (h : (
 nB N (vb false) H) = some r) : FF jx [N] H = some r :=
 fo (t := C7 N H) Tryz.func133 (by kernel_rfl) (Eq.trans (pt rfl 0 Xo (by kernel_rfl)) h)
noncomputable def oI (p : List Nat) : Code := Code.sub (bH Tryz.f134) p
noncomputable def mQ : KK := dM PP (Tryz.f134).results.toList
noncomputable def TC : KK := CQ (oI [1]) mQ bA mQ
noncomputable def Gx : OV := TC (ls [N, Q, u, u, O] 19) H
noncomputable def Ks : KK := CQ (oI [1, 1]) mQ bA mQ
noncomputable def TA : KK := eG 16777199 Ks
noncomputable def Gy : OV := Ks (ls [u, u, u, u, O] 19) H
noncomputable def TD : KK := CQ (oI [1, 0, 1]) TA bA mQ
noncomputable def Gz : OV := TD (ls [N, Q, u, u, O, P] 18) H
noncomputable def Kv : KX := BX 0 TA bA
noncomputable def DL : KX := qQ 16777199 Kv
noncomputable def Kt : KK := Cb (oI [1, 0, 1, 4, 5]) DL mQ
noncomputable def TB : KK := eG 16777164 Kt
noncomputable def qF : OV := Kt (ls [N, Q, u, u, O, P] 18) H
noncomputable def TG : KK := CQ (oI [1, 0, 1, 4, 5, 1]) TB DL mQ
noncomputable def GA : OV := TG (ls [N, Q, u, u, O, P] 18) H
noncomputable def Ku : KK := CQ (oI [1, 0, 1, 4, 5, 1, 1]) TB DL mQ
noncomputable def alB : KK := eG 16777164 Ku
noncomputable def GB : OV := Ku (ls [N, Q, u, u, O, P] 18) H
noncomputable def alC : KX := BX 1 alB DL
noncomputable def y7 : OV := Kv 0 (ls [u, u, u, u, O] 19) H
theorem kW : ar 16777199 mQ := rf
theorem Xs : ar 16777196 TC := rc kW aB kW
theorem z1 : ar 16777199 Ks := rc kW aB kW
theorem Xt : ar 16777164 TD := rc (cd z1) aB kW
theorem pc : ∀ i, ar 16777199 (Kv i) := rb (cd z1) aB
theorem tP : ar 16777164 Kt := rl (cx pc) kW
theorem Xu : ar 16777164 TG := rc (cd tP) (cx pc) kW
theorem IR : ar 16777164 Ku := rc (cd tP) (cx pc) kW
theorem Xv : ∀ i, ar 16777164 (alC i) := rb (cd IR) (cx pc)
theorem Ik : Gy O H =
 some ((vi (-1)), H) :=
 (by kernel_rfl)
theorem In : GB N Q O P H =
 (aj .other .sub P (vi 1)).bind fun a =>
 qF N Q O a H :=
 (by kernel_rfl)
theorem Im : GA N Q O P H =
 ld [.i 5 P, .f 0] N H fun a =>
 ld [.i 5 Q, .f 0] N H fun b =>
 (aj .other .eql a b).bind fun c =>
 av c
 (some (P, H))
 (GB N Q O P H) :=
 (pt rfl 0 IR (bt rfl (oI [1, 0, 1, 4, 5, 1, 0, 4]) 1 Xv (by kernel_rfl)))
theorem Dd : y7 O H = Gy O H :=
 (by kernel_rfl)
theorem u9 : qF N Q O P H =
 (aj .other .geq P (vi 0)).bind fun a =>
 av a
 (GA N Q O P H)
 (y7 O H) :=
 CD rfl tP (pt rfl 0 Xu (by kernel_rfl))
theorem Il : Gz N Q O P H =
 qF N Q O P H :=
 (bt rfl (oI [1, 0, 1, 4]) 0 pc (li rfl (oI [1, 0, 1, 4, 5]) tP (by kernel_rfl)))
theorem Ij : Gx N Q O H =
 (aj .other .sub Q (vi 1)).bind fun a =>
 Gz N Q O a H :=
 (pt rfl 0 z1 (pt rfl 0 Xt (by kernel_rfl)))
noncomputable def am1 : OV := be PP GG FF (oI []) (ls [N, Q] 22) H mQ bA mQ
theorem RF {r : Value × AH} (h : (
 Gx N Q (vi 0) H) = some r) : FF Aw [N, Q] H = some r :=
 fo (t := am1 N Q H) Tryz.func134 (by kernel_rfl) (Eq.trans (pt rfl 0 Xs (by kernel_rfl)) h)
noncomputable def oJ (p : List Nat) : Code := Code.sub (bH Tryz.f135) p
noncomputable def mR : KK := dM PP (Tryz.f135).results.toList
noncomputable def TJ : KK := CQ (oJ [1]) mR bA mR
noncomputable def yZ : OV := TJ (ls [N, Q, u, u, O] 35) H
noncomputable def Kw : KK := CQ (oJ [1, 1]) mR bA mR
noncomputable def TH : KK := eG Nl Kw
noncomputable def y4 : OV := Kw (ls [u, u, u, u, O] 35) H
noncomputable def TL : KK := CQ (oJ [1, 0, 1]) TH bA mR
noncomputable def y5 : OV := TL (ls [N, Q, u, u, O, P] 34) H
noncomputable def Kz : KX := BX 0 TH bA
noncomputable def DM : KX := qQ Nl Kz
noncomputable def Kx : KK := Cb (oJ [1, 0, 1, 4, 5]) DM mR
noncomputable def TI : KK := eG EE Kx
noncomputable def ml : OV := Kx (ls [N, Q, u, u, O, P] 34) H
noncomputable def TM : KK := CQ (oJ [1, 0, 1, 4, 5, 1]) TI DM mR
noncomputable def y6 : OV := TM (ls [N, Q, u, u, O, P] 34) H
noncomputable def Ky : KK := CQ (oJ [1, 0, 1, 4, 5, 1, 1]) TI DM mR
noncomputable def alD : KK := eG EE Ky
noncomputable def qE : OV := Ky (ls [N, Q, u, u, O, P] 34) H
noncomputable def alE : KX := BX 1 alD DM
noncomputable def s6 : OV := Kz 0 (ls [u, u, u, u, O] 35) H
theorem kX : ar Nl mR := rf
theorem Xw : ar 1099511627756 TJ := rc kX aB kX
theorem z2 : ar Nl Kw := rc kX aB kX
theorem Xx : ar EE TL := rc (cd z2) aB kX
theorem pd : ∀ i, ar Nl (Kz i) := rb (cd z2) aB
theorem tQ : ar EE Kx := rl (cx pd) kX
theorem Xy : ar EE TM := rc (cd tQ) (cx pd) kX
theorem IS : ar EE Ky := rc (cd tQ) (cx pd) kX
theorem Xz : ∀ i, ar EE (alE i) := rb (cd IS) (cx pd)
theorem C9 : y4 O H =
 some ((vi (-1)), H) :=
 (by kernel_rfl)
theorem Dc : qE N Q O P H =
 (aj .other .sub P (vi 1)).bind fun a =>
 ml N Q O a H :=
 (by kernel_rfl)
theorem Db : y6 N Q O P H =
 ldN 3 [.i 5 P, .f 2] N H fun c =>
 ldN 3 [.i 5 Q, .f 2] N H fun d =>
 (aj (.flat 3) .eql c d).bind fun a =>
 (gV a true N).bind fun e =>
 (gV a true P).bind fun g =>
 fc a true  [.i 5 g, .f 1] e H fun j =>
 (gB a true (aj .other .eql j (vi 2))).bind fun k =>
 (gV a true k).bind fun b =>
 (gV b false N).bind fun l =>
 (gV b false P).bind fun m =>
 fc b false  [.i 5 m, .f 1] l H fun n =>
 (gB b false (aj .other .eql n (vi 3))).bind fun o =>
 (gB a true (aK b (vb true) o)).bind fun p =>
 (aK a p (vb false)).bind fun q =>
 av q
 (some (P, H))
 (qE N Q O P H) :=
 (pt rfl 0 IS (bt rfl (oJ [1, 0, 1, 4, 5, 1, 0, 4]) 1 Xz (by kernel_rfl)))
theorem yY : s6 O H = y4 O H :=
 (by kernel_rfl)
theorem re : ml N Q O P H =
 (aj .other .geq P (vi 0)).bind fun a =>
 av a
 (y6 N Q O P H)
 (s6 O H) :=
 CD rfl tQ (pt rfl 0 Xy (by kernel_rfl))
theorem Da : y5 N Q O P H =
 ml N Q O P H :=
 (bt rfl (oJ [1, 0, 1, 4]) 0 pd (li rfl (oJ [1, 0, 1, 4, 5]) tQ (by kernel_rfl)))
theorem C8 : yZ N Q O H =
 (aj .other .sub Q (vi 1)).bind fun a =>
 y5 N Q O a H :=
 (pt rfl 0 z2 (pt rfl 0 Xx (by kernel_rfl)))
noncomputable def ZA : OV := be PP GG FF (oJ []) (ls [N, Q] 38) H mR bA mR
theorem Ml {r : Value × AH} (h : (
 yZ N Q (vi 0) H) = some r) : FF od [N, Q] H = some r :=
 fo (t := ZA N Q H) Tryz.func135 (by kernel_rfl) (Eq.trans (pt rfl 0 Xw (by kernel_rfl)) h)
noncomputable def mS (p : List Nat) : Code := Code.sub (bH Tryz.f136) p
noncomputable def mT : KK := dM PP (Tryz.f136).results.toList
noncomputable def TS : KK := CQ (mS [1, 1]) mT bA mT
noncomputable def BO : OV := TS (ls [N, Q, u, u, O, P] 49) H
noncomputable def KA : KK := CQ (mS [1, 1, 1]) mT bA mT
noncomputable def TN : KK := eG SW KA
noncomputable def BP : OV := KA (ls [u, u, u, u, O, P] 49) H
noncomputable def TT : KK := CQ (mS [1, 1, 0, 1]) TN bA mT
noncomputable def BQ : OV := TT (ls [N, Q, u, u, O, P, T] 48) H
noncomputable def KD : KX := BX 0 TN bA
noncomputable def DN : KX := qQ SW KD
noncomputable def KB : KK := Cb (mS [1, 1, 0, 1, 4, 5]) DN mT
noncomputable def TO : KK := eG wW KB
noncomputable def ox : OV := KB (ls [N, Q, u, u, O, P, T] 48) H
noncomputable def TU : KK := CQ (mS [1, 1, 0, 1, 4, 5, 1]) TO DN mT
noncomputable def BR : OV := TU (ls [N, Q, u, u, O, P, T] 48) H
noncomputable def KC : KK := CQ (mS [1, 1, 0, 1, 4, 5, 1, 1]) TO DN mT
noncomputable def TQ : KK := eG wW KC
noncomputable def lr : OV := KC (ls [N, Q, u, u, O, P, T] 48) H
noncomputable def TV : KX := BX 1 TQ DN
noncomputable def alG : KX := qQ wW TV
noncomputable def alF : KX := BX 2 TQ alG
noncomputable def u5 : OV := KD 0 (ls [u, u, u, u, O, P] 49) H
theorem kY : ar 36028797018963951 mT := rf
theorem XA : ar 36028797018963916 TS := rc kY aB kY
theorem z3 : ar SW KA := rc kY aB kY
theorem XB : ar wW TT := rc (cd z3) aB kY
theorem pe : ∀ i, ar SW (KD i) := rb (cd z3) aB
theorem tR : ar wW KB := rl (cx pe) kY
theorem XC : ar wW TU := rc (cd tR) (cx pe) kY
theorem z4 : ar wW KC := rc (cd tR) (cx pe) kY
theorem IT : ∀ i, ar wW (TV i) := rb (cd z4) (cx pe)
theorem XD : ∀ i, ar wW (alF i) := rb (cd z4) (cx IT)
theorem Gi : BP O P H =
 some (P, H) :=
 (by kernel_rfl)
theorem Gl : lr N Q O P T H =
 (aj .other .add T (vi 1)).bind fun a =>
 ox N Q O P a H :=
 (by kernel_rfl)
theorem Gk : BR N Q O P T H =
 eS N fun d =>
 (aj .other .geq T d).bind fun e =>
 av e
 (ld [.i 1 T] Q H fun f =>
 (gk [f, (vi 0)]).bind fun g =>
 wL 1 1 [(vi 0)] [(0, g)] H fun j k =>
 (dS 1 8 P j k).bind fun a =>
 lr N Q O a.1 T a.2)
 (eS Q fun l =>
 (aj .other .geq T l).bind fun m =>
 av m
 (ld [.i 1 T] N H fun n =>
 (gk [n, (vi 0)]).bind fun o =>
 wL 1 1 [(vi 0)] [(0, o)] H fun p q =>
 (dS 1 8 P p q).bind fun b =>
 lr N Q O b.1 T b.2)
 (ld [.i 1 T] N H fun s =>
 ld [.i 1 T] Q H fun t =>
 (gk [s, t]).bind fun w =>
 wL 1 1 [(vi 0)] [(0, w)] H fun y z =>
 (dS 1 8 P y z).bind fun c =>
 lr N Q O c.1 T c.2)) :=
 (pt rfl 0 z4 (bt rfl (mS [1, 1, 0, 1, 4, 5, 1, 0, 4]) 1 IT (bt rfl (mS [1, 1, 0, 1, 4, 5, 1, 0, 4, 4]) 2 XD (by kernel_rfl))))
theorem AO : u5 O P H = BP O P H :=
 (by kernel_rfl)
theorem s4 : ox N Q O P T H =
 eS N fun a =>
 eS Q fun b =>
 (gk [a, b]).bind fun c =>
 (aj .other .lss T c).bind fun d =>
 av d
 (BR N Q O P T H)
 (u5 O P H) :=
 CD rfl tR (pt rfl 0 XC (by kernel_rfl))
theorem Gj : BQ N Q O P T H =
 ox N Q O P T H :=
 (bt rfl (mS [1, 1, 0, 1, 4]) 0 pe (li rfl (mS [1, 1, 0, 1, 4, 5]) tR (by kernel_rfl)))
theorem Gg : BO N Q O P H =
 BQ N Q O P (vi 0) H :=
 (pt rfl 0 z3 (pt rfl 0 XB (by kernel_rfl)))
noncomputable def ahR : OV := be PP GG FF (mS []) (ls [N, Q] 53) H mT bA mT
theorem Ot {r : Value × AH} (h : (
 BO N Q (.slice none 0 0) (.slice none 0 0) H) = some r) : FF qw [N, Q] H = some r :=
 fo (t := ahR N Q H) Tryz.func136 (by kernel_rfl) (Eq.trans (pt rfl 1 XA (by kernel_rfl)) h)
noncomputable def r7 (p : List Nat) : Code := Code.sub (bH Tryz.f137) p
noncomputable def qc : KK := dM PP (Tryz.f137).results.toList
noncomputable def TX : KK := CQ (r7 [1, 1, 1]) qc bA qc
noncomputable def BS : OV := TX (ls [u, Q, u, u, O, P] 23) H
noncomputable def KE : KK := CQ (r7 [1, 1, 1, 1]) qc bA qc
noncomputable def alH : KK := eG wY KE
noncomputable def BT : OV := KE (ls [u, Q, u, u, O, P] 23) H
noncomputable def KG : KX := BX 0 alH bA
noncomputable def KH : KX := qQ wY KG
noncomputable def KF : KK := Cb (r7 [1, 1, 1, 0, 4, 5]) KH qc
noncomputable def TW : KK := eG wY KF
noncomputable def oy : OV := KF (ls [u, Q, u, u, O, P] 23) H
noncomputable def TY : KK := CQ (r7 [1, 1, 1, 0, 4, 5, 1]) TW KH qc
noncomputable def BU : OV := TY (ls [u, Q, u, u, O, P] 23) H
noncomputable def alI : KX := BX 1 TW KH
noncomputable def u7 : OV := KG 0 (ls [u, Q, u, u, O, P] 23) H
theorem pf : ar 536870895 qc := rf
theorem XE : ar wY TX := rc pf aB pf
theorem IU : ar wY KE := rc pf aB pf
theorem tT : ∀ i, ar wY (KG i) := rb (cd IU) aB
theorem tS : ar wY KF := rl (cx tT) pf
theorem XF : ar wY TY := rc (cd tS) (cx tT) pf
theorem XG : ∀ i, ar wY (alI i) := rb (cd tS) (cx tT)
theorem Gv : BT Q O P H =
 ld [.i 1 Q] P H fun a =>
 (aj .other .add a (vi 1)).bind fun b =>
 st 1 [.i 1 Q] P b H fun c =>
 some (P, c) :=
 (by kernel_rfl)
theorem Gw : BU Q O P H =
 wL 1 1 [(vi 0)] [(0, (vi 0))] H fun b c =>
 (dS 1 8 P b c).bind fun a =>
 oy Q O a.1 a.2 :=
 (bt rfl (r7 [1, 1, 1, 0, 4, 5, 1, 4]) 1 XG (by kernel_rfl))
theorem AP : u7 Q O P H = BT Q O P H :=
 (by kernel_rfl)
theorem s5 : oy Q O P H =
 eS P fun a =>
 (aj .other .leq a Q).bind fun b =>
 av b
 (BU Q O P H)
 (u7 Q O P H) :=
 CD rfl tS (pt rfl 0 XF (by kernel_rfl))
theorem Gu : BS Q O P H =
 oy Q O P H :=
 (pt rfl 0 IU (bt rfl (r7 [1, 1, 1, 0, 4]) 0 tT (li rfl (r7 [1, 1, 1, 0, 4, 5]) tS (by kernel_rfl))))
noncomputable def ahS : OV := be PP GG FF (r7 []) (ls [N, Q] 27) H qc bA qc
theorem Ou {r : Value × AH} (h : (
 (dS 1 8 (.slice none 0 0) N H).bind fun a =>
 (aj .other .lss Q (vi 0)).bind fun b =>
 (gV b false Q).bind fun c =>
 (gB b false (aj .other .gtr c (vi 63))).bind fun d =>
 (aK b (vb true) d).bind fun e =>
 av e
 (some (a.1, a.2))
 (BS Q (.slice none 0 0) a.1 a.2)) = some r) : FF vP [N, Q] H = some r :=
 fo (t := ahS N Q H) Tryz.func137 (by kernel_rfl) (Eq.trans (pt rfl 2 XE (by kernel_rfl)) h)
theorem Io {r : Value × AH} (h : (
 aW (Value.cells N).toList H fun b a =>
 ld [.f 1] b a fun e =>
 (aj .other .eql e (vi 2)).bind fun c =>
 fc c false  [.f 1] b a fun g =>
 (gB c false (aj .other .eql g (vi 3))).bind fun i =>
 (aK c (vb true) i).bind fun d =>
 fc d false  [.f 1] b a fun j =>
 (gB d false (aj .other .eql j (vi 6))).bind fun k =>
 (aK d (vb true) k).bind fun l =>
 some (l, a)) = some r) : FF g8 [N] H = some r :=
 fo Tryz.func138 (by kernel_rfl) h
theorem Zy {r : Value × AH} (h : (
 (aj .other .lss Q (vi 0)).bind fun a =>
 (gV a false Q).bind fun b =>
 (gV a false N).bind fun c =>
 (zM (yv a) false (eS c some) (some undef)).bind fun d =>
 (gB a false (aj .other .geq b d)).bind fun e =>
 (aK a (vb true) e).bind fun f =>
 av f
 (some ((vi 0), H))
 (ld [.i 1 Q] N H fun g =>
 some (g, H))) = some r) : FF sN [N, Q] H = some r :=
 fo Tryz.func139 (by kernel_rfl) h
end
end Go.Proofs.YtghoamdlcjdfjaaGreatDoor.Gst
