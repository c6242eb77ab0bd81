/- Several texts in one. -/
import Derived.Test.YtflbeghglllknaaGreatDoorHc
namespace Go.Proofs.YtflbeghglllknaaGreatDoor.Gst
open Go Go.RowKit
set_option linter.unusedSimpArgs false
set_option linter.unusedVariables false
set_option maxHeartbeats 1000000
set_option synthInstance.maxSize 2000
set_option synthInstance.maxHeartbeats 400000
theorem Xr {α : Type} {P : SP} {H : AH} {e n g i : Nat} {enc : α → List Value} {l : List α} {s : Value} {Q : Value → AH → Prop} {k : Value → OV} {kk : IntKind} {cs : List Value} (h : ae P H) [r : Rd P s e enc l] [E : Enc enc e] (hi : i < l.length) (hg : g + n ≤ e)
 (hc : ((enc l[i]).drop g).take n = cs) (hk : wp (k (.agg cs.toArray)) Q) : wp (ldN n [.i e (.int kk (i : Int)), .f g] s H k) Q := by
 subst hc;obtain ⟨b, o, ro, row, rfl, h2, h3, h4⟩ := Kf (s := s) (enc := enc) (l := l) h hi;unfold ldN;rw [Q8 hi, ZC];have hm : (i + 1) * e ≤ l.length * e := Nat.mul_le_mul_right _ (by omega);rw [Nat.add_mul] at hm
 have : aA n (rX b (o + i * e + g)) H = some (.agg (((enc l[i]).drop g).take n).toArray) := by
  simp only [aA, sJ, d8, bG, h2];rw [if_pos (by omega)]
  congr 3
  rw [← EK E.len l i hi, ← h4, List.drop_take, List.drop_take, List.drop_take, List.drop_drop, List.drop_drop, List.take_take, List.take_take, Nat.min_eq_left (by omega), Nat.min_eq_left (by omega), Nat.add_assoc]
 show wp ((aA n (rX b (o + i * e + g)) H).bind k) Q;rw [this]; exact hk
structure SOk (σ : aL) : Prop where
 c : bW σ.c = true
 N : σ.μ.N < 800000
 pts : σ.pts.length < 900000
 V : ∀ l, σ.μ.V l < 18446744073709551616
 obs : σ.obs.length < 900000
 cells : ∀ o, o < σ.obs.length → 1 ≤ (au σ o).length ∧ (au σ o).length < 1000
 slot : ∀ s i, σ.μ.V (10, s, i) ≠ 0 → σ.μ.V (10, s, i) % 4294967296 < σ.obs.length
structure gT (σ : aL) (t : Tk) : Prop where
 obj : 6 ≤ t.at' ∨ t.at' = 5 ∧ t.found = true → t.obj < σ.obs.length
 s : t.s = (t.x.flow.tmod σ.c.sh + σ.c.sh).tmod σ.c.sh
 i : t.at' < 5 → t.at' ≠ 3 → (t.i : Int) < σ.c.sl
 w : t.w < 18446744073709551616
 c5 : t.at' = 5 → t.found = false → t.code = 5
 c0 : t.at' = 10 ∨ t.at' = 11 ∨ t.at' = 14 ∨ 21 ≤ t.at' → t.code = 0
 ats : t.at' = 0 ∨ t.at' = 2 ∨ t.at' = 3 ∨ t.at' = 4 ∨ t.at' = 5 ∨ t.at' = 6 ∨ t.at' = 7 ∨ t.at' = 8 ∨ t.at' = 9 ∨ t.at' = 10 ∨ t.at' = 11 ∨ t.at' = 12 ∨ t.at' = 13 ∨ t.at' = 14 ∨ t.at' = 15 ∨ t.at' = 16 ∨ t.at' = 17 ∨ t.at' = 18 ∨ t.at' = 20 ∨ t.at' = 21 ∨ t.at' = 22 ∨ t.at' = 23 ∨ t.at' = 24 ∨ t.at' = 25
section
variable (e p : Nat) (rp : List Nat) (g : PIds) (σ : aL) (nx rv : Value) (t : Tk) (now : Int)
theorem w5 (hl : g.rp.length = σ.obs.length) (o : Nat) (ho : o < σ.obs.length) : Sp fJ [vp p, vi o] (aC p g σ) (fun _ : Unit => vb true) (fun _ => aC p g σ) := by
 have hz : ((σ.obs.map fun x => x.1).zip g.rp).length = σ.obs.length := by simp [hl]
 refine aM fun R H h => ?_;have h0 := h;unfold aC at h0;refine bj (fun r => ry _ _ H) ?_;refine aa (wU (by omega)) ?_;refine gs ?_;refine ak h ac rfl ?_;refine gs ?_;refine y5 (s := g.ov) h0 ?_;rw [hz];refine gs ?_;refine aa (eO (by omega)) ?_;refine gs ?_;exact ap ⟨(), rfl, h⟩
theorem kj (hl : g.rp.length = σ.obs.length) (o b : Nat) (ho : o < σ.obs.length) (hb : g.rp[o]? = some b) : Sp bS [vp p, vi o] (aC p g σ) (fun _ : Unit => vp b) (fun _ => aC p g σ) := by
 have hz : ((σ.obs.map fun x => x.1).zip g.rp).length = σ.obs.length := by simp [hl]
 refine bp (rx _ _) fun R H h => ?_;refine ag h (w5 p g σ hl o ho) fun _ H1 h1 => ?_;refine gs ?_;rw [Bool.not_true];refine gs ?_;refine ak h1 ac rfl ?_;have h2 := h1;unfold aC at h2
 have hb' : g.rp[o]'(by omega) = b := by rw [cM (by omega)] at hb; exact hF hb
 refine Vh (v := vp b) (enc := DQ) (l := (σ.obs.map fun x : Ob × List Pk => x.1).zip g.rp) h2 (by omega) (by omega) ?_ ?_
 ·show some (vp ((σ.obs.map fun x => x.1).zip g.rp)[o].2) = _
  rw [List.getElem_zip, hb']
 exact ap ⟨(), rfl, h1.to⟩
theorem JU (hl : g.rp.length = σ.obs.length) (who : Int) (o : Nat) (ho : o < σ.obs.length) (hN : σ.μ.N < 800000) : Sp i7 [vp p, vi who, vi o] (aC p g σ) (fun v : Value => v) (fun _ => aC p g (σ.mem (σ.μ.acc who 5 (13, (o : Int), 0)))) := by
 have hz : ((σ.obs.map fun x => x.1).zip g.rp).length = σ.obs.length := by simp [hl]
 refine bp (sL _ _ _) fun R H h => ?_;refine bm h fun b H1 h1 => ?_;refine ag h1 (w5 p g σ hl o ho) fun _ H2 h2 => ?_;refine gs ?_;rw [Bool.not_true];refine gs ?_;refine ak h2 ac rfl ?_;refine iU ?_;refine ag h2 (QV (p := p) (g := g) (σ := σ) ((Hf g.m σ.μ who (13, (o : Int), 0) (by omega)).imp fun _ R H h => i1 (N' := σ.μ.N + 2) (by simp) h)) fun _ H3 h3 => ?_;refine ak h3 ac rfl ?_;have h4 := h3;unfold aC at h4;refine Xr (enc := DQ) (l := (σ.obs.map fun x : Ob × List Pk => x.1).zip g.rp) h4 (by omega) (by omega) (show _ = [_, _, _] from rfl) ?_;refine eG h3 rfl rfl fun H5 h5 => ?_;refine aV h5 ?_;exact ap ⟨_, rfl, h5.to⟩
theorem ou (who : Int) (hN : σ.μ.N < 800000) : Sp dv [vp p, vi who] (aC p g σ) (fun _ : Unit => vu (σ.μ.V (2, 0, 0))) (fun _ => aC p g (σ.mem (σ.μ.acc who 1 (2, 0, 0)))) := by
 refine bp (sM _ _) fun R H h => ?_;refine ak h ac rfl ?_;refine iU ?_;refine ag h (QV (p := p) (g := g) (σ := σ) (vZ g.m σ.μ who (2, 0, 0) (by omega))) fun _ H1 h1 => ?_;exact ap ⟨(), rfl, h1.to⟩
theorem Bi (b : Bool) (h : fe (σ.μ.V (10, t.s, (t.i : Int))) t.x.flow = b) : aP σ t = { t with i := t.i + 1, found := b, obj := if b = true then σ.μ.V (10, t.s, (t.i : Int)) % 4294967296 else t.obj } := by
 subst h
 rfl
theorem Lm (S : SOk σ) (hi : (t.i : Int) < σ.c.sl) : Sp uo [vp e] (eB e p nx rv t * aC p g σ) (fun _ : Unit => vb (bQ σ (aP σ t))) (fun _ => eB e p nx rv (aP σ t) * aC p g (aS σ t)) := by
 have hc := bx.1 S.c;refine bp (N3 _) fun R H h => ?_;refine ak h ac rfl ?_;refine ak h ac rfl ?_;refine ak h ac rfl ?_;refine ak h ac rfl ?_;refine ak h ac rfl ?_;refine ag h (tq (p := p) (g := g) (σ := σ) (xg g.tb g.m σ.c.sh.toNat σ.c.sl.toNat σ.μ t.who t.s t.i (by have := S.N; omega) (S.V _))) fun _ H1 h1 => ?_
 have fin : ∀ (t1 : Tk) (H' : AH), t1.i = t.i + 1 → ae (eB e p nx rv t1 * (aC p g (aS σ t) * R)) H' → wp (qM (vp e) (vb false) H') fun v' H' => ∃ _x : Unit, v' = vb (bQ σ t1) ∧ ae (eB e p nx rv t1 * aC p g (aS σ t) * R) H' := by
  intro t1 H' hi1 h';refine ai (DK _ _ H') ?_;refine bD ac ?_;refine aY h' rfl ?_;refine ak h' ac rfl ?_;refine ak h' ac rfl ?_;refine ag h' (DC (p := p) (g := g) (σ := aS σ t) (xh g.tb g.m σ.c.sh.toNat σ.c.sl.toNat)) fun _ H2 h2 => ?_;refine aG h2 h' (by rfl) ?_;refine aa (v := vb (bQ σ t1)) ?_ ?_
  ·rw [qI]
   congr 3
   apply propext;omega
  exact ap ⟨(), rfl, h2.to⟩
 by_cases hv : σ.μ.V (10, t.s, (t.i : Int)) = 0
 ·have e1 : gW (σ.μ.V (10, t.s, (t.i : Int))) = .tuple #[vi 0, vi 0, vb false] := by rw [gW, if_pos hv]
  rw [e1];refine aa (v := vi 0) rfl ?_;refine aa (v := vi 0) rfl ?_;refine aa (v := vb false) rfl ?_;refine ak h1 ac rfl ?_;refine aa (bu (by omega) (by omega)) ?_;rw [show ((t.i : Nat) : Int) + 1 = ((t.i + 1 : Nat) : Int) from by omega];refine bv h1 ac rfl rfl fun H2 h2 => ?_;refine ai (tD _ _ _ _ _ H2) ?_;refine gs ?_;refine bv h2 ac rfl rfl fun H3 h3 => ?_;refine ak h3 ac rfl ?_;refine gs ?_
  have e2 : aP σ t = { t with i := t.i + 1, found := false } := by
   have : fe (σ.μ.V (10, t.s, (t.i : Int))) t.x.flow = false := by simp [fe, hv]
   exact (Bi σ t _ this).trans rfl
  rw [e2];exact fin _ H3 rfl h3.to
 ·have e1 : gW (σ.μ.V (10, t.s, (t.i : Int))) = .tuple #[vi ((σ.μ.V (10, t.s, (t.i : Int)) / 4294967296 : Nat) - 1), vi (σ.μ.V (10, t.s, (t.i : Int)) % 4294967296 : Nat), vb true] := by rw [gW, if_neg hv]
  rw [e1];refine aa (v := vi ((σ.μ.V (10, t.s, (t.i : Int)) / 4294967296 : Nat) - 1)) rfl ?_;refine aa (v := vi (σ.μ.V (10, t.s, (t.i : Int)) % 4294967296 : Nat)) rfl ?_;refine aa (v := vb true) rfl ?_;refine ak h1 ac rfl ?_;refine aa (bu (by omega) (by omega)) ?_;rw [show ((t.i : Nat) : Int) + 1 = ((t.i + 1 : Nat) : Int) from by omega];refine bv h1 ac rfl rfl fun H2 h2 => ?_;refine ai (tD _ _ _ _ _ H2) ?_;refine gs ?_;refine ak h2 (b8 (aO (aO ba))) rfl ?_
  by_cases hf : ((σ.μ.V (10, t.s, (t.i : Int)) / 4294967296 : Nat) : Int) - 1 = t.x.flow
  ·refine la ?_
   refine aa (bw hf) ?_;refine gs ?_;refine bv h2 ac rfl rfl fun H3 h3 => ?_;refine ak h3 ac rfl ?_;refine gs ?_;refine bv h3 ac rfl rfl fun H4 h4 => ?_
   have e2 : aP σ t = { t with i := t.i + 1, found := true, obj := σ.μ.V (10, t.s, (t.i : Int)) % 4294967296 } := by
    have : fe (σ.μ.V (10, t.s, (t.i : Int))) t.x.flow = true := dI ⟨hv, hf⟩;exact (Bi σ t _ this).trans rfl
   rw [e2];exact fin _ H4 rfl h4.to
  ·refine la ?_
   refine aa (aD hf) ?_;refine gs ?_;refine bv h2 ac rfl rfl fun H3 h3 => ?_;refine ak h3 ac rfl ?_;refine gs ?_
   have e2 : aP σ t = { t with i := t.i + 1, found := false } := by
    have : fe (σ.μ.V (10, t.s, (t.i : Int))) t.x.flow = false := dQ fun q => hf q.2;exact (Bi σ t _ this).trans rfl
   rw [e2];exact fin _ H3 rfl h3.to
end
theorem iy {rp : List Nat} {t : Tk} {v : Value} (h : t.at' < 7) : FC rp t v := fun h' => by omega
theorem cO {rp : List Nat} {t : Tk} {b : Nat} (h : rp[t.obj]? = some b) : FC rp t (vp b) := fun _ => ⟨b, h, rfl⟩
section
variable {e p : Nat} {rp : List Nat} {g : PIds} {σ σ' : aL} {t t' : Tk} {R P : SP} {H : AH} {r : aL × Tk × Bool} {v : Value} {n : Nat} {c : Int}
theorem dJ (h : ae (eP e p rp σ t * R) H) : ∃ (nx rv : Value) (g : PIds), FC rp t rv ∧ g.rp = rp ∧ rp.length = σ.obs.length ∧ nx = eM e (xS t.at') ∧ ae (eB e p nx rv t * (aC p g σ * R)) H := by
 obtain ⟨rv, h1, h2⟩ := Lk h;obtain ⟨g, h3, h4, h5⟩ := eE (p := p) (rp := rp) (σ := σ) (R := eB e p (eM e (xS t.at')) rv t * R) (H := H) h2.to;exact ⟨_, rv, g, h1, h3, h4, rfl, h5.to⟩
theorem DO (hr : r = (σ', t', false)) (hv : FC rp t' v) (hn : xS t'.at' = n) (h : ae (eB e p (eM e n) v t' * (bf p rp σ' * R)) H) :
 ∃ x : Unit, (.tuple #[.agg (dX 0).toArray, vb false]) = b7 r ∧ ae (eQ e p rp r * R) H := by
 subst hr;exact ⟨(), rfl, GD hv hn h⟩
theorem dO (hr : r = (σ', t', false)) (hv : FC g.rp t' v) (hn : xS t'.at' = n) (hl : g.rp.length = σ'.obs.length) (h : ae (eB e p (eM e n) v t' * (aC p g σ' * R)) H) :
 ∃ x : Unit, (.tuple #[.agg (dX 0).toArray, vb false]) = b7 r ∧ ae (eQ e p g.rp r * R) H := by
 refine DO hr hv hn ?_;have h1 := bJ (p := p) (rp := g.rp) (σ := σ') (R := eB e p (eM e n) v t' * R) g rfl hl h.to;exact h1.to
theorem zH (hr : r = (σ', t', true)) (hc : t'.code = c) (h : ae (bf p rp σ' * R) H) :
 ∃ x : Unit, (.tuple #[.agg (dX c).toArray, vb true]) = b7 r ∧ ae (eQ e p rp r * R) H := by
 subst hr;subst hc;exact ⟨(), rfl, h⟩
theorem gA (nx rv : Value) (t' : Tk) (n : Nat) {b : Nat} {Q : Value → AH → Prop} (h : ae P H) [fr : Fr P (eB e p nx rv t' * blk b (.cells false [vi 0, .slice none 0 0, vi 0, vw 0])) R]
 (hk : ∀ H', ae (eB e p (eM e n) rv t' * R) H' → Q (.tuple #[.agg (dX 0).toArray, vb false]) H') :
 wp ((FF bF [vp e, eM e n] H).bind fun r2 => (af r2.1 0).bind fun v3 => (af r2.1 1).bind fun v4 => (cD 4 (vp b) v3 r2.2).bind fun H5 => (aA 4 (vp b) H5).bind fun v6 => some (Value.tuple #[v6, v4], H5)) Q :=
 mg h (YE e p nx rv n t') hk
end
section
variable (e p : Nat) (rp : List Nat) (σ : aL) (t : Tk) (now : Int)
theorem Qt (S : SOk σ) (T : gT σ t) (hat : t.at' = 3) : Sp di [vp e, vi now] (eP e p rp σ t) (fun _ : Unit => b7 (ah σ t now)) (fun _ => eQ e p rp (ah σ t now)) := by
 have hN : σ.μ.N < 1099511627000 := by have := S.N; omega
 refine aM fun R H h => ?_;obtain ⟨nx, rv, g, hv, rfl, hl, _, h0⟩ := dJ h;refine bj (fun r => IT _ _ H) ?_;refine bm h0 fun b1 H1 h1 => ?_;refine ak h1 ac rfl ?_;refine ak h1 ac rfl ?_;refine ak h1 ac rfl ?_;refine ak h1 ac rfl ?_;refine ag h1 (tq (p := p) (g := g) (σ := σ) (tj g.tb g.m σ.c.sh.toNat σ.c.sl.toNat σ.μ t.who t.s hN)) fun _ H2 h2 => ?_
 by_cases hw : σ.μ.V (8, t.s, 0) = 0
 ·rw [dI hw]
  refine gs ?_;rw [Bool.not_true];refine gs ?_;refine bv h2 ac rfl rfl fun H3 h3 => ?_;refine gA (e := e) (p := p) nx rv { t with at' := 4, i := 0 } en h3 fun H9 h9 => ?_;exact dO (σ' := σ.mem (σ.μ.swp t.who (8, t.s, 0) 0 1)) (t' := { t with at' := 4, i := 0 }) (v := rv) (n := en) (by simp only [ah, hat]; rw [if_pos hw]) (iy (by simp)) rfl hl h9.to
 ·rw [dQ hw]
  refine gs ?_;rw [Bool.not_false];refine gs ?_;refine gA (e := e) (p := p) nx rv t di h2 fun H9 h9 => ?_;exact dO (σ' := σ.mem (σ.μ.swp t.who (8, t.s, 0) 0 1)) (t' := t) (v := rv) (n := di) (by simp only [ah, hat]; rw [if_neg hw]) (iy (by omega)) (by rw [hat]; rfl) hl h9.to
theorem HU (S : SOk σ) (T : gT σ t) (hat : t.at' = 5) : Sp ep [vp e, vi now] (eP e p rp σ t) (fun _ : Unit => b7 (ah σ t now)) (fun _ => eQ e p rp (ah σ t now)) := by
 have hN : σ.μ.N < 1099511627000 := by have := S.N; omega
 refine aM fun R H h => ?_;obtain ⟨nx, rv, g, hv, rfl, hl, _, h0⟩ := dJ h;refine bj (fun r => DN _ _ H) ?_;refine bm h0 fun b1 H1 h1 => ?_;refine ak h1 ac rfl ?_;refine ak h1 ac rfl ?_;refine ak h1 ac rfl ?_;refine ak h1 ac rfl ?_;refine ag h1 (tq (p := p) (g := g) (σ := σ) (vf g.tb g.m σ.c.sh.toNat σ.c.sl.toNat σ.μ t.who t.s hN)) fun _ H2 h2 => ?_;refine ak h2 ac rfl ?_;cases hf : t.found
 ·refine gs ?_
  rw [Bool.not_false];refine gs ?_;refine mg h2 (tG (vp e) 5) fun H9 h9 => ?_;exact zH (σ' := σ.mem ((σ.μ.acc t.who 2 (8, t.s, 0)).put (8, t.s, 0) 0)) (t' := { t with at' := 6 }) (by simp only [ah, hat, hf]; rfl) (T.c5 hat hf) (bJ (p := p) (rp := g.rp) (R := R) g rfl hl h9.to)
 ·refine gs ?_
  rw [Bool.not_true];refine gs ?_;refine gA (e := e) (p := p) nx rv { t with at' := 6 } gJ h2 fun H9 h9 => ?_;exact dO (σ' := σ.mem ((σ.μ.acc t.who 2 (8, t.s, 0)).put (8, t.s, 0) 0)) (t' := { t with at' := 6 }) (v := rv) (n := gJ) (by simp only [ah, hat, hf]; rfl) (iy (by simp)) rfl hl h9.to
theorem Qu (S : SOk σ) (T : gT σ t) (hat : t.at' = 6) : Sp gJ [vp e, vi now] (eP e p rp σ t) (fun _ : Unit => b7 (ah σ t now)) (fun _ => eQ e p rp (ah σ t now)) := by
 have hN : σ.μ.N < 1099511627000 := by have := S.N; omega
 refine aM fun R H h => ?_;obtain ⟨nx, rv, g, hv, rfl, hl, _, h0⟩ := dJ h;have ho := T.obj (.inl (by omega));obtain ⟨b, hb⟩ : ∃ b, g.rp[t.obj]? = some b := ⟨_, cM (by omega)⟩;refine bj (fun r => IU _ _ H) ?_;refine bm h0 fun b1 H1 h1 => ?_;refine ak h1 ac rfl ?_;refine ak h1 ac rfl ?_;refine ak h1 ac rfl ?_;refine ag h1 (JU p g σ hl t.who t.obj ho S.N) fun _ H2 h2 => ?_;refine ak h2 ac rfl ?_;refine ak h2 ac rfl ?_;refine ag h2 (kj p g (σ.mem (σ.μ.acc t.who 5 (13, (t.obj : Int), 0))) hl t.obj b ho hb) fun _ H3 h3 => ?_;refine bv h3 ac rfl rfl fun H4 h4 => ?_;refine gA (e := e) (p := p) nx (vp b) { t with at' := 7 } cj h4 fun H9 h9 => ?_;exact dO (σ' := σ.mem (σ.μ.acc t.who 5 (13, (t.obj : Int), 0))) (t' := { t with at' := 7 }) (v := (vp b)) (n := cj) (by simp only [ah, hat]) (cO hb) rfl hl h9.to
theorem Qy (S : SOk σ) (T : gT σ t) (hat : t.at' = 7) : Sp cj [vp e, vi now] (eP e p rp σ t) (fun _ : Unit => b7 (ah σ t now)) (fun _ => eQ e p rp (ah σ t now)) := by
 have hN : σ.μ.N < 1099511627000 := by have := S.N; omega
 refine aM fun R H h => ?_;obtain ⟨nx, rv, g, hv, rfl, hl, _, h0⟩ := dJ h;obtain ⟨b, hb, rfl⟩ := hv (by omega);have ho := T.obj (.inl (by omega));refine bj (fun r => I0 _ _ H) ?_;refine bm h0 fun b1 H1 h1 => ?_;refine ak h1 ac rfl ?_;refine ak h1 ac rfl ?_;refine ag h1 (gD (p := p) hl ho hb (wD g.m t.obj b (au σ t.obj) σ.μ t.who hN)) fun _ H2 h2 => ?_;refine bv h2 ac rfl rfl fun H3 h3 => ?_;refine ak h3 ac rfl ?_;refine ag h3 (jS _ (S.V _)) fun _ H4 h4 => ?_
 by_cases hw : aR (σ.μ.V (11, (t.obj : Int), 0)) = 2
 ·refine aa (bw hw) ?_
  refine gs ?_;refine gA (e := e) (p := p) nx (vp b) { t with w := σ.μ.V (11, (t.obj : Int), 0), at' := 3 } di h4 fun H9 h9 => ?_;exact dO (σ' := da σ t) (t' := { t with w := σ.μ.V (11, (t.obj : Int), 0), at' := 3 }) (v := (vp b)) (n := di) (by simp only [ah, hat]; rw [if_pos hw]) (iy (by simp)) rfl hl h9.to
 ·refine aa (aD hw) ?_
  refine gs ?_;refine gA (e := e) (p := p) nx (vp b) { t with w := σ.μ.V (11, (t.obj : Int), 0), at' := 8 } ll h4 fun H9 h9 => ?_;exact dO (σ' := da σ t) (t' := { t with w := σ.μ.V (11, (t.obj : Int), 0), at' := 8 }) (v := (vp b)) (n := ll) (by simp only [ah, hat]; rw [if_neg hw]) (cO hb) rfl hl h9.to
theorem Br (S : SOk σ) (T : gT σ t) (hat : t.at' = 16) : Sp fg [vp e, vi now] (eP e p rp σ t) (fun _ : Unit => b7 (ah σ t now)) (fun _ => eQ e p rp (ah σ t now)) := by
 have hN : σ.μ.N < 1099511627000 := by have := S.N; omega
 refine aM fun R H h => ?_;obtain ⟨nx, rv, g, hv, rfl, hl, _, h0⟩ := dJ h;obtain ⟨b, hb, rfl⟩ := hv (by omega);have ho := T.obj (.inl (by omega));refine bj (fun r => xv _ _ H) ?_;refine bm h0 fun b1 H1 h1 => ?_;refine ak h1 ac rfl ?_;refine ak h1 ac rfl ?_;refine ag h1 (gD (p := p) hl ho hb (wD g.m t.obj b (au σ t.obj) σ.μ t.who hN)) fun _ H2 h2 => ?_;refine bv h2 ac rfl rfl fun H3 h3 => ?_;refine ak h3 ac rfl ?_;refine ag h3 (jS _ (S.V _)) fun _ H4 h4 => ?_
 by_cases hw : aR (σ.μ.V (11, (t.obj : Int), 0)) = 2
 ·refine aa (bw hw) ?_
  refine gs ?_;refine gA (e := e) (p := p) nx (vp b) { t with w := σ.μ.V (11, (t.obj : Int), 0), at' := 3 } di h4 fun H9 h9 => ?_;exact dO (σ' := da σ t) (t' := { t with w := σ.μ.V (11, (t.obj : Int), 0), at' := 3 }) (v := (vp b)) (n := di) (by simp only [ah, hat]; rw [if_pos hw]) (iy (by simp)) rfl hl h9.to
 ·refine aa (aD hw) ?_
  refine gs ?_;refine gA (e := e) (p := p) nx (vp b) { t with w := σ.μ.V (11, (t.obj : Int), 0), at' := 17 } ff h4 fun H9 h9 => ?_;exact dO (σ' := da σ t) (t' := { t with w := σ.μ.V (11, (t.obj : Int), 0), at' := 17 }) (v := (vp b)) (n := ff) (by simp only [ah, hat]; rw [if_neg hw]) (cO hb) rfl hl h9.to
theorem Qq (S : SOk σ) (T : gT σ t) (hat : t.at' = 8) : Sp ll [vp e, vi now] (eP e p rp σ t) (fun _ : Unit => b7 (ah σ t now)) (fun _ => eQ e p rp (ah σ t now)) := by
 have hN : σ.μ.N < 1099511627000 := by have := S.N; omega
 refine aM fun R H h => ?_;obtain ⟨nx, rv, g, hv, rfl, hl, _, h0⟩ := dJ h;obtain ⟨b, hb, rfl⟩ := hv (by omega);have ho := T.obj (.inl (by omega));refine bj (fun r => IR _ _ H) ?_;refine bm h0 fun b1 H1 h1 => ?_;refine ak h1 ac rfl ?_;refine ak h1 ac rfl ?_;refine ag h1 (gD (p := p) hl ho hb (De g.m t.obj b (au σ t.obj) σ.μ t.who hN)) fun _ H2 h2 => ?_;refine ai (BQ _ _ _ _ H2) ?_;refine ak h2 ac rfl ?_;refine ak h2 ac rfl ?_;refine ag h2 (KT (p := p) (σ := iZ σ t) hl ho hb (Dd g.m t.obj b (au σ t.obj) t.w (σ.μ.V (12, (t.obj : Int), 0)) T.w (S.cells _ ho).2)) fun _ H3 h3 => ?_;cases hf : ie t.w (σ.μ.V (12, (t.obj : Int), 0)) (au σ t.obj).length
 ·refine gs ?_
  refine ak h3 ac rfl ?_;refine ag h3 (jS _ T.w) fun _ H4 h4 => ?_
  by_cases hw : aR t.w = 1
  ·refine aa (bw hw) ?_
   refine gs ?_;refine gA (e := e) (p := p) nx (vp b) { t with at' := 9 } jF h4 fun H9 h9 => ?_;exact dO (σ' := iZ σ t) (t' := { t with at' := 9 }) (v := (vp b)) (n := jF) (by simp only [ah, hat, jw, hf]; rw [if_pos hw]; rfl) (cO hb) rfl hl h9.to
  ·refine aa (aD hw) ?_
   refine gs ?_;refine ai (BR _ _ _ H4) ?_;refine gA (e := e) (p := p) nx (vp b) { t with at' := 12 } jE h4 fun H9 h9 => ?_;exact dO (σ' := iZ σ t) (t' := { t with at' := 12 }) (v := (vp b)) (n := jE) (by simp only [ah, hat, jw, hf]; rw [if_neg hw]; rfl) (cO hb) rfl hl h9.to
 ·refine gs ?_
  refine gA (e := e) (p := p) nx (vp b) { t with at' := 15 } nD h3 fun H9 h9 => ?_;exact dO (σ' := iZ σ t) (t' := { t with at' := 15 }) (v := (vp b)) (n := nD) (by simp only [ah, hat, jw, hf]; rfl) (cO hb) rfl hl h9.to
theorem KA (S : SOk σ) (T : gT σ t) (hat : t.at' = 9) : Sp jF [vp e, vi now] (eP e p rp σ t) (fun _ : Unit => b7 (ah σ t now)) (fun _ => eQ e p rp (ah σ t now)) := by
 have hN : σ.μ.N < 1099511627000 := by have := S.N; omega
 refine aM fun R H h => ?_;obtain ⟨nx, rv, g, hv, rfl, hl, _, h0⟩ := dJ h;obtain ⟨b, hb, rfl⟩ := hv (by omega);have ho := T.obj (.inl (by omega));refine bj (fun r => GA _ _ H) ?_;refine bm h0 fun b1 H1 h1 => ?_;refine ak h1 ac rfl ?_;refine ak h1 ac rfl ?_;refine ak h1 ac rfl ?_;refine ag h1 (gD (p := p) hl ho hb (Bg g.m t.obj b (au σ t.obj) σ.μ t.who t.w T.w hN)) fun _ H2 h2 => ?_;cases hw : dY σ.μ t.obj t.w (aQ t.w 0)
 ·refine gs ?_
  rw [Bool.not_false];refine gs ?_;refine gA (e := e) (p := p) nx (vp b) { t with at' := 7 } cj h2 fun H9 h9 => ?_;exact dO (σ' := σ.mem (σ.μ.turn t.who t.obj t.w (aQ t.w 0))) (t' := { t with at' := 7 }) (v := (vp b)) (n := cj) (by simp only [ah, hat, hw]; rfl) (cO hb) rfl hl h9.to
 ·refine gs ?_
  rw [Bool.not_true];refine gs ?_;have k2 := bJ (p := p) (rp := g.rp) (σ := σ.mem (σ.μ.turn t.who t.obj t.w (aQ t.w 0))) (R := eB e p nx (vp b) t * (blk b1 (.cells false [vi 0, .slice none 0 0, vi 0, vw 0]) * R)) g rfl hl h2.to;refine ag k2 (tH e p g.rp (σ.mem (σ.μ.turn t.who t.obj t.w (aQ t.w 0))) nx (vp b) t now 0 (by have := S.pts; show σ.pts.length < _; omega)) fun _ H3 h3 => ?_;refine gA (e := e) (p := p) nx (vp b) { t with at' := 10, code := 0 } nC h3 fun H9 h9 => ?_;exact DO (σ' := (σ.mem (σ.μ.turn t.who t.obj t.w (aQ t.w 0))).note now t.who 0) (t' := { t with at' := 10, code := 0 }) (v := (vp b)) (n := nC) (by simp only [ah, hat, hw]; rfl) (cO hb) rfl h9.to
theorem Qx (S : SOk σ) (T : gT σ t) (hat : t.at' = 13) : Sp lr [vp e, vi now] (eP e p rp σ t) (fun _ : Unit => b7 (ah σ t now)) (fun _ => eQ e p rp (ah σ t now)) := by
 have hN : σ.μ.N < 1099511627000 := by have := S.N; omega
 refine aM fun R H h => ?_;obtain ⟨nx, rv, g, hv, rfl, hl, _, h0⟩ := dJ h;obtain ⟨b, hb, rfl⟩ := hv (by omega);have ho := T.obj (.inl (by omega));refine bj (fun r => IZ _ _ H) ?_;refine bm h0 fun b1 H1 h1 => ?_;refine ak h1 ac rfl ?_;refine ak h1 ac rfl ?_;refine ak h1 ac rfl ?_;refine ag h1 (gD (p := p) hl ho hb (Bg g.m t.obj b (au σ t.obj) σ.μ t.who t.w T.w hN)) fun _ H2 h2 => ?_;cases hw : dY σ.μ t.obj t.w (aQ t.w 0)
 ·refine gs ?_
  rw [Bool.not_false];refine gs ?_;refine gA (e := e) (p := p) nx (vp b) { t with at' := 20 } lh h2 fun H9 h9 => ?_;exact dO (σ' := σ.mem (σ.μ.turn t.who t.obj t.w (aQ t.w 0))) (t' := { t with at' := 20 }) (v := (vp b)) (n := lh) (by simp only [ah, hat, hw]; rfl) (cO hb) rfl hl h9.to
 ·refine gs ?_
  rw [Bool.not_true];refine gs ?_;have k2 := bJ (p := p) (rp := g.rp) (σ := σ.mem (σ.μ.turn t.who t.obj t.w (aQ t.w 0))) (R := eB e p nx (vp b) t * (blk b1 (.cells false [vi 0, .slice none 0 0, vi 0, vw 0]) * R)) g rfl hl h2.to;refine ag k2 (tH e p g.rp (σ.mem (σ.μ.turn t.who t.obj t.w (aQ t.w 0))) nx (vp b) t now 0 (by have := S.pts; show σ.pts.length < _; omega)) fun _ H3 h3 => ?_;refine gA (e := e) (p := p) nx (vp b) { t with at' := 14, code := 0 } lj h3 fun H9 h9 => ?_;exact DO (σ' := (σ.mem (σ.μ.turn t.who t.obj t.w (aQ t.w 0))).note now t.who 0) (t' := { t with at' := 14, code := 0 }) (v := (vp b)) (n := lj) (by simp only [ah, hat, hw]; rfl) (cO hb) rfl h9.to
theorem yQ (σ : aL) (t : Tk) : nz σ t = { σ with μ := σ.μ.acc t.who 6 (16, (t.obj : Int), ((aI t.w % (au σ t.obj).length : Nat) : Int)), obs := σ.obs.modify t.obj fun q => (q.1, (au σ t.obj).set (aI t.w % (au σ t.obj).length) ⟨t.x.flow, t.x.a, t.x.b⟩) } := by
 have eo : (σ.obs.modify t.obj fun q => (q.1, q.2.set (aI t.w % (au σ t.obj).length) (⟨t.x.flow, t.x.a, t.x.b⟩ : Pk))) = σ.obs.modify t.obj fun q => (q.1, (au σ t.obj).set (aI t.w % (au σ t.obj).length) ⟨t.x.flow, t.x.a, t.x.b⟩) := by
  apply List.ext_getElem?;intro j;rw [List.getElem?_modify, List.getElem?_modify]
  cases hj : σ.obs[j]? with
  | none => rfl
  | some q =>
   show some (if t.obj = j then _ else q) = some (if t.obj = j then _ else q)
   by_cases e : t.obj = j
   ·subst e
    rw [if_pos rfl, if_pos rfl];unfold au;rw [hj]; rfl
   ·rw [if_neg e, if_neg e]
 exact congrArg (fun o => ({ σ with μ := σ.μ.acc t.who 6 (16, (t.obj : Int), ((aI t.w % (au σ t.obj).length : Nat) : Int)), obs := o } : aL)) eo
theorem Ln (S : SOk σ) (T : gT σ t) (nx : Value) (g : PIds) (b : Nat) (hl : g.rp.length = σ.obs.length) (ho : t.obj < σ.obs.length) (hb : g.rp[t.obj]? = some b) :
 Sp uq [vp e] (eB e p nx (vp b) t * aC p g σ) (fun _ : Unit => .tuple #[]) (fun _ => eB e p nx (vp b) t * aC p g (nz σ t)) := by
 have hN : σ.μ.N < 1099511627000 := by have := S.N; omega
 refine bp (N4 _) fun R H h => ?_;refine bD ac ?_;refine aY h rfl ?_;refine bD ac ?_;refine aY h rfl ?_;refine ak h ac rfl ?_;refine ag h (iK t.w T.w) fun _ H1 h1 => ?_;refine aG h1 h (by rfl) ?_;refine aG h1 h (by rfl) ?_;refine bD (b8 (aO (aO ba))) ?_;refine aY h1 rfl ?_;refine aG h h1 (by rfl) ?_;refine bD (b8 (aO (aO ba))) ?_;refine aY h1 rfl ?_;refine aG h h1 (by rfl) ?_;refine bD (b8 (aO (aO ba))) ?_;refine aY h1 rfl ?_;refine aG h h1 (by rfl) ?_;refine iU ?_;refine ag h1 (QW (p := p) hl ho hb (Uz g.m t.obj b (au σ t.obj) σ.μ t.who (aI t.w) ⟨t.x.flow, t.x.a, t.x.b⟩ (S.cells _ ho) hN)) fun _ H2 h2 => ?_;refine ap ⟨(), rfl, ?_⟩;rw [yQ];exact h2.to
theorem i0 (σ : aL) (t : Tk) : (nz σ t).obs.length = σ.obs.length := by unfold nz; simp
theorem UQ (S : SOk σ) (T : gT σ t) (hat : t.at' = 10) : Sp nC [vp e, vi now] (eP e p rp σ t) (fun _ : Unit => b7 (ah σ t now)) (fun _ => eQ e p rp (ah σ t now)) := by
 have hN : σ.μ.N < 1099511627000 := by have := S.N; omega
 refine aM fun R H h => ?_;obtain ⟨nx, rv, g, hv, rfl, hl, _, h0⟩ := dJ h;obtain ⟨b, hb, rfl⟩ := hv (by omega);have ho := T.obj (.inl (by omega));refine bj (fun r => N5 _ _ H) ?_;refine bm h0 fun b1 H1 h1 => ?_;refine ag h1 (Ln e p σ t S T nx g b hl ho hb) fun _ H2 h2 => ?_;refine gA (e := e) (p := p) nx (vp b) { t with at' := 11 } lq h2 fun H9 h9 => ?_;exact dO (σ' := nz σ t) (t' := { t with at' := 11 }) (v := (vp b)) (n := lq) (by simp only [ah, hat]) (cO hb) rfl (by rw [i0]; exact hl) h9.to
theorem Qp (S : SOk σ) (T : gT σ t) (hat : t.at' = 14) : Sp lj [vp e, vi now] (eP e p rp σ t) (fun _ : Unit => b7 (ah σ t now)) (fun _ => eQ e p rp (ah σ t now)) := by
 have hN : σ.μ.N < 1099511627000 := by have := S.N; omega
 refine aM fun R H h => ?_;obtain ⟨nx, rv, g, hv, rfl, hl, _, h0⟩ := dJ h;obtain ⟨b, hb, rfl⟩ := hv (by omega);have ho := T.obj (.inl (by omega));refine bj (fun r => IP _ _ H) ?_;refine bm h0 fun b1 H1 h1 => ?_;refine ag h1 (Ln e p σ t S T nx g b hl ho hb) fun _ H2 h2 => ?_;refine gA (e := e) (p := p) nx (vp b) { t with at' := 21 } jH h2 fun H9 h9 => ?_;exact dO (σ' := nz σ t) (t' := { t with at' := 21 }) (v := (vp b)) (n := jH) (by simp only [ah, hat]) (cO hb) rfl (by rw [i0]; exact hl) h9.to
theorem Qw (S : SOk σ) (T : gT σ t) (hat : t.at' = 11) : Sp lq [vp e, vi now] (eP e p rp σ t) (fun _ : Unit => b7 (ah σ t now)) (fun _ => eQ e p rp (ah σ t now)) := by
 have hN : σ.μ.N < 1099511627000 := by have := S.N; omega
 refine aM fun R H h => ?_;obtain ⟨nx, rv, g, hv, rfl, hl, _, h0⟩ := dJ h;obtain ⟨b, hb, rfl⟩ := hv (by omega);have ho := T.obj (.inl (by omega));refine bj (fun r => IY _ _ H) ?_;refine bm h0 fun b1 H1 h1 => ?_;refine bD ac ?_;refine aY h1 rfl ?_;refine bD ac ?_;refine aY h1 rfl ?_;refine ak h1 ac rfl ?_;refine ag h1 (iK t.w T.w) fun _ H2 h2 => ?_;refine aG h2 h1 (by rfl) ?_;refine aG h2 h1 (by rfl) ?_;have hwc := eh t.w;refine ag h2 (gD (p := p) hl ho hb (Df g.m t.obj b (au σ t.obj) σ.μ t.who (aI t.w) (by omega) (S.cells _ ho) hN)) fun _ H3 h3 => ?_;refine mg h3 (tG (vp e) 0) fun H9 h9 => ?_;exact zH (σ' := qq σ t) (t' := t) (by simp only [ah, hat]) (T.c0 (by omega)) (bJ (p := p) (rp := g.rp) (R := R) g rfl hl h9.to)
theorem KC (S : SOk σ) (T : gT σ t) (hat : t.at' = 21) : Sp jH [vp e, vi now] (eP e p rp σ t) (fun _ : Unit => b7 (ah σ t now)) (fun _ => eQ e p rp (ah σ t now)) := by
 have hN : σ.μ.N < 1099511627000 := by have := S.N; omega
 refine aM fun R H h => ?_;obtain ⟨nx, rv, g, hv, rfl, hl, _, h0⟩ := dJ h;obtain ⟨b, hb, rfl⟩ := hv (by omega);have ho := T.obj (.inl (by omega));refine bj (fun r => GC _ _ H) ?_;refine bm h0 fun b1 H1 h1 => ?_;refine bD ac ?_;refine aY h1 rfl ?_;refine bD ac ?_;refine aY h1 rfl ?_;refine ak h1 ac rfl ?_;refine ag h1 (iK t.w T.w) fun _ H2 h2 => ?_;refine aG h2 h1 (by rfl) ?_;refine aG h2 h1 (by rfl) ?_;have hwc := eh t.w;refine ag h2 (gD (p := p) hl ho hb (Df g.m t.obj b (au σ t.obj) σ.μ t.who (aI t.w) (by omega) (S.cells _ ho) hN)) fun _ H3 h3 => ?_;refine gA (e := e) (p := p) nx (vp b) { t with at' := 22 } dK h3 fun H9 h9 => ?_;exact dO (σ' := qq σ t) (t' := { t with at' := 22 }) (v := (vp b)) (n := dK) (by simp only [ah, hat]) (cO hb) rfl hl h9.to
theorem Kz (S : SOk σ) (T : gT σ t) (hat : t.at' = 12) : Sp jE [vp e, vi now] (eP e p rp σ t) (fun _ : Unit => b7 (ah σ t now)) (fun _ => eQ e p rp (ah σ t now)) := by
 have hN : σ.μ.N < 1099511627000 := by have := S.N; omega
 refine aM fun R H h => ?_;obtain ⟨nx, rv, g, hv, rfl, hl, _, h0⟩ := dJ h;obtain ⟨b, hb, rfl⟩ := hv (by omega);have ho := T.obj (.inl (by omega));refine bj (fun r => Gz _ _ H) ?_;refine bm h0 fun b1 H1 h1 => ?_;refine ak h1 ac rfl ?_;refine ak h1 ac rfl ?_;refine ak h1 ac rfl ?_;refine ag h1 (Ck (p := p) (g := g) (σ := σ) (G7 g.ib g.m g.nm σ.c σ.nx σ.μ t.who hN)) fun _ H2 h2 => ?_;refine gA (e := e) (p := p) nx (vp b) { t with at' := 13 } lr h2 fun H9 h9 => ?_;exact dO (σ' := σ.mem (σ.μ.cnt t.who (3, 0, 0) 4294967296)) (t' := { t with at' := 13 }) (v := (vp b)) (n := lr) (by simp only [ah, hat]) (cO hb) rfl hl h9.to
theorem Qn (S : SOk σ) (T : gT σ t) (hat : t.at' = 20) : Sp lh [vp e, vi now] (eP e p rp σ t) (fun _ : Unit => b7 (ah σ t now)) (fun _ => eQ e p rp (ah σ t now)) := by
 have hN : σ.μ.N < 1099511627000 := by have := S.N; omega
 refine aM fun R H h => ?_;obtain ⟨nx, rv, g, hv, rfl, hl, _, h0⟩ := dJ h;obtain ⟨b, hb, rfl⟩ := hv (by omega);have ho := T.obj (.inl (by omega));refine bj (fun r => IO _ _ H) ?_;refine bm h0 fun b1 H1 h1 => ?_;refine ak h1 ac rfl ?_;refine ak h1 ac rfl ?_;refine ak h1 ac rfl ?_;refine ag h1 (Ck (p := p) (g := g) (σ := σ) (CT g.ib g.m g.nm σ.c σ.nx σ.μ t.who hN)) fun _ H2 h2 => ?_;refine gA (e := e) (p := p) nx (vp b) { t with at' := 7 } cj h2 fun H9 h9 => ?_;exact dO (σ' := σ.mem (σ.μ.cnt t.who (3, 0, 0) 1)) (t' := { t with at' := 7 }) (v := (vp b)) (n := cj) (by simp only [ah, hat]) (cO hb) rfl hl h9.to
theorem UP (S : SOk σ) (T : gT σ t) (hat : t.at' = 25) : Sp nB [vp e, vi now] (eP e p rp σ t) (fun _ : Unit => b7 (ah σ t now)) (fun _ => eQ e p rp (ah σ t now)) := by
 have hN : σ.μ.N < 1099511627000 := by have := S.N; omega
 refine aM fun R H h => ?_;obtain ⟨nx, rv, g, hv, rfl, hl, _, h0⟩ := dJ h;obtain ⟨b, hb, rfl⟩ := hv (by omega);have ho := T.obj (.inl (by omega));refine bj (fun r => N0 _ _ H) ?_;refine bm h0 fun b1 H1 h1 => ?_;refine ak h1 ac rfl ?_;refine ak h1 ac rfl ?_;refine ak h1 ac rfl ?_;refine ag h1 (Ck (p := p) (g := g) (σ := σ) (CT g.ib g.m g.nm σ.c σ.nx σ.μ t.who hN)) fun _ H2 h2 => ?_;refine mg h2 (tG (vp e) 0) fun H9 h9 => ?_;exact zH (σ' := σ.mem (σ.μ.cnt t.who (3, 0, 0) 1)) (t' := t) (by simp only [ah, hat]) (T.c0 (by omega)) (bJ (p := p) (rp := g.rp) (R := R) g rfl hl h9.to)
theorem FI (S : SOk σ) (T : gT σ t) (hat : t.at' = 22) : Sp dK [vp e, vi now] (eP e p rp σ t) (fun _ : Unit => b7 (ah σ t now)) (fun _ => eQ e p rp (ah σ t now)) := by
 have hN : σ.μ.N < 1099511627000 := by have := S.N; omega
 refine aM fun R H h => ?_;obtain ⟨nx, rv, g, hv, rfl, hl, _, h0⟩ := dJ h;obtain ⟨b, hb, rfl⟩ := hv (by omega);have ho := T.obj (.inl (by omega));refine bj (fun r => BU _ _ H) ?_;refine bm h0 fun b1 H1 h1 => ?_;refine ak h1 ac rfl ?_;refine ak h1 ac rfl ?_;refine ak h1 ac rfl ?_;refine ak h1 ac rfl ?_;refine ag h1 (Ck (p := p) (g := g) (σ := σ) (PE g.ib g.m g.nm σ.c σ.nx σ.μ t.who t.s hN)) fun _ H2 h2 => ?_;refine bv h2 ac rfl rfl fun H3 h3 => ?_;refine gA (e := e) (p := p) nx (vp b) { t with top := σ.μ.V (9, t.s, 0), at' := 23 } lm h3 fun H9 h9 => ?_;exact dO (σ' := σ.mem (σ.μ.acc t.who 1 (9, t.s, 0))) (t' := { t with top := σ.μ.V (9, t.s, 0), at' := 23 }) (v := (vp b)) (n := lm) (by simp only [ah, hat]) (cO hb) rfl hl h9.to
theorem Qs (S : SOk σ) (T : gT σ t) (hat : t.at' = 23) : Sp lm [vp e, vi now] (eP e p rp σ t) (fun _ : Unit => b7 (ah σ t now)) (fun _ => eQ e p rp (ah σ t now)) := by
 have hN : σ.μ.N < 1099511627000 := by have := S.N; omega
 refine aM fun R H h => ?_;obtain ⟨nx, rv, g, hv, rfl, hl, _, h0⟩ := dJ h;obtain ⟨b, hb, rfl⟩ := hv (by omega);have ho := T.obj (.inl (by omega));refine bj (fun r => IS _ _ H) ?_;refine bm h0 fun b1 H1 h1 => ?_;refine ak h1 ac rfl ?_;refine ak h1 ac rfl ?_;refine ak h1 ac rfl ?_;refine ak h1 ac rfl ?_;refine ak h1 ac rfl ?_;refine ag h1 (Ck (p := p) (g := g) (σ := σ) (JB g.ib g.m g.nm σ.c σ.nx σ.μ t.who t.obj t.top hN)) fun _ H2 h2 => ?_;refine gA (e := e) (p := p) nx (vp b) { t with at' := 24 } lp h2 fun H9 h9 => ?_;exact dO (σ' := { σ with μ := σ.μ.acc t.who 6 (14, (t.obj : Int), 0), nx := fun k => if k = (t.obj : Int) then some t.top else σ.nx k }) (t' := { t with at' := 24 }) (v := (vp b)) (n := lp) (by simp only [ah, hat]) (cO hb) rfl hl h9.to
theorem Qv (S : SOk σ) (T : gT σ t) (hat : t.at' = 24) : Sp lp [vp e, vi now] (eP e p rp σ t) (fun _ : Unit => b7 (ah σ t now)) (fun _ => eQ e p rp (ah σ t now)) := by
 have hN : σ.μ.N < 1099511627000 := by have := S.N; omega
 refine aM fun R H h => ?_;obtain ⟨nx, rv, g, hv, rfl, hl, _, h0⟩ := dJ h;obtain ⟨b, hb, rfl⟩ := hv (by omega);have ho := T.obj (.inl (by omega));refine bj (fun r => IW _ _ H) ?_;refine bm h0 fun b1 H1 h1 => ?_;refine ak h1 ac rfl ?_;refine ak h1 ac rfl ?_;refine ak h1 ac rfl ?_;refine ak h1 ac rfl ?_;refine ak h1 ac rfl ?_;refine ak h1 ac rfl ?_;refine ag h1 (Ck (p := p) (g := g) (σ := σ) (JD g.ib g.m g.nm σ.c σ.nx σ.μ t.who t.s t.top t.obj (by have := S.obs; omega) hN)) fun _ H2 h2 => ?_
 by_cases hw : σ.μ.V (9, t.s, 0) = t.top
 ·rw [dI hw]
  refine gs ?_;rw [Bool.not_true];refine gs ?_;refine gA (e := e) (p := p) nx (vp b) { t with at' := 25 } nB h2 fun H9 h9 => ?_;exact dO (σ' := σ.mem (σ.μ.swp t.who (9, t.s, 0) t.top (t.obj + 1))) (t' := { t with at' := 25 }) (v := (vp b)) (n := nB) (by simp only [ah, hat]; rw [if_pos hw]) (cO hb) rfl hl h9.to
 ·rw [dQ hw]
  refine gs ?_;rw [Bool.not_false];refine gs ?_;refine gA (e := e) (p := p) nx (vp b) { t with at' := 22 } dK h2 fun H9 h9 => ?_;exact dO (σ' := σ.mem (σ.μ.swp t.who (9, t.s, 0) t.top (t.obj + 1))) (t' := { t with at' := 22 }) (v := (vp b)) (n := dK) (by simp only [ah, hat]; rw [if_neg hw]) (cO hb) rfl hl h9.to
theorem UR (S : SOk σ) (T : gT σ t) (hat : t.at' = 15) : Sp nD [vp e, vi now] (eP e p rp σ t) (fun _ : Unit => b7 (ah σ t now)) (fun _ => eQ e p rp (ah σ t now)) := by
 have hN : σ.μ.N < 1099511627000 := by have := S.N; omega
 refine aM fun R H h => ?_;obtain ⟨nx, rv, g, hv, rfl, hl, _, h0⟩ := dJ h;obtain ⟨b, hb, rfl⟩ := hv (by omega);have ho := T.obj (.inl (by omega));refine bj (fun r => N7 _ _ H) ?_;refine bm h0 fun b1 H1 h1 => ?_;refine ak h1 ac rfl ?_;refine ak h1 ac rfl ?_;refine ag h1 (ou p g σ t.who S.N) fun _ H2 h2 => ?_;refine bv h2 ac rfl rfl fun H3 h3 => ?_;refine ak h3 ac rfl ?_;refine aa (Dc 2 (by omega)) ?_
 by_cases hw : σ.μ.V (2, 0, 0) % 2 = 1
 ·refine aa (bw (show ((σ.μ.V (2, 0, 0) % 2 : Nat) : Int) = 1 by omega)) ?_
  refine gs ?_;refine gA (e := e) (p := p) nx (vp b) { t with q := σ.μ.V (2, 0, 0), at' := 7 } cj h3 fun H9 h9 => ?_;exact dO (σ' := d9 σ t) (t' := { t with q := σ.μ.V (2, 0, 0), at' := 7 }) (v := (vp b)) (n := cj) (by simp only [ah, hat]; rw [if_pos hw]) (cO hb) rfl hl h9.to
 ·refine aa (aD (show ¬ ((σ.μ.V (2, 0, 0) % 2 : Nat) : Int) = 1 by omega)) ?_
  refine gs ?_;refine gA (e := e) (p := p) nx (vp b) { t with q := σ.μ.V (2, 0, 0), at' := 16 } fg h3 fun H9 h9 => ?_;exact dO (σ' := d9 σ t) (t' := { t with q := σ.μ.V (2, 0, 0), at' := 16 }) (v := (vp b)) (n := fg) (by simp only [ah, hat]; rw [if_neg hw]) (cO hb) rfl hl h9.to
theorem Bq (S : SOk σ) (T : gT σ t) (hat : t.at' = 17) : Sp ff [vp e, vi now] (eP e p rp σ t) (fun _ : Unit => b7 (ah σ t now)) (fun _ => eQ e p rp (ah σ t now)) := by
 have hN : σ.μ.N < 1099511627000 := by have := S.N; omega
 refine aM fun R H h => ?_;obtain ⟨nx, rv, g, hv, rfl, hl, _, h0⟩ := dJ h;obtain ⟨b, hb, rfl⟩ := hv (by omega);have ho := T.obj (.inl (by omega));refine bj (fun r => xr _ _ H) ?_;refine bm h0 fun b1 H1 h1 => ?_;refine bD ac ?_;refine aY h1 rfl ?_;refine bD ac ?_;refine aY h1 rfl ?_;refine ak h1 ac rfl ?_;refine ak h1 ac rfl ?_;refine ag h1 (gD (p := p) hl ho hb (De g.m t.obj b (au σ t.obj) σ.μ t.who hN)) fun _ H2 h2 => ?_;refine aG h2 h1 (by rfl) ?_;refine aG h2 h1 (by rfl) ?_;refine ag h2 (KT (p := p) (σ := iZ σ t) hl ho hb (Dd g.m t.obj b (au σ t.obj) t.w (σ.μ.V (12, (t.obj : Int), 0)) T.w (S.cells _ ho).2)) fun _ H3 h3 => ?_;cases hf : ie t.w (σ.μ.V (12, (t.obj : Int), 0)) (au σ t.obj).length
 ·refine gs ?_
  rw [Bool.not_false];refine gs ?_;refine gA (e := e) (p := p) nx (vp b) { t with at' := 7 } cj h3 fun H9 h9 => ?_;exact dO (σ' := iZ σ t) (t' := { t with at' := 7 }) (v := (vp b)) (n := cj) (by simp only [ah, hat, jw, hf]; rfl) (cO hb) rfl hl h9.to
 ·refine gs ?_
  rw [Bool.not_true];refine gs ?_;refine bv h3 ac rfl rfl fun H4 h4 => ?_;refine gA (e := e) (p := p) nx (vp b) { t with at' := 18, mark := now } fY h4 fun H9 h9 => ?_;exact dO (σ' := iZ σ t) (t' := { t with at' := 18, mark := now }) (v := (vp b)) (n := fY) (by simp only [ah, hat, jw, hf]; rfl) (cO hb) rfl hl h9.to
theorem Cd (S : SOk σ) (T : gT σ t) (hat : t.at' = 18) : Sp fY [vp e, vi now] (eP e p rp σ t) (fun _ : Unit => b7 (ah σ t now)) (fun _ => eQ e p rp (ah σ t now)) := by
 have hN : σ.μ.N < 1099511627000 := by have := S.N; omega
 refine aM fun R H h => ?_;obtain ⟨nx, rv, g, hv, rfl, hl, _, h0⟩ := dJ h;obtain ⟨b, hb, rfl⟩ := hv (by omega);have ho := T.obj (.inl (by omega));refine bj (fun r => zG _ _ H) ?_;refine bm h0 fun b1 H1 h1 => ?_;refine ak h1 ac rfl ?_;refine ak h1 ac rfl ?_;refine ag h1 (ou p g σ t.who S.N) fun _ H2 h2 => ?_;refine bD ac ?_;refine aY h2 rfl ?_;refine aG h1 h2 (by rfl) ?_
 by_cases hw : σ.μ.V (2, 0, 0) = t.q
 ·refine aa (p7 (show ((σ.μ.V (2, 0, 0) : Nat) : Int) = (t.q : Int) by omega)) ?_
  refine gs ?_;refine ak h2 ac rfl ?_;have k2 := bJ (p := p) (rp := g.rp) (σ := d9 σ t) (R := eB e p nx (vp b) t * (blk b1 (.cells false [vi 0, .slice none 0 0, vi 0, vw 0]) * R)) g rfl hl h2.to;refine mg k2 (wP e p g.rp (d9 σ t) nx (vp b) t t.mark 9 (by have := S.pts; show σ.pts.length < _; omega)) fun H9 h9 => ?_;exact zH (σ' := (d9 σ t).note t.mark t.who 9) (t' := { t with code := 9 }) (by simp only [ah, hat]; rw [if_pos hw]) rfl h9.to
 ·refine aa (Hi (show ¬ ((σ.μ.V (2, 0, 0) : Nat) : Int) = (t.q : Int) by omega)) ?_
  refine gs ?_;refine gA (e := e) (p := p) nx (vp b) { t with at' := 7 } cj h2 fun H9 h9 => ?_;exact dO (σ' := d9 σ t) (t' := { t with at' := 7 }) (v := (vp b)) (n := cj) (by simp only [ah, hat]; rw [if_neg hw]) (cO hb) rfl hl h9.to
def gh (σ : aL) (t : Tk) : aL × Tk × Bool :=
 (aS σ t, { aP σ t with at' := if (aP σ t).found = true then 6 else if bQ σ (aP σ t) = true then 3 else 2 }, false)
theorem Dp (S : SOk σ) (T : gT σ t) (hat : t.at' = 0 ∨ t.at' = 2) : Sp jG [vp e, vi now] (eP e p rp σ t) (fun _ : Unit => b7 (gh σ t)) (fun _ => eQ e p rp (gh σ t)) := by
 have hN : σ.μ.N < 1099511627000 := by have := S.N; omega
 refine aM fun R H h => ?_;obtain ⟨nx, rv, g, hv, rfl, hl, _, h0⟩ := dJ h;have hi := T.i (by omega) (by omega);refine bj (fun r => IX _ _ H) ?_;refine bm h0 fun b1 H1 h1 => ?_;refine ag h1 (Lm e p g σ nx rv t S hi) fun _ H2 h2 => ?_;refine ai (BS _ _ _ _ H2) ?_;refine ak h2 ac rfl ?_;cases hf : (aP σ t).found
 ·refine gs ?_
  cases hla : bQ σ (aP σ t)
  ·refine gs ?_
   refine ai (BT _ _ _ H2) ?_;refine gA (e := e) (p := p) nx rv { aP σ t with at' := 2 } jG h2 fun H9 h9 => ?_;exact dO (σ' := aS σ t) (t' := { aP σ t with at' := 2 }) (v := rv) (n := jG) (by simp only [gh, hf, hla]; rfl) (iy (by simp)) rfl hl h9.to
  ·refine gs ?_
   refine gA (e := e) (p := p) nx rv { aP σ t with at' := 3 } di h2 fun H9 h9 => ?_;exact dO (σ' := aS σ t) (t' := { aP σ t with at' := 3 }) (v := rv) (n := di) (by simp only [gh, hf, hla]; rfl) (iy (by simp)) rfl hl h9.to
 ·refine gs ?_
  refine gA (e := e) (p := p) nx rv { aP σ t with at' := 6 } gJ h2 fun H9 h9 => ?_;exact dO (σ' := aS σ t) (t' := { aP σ t with at' := 6 }) (v := rv) (n := gJ) (by simp only [gh, hf]; rfl) (iy (by simp)) rfl hl h9.to
theorem HT (S : SOk σ) (T : gT σ t) (hat : t.at' = 4) : Sp en [vp e, vi now] (eP e p rp σ t) (fun _ : Unit => b7 (ah σ t now)) (fun _ => eQ e p rp (ah σ t now)) := by
 have hN : σ.μ.N < 1099511627000 := by have := S.N; omega
 refine aM fun R H h => ?_;obtain ⟨nx, rv, g, hv, rfl, hl, _, h0⟩ := dJ h;have hi := T.i (by omega) (by omega);refine bj (fun r => DM _ _ H) ?_;refine bm h0 fun b1 H1 h1 => ?_;refine ag h1 (Lm e p g σ nx rv t S hi) fun _ H2 h2 => ?_;refine ai (xt _ _ _ _ _ H2) ?_;refine ak h2 ac rfl ?_;cases hf : (aP σ t).found
 ·refine gs ?_
  cases hla : bQ σ (aP σ t)
  ·refine gs ?_
   refine ai (xu _ _ _ H2) ?_;refine gA (e := e) (p := p) nx rv (aP σ t) en h2 fun H9 h9 => ?_;exact dO (σ' := aS σ t) (t' := (aP σ t)) (v := rv) (n := en) (by simp only [ah, hat, hf, hla]; rfl) (iy (show t.at' < 7 by omega)) (by show xS t.at' = _; rw [hat]; rfl) hl h9.to
  ·refine gs ?_
   have k2 := bJ (p := p) (rp := g.rp) (σ := aS σ t) (R := eB e p nx rv (aP σ t) * (blk b1 (.cells false [vi 0, .slice none 0 0, vi 0, vw 0]) * R)) g rfl hl h2.to;refine ag k2 (tH e p g.rp (aS σ t) nx rv (aP σ t) now 5 (by have := S.pts; show σ.pts.length < _; omega)) fun _ H3 h3 => ?_;refine gA (e := e) (p := p) nx rv { aP σ t with at' := 5, code := 5 } ep h3 fun H9 h9 => ?_;exact DO (σ' := (aS σ t).note now (aP σ t).who 5) (t' := { aP σ t with at' := 5, code := 5 }) (v := rv) (n := ep) (by simp only [ah, hat, hf, hla]; rfl) (iy (by simp)) rfl h9.to
 ·refine gs ?_
  refine gA (e := e) (p := p) nx rv { aP σ t with at' := 5 } ep h2 fun H9 h9 => ?_;exact dO (σ' := aS σ t) (t' := { aP σ t with at' := 5 }) (v := rv) (n := ep) (by simp only [ah, hat, hf]; rfl) (iy (by simp)) rfl hl h9.to
theorem KB (S : SOk σ) (T : gT σ t) (hat : t.at' = 0) : Sp lQ [vp e, vi now] (eP e p rp σ t) (fun _ : Unit => b7 (ah σ t now)) (fun _ => eQ e p rp (ah σ t now)) := by
 have hN : σ.μ.N < 1099511627000 := by have := S.N; omega
 refine bp (GB _ _) fun R H h => ?_;refine bm h fun b H1 h1 => ?_;refine ai (zA _ _ _ _ H1) ?_;obtain ⟨nx, rv, g, hv, rfl, hl, _, k1⟩ := dJ (e := e) (p := p) (rp := rp) (σ := σ) (t := t) (R := blk b (.cells false [vi 0, .slice none 0 0, vi 0, vw 0]) * R) (H := H1) h1.to
 have fin : ∀ code, dM t.x = some code → wp ((FF iS [vp e, vi now, vi code] H1).bind fun r25 =>
  (af r25.1 0).bind fun v26 =>
  (af r25.1 1).bind fun v27 =>
  (cD 4 (vp b) v26 r25.2).bind fun H28 =>
  (aA 4 (vp b) H28).bind fun v29 => some (Value.tuple #[v29, v27], H28)) fun v' H' => ∃ x_1 : Unit, v' = b7 (ah σ t now) ∧ ae (eQ e p g.rp (ah σ t now) * R) H' := by
  intro code hx;have k2 := bJ (p := p) (rp := g.rp) (σ := σ) (R := eB e p nx rv t * (blk b (.cells false [vi 0, .slice none 0 0, vi 0, vw 0]) * R)) g rfl hl k1.to;refine mg k2 (wP e p g.rp σ nx rv t now code (by have := S.pts; omega)) fun H9 h9 => ?_;exact zH (σ' := σ.note now t.who code) (t' := { t with code := code }) (by simp only [ah, hat, hx]) rfl h9.to
 have scan : dM t.x = none → wp (pn (vp e) (vi now) (vp b) (vb false) H1) fun v' H' => ∃ x_1 : Unit, v' = b7 (ah σ t now) ∧ ae (eQ e p g.rp (ah σ t now) * R) H' := by
  intro hx
  have hs : ah σ t now = gh σ t := by simp only [ah, hat, hx, gh]
  rw [hs];refine ai (zB _ _ _ _ H1) ?_;exact mg h1 (Dp e p g.rp σ t now S T (.inl hat)) fun H9 h9 => ⟨(), rfl, h9.to⟩
 refine ak k1 (b8 (aO (aO ba))) rfl ?_
 by_cases ha : t.x.a < 1
 ·refine aa (eO ha) ?_
  refine gs ?_;exact fin 3 (by rw [dM, if_pos (.inl ha)])
 ·refine aa (db ha) ?_
  refine gs ?_;refine ak k1 (b8 (aO (aO ba))) rfl ?_;refine gs ?_
  by_cases ha2 : 65536 < t.x.a
  ·refine aa (pK ha2) ?_
   refine gs ?_;exact fin 3 (by rw [dM, if_pos (.inr ha2)])
  ·refine aa (iQ ha2) ?_
   refine gs ?_;refine ak k1 (b8 (aO (aO ba))) rfl ?_
   by_cases hf : t.x.flow < 0
   ·refine aa (eO hf) ?_
    refine gs ?_;exact fin 5 (by rw [dM, if_neg (by omega), if_pos (.inl hf)])
   ·refine aa (db hf) ?_
    refine gs ?_;refine ak k1 (b8 (aO (aO ba))) rfl ?_;refine gs ?_
    by_cases hf2 : 1048576 < t.x.flow
    ·refine aa (pK hf2) ?_
     refine gs ?_;exact fin 5 (by rw [dM, if_neg (by omega), if_pos (.inr hf2)])
    ·refine aa (iQ hf2) ?_
     refine gs ?_;exact scan (by rw [dM, if_neg (by omega), if_neg (by omega)])
theorem RG (S : SOk σ) (T : gT σ t) : Sp vU [vp e, vi now] (eP e p rp σ t) (fun _ : Unit => b7 (ah σ t now)) (fun _ => eQ e p rp (ah σ t now)) := by
 refine bp (IN _ _) fun R H h => ?_;refine bm h fun b H1 h1 => ?_;obtain ⟨rv, hv, k1⟩ := Lk (e := e) (p := p) (rp := rp) (σ := σ) (t := t) (R := blk b (.cells false [vi 0, .slice none 0 0, vi 0, vw 0]) * R) (H := H1) h1.to;refine ak k1 ac rfl ?_;refine ai (show (dd (.func (.func (xS t.at')) #[vp e] #[]) [vi now]).bind _ = _ from rfl) ?_
 have hs : Sp (xS t.at') [vp e, vi now] (eP e p rp σ t) (fun _ : Unit => b7 (ah σ t now)) (fun _ => eQ e p rp (ah σ t now)) := by
  rcases T.ats with hat | hat | hat | hat | hat | hat | hat | hat | hat | hat | hat | hat | hat | hat | hat | hat | hat | hat | hat | hat | hat | hat | hat | hat <;> rw [show xS t.at' = _ from by rw [hat]]
  ·exact KB e p rp σ t now S T hat
  ·have h := Dp e p rp σ t now S T (.inr hat)
   have hs : ah σ t now = gh σ t := by simp only [ah, hat, gh]
   rw [hs]; exact h
  ·exact Qt e p rp σ t now S T hat
  ·exact HT e p rp σ t now S T hat
  ·exact HU e p rp σ t now S T hat
  ·exact Qu e p rp σ t now S T hat
  ·exact Qy e p rp σ t now S T hat
  ·exact Qq e p rp σ t now S T hat
  ·exact KA e p rp σ t now S T hat
  ·exact UQ e p rp σ t now S T hat
  ·exact Qw e p rp σ t now S T hat
  ·exact Kz e p rp σ t now S T hat
  ·exact Qx e p rp σ t now S T hat
  ·exact Qp e p rp σ t now S T hat
  ·exact UR e p rp σ t now S T hat
  ·exact Br e p rp σ t now S T hat
  ·exact Bq e p rp σ t now S T hat
  ·exact Cd e p rp σ t now S T hat
  ·exact Qn e p rp σ t now S T hat
  ·exact KC e p rp σ t now S T hat
  ·exact FI e p rp σ t now S T hat
  ·exact Qs e p rp σ t now S T hat
  ·exact Qv e p rp σ t now S T hat
  ·exact UP e p rp σ t now S T hat
 exact mg h1 hs fun H9 h9 => ⟨(), rfl, h9.to⟩
end
theorem QD {a b : Nat} {x : Value} {k : Value → OV} {Q : Value → AH → Prop} (h : wp (k undef) Q) : wp (EM (vb false) true [.n, .f a, .f b] x k) Q := h
theorem Tp {P P2 : SP} {H H2 : AH} {ro ro2 : Bool} {b o : Nat} {cs cs2 : List Value} (h : ae P H) (h2 : ae P2 H2) [i : Hs P b (.cells ro cs)] [i2 : Hs P2 b (.cells ro2 cs2)] (e : cs[o]? = cs2[o]?) : ar (rX b o) H = ar (rX b o) H2 := by
 simp only [ar, sJ, d8, bG, i.get h, i2.get h2];exact e
def ol (x : Cl) : Prop := x.flow < 0 ∨ 1048576 < x.flow
instance (x : Cl) : Decidable (ol x) := inferInstanceAs (Decidable (_ ∨ _))
def hM (x : Cl) : Option Int :=
 if x.op = 1 then (if ol x then some 1 else if x.a < 1 ∨ 65536 < x.a then some 4 else if x.b < 1 ∨ 8 < x.b then some 1 else none)
 else if ol x then some 5 else none
def aB (σ : aL) (t : Tk) : Tk :=
 let v := σ.μ.V (10, t.s, (t.i : Int))
 { t with i := if fe v t.x.flow = true then t.i else t.i + 1, found := fe v t.x.flow, obj := if fe v t.x.flow = true then v % 4294967296 else t.obj, mark := if v = 0 ∧ t.mark < 0 then (t.i : Int) else t.mark }
abbrev kG (σ : aL) (t : Tk) : aL := σ.mem (σ.μ.swp t.who (8, t.s, 0) 0 1)
abbrev iz (σ : aL) (t : Tk) : aL := σ.mem ((σ.μ.acc t.who 2 (8, t.s, 0)).put (8, t.s, 0) 0)
def eN (σ : aL) (t : Tk) : aL × Tk × Bool := (kG σ t, { t with at' := if σ.μ.V (8, t.s, 0) = 0 then 3 else 2 }, false)
abbrev TN (σ : aL) (t : Tk) : Ob := ⟨t.x.flow, t.x.b, max (σ.c.un / t.x.a.toNat) 1⟩
def uS (σ : aL) (t : Tk) (now : Int) : aL × Tk × Bool :=
 match t.at' with
 | 4 => (σ.make t.who (TN σ t), { t with obj := σ.obs.length, at' := 5 }, false)
 | 5 => ((σ.mem ((σ.μ.acc t.who 2 (10, t.s, t.mark)).put (10, t.s, t.mark) (cq t.x.flow t.obj))).note now t.who 0, { t with at' := 6, code := 0 }, false)
 | _ => (iz σ t, t, true)
def d6 (σ : aL) (t : Tk) (now : Int) : aL × Tk × Bool :=
 match t.at' with
 | 4 => let w := σ.μ.V (11, (t.obj : Int), 0)
  (da σ t, { t with w := w, at' := if aR w = 0 then 8 else 5 }, false)
 | 5 => let q := σ.μ.V (2, 0, 0)
  (d9 σ t, { t with q := q, at' := if q % 2 = 1 then 4 else 6 }, false)
 | 6 => let w := σ.μ.V (11, (t.obj : Int), 0)
  (da σ t, { t with w := w, mark := now, at' := if aR w = 0 then 8 else 7 }, false)
 | 7 => if σ.μ.V (2, 0, 0) = t.q then ((d9 σ t).note t.mark t.who 8, { t with at' := 10, code := 8 }, false) else (d9 σ t, { t with at' := 4 }, false)
 | 8 => let o := aQ t.w 2
  let σ1 := σ.mem (σ.μ.turn t.who t.obj t.w o)
  if dY σ.μ t.obj t.w o = true then (σ1.note now t.who 0, { t with at' := 9, code := 0 }, false) else (σ1, { t with at' := 4 }, false)
 | 9 => (σ.mem ((σ.μ.acc t.who 2 (10, t.s, (t.i : Int))).put (10, t.s, (t.i : Int)) 0), { t with at' := 10 }, false)
 | _ => (iz σ t, t, true)
def aw (σ : aL) (t : Tk) (now : Int) : aL × Tk × Bool :=
 match t.at' with
 | 0 => match hM t.x with
  | some e => (σ.note now t.who e, { t with code := e }, true)
  | none => eN σ t
 | 2 => eN σ t
 | 3 => let t1 := aB σ t
  if t1.found = true then (if t.x.op = 1 then ((aS σ t).note now t.who 6, { t1 with at' := 6, code := 6 }, false) else (aS σ t, { t1 with at' := 4 }, false))
  else if bQ σ t1 = true then
   (if t.x.op = 1 then (if t1.mark < 0 then ((aS σ t).note now t.who 7, { t1 with at' := 6, code := 7 }, false) else (aS σ t, { t1 with at' := 4 }, false))
   else ((aS σ t).note now t.who 5, { t1 with at' := 10, code := 5 }, false))
  else (aS σ t, t1, false)
 | _ => if t.x.op = 1 then uS σ t now else d6 σ t now
structure lE (σ : aL) (t : Tk) : Prop where
 s : t.s = (t.x.flow.tmod σ.c.sh + σ.c.sh).tmod σ.c.sh
 i : t.at' < 4 → (t.i : Int) < σ.c.sl
 x : t.at' ≠ 0 → hM t.x = none
 ats : t.at' = 0 ∨ t.at' = 2 ∨ t.at' = 3 ∨ 4 ≤ t.at' ∧ t.at' < 7 ∨ t.x.op ≠ 1 ∧ 7 ≤ t.at' ∧ t.at' < 11
 mark : t.at' = 4 ∨ t.at' = 5 → t.x.op = 1 → 0 ≤ t.mark
 obj : t.at' = 5 ∧ t.x.op = 1 ∨ 4 ≤ t.at' ∧ t.at' < 10 ∧ t.x.op ≠ 1 → t.obj < σ.obs.length
 w : t.w < 18446744073709551616
structure Ek where
 I : Nat
 free : Int
 at' : Int
 obj : Nat
 rv : Value
 w : Nat
 q : Nat
 nw : Int
 told : Int
abbrev rB (e p : Nat) (nx : Value) (t : Tk) (k : Ek) : SP :=
 blk e (.cells false [vp p, vi t.who, vi t.x.op, vi t.x.flow, vi t.x.a, vi t.x.b, vi t.s, nx, vi k.I, vi k.free, vi k.at', vi k.obj, k.rv, vu k.w, vu k.q, vi k.nw, vi k.told])
def fy (t : Tk) : Nat := if t.x.op = 1 then
    (match t.at' with | 0 => fp | 2 => cJ | 3 => bO | 4 => dq | 5 => eL | _ => aN)
 else match t.at' with | 0 => eg | 2 => cV | 3 => cg | 4 => bo | 5 => dP | 6 => cn | 7 => cz | 8 => ch | 9 => dC | _ => aN
def VJ (rp : List Nat) (t : Tk) (k : Ek) : Prop :=
 (t.at' < 4 → k.I = t.i ∧ k.free = t.mark) ∧ (t.x.op = 1 → (t.at' = 4 ∨ t.at' = 5 → k.free = t.mark) ∧ (t.at' = 5 → k.obj = t.obj) ∧ (t.at' = 6 → k.told = t.code)) ∧
 (t.x.op ≠ 1 → (4 ≤ t.at' → t.at' < 10 → k.at' = t.i ∧ ∃ b, rp[t.obj]? = some b ∧ k.rv = vp b) ∧ (t.at' = 6 ∨ t.at' = 7 → k.q = t.q) ∧ (t.at' = 7 → k.nw = t.mark) ∧ (t.at' = 8 → k.w = t.w) ∧ (t.at' = 9 ∨ t.at' = 10 → k.told = t.code))
def rT (e p : Nat) (rp : List Nat) (t : Tk) : SP := ex fun k : Ek => pu (VJ rp t k) * rB e p (eM e (fy t)) t k
def rU (e p : Nat) (rp : List Nat) (r : aL × Tk × Bool) : SP := if r.2.2 = true then emp else rT e p rp r.2.1
def rQ (e p : Nat) (rp : List Nat) (r : aL × Tk × Bool) (rp' : List Nat) : SP := pu (rp <+: rp') * (rU e p rp' r * bf p rp' r.1)
section
variable {e p : Nat} {rp : List Nat} {g : PIds} {σ σ' : aL} {t t' : Tk} {R P : SP} {H : AH} {r : aL × Tk × Bool} {v : Value} {n : Nat} {c : Int} {k : Ek}
theorem hJ (h : ae (rT e p rp t * bf p rp σ * R) H) : ∃ (k : Ek) (g : PIds), VJ rp t k ∧ g.rp = rp ∧ rp.length = σ.obs.length ∧ ae (rB e p (eM e (fy t)) t k * (aC p g σ * R)) H := by
 unfold rT at h;rw [aj] at h;obtain ⟨k, h1⟩ := ae.ex.1 h;rw [aj, ae.pu] at h1;obtain ⟨g, h3, h4, h5⟩ := eE (p := p) (rp := rp) (σ := σ) (R := rB e p (eM e (fy t)) t k * R) (H := H) h1.2.to;exact ⟨k, g, h1.1, h3, h4, h5.to⟩
theorem gg (hr : r = (σ', t', false)) (hk : VJ g.rp t' k) (hn : fy t' = n) (hl : g.rp.length = σ'.obs.length) (hp : rp <+: g.rp) (h : ae (rB e p (eM e n) t' k * (aC p g σ' * R)) H) :
 ∃ x : List Nat, (.tuple #[.agg (dX 0).toArray, vb false]) = b7 r ∧ ae (rQ e p rp r x * R) H := by
 subst hr hn;refine ⟨g.rp, rfl, ?_⟩;unfold rQ;rw [aj];refine ae.pu.2 ⟨hp, ?_⟩;have h1 := bJ (p := p) (rp := g.rp) (σ := σ') (R := rB e p (eM e (fy t')) t' k * R) g rfl hl h.to;rw [show rU e p g.rp (σ', t', false) = rT e p g.rp t' from by unfold rU; rw [if_neg (by simp)]];unfold rT;rw [aj];refine ae.ex.2 ⟨k, ?_⟩;rw [aj];exact ae.pu.2 ⟨hk, h1.to⟩
theorem Uf (hr : r = (σ', t', true)) (hc : t'.code = c) (hl : g.rp.length = σ'.obs.length) (hp : rp <+: g.rp) (h : ae (aC p g σ' * R) H) :
 ∃ x : List Nat, (.tuple #[.agg (dX c).toArray, vb true]) = b7 r ∧ ae (rQ e p rp r x * R) H := by
 subst hr hc;refine ⟨g.rp, rfl, ?_⟩;unfold rQ;rw [aj];refine ae.pu.2 ⟨hp, ?_⟩;have h1 := bJ (p := p) (rp := g.rp) (σ := σ') (R := R) g rfl hl h.to;rw [show rU e p g.rp (σ', t', true) = emp from by unfold rU; rw [if_pos rfl], nU];exact h1
theorem gi (nx : Value) (t' : Tk) (k : Ek) (n : Nat) {b : Nat} {Q : Value → AH → Prop} (h : ae P H) [fr : Fr P (rB e p nx t' k * blk b (.cells false [vi 0, .slice none 0 0, vi 0, vw 0])) R]
 (hk : ∀ H', ae (rB e p (eM e n) t' k * R) H' → Q (.tuple #[.agg (dX 0).toArray, vb false]) H') :
 wp ((FF bd [vp e, eM e n] H).bind fun r2 => (af r2.1 0).bind fun v3 => (af r2.1 1).bind fun v4 => (cD 4 (vp b) v3 r2.2).bind fun H5 => (aA 4 (vp b) H5).bind fun v6 => some (Value.tuple #[v6, v4], H5)) Q := by
 have on : Sp bd [vp e, eM e n] (rB e p nx t' k) (fun _ : Unit => .tuple #[.agg (dX 0).toArray, vb false]) (fun _ => rB e p (eM e n) t' k) := by
  refine bp (B9 _ _) fun R H h => ?_;refine bm h fun b H1 h1 => ?_;refine bv h1 ac rfl rfl fun H2 h2 => ?_;refine iU ?_;refine eG h2 rfl rfl fun H3 h3 => ?_;refine aV h3 ?_;exact ap ⟨(), rfl, h3.to⟩
 exact mg h on hk
end
section
variable (e p : Nat) (rp : List Nat) (g : PIds) (σ : aL) (t : Tk) (k : Ek) (nx : Value) (now : Int)
theorem me (code : Int) (hp : σ.pts.length < 1000000) (hl : g.rp.length = σ.obs.length) : Sp cW [vp e, vi now, vi code] (rB e p nx t k * aC p g σ) (fun _ : PIds => .tuple #[]) (fun g' => pu (g'.rp = g.rp) * (rB e p nx t { k with told := code } * aC p g' (σ.note now t.who code))) := by
 refine bp (yq _ _ _) fun R H h => ?_;refine bv h ac rfl rfl fun H0 h0 => ?_;refine ak h0 ac rfl ?_;refine ak h0 ac rfl ?_;refine iU ?_;have h1 := bJ (p := p) (rp := g.rp) (σ := σ) (R := rB e p nx t { k with told := code } * R) g rfl hl h0.to;refine ag h1 (Yf p g.rp σ now t.who code hp) fun _ H2 h2 => ?_;obtain ⟨g', hg', _, h3⟩ := eE (p := p) (rp := g.rp) (σ := σ.note now t.who code) (R := rB e p nx t { k with told := code } * R) (H := H2) h2.to;refine ap ⟨g', rfl, ?_⟩;rw [aj];exact ae.pu.2 ⟨hg', h3.to⟩
theorem HZ (u : Nat) (w : Int) (hu : 1 ≤ u ∧ u ≤ 4611686018427387904) (hw : 1 ≤ w ∧ w ≤ 65536) : Sp m7 [vu u, vi w] emp (fun _ : Unit => .tuple #[vu (max (u / w.toNat) 1), vb true]) (fun _ => emp) := by
 refine bp (Bv _ _) fun R H h => ?_;refine aa (db (by omega)) ?_;refine gs ?_;refine aa (iQ ?_) ?_
 ·omega
 refine gs ?_;refine aa (db ?_) ?_
 ·omega
 refine gs ?_;refine aa (iQ ?_) ?_
 ·omega
 refine gs ?_;refine aa (dH (by omega) (by omega)) ?_;refine aa (vt (by omega) (by omega)) ?_;refine aa (Ya (b := 1)) ?_;exact ap ⟨(), rfl, ae.to (by assumption)⟩
theorem ZQ (who : Int) (o : Ob) (hE : σ.μ.N < 1099511627000) (ho : σ.obs.length < 1000000) (hg : g.rp.length = σ.obs.length) : Sp dT [vp p, vi who, .agg (#[vi o.flow, vi o.most, vu o.r] : Array Value)] (aC p g σ) (fun _ : PIds => vi σ.obs.length) (fun g' => pu (g.rp <+: g'.rp ∧ g'.rp.length = σ.obs.length + 1) * aC p g' (σ.make who o)) := by
 have hz : ((σ.obs.map fun x => x.1).zip g.rp).length = σ.obs.length := by simp [hg]
 refine aM fun R H h0 => ?_;unfold aC at h0;refine bj (fun r => kL _ _ _ H) ?_;refine bg (l := [vi o.flow, vi o.most, vu o.r]) h0 fun ob H1 h1 => ?_;refine ak h1 ac rfl ?_;refine qz (s := g.ov) h1 ?_;rw [hz];refine ak h1 ac rfl ?_;refine iU ?_;refine ag h1 ((qU g.m σ.μ who (13, σ.obs.length, 0) (by omega)).imp fun _ R H h => i1 (N' := σ.μ.N + 2) (by simp) h) fun _ H2 h2 => ?_;refine bD ac ?_;refine aY h2 rfl ?_;refine aV h2 ?_;refine ak h2 ac rfl ?_;refine ak h2 aK rfl ?_;refine ag h2 (HK g.m σ.obs.length o.most) fun rb H3 h3 => ?_;refine aG h3 h2 rfl ?_;refine d7 h3 h2 rfl ?_;refine iU ?_;refine Nu h3 fun b0 H4 h4 => ?_;refine jp ((o, rb) : Ob × Nat) h4 rfl ?_ (by omega) fun a cc H5 h5 => ?_
 ·unfold dt; omega
 refine bv h5 ac rfl rfl fun H6 h6 => ?_;refine ap ⟨{ g with ov := .slice a (((σ.obs.map fun x => x.1).zip g.rp).length + 1) cc, rp := g.rp ++ [rb] }, rfl, ?_⟩;rw [aj];refine ae.pu.2 ⟨⟨List.prefix_append _ _, by simp [hg]⟩, ?_⟩;unfold aC aL.make;dsimp only
 have e1 : ((σ.obs ++ [(o, List.replicate (dA o.most) w6)]).map fun x => x.1).zip (g.rp ++ [rb]) = ((σ.obs.map fun x => x.1).zip g.rp) ++ [(o, rb)] := by
  rw [EV, List.zip_append (by simp [hg])]
  rfl
 have e2 : (g.rp ++ [rb]).zip ((σ.obs ++ [(o, List.replicate (dA o.most) w6)]).map fun x => x.2) = (g.rp.zip (σ.obs.map fun x => x.2)) ++ [(rb, List.replicate (dA o.most) w6)] := by
  rw [EV, List.zip_append (by simp [hg])]
  rfl
 have e3 : 0 + (g.rp.zip (σ.obs.map fun x => x.2)).length = σ.obs.length := by simp [hg]
 rw [e1, e2, xa, e3];exact h6.to
theorem Ne (S : SOk σ) (hi : (t.i : Int) < σ.c.sl) (hI : k.I = t.i) (hfr : k.free = t.mark) :
 Sp jZ [vp e] (rB e p nx t k * aC p g σ) (fun _ : Unit => .tuple #[vb (aB σ t).found, vb (decide (σ.c.sl ≤ ((t.i + 1 : Nat) : Int)))])
  (fun _ => rB e p nx t { k with I := t.i + 1, free := (aB σ t).mark, at' := t.i, obj := σ.μ.V (10, t.s, (t.i : Int)) % 4294967296 } * aC p g (aS σ t)) := by
 have hc := bx.1 S.c;refine bp (A8 _) fun R H h => ?_;refine ak h ac rfl ?_;refine ak h ac rfl ?_;refine ak h ac rfl ?_;refine ak h ac rfl ?_;refine ak h ac rfl ?_;rw [hI];refine ag h (tq (p := p) (g := g) (σ := σ) (xg g.tb g.m σ.c.sh.toNat σ.c.sl.toNat σ.μ t.who t.s t.i (by have := S.N; omega) (S.V _))) fun _ H1 h1 => ?_;obtain ⟨v, hv⟩ : ∃ v, v = σ.μ.V (10, t.s, (t.i : Int)) := ⟨_, rfl⟩;rw [← hv];have fin : ∀ (y2 y3 fl : Value) (is : Bool) (k1 : Ek) (H' : AH), k1.I = t.i → (is = true → fl = vi ((v / 4294967296 : Nat) - 1)) → (aB σ t).found = (is && decide (((v / 4294967296 : Nat) : Int) - 1 = t.x.flow)) →
  { k1 with I := t.i + 1, at' := t.i, obj := v % 4294967296 } = { k with I := t.i + 1, free := (aB σ t).mark, at' := t.i, obj := v % 4294967296 } →
  ae (rB e p nx t k1 * (aC p g (aS σ t) * R)) H' → wp (ji (vp e) y2 y3 fl (vi ((v % 4294967296 : Nat) : Int)) (vb is) H') fun v' H' => ∃ _x : Unit, v' = .tuple #[vb (aB σ t).found, vb (decide (σ.c.sl ≤ ((t.i + 1 : Nat) : Int)))] ∧
   ae (rB e p nx t { k with I := t.i + 1, free := (aB σ t).mark, at' := t.i, obj := v % 4294967296 } * aC p g (aS σ t) * R) H' := by
  intro y2 y3 fl is k1 H' hi1 hfl hfd hke h';refine ai (uT ..) ?_;refine ak h' ac rfl ?_;rw [hi1];refine bv h' ac rfl rfl fun H2 h2 => ?_;refine bv h2 ac rfl rfl fun H3 h3 => ?_;refine ak h3 ac rfl ?_;rw [hi1];refine aa (bu (by omega) (by omega)) ?_;rw [show ((t.i : Nat) : Int) + 1 = ((t.i + 1 : Nat) : Int) from by omega];refine bv h3 ac rfl rfl fun H4 h4 => ?_
  have h5 : ae (rB e p nx t { k with I := t.i + 1, free := (aB σ t).mark, at' := t.i, obj := v % 4294967296 } * (aC p g (aS σ t) * R)) H4 := by
   rw [← hke];exact h4.to
  have tail : ∀ (b : Bool) (x10 : Value) (H4 : AH), (aB σ t).found = b → ae (rB e p nx t { k with I := t.i + 1, free := (aB σ t).mark, at' := t.i, obj := v % 4294967296 } * (aC p g (aS σ t) * R)) H4 → (∀ H8, ae (rB e p nx t { k with I := t.i + 1, free := (aB σ t).mark, at' := t.i, obj := v % 4294967296 } * (aC p g (aS σ t) * R)) H8 → ar x10 H8 = ar x10 H4) → wp (ad [.n, .f 8] (vp e) fun v14 =>
   (ar v14 H4).bind fun v15 =>
   ld [.n, .f 0] (vp e) H4 fun v16 =>
   ld [.n, .f 2] v16 H4 fun v17 =>
   (FF dE [v17] H4).bind fun r18 =>
   bZ (ar x10 r18.2) (ar x10 H4) <|
   bZ (ar v14 r18.2) (ar v14 H4) <|
   (aq .other .geq v15 r18.1).bind fun v19 =>
   some (Value.tuple #[vb b, v19], r18.2)) fun v' H' => ∃ _x : Unit, v' = .tuple #[vb (aB σ t).found, vb (decide (σ.c.sl ≤ ((t.i + 1 : Nat) : Int)))] ∧
   ae (rB e p nx t { k with I := t.i + 1, free := (aB σ t).mark, at' := t.i, obj := v % 4294967296 } * aC p g (aS σ t) * R) H' := by
   intro b x10 H4 hb h5 hx;refine bD ac ?_;refine aY h5 rfl ?_;refine ak h5 ac rfl ?_;refine ak h5 ac rfl ?_;refine ag h5 (DC (p := p) (g := g) (σ := aS σ t) (xh g.tb g.m σ.c.sh.toNat σ.c.sl.toNat)) fun _ H6 h6 => ?_;refine BE (hx H6 h6.to) ?_;refine aG h6 h5 (by rfl) ?_;refine aa (v := vb (decide (σ.c.sl ≤ ((t.i + 1 : Nat) : Int)))) ?_ ?_
   ·show aq _ .geq (vi ((t.i + 1 : Nat) : Int)) _ = _
    rw [qI]
    congr 3
    apply propext;omega
   exact ap ⟨(), by rw [hb], h6.to⟩
  cases is with
  | false =>
   refine gs ?_;refine QD ?_;refine gs ?_;exact tail false _ H4 (by rw [hfd]; rfl) h5 (fun _ _ => rfl)
  | true =>
   rw [hfl rfl];refine gs ?_;refine nO ?_;refine bD (b8 (aO (aO ba))) ?_;refine gs ?_;refine aY h5 rfl ?_;refine gs ?_
   by_cases hf : ((v / 4294967296 : Nat) : Int) - 1 = t.x.flow
   ·refine aa (bw hf) ?_
    refine gs ?_;exact tail true _ H4 (by rw [hfd, dI hf]; rfl) h5 (fun H8 h8 => Tp h8 h5 rfl)
   ·refine aa (aD hf) ?_
    refine gs ?_;exact tail false _ H4 (by rw [hfd, dQ hf]; rfl) h5 (fun H8 h8 => Tp h8 h5 rfl)
 by_cases hv0 : v = 0
 ·have e1 : gW v = .tuple #[vi 0, vi 0, vb false] := by rw [gW, if_pos hv0]
  rw [e1];refine aa (v := vi 0) rfl ?_;refine aa (v := vi 0) rfl ?_;refine aa (v := vb false) rfl ?_;refine ai (mH ..) ?_;refine gs ?_;rw [Bool.not_false];refine gs ?_;refine ak h1 ac rfl ?_;refine gs ?_
  have hfd : (aB σ t).found = (false && decide (((v / 4294967296 : Nat) : Int) - 1 = t.x.flow)) := by
   show fe (σ.μ.V (10, t.s, (t.i : Int))) t.x.flow = _;rw [← hv, hv0]
   rfl
  have e0 : vi (0 : Int) = vi ((v % 4294967296 : Nat) : Int) := by rw [hv0]; rfl
  by_cases hm : k.free < 0
  ·refine aa (eO hm) ?_
   refine gs ?_;refine ak h1 ac rfl ?_;refine bv h1 ac rfl rfl fun H2 h2 => ?_
   have em : (aB σ t).mark = t.i := by
    show (if σ.μ.V (10, t.s, (t.i : Int)) = 0 ∧ t.mark < 0 then (t.i : Int) else t.mark) = _;rw [if_pos ⟨by rw [← hv, hv0], by rw [← hfr]; exact hm⟩]
   rw [e0];refine fin _ _ _ false { k with free := t.i } H2 hI (fun h => by cases h) hfd (by rw [em]) ?_;rw [← hI];exact h2.to
  ·refine aa (db hm) ?_
   refine gs ?_
   have em : (aB σ t).mark = k.free := by
    show (if σ.μ.V (10, t.s, (t.i : Int)) = 0 ∧ t.mark < 0 then (t.i : Int) else t.mark) = _;rw [if_neg (fun h => hm (by rw [hfr]; exact h.2)), hfr]
   rw [e0];exact fin _ _ _ false k H1 hI (fun h => by cases h) hfd (by rw [em]) h1.to
 ·have e1 : gW v = .tuple #[vi ((v / 4294967296 : Nat) - 1), vi (v % 4294967296 : Nat), vb true] := by rw [gW, if_neg hv0]
  rw [e1];refine aa (v := vi ((v / 4294967296 : Nat) - 1)) rfl ?_;refine aa (v := vi (v % 4294967296 : Nat)) rfl ?_;refine aa (v := vb true) rfl ?_;refine ai (mH ..) ?_;refine gs ?_;rw [Bool.not_true];refine gs ?_
  have hfd : (aB σ t).found = (true && decide (((v / 4294967296 : Nat) : Int) - 1 = t.x.flow)) := by
   show fe (σ.μ.V (10, t.s, (t.i : Int))) t.x.flow = _;rw [← hv];simp [fe, hv0]
  have em : (aB σ t).mark = k.free := by
   show (if σ.μ.V (10, t.s, (t.i : Int)) = 0 ∧ t.mark < 0 then (t.i : Int) else t.mark) = _;rw [if_neg (fun h => hv0 (hv.trans h.1)), hfr]
  exact fin _ _ _ true k H1 hI (fun _ => rfl) hfd (by rw [em]) h1.to
end
theorem rY {rp : List Nat} {t : Tk} {k : Ek} (ha : t.at' < 4) (h : k.I = t.i ∧ k.free = t.mark) : VJ rp t k :=
 ⟨fun _ => h, fun _ => ⟨fun h => by omega, fun h => by omega, fun h => by omega⟩, fun _ => ⟨fun h _ => by omega, fun h => by omega, fun h => by omega, fun h => by omega, fun h => by omega⟩⟩
theorem FX {rp : List Nat} {t : Tk} {k : Ek} (ho : t.x.op = 1) (ha : 4 ≤ t.at') (h4 : t.at' = 4 ∨ t.at' = 5 → k.free = t.mark) (h5 : t.at' = 5 → k.obj = t.obj) (h6 : t.at' = 6 → k.told = t.code) : VJ rp t k :=
 ⟨fun h => by omega, fun _ => ⟨h4, h5, h6⟩, fun h => absurd ho h⟩
theorem rF {rp : List Nat} {t : Tk} {k : Ek} {b : Nat} (ho : t.x.op ≠ 1) (ha : 4 ≤ t.at') (h1 : k.at' = t.i) (h2 : rp[t.obj]? = some b) (h3 : k.rv = vp b) (hq : t.at' = 6 ∨ t.at' = 7 → k.q = t.q) (hn : t.at' = 7 → k.nw = t.mark) (hw : t.at' = 8 → k.w = t.w) (hb : t.at' < 10) (ht : t.at' = 9 → k.told = t.code) : VJ rp t k :=
 ⟨fun h => by omega, fun h => absurd h ho, fun _ => ⟨fun _ _ => ⟨h1, b, h2, h3⟩, hq, hn, hw, fun h => ht (by omega)⟩⟩
theorem QY {rp : List Nat} {t : Tk} {k : Ek} (ho : t.x.op ≠ 1) (ha : t.at' = 10) (h : k.told = t.code) : VJ rp t k :=
 ⟨fun h => by omega, fun h => absurd h ho, fun _ => ⟨fun _ _ => by omega, fun h => by omega, fun h => by omega, fun h => by omega, fun _ => h⟩⟩
section
variable (e p : Nat) (rp : List Nat) (σ : aL) (t : Tk) (now : Int)
theorem Db (S : SOk σ) (T : lE σ t) (ho : t.x.op = 1) (hat : t.at' < 4) : Sp cJ [vp e, vi now] (rT e p rp t * bf p rp σ) (fun _ : List Nat => b7 (eN σ t)) (fun x => rQ e p rp (eN σ t) x) := by
 have hN : σ.μ.N < 1099511627000 := by have := S.N; omega
 refine aM fun R H h => ?_;obtain ⟨k, g, hk, rfl, hl, h0⟩ := hJ h;refine bj (fun r => wy _ _ H) ?_;refine bm h0 fun b1 H1 h1 => ?_;refine ak h1 ac rfl ?_;refine ak h1 ac rfl ?_;refine ak h1 ac rfl ?_;refine ak h1 ac rfl ?_;refine ag h1 (tq (p := p) (g := g) (σ := σ) (tj g.tb g.m σ.c.sh.toNat σ.c.sl.toNat σ.μ t.who t.s hN)) fun _ H2 h2 => ?_
 by_cases hw : σ.μ.V (8, t.s, 0) = 0
 ·rw [dI hw]
  refine gs ?_;rw [Bool.not_true];refine gs ?_;refine gi (e := e) (p := p) (eM e (fy t)) t (k) bO h2 fun H9 h9 => ?_;exact gg (g := g) (σ' := kG σ t) (t' := { t with at' := 3 }) (k := k) (n := bO) (by unfold eN; rw [if_pos hw]) (rY (by simp) (hk.1 hat)) (by simp [fy, aB, ho]) hl (kf _) (show ae (rB e p (eM e bO) t (k) * (aC p g (kG σ t) * R)) H9 from h9.to)
 ·rw [dQ hw]
  refine gs ?_;rw [Bool.not_false];refine gs ?_;refine gi (e := e) (p := p) (eM e (fy t)) t (k) cJ h2 fun H9 h9 => ?_;exact gg (g := g) (σ' := kG σ t) (t' := { t with at' := 2 }) (k := k) (n := cJ) (by unfold eN; rw [if_neg hw]) (rY (by simp) (hk.1 hat)) (by simp [fy, aB, ho]) hl (kf _) (show ae (rB e p (eM e cJ) t (k) * (aC p g (kG σ t) * R)) H9 from h9.to)
theorem HG (S : SOk σ) (T : lE σ t) (ho : t.x.op ≠ 1) (hat : t.at' < 4) : Sp cV [vp e, vi now] (rT e p rp t * bf p rp σ) (fun _ : List Nat => b7 (eN σ t)) (fun x => rQ e p rp (eN σ t) x) := by
 have hN : σ.μ.N < 1099511627000 := by have := S.N; omega
 refine aM fun R H h => ?_;obtain ⟨k, g, hk, rfl, hl, h0⟩ := hJ h;refine bj (fun r => yn _ _ H) ?_;refine bm h0 fun b1 H1 h1 => ?_;refine ak h1 ac rfl ?_;refine ak h1 ac rfl ?_;refine ak h1 ac rfl ?_;refine ak h1 ac rfl ?_;refine ag h1 (tq (p := p) (g := g) (σ := σ) (tj g.tb g.m σ.c.sh.toNat σ.c.sl.toNat σ.μ t.who t.s hN)) fun _ H2 h2 => ?_
 by_cases hw : σ.μ.V (8, t.s, 0) = 0
 ·rw [dI hw]
  refine gs ?_;rw [Bool.not_true];refine gs ?_;refine gi (e := e) (p := p) (eM e (fy t)) t (k) cg h2 fun H9 h9 => ?_;exact gg (g := g) (σ' := kG σ t) (t' := { t with at' := 3 }) (k := k) (n := cg) (by unfold eN; rw [if_pos hw]) (rY (by simp) (hk.1 hat)) (by simp [fy, aB, ho]) hl (kf _) (show ae (rB e p (eM e cg) t (k) * (aC p g (kG σ t) * R)) H9 from h9.to)
 ·rw [dQ hw]
  refine gs ?_;rw [Bool.not_false];refine gs ?_;refine gi (e := e) (p := p) (eM e (fy t)) t (k) cV h2 fun H9 h9 => ?_;exact gg (g := g) (σ' := kG σ t) (t' := { t with at' := 2 }) (k := k) (n := cV) (by unfold eN; rw [if_neg hw]) (rY (by simp) (hk.1 hat)) (by simp [fy, aB, ho]) hl (kf _) (show ae (rB e p (eM e cV) t (k) * (aC p g (kG σ t) * R)) H9 from h9.to)
theorem w8 (g : PIds) (k : Ek) (nx : Value) : Sp gb [vp e] (rB e p nx t k) (fun _ : Unit => vb (decide (ol t.x))) (fun _ => rB e p nx t k) := by
 refine bp (te _) fun R H h => ?_;refine ak h (b8 (aO (aO ba))) rfl ?_
 by_cases hf : t.x.flow < 0
 ·rw [show decide (ol t.x) = true from dI (.inl hf)]
  refine aa (eO hf) ?_;refine gs ?_;exact ap ⟨(), rfl, h⟩
 ·refine aa (db hf) ?_
  refine gs ?_;refine ak h (b8 (aO (aO ba))) rfl ?_;refine gs ?_
  by_cases hf2 : 1048576 < t.x.flow
  ·rw [show decide (ol t.x) = true from dI (.inr hf2)]
   refine aa (pK hf2) ?_;refine gs ?_;exact ap ⟨(), rfl, h⟩
  ·rw [show decide (ol t.x) = false from dQ (fun h => h.elim hf hf2)]
   refine aa (iQ hf2) ?_;refine gs ?_;exact ap ⟨(), rfl, h⟩
theorem Kj (g : PIds) (k : Ek) (nx : Value) (code : Int) (hp : σ.pts.length < 1000000) (hl : g.rp.length = σ.obs.length) : Sp dj [vp e, vi now, vi code] (rB e p nx t k * aC p g σ) (fun _ : Unit => .tuple #[.agg (dX code).toArray, vb true]) (fun _ => ex fun g' : PIds => pu (g'.rp = g.rp) * aC p g' (σ.note now t.who code)) := by
 refine bp (uU _ _ _) fun R H h => ?_;refine bm h fun b H1 h1 => ?_;refine ag h1 (me e p g σ t k nx now code hp hl) fun g' H2 h2 => ?_;rw [aj, ae.pu] at h2;obtain ⟨hg', h2⟩ := h2;refine iU ?_;refine eG h2 rfl rfl fun H4 h4 => ?_;refine aV h4 ?_;refine ap ⟨(), rfl, ae.ex.2 ⟨g', ?_⟩⟩;rw [aj];exact ae.pu.2 ⟨hg', h4.to⟩
theorem lB {R : SP} {H : AH} {g : PIds} {k : Ek} {nx : Value} {b : Nat} (code : Int) (S : SOk σ) (hl : g.rp.length = σ.obs.length) (hx : hM t.x = some code) (h : ae (rB e p nx t k * (aC p g σ * (blk b (.cells false [vi 0, .slice none 0 0, vi 0, vw 0]) * R))) H) (hat : t.at' = 0) :
 wp ((FF dj [vp e, vi now, vi code] H).bind fun r2 => (af r2.1 0).bind fun v3 => (af r2.1 1).bind fun v4 => (cD 4 (vp b) v3 r2.2).bind fun H5 => (aA 4 (vp b) H5).bind fun v6 => some (Value.tuple #[v6, v4], H5)) fun v' H' => ∃ x : List Nat, v' = b7 (aw σ t now) ∧ ae (rQ e p g.rp (aw σ t now) x * R) H' := by
 refine mg h (Kj e p σ t now g k nx code (by have := S.pts; omega) hl) fun H9 h9 => ?_;obtain ⟨g', h1⟩ := ae.ex.1 h9;rw [aj, ae.pu] at h1
 have hs : aw σ t now = (σ.note now t.who code, { t with code := code }, true) := by simp only [aw, hat, hx]
 have := Uf (e := e) (p := p) (rp := g.rp) (g := g') (r := aw σ t now) (σ' := σ.note now t.who code) (t' := { t with code := code }) (R := R) (H := H9) hs rfl (by rw [h1.1]; exact hl) (by rw [h1.1]; exact kf _) h1.2.to;exact this
theorem md {x : Cl} (ho : x.op = 1) : hM x = if ol x then some 1 else if x.a < 1 ∨ 65536 < x.a then some 4 else if x.b < 1 ∨ 8 < x.b then some 1 else none := if_pos ho
theorem A6 {x : Cl} (ho : x.op ≠ 1) : hM x = if ol x then some 5 else none := if_neg ho
theorem uQ {k : Ek} {g : PIds} {R : SP} {H : AH} (hk : VJ g.rp t k) (hl : g.rp.length = σ.obs.length) (h : ae (rB e p (eM e (fy t)) t k * (aC p g σ * R)) H) : ae (rT e p g.rp t * bf p g.rp σ * R) H := by
 have h1 := bJ (p := p) (rp := g.rp) (σ := σ) (R := rB e p (eM e (fy t)) t k * R) g rfl hl h.to;unfold rT;rw [aj];refine ae.ex.2 ⟨k, ?_⟩;rw [aj];exact ae.pu.2 ⟨hk, h1.to⟩
theorem FN {e p : Nat} {rp : List Nat} {r : aL × Tk × Bool} {P0 R : SP} {H : AH} {b fn : Nat} {args : List Value} (h : ae (P0 * (blk b (.cells false [vi 0, .slice none 0 0, vi 0, vw 0]) * R)) H)
 (s : Sp fn args P0 (fun _ : List Nat => b7 r) (fun x => rQ e p rp r x)) :
 wp ((FF fn args H).bind fun r2 => (af r2.1 0).bind fun v3 => (af r2.1 1).bind fun v4 => (cD 4 (vp b) v3 r2.2).bind fun H5 => (aA 4 (vp b) H5).bind fun v6 => some (Value.tuple #[v6, v4], H5)) fun v' H' => ∃ x : List Nat, v' = b7 r ∧ ae (rQ e p rp r x * R) H' := by
 refine ag h s fun y H2 h2 => ?_;refine aa (v := .agg (dX (if r.2.2 = true then r.2.1.code else 0)).toArray) rfl ?_;refine aa (v := vb r.2.2) rfl ?_;refine eG h2 rfl rfl fun H3 h3 => ?_;refine aV h3 ?_;exact ap ⟨y, rfl, h3.to⟩
theorem Uq (S : SOk σ) (T : lE σ t) (ho : t.x.op = 1) (hat : t.at' = 0) : Sp fp [vp e, vi now] (rT e p rp t * bf p rp σ) (fun _ : List Nat => b7 (aw σ t now)) (fun x => rQ e p rp (aw σ t now) x) := by
 refine aM fun R H h => ?_;obtain ⟨k, g, hk, rfl, hl, h0⟩ := hJ h;refine bj (fun r => yl _ _ H) ?_;refine bm h0 fun b1 H1 h1 => ?_;refine ai (s9 ..) ?_;refine ag h1 (w8 e p t g k (eM e (fy t))) fun _ H2 h2 => ?_
 by_cases hf : ol t.x
 ·rw [dI hf]
  refine gs ?_;exact lB e p σ t now (k := k) (nx := eM e (fy t)) 1 S hl (by rw [md ho, if_pos hf]) h2.to hat
 rw [dQ hf];refine gs ?_;refine ak h2 (b8 (aO (aO ba))) rfl ?_
 have bad : (t.x.a < 1 ∨ 65536 < t.x.a) → hM t.x = some 4 := fun h => by rw [md ho, if_neg hf, if_pos h]
 by_cases ha : t.x.a < 1
 ·refine aa (eO ha) ?_
  refine gs ?_;exact lB e p σ t now (k := k) (nx := eM e (fy t)) 4 S hl (bad (.inl ha)) h2.to hat
 refine aa (db ha) ?_;refine gs ?_;refine ak h2 (b8 (aO (aO ba))) rfl ?_;refine gs ?_
 by_cases ha2 : 65536 < t.x.a
 ·refine aa (pK ha2) ?_
  refine gs ?_;exact lB e p σ t now (k := k) (nx := eM e (fy t)) 4 S hl (bad (.inr ha2)) h2.to hat
 refine aa (iQ ha2) ?_;refine gs ?_;refine ak h2 (b8 (aO (aO ba))) rfl ?_
 have bad2 : (t.x.b < 1 ∨ 8 < t.x.b) → hM t.x = some 1 := fun h => by rw [md ho, if_neg hf, if_neg (by omega), if_pos h]
 by_cases hb : t.x.b < 1
 ·refine aa (eO hb) ?_
  refine gs ?_;exact lB e p σ t now (k := k) (nx := eM e (fy t)) 1 S hl (bad2 (.inl hb)) h2.to hat
 refine aa (db hb) ?_;refine gs ?_;refine ak h2 (b8 (aO (aO ba))) rfl ?_;refine gs ?_
 by_cases hb2 : 8 < t.x.b
 ·refine aa (pK hb2) ?_
  refine gs ?_;exact lB e p σ t now (k := k) (nx := eM e (fy t)) 1 S hl (bad2 (.inr hb2)) h2.to hat
 refine aa (iQ hb2) ?_;refine gs ?_;refine ai (ta ..) ?_
 have hx : hM t.x = none := by rw [md ho, if_neg hf, if_neg (by omega), if_neg (by omega)]
 have hs : aw σ t now = eN σ t := by simp only [aw, hat, hx]
 have h3 : ae (rT e p g.rp t * bf p g.rp σ * (blk b1 (.cells false [vi 0, .slice none 0 0, vi 0, vw 0]) * R)) H2 := uQ e p σ t hk hl h2.to;rw [hs];exact FN h3 (Db e p g.rp σ t now S T ho (by omega))
theorem Qc (S : SOk σ) (T : lE σ t) (ho : t.x.op ≠ 1) (hat : t.at' = 0) : Sp eg [vp e, vi now] (rT e p rp t * bf p rp σ) (fun _ : List Nat => b7 (aw σ t now)) (fun x => rQ e p rp (aw σ t now) x) := by
 refine aM fun R H h => ?_;obtain ⟨k, g, hk, rfl, hl, h0⟩ := hJ h;refine bj (fun r => wz _ _ H) ?_;refine bm h0 fun b1 H1 h1 => ?_;refine ag h1 (w8 e p t g k (eM e (fy t))) fun _ H2 h2 => ?_
 by_cases hf : ol t.x
 ·rw [dI hf]
  refine gs ?_;exact lB e p σ t now (k := k) (nx := eM e (fy t)) 5 S hl (by rw [A6 ho, if_pos hf]) h2.to hat
 rw [dQ hf];refine gs ?_
 have hx : hM t.x = none := by rw [A6 ho, if_neg hf]
 have hs : aw σ t now = eN σ t := by simp only [aw, hat, hx]
 have h3 : ae (rT e p g.rp t * bf p g.rp σ * (blk b1 (.cells false [vi 0, .slice none 0 0, vi 0, vw 0]) * R)) H2 := uQ e p σ t hk hl h2.to;rw [hs];exact FN h3 (HG e p g.rp σ t now S T ho (by omega))
theorem Kk (S : SOk σ) (T : lE σ t) (ho : t.x.op = 1) (hat : t.at' = 3) : Sp bO [vp e, vi now] (rT e p rp t * bf p rp σ) (fun _ : List Nat => b7 (aw σ t now)) (fun x => rQ e p rp (aw σ t now) x) := by
 have hN : σ.μ.N < 1099511627000 := by have := S.N; omega
 refine aM fun R H h => ?_;obtain ⟨k, g, hk, rfl, hl, h0⟩ := hJ h;refine bj (fun r => uV _ _ H) ?_;refine bm h0 fun b1 H1 h1 => ?_;have hi := T.i (by omega);obtain ⟨hI, hfr⟩ := hk.1 (by omega);refine ag h1 (Ne e p g σ t k (eM e (fy t)) S hi hI hfr) fun _ H2 h2 => ?_;obtain ⟨k2, hk2⟩ : ∃ k2 : Ek, k2 = { k with I := t.i + 1, free := (aB σ t).mark, at' := t.i, obj := σ.μ.V (10, t.s, (t.i : Int)) % 4294967296 } := ⟨_, rfl⟩;rw [← hk2] at h2;refine aa (v := vb (aB σ t).found) rfl ?_;refine aa (v := vb (decide (σ.c.sl ≤ ((t.i + 1 : Nat) : Int)))) rfl ?_;refine ai (ql ..) ?_
 cases hfd : (aB σ t).found with
 | true =>
  refine gs ?_;refine ag h2 (me e p g (aS σ t) t k2 (eM e (fy t)) now 6 (by have := S.pts; show σ.pts.length < _; omega) hl) fun g' H3 h3 => ?_;rw [aj, ae.pu] at h3;obtain ⟨hg', h3⟩ := h3;refine gi (e := e) (p := p) (eM e (fy t)) t ({ k2 with told := 6 }) aN h3 fun H9 h9 => ?_;exact gg (g := g') (σ' := (aS σ t).note now t.who 6) (t' := { aB σ t with at' := 6, code := 6 }) (k := { k2 with told := 6 }) (n := aN) (by simp only [aw, hat]; rw [if_pos hfd, if_pos ho]) (FX ho (by simp) (by simp) (by simp) (by simp)) (by simp [fy, aB, ho]) (by rw [hg']; exact hl) (by rw [hg']; exact kf _) (show ae (rB e p (eM e aN) t ({ k2 with told := 6 }) * (aC p g' ((aS σ t).note now t.who 6) * R)) H9 from h9.to)
 | false =>
  refine gs ?_
  have hli : (aB σ t).i = t.i + 1 := by
   show (if (aB σ t).found = true then t.i else t.i + 1) = _;rw [if_neg (by rw [hfd]; simp)]
  have hla : bQ σ (aB σ t) = decide (σ.c.sl ≤ ((t.i + 1 : Nat) : Int)) := by unfold bQ; rw [hli]
  have nf : ¬ (aB σ t).found = true := by rw [hfd]; simp
  by_cases hL : σ.c.sl ≤ ((t.i + 1 : Nat) : Int)
  ·have hla' : bQ σ (aB σ t) = true := hla.trans (dI hL)
   rw [dI hL];refine gs ?_;refine ak h2 ac (show _ = some (vi (aB σ t).mark) from by rw [hk2]; rfl) ?_;refine gs ?_
   by_cases hm : (aB σ t).mark < 0
   ·refine aa (eO hm) ?_
    refine gs ?_;refine ag h2 (me e p g (aS σ t) t k2 (eM e (fy t)) now 7 (by have := S.pts; show σ.pts.length < _; omega) hl) fun g' H3 h3 => ?_;rw [aj, ae.pu] at h3;obtain ⟨hg', h3⟩ := h3;refine gi (e := e) (p := p) (eM e (fy t)) t ({ k2 with told := 7 }) aN h3 fun H9 h9 => ?_;exact gg (g := g') (σ' := (aS σ t).note now t.who 7) (t' := { aB σ t with at' := 6, code := 7 }) (k := { k2 with told := 7 }) (n := aN) (by simp only [aw, hat]; rw [if_neg nf, if_pos hla', if_pos ho, if_pos hm]) (FX ho (by simp) (by simp) (by simp) (by simp)) (by simp [fy, aB, ho]) (by rw [hg']; exact hl) (by rw [hg']; exact kf _) (show ae (rB e p (eM e aN) t ({ k2 with told := 7 }) * (aC p g' ((aS σ t).note now t.who 7) * R)) H9 from h9.to)
   ·refine aa (db hm) ?_
    refine gs ?_;refine gi (e := e) (p := p) (eM e (fy t)) t (k2) dq h2 fun H9 h9 => ?_;exact gg (g := g) (σ' := aS σ t) (t' := { aB σ t with at' := 4 }) (k := k2) (n := dq) (by simp only [aw, hat]; rw [if_neg nf, if_pos hla', if_pos ho, if_neg hm]) (FX ho (by simp) (fun _ => by rw [hk2]) (by simp) (by simp)) (by simp [fy, aB, ho]) hl (kf _) (show ae (rB e p (eM e dq) t (k2) * (aC p g (aS σ t) * R)) H9 from h9.to)
  ·have hla' : ¬ bQ σ (aB σ t) = true := by rw [hla, dQ hL]; simp
   rw [dQ hL];refine gs ?_;refine ai (qm ..) ?_;refine gi (e := e) (p := p) (eM e (fy t)) t (k2) bO h2 fun H9 h9 => ?_;exact gg (g := g) (σ' := aS σ t) (t' := aB σ t) (k := k2) (n := bO) (by simp only [aw, hat]; rw [if_neg nf, if_neg hla']) (rY (by show t.at' < 4; omega) ⟨by rw [hk2, hli], by rw [hk2]⟩) (by show fy (aB σ t) = _; unfold fy; rw [if_pos (show (aB σ t).x.op = 1 from ho), show (aB σ t).at' = 3 from hat]; rfl) hl (kf _) (show ae (rB e p (eM e bO) t (k2) * (aC p g (aS σ t) * R)) H9 from h9.to)
theorem Ur (S : SOk σ) (T : lE σ t) (ho : t.x.op ≠ 1) (hat : t.at' = 3) : Sp cg [vp e, vi now] (rT e p rp t * bf p rp σ) (fun _ : List Nat => b7 (aw σ t now)) (fun x => rQ e p rp (aw σ t now) x) := by
 have hN : σ.μ.N < 1099511627000 := by have := S.N; omega
 refine aM fun R H h => ?_;obtain ⟨k, g, hk, rfl, hl, h0⟩ := hJ h;refine bj (fun r => ym _ _ H) ?_;refine bm h0 fun b1 H1 h1 => ?_;have hi := T.i (by omega);obtain ⟨hI, hfr⟩ := hk.1 (by omega);refine ag h1 (Ne e p g σ t k (eM e (fy t)) S hi hI hfr) fun _ H2 h2 => ?_;obtain ⟨k2, hk2⟩ : ∃ k2 : Ek, k2 = { k with I := t.i + 1, free := (aB σ t).mark, at' := t.i, obj := σ.μ.V (10, t.s, (t.i : Int)) % 4294967296 } := ⟨_, rfl⟩;rw [← hk2] at h2;refine aa (v := vb (aB σ t).found) rfl ?_;refine aa (v := vb (decide (σ.c.sl ≤ ((t.i + 1 : Nat) : Int)))) rfl ?_;refine ai (tc ..) ?_
 cases hfd : (aB σ t).found with
 | true =>
  refine gs ?_
  have hob : (aB σ t).obj = σ.μ.V (10, t.s, (t.i : Int)) % 4294967296 := by
   show (if (aB σ t).found = true then σ.μ.V (10, t.s, (t.i : Int)) % 4294967296 else t.obj) = _;rw [if_pos hfd]
  have hi2 : (aB σ t).i = t.i := by
   show (if (aB σ t).found = true then t.i else t.i + 1) = _;rw [if_pos hfd]
  have ho2 : (aB σ t).obj < σ.obs.length := by
   rw [hob];refine S.slot t.s t.i fun h0 => ?_;have : fe (σ.μ.V (10, t.s, (t.i : Int))) t.x.flow = true := hfd;rw [h0] at this;cases this
  obtain ⟨b, hb⟩ : ∃ b, g.rp[(aB σ t).obj]? = some b := ⟨_, cM (by omega)⟩;refine ak h2 ac rfl ?_;refine ak h2 ac (show _ = some (vi ((aB σ t).obj : Int)) from by rw [hk2, hob]; rfl) ?_;refine ag h2 (kj p g (aS σ t) hl (aB σ t).obj b ho2 hb) fun _ H3 h3 => ?_;refine bv h3 ac rfl rfl fun H4 h4 => ?_;refine gi (e := e) (p := p) (eM e (fy t)) t ({ k2 with rv := vp b }) bo h4 fun H9 h9 => ?_;exact gg (g := g) (σ' := aS σ t) (t' := { aB σ t with at' := 4 }) (k := { k2 with rv := vp b }) (n := bo) (by simp only [aw, hat]; rw [if_pos hfd, if_neg ho]) (rF (b := b) ho (by simp) (show k2.at' = ((aB σ t).i : Int) from by rw [hk2, hi2]) hb rfl (by simp) (by simp) (by simp) (by simp) (by simp)) (by simp [fy, aB, ho]) hl (kf _) (show ae (rB e p (eM e bo) t ({ k2 with rv := vp b }) * (aC p g (aS σ t) * R)) H9 from h9.to)
 | false =>
  refine gs ?_
  have hli : (aB σ t).i = t.i + 1 := by
   show (if (aB σ t).found = true then t.i else t.i + 1) = _;rw [if_neg (by rw [hfd]; simp)]
  have hla : bQ σ (aB σ t) = decide (σ.c.sl ≤ ((t.i + 1 : Nat) : Int)) := by unfold bQ; rw [hli]
  have nf : ¬ (aB σ t).found = true := by rw [hfd]; simp
  by_cases hL : σ.c.sl ≤ ((t.i + 1 : Nat) : Int)
  ·have hla' : bQ σ (aB σ t) = true := hla.trans (dI hL)
   rw [dI hL];refine gs ?_;refine ag h2 (me e p g (aS σ t) t k2 (eM e (fy t)) now 5 (by have := S.pts; show σ.pts.length < _; omega) hl) fun g' H3 h3 => ?_;rw [aj, ae.pu] at h3;obtain ⟨hg', h3⟩ := h3;refine gi (e := e) (p := p) (eM e (fy t)) t ({ k2 with told := 5 }) aN h3 fun H9 h9 => ?_;exact gg (g := g') (σ' := (aS σ t).note now t.who 5) (t' := { aB σ t with at' := 10, code := 5 }) (k := { k2 with told := 5 }) (n := aN) (by simp only [aw, hat]; rw [if_neg nf, if_pos hla', if_neg ho]) (QY ho rfl rfl) (by simp [fy, aB, ho]) (by rw [hg']; exact hl) (by rw [hg']; exact kf _) (show ae (rB e p (eM e aN) t ({ k2 with told := 5 }) * (aC p g' ((aS σ t).note now t.who 5) * R)) H9 from h9.to)
  ·have hla' : ¬ bQ σ (aB σ t) = true := by rw [hla, dQ hL]; simp
   rw [dQ hL];refine gs ?_;refine ai (td ..) ?_;refine gi (e := e) (p := p) (eM e (fy t)) t (k2) cg h2 fun H9 h9 => ?_;exact gg (g := g) (σ' := aS σ t) (t' := aB σ t) (k := k2) (n := cg) (by simp only [aw, hat]; rw [if_neg nf, if_neg hla']) (rY (by show t.at' < 4; omega) ⟨by rw [hk2, hli], by rw [hk2]⟩) (by show fy (aB σ t) = _; unfold fy; rw [if_neg (show ¬ (aB σ t).x.op = 1 from ho), show (aB σ t).at' = 3 from hat]; rfl) hl (kf _) (show ae (rB e p (eM e cg) t (k2) * (aC p g (aS σ t) * R)) H9 from h9.to)
theorem kY (ho : t.x.op = 1) (ha : 4 ≤ t.at') : aw σ t now = uS σ t now := by
 unfold aw
 split
 ·omega
 ·omega
 ·omega
 ·rw [if_pos ho]
theorem bM (ho : t.x.op ≠ 1) (ha : 4 ≤ t.at') : aw σ t now = d6 σ t now := by
 unfold aw
 split
 ·omega
 ·omega
 ·omega
 ·rw [if_neg ho]
theorem uR {x : Cl} (h : hM x = none) : (0 ≤ x.flow ∧ x.flow ≤ 1048576) ∧ (x.op = 1 → (1 ≤ x.a ∧ x.a ≤ 65536) ∧ 1 ≤ x.b ∧ x.b ≤ 8) := by
 by_cases ho : x.op = 1
 ·rw [md ho] at h
  by_cases hf : ol x
  ·rw [if_pos hf] at h; cases h
  rw [if_neg hf] at h
  by_cases ha : x.a < 1 ∨ 65536 < x.a
  ·rw [if_pos ha] at h; cases h
  rw [if_neg ha] at h
  by_cases hb : x.b < 1 ∨ 8 < x.b
  ·rw [if_pos hb] at h; cases h
  unfold ol at hf;omega
 ·rw [A6 ho] at h
  by_cases hf : ol x
  ·rw [if_pos hf] at h; cases h
  unfold ol at hf;omega
theorem Us (S : SOk σ) (T : lE σ t) (ho : t.x.op = 1) (hat : t.at' = 4) : Sp dq [vp e, vi now] (rT e p rp t * bf p rp σ) (fun _ : List Nat => b7 (aw σ t now)) (fun x => rQ e p rp (aw σ t now) x) := by
 have hN : σ.μ.N < 1099511627000 := by have := S.N; omega
 refine aM fun R H h => ?_;obtain ⟨k, g, hk, rfl, hl, h0⟩ := hJ h;refine bj (fun r => yo _ _ H) ?_;refine bm h0 fun b1 H1 h1 => ?_;have hx := uR (T.x (by omega));have hc := bx.1 S.c
 have hst : aw σ t now = (σ.make t.who (TN σ t), { t with obj := σ.obs.length, at' := 5 }, false) := by rw [kY σ t now ho (by omega)]; simp only [uS, hat]
 refine ak h1 ac rfl ?_;refine ak h1 (b8 (aO (aO ba))) rfl ?_;refine ak h1 (b8 (aO (aO ba))) rfl ?_;refine ag h1 (HZ σ.c.un t.x.a (by omega) (hx.2 ho).1) fun _ H2 h2 => ?_;refine aa (v := vu (max (σ.c.un / t.x.a.toNat) 1)) rfl ?_;refine aa (v := vb true) rfl ?_;refine ak h2 ac rfl ?_;refine ak h2 ac rfl ?_;refine ak h2 (b8 (aO (aO ba))) rfl ?_;refine ak h2 (b8 (aO (aO ba))) rfl ?_;refine iU ?_;refine ag h2 (ZQ p g σ t.who (TN σ t) hN (by have := S.obs; omega) hl) fun g' H3 h3 => ?_;rw [aj, ae.pu] at h3;obtain ⟨⟨hpre, hl'⟩, h3⟩ := h3;refine bv h3 ac rfl rfl fun H4 h4 => ?_;refine gi (e := e) (p := p) (eM e (fy t)) ({ t with obj := σ.obs.length, at' := 5 }) ({ k with obj := σ.obs.length }) eL h4 fun H9 h9 => ?_;exact gg (g := g') (σ' := σ.make t.who (TN σ t)) (t' := { t with obj := σ.obs.length, at' := 5 }) (k := { k with obj := σ.obs.length }) (n := eL) hst (FX ho (by simp) (fun _ => (hk.2.1 ho).1 (.inl hat)) (by simp) (by simp)) (by simp [fy, aB, ho]) (by rw [hl']; simp) hpre h9.to
theorem W8 (S : SOk σ) (T : lE σ t) (ho : t.x.op = 1) (hat : t.at' = 5) : Sp eL [vp e, vi now] (rT e p rp t * bf p rp σ) (fun _ : List Nat => b7 (aw σ t now)) (fun x => rQ e p rp (aw σ t now) x) := by
 have hN : σ.μ.N < 1099511627000 := by have := S.N; omega
 refine aM fun R H h => ?_;obtain ⟨k, g, hk, rfl, hl, h0⟩ := hJ h;refine bj (fun r => Ba _ _ H) ?_;refine bm h0 fun b1 H1 h1 => ?_;have hx := uR (T.x (by omega));have hob := T.obj (.inl ⟨hat, ho⟩);have hso := S.obs;have hfm := (hk.2.1 ho).1 (.inr hat);have hko := (hk.2.1 ho).2.1 hat
 have hst : aw σ t now = ((σ.mem ((σ.μ.acc t.who 2 (10, t.s, t.mark)).put (10, t.s, t.mark) (cq t.x.flow t.obj))).note now t.who 0, { t with at' := 6, code := 0 }, false) := by rw [kY σ t now ho (by omega)]; simp only [uS, hat]
 refine ak h1 ac rfl ?_;refine ak h1 ac rfl ?_;refine ak h1 ac rfl ?_;refine ak h1 ac rfl ?_;refine ak h1 ac rfl ?_;refine ak h1 (b8 (aO (aO ba))) rfl ?_;refine ak h1 ac rfl ?_;rw [hfm, hko];refine ag h1 (tq (p := p) (g := g) (σ := σ) (Dt g.tb g.m σ.c.sh.toNat σ.c.sl.toNat σ.μ t.who t.s t.mark t.x.flow t.obj hN hx.1 (by omega))) fun _ H2 h2 => ?_;refine ag h2 (me e p g (σ.mem ((σ.μ.acc t.who 2 (10, t.s, t.mark)).put (10, t.s, t.mark) (cq t.x.flow t.obj))) t k (eM e (fy t)) now 0 (by have := S.pts; show σ.pts.length < _; omega) hl) fun g' H3 h3 => ?_;rw [aj, ae.pu] at h3;obtain ⟨hg', h3⟩ := h3;refine gi (e := e) (p := p) (eM e (fy t)) ({ t with at' := 6, code := 0 }) ({ k with told := 0 }) aN h3 fun H9 h9 => ?_;exact gg (g := g') (σ' := (σ.mem ((σ.μ.acc t.who 2 (10, t.s, t.mark)).put (10, t.s, t.mark) (cq t.x.flow t.obj))).note now t.who 0) (t' := { t with at' := 6, code := 0 }) (k := { k with told := 0 }) (n := aN) hst (FX ho (by simp) (by simp) (by simp) (by simp)) (by simp [fy, aB, ho]) (by rw [hg']; exact hl) (by rw [hg']; exact kf _) h9.to
theorem Nf (S : SOk σ) (T : lE σ t) (hat : t.at' = if t.x.op = 1 then 6 else 10) : Sp aN [vp e, vi now] (rT e p rp t * bf p rp σ) (fun _ : List Nat => b7 (aw σ t now)) (fun x => rQ e p rp (aw σ t now) x) := by
 have hN : σ.μ.N < 1099511627000 := by have := S.N; omega
 refine aM fun R H h => ?_;obtain ⟨k, g, hk, rfl, hl, h0⟩ := hJ h;refine bj (fun r => A9 _ _ H) ?_;refine bm h0 fun b1 H1 h1 => ?_
 have hst : aw σ t now = (iz σ t, t, true) := by
  by_cases ho : t.x.op = 1
  ·rw [if_pos ho] at hat
   rw [kY σ t now ho (by omega)]; simp only [uS, hat]
  ·rw [if_neg ho] at hat
   rw [bM σ t now ho (by omega)]; simp only [d6, hat]
 have hto : k.told = t.code := by
  by_cases ho : t.x.op = 1
  ·rw [if_pos ho] at hat
   exact (hk.2.1 ho).2.2 hat
  ·rw [if_neg ho] at hat
   exact (hk.2.2 ho).2.2.2.2 (.inr hat)
 refine ak h1 ac rfl ?_;refine ak h1 ac rfl ?_;refine ak h1 ac rfl ?_;refine ak h1 ac rfl ?_;refine ag h1 (tq (p := p) (g := g) (σ := σ) (vf g.tb g.m σ.c.sh.toNat σ.c.sl.toNat σ.μ t.who t.s hN)) fun _ H2 h2 => ?_;refine ak h2 ac rfl ?_;rw [hto];refine iU ?_;refine eG h2 rfl rfl fun H3 h3 => ?_;refine aV h3 ?_;exact ap (Uf (g := g) (σ' := iz σ t) (t' := t) hst rfl hl (kf _) h3.to)
theorem Ng (g : PIds) (k : Ek) (nx : Value) (S : SOk σ) (hl : g.rp.length = σ.obs.length) (b : Nat) (hob : t.obj < σ.obs.length) (hb : g.rp[t.obj]? = some b) (hrv : k.rv = vp b) :
 Sp j0 [vp e] (rB e p nx t k * aC p g σ) (fun _ : Unit => vb (decide (aR (σ.μ.V (11, (t.obj : Int), 0)) = 0))) (fun _ => rB e p nx t { k with w := σ.μ.V (11, (t.obj : Int), 0) } * aC p g (da σ t)) := by
 have hN : σ.μ.N < 1099511627000 := by have := S.N; omega
 refine bp (Bc _) fun R H h => ?_;refine ak (v := vp b) h ac (by rw [← hrv]; rfl) ?_;refine ak h ac rfl ?_;refine ag h (gD (p := p) hl hob hb (wD g.m t.obj b (au σ t.obj) σ.μ t.who hN)) fun _ H2 h2 => ?_;refine bv h2 ac rfl rfl fun H3 h3 => ?_;refine ak h3 ac rfl ?_;refine ag h3 (jS _ (S.V _)) fun _ H4 h4 => ?_
 by_cases hw : aR (σ.μ.V (11, (t.obj : Int), 0)) = 0
 ·rw [dI hw]
  refine aa (bw hw) ?_;exact ap ⟨(), rfl, h4.to⟩
 ·rw [dQ hw]
  refine aa (aD hw) ?_;exact ap ⟨(), rfl, h4.to⟩
theorem Uw (S : SOk σ) (T : lE σ t) (ho : t.x.op ≠ 1) (hat : t.at' = 4) : Sp bo [vp e, vi now] (rT e p rp t * bf p rp σ) (fun _ : List Nat => b7 (aw σ t now)) (fun x => rQ e p rp (aw σ t now) x) := by
 have hN : σ.μ.N < 1099511627000 := by have := S.N; omega
 refine aM fun R H h => ?_;obtain ⟨k, g, hk, rfl, hl, h0⟩ := hJ h;obtain ⟨hki, b, hb, hrv⟩ := (hk.2.2 ho).1 (by omega) (by omega);have hob := T.obj (.inr ⟨by omega, by omega, ho⟩);refine bj (fun r => yr _ _ H) ?_;refine bm h0 fun b1 H1 h1 => ?_;refine ag h1 (Ng e p σ t g k (eM e (fy t)) S hl b hob hb hrv) fun _ H2 h2 => ?_
 by_cases hw : aR (σ.μ.V (11, (t.obj : Int), 0)) = 0
 ·rw [dI hw]
  refine gs ?_;refine gi (e := e) (p := p) (eM e (fy t)) t ({ k with w := σ.μ.V (11, (t.obj : Int), 0) }) ch h2 fun H9 h9 => ?_;exact gg (g := g) (σ' := da σ t) (t' := { t with w := σ.μ.V (11, (t.obj : Int), 0), at' := 8 }) (k := { k with w := σ.μ.V (11, (t.obj : Int), 0) }) (n := ch) (by rw [bM σ t now ho (by omega)]; simp only [d6, hat]; rw [if_pos hw]) (rF (b := b) ho (by simp) hki hb hrv (by simp) (by simp) (fun _ => rfl) (by simp) (by simp)) (by simp [fy, aB, ho]) hl (kf _) (show ae (rB e p (eM e ch) t ({ k with w := σ.μ.V (11, (t.obj : Int), 0) }) * (aC p g (da σ t) * R)) H9 from h9.to)
 ·rw [dQ hw]
  refine gs ?_;refine gi (e := e) (p := p) (eM e (fy t)) t ({ k with w := σ.μ.V (11, (t.obj : Int), 0) }) dP h2 fun H9 h9 => ?_;exact gg (g := g) (σ' := da σ t) (t' := { t with w := σ.μ.V (11, (t.obj : Int), 0), at' := 5 }) (k := { k with w := σ.μ.V (11, (t.obj : Int), 0) }) (n := dP) (by rw [bM σ t now ho (by omega)]; simp only [d6, hat]; rw [if_neg hw]) (rF (b := b) ho (by simp) hki hb hrv (by simp) (by simp) (by simp) (by simp) (by simp)) (by simp [fy, aB, ho]) hl (kf _) (show ae (rB e p (eM e dP) t ({ k with w := σ.μ.V (11, (t.obj : Int), 0) }) * (aC p g (da σ t) * R)) H9 from h9.to)
theorem Ca (S : SOk σ) (T : lE σ t) (ho : t.x.op ≠ 1) (hat : t.at' = 6) : Sp cn [vp e, vi now] (rT e p rp t * bf p rp σ) (fun _ : List Nat => b7 (aw σ t now)) (fun x => rQ e p rp (aw σ t now) x) := by
 have hN : σ.μ.N < 1099511627000 := by have := S.N; omega
 refine aM fun R H h => ?_;obtain ⟨k, g, hk, rfl, hl, h0⟩ := hJ h;obtain ⟨hki, b, hb, hrv⟩ := (hk.2.2 ho).1 (by omega) (by omega);have hob := T.obj (.inr ⟨by omega, by omega, ho⟩);refine bj (fun r => qn _ _ H) ?_;refine bm h0 fun b1 H1 h1 => ?_;have hkq := (hk.2.2 ho).2.1 (.inl hat);refine ag h1 (Ng e p σ t g k (eM e (fy t)) S hl b hob hb hrv) fun _ H2 h2 => ?_
 by_cases hw : aR (σ.μ.V (11, (t.obj : Int), 0)) = 0
 ·rw [dI hw]
  refine gs ?_;refine gi (e := e) (p := p) (eM e (fy t)) t ({ k with w := σ.μ.V (11, (t.obj : Int), 0) }) ch h2 fun H9 h9 => ?_;exact gg (g := g) (σ' := da σ t) (t' := { t with w := σ.μ.V (11, (t.obj : Int), 0), mark := now, at' := 8 }) (k := { k with w := σ.μ.V (11, (t.obj : Int), 0) }) (n := ch) (by rw [bM σ t now ho (by omega)]; simp only [d6, hat]; rw [if_pos hw]) (rF (b := b) ho (by simp) hki hb hrv (by simp) (by simp) (fun _ => rfl) (by simp) (by simp)) (by simp [fy, aB, ho]) hl (kf _) (show ae (rB e p (eM e ch) t ({ k with w := σ.μ.V (11, (t.obj : Int), 0) }) * (aC p g (da σ t) * R)) H9 from h9.to)
 ·rw [dQ hw]
  refine gs ?_;refine bv h2 ac rfl rfl fun H3 h3 => ?_;refine gi (e := e) (p := p) (eM e (fy t)) t ({ k with w := σ.μ.V (11, (t.obj : Int), 0), nw := now }) cz h3 fun H9 h9 => ?_;exact gg (g := g) (σ' := da σ t) (t' := { t with w := σ.μ.V (11, (t.obj : Int), 0), mark := now, at' := 7 }) (k := { k with w := σ.μ.V (11, (t.obj : Int), 0), nw := now }) (n := cz) (by rw [bM σ t now ho (by omega)]; simp only [d6, hat]; rw [if_neg hw]) (rF (b := b) ho (by simp) hki hb hrv (fun _ => hkq) (fun _ => rfl) (by simp) (by simp) (by simp)) (by simp [fy, aB, ho]) hl (kf _) (show ae (rB e p (eM e cz) t ({ k with w := σ.μ.V (11, (t.obj : Int), 0), nw := now }) * (aC p g (da σ t) * R)) H9 from h9.to)
theorem W9 (S : SOk σ) (T : lE σ t) (ho : t.x.op ≠ 1) (hat : t.at' = 5) : Sp dP [vp e, vi now] (rT e p rp t * bf p rp σ) (fun _ : List Nat => b7 (aw σ t now)) (fun x => rQ e p rp (aw σ t now) x) := by
 have hN : σ.μ.N < 1099511627000 := by have := S.N; omega
 refine aM fun R H h => ?_;obtain ⟨k, g, hk, rfl, hl, h0⟩ := hJ h;obtain ⟨hki, b, hb, hrv⟩ := (hk.2.2 ho).1 (by omega) (by omega);have hob := T.obj (.inr ⟨by omega, by omega, ho⟩);refine bj (fun r => Bd _ _ H) ?_;refine bm h0 fun b1 H1 h1 => ?_;refine ak h1 ac rfl ?_;refine ak h1 ac rfl ?_;refine ag h1 (ou p g σ t.who S.N) fun _ H2 h2 => ?_;refine bv h2 ac rfl rfl fun H3 h3 => ?_;refine ak h3 ac rfl ?_;refine aa (Dc 2 (by omega)) ?_
 by_cases hq : σ.μ.V (2, 0, 0) % 2 = 1
 ·refine aa (bw (show ((σ.μ.V (2, 0, 0) % 2 : Nat) : Int) = 1 by omega)) ?_
  refine gs ?_;refine gi (e := e) (p := p) (eM e (fy t)) t ({ k with q := σ.μ.V (2, 0, 0) }) bo h3 fun H9 h9 => ?_;exact gg (g := g) (σ' := d9 σ t) (t' := { t with q := σ.μ.V (2, 0, 0), at' := 4 }) (k := { k with q := σ.μ.V (2, 0, 0) }) (n := bo) (by rw [bM σ t now ho (by omega)]; simp only [d6, hat]; rw [if_pos hq]) (rF (b := b) ho (by simp) hki hb hrv (by simp) (by simp) (by simp) (by simp) (by simp)) (by simp [fy, aB, ho]) hl (kf _) (show ae (rB e p (eM e bo) t ({ k with q := σ.μ.V (2, 0, 0) }) * (aC p g (d9 σ t) * R)) H9 from h9.to)
 ·refine aa (aD (show ¬ ((σ.μ.V (2, 0, 0) % 2 : Nat) : Int) = 1 by omega)) ?_
  refine gs ?_;refine gi (e := e) (p := p) (eM e (fy t)) t ({ k with q := σ.μ.V (2, 0, 0) }) cn h3 fun H9 h9 => ?_;exact gg (g := g) (σ' := d9 σ t) (t' := { t with q := σ.μ.V (2, 0, 0), at' := 6 }) (k := { k with q := σ.μ.V (2, 0, 0) }) (n := cn) (by rw [bM σ t now ho (by omega)]; simp only [d6, hat]; rw [if_neg hq]) (rF (b := b) ho (by simp) hki hb hrv (fun _ => rfl) (by simp) (by simp) (by simp) (by simp)) (by simp [fy, aB, ho]) hl (kf _) (show ae (rB e p (eM e cn) t ({ k with q := σ.μ.V (2, 0, 0) }) * (aC p g (d9 σ t) * R)) H9 from h9.to)
theorem Fz (S : SOk σ) (T : lE σ t) (ho : t.x.op ≠ 1) (hat : t.at' = 7) : Sp cz [vp e, vi now] (rT e p rp t * bf p rp σ) (fun _ : List Nat => b7 (aw σ t now)) (fun x => rQ e p rp (aw σ t now) x) := by
 have hN : σ.μ.N < 1099511627000 := by have := S.N; omega
 refine aM fun R H h => ?_;obtain ⟨k, g, hk, rfl, hl, h0⟩ := hJ h;obtain ⟨hki, b, hb, hrv⟩ := (hk.2.2 ho).1 (by omega) (by omega);have hob := T.obj (.inr ⟨by omega, by omega, ho⟩);refine bj (fun r => rC _ _ H) ?_;refine bm h0 fun b1 H1 h1 => ?_;have hkq := (hk.2.2 ho).2.1 (.inr hat);have hkn := (hk.2.2 ho).2.2.1 hat;refine ak h1 ac rfl ?_;refine ak h1 ac rfl ?_;refine ag h1 (ou p g σ t.who S.N) fun _ H2 h2 => ?_;refine bD ac ?_;refine aY h2 rfl ?_;refine aG h1 h2 (by rfl) ?_;rw [hkq]
 by_cases hq : σ.μ.V (2, 0, 0) = t.q
 ·refine aa (p7 (show ((σ.μ.V (2, 0, 0) : Nat) : Int) = (t.q : Int) by omega)) ?_
  refine gs ?_;refine ak h2 ac rfl ?_;rw [hkn];refine ag h2 (me e p g (d9 σ t) t k (eM e (fy t)) t.mark 8 (by have := S.pts; show σ.pts.length < _; omega) hl) fun g' H3 h3 => ?_;rw [aj, ae.pu] at h3;obtain ⟨hg', h3⟩ := h3;refine gi (e := e) (p := p) (eM e (fy t)) t ({ k with told := 8 }) aN h3 fun H9 h9 => ?_;exact gg (g := g') (σ' := (d9 σ t).note t.mark t.who 8) (t' := { t with at' := 10, code := 8 }) (k := { k with told := 8 }) (n := aN) (by rw [bM σ t now ho (by omega)]; simp only [d6, hat]; rw [if_pos hq]) (QY ho rfl rfl) (by simp [fy, aB, ho]) (by rw [hg']; exact hl) (by rw [hg']; exact kf _) (show ae (rB e p (eM e aN) t ({ k with told := 8 }) * (aC p g' ((d9 σ t).note t.mark t.who 8) * R)) H9 from h9.to)
 ·refine aa (Hi (show ¬ ((σ.μ.V (2, 0, 0) : Nat) : Int) = (t.q : Int) by omega)) ?_
  refine gs ?_;refine gi (e := e) (p := p) (eM e (fy t)) t (k) bo h2 fun H9 h9 => ?_;exact gg (g := g) (σ' := d9 σ t) (t' := { t with at' := 4 }) (k := k) (n := bo) (by rw [bM σ t now ho (by omega)]; simp only [d6, hat]; rw [if_neg hq]) (rF (b := b) ho (by simp) hki hb hrv (by simp) (by simp) (by simp) (by simp) (by simp)) (by simp [fy, aB, ho]) hl (kf _) (show ae (rB e p (eM e bo) t (k) * (aC p g (d9 σ t) * R)) H9 from h9.to)
theorem Uu (S : SOk σ) (T : lE σ t) (ho : t.x.op ≠ 1) (hat : t.at' = 8) : Sp ch [vp e, vi now] (rT e p rp t * bf p rp σ) (fun _ : List Nat => b7 (aw σ t now)) (fun x => rQ e p rp (aw σ t now) x) := by
 have hN : σ.μ.N < 1099511627000 := by have := S.N; omega
 refine aM fun R H h => ?_;obtain ⟨k, g, hk, rfl, hl, h0⟩ := hJ h;obtain ⟨hki, b, hb, hrv⟩ := (hk.2.2 ho).1 (by omega) (by omega);have hob := T.obj (.inr ⟨by omega, by omega, ho⟩);refine bj (fun r => yp _ _ H) ?_;refine bm h0 fun b1 H1 h1 => ?_;have hkw := (hk.2.2 ho).2.2.2.1 hat;refine ak h1 ac rfl ?_;refine ak h1 ac rfl ?_;refine ak h1 ac rfl ?_;rw [hkw, hrv];refine ag h1 (gD (p := p) hl hob hb (Qi g.m t.obj b (au σ t.obj) σ.μ t.who t.w T.w hN)) fun _ H2 h2 => ?_;cases hw : dY σ.μ t.obj t.w (aQ t.w 2)
 ·refine gs ?_
  rw [Bool.not_false];refine gs ?_;refine gi (e := e) (p := p) (eM e (fy t)) t (k) bo h2 fun H9 h9 => ?_;exact gg (g := g) (σ' := σ.mem (σ.μ.turn t.who t.obj t.w (aQ t.w 2))) (t' := { t with at' := 4 }) (k := k) (n := bo) (by rw [bM σ t now ho (by omega)]; simp only [d6, hat]; rw [if_neg (by rw [hw]; simp)]) (rF (b := b) ho (by simp) hki hb hrv (by simp) (by simp) (by simp) (by simp) (by simp)) (by simp [fy, aB, ho]) hl (kf _) (show ae (rB e p (eM e bo) t (k) * (aC p g (σ.mem (σ.μ.turn t.who t.obj t.w (aQ t.w 2))) * R)) H9 from h9.to)
 ·refine gs ?_
  rw [Bool.not_true];refine gs ?_;refine ag h2 (me e p g (σ.mem (σ.μ.turn t.who t.obj t.w (aQ t.w 2))) t k (eM e (fy t)) now 0 (by have := S.pts; show σ.pts.length < _; omega) hl) fun g' H3 h3 => ?_;rw [aj, ae.pu] at h3;obtain ⟨hg', h3⟩ := h3;refine gi (e := e) (p := p) (eM e (fy t)) ({ t with at' := 9, code := 0 }) ({ k with told := 0 }) dC h3 fun H9 h9 => ?_;exact gg (g := g') (σ' := (σ.mem (σ.μ.turn t.who t.obj t.w (aQ t.w 2))).note now t.who 0) (t' := { t with at' := 9, code := 0 }) (k := { k with told := 0 }) (n := dC) (by rw [bM σ t now ho (by omega)]; simp only [d6, hat]; rw [if_pos hw]) (rF (b := b) ho (by simp) hki (by rw [hg']; exact hb) hrv (by simp) (by simp) (by simp) (by simp) (fun _ => rfl)) (by simp [fy, aB, ho]) (by rw [hg']; exact hl) (by rw [hg']; exact kf _) h9.to
theorem Qb (S : SOk σ) (T : lE σ t) (ho : t.x.op ≠ 1) (hat : t.at' = 9) : Sp dC [vp e, vi now] (rT e p rp t * bf p rp σ) (fun _ : List Nat => b7 (aw σ t now)) (fun x => rQ e p rp (aw σ t now) x) := by
 have hN : σ.μ.N < 1099511627000 := by have := S.N; omega
 refine aM fun R H h => ?_;obtain ⟨k, g, hk, rfl, hl, h0⟩ := hJ h;obtain ⟨hki, b, hb, hrv⟩ := (hk.2.2 ho).1 (by omega) (by omega);have hob := T.obj (.inr ⟨by omega, by omega, ho⟩);refine bj (fun r => wx _ _ H) ?_;refine bm h0 fun b1 H1 h1 => ?_;refine ak h1 ac rfl ?_;refine ak h1 ac rfl ?_;refine ak h1 ac rfl ?_;refine ak h1 ac rfl ?_;refine ak h1 ac rfl ?_;rw [hki];refine ag h1 (tq (p := p) (g := g) (σ := σ) (HY g.tb g.m σ.c.sh.toNat σ.c.sl.toNat σ.μ t.who t.s t.i hN)) fun _ H2 h2 => ?_;refine gi (e := e) (p := p) (eM e (fy t)) ({ t with at' := 10 }) k aN h2 fun H9 h9 => ?_;exact gg (g := g) (σ' := σ.mem ((σ.μ.acc t.who 2 (10, t.s, (t.i : Int))).put (10, t.s, (t.i : Int)) 0)) (t' := { t with at' := 10 }) (k := k) (n := aN) (by rw [bM σ t now ho (by omega)]; simp only [d6, hat]) (QY ho rfl ((hk.2.2 ho).2.2.2.2 (.inl hat))) (by simp [fy, aB, ho]) hl (kf _) h9.to
theorem Uv (S : SOk σ) (T : lE σ t) : Sp lY [vp e, vi now] (rT e p rp t * bf p rp σ) (fun _ : List Nat => b7 (aw σ t now)) (fun x => rQ e p rp (aw σ t now) x) := by
 refine bp (yj _ _) fun R H h => ?_;refine bm h fun b H1 h1 => ?_;obtain ⟨k, g, hk, rfl, hl, k1⟩ := hJ (e := e) (p := p) (rp := rp) (σ := σ) (t := t) (R := blk b (.cells false [vi 0, .slice none 0 0, vi 0, vw 0]) * R) (H := H1) h1.to;refine ak k1 ac rfl ?_;refine ai (show (dd (.func (.func (fy t)) #[vp e] #[]) [vi now]).bind _ = _ from rfl) ?_
 have hs : Sp (fy t) [vp e, vi now] (rT e p g.rp t * bf p g.rp σ) (fun _ : List Nat => b7 (aw σ t now)) (fun x => rQ e p g.rp (aw σ t now) x) := by
  have s2 : t.at' = 2 → aw σ t now = eN σ t := fun hat => by simp only [aw, hat]
  by_cases ho : t.x.op = 1
  ·have nf : ∀ n, t.at' = n → fy t = (match n with | 0 => fp | 2 => cJ | 3 => bO | 4 => dq | 5 => eL | _ => aN) := fun n h => by subst h; exact if_pos ho
   rcases T.ats with hat | hat | hat | hat | hat
   ·rw [nf _ hat]; exact Uq e p g.rp σ t now S T ho hat
   ·rw [nf _ hat, s2 hat]; exact Db e p g.rp σ t now S T ho (by omega)
   ·rw [nf _ hat]; exact Kk e p g.rp σ t now S T ho hat
   ·by_cases h4 : t.at' = 4
    ·rw [nf _ h4]; exact Us e p g.rp σ t now S T ho h4
    by_cases h5 : t.at' = 5
    ·rw [nf _ h5]; exact W8 e p g.rp σ t now S T ho h5
    have h6 : t.at' = 6 := by omega
    rw [nf _ h6]; exact Nf e p g.rp σ t now S T (by rw [if_pos ho]; exact h6)
   ·exact absurd ho hat.1
  ·have nf : ∀ n, t.at' = n → fy t = (match n with | 0 => eg | 2 => cV | 3 => cg | 4 => bo | 5 => dP | 6 => cn | 7 => cz | 8 => ch | 9 => dC | _ => aN) := fun n h => by subst h; exact if_neg ho
   rcases T.ats with hat | hat | hat | hat | hat
   ·rw [nf _ hat]; exact Qc e p g.rp σ t now S T ho hat
   ·rw [nf _ hat, s2 hat]; exact HG e p g.rp σ t now S T ho (by omega)
   ·rw [nf _ hat]; exact Ur e p g.rp σ t now S T ho hat
   ·by_cases h4 : t.at' = 4
    ·rw [nf _ h4]; exact Uw e p g.rp σ t now S T ho h4
    by_cases h5 : t.at' = 5
    ·rw [nf _ h5]; exact W9 e p g.rp σ t now S T ho h5
    have h6 : t.at' = 6 := by omega
    rw [nf _ h6]; exact Ca e p g.rp σ t now S T ho h6
   ·by_cases h7 : t.at' = 7
    ·rw [nf _ h7]; exact Fz e p g.rp σ t now S T ho h7
    by_cases h8 : t.at' = 8
    ·rw [nf _ h8]; exact Uu e p g.rp σ t now S T ho h8
    by_cases h9 : t.at' = 9
    ·rw [nf _ h9]; exact Qb e p g.rp σ t now S T ho h9
    have h10 : t.at' = 10 := by omega
    rw [nf _ h10]; exact Nf e p g.rp σ t now S T (by rw [if_neg ho]; exact h10)
 exact FN (uQ e p σ t (R := blk b (.cells false [vi 0, .slice none 0 0, vi 0, vw 0]) * R) hk hl k1) hs
abbrev Tk.newR (c : fM) (who : Int) (x : Cl) : Tk := ⟨who, x, (x.flow.tmod c.sh + c.sh).tmod c.sh, 0, 0, 0, false, 0, 0, -1, 0, 0⟩
theorem Ut (hc : bW σ.c = true) (who : Int) (c : Cl) : Sp vX [vp p, vi who, .agg (Cl.cells c).toArray] (bf p rp σ) (fun e : Nat => vp e) (fun e => rT e p rp (Tk.newR σ.c who c) * bf p rp σ) := by
 have hr := bx.1 hc;refine bp (Ki _ _ _) fun R H h => ?_;refine bg h fun b H1 h1 => ?_;refine aV h1 ?_;obtain ⟨g, rfl, hg, k1⟩ := eE (p := p) (rp := rp) (σ := σ) (R := blk b (.cells false (Cl.cells c)) * R) (H := H1) h1.to;refine ak k1 ac rfl ?_;refine ak k1 aK rfl ?_;refine ag k1 (DC (p := p) (g := g) (σ := σ) (xf g.tb g.m σ.c.sh.toNat σ.c.sl.toNat (by omega) c.flow)) fun _ H2 h2 => ?_;refine d7 h2 k1 rfl ?_
 have es : vi ((c.flow.tmod (σ.c.sh.toNat : Int) + (σ.c.sh.toNat : Int)).tmod (σ.c.sh.toNat : Int)) = vi (Tk.newR σ.c who c).s := by rw [show ((σ.c.sh.toNat : Nat) : Int) = σ.c.sh from by omega]
 rw [es];refine iU ?_;refine bg h2 fun e H3 h3 => ?_;refine bv h3 ac rfl rfl fun H4 h4 => ?_;refine ai (B8 ..) ?_;refine ak h4 aK rfl ?_;have lt : VJ g.rp (Tk.newR σ.c who c) ⟨0, -1, 0, 0, .pointer none, 0, 0, 0, 0⟩ := rY (by simp) ⟨rfl, rfl⟩
 by_cases ho : c.op = 1
 ·refine aa (bw ho) ?_
  refine gs ?_;refine bv h4 ac rfl rfl fun H5 h5 => ?_;refine ai (rR ..) ?_;refine ap ⟨e, rfl, uQ e p σ _ lt hg ?_⟩;rw [show fy (Tk.newR σ.c who c) = fp from if_pos ho];exact h5.to
 ·refine aa (aD ho) ?_
  refine gs ?_;refine ai (rR ..) ?_;refine ap ⟨e, rfl, uQ e p σ _ lt hg ?_⟩;rw [show fy (Tk.newR σ.c who c) = eg from if_neg ho];exact h4.to
end
theorem uw (p : Nat) (g : XIds) (σ : aL) (o b : Nat) (hl : g.rp.length = σ.obs.length) (ho : o < σ.obs.length) (hb : g.rp[o]? = some b) :
 ∃ R, (∀ N, σ.μ.N = N → av p g σ = de g.m o b (au σ o) * bN g.m σ.μ * (iC g.ib g.m σ.c.sh σ.nx N * R)) ∧ ∀ μ' cs', av p g { σ with μ := μ', obs := σ.obs.modify o fun q => (q.1, cs') } = de g.m o b cs' * bN g.m μ' * (iC g.ib g.m σ.c.sh σ.nx μ'.N * R) := by
 have hz : o < (g.rp.zip (σ.obs.map fun x => x.2)).length := by simp; omega
 obtain ⟨R, e1, e2⟩ := FB g.m (ps := g.rp.zip (σ.obs.map fun x => x.2)) (j := 0) hz
 have hrp : g.rp[o]'(by omega) = b := by
  rw [cM (by omega)] at hb;exact hF hb
 have e3 : (g.rp.zip (σ.obs.map fun x => x.2))[o] = (b, au σ o) := by
  rw [List.getElem_zip, tC ho, List.getElem_map, hrp]
 rw [e3] at e1;rw [Nat.zero_add] at e1 e2
 refine ⟨blk p (.cells false [vi σ.c.sh, vi σ.c.sl, vi σ.c.wk, vi σ.c.wd, vu σ.c.un, vp g.m, vp g.ib, vp g.tb, vp g.po, vp g.co, g.ov, g.rv, g.wv, g.pv]) * (tab g.tb g.m σ.c.sh.toNat σ.c.sl.toNat * (ts 3 rJ g.ov (σ.obs.map fun x => x.1) * (ts 1 oH g.rv g.rp * (R *
  (ts 1 kR g.wv (fu g.ws) * ts 7 Pt.cells g.pv (bV σ.pts)))))), fun N hN => ?_, fun μ' cs' => ?_⟩
 ·subst hN
  unfold av;rw [e1]
  ac_rfl
 ·unfold av
  dsimp only
  have e4 : (σ.obs.modify o fun q => (q.1, cs')).map (fun x => x.1) = σ.obs.map fun x => x.1 := by
   apply List.ext_getElem?;intro j;simp only [Au, List.getElem?_modify]
   cases σ.obs[j]? with
   | none => rfl
   | some q => simp only [eR]; split <;> rfl
  have e5 : g.rp.zip ((σ.obs.modify o fun q => (q.1, cs')).map fun x => x.2) = (g.rp.zip (σ.obs.map fun x => x.2)).set o (b, cs') := by
   apply List.ext_getElem?;intro j;rw [List.getElem?_set]
   by_cases hj : o = j
   ·subst hj
    rw [if_pos rfl, if_pos hz];exact List.getElem?_zip_eq_some.2 ⟨hb, by simp [List.getElem?_modify, cM ho]⟩
   ·rw [if_neg hj]
    have : (List.map (fun x => x.2) (σ.obs.modify o fun q => (q.1, cs')))[j]? = (σ.obs.map fun x => x.2)[j]? := by
     simp only [Au, List.getElem?_modify]
     cases σ.obs[j]? with
     | none => rfl
     | some q => show some (if o = j then (q.1, cs') else q).2 = some q.2; rw [if_neg hj]
    simp only [List.zip, List.getElem?_zipWith, this]
  rw [e4, e5, e2]
  ac_rfl
section
variable {f : Nat} {args : List Value} {v : Unit → Value} {p : Nat} {g : XIds} {σ : aL} {o b : Nat}
theorem DD {μ' : Mu} {cs' : List Pk} (hN : σ.μ.N ≤ μ'.N) (hl : g.rp.length = σ.obs.length) (ho : o < σ.obs.length) (hb : g.rp[o]? = some b)
 (s : Sp f args (de g.m o b (au σ o) * bN g.m σ.μ) v (fun _ => de g.m o b cs' * bN g.m μ')) :
 Sp f args (av p g σ) v (fun _ => av p g { σ with μ := μ', obs := σ.obs.modify o fun q => (q.1, cs') }) := by
 obtain ⟨R', e1, e2⟩ := uw p g σ o b hl ho hb;intro R H h;rw [e1 _ rfl, aj] at h;obtain ⟨x, H', h1, h2⟩ := s _ _ h;refine ⟨x, H', h1, ?_⟩;rw [e2, aj];have h3 := oa hN (ae.fr (A := iC g.ib g.m σ.c.sh σ.nx σ.μ.N) h2);exact h3.to
theorem lF {μ' : Mu} (hN : σ.μ.N ≤ μ'.N) (hl : g.rp.length = σ.obs.length) (ho : o < σ.obs.length) (hb : g.rp[o]? = some b)
 (s : Sp f args (de g.m o b (au σ o) * bN g.m σ.μ) v (fun _ => de g.m o b (au σ o) * bN g.m μ')) :
 Sp f args (av p g σ) v (fun _ => av p g (σ.mem μ')) := by
 have := DD (p := p) hN hl ho hb s;rw [Hj ho] at this;exact this
theorem FZ (hl : g.rp.length = σ.obs.length) (ho : o < σ.obs.length) (hb : g.rp[o]? = some b)
 (s : Sp f args (de g.m o b (au σ o)) v (fun _ => de g.m o b (au σ o))) :
 Sp f args (av p g σ) v (fun _ => av p g σ) := by
 obtain ⟨R', e1, _⟩ := uw p g σ o b hl ho hb;intro R H h;rw [e1 _ rfl, aj, aj] at h;obtain ⟨x, H', h1, h2⟩ := s _ _ h;exact ⟨x, H', h1, by rw [e1 _ rfl, aj, aj]; exact h2⟩
theorem nQ {μ' : Mu} (hN : σ.μ.N ≤ μ'.N) (s : Sp f args (tab g.tb g.m σ.c.sh.toNat σ.c.sl.toNat * bN g.m σ.μ) v (fun _ => tab g.tb g.m σ.c.sh.toNat σ.c.sl.toNat * bN g.m μ')) :
 Sp f args (av p g σ) v (fun _ => av p g (σ.mem μ')) := by
 intro R H h;unfold av at h;obtain ⟨x, H', h1, h2⟩ := s _ H (ae.fr (A := tab g.tb g.m σ.c.sh.toNat σ.c.sl.toNat * bN g.m σ.μ) h);refine ⟨x, H', h1, ?_⟩;unfold av;have h3 := oa hN (ae.fr (A := iC g.ib g.m σ.c.sh σ.nx σ.μ.N) h2);exact h3.to
theorem yz (s : Sp f args (tab g.tb g.m σ.c.sh.toNat σ.c.sl.toNat) v (fun _ => tab g.tb g.m σ.c.sh.toNat σ.c.sl.toNat)) :
 Sp f args (av p g σ) v (fun _ => av p g σ) := by
 intro R H h;unfold av at h;obtain ⟨x, H', h1, h2⟩ := s _ H (ae.fr (A := tab g.tb g.m σ.c.sh.toNat σ.c.sl.toNat) h);refine ⟨x, H', h1, ?_⟩;unfold av;exact h2.to
theorem Q2 {μ' : Mu} (hN : σ.μ.N ≤ μ'.N) (s : Sp f args (bN g.m σ.μ) v (fun _ => bN g.m μ')) : Sp f args (av p g σ) v (fun _ => av p g (σ.mem μ')) := by
 intro R H h;unfold av at h;obtain ⟨x, H', h1, h2⟩ := s _ H (ae.fr (A := bN g.m σ.μ) h);refine ⟨x, H', h1, ?_⟩;unfold av;have h3 := oa hN (ae.fr (A := iC g.ib g.m σ.c.sh σ.nx σ.μ.N) h2);exact h3.to
theorem vq {μ' : Mu} {nx' : Int → Option Nat} {L : Nat} (hL : L ≤ μ'.N) (s : Sp f args (iC g.ib g.m σ.c.sh σ.nx σ.μ.N * bN g.m σ.μ) v (fun _ => iC g.ib g.m σ.c.sh nx' L * bN g.m μ')) :
 Sp f args (av p g σ) v (fun _ => av p g { σ with μ := μ', nx := nx' }) := by
 intro R H h;unfold av at h;obtain ⟨x, H', h1, h2⟩ := s _ H (ae.fr (A := iC g.ib g.m σ.c.sh σ.nx σ.μ.N * bN g.m σ.μ) h);refine ⟨x, H', h1, ?_⟩;unfold av;have h3 := oa hL (ae.fr (A := iC g.ib g.m σ.c.sh nx' L) h2);exact h3.to
end
instance YX (p : Nat) (g : XIds) (σ : aL) : Hs (av p g σ) p (.cells false [vi σ.c.sh, vi σ.c.sl, vi σ.c.wk, vi σ.c.wd, vu σ.c.un, vp g.m, vp g.ib, vp g.tb, vp g.po, vp g.co, g.ov, g.rv, g.wv, g.pv]) := ⟨by
 intro H h;unfold av at h
 exact h.left.get⟩
theorem DA (m i rp : Nat) (cs : List Pk) (μ : Mu) (who : Int) (n : Nat) (x : Pk) (h0 : 1 ≤ cs.length ∧ cs.length < 1000) (hE : μ.N < 1099511627000) :
 Sp lX [vp rp, vi who, vu n, .agg (Pk.cells x).toArray] (de m i rp cs * bN m μ) (fun _ : Unit => .tuple #[]) (fun _ => de m i rp (cs.set (n % cs.length) x) * bN m (μ.acc who 6 (16, (i : Int), ((n % cs.length : Nat) : Int)))) := by
 have hlt : n % cs.length < cs.length := Nat.mod_lt _ (by omega);refine bp (yg _ _ _ _) fun R H h => ?_;refine bg h fun b H1 h1 => ?_;obtain ⟨cv, k1⟩ := fL (m := m) (i := i) (rp := rp) (cs := cs) (R := bN m μ * (blk b (.cells false (Pk.cells x)) * R)) (H := H1) h1.to;refine bD ac ?_;refine aY k1 rfl ?_;refine bD ac ?_;refine aY k1 rfl ?_
 have cell : ∀ cv, Sp ee [vp rp, vu n] (blk rp (.cells false [vp m, vi i, vi cs.length, cv])) (fun _ : Unit => vi ((n % cs.length : Nat) : Int)) (fun _ => blk rp (.cells false [vp m, vi i, vi cs.length, cv])) := by
  intro cv;refine bp (nH _ _) fun R H h => ?_;refine ak h ac rfl ?_;refine aa (dH (by omega) (by omega)) ?_;rw [show ((cs.length : Nat) : Int).toNat = cs.length from sj _];refine aa (iO (by omega)) ?_;refine aa (ik (by omega)) ?_;exact ap ⟨(), rfl, h⟩
 refine ag k1 (cell cv) fun _ H2 k2 => ?_;refine aG k2 k1 (by rfl) ?_;refine aG k2 k1 (by rfl) ?_;refine ag k2 (dZ 16 (i : Int) ((n % cs.length : Nat) : Int)) fun _ H3 k3 => ?_;refine aG k3 k1 (by rfl) ?_;refine ag k3 ((QO m μ who 6 (16, (i : Int), ((n % cs.length : Nat) : Int)) (by omega)).imp fun _ R H h => uk (N' := μ.N + 2) (by simp) h) fun _ H4 k4 => ?_;refine bD ac ?_;refine aY k4 rfl ?_;refine ag k4 (cell cv) fun _ H5 k5 => ?_;refine aG k5 k4 (by rfl) ?_;refine aV k5 ?_;refine d7 k4 k5 rfl ?_;refine NC (s := cv) (l := cs) (i := n % cs.length) x k5 hlt (.inl ⟨rfl, rfl⟩) rfl (by omega) rfl rfl fun H6 k6 => ?_;refine ap ⟨(), rfl, ?_⟩;have el : (cs.set (n % cs.length) x).length = cs.length := JE;have h6 := mK (m := m) (i := i) (rp := rp) (cs := cs.set (n % cs.length) x) (cv := cv) (R := bN m (μ.acc who 6 (16, (i : Int), ((n % cs.length : Nat) : Int))) * R) (H := H6) (by rw [el]; exact k6.to);exact h6.to
section
variable (p : Nat) (g : XIds) (σ : aL)
theorem KO (hl : g.rp.length = σ.obs.length) (who : Int) (o : Nat) (ho : o < σ.obs.length) (hN : σ.μ.N < 800000) : Sp kz [vp p, vi who, vi o] (av p g σ) (fun v : Value => v) (fun _ => av p g (σ.mem (σ.μ.acc who 5 (13, (o : Int), 0)))) := by
 refine bp (we _ _ _) fun R H h => ?_;refine bm h fun b H1 h1 => ?_;refine aa (db (by omega)) ?_;refine gs ?_;refine ak h1 ac rfl ?_;refine gs ?_;have h2 := h1;unfold av at h2;refine y5 (s := g.ov) (enc := rJ) (l := σ.obs.map fun x : Ob × List Pk => x.1) h2 ?_;rw [ui];refine gs ?_;refine aa (pJ (by omega)) ?_;refine gs ?_;refine bD ac ?_;refine aY h1 rfl ?_;refine ag h1 (dZ 13 (o : Int) 0) fun _ H3 h3 => ?_;refine aG h3 h1 (by rfl) ?_;refine ag h3 (Q2 (p := p) (g := g) (σ := σ) (μ' := σ.μ.acc who 5 (13, (o : Int), 0)) (by simp) ((QO g.m σ.μ who 5 (13, (o : Int), 0) (by omega)).imp fun _ R H h => uk (N' := σ.μ.N + 2) (by simp) h)) fun _ H4 h4 => ?_;refine ak h4 ac rfl ?_;have h5 := h4;unfold av at h5;refine Vi (enc := rJ) (l := σ.obs.map fun x : Ob × List Pk => x.1) h5 (by rw [ui]; exact ho) ?_;refine eG h4 rfl rfl fun H6 h6 => ?_;refine aV h6 ?_;exact ap ⟨_, rfl, h6.to⟩
theorem oC (who : Int) (hN : σ.μ.N < 800000) : Sp ed [vp p, vi who] (av p g σ) (fun _ : Unit => vu (σ.μ.V (2, 0, 0))) (fun _ => av p g (σ.mem (σ.μ.acc who 1 (2, 0, 0)))) := by
 refine bp (wg _ _) fun R H h => ?_;refine bD ac ?_;refine aY h rfl ?_;refine ag h (dZ 2 0 0) fun _ H1 h1 => ?_;refine aG h1 h (by rfl) ?_;refine ag h1 (Q2 (p := p) (g := g) (σ := σ) (μ' := σ.μ.acc who 1 (2, 0, 0)) (by simp) (qi g.m σ.μ who (2, 0, 0) (by omega))) fun _ H2 h2 => ?_;exact ap ⟨(), rfl, h2.to⟩
theorem lc (t m sh sl : Nat) (hs : 1 ≤ sh ∧ sh ≤ 4) (flow : Int) : Sp eu [vp t, vi flow] (tab t m sh sl) (fun _ : Unit => vi ((flow.tmod sh + sh).tmod sh)) (fun _ => tab t m sh sl) := by
 have q := Nt flow (n := sh) (by omega);refine bp (sW _ _) fun R H h => ?_;unfold tab at h ⊢;refine ak h ac rfl ?_;refine aa (wA (by omega)) ?_;refine ai (pc _ _ _ H) ?_
 by_cases hn : flow.tmod sh < 0
 ·refine aa (eO hn) ?_
  refine gs ?_;refine ak h ac rfl ?_;refine aa (bu (by omega) (by omega)) ?_;refine ai (jy _ _ H) ?_;refine ap ⟨(), ?_, h⟩;have : (flow.tmod sh + sh).tmod sh = flow.tmod sh + sh := Int.tmod_eq_of_lt (by omega) (by omega);rw [this]
 ·refine aa (db hn) ?_
  refine gs ?_;refine ai (jy _ _ H) ?_;refine ap ⟨(), ?_, h⟩
  have : (flow.tmod sh + sh).tmod sh = flow.tmod sh := by
   rw [Int.tmod_eq_emod_of_nonneg (by omega), Int.add_emod_right];exact Int.emod_eq_of_lt (by omega) (by omega)
  rw [this]
end
theorem ux (w pl k : Int) : ∀ ws : List (Int × Int), gQ (ws ++ [(w, pl)]) k = if k = w then pl else gQ ws k := by
 intro ws
 induction ws with
 | nil =>
  simp only [List.nil_append, gQ, List.any_nil]
  by_cases e : k = w
  ·subst e; simp
  ·have : ¬ w = k := fun q => e q.symm
   simp [e, this]
 | cons p ws ih =>
  simp only [List.cons_append, gQ, ih, List.any_append, List.any_cons, List.any_nil, Bool.or_false]
  by_cases e : k = w
  ·subst e; simp
  ·have h1 : ((w == k) : Bool) = false := by simpa using fun q => e q.symm
   rw [h1, Bool.or_false];simp only [if_neg e]
theorem Fb (ws : List (Int × Int)) (k : Int) (j : Nat) (hj : j < ws.length) : gQ (ws.take (j + 1)) k = if k = ws[j].1 then ws[j].2 else gQ (ws.take j) k := by
 rw [List.take_succ_eq_append_getElem hj];exact ux ws[j].1 ws[j].2 k (ws.take j)
theorem oq (ws : List (Int × Int)) : (fu ws).length = 2 * ws.length := by
 unfold fu
 induction ws with
 | nil => rfl
 | cons p ws ih => rw [List.flatMap_cons, uh, ih]; simp; omega
theorem PQ : ∀ (ws : List (Int × Int)) (j : Nat) (hj : j < ws.length), (fu ws)[2 * j]? = some ws[j].1 ∧ (fu ws)[2 * j + 1]? = some ws[j].2 := by
 intro ws
 induction ws with
 | nil => intro j hj; simp at hj
 | cons p ws ih =>
  intro j hj
  cases j with
  | zero => exact ⟨rfl, rfl⟩
  | succ j =>
   have h := ih j (by simpa using hj);have e : fu (p :: ws) = p.1 :: p.2 :: fu ws := rfl;rw [e, show 2 * (j + 1) = 2 * j + 2 from by omega];exact h
theorem Tm (x : Pt) : ∀ (l : List Pt) (k : Nat), k ≤ l.length → (∀ j p, k ≤ j → l[j]? = some p → x.step < p.step) → (∀ p, 0 < k → l[k - 1]? = some p → p.step ≤ x.step) → t9 x l = l.take k ++ x :: l.drop k := by
 intro l
 induction l with
 | nil => intro k hk _ _; simp at hk; subst hk; rfl
 | cons y l ih =>
  intro k hk h1 h2
  cases k with
  | zero =>
   have hy := h1 0 y (bK _) rfl
   have hno : ¬ (y.step ≤ x.step ∨ (l.any fun z => decide (z.step ≤ x.step)) = true) := by
    rintro (h | h)
    ·omega
    ·obtain ⟨z, hz, hzs⟩ := List.any_eq_true.1 h
     obtain ⟨j, hj⟩ := List.mem_iff_getElem?.1 hz;have := h1 (j + 1) z (by omega) (by simpa using hj)
     have hzs : z.step ≤ x.step := by simpa using hzs
     omega
   rw [t9, if_neg hno]
   rfl
  | succ k =>
   have hyes : y.step ≤ x.step ∨ (l.any fun z => decide (z.step ≤ x.step)) = true := by
    cases k with
    | zero => exact .inl (h2 y (by omega) rfl)
    | succ k =>
     right
     have hkl : k < l.length := by simp at hk; omega
     rw [List.any_eq_true];refine ⟨l[k], List.getElem_mem hkl, ?_⟩;have := h2 l[k] (by omega) (by simp [hkl])
     simpa using this
   rw [t9, if_pos hyes, ih k (by simpa using hk) (fun j p hj hp => h1 (j + 1) p (by omega) (by simpa using hp)) (fun p hk0 hp => h2 p (by omega) (by
    rw [show k + 1 - 1 = (k - 1) + 1 from by omega]; simpa using hp))]
   rfl
theorem Gp (l : List Pt) (x : Pt) : bV (l ++ [x]) = t9 x (bV l) := by
 unfold bV;rw [List.foldl_append]; rfl
theorem PF (x : Pt) : ∀ l : List Pt, (t9 x l).length = l.length + 1 := by
 intro l
 induction l with
 | nil => rfl
 | cons y l ih => rw [t9]; split <;> simp [ih]
theorem IG (l : List Pt) : (bV l).length = l.length := by
 have : ∀ (l acc : List Pt), (l.foldl (fun acc x => t9 x acc) acc).length = acc.length + l.length := by
  intro l
  induction l with
  | nil => intro acc; rfl
  | cons x l ih => intro acc; rw [List.foldl_cons, ih, PF]; simp; omega
 have h := this l []
 simpa [bV] using h
theorem VL (e b : Nat) (he : 0 < e) (H : AH) : f3 e b (.slice none 0 0) (.slice none 0 0) H = some (.slice none 0 0, H) := by
 unfold f3
 have : kV e (.slice none 0 0) H = some (0, []) := by simp [kV]
 rw [this];simp [he]
theorem U1 {α : Type} {P R : SP} {H : AH} {e : Nat} {enc : α → List Value} {l : List α} {s : Value} (h : ae P H) [f : Ts P s α e enc l R] : s.cells.toList = [s] ∧ [s].all Value.oneCell' = true := by
 rcases rg h (enc := enc) (s := s) with ⟨rfl, _, _⟩ | ⟨bb, rfl, _⟩ <;> exact ⟨rfl, rfl⟩
theorem Ic {α : Type} {P R : SP} {H : AH} {e : Nat} {enc : α → List Value} {l : List α} {s : Value} {lo hi : Option Value} {a b : Nat} (h : ae P H) [f : Ts P s α e enc l R] [E : Enc enc e] (hlo : (lo = none ∧ a = 0) ∨ ∃ k, lo = some (.int k (a : Int)))
 (hhi : (hi = none ∧ b = l.length) ∨ ∃ k, hi = some (.int k (b : Int))) (h1 : a ≤ b) (h2 : b ≤ l.length) : ∃ s', ft e s lo hi = some s' ∧ Rd P s' e enc ((l.take b).drop a) := by
 haveI : Rd P s e enc l := by rw [f.eq]; infer_instance
 by_cases h0 : 0 < l.length
 ·exact Un h hlo hhi h1 h2 h0
 ·have hl : l = [] := List.eq_nil_of_length_eq_zero (by omega)
  subst hl
  have hb0 : b = 0 := by simpa using h2
  subst hb0
  have ha0 : a = 0 := by omega
  subst ha0;have hpos := E.pos
  have rd0 : ∀ s', (∃ a c, s' = .slice a 0 c ∧ (a = none → c = 0) ∧ (∀ x, a = some x → ∃ b o, x = ⟨b, o, none⟩)) → Rd P s' e enc (([] : List α).take 0 |>.drop 0) := by
   rintro s' ⟨a, c, rfl, q1, q2⟩
   exact ⟨fun {H'} _ => ⟨by simp, .inl ⟨a, c, rfl, rfl, q1, q2⟩⟩⟩
  rcases rg h (enc := enc) (s := s) with ⟨rfl, _, _⟩ | ⟨bb, rfl, _⟩
  ·refine ⟨.slice none 0 0, ?_, rd0 _ ⟨none, 0, rfl, fun _ => rfl, fun x hx => (by cases hx)⟩⟩
   rcases hlo with ⟨rfl, _⟩ | ⟨k1, rfl⟩ <;> rcases hhi with ⟨rfl, _⟩ | ⟨k2, rfl⟩ <;> simp [ft, mA]
  ·refine ⟨.slice (some ⟨bb, 0, none⟩) 0 e, ?_, rd0 _ ⟨some ⟨bb, 0, none⟩, e, rfl, fun h => (by cases h), fun x hx => ⟨bb, 0, (hF hx).symm⟩⟩⟩
   rcases hlo with ⟨rfl, _⟩ | ⟨k1, rfl⟩ <;> rcases hhi with ⟨rfl, _⟩ | ⟨k2, rfl⟩ <;> simp [ft, mA, hpos]
abbrev aL.begin (σ : aL) (who place : Int) : aL := { σ with places := fun k => if k = who then some place else σ.places k, μ := { σ.μ with N := σ.μ.N + 1 } }
theorem Yv (p : Nat) (rp : List Nat) (σ : aL) (who place : Int) : Sp g8 [vp p, vi who, vi place] (bf p rp σ) (fun _ : Unit => .tuple #[]) (fun _ => bf p rp (σ.begin who place)) := by
 refine aM fun R H h => ?_;obtain ⟨g, hrp, hg, h0⟩ := eE h;unfold aC at h0;refine bj (fun r => p8 _ _ _ H) ?_;refine ak h0 ac rfl ?_;refine Vg (ek := Is) who (vi place) h0 fun H1 h1 => ?_;refine ap ⟨(), rfl, ?_⟩;refine bJ g hrp hg ?_;unfold aC;dsimp only
 have e : (fun k => ((if k = who then some place else σ.places k) : Option Int).map fun n => vi n) = fun x => if x = who then some (vi place) else (σ.places x).map fun n => vi n := by
  funext k
  split <;> rfl
 rw [e];have h2 := i1 (V := σ.μ.V) (E := σ.μ.E) (N := σ.μ.N) (N' := σ.μ.N + 1) (by omega) (ae.fr (A := bA g.m σ.μ) h1);exact h2.to
theorem Zh (p : Nat) (σ : aL) (who place : Int) (hN : σ.μ.N < 1000000000) : Sp i9 [vp p, vi who, vi place] (aJ p σ) (fun _ : Unit => .tuple #[]) (fun _ => aJ p (σ.begin who place)) := by
 refine aM fun R H h => ?_;obtain ⟨g, ⟨hg1, hg2, hg3⟩, h0⟩ := fC h;unfold av at h0;refine bj (fun r => sU _ _ _ H) ?_;refine ak h0 ac rfl ?_;refine Ve (cs := [vi who, vi place]) h0 rfl fun b H1 h1 => ?_;have h2 := FL (e := 1) (enc := kR) (l := [who, place]) h1;refine KJ (s := g.wv) (l := fu g.ws) (m := [who, place]) h2 ?_ (by omega) fun v H2 h3 => ?_
 ·rw [oq]; unfold dt; simp; omega
 have hc := U1 (s := v) (enc := kR) (l := fu g.ws ++ [who, place]) h3
 haveI : vl v [v] := ⟨hc.1⟩
 dsimp only;refine bv h3 ac rfl hc.2 fun H3 h4 => ?_;refine ap ⟨(), rfl, ?_⟩
 have e2 : fu (g.ws ++ [(who, place)]) = fu g.ws ++ [who, place] := by simp [fu]
 refine dm { g with wv := v, ws := g.ws ++ [(who, place)] } ⟨hg1, fun k => ?_, by simp; omega⟩ ?_
 ·show gQ (g.ws ++ [(who, place)]) k = _
  rw [ux, hg2];show _ = ((if k = who then some place else σ.places k)).getD 0
  split <;> rfl
 unfold av;dsimp only;rw [e2];have h5 := uk (V := σ.μ.V) (E := σ.μ.E) (N := σ.μ.N) (N' := σ.μ.N + 1) (by omega) (ae.fr (A := bN g.m σ.μ) h4);have h6 := oa (L' := σ.μ.N + 1) (by omega) (ae.fr (A := iC g.ib g.m σ.c.sh σ.nx σ.μ.N) h5);exact h6.to
theorem aaC (p : Nat) (g : XIds) (σ : aL) (step who code : Int) (hpl : gQ g.ws who = (σ.places who).getD 0) (hw : g.ws.length < 1000000000) (hp : σ.pts.length < 900000) :
 Sp TI [vp p, vi step, vi who, .agg (dX code).toArray] (av p g σ) (fun _ : Value => .tuple #[]) (fun v => av p { g with pv := v } (σ.note step who code)) := by
 refine bp (Y2 _ _ _ _) fun R H h => ?_;refine bg h fun rb H1 h1 => ?_;refine ai (P6 _ _ _ _ _ H1) ?_;refine ai (J8 _ _ _ _ _ _ H1) ?_;have place : ∀ (d j : Nat), j + d = g.ws.length → wp (J5 (vp p) (vi step) (vi who) (vp rb) (vi (gQ g.ws who)) H1) (fun v' H' => ∃ x : Value, v' = .tuple #[] ∧ ae (av p { g with pv := x } (σ.note step who code) * R) H') →
  wp (yX (vp p) (vi step) (vi who) (vp rb) (vi (gQ (g.ws.take j) who)) (vi ((2 * j : Nat) : Int)) H1) (fun v' H' => ∃ x : Value, v' = .tuple #[] ∧ ae (av p { g with pv := x } (σ.note step who code) * R) H') := by
  have h2 := h1;unfold av at h2;intro d
  induction d with
  | zero =>
   intro j hj hk;refine ai (AX _ _ _ _ _ _ H1) ?_;refine ak h1 ac rfl ?_;refine tl (s := g.wv) (l := fu g.ws) h2 ?_;rw [oq];refine aa (db (by omega)) ?_;refine gs ?_;refine ai (Fo _ _ _ _ _ H1) ?_;rw [List.take_of_length_le (by omega)];exact hk
  | succ d ih =>
   intro j hj hk
   have hjl : j < g.ws.length := by omega
   obtain ⟨a1, a2⟩ := PQ g.ws j hjl;have hlen := oq g.ws;refine ai (AX _ _ _ _ _ _ H1) ?_;refine ak h1 ac rfl ?_;refine tl (s := g.wv) (l := fu g.ws) h2 ?_;rw [oq];refine aa (eO (by omega)) ?_;refine gs ?_;refine ai (J9 _ _ _ _ _ _ H1) ?_;refine ak h1 ac rfl ?_;refine FM (s := g.wv) (l := fu g.ws) (i := 2 * j) (v := vi g.ws[j].1) h2 (by omega) ?_ ?_
   ·rw [cM (by omega)] at a1
    rw [hF a1]; rfl
   have next : ∀ pl : Int, gQ (g.ws.take (j + 1)) who = pl → wp (yY (vp p) (vi step) (vi who) (vp rb) (vi pl) (vi ((2 * j : Nat) : Int)) H1) (fun v' H' => ∃ x : Value, v' = .tuple #[] ∧ ae (av p { g with pv := x } (σ.note step who code) * R) H') := by
    intro pl hpl2;refine ai (Ka _ _ _ _ _ _ H1) ?_;refine aa (bu (by omega) (by omega)) ?_;have := ih (j + 1) (by omega) hk;rw [hpl2] at this;rw [show ((2 * j : Nat) : Int) + 2 = ((2 * (j + 1) : Nat) : Int) from by omega];exact this
   have ht := Fb g.ws who j hjl
   by_cases hwho : g.ws[j].1 = who
   ·refine aa (bw hwho) ?_
    refine gs ?_;refine ak h1 ac rfl ?_;refine aa (bu (by omega) (by omega)) ?_;rw [show ((2 * j : Nat) : Int) + 1 = ((2 * j + 1 : Nat) : Int) from by omega];refine FM (s := g.wv) (l := fu g.ws) (i := 2 * j + 1) (v := vi g.ws[j].2) h2 (by omega) ?_ ?_
    ·rw [cM (by omega)] at a2
     rw [hF a2]; rfl
    exact next _ (by rw [ht, if_pos hwho.symm])
   ·refine aa (aD hwho) ?_
    refine gs ?_;exact next _ (by rw [ht, if_neg (fun q => hwho q.symm)])
 refine place g.ws.length 0 (by omega) ?_;rw [hpl];refine ai (P7 _ _ _ _ _ H1) ?_;refine ak h1 aK rfl ?_;refine ai (show ((f3 3 24 (.slice none 0 0) (.slice none 0 0) H1).bind _) = _ from by rw [VL 3 24 (by omega)]) ?_;refine bv h1 aK rfl rfl fun H2 h2 => ?_;refine ak h2 ac rfl ?_;have h2u := h2;unfold av at h2u;have hlen := IG σ.pts;refine tl (s := g.pv) (l := bV σ.pts) h2u ?_;refine ai (P8 _ _ _ _ _ _ H2) ?_
 -- behind all that are not behind it
 have put : ∀ k, k ≤ (bV σ.pts).length → (∀ j p, k ≤ j → (bV σ.pts)[j]? = some p → step < p.step) → (∀ p, 0 < k → (bV σ.pts)[k - 1]? = some p → p.step ≤ step) →
  wp (J7 (vp p) (vi step) (vi who) (vp rb) (vi ((σ.places who).getD 0)) (vi (k : Int)) H2) (fun v' H' => ∃ x : Value, v' = .tuple #[] ∧ ae (av p { g with pv := x } (σ.note step who code) * R) H') := by
  intro k hk ha hb;have hins := Tm ⟨step, who, (σ.places who).getD 0, code⟩ (bV σ.pts) k hk ha hb;refine ai (P9 _ _ _ _ _ _ H2) ?_;refine ak h2 ac rfl ?_;have q1 : ae (ts 7 Pt.cells g.pv (bV σ.pts)) H2 := h2u.to;obtain ⟨s1, e1, r1⟩ := Ic (s := g.pv) (l := bV σ.pts) (lo := none) (hi := some (vi (k : Int))) (a := 0) (b := k) q1 (.inl ⟨rfl, rfl⟩) (.inr ⟨_, rfl⟩) (Nat.zero_le _) hk;refine aa e1 ?_;have h3 := iJ 7 Pt.cells h2u;refine KJ (s := .slice none 0 0) (l := ([] : List Pt)) (m := ((bV σ.pts).take k).drop 0) h3 ?_ (by omega) fun v3 H3 h4 => ?_
  ·unfold dt; simp only [List.length_drop, List.length_take, List.length_nil]; omega
  rw [List.nil_append, List.drop_zero] at h4;refine aV h4 ?_;refine iU ?_;refine Nu h4 fun b0 H5 h5 => ?_;refine jp (s := v3) (l := (bV σ.pts).take k) (⟨step, who, (σ.places who).getD 0, code⟩ : Pt) h5 rfl ?_ (by omega) fun a cc H6 h6 => ?_
  ·unfold dt; simp only [List.length_take]; omega
  refine ak h6 ac rfl ?_;have q2 : ae (ts 7 Pt.cells g.pv (bV σ.pts)) H6 := h6.to;obtain ⟨s2, e2, r2⟩ := Ic (s := g.pv) (l := bV σ.pts) (lo := some (vi (k : Int))) (hi := none) (a := k) (b := (bV σ.pts).length) q2 (.inr ⟨_, rfl⟩) (.inl ⟨rfl, rfl⟩) hk (bK _);refine aa e2 ?_;refine KJ (s := .slice a (((bV σ.pts).take k).length + 1) cc) (l := (bV σ.pts).take k ++ [(⟨step, who, (σ.places who).getD 0, code⟩ : Pt)]) (m := ((bV σ.pts).take (bV σ.pts).length).drop k) h6 ?_ (by omega) fun v4 H7 h7 => ?_
  ·unfold dt; simp only [List.length_drop, List.length_take, uh, List.length_cons, List.length_nil]; omega
  have hc := U1 (s := v4) (enc := Pt.cells) (l := ((bV σ.pts).take k ++ [(⟨step, who, (σ.places who).getD 0, code⟩ : Pt)]) ++ ((bV σ.pts).take (bV σ.pts).length).drop k) h7
  haveI : vl v4 [v4] := ⟨hc.1⟩
  dsimp only;refine bv h7 ac rfl hc.2 fun H8 h8 => ?_;refine ap ⟨v4, rfl, ?_⟩
  have e3 : bV (σ.note step who code).pts = ((bV σ.pts).take k ++ [(⟨step, who, (σ.places who).getD 0, code⟩ : Pt)]) ++ ((bV σ.pts).take (bV σ.pts).length).drop k := by
   show bV (σ.pts ++ [_]) = _;rw [Gp, hins, List.take_length];simp
  unfold av;dsimp only;rw [e3];exact h8.to
 have down : ∀ (k : Nat), k ≤ (bV σ.pts).length → (∀ j p, k ≤ j → (bV σ.pts)[j]? = some p → step < p.step) →
  wp (yW (vp p) (vi step) (vi who) (vp rb) (vi ((σ.places who).getD 0)) (vi (k : Int)) H2) (fun v' H' => ∃ x : Value, v' = .tuple #[] ∧ ae (av p { g with pv := x } (σ.note step who code) * R) H') := by
  intro k
  induction k with
  | zero =>
   intro hk ha;refine ai (AW _ _ _ _ _ _ H2) ?_;refine aa (iQ (by omega)) ?_;refine gs ?_;refine ai (uO _ _ _ _ _ _ H2) ?_;exact put 0 hk ha (fun p h => absurd h (by omega))
  | succ k ih =>
   intro hk ha
   have hkl : k < (bV σ.pts).length := by omega
   refine ai (AW _ _ _ _ _ _ H2) ?_;refine aa (pK (by omega)) ?_;refine gs ?_;refine ak h2 ac rfl ?_;refine gs ?_;refine aa (nb (by omega) (by omega)) ?_;rw [show ((k + 1 : Nat) : Int) - 1 = (k : Int) from by omega];refine gs ?_;refine Vh (s := g.pv) (l := bV σ.pts) (v := vi ((bV σ.pts)[k]).step) h2u hkl (by omega) rfl ?_;refine gs ?_
   by_cases hs : step < ((bV σ.pts)[k]).step
   ·refine aa (pK hs) ?_
    refine gs ?_;refine ai (J6 _ _ _ _ _ _ H2) ?_;refine aa (nb (by omega) (by omega)) ?_;rw [show ((k + 1 : Nat) : Int) - 1 = (k : Int) from by omega];refine ih (by omega) fun j p hj hp => ?_
    by_cases e : j = k
    ·subst e
     rw [cM hkl] at hp;rw [← hF hp]; exact hs
    ·exact ha j p (by omega) hp
   ·refine aa (iQ hs) ?_
    refine gs ?_;refine ai (uO _ _ _ _ _ _ H2) ?_;refine put (k + 1) hk ha fun p _ hp => ?_;rw [show k + 1 - 1 = k from by omega, cM hkl] at hp;rw [← hF hp]; omega
 exact down (bV σ.pts).length (bK _) fun j p hj hp => by
  rw [List.getElem?_eq_none hj] at hp; cases hp
structure Xk where
 a : Nat
 I : Nat
 free : Int
 hit : Bool
 obj : Nat
 w : Nat
 h : Nat
 q : Nat
 top : Nat
 mark : Int
 code : Int
abbrev xB (x P : Nat) (t : Tk) (k : Xk) : SP :=
 blk x (.cells false [vp P, vi t.who, vi t.x.op, vi t.x.flow, vi t.x.a, vi t.x.b, vi k.a, vi k.I, vi k.free, vb k.hit, vi k.obj, vu k.w, vu k.h, vu k.q, vw 0, vu k.top, vi k.mark, vi k.code, .slice none 0 0, vi 0, vw 0,
  vi 0, vi 0, .slice none 0 0, vw 0, vw 0, vi 0, vi 0, vi 0, vb false, vi 0, .slice none 0 0, vi 0, vw 0])
def hU (t : Tk) (k : Xk) : Prop := k.a = t.at' ∧ match t.at' with
 | 0 => k.I = t.i ∧ k.hit = false
 | 2 => k.I = t.i ∧ k.hit = false
 | 4 => k.I = t.i ∧ k.hit = false
 | 5 => k.hit = t.found ∧ (t.found = true → k.obj = t.obj) ∧ (t.found = false → k.code = t.code)
 | 6 => k.obj = t.obj
 | 7 => k.obj = t.obj
 | 8 => k.obj = t.obj ∧ k.w = t.w
 | 9 => k.obj = t.obj ∧ k.w = t.w
 | 10 => k.obj = t.obj ∧ k.w = t.w ∧ k.q = 0 ∧ k.code = t.code
 | 11 => k.obj = t.obj ∧ k.w = t.w ∧ k.code = t.code
 | 12 => k.obj = t.obj ∧ k.w = t.w
 | 13 => k.obj = t.obj ∧ k.w = t.w
 | 14 => k.obj = t.obj ∧ k.w = t.w ∧ k.q = 1 ∧ k.code = t.code
 | 15 => k.obj = t.obj
 | 16 => k.obj = t.obj ∧ k.q = t.q
 | 17 => k.obj = t.obj ∧ k.w = t.w ∧ k.q = t.q
 | 18 => k.obj = t.obj ∧ k.q = t.q ∧ k.mark = t.mark
 | 20 => k.obj = t.obj
 | 21 => k.obj = t.obj ∧ k.w = t.w ∧ k.code = t.code
 | 22 => k.obj = t.obj ∧ k.code = t.code
 | 23 => k.obj = t.obj ∧ k.top = t.top ∧ k.code = t.code
 | 24 => k.obj = t.obj ∧ k.top = t.top ∧ k.code = t.code
 | 25 => k.code = t.code
 | _ => True
def xP (x P : Nat) (σ : aL) (t : Tk) : SP := ex fun k : Xk => pu (hU t k) * (xB x P t k * aJ P σ)
def xQ (x P : Nat) (r : aL × Tk × Bool) : SP := ex fun k : Xk => pu (if r.2.2 = true then k.code = r.2.1.code else hU r.2.1 k) * (xB x P r.2.1 k * aJ P r.1)
section
variable {x P : Nat} {g : XIds} {σ σ' : aL} {t t' : Tk} {R : SP} {H : AH} {r : aL × Tk × Bool} {k : Xk}
theorem cP (h : ae (xP x P σ t * R) H) : ∃ (k : Xk) (g : XIds), hU t k ∧ eF g σ ∧ ae (xB x P t k * (av P g σ * R)) H := by
 obtain ⟨k, h1⟩ := ae.ex.1 h;rw [aj, ae.pu] at h1;obtain ⟨g, h2, h3⟩ := fC (p := P) (σ := σ) (R := xB x P t k * R) (H := H) h1.2.to;exact ⟨k, g, h1.1, h2, h3.to⟩
theorem dr (hr : r = (σ', t', false)) (hR : hU t' k) (hg : eF g σ') (h : ae (xB x P t' k * (av P g σ' * R)) H) : ∃ y : Unit, (vb false : Value) = vb r.2.2 ∧ ae (xQ x P r * R) H := by
 subst hr;refine ⟨(), rfl, ae.ex.2 ⟨k, ?_⟩⟩;rw [aj, ae.pu];have h1 := dm (p := P) (σ := σ') (R := xB x P t' k * R) g hg h.to;exact ⟨hR, h1.to⟩
theorem BH (hr : r = (σ', t', true)) (hc : k.code = t'.code) (hg : eF g σ') (h : ae (xB x P t' k * (av P g σ' * R)) H) : ∃ y : Unit, (vb true : Value) = vb r.2.2 ∧ ae (xQ x P r * R) H := by
 subst hr;refine ⟨(), rfl, ae.ex.2 ⟨k, ?_⟩⟩;rw [aj, ae.pu];have h1 := dm (p := P) (σ := σ') (R := xB x P t' k * R) g hg h.to;exact ⟨hc, h1.to⟩
theorem dD {c : fM} {μ' : Mu} {obs' : List (Ob × List Pk)} {nx' : Int → Option Nat} {pts' : List Pt} {pv : Value} (h : eF g σ) (hN : σ.μ.N ≤ μ'.N) (ho : obs'.length = σ.obs.length) : eF { g with pv := pv } ⟨c, μ', obs', nx', σ.places, pts'⟩ :=
 ⟨h.1.trans ho.symm, h.2.1, fF h.2.2 hN⟩
theorem ay {c : fM} {μ' : Mu} {obs' : List (Ob × List Pk)} {nx' : Int → Option Nat} {pts' : List Pt} (h : eF g σ) (hN : σ.μ.N ≤ μ'.N) (ho : obs'.length = σ.obs.length) : eF g ⟨c, μ', obs', nx', σ.places, pts'⟩ :=
 ⟨h.1.trans ho.symm, h.2.1, fF h.2.2 hN⟩
end
section
variable (x P : Nat) (g : XIds) (σ : aL) (t : Tk) (k : Xk)
theorem jr (hl : g.rp.length = σ.obs.length) (b : Nat) (ho : k.obj < σ.obs.length) (hb : g.rp[k.obj]? = some b) : Sp bU [vp x] (xB x P t k * av P g σ) (fun _ : Unit => vp b) (fun _ => xB x P t k * av P g σ) := by
 refine bp (wq _) fun R H h => ?_;refine ak h ac rfl ?_;refine ak h ac rfl ?_;refine ak h ac rfl ?_;have h2 := h;unfold av at h2;refine FM (s := g.rv) (l := g.rp) (v := vp b) h2 (by omega) ?_ ?_
 ·rw [cM (by omega)] at hb
  rw [hF hb]
 exact ap ⟨(), rfl, h⟩
theorem vj (hw : k.w < 18446744073709551616) : Sp fm [vp x] (xB x P t k) (fun _ : Unit => vu (aI k.w)) (fun _ => xB x P t k) := by
 refine bp (uM _) fun R H h => ?_;refine ak h ac rfl ?_;refine ag h (nG k.w hw) fun _ H1 h1 => ?_;refine aa (v := vu (aI k.w)) rfl ?_;refine aa (v := vi (aR k.w)) rfl ?_;refine aa (v := vb (cQ k.w)) rfl ?_;exact ap ⟨(), rfl, h1.to⟩
theorem y6 (S : SOk σ) (hl : g.rp.length = σ.obs.length) (b : Nat) (ho : k.obj < σ.obs.length) (hb : g.rp[k.obj]? = some b) :
 Sp ef [vp x] (xB x P t k * av P g σ) (fun _ : Unit => vi (aR (σ.μ.V (11, (k.obj : Int), 0)))) (fun _ => xB x P t { k with w := σ.μ.V (11, (k.obj : Int), 0) } * av P g (σ.mem (σ.μ.acc t.who 1 (11, (k.obj : Int), 0)))) := by
 have hN : σ.μ.N < 1099511627000 := by have := S.N; omega
 refine bp (wu _) fun R H h => ?_;refine ag h (jr x P g σ t k hl b ho hb) fun _ H1 h1 => ?_;refine bD ac ?_;refine aY h1 rfl ?_;refine aG h h1 (by rfl) ?_;refine ag h1 (lF (p := P) (μ' := σ.μ.acc t.who 1 (11, (k.obj : Int), 0)) (by simp) hl ho hb (KQ g.m k.obj b (au σ k.obj) σ.μ t.who hN)) fun _ H2 h2 => ?_;refine bv h2 ac rfl rfl fun H3 h3 => ?_;refine ak h3 ac rfl ?_;refine ag h3 (nG _ (S.V _)) fun _ H4 h4 => ?_;refine aa (v := vu (aI (σ.μ.V (11, (k.obj : Int), 0)))) rfl ?_;refine aa (v := vi (aR (σ.μ.V (11, (k.obj : Int), 0)))) rfl ?_;refine aa (v := vb (cQ (σ.μ.V (11, (k.obj : Int), 0)))) rfl ?_;exact ap ⟨(), rfl, h4.to⟩
theorem jq (hg : eF g σ) (now e : Int) (hN : σ.μ.N < 1000000000) (hp : σ.pts.length < 900000) :
 Sp bC [vp x, vi now, vi e] (xB x P t k * av P g σ) (fun _ : Value => .tuple #[]) (fun v => xB x P t { k with code := e } * av P { g with pv := v } (σ.note now t.who e)) := by
 refine bp (wo _ _ _) fun R H h => ?_;refine iU ?_;refine bv h ac rfl rfl fun H1 h1 => ?_;refine ak h1 ac rfl ?_;refine ak h1 ac rfl ?_;refine Vd h1 ac ?_;refine ag h1 (aaC P g σ now t.who e (hg.2.1 _) (by have := hg.2.2; omega) hp) fun v H2 h2 => ?_;exact ap ⟨v, rfl, h2.to⟩
def wK (t1 : Tk) (k k' : Xk) : Prop := k'.a = k.a ∧ k'.w = k.w ∧ k'.q = k.q ∧ k'.top = k.top ∧ k'.mark = k.mark ∧ k'.code = k.code ∧ (t1.found = true → k'.hit = true ∧ k'.obj = t1.obj) ∧ (t1.found = false → k'.hit = k.hit ∧ k'.I = k.I + 1)
theorem ND (S : SOk σ) (T : gT σ t) (hI : k.I = t.i) (hi : (t.i : Int) < σ.c.sl) :
 Sp AI [vp x] (xB x P t k * av P g σ) (fun _ : Xk => .tuple #[vb (aP σ t).found, vb (!(aP σ t).found && bQ σ (aP σ t))]) (fun k' => pu (wK (aP σ t) k k') * (xB x P t k' * av P g (aS σ t))) := by
 have hN : σ.μ.N < 1099511627000 := by have := S.N; omega
 have hc := bx.1 S.c;refine bp (Uj _) fun R H h => ?_;refine bD ac ?_;refine aY h rfl ?_;refine bD ac ?_;refine aY h rfl ?_;refine bD ac ?_;refine aY h rfl ?_;refine ak h ac rfl ?_;refine ak h ac rfl ?_;refine ak h (b8 (aO (aO ba))) rfl ?_;refine ag h (yz (p := P) (g := g) (σ := σ) (lc g.tb g.m σ.c.sh.toNat σ.c.sl.toNat (by omega) t.x.flow)) fun _ H1 h1 => ?_;refine aG h1 h (by rfl) ?_;refine aG h1 h (by rfl) ?_;refine aG h1 h (by rfl) ?_
 have es : vi ((t.x.flow.tmod (σ.c.sh.toNat : Int) + (σ.c.sh.toNat : Int)).tmod (σ.c.sh.toNat : Int)) = vi t.s := by rw [T.s, show ((σ.c.sh.toNat : Nat) : Int) = σ.c.sh from by omega]
 rw [es];refine bD ac ?_;refine aY h1 rfl ?_;refine aG h h1 (by rfl) ?_;rw [hI]
 have ek : k = { k with I := t.i } := by rw [← hI]
 rw [ek] at h1;refine ag h1 (nQ (p := P) (g := g) (σ := σ) (μ' := σ.μ.acc t.who 1 (10, t.s, (t.i : Int))) (by simp) (C2 g.tb g.m σ.c.sh.toNat σ.c.sl.toNat σ.μ t.who t.s t.i hN (S.V _))) fun _ H2 h2 => ?_;have tail : ∀ (k' : Xk) (H' : AH), wK { aP σ t with found := false } { k with I := t.i } { k' with I := t.i + 1 } → k'.I = t.i → (aP σ t).found = false → ae (xB x P t k' * (av P g (aS σ t) * R)) H' →
  wp (A5 (vp x) (vb false) (vb false) H') fun v' H' => ∃ k' : Xk, v' = .tuple #[vb (aP σ t).found, vb (!(aP σ t).found && bQ σ (aP σ t))] ∧ ae (pu (wK (aP σ t) k k') * (xB x P t k' * av P g (aS σ t)) * R) H' := by
  intro k' H' hX hI' hf h';refine ai (C9 ..) ?_;refine ak h' ac rfl ?_;rw [hI'];refine aa (bu (by omega) (by omega)) ?_;rw [show ((t.i : Nat) : Int) + 1 = ((t.i + 1 : Nat) : Int) from by omega];refine bv h' ac rfl rfl fun H3 h3 => ?_;refine ak h3 ac rfl ?_;refine ak h3 ac rfl ?_;refine ak h3 ac rfl ?_;have h4 := h3;unfold av tab at h4;refine ak h4 ac rfl ?_;refine aa (v := vb (bQ σ (aP σ t))) ?_ ?_
  ·rw [qI]
   congr 3
   show ((σ.c.sl.toNat : Int) ≤ _) = (σ.c.sl ≤ ((t.i + 1 : Nat) : Int));apply propext;omega
  refine ap ⟨{ k' with I := t.i + 1 }, by rw [hf]; rfl, ?_⟩;rw [aj, ae.pu];refine ⟨?_, h3.to⟩
  have e0 : aP σ t = { aP σ t with found := false } := by rw [← hf]
  rw [e0]
  simpa [wK, hI] using hX
 by_cases hv : σ.μ.V (10, t.s, (t.i : Int)) = 0
 ·have e1 : gW (σ.μ.V (10, t.s, (t.i : Int))) = .tuple #[vi 0, vi 0, vb false] := by rw [gW, if_pos hv]
  have hf : (aP σ t).found = false := dQ fun q => q.1 hv;rw [e1];refine aa (v := vi 0) rfl ?_;refine aa (v := vi 0) rfl ?_;refine aa (v := vb false) rfl ?_;refine gs ?_;refine ai (q9 ..) ?_;refine gs ?_;rw [Bool.not_false];refine gs ?_;refine ak h2 ac rfl ?_
  by_cases hfr : k.free < 0
  ·refine la ?_
   refine aa (eO hfr) ?_;refine gs ?_;refine ak h2 ac rfl ?_;refine bv h2 ac rfl rfl fun H3 h3 => ?_;exact tail { k with I := t.i, free := t.i } H3 (by simp [wK]) rfl hf h3.to
  ·refine la ?_
   refine aa (db hfr) ?_;refine gs ?_;exact tail { k with I := t.i } H2 (by simp [wK]) rfl hf h2.to
 ·have e1 : gW (σ.μ.V (10, t.s, (t.i : Int))) = .tuple #[vi ((σ.μ.V (10, t.s, (t.i : Int)) / 4294967296 : Nat) - 1), vi (σ.μ.V (10, t.s, (t.i : Int)) % 4294967296 : Nat), vb true] := by rw [gW, if_neg hv]
  rw [e1];refine aa (v := vi ((σ.μ.V (10, t.s, (t.i : Int)) / 4294967296 : Nat) - 1)) rfl ?_;refine aa (v := vi (σ.μ.V (10, t.s, (t.i : Int)) % 4294967296 : Nat)) rfl ?_;refine aa (v := vb true) rfl ?_;refine gs ?_;refine ak h2 (b8 (aO (aO ba))) rfl ?_;refine la ?_
  by_cases hf : ((σ.μ.V (10, t.s, (t.i : Int)) / 4294967296 : Nat) : Int) - 1 = t.x.flow
  ·have hfo : (aP σ t).found = true := dI ⟨hv, hf⟩
   have hob : (aP σ t).obj = σ.μ.V (10, t.s, (t.i : Int)) % 4294967296 := if_pos hfo;refine aa (bw hf) ?_;refine gs ?_;refine bv h2 ac rfl rfl fun H3 h3 => ?_;refine bv h3 ac rfl rfl fun H4 h4 => ?_;refine ap ⟨{ k with I := t.i, hit := true, obj := σ.μ.V (10, t.s, (t.i : Int)) % 4294967296 }, by rw [hfo]; rfl, ?_⟩;rw [aj, ae.pu];exact ⟨by simp [wK, hfo, hob], h4.to⟩
  ·have hfo : (aP σ t).found = false := dQ fun q => hf q.2
   refine aa (aD hf) ?_;refine gs ?_;refine ai (q9 ..) ?_;refine gs ?_;rw [Bool.not_true];refine gs ?_;exact tail { k with I := t.i } H2 (by simp [wK]) rfl hfo h2.to
theorem Im {R : SP} {H : AH} {Q : Value → AH → Prop} (now : Int) (S : SOk σ) (T : gT σ t) (h : ae (xB x P t k * (av P g σ * R)) H)
 (hk : ∀ b H', ae (blk b (.cells false [vi t.x.flow, vi t.x.a, vi t.x.b]) * (xB x P t k * (av P g σ * R))) H' → wp (Kb (vp x) (vi now) (vb false) (vp P) (vi t.s) (vp b) H') Q) :
 wp (FF ez [vp x, vi now] H) Q := by
 have hc := bx.1 S.c;refine bj (fun r => Y3 _ _ H) ?_;refine bD ac ?_;refine aY h rfl ?_;refine ak h ac rfl ?_;refine ak h ac rfl ?_;refine ak h (b8 (aO (aO ba))) rfl ?_;refine ag h (yz (p := P) (g := g) (σ := σ) (lc g.tb g.m σ.c.sh.toNat σ.c.sl.toNat (by omega) t.x.flow)) fun _ H1 h1 => ?_;refine aG h1 h (by rfl) ?_
 have es : vi ((t.x.flow.tmod (σ.c.sh.toNat : Int) + (σ.c.sh.toNat : Int)).tmod (σ.c.sh.toNat : Int)) = vi t.s := by rw [T.s, show ((σ.c.sh.toNat : Nat) : Int) = σ.c.sh from by omega]
 rw [es];refine ak h1 (b8 (aO (aO ba))) rfl ?_;refine ak h1 (b8 (aO (aO ba))) rfl ?_;refine ak h1 (b8 (aO (aO ba))) rfl ?_;refine iU ?_;refine bm h1 fun b H2 h2 => ?_;refine eG h2 rfl rfl fun H3 h3 => ?_;exact hk b H3 h3.to
theorem bX {R : SP} {H : AH} {Q : Value → AH → Prop} (now : Int) (S : SOk σ) (T : gT σ t) (ha : k.a ≠ 0) (h : ae (xB x P t k * (av P g σ * R)) H)
 (hk : ∀ b H', ae (blk b (.cells false [vi t.x.flow, vi t.x.a, vi t.x.b]) * (xB x P t k * (av P g σ * R))) H' → wp (ox (vp x) (vi now) (vb false) (vp P) (vi t.s) (vp b) (vi k.a) H') Q) :
 wp (FF ez [vp x, vi now] H) Q := by
 refine Im x P g σ t k now S T h fun b H1 h1 => ?_;refine ai (C7 ..) ?_;refine ak h1 ac rfl ?_;refine aa (aD (by omega)) ?_;refine gs ?_;refine ai (C8 ..) ?_;refine ak h1 ac rfl ?_;exact hk b H1 h1
end
theorem m8 {f : Nat} {args : List Value} {H : AH} {Q : Value → AH → Prop} (h : wp (FF f args H) Q) : wp ((FF f args H).bind fun r => some (r.1, r.2)) Q := by
 obtain ⟨v, H', e, q⟩ := h;rw [e]; exact ⟨v, H', rfl, q⟩
section
variable (x P : Nat) (σ : aL) (t : Tk) (now : Int)
theorem ch6 {x0 x1 x4 x5 x6 x7 : Value} {a : Nat} {H : AH} {Q : Value → AH → Prop} (h : a ≠ 2 ∧ a ≠ 3 ∧ a ≠ 4 ∧ a ≠ 5) (hk : wp ((aq .other .eql (vi (a : Int)) (vi 6)).bind fun v => Fp x0 x1 x4 x5 x6 x7 (vi (a : Int)) v H) Q) : wp (ox x0 x1 x4 x5 x6 x7 (vi (a : Int)) H) Q := by
 refine ai (lu ..) ?_;refine aa (aD (by omega)) ?_;refine ai (nM ..) ?_;refine gs ?_;refine aa (aD (by omega)) ?_;refine ai (ow ..) ?_;refine gs ?_;refine aa (aD (by omega)) ?_;refine ai (s3 ..) ?_;refine gs ?_;refine aa (aD (by omega)) ?_;refine ai (AY ..) ?_;refine gs ?_;exact hk
theorem ch8 {x0 x1 x4 x5 x6 x7 : Value} {a : Nat} {H : AH} {Q : Value → AH → Prop} (h : a ≠ 2 ∧ a ≠ 3 ∧ a ≠ 4 ∧ a ≠ 5 ∧ a ≠ 6 ∧ a ≠ 7) (hk : wp ((aq .other .eql (vi (a : Int)) (vi 8)).bind fun v => Fq x0 x1 x4 x5 x6 x7 (vi (a : Int)) v H) Q) : wp (ox x0 x1 x4 x5 x6 x7 (vi (a : Int)) H) Q := by
 refine ch6 (by omega) ?_;refine aa (aD (by omega)) ?_;refine ai (s4 ..) ?_;refine gs ?_;refine aa (aD (by omega)) ?_;refine ai (AZ ..) ?_;refine gs ?_;exact hk
theorem Yx {x0 x1 x4 x5 x6 x7 : Value} {a : Nat} {H : AH} {Q : Value → AH → Prop} (h : a ≠ 2 ∧ a ≠ 3 ∧ a ≠ 4 ∧ a ≠ 5 ∧ a ≠ 6 ∧ a ≠ 7 ∧ a ≠ 8 ∧ a ≠ 9 ∧ a ≠ 13) (hk : wp ((aq .other .eql (vi (a : Int)) (vi 10)).bind fun v98 => ax v98 (uP x0 x1 x4 x5 x6 x7 (vi (a : Int)) v98 H) ((aq .other .eql (vi (a : Int)) (vi 14)).bind fun v99 => uP x0 x1 x4 x5 x6 x7 (vi (a : Int)) v99 H)) Q) : wp (ox x0 x1 x4 x5 x6 x7 (vi (a : Int)) H) Q := by
 refine ch8 (by omega) ?_;refine aa (aD (by omega)) ?_;refine ai (oy ..) ?_;refine gs ?_;refine aa (aD (by omega)) ?_;refine gs ?_;refine aa (aD (by omega)) ?_;refine ai (s5 ..) ?_;refine gs ?_;exact hk
theorem Yy {x0 x1 x4 x5 x6 x7 : Value} {a : Nat} {H : AH} {Q : Value → AH → Prop} (h : a ≠ 2 ∧ a ≠ 3 ∧ a ≠ 4 ∧ a ≠ 5 ∧ a ≠ 6 ∧ a ≠ 7 ∧ a ≠ 8 ∧ a ≠ 9 ∧ a ≠ 10 ∧ a ≠ 13 ∧ a ≠ 14) (hk : wp ((aq .other .eql (vi (a : Int)) (vi 11)).bind fun v => Ft x0 x1 x4 x5 x6 (vi (a : Int)) v H) Q) : wp (ox x0 x1 x4 x5 x6 x7 (vi (a : Int)) H) Q := by
 refine Yx (by omega) ?_;refine aa (aD (by omega)) ?_;refine gs ?_;refine aa (aD (by omega)) ?_;refine ai (s6 ..) ?_;refine gs ?_;exact hk
theorem Rs {x0 x1 x4 x5 x6 x7 : Value} {a : Nat} {H : AH} {Q : Value → AH → Prop} (h : a ≠ 2 ∧ a ≠ 3 ∧ a ≠ 4 ∧ a ≠ 5 ∧ a ≠ 6 ∧ a ≠ 7 ∧ a ≠ 8 ∧ a ≠ 9 ∧ a ≠ 10 ∧ a ≠ 11 ∧ a ≠ 12 ∧ a ≠ 13 ∧ a ≠ 14) (hk : wp ((aq .other .eql (vi (a : Int)) (vi 15)).bind fun v92 => ax v92 (kX x0 x1 x4 x6 v92 H) ((aq .other .eql (vi (a : Int)) (vi 16)).bind fun v93 => ax v93 (kX x0 x1 x4 x6 v93 H) ((aq .other .eql (vi (a : Int)) (vi 17)).bind fun v94 => ax v94 (kX x0 x1 x4 x6 v94 H) ((aq .other .eql (vi (a : Int)) (vi 18)).bind fun v95 => kX x0 x1 x4 x6 v95 H)))) Q) : wp (ox x0 x1 x4 x5 x6 x7 (vi (a : Int)) H) Q := by
 refine Yy (by omega) ?_;refine aa (aD (by omega)) ?_;refine ai (s7 ..) ?_;refine gs ?_;refine aa (aD (by omega)) ?_;refine ai (A4 ..) ?_;refine gs ?_;exact hk
theorem Zv {x0 x1 x4 x5 x6 x7 : Value} {a : Nat} {H : AH} {Q : Value → AH → Prop} (h : a ≠ 2 ∧ a ≠ 3 ∧ a ≠ 4 ∧ a ≠ 5 ∧ a ≠ 6 ∧ a ≠ 7 ∧ a ≠ 8 ∧ a ≠ 9 ∧ a ≠ 10 ∧ a ≠ 11 ∧ a ≠ 12 ∧ a ≠ 13 ∧ a ≠ 14 ∧ a ≠ 15 ∧ a ≠ 16 ∧ a ≠ 17 ∧ a ≠ 18) (hk : wp ((FF TJ [x0, x6] H).bind fun r91 => some (r91.1, r91.2)) Q) : wp (ox x0 x1 x4 x5 x6 x7 (vi (a : Int)) H) Q := by
 refine Rs (by omega) ?_;refine aa (aD (by omega)) ?_;refine gs ?_;refine aa (aD (by omega)) ?_;refine gs ?_;refine aa (aD (by omega)) ?_;refine gs ?_;refine aa (aD (by omega)) ?_;refine ai (ma ..) ?_;refine gs ?_;exact hk
theorem Xy (S : SOk σ) (T : gT σ t) (hat : t.at' = 3) : Sp ez [vp x, vi now] (xP x P σ t) (fun _ : Unit => vb (ah σ t now).2.2) (fun _ => xQ x P (ah σ t now)) := by
 have hN : σ.μ.N < 1099511627000 := by have := S.N; omega
 refine aM fun R H h => ?_;obtain ⟨k, g, hR, hg, h0⟩ := cP h;have hl := hg.1;simp only [hU, hat] at hR;obtain ⟨ha, _⟩ := hR;refine bX x P g σ t k now S T (by omega) h0 fun b1 H1 h1 => ?_;refine ai (lu ..) ?_;refine aa (aD (by omega)) ?_;refine ai (nM ..) ?_;refine gs ?_;refine aa (bw (by omega)) ?_;refine ai (ow ..) ?_;refine gs ?_;refine ak h1 ac rfl ?_;refine ak h1 ac rfl ?_;refine ag h1 (nQ (p := P) (g := g) (σ := σ) (μ' := σ.μ.swp t.who (8, t.s, 0) 0 1) (by simp) (Hy g.tb g.m σ.c.sh.toNat σ.c.sl.toNat σ.μ t.who t.s hN)) fun _ H2 h2 => ?_
 by_cases hw : σ.μ.V (8, t.s, 0) = 0
 ·rw [dI hw]
  refine gs ?_;refine bv h2 ac rfl rfl fun H3 h3 => ?_;refine bv h3 ac rfl rfl fun H4 h4 => ?_;refine bv h4 ac rfl rfl fun H5 h5 => ?_;refine ai (cw ..) ?_;exact ap (dr (g := g) (σ' := σ.mem (σ.μ.swp t.who (8, t.s, 0) 0 1)) (t' := { t with at' := 4, i := 0 }) (k := { k with a := 4, I := 0, hit := false }) (by simp only [ah, hat]; rw [if_pos hw]) (by simp [hU]) (ay (σ := σ) hg (by simp) rfl) h5.to)
 ·rw [dQ hw]
  refine gs ?_;refine ai (cw ..) ?_;exact ap (dr (g := g) (σ' := σ.mem (σ.μ.swp t.who (8, t.s, 0) 0 1)) (t' := t) (k := k) (by simp only [ah, hat]; rw [if_neg hw]) (by simp only [hU, hat]; exact ⟨ha, trivial⟩) (ay (σ := σ) hg (by simp) rfl) h2.to)
theorem XA (S : SOk σ) (T : gT σ t) (hat : t.at' = 5) : Sp ez [vp x, vi now] (xP x P σ t) (fun _ : Unit => vb (ah σ t now).2.2) (fun _ => xQ x P (ah σ t now)) := by
 have hN : σ.μ.N < 1099511627000 := by have := S.N; omega
 refine aM fun R H h => ?_;obtain ⟨k, g, hR, hg, h0⟩ := cP h;have hl := hg.1;simp only [hU, hat] at hR;obtain ⟨ha, hhit, hobj, hcode⟩ := hR;refine bX x P g σ t k now S T (by omega) h0 fun b1 H1 h1 => ?_;refine ai (lu ..) ?_;refine aa (aD (by omega)) ?_;refine ai (nM ..) ?_;refine gs ?_;refine aa (aD (by omega)) ?_;refine ai (ow ..) ?_;refine gs ?_;refine aa (aD (by omega)) ?_;refine ai (s3 ..) ?_;refine gs ?_;refine aa (bw (by omega)) ?_;refine ai (AY ..) ?_;refine gs ?_;refine ak h1 ac rfl ?_;refine ak h1 ac rfl ?_;refine ag h1 (nQ (p := P) (g := g) (σ := σ) (μ' := (σ.μ.acc t.who 2 (8, t.s, 0)).put (8, t.s, 0) 0) (by simp) (s0 g.tb g.m σ.c.sh.toNat σ.c.sl.toNat σ.μ t.who t.s hN)) fun _ H2 h2 => ?_;refine ak h2 ac rfl ?_;cases hf : t.found
 ·rw [hf] at hhit
  rw [hhit];refine gs ?_;rw [Bool.not_false];refine gs ?_;exact ap (BH (g := g) (k := k) (σ' := σ.mem ((σ.μ.acc t.who 2 (8, t.s, 0)).put (8, t.s, 0) 0)) (t' := { t with at' := 6 }) (by simp only [ah, hat, hf]; rfl) (hcode hf) (ay (σ := σ) hg (by simp) rfl) h2.to)
 ·rw [hf] at hhit
  rw [hhit];refine gs ?_;rw [Bool.not_true];refine gs ?_;refine bv h2 ac rfl rfl fun H3 h3 => ?_;refine ai (cw ..) ?_;exact ap (dr (g := g) (σ' := σ.mem ((σ.μ.acc t.who 2 (8, t.s, 0)).put (8, t.s, 0) 0)) (t' := { t with at' := 6 }) (k := { k with a := 6 }) (by simp only [ah, hat, hf]; rfl) (by simp [hU, hobj hf]) (ay (σ := σ) hg (by simp) rfl) h3.to)
theorem XB (S : SOk σ) (T : gT σ t) (hat : t.at' = 6) : Sp ez [vp x, vi now] (xP x P σ t) (fun _ : Unit => vb (ah σ t now).2.2) (fun _ => xQ x P (ah σ t now)) := by
 have hN : σ.μ.N < 1099511627000 := by have := S.N; omega
 refine aM fun R H h => ?_;obtain ⟨k, g, hR, hg, h0⟩ := cP h;have hl := hg.1;simp only [hU, hat] at hR;obtain ⟨ha, hobj⟩ := hR;have ho := T.obj (.inl (by omega))
 have hob : k.obj < σ.obs.length := by omega
 obtain ⟨b, hb⟩ : ∃ b, g.rp[k.obj]? = some b := ⟨_, cM (by omega)⟩;refine bX x P g σ t k now S T (by omega) h0 fun b1 H1 h1 => ?_;refine ch6 (by omega) ?_;refine aa (bw (by omega)) ?_;refine ai (s4 ..) ?_;refine gs ?_;refine ak h1 ac rfl ?_;refine ak h1 ac rfl ?_;refine ag h1 (KO P g σ hl t.who k.obj hob S.N) fun _ H2 h2 => ?_;refine bv h2 ac rfl rfl fun H3 h3 => ?_;refine ai (cw ..) ?_;rw [hobj] at h3;exact ap (dr (g := g) (σ' := σ.mem (σ.μ.acc t.who 5 (13, (t.obj : Int), 0))) (t' := { t with at' := 7 }) (k := { k with a := 7, obj := t.obj }) (by simp only [ah, hat]) (by simp [hU]) (ay (σ := σ) hg (by simp) rfl) h3.to)
theorem XC (S : SOk σ) (T : gT σ t) (hat : t.at' = 7) : Sp ez [vp x, vi now] (xP x P σ t) (fun _ : Unit => vb (ah σ t now).2.2) (fun _ => xQ x P (ah σ t now)) := by
 have hN : σ.μ.N < 1099511627000 := by have := S.N; omega
 refine aM fun R H h => ?_;obtain ⟨k, g, hR, hg, h0⟩ := cP h;have hl := hg.1;simp only [hU, hat] at hR;obtain ⟨ha, hobj⟩ := hR;have ho := T.obj (.inl (by omega))
 have hob : k.obj < σ.obs.length := by omega
 obtain ⟨b, hb⟩ : ∃ b, g.rp[k.obj]? = some b := ⟨_, cM (by omega)⟩;refine bX x P g σ t k now S T (by omega) h0 fun b1 H1 h1 => ?_;refine ch6 (by omega) ?_;refine aa (aD (by omega)) ?_;refine ai (s4 ..) ?_;refine gs ?_;refine aa (bw (by omega)) ?_;refine ai (AZ ..) ?_;refine gs ?_;refine bv h1 ac rfl rfl fun H2 h2 => ?_;refine ag h2 (y6 x P g σ t { k with a := 8 } S hl b hob hb) fun _ H3 h3 => ?_;dsimp only at h3;rw [hobj] at h3
 by_cases hw : aR (σ.μ.V (11, (t.obj : Int), 0)) = 2
 ·refine aa (bw (by rw [hobj]; exact hw)) ?_
  refine gs ?_;refine bv h3 ac rfl rfl fun H4 h4 => ?_;refine ai (cw ..) ?_;exact ap (dr (g := g) (σ' := da σ t) (t' := { t with at' := 3, w := σ.μ.V (11, (t.obj : Int), 0) }) (k := { k with a := 3, obj := t.obj, w := σ.μ.V (11, (t.obj : Int), 0) }) (by simp only [ah, hat]; rw [if_pos hw]) (by simp [hU]) (ay (σ := σ) hg (by simp) rfl) h4.to)
 ·refine aa (aD (by rw [hobj]; exact hw)) ?_
  refine gs ?_;refine ai (cw ..) ?_;exact ap (dr (g := g) (σ' := da σ t) (t' := { t with at' := 8, w := σ.μ.V (11, (t.obj : Int), 0) }) (k := { k with a := 8, obj := t.obj, w := σ.μ.V (11, (t.obj : Int), 0) }) (by simp only [ah, hat]; rw [if_neg hw]) (by simp [hU]) (ay (σ := σ) hg (by simp) rfl) h3.to)
theorem XD (S : SOk σ) (T : gT σ t) (hat : t.at' = 8) : Sp ez [vp x, vi now] (xP x P σ t) (fun _ : Unit => vb (ah σ t now).2.2) (fun _ => xQ x P (ah σ t now)) := by
 have hN : σ.μ.N < 1099511627000 := by have := S.N; omega
 refine aM fun R H h => ?_;obtain ⟨k, g, hR, hg, h0⟩ := cP h;have hl := hg.1;simp only [hU, hat] at hR;obtain ⟨ha, hobj, hw0⟩ := hR;have ho := T.obj (.inl (by omega))
 have hob : k.obj < σ.obs.length := by omega
 obtain ⟨b, hb⟩ : ∃ b, g.rp[k.obj]? = some b := ⟨_, cM (by omega)⟩;refine bX x P g σ t k now S T (by omega) h0 fun b1 H1 h1 => ?_;refine ch8 (by omega) ?_;refine aa (bw (by omega)) ?_;refine ai (oy ..) ?_;refine gs ?_;refine ag h1 (jr x P g σ t k hl b hob hb) fun _ H2 h2 => ?_;refine bD ac ?_;refine aY h2 rfl ?_;refine aG h1 h2 (by rfl) ?_;refine ag h2 (lF (p := P) (μ' := σ.μ.acc t.who 1 (12, (k.obj : Int), 0)) (by simp) hl hob hb (BK g.m k.obj b (au σ k.obj) σ.μ t.who hN)) fun _ H3 h3 => ?_;refine bv h3 ac rfl rfl fun H4 h4 => ?_;refine ak h4 ac rfl ?_;refine ag h4 (nG k.w (by rw [hw0]; exact T.w)) fun _ H5 h5 => ?_;refine aa (v := vu (aI k.w)) rfl ?_;refine aa (v := vi (aR k.w)) rfl ?_;refine aa (v := vb (cQ k.w)) rfl ?_;refine ai (Kd ..) ?_;refine ag h5 (jr x P g (σ.mem (σ.μ.acc t.who 1 (12, (k.obj : Int), 0))) t { k with h := σ.μ.V (12, (k.obj : Int), 0) } hl b hob hb) fun _ H6 h6 => ?_;refine bD ac ?_;refine aY h6 rfl ?_;refine aG h5 h6 (by rfl) ?_;refine bD ac ?_;refine aY h6 rfl ?_;refine aG h5 h6 (by rfl) ?_;refine ag h6 (FZ (p := P) (σ := σ.mem (σ.μ.acc t.who 1 (12, (k.obj : Int), 0))) hl hob hb (BJ g.m k.obj b (au σ k.obj) k.w (σ.μ.V (12, (k.obj : Int), 0)) (by rw [hw0]; exact T.w) (S.cells _ hob).2)) fun _ H7 h7 => ?_;rw [hobj, hw0] at h7;rw [hobj, hw0];cases hf : ie t.w (σ.μ.V (12, (t.obj : Int), 0)) (au σ t.obj).length
 ·refine gs ?_
  by_cases hw : aR t.w = 1
  ·refine aa (bw hw) ?_
   refine gs ?_;refine bv h7 ac rfl rfl fun H8 h8 => ?_;refine ai (cw ..) ?_;exact ap (dr (g := g) (σ' := iZ σ t) (t' := { t with at' := 9 }) (k := { k with a := 9, obj := t.obj, w := t.w, h := σ.μ.V (12, (t.obj : Int), 0) }) (by simp only [ah, hat, jw, hf]; rw [if_pos hw]; rfl) (by simp [hU]) (ay (σ := σ) hg (by simp) rfl) h8.to)
  ·refine aa (aD hw) ?_
   refine gs ?_;refine bv h7 ac rfl rfl fun H8 h8 => ?_;refine ai (cw ..) ?_;exact ap (dr (g := g) (σ' := iZ σ t) (t' := { t with at' := 12 }) (k := { k with a := 12, obj := t.obj, w := t.w, h := σ.μ.V (12, (t.obj : Int), 0) }) (by simp only [ah, hat, jw, hf]; rw [if_neg hw]; rfl) (by simp [hU]) (ay (σ := σ) hg (by simp) rfl) h8.to)
 ·refine gs ?_
  refine bv h7 ac rfl rfl fun H8 h8 => ?_;refine ai (cw ..) ?_;exact ap (dr (g := g) (σ' := iZ σ t) (t' := { t with at' := 15 }) (k := { k with a := 15, obj := t.obj, w := t.w, h := σ.μ.V (12, (t.obj : Int), 0) }) (by simp only [ah, hat, jw, hf]; rfl) (by simp [hU]) (ay (σ := σ) hg (by simp) rfl) h8.to)
theorem Iq (g : XIds) (k : Xk) (S : SOk σ) (hg : eF g σ) (ha : k.a = 9 ∨ k.a = 13) (b : Nat) (ho : k.obj < σ.obs.length) (hb : g.rp[k.obj]? = some b) (hw0 : k.w < 18446744073709551616) :
 Sp jM [vp x, vi now] (xB x P t k * av P g σ) (fun _ : Value => .tuple #[]) (fun v => if dY σ.μ k.obj k.w (aQ k.w 0) = true then
  xB x P t { k with q := if k.a = 13 then 1 else 0, a := k.a + 1, code := 0 } * av P { g with pv := v } ((σ.mem (σ.μ.turn t.who k.obj k.w (aQ k.w 0))).note now t.who 0)
  else xB x P t { k with q := if k.a = 13 then 1 else 0, a := if k.a = 13 then 20 else 7 } * av P g (σ.mem (σ.μ.turn t.who k.obj k.w (aQ k.w 0)))) := by
 have hN : σ.μ.N < 1099511627000 := by have := S.N; omega
 have hl := hg.1
 have hturn : σ.μ.N ≤ (σ.μ.turn t.who k.obj k.w (aQ k.w 0)).N := by cases aQ k.w 0 <;> simp
 have hturn2 : (σ.μ.turn t.who k.obj k.w (aQ k.w 0)).N ≤ σ.μ.N + 2 := by cases aQ k.w 0 <;> simp
 refine bp (uL _ _) fun R H h => ?_;refine bv h ac rfl rfl fun H1 h1 => ?_;refine ai (qf ..) ?_;refine ak h1 ac rfl ?_
 have main : ∀ (q : Nat) (H2 : AH), q = (if k.a = 13 then 1 else 0) → ae (xB x P t { k with q := q } * (av P g σ * R)) H2 → wp (gf (vp x) (vi now) H2) fun v' H' => ∃ v : Value, v' = .tuple #[] ∧ ae ((if dY σ.μ k.obj k.w (aQ k.w 0) = true then
  xB x P t { k with q := if k.a = 13 then 1 else 0, a := k.a + 1, code := 0 } * av P { g with pv := v } ((σ.mem (σ.μ.turn t.who k.obj k.w (aQ k.w 0))).note now t.who 0)
  else xB x P t { k with q := if k.a = 13 then 1 else 0, a := if k.a = 13 then 20 else 7 } * av P g (σ.mem (σ.μ.turn t.who k.obj k.w (aQ k.w 0)))) * R) H' := by
  intro q H2 hq h2;refine ai (qg ..) ?_;refine ag h2 (jr x P g σ t { k with q := q } hl b ho hb) fun _ H3 h3 => ?_;refine bD ac ?_;refine aY h3 rfl ?_;refine aG h2 h3 (by rfl) ?_;refine bD ac ?_;refine aY h3 rfl ?_;refine aG h2 h3 (by rfl) ?_;refine ag h3 (lF (p := P) (μ' := σ.μ.turn t.who k.obj k.w (aQ k.w 0)) hturn hl ho hb (BM g.m k.obj b (au σ k.obj) σ.μ t.who k.w 0 (by omega) hw0 hN)) fun _ H4 h4 => ?_;cases hw : dY σ.μ k.obj k.w (aQ k.w 0)
  ·refine gs ?_
   refine ak h4 ac rfl ?_
   rcases ha with ha | ha
   ·refine aa (bw (show ((k.a : Nat) : Int) = 9 by omega)) ?_
    refine gs ?_;refine bv h4 ac rfl rfl fun H5 h5 => ?_;refine ap ⟨.bool true, rfl, ?_⟩;rw [if_neg (by simp)];simp only [hq] at h5;rw [if_neg (by omega)] at h5 ⊢;rw [if_neg (by omega)];exact h5.to
   ·refine aa (aD (show ¬ ((k.a : Nat) : Int) = 9 by omega)) ?_
    refine gs ?_;refine bv h4 ac rfl rfl fun H5 h5 => ?_;refine ap ⟨.bool true, rfl, ?_⟩;rw [if_neg (by simp)];simp only [hq] at h5;rw [if_pos ha] at h5 ⊢;rw [if_pos ha];exact h5.to
  ·refine gs ?_
   refine ag h4 (jq x P g (σ.mem (σ.μ.turn t.who k.obj k.w (aQ k.w 0))) t { k with q := q } (ay (σ := σ) hg hturn rfl) now 0 (by have := S.N; show (σ.μ.turn t.who k.obj k.w (aQ k.w 0)).N < _; omega) S.pts) fun v H5 h5 => ?_;refine ak h5 ac rfl ?_;refine aa (bu (a := ((k.a : Nat) : Int)) (b := 1) (by omega) (by omega)) ?_;rw [show ((k.a : Nat) : Int) + 1 = ((k.a + 1 : Nat) : Int) from by omega];refine bv h5 ac rfl rfl fun H6 h6 => ?_;refine ap ⟨v, rfl, ?_⟩;rw [if_pos rfl];simp only [hq] at h6;exact h6.to
 rcases ha with ha | ha
 ·refine aa (aD (by omega)) ?_
  refine gs ?_;exact main 0 H1 (by rw [if_neg (by omega)]) h1.to
 ·refine aa (bw (by omega)) ?_
  refine gs ?_;refine bv h1 ac rfl rfl fun H2 h2 => ?_;exact main 1 H2 (by rw [if_pos ha]) h2.to
theorem XE (S : SOk σ) (T : gT σ t) (hat : t.at' = 9) : Sp ez [vp x, vi now] (xP x P σ t) (fun _ : Unit => vb (ah σ t now).2.2) (fun _ => xQ x P (ah σ t now)) := by
 have hN : σ.μ.N < 1099511627000 := by have := S.N; omega
 refine aM fun R H h => ?_;obtain ⟨k, g, hR, hg, h0⟩ := cP h;have hl := hg.1;simp only [hU, hat] at hR;obtain ⟨ha, hobj, hw0⟩ := hR;have ho := T.obj (.inl (by omega))
 have hob : k.obj < σ.obs.length := by omega
 obtain ⟨b, hb⟩ : ∃ b, g.rp[k.obj]? = some b := ⟨_, cM (by omega)⟩;refine bX x P g σ t k now S T (by omega) h0 fun b1 H1 h1 => ?_;refine ch8 (by omega) ?_;refine aa (aD (by omega)) ?_;refine ai (oy ..) ?_;refine gs ?_;refine aa (bw (by omega)) ?_;refine gs ?_;refine ai (s5 ..) ?_;refine gs ?_
 have hturn : σ.μ.N ≤ (σ.μ.turn t.who k.obj k.w (aQ k.w 0)).N := by cases aQ k.w 0 <;> simp
 refine ag h1 (Iq x P σ t now g k S hg (by omega) b hob hb (by rw [hw0]; exact T.w)) fun v H2 h2 => ?_;refine ai (cw ..) ?_;cases hw : dY σ.μ t.obj t.w (aQ t.w 0)
 ·rw [if_neg (by rw [hobj, hw0, hw]; simp)] at h2
  rw [hobj, hw0, ha, if_neg (by omega), if_neg (by omega)] at h2;exact ap (dr (g := g) (σ' := σ.mem (σ.μ.turn t.who t.obj t.w (aQ t.w 0))) (t' := { t with at' := 7 }) (k := { k with a := 7, obj := t.obj, w := t.w, q := 0 }) (by simp only [ah, hat, hw]; rfl) (by simp [hU]) (ay (σ := σ) hg (by rw [hobj, hw0] at hturn; exact hturn) rfl) h2.to)
 ·rw [if_pos (by rw [hobj, hw0, hw])] at h2
  rw [hobj, hw0, ha, if_neg (by omega)] at h2;exact ap (dr (g := { g with pv := v }) (σ' := (σ.mem (σ.μ.turn t.who t.obj t.w (aQ t.w 0))).note now t.who 0) (t' := { t with at' := 10, code := 0 }) (k := { k with a := 10, obj := t.obj, w := t.w, q := 0, code := 0 }) (by simp only [ah, hat, hw]; rfl) (by simp [hU]) (dD (σ := σ) hg (by rw [hobj, hw0] at hturn; exact hturn) rfl) h2.to)
theorem Vq (S : SOk σ) (T : gT σ t) (hat : t.at' = 13) : Sp ez [vp x, vi now] (xP x P σ t) (fun _ : Unit => vb (ah σ t now).2.2) (fun _ => xQ x P (ah σ t now)) := by
 have hN : σ.μ.N < 1099511627000 := by have := S.N; omega
 refine aM fun R H h => ?_;obtain ⟨k, g, hR, hg, h0⟩ := cP h;have hl := hg.1;simp only [hU, hat] at hR;obtain ⟨ha, hobj, hw0⟩ := hR;have ho := T.obj (.inl (by omega))
 have hob : k.obj < σ.obs.length := by omega
 obtain ⟨b, hb⟩ : ∃ b, g.rp[k.obj]? = some b := ⟨_, cM (by omega)⟩;refine bX x P g σ t k now S T (by omega) h0 fun b1 H1 h1 => ?_;refine ch8 (by omega) ?_;refine aa (aD (by omega)) ?_;refine ai (oy ..) ?_;refine gs ?_;refine aa (aD (by omega)) ?_;refine gs ?_;refine aa (bw (by omega)) ?_;refine ai (s5 ..) ?_;refine gs ?_
 have hturn : σ.μ.N ≤ (σ.μ.turn t.who k.obj k.w (aQ k.w 0)).N := by cases aQ k.w 0 <;> simp
 refine ag h1 (Iq x P σ t now g k S hg (by omega) b hob hb (by rw [hw0]; exact T.w)) fun v H2 h2 => ?_;refine ai (cw ..) ?_;cases hw : dY σ.μ t.obj t.w (aQ t.w 0)
 ·rw [if_neg (by rw [hobj, hw0, hw]; simp)] at h2
  rw [hobj, hw0, ha, if_pos rfl, if_pos rfl] at h2;exact ap (dr (g := g) (σ' := σ.mem (σ.μ.turn t.who t.obj t.w (aQ t.w 0))) (t' := { t with at' := 20 }) (k := { k with a := 20, obj := t.obj, w := t.w, q := 1 }) (by simp only [ah, hat, hw]; rfl) (by simp [hU]) (ay (σ := σ) hg (by rw [hobj, hw0] at hturn; exact hturn) rfl) h2.to)
 ·rw [if_pos (by rw [hobj, hw0, hw])] at h2
  rw [hobj, hw0, ha, if_pos rfl] at h2;exact ap (dr (g := { g with pv := v }) (σ' := (σ.mem (σ.μ.turn t.who t.obj t.w (aQ t.w 0))).note now t.who 0) (t' := { t with at' := 14, code := 0 }) (k := { k with a := 14, obj := t.obj, w := t.w, q := 1, code := 0 }) (by simp only [ah, hat, hw]; rfl) (by simp [hU]) (dD (σ := σ) hg (by rw [hobj, hw0] at hturn; exact hturn) rfl) h2.to)
theorem Vn (S : SOk σ) (T : gT σ t) (hat : t.at' = 10) : Sp ez [vp x, vi now] (xP x P σ t) (fun _ : Unit => vb (ah σ t now).2.2) (fun _ => xQ x P (ah σ t now)) := by
 have hN : σ.μ.N < 1099511627000 := by have := S.N; omega
 refine aM fun R H h => ?_;obtain ⟨k, g, hR, hg, h0⟩ := cP h;have hl := hg.1;simp only [hU, hat] at hR;obtain ⟨ha, hobj, hw0, hq, hcode⟩ := hR;have ho := T.obj (.inl (by omega))
 have hob : k.obj < σ.obs.length := by omega
 obtain ⟨b, hb⟩ : ∃ b, g.rp[k.obj]? = some b := ⟨_, cM (by omega)⟩;refine bX x P g σ t k now S T (by omega) h0 fun b1 H1 h1 => ?_;refine Yx (by omega) ?_;refine aa (bw (by omega)) ?_;refine gs ?_;refine ai (s6 ..) ?_;refine gs ?_;refine ag h1 (jr x P g σ t k hl b hob hb) fun _ H2 h2 => ?_;refine bD ac ?_;refine aY h2 rfl ?_;refine aG h1 h2 (by rfl) ?_;refine ag h2 (vj x P t k (by rw [hw0]; exact T.w)) fun _ H3 h3 => ?_;refine aG h3 h2 (by rfl) ?_;refine aV h3 ?_;refine d7 h1 h3 rfl ?_;refine d7 h2 h3 rfl ?_;refine ag h3 (DD (p := P) (μ' := σ.μ.acc t.who 6 (16, (k.obj : Int), ((aI k.w % (au σ k.obj).length : Nat) : Int))) (by simp) hl hob hb (DA g.m k.obj b (au σ k.obj) σ.μ t.who (aI k.w) ⟨t.x.flow, t.x.a, t.x.b⟩ (S.cells _ hob) hN)) fun _ H4 h4 => ?_;refine bv h4 ac rfl rfl fun H5 h5 => ?_;refine ak h5 ac rfl ?_;refine aa (aD (by omega)) ?_;refine gs ?_;refine ai (cw ..) ?_;have e1 := yQ σ t;rw [hobj, hw0, ← e1] at h5;exact ap (dr (g := g) (σ' := nz σ t) (t' := { t with at' := 11 }) (k := { k with a := 11, obj := t.obj, w := t.w }) (by simp only [ah, hat]) (by simp [hU, hcode]) (ay (σ := σ) hg (by simp) (i0 σ t)) h5.to)
theorem Vr (S : SOk σ) (T : gT σ t) (hat : t.at' = 14) : Sp ez [vp x, vi now] (xP x P σ t) (fun _ : Unit => vb (ah σ t now).2.2) (fun _ => xQ x P (ah σ t now)) := by
 have hN : σ.μ.N < 1099511627000 := by have := S.N; omega
 refine aM fun R H h => ?_;obtain ⟨k, g, hR, hg, h0⟩ := cP h;have hl := hg.1;simp only [hU, hat] at hR;obtain ⟨ha, hobj, hw0, hq, hcode⟩ := hR;have ho := T.obj (.inl (by omega))
 have hob : k.obj < σ.obs.length := by omega
 obtain ⟨b, hb⟩ : ∃ b, g.rp[k.obj]? = some b := ⟨_, cM (by omega)⟩;refine bX x P g σ t k now S T (by omega) h0 fun b1 H1 h1 => ?_;refine Yx (by omega) ?_;refine aa (aD (by omega)) ?_;refine gs ?_;refine aa (bw (by omega)) ?_;refine ai (s6 ..) ?_;refine gs ?_;refine ag h1 (jr x P g σ t k hl b hob hb) fun _ H2 h2 => ?_;refine bD ac ?_;refine aY h2 rfl ?_;refine aG h1 h2 (by rfl) ?_;refine ag h2 (vj x P t k (by rw [hw0]; exact T.w)) fun _ H3 h3 => ?_;refine aG h3 h2 (by rfl) ?_;refine aV h3 ?_;refine d7 h1 h3 rfl ?_;refine d7 h2 h3 rfl ?_;refine ag h3 (DD (p := P) (μ' := σ.μ.acc t.who 6 (16, (k.obj : Int), ((aI k.w % (au σ k.obj).length : Nat) : Int))) (by simp) hl hob hb (DA g.m k.obj b (au σ k.obj) σ.μ t.who (aI k.w) ⟨t.x.flow, t.x.a, t.x.b⟩ (S.cells _ hob) hN)) fun _ H4 h4 => ?_;refine bv h4 ac rfl rfl fun H5 h5 => ?_;refine ak h5 ac rfl ?_;refine aa (bw (by omega)) ?_;refine gs ?_;refine bv h5 ac rfl rfl fun H6 h6 => ?_;refine ai (cw ..) ?_;have e1 := yQ σ t;rw [hobj, hw0, ← e1] at h6;exact ap (dr (g := g) (σ' := nz σ t) (t' := { t with at' := 21 }) (k := { k with a := 21, obj := t.obj, w := t.w }) (by simp only [ah, hat]) (by simp [hU, hcode]) (ay (σ := σ) hg (by simp) (i0 σ t)) h6.to)
theorem Vo (S : SOk σ) (T : gT σ t) (hat : t.at' = 11) : Sp ez [vp x, vi now] (xP x P σ t) (fun _ : Unit => vb (ah σ t now).2.2) (fun _ => xQ x P (ah σ t now)) := by
 have hN : σ.μ.N < 1099511627000 := by have := S.N; omega
 refine aM fun R H h => ?_;obtain ⟨k, g, hR, hg, h0⟩ := cP h;have hl := hg.1;simp only [hU, hat] at hR;obtain ⟨ha, hobj, hw0, hcode⟩ := hR;have ho := T.obj (.inl (by omega))
 have hob : k.obj < σ.obs.length := by omega
 obtain ⟨b, hb⟩ : ∃ b, g.rp[k.obj]? = some b := ⟨_, cM (by omega)⟩;refine bX x P g σ t k now S T (by omega) h0 fun b1 H1 h1 => ?_;refine Yy (by omega) ?_;refine aa (bw (by omega)) ?_;refine ai (s7 ..) ?_;refine gs ?_;refine ag h1 (jr x P g σ t k hl b hob hb) fun _ H2 h2 => ?_;refine bD ac ?_;refine aY h2 rfl ?_;refine aG h1 h2 (by rfl) ?_;refine ag h2 (vj x P t k (by rw [hw0]; exact T.w)) fun _ H3 h3 => ?_;refine aG h3 h2 (by rfl) ?_;have hwc := eh k.w;refine ag h3 (lF (p := P) (μ' := (σ.μ.acc t.who 2 (15, (k.obj : Int), ((aI k.w % (au σ k.obj).length : Nat) : Int))).put (15, (k.obj : Int), ((aI k.w % (au σ k.obj).length : Nat) : Int)) (aI k.w + 1)) (by simp) hl hob hb (BL g.m k.obj b (au σ k.obj) σ.μ t.who (aI k.w) (by omega) (S.cells _ hob) hN)) fun _ H4 h4 => ?_;rw [hobj, hw0] at h4;exact ap (BH (g := g) (k := k) (σ' := qq σ t) (t' := t) (by simp only [ah, hat]) hcode (ay (σ := σ) hg (by simp) rfl) h4.to)
theorem Vp (S : SOk σ) (T : gT σ t) (hat : t.at' = 12) : Sp ez [vp x, vi now] (xP x P σ t) (fun _ : Unit => vb (ah σ t now).2.2) (fun _ => xQ x P (ah σ t now)) := by
 have hN : σ.μ.N < 1099511627000 := by have := S.N; omega
 refine aM fun R H h => ?_;obtain ⟨k, g, hR, hg, h0⟩ := cP h;have hl := hg.1;simp only [hU, hat] at hR;obtain ⟨ha, hobj, hw0⟩ := hR;have ho := T.obj (.inl (by omega))
 have hob : k.obj < σ.obs.length := by omega
 obtain ⟨b, hb⟩ : ∃ b, g.rp[k.obj]? = some b := ⟨_, cM (by omega)⟩;refine bX x P g σ t k now S T (by omega) h0 fun b1 H1 h1 => ?_;refine Yy (by omega) ?_;refine aa (aD (by omega)) ?_;refine ai (s7 ..) ?_;refine gs ?_;refine aa (bw (by omega)) ?_;refine ai (A4 ..) ?_;refine gs ?_;refine ak h1 ac rfl ?_;refine ak h1 ac rfl ?_;refine ag h1 (vq (p := P) (g := g) (σ := σ) (μ' := σ.μ.cnt t.who (3, 0, 0) 4294967296) (L := σ.μ.N) (by simp) (FS g.ib g.m σ.c.sh σ.nx σ.μ.N σ.μ t.who hN)) fun _ H2 h2 => ?_;refine bv h2 ac rfl rfl fun H3 h3 => ?_;refine ai (cw ..) ?_;exact ap (dr (g := g) (σ' := σ.mem (σ.μ.cnt t.who (3, 0, 0) 4294967296)) (t' := { t with at' := 13 }) (k := { k with a := 13 }) (by simp only [ah, hat]) (by simp [hU, hobj, hw0]) (ay (σ := σ) hg (by simp) rfl) h3.to)
theorem Vs (S : SOk σ) (T : gT σ t) (hat : t.at' = 15) : Sp ez [vp x, vi now] (xP x P σ t) (fun _ : Unit => vb (ah σ t now).2.2) (fun _ => xQ x P (ah σ t now)) := by
 have hN : σ.μ.N < 1099511627000 := by have := S.N; omega
 refine aM fun R H h => ?_;obtain ⟨k, g, hR, hg, h0⟩ := cP h;have hl := hg.1;simp only [hU, hat] at hR;obtain ⟨ha, hobj⟩ := hR;have ho := T.obj (.inl (by omega))
 have hob : k.obj < σ.obs.length := by omega
 obtain ⟨b, hb⟩ : ∃ b, g.rp[k.obj]? = some b := ⟨_, cM (by omega)⟩;refine bX x P g σ t k now S T (by omega) h0 fun b1 H1 h1 => ?_;refine Rs (by omega) ?_;refine aa (bw (by omega)) ?_;refine gs ?_;refine ai (ma ..) ?_;refine gs ?_;refine m8 ?_;refine bj (fun r => Fu _ _ H1) ?_;refine ai (q7 ..) ?_;refine ak h1 ac rfl ?_;refine ai (q8 ..) ?_;refine aa (bw (by omega)) ?_;refine gs ?_;refine ak h1 ac rfl ?_;refine ak h1 ac rfl ?_;refine ag h1 (oC P g σ t.who S.N) fun _ H2 h2 => ?_;refine bv h2 ac rfl rfl fun H3 h3 => ?_;refine bv h3 ac rfl rfl fun H4 h4 => ?_;refine ak h4 ac rfl ?_;refine aa (Dc 2 (by omega)) ?_
 by_cases hw : σ.μ.V (2, 0, 0) % 2 = 1
 ·refine aa (bw (show ((σ.μ.V (2, 0, 0) % 2 : Nat) : Int) = 1 by omega)) ?_
  refine gs ?_;refine bv h4 ac rfl rfl fun H5 h5 => ?_;refine ai (jQ ..) ?_;exact ap (dr (g := g) (σ' := d9 σ t) (t' := { t with at' := 7, q := σ.μ.V (2, 0, 0) }) (k := { k with a := 7, q := σ.μ.V (2, 0, 0) }) (by simp only [ah, hat]; rw [if_pos hw]) (by simp [hU, hobj]) (ay (σ := σ) hg (by simp) rfl) h5.to)
 ·refine aa (aD (show ¬ ((σ.μ.V (2, 0, 0) % 2 : Nat) : Int) = 1 by omega)) ?_
  refine gs ?_;refine ai (jQ ..) ?_;exact ap (dr (g := g) (σ' := d9 σ t) (t' := { t with at' := 16, q := σ.μ.V (2, 0, 0) }) (k := { k with a := 16, q := σ.μ.V (2, 0, 0) }) (by simp only [ah, hat]; rw [if_neg hw]) (by simp [hU, hobj]) (ay (σ := σ) hg (by simp) rfl) h4.to)
theorem Vt (S : SOk σ) (T : gT σ t) (hat : t.at' = 16) : Sp ez [vp x, vi now] (xP x P σ t) (fun _ : Unit => vb (ah σ t now).2.2) (fun _ => xQ x P (ah σ t now)) := by
 have hN : σ.μ.N < 1099511627000 := by have := S.N; omega
 refine aM fun R H h => ?_;obtain ⟨k, g, hR, hg, h0⟩ := cP h;have hl := hg.1;simp only [hU, hat] at hR;obtain ⟨ha, hobj, hq⟩ := hR;have ho := T.obj (.inl (by omega))
 have hob : k.obj < σ.obs.length := by omega
 obtain ⟨b, hb⟩ : ∃ b, g.rp[k.obj]? = some b := ⟨_, cM (by omega)⟩;refine bX x P g σ t k now S T (by omega) h0 fun b1 H1 h1 => ?_;refine Rs (by omega) ?_;refine aa (aD (by omega)) ?_;refine gs ?_;refine aa (bw (by omega)) ?_;refine gs ?_;refine ai (ma ..) ?_;refine gs ?_;refine m8 ?_;refine bj (fun r => Fu _ _ H1) ?_;refine ai (q7 ..) ?_;refine ak h1 ac rfl ?_;refine ai (q8 ..) ?_;refine aa (aD (by omega)) ?_;refine gs ?_;refine aa (bw (by omega)) ?_;refine gs ?_;refine bv h1 ac rfl rfl fun H2 h2 => ?_;refine ag h2 (y6 x P g σ t { k with a := 17 } S hl b hob hb) fun _ H3 h3 => ?_;dsimp only at h3;rw [hobj] at h3
 by_cases hw : aR (σ.μ.V (11, (t.obj : Int), 0)) = 2
 ·refine aa (bw (by rw [hobj]; exact hw)) ?_
  refine gs ?_;refine bv h3 ac rfl rfl fun H4 h4 => ?_;refine ai (jQ ..) ?_;exact ap (dr (g := g) (σ' := da σ t) (t' := { t with at' := 3, w := σ.μ.V (11, (t.obj : Int), 0) }) (k := { k with a := 3, obj := t.obj, w := σ.μ.V (11, (t.obj : Int), 0) }) (by simp only [ah, hat]; rw [if_pos hw]) (by simp [hU]) (ay (σ := σ) hg (by simp) rfl) h4.to)
 ·refine aa (aD (by rw [hobj]; exact hw)) ?_
  refine gs ?_;refine ai (jQ ..) ?_;exact ap (dr (g := g) (σ' := da σ t) (t' := { t with at' := 17, w := σ.μ.V (11, (t.obj : Int), 0) }) (k := { k with a := 17, obj := t.obj, w := σ.μ.V (11, (t.obj : Int), 0) }) (by simp only [ah, hat]; rw [if_neg hw]) (by simp [hU, hq]) (ay (σ := σ) hg (by simp) rfl) h3.to)
theorem Vu (S : SOk σ) (T : gT σ t) (hat : t.at' = 17) : Sp ez [vp x, vi now] (xP x P σ t) (fun _ : Unit => vb (ah σ t now).2.2) (fun _ => xQ x P (ah σ t now)) := by
 have hN : σ.μ.N < 1099511627000 := by have := S.N; omega
 refine aM fun R H h => ?_;obtain ⟨k, g, hR, hg, h0⟩ := cP h;have hl := hg.1;simp only [hU, hat] at hR;obtain ⟨ha, hobj, hw0, hq⟩ := hR;have ho := T.obj (.inl (by omega))
 have hob : k.obj < σ.obs.length := by omega
 obtain ⟨b, hb⟩ : ∃ b, g.rp[k.obj]? = some b := ⟨_, cM (by omega)⟩;refine bX x P g σ t k now S T (by omega) h0 fun b1 H1 h1 => ?_;refine Rs (by omega) ?_;refine aa (aD (by omega)) ?_;refine gs ?_;refine aa (aD (by omega)) ?_;refine gs ?_;refine aa (bw (by omega)) ?_;refine gs ?_;refine ai (ma ..) ?_;refine gs ?_;refine m8 ?_;refine bj (fun r => Fu _ _ H1) ?_;refine ai (q7 ..) ?_;refine ak h1 ac rfl ?_;refine ai (q8 ..) ?_;refine aa (aD (by omega)) ?_;refine gs ?_;refine aa (aD (by omega)) ?_;refine gs ?_;refine aa (bw (by omega)) ?_;refine gs ?_;refine ag h1 (jr x P g σ t k hl b hob hb) fun _ H2 h2 => ?_;refine bD ac ?_;refine aY h2 rfl ?_;refine aG h1 h2 (by rfl) ?_;refine ag h2 (lF (p := P) (μ' := σ.μ.acc t.who 1 (12, (k.obj : Int), 0)) (by simp) hl hob hb (BK g.m k.obj b (au σ k.obj) σ.μ t.who hN)) fun _ H3 h3 => ?_;refine bv h3 ac rfl rfl fun H4 h4 => ?_;refine bv h4 ac rfl rfl fun H5 h5 => ?_;refine bv h5 ac rfl rfl fun H6 h6 => ?_;refine ag h6 (jr x P g (σ.mem (σ.μ.acc t.who 1 (12, (k.obj : Int), 0))) t { k with h := σ.μ.V (12, (k.obj : Int), 0), mark := now, a := 18 } hl b hob hb) fun _ H7 h7 => ?_;refine bD ac ?_;refine aY h7 rfl ?_;refine aG h6 h7 (by rfl) ?_;refine bD ac ?_;refine aY h7 rfl ?_;refine aG h6 h7 (by rfl) ?_;refine ag h7 (FZ (p := P) (σ := σ.mem (σ.μ.acc t.who 1 (12, (k.obj : Int), 0))) hl hob hb (BJ g.m k.obj b (au σ k.obj) k.w (σ.μ.V (12, (k.obj : Int), 0)) (by rw [hw0]; exact T.w) (S.cells _ hob).2)) fun _ H8 h8 => ?_;rw [hobj, hw0] at h8;rw [hobj, hw0];cases hf : ie t.w (σ.μ.V (12, (t.obj : Int), 0)) (au σ t.obj).length
 ·refine gs ?_
  rw [Bool.not_false];refine gs ?_;refine bv h8 ac rfl rfl fun H9 h9 => ?_;refine ai (jQ ..) ?_;exact ap (dr (g := g) (σ' := iZ σ t) (t' := { t with at' := 7 }) (k := { k with a := 7, obj := t.obj, w := t.w, h := σ.μ.V (12, (t.obj : Int), 0), mark := now }) (by simp only [ah, hat, jw, hf]; rfl) (by simp [hU]) (ay (σ := σ) hg (by simp) rfl) h9.to)
 ·refine gs ?_
  rw [Bool.not_true];refine gs ?_;refine ai (jQ ..) ?_;exact ap (dr (g := g) (σ' := iZ σ t) (t' := { t with at' := 18, mark := now }) (k := { k with a := 18, obj := t.obj, w := t.w, h := σ.μ.V (12, (t.obj : Int), 0), mark := now }) (by simp only [ah, hat, jw, hf]; rfl) (by simp [hU, hq]) (ay (σ := σ) hg (by simp) rfl) h8.to)
theorem Vv (S : SOk σ) (T : gT σ t) (hat : t.at' = 18) : Sp ez [vp x, vi now] (xP x P σ t) (fun _ : Unit => vb (ah σ t now).2.2) (fun _ => xQ x P (ah σ t now)) := by
 have hN : σ.μ.N < 1099511627000 := by have := S.N; omega
 refine aM fun R H h => ?_;obtain ⟨k, g, hR, hg, h0⟩ := cP h;have hl := hg.1;simp only [hU, hat] at hR;obtain ⟨ha, hobj, hq, hm⟩ := hR;have ho := T.obj (.inl (by omega))
 have hob : k.obj < σ.obs.length := by omega
 obtain ⟨b, hb⟩ : ∃ b, g.rp[k.obj]? = some b := ⟨_, cM (by omega)⟩;refine bX x P g σ t k now S T (by omega) h0 fun b1 H1 h1 => ?_;refine Rs (by omega) ?_;refine aa (aD (by omega)) ?_;refine gs ?_;refine aa (aD (by omega)) ?_;refine gs ?_;refine aa (aD (by omega)) ?_;refine gs ?_;refine aa (bw (by omega)) ?_;refine ai (ma ..) ?_;refine gs ?_;refine m8 ?_;refine bj (fun r => Fu _ _ H1) ?_;refine ai (q7 ..) ?_;refine ak h1 ac rfl ?_;refine ai (q8 ..) ?_;refine aa (aD (by omega)) ?_;refine gs ?_;refine aa (aD (by omega)) ?_;refine gs ?_;refine aa (aD (by omega)) ?_;refine gs ?_;refine aa (bw (by omega)) ?_;refine gs ?_;refine ak h1 ac rfl ?_;refine ak h1 ac rfl ?_;refine ag h1 (oC P g σ t.who S.N) fun _ H2 h2 => ?_;refine bD ac ?_;refine aY h2 rfl ?_;refine aG h1 h2 (by rfl) ?_
 by_cases hw : σ.μ.V (2, 0, 0) = t.q
 ·refine aa (bw (show ((σ.μ.V (2, 0, 0) : Nat) : Int) = (k.q : Int) by omega)) ?_
  refine gs ?_;refine ak h2 ac rfl ?_;rw [hm];refine ag h2 (jq x P g (d9 σ t) t k (ay (σ := σ) hg (by simp) rfl) t.mark 9 (by have := S.N; show σ.μ.N + 2 < _; omega) S.pts) fun v H3 h3 => ?_;exact ap (BH (g := { g with pv := v }) (k := { k with code := 9 }) (σ' := (d9 σ t).note t.mark t.who 9) (t' := { t with code := 9 }) (by simp only [ah, hat]; rw [if_pos hw]) rfl (dD (σ := σ) hg (by simp) rfl) h3.to)
 ·refine aa (aD (show ¬ ((σ.μ.V (2, 0, 0) : Nat) : Int) = (k.q : Int) by omega)) ?_
  refine gs ?_;refine bv h2 ac rfl rfl fun H3 h3 => ?_;refine ai (jQ ..) ?_;exact ap (dr (g := g) (σ' := d9 σ t) (t' := { t with at' := 7 }) (k := { k with a := 7 }) (by simp only [ah, hat]; rw [if_neg hw]) (by simp [hU, hobj]) (ay (σ := σ) hg (by simp) rfl) h3.to)
theorem Vw (S : SOk σ) (T : gT σ t) (hat : t.at' = 20) : Sp ez [vp x, vi now] (xP x P σ t) (fun _ : Unit => vb (ah σ t now).2.2) (fun _ => xQ x P (ah σ t now)) := by
 have hN : σ.μ.N < 1099511627000 := by have := S.N; omega
 refine aM fun R H h => ?_;obtain ⟨k, g, hR, hg, h0⟩ := cP h;have hl := hg.1;simp only [hU, hat] at hR;obtain ⟨ha, hobj⟩ := hR;have ho := T.obj (.inl (by omega))
 have hob : k.obj < σ.obs.length := by omega
 obtain ⟨b, hb⟩ : ∃ b, g.rp[k.obj]? = some b := ⟨_, cM (by omega)⟩;refine bX x P g σ t k now S T (by omega) h0 fun b1 H1 h1 => ?_;refine Zv (by omega) ?_;refine m8 ?_;refine bj (fun r => ww _ _ H1) ?_;refine ak h1 ac rfl ?_;refine ai (lw ..) ?_;refine ak h1 ac rfl ?_;refine ai (ly ..) ?_;refine aa (bw (by omega)) ?_;refine gs ?_;refine ak h1 ac rfl ?_;refine ak h1 ac rfl ?_;refine ag h1 (vq (p := P) (g := g) (σ := σ) (μ' := σ.μ.cnt t.who (3, 0, 0) 1) (L := σ.μ.N) (by simp) (BI g.ib g.m σ.c.sh σ.nx σ.μ.N σ.μ t.who hN)) fun _ H2 h2 => ?_;refine bv h2 ac rfl rfl fun H3 h3 => ?_;refine ai (lx ..) ?_;exact ap (dr (g := g) (σ' := σ.mem (σ.μ.cnt t.who (3, 0, 0) 1)) (t' := { t with at' := 7 }) (k := { k with a := 7 }) (by simp only [ah, hat]) (by simp [hU, hobj]) (ay (σ := σ) hg (by simp) rfl) h3.to)
theorem Vx (S : SOk σ) (T : gT σ t) (hat : t.at' = 21) : Sp ez [vp x, vi now] (xP x P σ t) (fun _ : Unit => vb (ah σ t now).2.2) (fun _ => xQ x P (ah σ t now)) := by
 have hN : σ.μ.N < 1099511627000 := by have := S.N; omega
 refine aM fun R H h => ?_;obtain ⟨k, g, hR, hg, h0⟩ := cP h;have hl := hg.1;simp only [hU, hat] at hR;obtain ⟨ha, hobj, hw0, hcode⟩ := hR;have ho := T.obj (.inl (by omega))
 have hob : k.obj < σ.obs.length := by omega
 obtain ⟨b, hb⟩ : ∃ b, g.rp[k.obj]? = some b := ⟨_, cM (by omega)⟩;refine bX x P g σ t k now S T (by omega) h0 fun b1 H1 h1 => ?_;refine Zv (by omega) ?_;refine m8 ?_;refine bj (fun r => ww _ _ H1) ?_;refine ak h1 ac rfl ?_;refine ai (lw ..) ?_;refine ak h1 ac rfl ?_;refine ai (ly ..) ?_;refine aa (aD (by omega)) ?_;refine gs ?_;refine aa (bw (by omega)) ?_;refine gs ?_;refine ag h1 (jr x P g σ t k hl b hob hb) fun _ H2 h2 => ?_;refine bD ac ?_;refine aY h2 rfl ?_;refine aG h1 h2 (by rfl) ?_;refine ag h2 (vj x P t k (by rw [hw0]; exact T.w)) fun _ H3 h3 => ?_;refine aG h3 h2 (by rfl) ?_;have hwc := eh k.w;refine ag h3 (lF (p := P) (μ' := (σ.μ.acc t.who 2 (15, (k.obj : Int), ((aI k.w % (au σ k.obj).length : Nat) : Int))).put (15, (k.obj : Int), ((aI k.w % (au σ k.obj).length : Nat) : Int)) (aI k.w + 1)) (by simp) hl hob hb (BL g.m k.obj b (au σ k.obj) σ.μ t.who (aI k.w) (by omega) (S.cells _ hob) hN)) fun _ H4 h4 => ?_;refine bv h4 ac rfl rfl fun H5 h5 => ?_;refine ai (lx ..) ?_;rw [hobj, hw0] at h5;exact ap (dr (g := g) (σ' := qq σ t) (t' := { t with at' := 22 }) (k := { k with a := 22, obj := t.obj, w := t.w }) (by simp only [ah, hat]) (by simp [hU, hcode]) (ay (σ := σ) hg (by simp) rfl) h5.to)
theorem Vy (S : SOk σ) (T : gT σ t) (hat : t.at' = 22) : Sp ez [vp x, vi now] (xP x P σ t) (fun _ : Unit => vb (ah σ t now).2.2) (fun _ => xQ x P (ah σ t now)) := by
 have hN : σ.μ.N < 1099511627000 := by have := S.N; omega
 refine aM fun R H h => ?_;obtain ⟨k, g, hR, hg, h0⟩ := cP h;have hl := hg.1;simp only [hU, hat] at hR;obtain ⟨ha, hobj, hcode⟩ := hR;have ho := T.obj (.inl (by omega))
 have hob : k.obj < σ.obs.length := by omega
 obtain ⟨b, hb⟩ : ∃ b, g.rp[k.obj]? = some b := ⟨_, cM (by omega)⟩;refine bX x P g σ t k now S T (by omega) h0 fun b1 H1 h1 => ?_;refine Zv (by omega) ?_;refine m8 ?_;refine bj (fun r => ww _ _ H1) ?_;refine ak h1 ac rfl ?_;refine ai (lw ..) ?_;refine ak h1 ac rfl ?_;refine ai (ly ..) ?_;refine aa (aD (by omega)) ?_;refine gs ?_;refine aa (aD (by omega)) ?_;refine gs ?_;refine aa (bw (by omega)) ?_;refine gs ?_;refine ak h1 ac rfl ?_;refine ak h1 ac rfl ?_;refine ag h1 (vq (p := P) (g := g) (σ := σ) (μ' := σ.μ.acc t.who 1 (9, t.s, 0)) (L := σ.μ.N) (by simp) (KN g.ib g.m σ.c.sh σ.nx σ.μ.N σ.μ t.who t.s hN)) fun _ H2 h2 => ?_;refine bv h2 ac rfl rfl fun H3 h3 => ?_;refine bv h3 ac rfl rfl fun H4 h4 => ?_;refine ai (lx ..) ?_;exact ap (dr (g := g) (σ' := σ.mem (σ.μ.acc t.who 1 (9, t.s, 0))) (t' := { t with at' := 23, top := σ.μ.V (9, t.s, 0) }) (k := { k with a := 23, top := σ.μ.V (9, t.s, 0) }) (by simp only [ah, hat]) (by simp [hU, hobj, hcode]) (ay (σ := σ) hg (by simp) rfl) h4.to)
theorem Vz (S : SOk σ) (T : gT σ t) (hat : t.at' = 23) : Sp ez [vp x, vi now] (xP x P σ t) (fun _ : Unit => vb (ah σ t now).2.2) (fun _ => xQ x P (ah σ t now)) := by
 have hN : σ.μ.N < 1099511627000 := by have := S.N; omega
 refine aM fun R H h => ?_;obtain ⟨k, g, hR, hg, h0⟩ := cP h;have hl := hg.1;simp only [hU, hat] at hR;obtain ⟨ha, hobj, htop, hcode⟩ := hR;have ho := T.obj (.inl (by omega))
 have hob : k.obj < σ.obs.length := by omega
 obtain ⟨b, hb⟩ : ∃ b, g.rp[k.obj]? = some b := ⟨_, cM (by omega)⟩;refine bX x P g σ t k now S T (by omega) h0 fun b1 H1 h1 => ?_;refine Zv (by omega) ?_;refine m8 ?_;refine bj (fun r => ww _ _ H1) ?_;refine ak h1 ac rfl ?_;refine ai (lw ..) ?_;refine ak h1 ac rfl ?_;refine ai (ly ..) ?_;refine aa (aD (by omega)) ?_;refine gs ?_;refine aa (aD (by omega)) ?_;refine gs ?_;refine aa (aD (by omega)) ?_;refine gs ?_;refine aa (bw (by omega)) ?_;refine gs ?_;refine ak h1 ac rfl ?_;refine ak h1 ac rfl ?_;refine ak h1 ac rfl ?_;refine ak h1 ac rfl ?_;refine ag h1 (vq (p := P) (g := g) (σ := σ) (μ' := σ.μ.acc t.who 6 (14, (k.obj : Int), 0)) (L := σ.μ.N + 1) (by simp) (In g.ib g.m σ.c.sh σ.nx σ.μ.N σ.μ t.who k.obj k.top (by have := S.N; omega) hN)) fun _ H2 h2 => ?_;refine bv h2 ac rfl rfl fun H3 h3 => ?_;refine ai (lx ..) ?_;rw [hobj, htop] at h3;exact ap (dr (g := g) (σ' := { σ with μ := σ.μ.acc t.who 6 (14, (t.obj : Int), 0), nx := fun k => if k = (t.obj : Int) then some t.top else σ.nx k }) (t' := { t with at' := 24 }) (k := { k with a := 24, obj := t.obj, top := t.top }) (by simp only [ah, hat]) (by simp [hU, hcode]) (ay (σ := σ) hg (by simp) rfl) h3.to)
theorem VA (S : SOk σ) (T : gT σ t) (hat : t.at' = 24) : Sp ez [vp x, vi now] (xP x P σ t) (fun _ : Unit => vb (ah σ t now).2.2) (fun _ => xQ x P (ah σ t now)) := by
 have hN : σ.μ.N < 1099511627000 := by have := S.N; omega
 refine aM fun R H h => ?_;obtain ⟨k, g, hR, hg, h0⟩ := cP h;have hl := hg.1;simp only [hU, hat] at hR;obtain ⟨ha, hobj, htop, hcode⟩ := hR;have ho := T.obj (.inl (by omega))
 have hob : k.obj < σ.obs.length := by omega
 obtain ⟨b, hb⟩ : ∃ b, g.rp[k.obj]? = some b := ⟨_, cM (by omega)⟩;refine bX x P g σ t k now S T (by omega) h0 fun b1 H1 h1 => ?_;refine Zv (by omega) ?_;refine m8 ?_;refine bj (fun r => ww _ _ H1) ?_;refine ak h1 ac rfl ?_;refine ai (lw ..) ?_;refine ak h1 ac rfl ?_;refine ai (ly ..) ?_;refine aa (aD (by omega)) ?_;refine gs ?_;refine aa (aD (by omega)) ?_;refine gs ?_;refine aa (aD (by omega)) ?_;refine gs ?_;refine aa (aD (by omega)) ?_;refine gs ?_;refine aa (bw (by omega)) ?_;refine gs ?_;refine bv h1 ac rfl rfl fun H2 h2 => ?_;refine ak h2 ac rfl ?_;refine ak h2 ac rfl ?_;refine ak h2 ac rfl ?_;refine ak h2 ac rfl ?_;refine ag h2 (vq (p := P) (g := g) (σ := σ) (μ' := σ.μ.swp t.who (9, t.s, 0) k.top (k.obj + 1)) (L := σ.μ.N) (by simp) (Io g.ib g.m σ.c.sh σ.nx σ.μ.N σ.μ t.who t.s k.top k.obj (by have := S.obs; omega) hN)) fun _ H3 h3 => ?_;rw [hobj, htop] at h3;rw [htop]
 by_cases hw : σ.μ.V (9, t.s, 0) = t.top
 ·rw [dI hw]
  refine gs ?_;refine bv h3 ac rfl rfl fun H4 h4 => ?_;refine ai (lx ..) ?_;exact ap (dr (g := g) (σ' := σ.mem (σ.μ.swp t.who (9, t.s, 0) t.top (t.obj + 1))) (t' := { t with at' := 25 }) (k := { k with a := 25, obj := t.obj, top := t.top }) (by simp only [ah, hat]; rw [if_pos hw]) (by simp [hU, hcode]) (ay (σ := σ) hg (by simp) rfl) h4.to)
 ·rw [dQ hw]
  refine gs ?_;refine ai (lx ..) ?_;exact ap (dr (g := g) (σ' := σ.mem (σ.μ.swp t.who (9, t.s, 0) t.top (t.obj + 1))) (t' := { t with at' := 22 }) (k := { k with a := 22, obj := t.obj, top := t.top }) (by simp only [ah, hat]; rw [if_neg hw]) (by simp [hU, hcode]) (ay (σ := σ) hg (by simp) rfl) h3.to)
theorem VB (S : SOk σ) (T : gT σ t) (hat : t.at' = 25) : Sp ez [vp x, vi now] (xP x P σ t) (fun _ : Unit => vb (ah σ t now).2.2) (fun _ => xQ x P (ah σ t now)) := by
 have hN : σ.μ.N < 1099511627000 := by have := S.N; omega
 refine aM fun R H h => ?_;obtain ⟨k, g, hR, hg, h0⟩ := cP h;have hl := hg.1;simp only [hU, hat] at hR;obtain ⟨ha, hcode⟩ := hR;refine bX x P g σ t k now S T (by omega) h0 fun b1 H1 h1 => ?_;refine Zv (by omega) ?_;refine m8 ?_;refine bj (fun r => ww _ _ H1) ?_;refine ak h1 ac rfl ?_;refine ai (lw ..) ?_;refine ak h1 ac rfl ?_;refine ai (ly ..) ?_;refine aa (aD (by omega)) ?_;refine gs ?_;refine aa (aD (by omega)) ?_;refine gs ?_;refine aa (aD (by omega)) ?_;refine gs ?_;refine aa (aD (by omega)) ?_;refine gs ?_;refine aa (aD (by omega)) ?_;refine gs ?_;refine aa (bw (by omega)) ?_;refine gs ?_;refine ak h1 ac rfl ?_;refine ak h1 ac rfl ?_;refine ag h1 (vq (p := P) (g := g) (σ := σ) (μ' := σ.μ.cnt t.who (3, 0, 0) 1) (L := σ.μ.N) (by simp) (BI g.ib g.m σ.c.sh σ.nx σ.μ.N σ.μ t.who hN)) fun _ H2 h2 => ?_;exact ap (BH (g := g) (k := k) (σ' := σ.mem (σ.μ.cnt t.who (3, 0, 0) 1)) (t' := t) (by simp only [ah, hat]) hcode (ay (σ := σ) hg (by simp) rfl) h2.to)
theorem Vm {R : SP} {H1 : AH} {b1 : Nat} {sv : Value} (g : XIds) (k : Xk) (S : SOk σ) (T : gT σ t) (hg : eF g σ) (ha : k.a = 2) (hI : k.I = t.i) (hh : k.hit = false) (hi : (t.i : Int) < σ.c.sl)
 (h1 : ae (blk b1 (.cells false [vi t.x.flow, vi t.x.a, vi t.x.b]) * (xB x P t k * (av P g σ * R))) H1) :
 wp (Ke (vp x) (vi now) (vb false) (vp P) sv (vp b1) (vi k.a) (vb true) H1) fun v' H' => ∃ y : Unit, v' = vb (gh σ t).2.2 ∧ ae (xQ x P (gh σ t) * R) H' := by
 refine ai (nM ..) ?_;refine gs ?_;refine ag h1 (ND x P g σ t k S T hI hi) fun k2 H2 h2 => ?_;rw [aj, ae.pu] at h2;obtain ⟨hX, h2⟩ := h2;obtain ⟨x1, x2, x3, x4, x5, x6, x7, x8⟩ := hX;refine aa (v := vb (aP σ t).found) rfl ?_;refine aa (v := vb (!(aP σ t).found && bQ σ (aP σ t))) rfl ?_;cases hf : (aP σ t).found
 ·obtain ⟨y1, y2⟩ := x8 hf
  refine gs ?_;rw [Bool.not_false, Bool.true_and];cases hla : bQ σ (aP σ t)
  ·refine gs ?_
   refine ai (cw ..) ?_;exact ap (dr (g := g) (k := k2) (σ' := aS σ t) (t' := { aP σ t with at' := 2 }) (by simp only [gh, hf, hla]; rfl) (by simp [hU, x1, ha, y1, y2, hh, hI, aP]) (ay (σ := σ) hg (by simp) rfl) (show ae (xB x P t k2 * (av P g (aS σ t) * R)) H2 from h2.to))
  ·refine gs ?_
   refine bv h2 ac rfl rfl fun H3 h3 => ?_;refine ai (cw ..) ?_;exact ap (dr (g := g) (k := { k2 with a := 3 }) (σ' := aS σ t) (t' := { aP σ t with at' := 3 }) (by simp only [gh, hf, hla]; rfl) (by simp [hU]) (ay (σ := σ) hg (by simp) rfl) (show ae (xB x P t { k2 with a := 3 } * (av P g (aS σ t) * R)) H3 from h3.to))
 ·obtain ⟨y1, y2⟩ := x7 hf
  refine gs ?_;refine bv h2 ac rfl rfl fun H3 h3 => ?_;refine ai (cw ..) ?_;exact ap (dr (g := g) (k := { k2 with a := 6 }) (σ' := aS σ t) (t' := { aP σ t with at' := 6 }) (by simp only [gh, hf]; rfl) (by simp [hU, y2]) (ay (σ := σ) hg (by simp) rfl) (show ae (xB x P t { k2 with a := 6 } * (av P g (aS σ t) * R)) H3 from h3.to))
theorem Xx (S : SOk σ) (T : gT σ t) (hat : t.at' = 2) : Sp ez [vp x, vi now] (xP x P σ t) (fun _ : Unit => vb (ah σ t now).2.2) (fun _ => xQ x P (ah σ t now)) := by
 have hN : σ.μ.N < 1099511627000 := by have := S.N; omega
 refine aM fun R H h => ?_;obtain ⟨k, g, hR, hg, h0⟩ := cP h;have hl := hg.1;simp only [hU, hat] at hR;obtain ⟨ha, hI, hh⟩ := hR;have hi := T.i (by omega) (by omega)
 have hs : ah σ t now = gh σ t := by simp only [ah, hat, gh]
 rw [hs];refine bX x P g σ t k now S T (by omega) h0 fun b1 H1 h1 => ?_;refine ai (lu ..) ?_;refine aa (bw (by omega)) ?_;exact Vm x P σ t now g k S T hg ha hI hh hi h1
theorem Xz (S : SOk σ) (T : gT σ t) (hat : t.at' = 4) : Sp ez [vp x, vi now] (xP x P σ t) (fun _ : Unit => vb (ah σ t now).2.2) (fun _ => xQ x P (ah σ t now)) := by
 have hN : σ.μ.N < 1099511627000 := by have := S.N; omega
 refine aM fun R H h => ?_;obtain ⟨k, g, hR, hg, h0⟩ := cP h;have hl := hg.1;simp only [hU, hat] at hR;obtain ⟨ha, hI, hh⟩ := hR;have hi := T.i (by omega) (by omega);refine bX x P g σ t k now S T (by omega) h0 fun b1 H1 h1 => ?_;refine ai (lu ..) ?_;refine aa (aD (by omega)) ?_;refine ai (nM ..) ?_;refine gs ?_;refine aa (aD (by omega)) ?_;refine ai (ow ..) ?_;refine gs ?_;refine aa (bw (by omega)) ?_;refine ai (s3 ..) ?_;refine gs ?_;refine ag h1 (ND x P g σ t k S T hI hi) fun k2 H2 h2 => ?_;rw [aj, ae.pu] at h2;obtain ⟨hX, h2⟩ := h2;obtain ⟨x1, x2, x3, x4, x5, x6, x7, x8⟩ := hX;refine aa (v := vb (aP σ t).found) rfl ?_;refine aa (v := vb (!(aP σ t).found && bQ σ (aP σ t))) rfl ?_;cases hf : (aP σ t).found
 ·obtain ⟨y1, y2⟩ := x8 hf
  refine gs ?_;rw [Bool.not_false, Bool.true_and];cases hla : bQ σ (aP σ t)
  ·refine gs ?_
   refine ai (cw ..) ?_;exact ap (dr (g := g) (k := k2) (σ' := aS σ t) (t' := aP σ t) (by simp only [ah, hat, hf, hla]; rfl) (by simp [hU, x1, ha, y1, y2, hh, hI, aP, hat]) (ay (σ := σ) hg (by simp) rfl) (show ae (xB x P t k2 * (av P g (aS σ t) * R)) H2 from h2.to))
  ·refine gs ?_
   refine ag h2 (jq x P g (aS σ t) t k2 (ay (σ := σ) hg (by simp) rfl) now 5 (by have := S.N; show σ.μ.N + 2 < _; omega) S.pts) fun v H3 h3 => ?_;refine bv h3 ac rfl rfl fun H4 h4 => ?_;refine ai (cw ..) ?_;exact ap (dr (g := { g with pv := v }) (k := { k2 with a := 5, code := 5 }) (σ' := (aS σ t).note now t.who 5) (t' := { aP σ t with at' := 5, code := 5 }) (by simp only [ah, hat, hf, hla]; rfl) (by simp [hU, hf, y1, hh]) (dD (σ := σ) hg (by simp) rfl) (show ae (xB x P t { k2 with a := 5, code := 5 } * (av P { g with pv := v } ((aS σ t).note now t.who 5) * R)) H4 from h4.to))
 ·obtain ⟨y1, y2⟩ := x7 hf
  refine gs ?_;refine bv h2 ac rfl rfl fun H3 h3 => ?_;refine ai (cw ..) ?_;exact ap (dr (g := g) (k := { k2 with a := 5 }) (σ' := aS σ t) (t' := { aP σ t with at' := 5 }) (by simp only [ah, hat, hf]; rfl) (by simp [hU, hf, y1, y2]) (ay (σ := σ) hg (by simp) rfl) (show ae (xB x P t { k2 with a := 5 } * (av P g (aS σ t) * R)) H3 from h3.to))
theorem Xw (S : SOk σ) (T : gT σ t) (hat : t.at' = 0) : Sp ez [vp x, vi now] (xP x P σ t) (fun _ : Unit => vb (ah σ t now).2.2) (fun _ => xQ x P (ah σ t now)) := by
 have hN : σ.μ.N < 1099511627000 := by have := S.N; omega
 refine aM fun R H h => ?_;obtain ⟨k, g, hR, hg, h0⟩ := cP h;have hl := hg.1;simp only [hU, hat] at hR;obtain ⟨ha, hI, hh⟩ := hR;have hi := T.i (by omega) (by omega);refine Im x P g σ t k now S T h0 fun b1 H1 h1 => ?_;refine ai (C7 ..) ?_;refine ak h1 ac rfl ?_;refine aa (bw (by omega)) ?_;refine gs ?_
 have fin : ∀ code, dM t.x = some code → wp ((FF bC [vp x, vi now, vi code] H1).bind fun r125 => some ((vb true), r125.2)) fun v' H' => ∃ y : Unit, v' = vb (ah σ t now).2.2 ∧ ae (xQ x P (ah σ t now) * R) H' := by
  intro code hx;refine ag h1 (jq x P g σ t k hg now code (by have := S.N; omega) S.pts) fun v H2 h2 => ?_;exact ap (BH (g := { g with pv := v }) (k := { k with code := code }) (σ' := σ.note now t.who code) (t' := { t with code := code }) (by simp only [ah, hat, hx]) rfl (dD (σ := σ) hg (bK _) rfl) h2.to)
 refine ak h1 (b8 (aO (aO ba))) rfl ?_
 by_cases ha1 : t.x.a < 1
 ·refine aa (eO ha1) ?_
  refine gs ?_;exact fin 3 (by rw [dM, if_pos (.inl ha1)])
 ·refine aa (db ha1) ?_
  refine gs ?_;refine ak h1 (b8 (aO (aO ba))) rfl ?_;refine gs ?_
  by_cases ha2 : 65536 < t.x.a
  ·refine aa (pK ha2) ?_
   refine gs ?_;exact fin 3 (by rw [dM, if_pos (.inr ha2)])
  ·refine aa (iQ ha2) ?_
   refine gs ?_;refine ak h1 (b8 (aO (aO ba))) rfl ?_
   by_cases hf : t.x.flow < 0
   ·refine aa (eO hf) ?_
    refine gs ?_;exact fin 5 (by rw [dM, if_neg (by omega), if_pos (.inl hf)])
   ·refine aa (db hf) ?_
    refine gs ?_;refine ak h1 (b8 (aO (aO ba))) rfl ?_;refine gs ?_
    by_cases hf2 : 1048576 < t.x.flow
    ·refine aa (pK hf2) ?_
     refine gs ?_;exact fin 5 (by rw [dM, if_neg (by omega), if_pos (.inr hf2)])
    ·refine aa (iQ hf2) ?_
     refine gs ?_
     have hx : dM t.x = none := by rw [dM, if_neg (by omega), if_neg (by omega)]
     have hs : ah σ t now = gh σ t := by simp only [ah, hat, hx, gh]
     rw [hs];refine bv h1 ac rfl rfl fun H2 h2 => ?_;refine ai (C8 ..) ?_;refine ak h2 ac rfl ?_;refine ai (lu ..) ?_;refine aa (bw (by omega)) ?_;exact Vm x P σ t now g { k with a := 2 } S T hg rfl hI hh hi h2.to
theorem QM (S : SOk σ) (T : gT σ t) : Sp ez [vp x, vi now] (xP x P σ t) (fun _ : Unit => vb (ah σ t now).2.2) (fun _ => xQ x P (ah σ t now)) := by
 rcases T.ats with hat | hat | hat | hat | hat | hat | hat | hat | hat | hat | hat | hat | hat | hat | hat | hat | hat | hat | hat | hat | hat | hat | hat | hat
 ·exact Xw x P σ t now S T hat
 ·exact Xx x P σ t now S T hat
 ·exact Xy x P σ t now S T hat
 ·exact Xz x P σ t now S T hat
 ·exact XA x P σ t now S T hat
 ·exact XB x P σ t now S T hat
 ·exact XC x P σ t now S T hat
 ·exact XD x P σ t now S T hat
 ·exact XE x P σ t now S T hat
 ·exact Vn x P σ t now S T hat
 ·exact Vo x P σ t now S T hat
 ·exact Vp x P σ t now S T hat
 ·exact Vq x P σ t now S T hat
 ·exact Vr x P σ t now S T hat
 ·exact Vs x P σ t now S T hat
 ·exact Vt x P σ t now S T hat
 ·exact Vu x P σ t now S T hat
 ·exact Vv x P σ t now S T hat
 ·exact Vw x P σ t now S T hat
 ·exact Vx x P σ t now S T hat
 ·exact Vy x P σ t now S T hat
 ·exact Vz x P σ t now S T hat
 ·exact VA x P σ t now S T hat
 ·exact VB x P σ t now S T hat
end
def XI (t : Tk) (k : Xk) : Prop := k.a = t.at' ∧ (t.at' < 4 → k.I = t.i ∧ k.free = t.mark) ∧ (t.x.op = 1 → (t.at' = 4 ∨ t.at' = 5 → k.free = t.mark) ∧ (t.at' = 5 → k.obj = t.obj) ∧ (t.at' = 6 → k.code = t.code)) ∧
 (t.x.op ≠ 1 → (4 ≤ t.at' → t.at' < 10 → k.I = t.i ∧ k.obj = t.obj) ∧ (t.at' = 6 ∨ t.at' = 7 → k.q = t.q) ∧ (t.at' = 7 → k.mark = t.mark) ∧ (t.at' = 8 → k.w = t.w) ∧ (t.at' = 9 ∨ t.at' = 10 → k.code = t.code))
theorem y8 {t : Tk} {k : Xk} (h0 : k.a = t.at') (ha : t.at' < 4) (h : k.I = t.i ∧ k.free = t.mark) : XI t k :=
 ⟨h0, fun _ => h, fun _ => ⟨fun h => by omega, fun h => by omega, fun h => by omega⟩, fun _ => ⟨fun h _ => by omega, fun h => by omega, fun h => by omega, fun h => by omega, fun h => by omega⟩⟩
theorem FY {t : Tk} {k : Xk} (h0 : k.a = t.at') (ho : t.x.op = 1) (ha : 4 ≤ t.at') (h4 : t.at' = 4 ∨ t.at' = 5 → k.free = t.mark) (h5 : t.at' = 5 → k.obj = t.obj) (h6 : t.at' = 6 → k.code = t.code) : XI t k :=
 ⟨h0, fun h => by omega, fun _ => ⟨h4, h5, h6⟩, fun h => absurd ho h⟩
theorem rG {t : Tk} {k : Xk} (h0 : k.a = t.at') (ho : t.x.op ≠ 1) (ha : 4 ≤ t.at') (h1 : k.I = t.i) (h2 : k.obj = t.obj) (hq : t.at' = 6 ∨ t.at' = 7 → k.q = t.q) (hm : t.at' = 7 → k.mark = t.mark) (hw : t.at' = 8 → k.w = t.w) (hc : t.at' = 9 ∨ t.at' = 10 → k.code = t.code) : XI t k :=
 ⟨h0, fun h => by omega, fun h => absurd h ho, fun _ => ⟨fun _ _ => ⟨h1, h2⟩, hq, hm, hw, hc⟩⟩
theorem QZ {t : Tk} {k : Xk} (h0 : k.a = t.at') (ho : t.x.op ≠ 1) (ha : t.at' = 10) (h : k.code = t.code) : XI t k :=
 ⟨h0, fun h => by omega, fun h => absurd h ho, fun _ => ⟨fun _ _ => by omega, fun h => by omega, fun h => by omega, fun h => by omega, fun _ => h⟩⟩
def yT (x P : Nat) (t : Tk) : SP := ex fun k : Xk => pu (XI t k) * xB x P t k
def yU (x P : Nat) (r : aL × Tk × Bool) : SP := ex fun k : Xk => pu (if r.2.2 = true then k.code = r.2.1.code else XI r.2.1 k) * xB x P r.2.1 k
section
variable {x P : Nat} {g : XIds} {σ σ' : aL} {t t' : Tk} {R : SP} {H : AH} {r : aL × Tk × Bool} {k : Xk}
theorem jt (h : ae (yT x P t * aJ P σ * R) H) : ∃ (k : Xk) (g : XIds), XI t k ∧ eF g σ ∧ ae (xB x P t k * (av P g σ * R)) H := by
 unfold yT at h;rw [aj] at h;obtain ⟨k, h1⟩ := ae.ex.1 h;rw [aj, ae.pu] at h1;obtain ⟨g, h2, h3⟩ := fC (p := P) (σ := σ) (R := xB x P t k * R) (H := H) h1.2.to;exact ⟨k, g, h1.1, h2, h3.to⟩
theorem gX (hr : r = (σ', t', false)) (hR : XI t' k) (hg : eF g σ') (h : ae (xB x P t' k * (av P g σ' * R)) H) : ∃ y : Unit, (vb false : Value) = vb r.2.2 ∧ ae (yU x P r * aJ P r.1 * R) H := by
 subst hr;refine ⟨(), rfl, ?_⟩;have h1 := dm (p := P) (σ := σ') (R := xB x P t' k * R) g hg h.to;unfold yU;rw [aj];refine ae.ex.2 ⟨k, ?_⟩;rw [aj, ae.pu];exact ⟨hR, h1.to⟩
theorem KS (hr : r = (σ', t', true)) (hc : k.code = t'.code) (hg : eF g σ') (h : ae (xB x P t' k * (av P g σ' * R)) H) : ∃ y : Unit, (vb true : Value) = vb r.2.2 ∧ ae (yU x P r * aJ P r.1 * R) H := by
 subst hr;refine ⟨(), rfl, ?_⟩;have h1 := dm (p := P) (σ := σ') (R := xB x P t' k * R) g hg h.to;unfold yU;rw [aj];refine ae.ex.2 ⟨k, ?_⟩;rw [aj, ae.pu];exact ⟨hc, h1.to⟩
end
section
variable (x P : Nat) (g : XIds) (σ : aL) (t : Tk) (k : Xk)
def rS : Xk := { k with I := (aB σ t).i, free := (aB σ t).mark, hit := (k.hit || (aB σ t).found), obj := if (aB σ t).found = true then (aB σ t).obj else k.obj }
theorem Ir (S : SOk σ) (T : lE σ t) (hI : k.I = t.i) (hfr : k.free = t.mark) (hi : (t.i : Int) < σ.c.sl) :
 Sp AI [vp x] (xB x P t k * av P g σ) (fun _ : Unit => .tuple #[vb (aB σ t).found, vb (!(aB σ t).found && decide (σ.c.sl ≤ ((t.i + 1 : Nat) : Int)))]) (fun _ => xB x P t (rS σ t k) * av P g (aS σ t)) := by
 have hN : σ.μ.N < 1099511627000 := by have := S.N; omega
 have hc := bx.1 S.c;refine bp (Uj _) fun R H h => ?_;refine bD ac ?_;refine aY h rfl ?_;refine bD ac ?_;refine aY h rfl ?_;refine bD ac ?_;refine aY h rfl ?_;refine ak h ac rfl ?_;refine ak h ac rfl ?_;refine ak h (b8 (aO (aO ba))) rfl ?_;refine ag h (yz (p := P) (g := g) (σ := σ) (lc g.tb g.m σ.c.sh.toNat σ.c.sl.toNat (by omega) t.x.flow)) fun _ H1 h1 => ?_;refine aG h1 h (by rfl) ?_;refine aG h1 h (by rfl) ?_;refine aG h1 h (by rfl) ?_
 have es : vi ((t.x.flow.tmod (σ.c.sh.toNat : Int) + (σ.c.sh.toNat : Int)).tmod (σ.c.sh.toNat : Int)) = vi t.s := by rw [T.s, show ((σ.c.sh.toNat : Nat) : Int) = σ.c.sh from by omega]
 rw [es];refine bD ac ?_;refine aY h1 rfl ?_;refine aG h h1 (by rfl) ?_;rw [hI];refine ag h1 (nQ (p := P) (g := g) (σ := σ) (μ' := σ.μ.acc t.who 1 (10, t.s, (t.i : Int))) (by simp) (C2 g.tb g.m σ.c.sh.toNat σ.c.sl.toNat σ.μ t.who t.s t.i hN (S.V _))) fun _ H2 h2 => ?_;obtain ⟨v, hv⟩ : ∃ v, v = σ.μ.V (10, t.s, (t.i : Int)) := ⟨_, rfl⟩;rw [← hv]
 have ifo : ∀ b, (aB σ t).found = b → (aB σ t).i = if b = true then t.i else t.i + 1 := by
  intro b hb;show (if (aB σ t).found = true then t.i else t.i + 1) = _;rw [hb]
 have tail : ∀ (k' : Xk) (H' : AH), k'.I = t.i → { k' with I := t.i + 1 } = rS σ t k → (aB σ t).found = false → ae (xB x P t k' * (av P g (aS σ t) * R)) H' →
  wp (A5 (vp x) (vb false) (vb false) H') fun v' H' => ∃ _ : Unit, v' = .tuple #[vb (aB σ t).found, vb (!(aB σ t).found && decide (σ.c.sl ≤ ((t.i + 1 : Nat) : Int)))] ∧ ae (xB x P t (rS σ t k) * av P g (aS σ t) * R) H' := by
  intro k' H' hI' hX hf h';refine ai (C9 ..) ?_;refine ak h' ac rfl ?_;rw [hI'];refine aa (bu (by omega) (by omega)) ?_;rw [show ((t.i : Nat) : Int) + 1 = ((t.i + 1 : Nat) : Int) from by omega];refine bv h' ac rfl rfl fun H3 h3 => ?_;refine ak h3 ac rfl ?_;refine ak h3 ac rfl ?_;refine ak h3 ac rfl ?_;have h4 := h3;unfold av tab at h4;refine ak h4 ac rfl ?_;refine aa (v := vb (decide (σ.c.sl ≤ ((t.i + 1 : Nat) : Int)))) ?_ ?_
  ·show aq _ .geq (vi ((t.i + 1 : Nat) : Int)) _ = _
   rw [qI]
   congr 3
   show ((σ.c.sl.toNat : Int) ≤ _) = (σ.c.sl ≤ ((t.i + 1 : Nat) : Int));apply propext;omega
  refine ap ⟨(), by rw [hf]; rfl, ?_⟩;rw [← hX, aj];exact h3.to
 by_cases hv0 : v = 0
 ·have e1 : gW v = .tuple #[vi 0, vi 0, vb false] := by rw [gW, if_pos hv0]
  have hf : (aB σ t).found = false := dQ fun q => q.1 (hv.symm.trans hv0);have hii := ifo _ hf;rw [e1];refine aa (v := vi 0) rfl ?_;refine aa (v := vi 0) rfl ?_;refine aa (v := vb false) rfl ?_;refine gs ?_;refine ai (q9 ..) ?_;refine gs ?_;rw [Bool.not_false];refine gs ?_;refine ak h2 ac rfl ?_
  by_cases hm : k.free < 0
  ·refine la ?_
   refine aa (eO hm) ?_;refine gs ?_
   have em : (aB σ t).mark = t.i := by
    show (if σ.μ.V (10, t.s, (t.i : Int)) = 0 ∧ t.mark < 0 then (t.i : Int) else t.mark) = _;rw [if_pos ⟨hv.symm.trans hv0, by rw [← hfr]; exact hm⟩]
   refine ak h2 ac rfl ?_;rw [hI];refine bv h2 ac rfl rfl fun H3 h3 => ?_;exact tail { k with free := t.i } H3 hI (by unfold rS; rw [hii, em, hf]; simp) hf h3.to
  ·refine la ?_
   refine aa (db hm) ?_;refine gs ?_
   have em : (aB σ t).mark = k.free := by
    show (if σ.μ.V (10, t.s, (t.i : Int)) = 0 ∧ t.mark < 0 then (t.i : Int) else t.mark) = _;rw [if_neg (fun h => hm (by rw [hfr]; exact h.2)), hfr]
   exact tail k H2 hI (by unfold rS; rw [hii, em, hf]; simp) hf h2.to
 ·have e1 : gW v = .tuple #[vi ((v / 4294967296 : Nat) - 1), vi (v % 4294967296 : Nat), vb true] := by rw [gW, if_neg hv0]
  have em : (aB σ t).mark = k.free := by
   show (if σ.μ.V (10, t.s, (t.i : Int)) = 0 ∧ t.mark < 0 then (t.i : Int) else t.mark) = _;rw [if_neg (fun h => hv0 (hv.trans h.1)), hfr]
  rw [e1];refine aa (v := vi ((v / 4294967296 : Nat) - 1)) rfl ?_;refine aa (v := vi (v % 4294967296 : Nat)) rfl ?_;refine aa (v := vb true) rfl ?_;refine gs ?_;refine ak h2 (b8 (aO (aO ba))) rfl ?_;refine la ?_
  by_cases hf : ((v / 4294967296 : Nat) : Int) - 1 = t.x.flow
  ·have hfo : (aB σ t).found = true := dI ⟨fun h => hv0 (hv.trans h), by rw [← hv]; exact hf⟩
   have hob : (aB σ t).obj = v % 4294967296 := by
    show (if (aB σ t).found = true then σ.μ.V (10, t.s, (t.i : Int)) % 4294967296 else t.obj) = _;rw [if_pos hfo, ← hv]
   have hii := ifo _ hfo;refine aa (bw hf) ?_;refine gs ?_;refine bv h2 ac rfl rfl fun H3 h3 => ?_;refine bv h3 ac rfl rfl fun H4 h4 => ?_;refine ap ⟨(), by rw [hfo]; rfl, ?_⟩
   have eX : rS σ t k = { k with hit := true, obj := v % 4294967296 } := by
    unfold rS;rw [hii, em, hfo, hob];simp [← hI]
   rw [eX, aj];exact h4.to
  ·have hfo : (aB σ t).found = false := dQ fun q => hf (by rw [hv]; exact q.2)
   have hii := ifo _ hfo;refine aa (aD hf) ?_;refine gs ?_;refine ai (q9 ..) ?_;refine gs ?_;rw [Bool.not_true];refine gs ?_;exact tail k H2 hI (by unfold rS; rw [hii, em, hfo]; simp) hfo h2.to
variable (now : Int)
theorem Dz {R : SP} {H : AH} (S : SOk σ) (hR : k.I = t.i ∧ k.free = t.mark) (ha : k.a = 2) (hg : eF g σ) (h : ae (xB x P t k * (av P g σ * R)) H) :
 wp (fX (vp x) (vi now) (vb false) (vp P) (vi t.s) H) fun v' H' => ∃ y : Unit, v' = vb (eN σ t).2.2 ∧ ae (yU x P (eN σ t) * aJ P (eN σ t).1 * R) H' := by
 have hN : σ.μ.N < 1099511627000 := by have := S.N; omega
 refine ai (iH ..) ?_;refine ak h ac rfl ?_;refine aa (bw (by omega)) ?_;refine ai (iI ..) ?_;refine gs ?_;refine ak h ac rfl ?_;refine ak h ac rfl ?_;refine ag h (nQ (p := P) (g := g) (σ := σ) (μ' := σ.μ.swp t.who (8, t.s, 0) 0 1) (by simp) (Hy g.tb g.m σ.c.sh.toNat σ.c.sl.toNat σ.μ t.who t.s hN)) fun _ H2 h2 => ?_
 by_cases hw : σ.μ.V (8, t.s, 0) = 0
 ·rw [dI hw]
  refine gs ?_;refine bv h2 ac rfl rfl fun H3 h3 => ?_;refine ai (l8 ..) ?_;exact ap (gX (g := g) (k := { k with a := 3 }) (σ' := kG σ t) (t' := { t with at' := 3 }) (by unfold eN; rw [if_pos hw]) (y8 rfl (by simp) hR) (ay (σ := σ) hg (by simp) rfl) (show ae (xB x P t { k with a := 3 } * (av P g (kG σ t) * R)) H3 from h3.to))
 ·rw [dQ hw]
  refine gs ?_;refine ai (l8 ..) ?_;exact ap (gX (g := g) (k := k) (σ' := kG σ t) (t' := { t with at' := 2 }) (by unfold eN; rw [if_neg hw]) (y8 ha (by simp) hR) (ay (σ := σ) hg (by simp) rfl) (show ae (xB x P t k * (av P g (kG σ t) * R)) H2 from h2.to))
theorem Ip {R : SP} {H : AH} {Q : Value → AH → Prop} (S : SOk σ) (T : lE σ t) (h : ae (xB x P t k * (av P g σ * R)) H)
 (hk : ∀ H', ae (xB x P t k * (av P g σ * R)) H' → wp (kC (vp x) (vi now) (vb false) (vp P) (vi t.s) H') Q) :
 wp (FF bi [vp x, vi now] H) Q := by
 have hc := bx.1 S.c;refine bj (fun r => yi _ _ H) ?_;refine bD ac ?_;refine aY h rfl ?_;refine ak h ac rfl ?_;refine ak h ac rfl ?_;refine ak h (b8 (aO (aO ba))) rfl ?_;refine ag h (yz (p := P) (g := g) (σ := σ) (lc g.tb g.m σ.c.sh.toNat σ.c.sl.toNat (by omega) t.x.flow)) fun _ H1 h1 => ?_;refine aG h1 h (by rfl) ?_
 have es : vi ((t.x.flow.tmod (σ.c.sh.toNat : Int) + (σ.c.sh.toNat : Int)).tmod (σ.c.sh.toNat : Int)) = vi t.s := by rw [T.s, show ((σ.c.sh.toNat : Nat) : Int) = σ.c.sh from by omega]
 rw [es];exact hk H1 h1.to
theorem wJ {R : SP} {H : AH} {Q : Value → AH → Prop} (S : SOk σ) (T : lE σ t) (ha : k.a ≠ 0) (h : ae (xB x P t k * (av P g σ * R)) H)
 (hk : ∀ H', ae (xB x P t k * (av P g σ * R)) H' → wp (fX (vp x) (vi now) (vb false) (vp P) (vi t.s) H') Q) :
 wp (FF bi [vp x, vi now] H) Q := by
 refine Ip x P g σ t k now S T h fun H1 h1 => ?_;refine ai (l7 ..) ?_;refine ak h1 ac rfl ?_;refine aa (aD (by omega)) ?_;refine ai (kM ..) ?_;refine gs ?_;exact hk H1 h1
theorem NB {fn : Nat} {args : List Value} {H : AH} {Q : Value → AH → Prop} (h : wp (FF fn args H) Q) : wp ((FF fn args H).bind fun r => some (r.1, r.2)) Q := by
 obtain ⟨v, H', e, q⟩ := h;exact ⟨v, H', by rw [e]; rfl, q⟩
theorem FU {R : SP} {H : AH} {Q : Value → AH → Prop} (S : SOk σ) (T : lE σ t) (ho : t.x.op = 1) (ha : 3 ≤ k.a) (h : ae (xB x P t k * (av P g σ * R)) H)
 (hk : ∀ H', ae (xB x P t k * (av P g σ * R)) H' → wp (gy (vp x) (vi now) (vi t.s) (vb false) (vp P) (vi (k.a : Int)) H') Q) :
 wp (FF bi [vp x, vi now] H) Q := by
 refine wJ x P g σ t k now S T (by omega) h fun H1 h1 => ?_;refine ai (iH ..) ?_;refine ak h1 ac rfl ?_;refine aa (aD (by omega)) ?_;refine ai (iI ..) ?_;refine gs ?_;refine ak h1 (b8 (aO (aO ba))) rfl ?_;refine aa (bw ho) ?_;refine gs ?_;refine NB ?_;refine bj (fun r => qh _ _ _ H1) ?_;refine ak h1 ac rfl ?_;refine ai (nJ ..) ?_;refine ak h1 ac rfl ?_;exact hk H1 h1
theorem qB {R : SP} {H : AH} {Q : Value → AH → Prop} (S : SOk σ) (T : lE σ t) (ho : t.x.op ≠ 1) (ha : 3 ≤ k.a) (h : ae (xB x P t k * (av P g σ * R)) H)
 (hk : ∀ H', ae (xB x P t k * (av P g σ * R)) H' → wp (jP (vp x) (vi now) (vi t.s) (vb false) (vp P) (vi (k.a : Int)) H') Q) :
 wp (FF bi [vp x, vi now] H) Q := by
 refine wJ x P g σ t k now S T (by omega) h fun H1 h1 => ?_;refine ai (iH ..) ?_;refine ak h1 ac rfl ?_;refine aa (aD (by omega)) ?_;refine ai (iI ..) ?_;refine gs ?_;refine ak h1 (b8 (aO (aO ba))) rfl ?_;refine aa (aD ho) ?_;refine gs ?_;refine ai (sZ ..) ?_;refine NB ?_;refine bj (fun r => wr _ _ _ H1) ?_;refine ak h1 ac rfl ?_;refine ai (rA ..) ?_;refine ak h1 ac rfl ?_;exact hk H1 h1
end
section
variable (x P : Nat) (σ : aL) (t : Tk) (now : Int)
theorem Zp (S : SOk σ) (T : lE σ t) (ho : t.x.op = 1) (hat : t.at' = 3) : Sp bi [vp x, vi now] (yT x P t * aJ P σ) (fun _ : Unit => vb (aw σ t now).2.2) (fun _ => yU x P (aw σ t now) * aJ P (aw σ t now).1) := by
 have hN : σ.μ.N < 1099511627000 := by have := S.N; omega
 refine aM fun R H h => ?_;obtain ⟨k, g, hR, hg, h0⟩ := jt h;have hl := hg.1;have ha := hR.1;obtain ⟨hI, hfr⟩ := hR.2.1 (by omega);have hi := T.i (by omega);refine FU x P g σ t k now S T ho (by omega) h0 fun H1 h1 => ?_;refine ai (dx ..) ?_;refine aa (bw (by omega)) ?_;refine ai (dy ..) ?_;refine gs ?_;refine ag h1 (Ir x P g σ t k S T hI hfr hi) fun _ H2 h2 => ?_;obtain ⟨k2, hk2⟩ : ∃ k2 : Xk, k2 = rS σ t k := ⟨_, rfl⟩;rw [← hk2] at h2;refine aa (v := vb (aB σ t).found) rfl ?_;refine aa (v := vb (!(aB σ t).found && decide (σ.c.sl ≤ ((t.i + 1 : Nat) : Int)))) rfl ?_;refine ai (nK ..) ?_
 cases hfd : (aB σ t).found with
 | true =>
  refine gs ?_;refine ag h2 (jq x P g (aS σ t) t (k2) (ay (σ := σ) hg (by simp) rfl) now 6 (by have := S.N; show σ.μ.N + 2 < _; omega) S.pts) fun v H3 h3 => ?_;refine bv h3 ac rfl rfl fun H4 h4 => ?_;refine ai (cu ..) ?_;exact ap (gX (g := { g with pv := v }) (k := { k2 with a := 6, code := 6 }) (σ' := (aS σ t).note now t.who 6) (t' := { aB σ t with at' := 6, code := 6 }) (by simp only [aw, hat]; rw [if_pos hfd, if_pos ho]) (FY rfl ho (by simp) (by simp) (by simp) (by simp)) (dD (σ := σ) hg (by simp) rfl) (show ae (xB x P t ({ k2 with a := 6, code := 6 }) * (av P ({ g with pv := v }) ((aS σ t).note now t.who 6) * R)) _ from h4.to))
 | false =>
  rw [Bool.not_false, Bool.true_and]
  have hli : (aB σ t).i = t.i + 1 := by
   show (if (aB σ t).found = true then t.i else t.i + 1) = _;rw [if_neg (by rw [hfd]; simp)]
  have hla : bQ σ (aB σ t) = decide (σ.c.sl ≤ ((t.i + 1 : Nat) : Int)) := by unfold bQ; rw [hli]
  have nf : ¬ (aB σ t).found = true := by rw [hfd]; simp
  by_cases hL : σ.c.sl ≤ ((t.i + 1 : Nat) : Int)
  ·have hla' : bQ σ (aB σ t) = true := hla.trans (dI hL)
   rw [dI hL];refine gs ?_;refine ak h2 ac (show _ = some (vi (aB σ t).mark) from by rw [hk2]; rfl) ?_;refine gs ?_
   by_cases hm : (aB σ t).mark < 0
   ·refine aa (eO hm) ?_
    refine gs ?_;refine ag h2 (jq x P g (aS σ t) t (k2) (ay (σ := σ) hg (by simp) rfl) now 7 (by have := S.N; show σ.μ.N + 2 < _; omega) S.pts) fun v H3 h3 => ?_;refine bv h3 ac rfl rfl fun H4 h4 => ?_;refine ai (cu ..) ?_;exact ap (gX (g := { g with pv := v }) (k := { k2 with a := 6, code := 7 }) (σ' := (aS σ t).note now t.who 7) (t' := { aB σ t with at' := 6, code := 7 }) (by simp only [aw, hat]; rw [if_neg nf, if_pos hla', if_pos ho, if_pos hm]) (FY rfl ho (by simp) (by simp) (by simp) (by simp)) (dD (σ := σ) hg (by simp) rfl) (show ae (xB x P t ({ k2 with a := 6, code := 7 }) * (av P ({ g with pv := v }) ((aS σ t).note now t.who 7) * R)) _ from h4.to))
   ·refine aa (db hm) ?_
    refine gs ?_;refine bv h2 ac rfl rfl fun H4 h4 => ?_;refine ai (cu ..) ?_;exact ap (gX (g := g) (k := { k2 with a := 4 }) (σ' := aS σ t) (t' := { aB σ t with at' := 4 }) (by simp only [aw, hat]; rw [if_neg nf, if_pos hla', if_pos ho, if_neg hm]) (FY rfl ho (by simp) (fun _ => by rw [hk2]; rfl) (by simp) (by simp)) (ay (σ := σ) hg (by simp) rfl) (show ae (xB x P t ({ k2 with a := 4 }) * (av P (g) (aS σ t) * R)) _ from h4.to))
  ·have hla' : ¬ bQ σ (aB σ t) = true := by rw [hla, dQ hL]; simp
   rw [dQ hL];refine gs ?_;refine ai (cu ..) ?_;exact ap (gX (g := g) (k := k2) (σ' := aS σ t) (t' := aB σ t) (by simp only [aw, hat]; rw [if_neg nf, if_neg hla']) (y8 (by rw [hk2]; show k.a = t.at'; exact ha) (by show t.at' < 4; omega) ⟨by rw [hk2]; rfl, by rw [hk2]; rfl⟩) (ay (σ := σ) hg (by simp) rfl) (show ae (xB x P t (k2) * (av P (g) (aS σ t) * R)) _ from h2.to))
theorem Zq (S : SOk σ) (T : lE σ t) (ho : t.x.op = 1) (hat : t.at' = 4) : Sp bi [vp x, vi now] (yT x P t * aJ P σ) (fun _ : Unit => vb (aw σ t now).2.2) (fun _ => yU x P (aw σ t now) * aJ P (aw σ t now).1) := by
 have hN : σ.μ.N < 1099511627000 := by have := S.N; omega
 refine aM fun R H h => ?_;obtain ⟨k, g, hR, hg, h0⟩ := jt h;have hl := hg.1;have ha := hR.1;have hfr := (hR.2.2.1 ho).1 (.inl hat);have hx := uR (T.x (by omega));have hc := bx.1 S.c
 have hst : aw σ t now = (σ.make t.who (TN σ t), { t with obj := σ.obs.length, at' := 5 }, false) := by rw [kY σ t now ho (by omega)]; simp only [uS, hat]
 refine FU x P g σ t k now S T ho (by omega) h0 fun H1 h1 => ?_;refine ai (dx ..) ?_;refine aa (aD (by omega)) ?_;refine ai (dy ..) ?_;refine gs ?_;refine aa (bw (by omega)) ?_;refine gs ?_;refine ak h1 (b8 (aO (aO ba))) rfl ?_;refine ak h1 (b8 (aO (aO ba))) rfl ?_;refine ag h1 (w7 σ.c.un t.x.a (by omega) (hx.2 ho).1) fun _ H2 h2 => ?_;refine aa (v := vu (max (σ.c.un / t.x.a.toNat) 1)) rfl ?_;refine aa (v := vb true) rfl ?_;refine ak h2 ac rfl ?_;refine ak h2 (b8 (aO (aO ba))) rfl ?_;refine ak h2 (b8 (aO (aO ba))) rfl ?_;refine iU ?_;have h3 := dm (p := P) (σ := σ) (R := xB x P t k * R) g hg h2.to;refine ag h3 (X9 P σ t.who (TN σ t) hN (by have := S.obs; omega)) fun _ H4 h4 => ?_;obtain ⟨g', hg', h5⟩ := fC (p := P) (σ := σ.make t.who (TN σ t)) (R := xB x P t k * R) (H := H4) h4.to;refine bv h5 ac rfl rfl fun H6 h6 => ?_;refine bv h6 ac rfl rfl fun H7 h7 => ?_;refine ai (cu ..) ?_;exact ap (gX (g := g') (k := { k with obj := σ.obs.length, a := 5 }) (σ' := σ.make t.who (TN σ t)) (t' := { t with obj := σ.obs.length, at' := 5 }) (hst) (FY rfl ho (by simp) (fun _ => hfr) (by simp) (by simp)) hg' (show ae (xB x P t ({ k with obj := σ.obs.length, a := 5 }) * (av P (g') (σ.make t.who (TN σ t)) * R)) _ from h7.to))
theorem Zr (S : SOk σ) (T : lE σ t) (ho : t.x.op = 1) (hat : t.at' = 5) : Sp bi [vp x, vi now] (yT x P t * aJ P σ) (fun _ : Unit => vb (aw σ t now).2.2) (fun _ => yU x P (aw σ t now) * aJ P (aw σ t now).1) := by
 have hN : σ.μ.N < 1099511627000 := by have := S.N; omega
 refine aM fun R H h => ?_;obtain ⟨k, g, hR, hg, h0⟩ := jt h;have hl := hg.1;have ha := hR.1;have hfm := (hR.2.2.1 ho).1 (.inr hat);have hko := (hR.2.2.1 ho).2.1 hat;have hx := uR (T.x (by omega));have hob := T.obj (.inl ⟨hat, ho⟩);have hso := S.obs
 have hst : aw σ t now = ((σ.mem ((σ.μ.acc t.who 2 (10, t.s, t.mark)).put (10, t.s, t.mark) (cq t.x.flow t.obj))).note now t.who 0, { t with at' := 6, code := 0 }, false) := by rw [kY σ t now ho (by omega)]; simp only [uS, hat]
 refine FU x P g σ t k now S T ho (by omega) h0 fun H1 h1 => ?_;refine ai (dx ..) ?_;refine aa (aD (by omega)) ?_;refine ai (dy ..) ?_;refine gs ?_;refine aa (aD (by omega)) ?_;refine gs ?_;refine aa (bw (by omega)) ?_;refine gs ?_;refine ak h1 ac rfl ?_;refine ak h1 ac rfl ?_;refine ak h1 ac rfl ?_;refine ak h1 (b8 (aO (aO ba))) rfl ?_;refine ak h1 ac rfl ?_;rw [hfm, hko];refine ag h1 (nQ (p := P) (g := g) (σ := σ) (μ' := (σ.μ.acc t.who 2 (10, t.s, t.mark)).put (10, t.s, t.mark) (cq t.x.flow t.obj)) (by simp) (M1 g.tb g.m σ.c.sh.toNat σ.c.sl.toNat σ.μ t.who t.s t.mark t.x.flow t.obj hN hx.1 (by omega))) fun _ H2 h2 => ?_;refine ag h2 (jq x P g (σ.mem ((σ.μ.acc t.who 2 (10, t.s, t.mark)).put (10, t.s, t.mark) (cq t.x.flow t.obj))) t (k) (ay (σ := σ) hg (by simp) rfl) now 0 (by have := S.N; show σ.μ.N + 2 < _; omega) S.pts) fun v H3 h3 => ?_;refine bv h3 ac rfl rfl fun H4 h4 => ?_;refine ai (cu ..) ?_;exact ap (gX (g := { g with pv := v }) (k := { k with a := 6, code := 0 }) (σ' := (σ.mem ((σ.μ.acc t.who 2 (10, t.s, t.mark)).put (10, t.s, t.mark) (cq t.x.flow t.obj))).note now t.who 0) (t' := { t with at' := 6, code := 0 }) (hst) (FY rfl ho (by simp) (by simp) (by simp) (by simp)) (dD (σ := σ) hg (by simp) rfl) (show ae (xB x P t ({ k with a := 6, code := 0 }) * (av P ({ g with pv := v }) ((σ.mem ((σ.μ.acc t.who 2 (10, t.s, t.mark)).put (10, t.s, t.mark) (cq t.x.flow t.obj))).note now t.who 0) * R)) _ from h4.to))
theorem Zs (S : SOk σ) (T : lE σ t) (ho : t.x.op = 1) (hat : t.at' = 6) : Sp bi [vp x, vi now] (yT x P t * aJ P σ) (fun _ : Unit => vb (aw σ t now).2.2) (fun _ => yU x P (aw σ t now) * aJ P (aw σ t now).1) := by
 have hN : σ.μ.N < 1099511627000 := by have := S.N; omega
 refine aM fun R H h => ?_;obtain ⟨k, g, hR, hg, h0⟩ := jt h;have hl := hg.1;have ha := hR.1
 have hst : aw σ t now = (iz σ t, t, true) := by rw [kY σ t now ho (by omega)]; simp only [uS, hat]
 have hto : k.code = t.code := (hR.2.2.1 ho).2.2 hat;refine FU x P g σ t k now S T ho (by omega) h0 fun H1 h1 => ?_;refine ai (dx ..) ?_;refine aa (aD (by omega)) ?_;refine ai (dy ..) ?_;refine gs ?_;refine aa (aD (by omega)) ?_;refine gs ?_;refine aa (aD (by omega)) ?_;refine gs ?_;refine ak h1 ac rfl ?_;refine ak h1 ac rfl ?_;refine ag h1 (nQ (p := P) (g := g) (σ := σ) (μ' := (σ.μ.acc t.who 2 (8, t.s, 0)).put (8, t.s, 0) 0) (by simp) (s0 g.tb g.m σ.c.sh.toNat σ.c.sl.toNat σ.μ t.who t.s hN)) fun _ H2 h2 => ?_;exact ap (KS (g := g) (k := k) (σ' := iz σ t) (t' := t) hst hto (ay (σ := σ) hg (by simp) rfl) (show ae (xB x P t k * (av P g (iz σ t) * R)) H2 from h2.to))
theorem XF (S : SOk σ) (T : lE σ t) (ho : t.x.op ≠ 1) (hat : t.at' = 10) : Sp bi [vp x, vi now] (yT x P t * aJ P σ) (fun _ : Unit => vb (aw σ t now).2.2) (fun _ => yU x P (aw σ t now) * aJ P (aw σ t now).1) := by
 have hN : σ.μ.N < 1099511627000 := by have := S.N; omega
 refine aM fun R H h => ?_;obtain ⟨k, g, hR, hg, h0⟩ := jt h;have hl := hg.1;have ha := hR.1
 have hst : aw σ t now = (iz σ t, t, true) := by rw [bM σ t now ho (by omega)]; simp only [d6, hat]
 have hto : k.code = t.code := (hR.2.2.2 ho).2.2.2.2 (.inr hat);refine qB x P g σ t k now S T ho (by omega) h0 fun H1 h1 => ?_;refine ai (cp ..) ?_;refine aa (aD (by omega)) ?_;refine gs ?_;refine aa (aD (by omega)) ?_;refine gs ?_;refine aa (aD (by omega)) ?_;refine gs ?_;refine aa (aD (by omega)) ?_;refine gs ?_;refine aa (aD (by omega)) ?_;refine gs ?_;refine aa (aD (by omega)) ?_;refine gs ?_;refine aa (aD (by omega)) ?_;refine gs ?_;refine ak h1 ac rfl ?_;refine ak h1 ac rfl ?_;refine ag h1 (nQ (p := P) (g := g) (σ := σ) (μ' := (σ.μ.acc t.who 2 (8, t.s, 0)).put (8, t.s, 0) 0) (by simp) (s0 g.tb g.m σ.c.sh.toNat σ.c.sl.toNat σ.μ t.who t.s hN)) fun _ H2 h2 => ?_;exact ap (KS (g := g) (k := k) (σ' := iz σ t) (t' := t) hst hto (ay (σ := σ) hg (by simp) rfl) (show ae (xB x P t k * (av P g (iz σ t) * R)) H2 from h2.to))
theorem Zi (S : SOk σ) (T : lE σ t) (ho : t.x.op ≠ 1) (hat : t.at' = 3) : Sp bi [vp x, vi now] (yT x P t * aJ P σ) (fun _ : Unit => vb (aw σ t now).2.2) (fun _ => yU x P (aw σ t now) * aJ P (aw σ t now).1) := by
 have hN : σ.μ.N < 1099511627000 := by have := S.N; omega
 refine aM fun R H h => ?_;obtain ⟨k, g, hR, hg, h0⟩ := jt h;have hl := hg.1;have ha := hR.1;obtain ⟨hI, hfr⟩ := hR.2.1 (by omega);have hi := T.i (by omega);refine qB x P g σ t k now S T ho (by omega) h0 fun H1 h1 => ?_;refine ai (cp ..) ?_;refine aa (bw (by omega)) ?_;refine gs ?_;refine ag h1 (Ir x P g σ t k S T hI hfr hi) fun _ H2 h2 => ?_;obtain ⟨k2, hk2⟩ : ∃ k2 : Xk, k2 = rS σ t k := ⟨_, rfl⟩;rw [← hk2] at h2;refine aa (v := vb (aB σ t).found) rfl ?_;refine aa (v := vb (!(aB σ t).found && decide (σ.c.sl ≤ ((t.i + 1 : Nat) : Int)))) rfl ?_
 cases hfd : (aB σ t).found with
 | true =>
  refine gs ?_;refine bv h2 ac rfl rfl fun H4 h4 => ?_;refine ai (bk ..) ?_;exact ap (gX (g := g) (k := { k2 with a := 4 }) (σ' := aS σ t) (t' := { aB σ t with at' := 4 }) (by simp only [aw, hat]; rw [if_pos hfd, if_neg ho]) (rG rfl ho (by simp) (by rw [hk2]; rfl) (by rw [hk2]; show (if (aB σ t).found = true then (aB σ t).obj else k.obj) = (aB σ t).obj; rw [if_pos hfd]) (by simp) (by simp) (by simp) (by simp)) (ay (σ := σ) hg (by simp) rfl) (show ae (xB x P t ({ k2 with a := 4 }) * (av P (g) (aS σ t) * R)) _ from h4.to))
 | false =>
  rw [Bool.not_false, Bool.true_and];refine gs ?_
  have hli : (aB σ t).i = t.i + 1 := by
   show (if (aB σ t).found = true then t.i else t.i + 1) = _;rw [if_neg (by rw [hfd]; simp)]
  have hla : bQ σ (aB σ t) = decide (σ.c.sl ≤ ((t.i + 1 : Nat) : Int)) := by unfold bQ; rw [hli]
  have nf : ¬ (aB σ t).found = true := by rw [hfd]; simp
  by_cases hL : σ.c.sl ≤ ((t.i + 1 : Nat) : Int)
  ·have hla' : bQ σ (aB σ t) = true := hla.trans (dI hL)
   rw [dI hL];refine gs ?_;refine ag h2 (jq x P g (aS σ t) t (k2) (ay (σ := σ) hg (by simp) rfl) now 5 (by have := S.N; show σ.μ.N + 2 < _; omega) S.pts) fun v H3 h3 => ?_;refine bv h3 ac rfl rfl fun H4 h4 => ?_;refine ai (bk ..) ?_;exact ap (gX (g := { g with pv := v }) (k := { k2 with a := 10, code := 5 }) (σ' := (aS σ t).note now t.who 5) (t' := { aB σ t with at' := 10, code := 5 }) (by simp only [aw, hat]; rw [if_neg nf, if_pos hla', if_neg ho]) (QZ rfl ho rfl rfl) (dD (σ := σ) hg (by simp) rfl) (show ae (xB x P t ({ k2 with a := 10, code := 5 }) * (av P ({ g with pv := v }) ((aS σ t).note now t.who 5) * R)) _ from h4.to))
  ·have hla' : ¬ bQ σ (aB σ t) = true := by rw [hla, dQ hL]; simp
   rw [dQ hL];refine gs ?_;refine ai (bk ..) ?_;exact ap (gX (g := g) (k := k2) (σ' := aS σ t) (t' := aB σ t) (by simp only [aw, hat]; rw [if_neg nf, if_neg hla']) (y8 (by rw [hk2]; show k.a = t.at'; exact ha) (by show t.at' < 4; omega) ⟨by rw [hk2]; rfl, by rw [hk2]; rfl⟩) (ay (σ := σ) hg (by simp) rfl) (show ae (xB x P t (k2) * (av P (g) (aS σ t) * R)) _ from h2.to))
theorem Zj (S : SOk σ) (T : lE σ t) (ho : t.x.op ≠ 1) (hat : t.at' = 4) : Sp bi [vp x, vi now] (yT x P t * aJ P σ) (fun _ : Unit => vb (aw σ t now).2.2) (fun _ => yU x P (aw σ t now) * aJ P (aw σ t now).1) := by
 have hN : σ.μ.N < 1099511627000 := by have := S.N; omega
 refine aM fun R H h => ?_;obtain ⟨k, g, hR, hg, h0⟩ := jt h;have hl := hg.1;have ha := hR.1;obtain ⟨hI, hko⟩ := (hR.2.2.2 ho).1 (by omega) (by omega);have hob := T.obj (.inr ⟨by omega, by omega, ho⟩)
 have hob' : k.obj < σ.obs.length := by omega
 obtain ⟨b, hb⟩ : ∃ b, g.rp[k.obj]? = some b := ⟨_, cM (by omega)⟩;refine qB x P g σ t k now S T ho (by omega) h0 fun H1 h1 => ?_;refine ai (cp ..) ?_;refine aa (aD (by omega)) ?_;refine gs ?_;refine aa (bw (by omega)) ?_;refine gs ?_;refine bv h1 ac rfl rfl fun H2 h2 => ?_;refine ag h2 (y6 x P g σ t { k with a := 5 } S hl b hob' hb) fun _ H3 h3 => ?_;dsimp only at h3;rw [hko] at h3
 by_cases hw : aR (σ.μ.V (11, (t.obj : Int), 0)) = 0
 ·refine aa (bw (by rw [hko]; exact hw)) ?_
  refine gs ?_;refine bv h3 ac rfl rfl fun H4 h4 => ?_;refine ai (bk ..) ?_;exact ap (gX (g := g) (k := { k with a := 8, obj := t.obj, w := σ.μ.V (11, (t.obj : Int), 0) }) (σ' := da σ t) (t' := { t with w := σ.μ.V (11, (t.obj : Int), 0), at' := 8 }) (by rw [bM σ t now ho (by omega)]; simp only [d6, hat]; rw [if_pos hw]) (rG rfl ho (by simp) hI rfl (by simp) (by simp) (fun _ => rfl) (by simp)) (ay (σ := σ) hg (by simp) rfl) (show ae (xB x P t ({ k with a := 8, obj := t.obj, w := σ.μ.V (11, (t.obj : Int), 0) }) * (av P (g) (da σ t) * R)) _ from h4.to))
 ·refine aa (aD (by rw [hko]; exact hw)) ?_
  refine gs ?_;refine ai (bk ..) ?_;exact ap (gX (g := g) (k := { k with a := 5, obj := t.obj, w := σ.μ.V (11, (t.obj : Int), 0) }) (σ' := da σ t) (t' := { t with w := σ.μ.V (11, (t.obj : Int), 0), at' := 5 }) (by rw [bM σ t now ho (by omega)]; simp only [d6, hat]; rw [if_neg hw]) (rG rfl ho (by simp) hI rfl (by simp) (by simp) (by simp) (by simp)) (ay (σ := σ) hg (by simp) rfl) (show ae (xB x P t ({ k with a := 5, obj := t.obj, w := σ.μ.V (11, (t.obj : Int), 0) }) * (av P (g) (da σ t) * R)) _ from h3.to))
theorem Zk (S : SOk σ) (T : lE σ t) (ho : t.x.op ≠ 1) (hat : t.at' = 5) : Sp bi [vp x, vi now] (yT x P t * aJ P σ) (fun _ : Unit => vb (aw σ t now).2.2) (fun _ => yU x P (aw σ t now) * aJ P (aw σ t now).1) := by
 have hN : σ.μ.N < 1099511627000 := by have := S.N; omega
 refine aM fun R H h => ?_;obtain ⟨k, g, hR, hg, h0⟩ := jt h;have hl := hg.1;have ha := hR.1;obtain ⟨hI, hko⟩ := (hR.2.2.2 ho).1 (by omega) (by omega);have hob := T.obj (.inr ⟨by omega, by omega, ho⟩)
 have hob' : k.obj < σ.obs.length := by omega
 obtain ⟨b, hb⟩ : ∃ b, g.rp[k.obj]? = some b := ⟨_, cM (by omega)⟩;refine qB x P g σ t k now S T ho (by omega) h0 fun H1 h1 => ?_;refine ai (cp ..) ?_;refine aa (aD (by omega)) ?_;refine gs ?_;refine aa (aD (by omega)) ?_;refine gs ?_;refine aa (bw (by omega)) ?_;refine gs ?_;refine ak h1 ac rfl ?_;refine ag h1 (oC P g σ t.who S.N) fun _ H2 h2 => ?_;refine bv h2 ac rfl rfl fun H3 h3 => ?_;refine bv h3 ac rfl rfl fun H4 h4 => ?_;refine ak h4 ac rfl ?_;refine aa (Dc 2 (by omega)) ?_
 by_cases hw : σ.μ.V (2, 0, 0) % 2 = 1
 ·refine aa (bw (show ((σ.μ.V (2, 0, 0) % 2 : Nat) : Int) = 1 by omega)) ?_
  refine gs ?_;refine bv h4 ac rfl rfl fun H5 h5 => ?_;refine ai (bk ..) ?_;exact ap (gX (g := g) (k := { k with a := 4, q := σ.μ.V (2, 0, 0) }) (σ' := d9 σ t) (t' := { t with q := σ.μ.V (2, 0, 0), at' := 4 }) (by rw [bM σ t now ho (by omega)]; simp only [d6, hat]; rw [if_pos hw]) (rG rfl ho (by simp) hI hko (by simp) (by simp) (by simp) (by simp)) (ay (σ := σ) hg (by simp) rfl) (show ae (xB x P t ({ k with a := 4, q := σ.μ.V (2, 0, 0) }) * (av P (g) (d9 σ t) * R)) _ from h5.to))
 ·refine aa (aD (show ¬ ((σ.μ.V (2, 0, 0) % 2 : Nat) : Int) = 1 by omega)) ?_
  refine gs ?_;refine ai (bk ..) ?_;exact ap (gX (g := g) (k := { k with a := 6, q := σ.μ.V (2, 0, 0) }) (σ' := d9 σ t) (t' := { t with q := σ.μ.V (2, 0, 0), at' := 6 }) (by rw [bM σ t now ho (by omega)]; simp only [d6, hat]; rw [if_neg hw]) (rG rfl ho (by simp) hI hko (fun _ => rfl) (by simp) (by simp) (by simp)) (ay (σ := σ) hg (by simp) rfl) (show ae (xB x P t ({ k with a := 6, q := σ.μ.V (2, 0, 0) }) * (av P (g) (d9 σ t) * R)) _ from h4.to))
theorem Zl (S : SOk σ) (T : lE σ t) (ho : t.x.op ≠ 1) (hat : t.at' = 6) : Sp bi [vp x, vi now] (yT x P t * aJ P σ) (fun _ : Unit => vb (aw σ t now).2.2) (fun _ => yU x P (aw σ t now) * aJ P (aw σ t now).1) := by
 have hN : σ.μ.N < 1099511627000 := by have := S.N; omega
 refine aM fun R H h => ?_;obtain ⟨k, g, hR, hg, h0⟩ := jt h;have hl := hg.1;have ha := hR.1;obtain ⟨hI, hko⟩ := (hR.2.2.2 ho).1 (by omega) (by omega);have hob := T.obj (.inr ⟨by omega, by omega, ho⟩)
 have hob' : k.obj < σ.obs.length := by omega
 obtain ⟨b, hb⟩ : ∃ b, g.rp[k.obj]? = some b := ⟨_, cM (by omega)⟩;have hkq := (hR.2.2.2 ho).2.1 (.inl hat);refine qB x P g σ t k now S T ho (by omega) h0 fun H1 h1 => ?_;refine ai (cp ..) ?_;refine aa (aD (by omega)) ?_;refine gs ?_;refine aa (aD (by omega)) ?_;refine gs ?_;refine aa (aD (by omega)) ?_;refine gs ?_;refine aa (bw (by omega)) ?_;refine gs ?_;refine bv h1 ac rfl rfl fun H2 h2 => ?_;refine bv h2 ac rfl rfl fun H5 h5 => ?_;refine ag h5 (y6 x P g σ t { k with a := 7, mark := now } S hl b hob' hb) fun _ H3 h3 => ?_;dsimp only at h3;rw [hko] at h3
 by_cases hw : aR (σ.μ.V (11, (t.obj : Int), 0)) = 0
 ·refine aa (bw (by rw [hko]; exact hw)) ?_
  refine gs ?_;refine bv h3 ac rfl rfl fun H4 h4 => ?_;refine ai (bk ..) ?_;exact ap (gX (g := g) (k := { k with a := 8, mark := now, obj := t.obj, w := σ.μ.V (11, (t.obj : Int), 0) }) (σ' := da σ t) (t' := { t with w := σ.μ.V (11, (t.obj : Int), 0), mark := now, at' := 8 }) (by rw [bM σ t now ho (by omega)]; simp only [d6, hat]; rw [if_pos hw]) (rG rfl ho (by simp) hI rfl (by simp) (by simp) (fun _ => rfl) (by simp)) (ay (σ := σ) hg (by simp) rfl) (show ae (xB x P t ({ k with a := 8, mark := now, obj := t.obj, w := σ.μ.V (11, (t.obj : Int), 0) }) * (av P (g) (da σ t) * R)) _ from h4.to))
 ·refine aa (aD (by rw [hko]; exact hw)) ?_
  refine gs ?_;refine ai (bk ..) ?_;exact ap (gX (g := g) (k := { k with a := 7, mark := now, obj := t.obj, w := σ.μ.V (11, (t.obj : Int), 0) }) (σ' := da σ t) (t' := { t with w := σ.μ.V (11, (t.obj : Int), 0), mark := now, at' := 7 }) (by rw [bM σ t now ho (by omega)]; simp only [d6, hat]; rw [if_neg hw]) (rG rfl ho (by simp) hI rfl (fun _ => hkq) (fun _ => rfl) (by simp) (by simp)) (ay (σ := σ) hg (by simp) rfl) (show ae (xB x P t ({ k with a := 7, mark := now, obj := t.obj, w := σ.μ.V (11, (t.obj : Int), 0) }) * (av P (g) (da σ t) * R)) _ from h3.to))
theorem Zm (S : SOk σ) (T : lE σ t) (ho : t.x.op ≠ 1) (hat : t.at' = 7) : Sp bi [vp x, vi now] (yT x P t * aJ P σ) (fun _ : Unit => vb (aw σ t now).2.2) (fun _ => yU x P (aw σ t now) * aJ P (aw σ t now).1) := by
 have hN : σ.μ.N < 1099511627000 := by have := S.N; omega
 refine aM fun R H h => ?_;obtain ⟨k, g, hR, hg, h0⟩ := jt h;have hl := hg.1;have ha := hR.1;obtain ⟨hI, hko⟩ := (hR.2.2.2 ho).1 (by omega) (by omega);have hob := T.obj (.inr ⟨by omega, by omega, ho⟩)
 have hob' : k.obj < σ.obs.length := by omega
 obtain ⟨b, hb⟩ : ∃ b, g.rp[k.obj]? = some b := ⟨_, cM (by omega)⟩;have hkq := (hR.2.2.2 ho).2.1 (.inr hat);have hkm := (hR.2.2.2 ho).2.2.1 hat;refine qB x P g σ t k now S T ho (by omega) h0 fun H1 h1 => ?_;refine ai (cp ..) ?_;refine aa (aD (by omega)) ?_;refine gs ?_;refine aa (aD (by omega)) ?_;refine gs ?_;refine aa (aD (by omega)) ?_;refine gs ?_;refine aa (aD (by omega)) ?_;refine gs ?_;refine aa (bw (by omega)) ?_;refine gs ?_;refine bv h1 ac rfl rfl fun H2 h2 => ?_;refine ak h2 ac rfl ?_;refine ag h2 (oC P g σ t.who S.N) fun _ H3 h3' => ?_;refine bD ac ?_;refine aY h3' rfl ?_;refine aG h2 h3' (by rfl) ?_;rw [hkq]
 by_cases hw : σ.μ.V (2, 0, 0) = t.q
 ·refine aa (bw (show ((σ.μ.V (2, 0, 0) : Nat) : Int) = (t.q : Int) by omega)) ?_
  refine gs ?_;refine ak h3' ac rfl ?_;rw [hkm];refine ag h3' (jq x P g (d9 σ t) t ({ k with a := 4 }) (ay (σ := σ) hg (by simp) rfl) t.mark 8 (by have := S.N; show σ.μ.N + 2 < _; omega) S.pts) fun v H3 h3 => ?_;refine bv h3 ac rfl rfl fun H4 h4 => ?_;refine ai (bk ..) ?_;exact ap (gX (g := { g with pv := v }) (k := { k with a := 10, code := 8 }) (σ' := (d9 σ t).note t.mark t.who 8) (t' := { t with at' := 10, code := 8 }) (by rw [bM σ t now ho (by omega)]; simp only [d6, hat]; rw [if_pos hw]) (QZ rfl ho rfl rfl) (dD (σ := σ) hg (by simp) rfl) (show ae (xB x P t ({ k with a := 10, code := 8 }) * (av P ({ g with pv := v }) ((d9 σ t).note t.mark t.who 8) * R)) _ from h4.to))
 ·refine aa (aD (show ¬ ((σ.μ.V (2, 0, 0) : Nat) : Int) = (t.q : Int) by omega)) ?_
  refine gs ?_;refine ai (bk ..) ?_;exact ap (gX (g := g) (k := { k with a := 4 }) (σ' := d9 σ t) (t' := { t with at' := 4 }) (by rw [bM σ t now ho (by omega)]; simp only [d6, hat]; rw [if_neg hw]) (rG rfl ho (by simp) hI hko (by simp) (by simp) (by simp) (by simp)) (ay (σ := σ) hg (by simp) rfl) (show ae (xB x P t ({ k with a := 4 }) * (av P (g) (d9 σ t) * R)) _ from h3'.to))
theorem Zn (S : SOk σ) (T : lE σ t) (ho : t.x.op ≠ 1) (hat : t.at' = 8) : Sp bi [vp x, vi now] (yT x P t * aJ P σ) (fun _ : Unit => vb (aw σ t now).2.2) (fun _ => yU x P (aw σ t now) * aJ P (aw σ t now).1) := by
 have hN : σ.μ.N < 1099511627000 := by have := S.N; omega
 refine aM fun R H h => ?_;obtain ⟨k, g, hR, hg, h0⟩ := jt h;have hl := hg.1;have ha := hR.1;obtain ⟨hI, hko⟩ := (hR.2.2.2 ho).1 (by omega) (by omega);have hob := T.obj (.inr ⟨by omega, by omega, ho⟩)
 have hob' : k.obj < σ.obs.length := by omega
 obtain ⟨b, hb⟩ : ∃ b, g.rp[k.obj]? = some b := ⟨_, cM (by omega)⟩;have hkw := (hR.2.2.2 ho).2.2.2.1 hat
 have leT : σ.μ.N ≤ (σ.μ.turn t.who t.obj t.w (aQ t.w 2)).N := by
  cases aQ t.w 2 with
  | none => exact bK _
  | some n => show σ.μ.N ≤ σ.μ.N + 2; omega
 have leN : (σ.μ.turn t.who t.obj t.w (aQ t.w 2)).N ≤ σ.μ.N + 2 := by
  cases aQ t.w 2 with
  | none => show σ.μ.N ≤ σ.μ.N + 2; omega
  | some n => exact bK _
 refine qB x P g σ t k now S T ho (by omega) h0 fun H1 h1 => ?_;refine ai (cp ..) ?_;refine aa (aD (by omega)) ?_;refine gs ?_;refine aa (aD (by omega)) ?_;refine gs ?_;refine aa (aD (by omega)) ?_;refine gs ?_;refine aa (aD (by omega)) ?_;refine gs ?_;refine aa (aD (by omega)) ?_;refine gs ?_;refine aa (bw (by omega)) ?_;refine gs ?_;refine bv h1 ac rfl rfl fun H2 h2 => ?_;refine ag h2 (jr x P g σ t { k with a := 4 } hl b hob' hb) fun _ H3 h3 => ?_;refine bD ac ?_;refine aY h3 rfl ?_;refine aG h2 h3 (by rfl) ?_;refine bD ac ?_;refine aY h3 rfl ?_;refine aG h2 h3 (by rfl) ?_;rw [hkw];refine ag h3 (lF (p := P) (μ' := σ.μ.turn t.who t.obj t.w (aQ t.w 2)) leT hl hob' hb (by rw [hko]; exact BM g.m t.obj b (au σ t.obj) σ.μ t.who t.w 2 (by omega) T.w hN)) fun _ H5 h5 => ?_;cases hw : dY σ.μ t.obj t.w (aQ t.w 2)
 ·refine gs ?_
  refine ai (bk ..) ?_;exact ap (gX (g := g) (k := { k with a := 4 }) (σ' := σ.mem (σ.μ.turn t.who t.obj t.w (aQ t.w 2))) (t' := { t with at' := 4 }) (by rw [bM σ t now ho (by omega)]; simp only [d6, hat]; rw [if_neg (by rw [hw]; simp)]) (rG rfl ho (by simp) hI hko (by simp) (by simp) (by simp) (by simp)) (ay (σ := σ) hg leT rfl) (show ae (xB x P t ({ k with a := 4 }) * (av P (g) (σ.mem (σ.μ.turn t.who t.obj t.w (aQ t.w 2))) * R)) _ from h5.to))
 ·refine gs ?_
  refine ag h5 (jq x P g (σ.mem (σ.μ.turn t.who t.obj t.w (aQ t.w 2))) t { k with a := 4 } (ay (σ := σ) hg leT rfl) now 0 (by have := S.N; show (σ.μ.turn t.who t.obj t.w (aQ t.w 2)).N < _; omega) S.pts) fun v H6 h6 => ?_;refine bv h6 ac rfl rfl fun H7 h7 => ?_;refine ai (bk ..) ?_;exact ap (gX (g := { g with pv := v }) (k := { k with a := 9, code := 0 }) (σ' := (σ.mem (σ.μ.turn t.who t.obj t.w (aQ t.w 2))).note now t.who 0) (t' := { t with at' := 9, code := 0 }) (by rw [bM σ t now ho (by omega)]; simp only [d6, hat]; rw [if_pos hw]) (rG rfl ho (by simp) hI hko (by simp) (by simp) (by simp) (fun _ => rfl)) (dD (σ := σ) hg leT rfl) (show ae (xB x P t ({ k with a := 9, code := 0 }) * (av P ({ g with pv := v }) ((σ.mem (σ.μ.turn t.who t.obj t.w (aQ t.w 2))).note now t.who 0) * R)) _ from h7.to))
theorem Zo (S : SOk σ) (T : lE σ t) (ho : t.x.op ≠ 1) (hat : t.at' = 9) : Sp bi [vp x, vi now] (yT x P t * aJ P σ) (fun _ : Unit => vb (aw σ t now).2.2) (fun _ => yU x P (aw σ t now) * aJ P (aw σ t now).1) := by
 have hN : σ.μ.N < 1099511627000 := by have := S.N; omega
 refine aM fun R H h => ?_;obtain ⟨k, g, hR, hg, h0⟩ := jt h;have hl := hg.1;have ha := hR.1;obtain ⟨hI, hko⟩ := (hR.2.2.2 ho).1 (by omega) (by omega);have hob := T.obj (.inr ⟨by omega, by omega, ho⟩)
 have hob' : k.obj < σ.obs.length := by omega
 obtain ⟨b, hb⟩ : ∃ b, g.rp[k.obj]? = some b := ⟨_, cM (by omega)⟩;have hkc := (hR.2.2.2 ho).2.2.2.2 (.inl hat);refine qB x P g σ t k now S T ho (by omega) h0 fun H1 h1 => ?_;refine ai (cp ..) ?_;refine aa (aD (by omega)) ?_;refine gs ?_;refine aa (aD (by omega)) ?_;refine gs ?_;refine aa (aD (by omega)) ?_;refine gs ?_;refine aa (aD (by omega)) ?_;refine gs ?_;refine aa (aD (by omega)) ?_;refine gs ?_;refine aa (aD (by omega)) ?_;refine gs ?_;refine aa (bw (by omega)) ?_;refine gs ?_;refine ak h1 ac rfl ?_;refine ak h1 ac rfl ?_;refine ak h1 ac rfl ?_;rw [hI];refine ag h1 (nQ (p := P) (g := g) (σ := σ) (μ' := (σ.μ.acc t.who 2 (10, t.s, (t.i : Int))).put (10, t.s, (t.i : Int)) 0) (by simp) (PV g.tb g.m σ.c.sh.toNat σ.c.sl.toNat σ.μ t.who t.s t.i hN)) fun _ H2 h2 => ?_;refine bv h2 ac rfl rfl fun H4 h4 => ?_;refine ai (bk ..) ?_;exact ap (gX (g := g) (k := { k with a := 10 }) (σ' := σ.mem ((σ.μ.acc t.who 2 (10, t.s, (t.i : Int))).put (10, t.s, (t.i : Int)) 0)) (t' := { t with at' := 10 }) (by rw [bM σ t now ho (by omega)]; simp only [d6, hat]) (QZ rfl ho rfl hkc) (ay (σ := σ) hg (by simp) rfl) (show ae (xB x P t ({ k with a := 10 }) * (av P (g) (σ.mem ((σ.μ.acc t.who 2 (10, t.s, (t.i : Int))).put (10, t.s, (t.i : Int)) 0)) * R)) _ from h4.to))
theorem VD (S : SOk σ) (T : lE σ t) (hat : t.at' = 2) : Sp bi [vp x, vi now] (yT x P t * aJ P σ) (fun _ : Unit => vb (aw σ t now).2.2) (fun _ => yU x P (aw σ t now) * aJ P (aw σ t now).1) := by
 have hN : σ.μ.N < 1099511627000 := by have := S.N; omega
 refine aM fun R H h => ?_;obtain ⟨k, g, hR, hg, h0⟩ := jt h;have hl := hg.1;have ha := hR.1
 have hst : aw σ t now = eN σ t := by simp only [aw, hat]
 refine wJ x P g σ t k now S T (by omega) h0 fun H1 h1 => ?_;rw [hst];exact Dz x P g σ t k now S (hR.2.1 (by omega)) (by omega) hg h1
theorem VC (S : SOk σ) (T : lE σ t) (hat : t.at' = 0) : Sp bi [vp x, vi now] (yT x P t * aJ P σ) (fun _ : Unit => vb (aw σ t now).2.2) (fun _ => yU x P (aw σ t now) * aJ P (aw σ t now).1) := by
 have hN : σ.μ.N < 1099511627000 := by have := S.N; omega
 refine aM fun R H h => ?_;obtain ⟨k, g, hR, hg, h0⟩ := jt h;have hl := hg.1;have ha := hR.1;refine Ip x P g σ t k now S T h0 fun H1 h1 => ?_;refine ai (l7 ..) ?_;refine ak h1 ac rfl ?_;refine aa (bw (by omega)) ?_;refine ai (kM ..) ?_;refine gs ?_
 have bad : ∀ code, code ≠ 0 → hM t.x = some code → wp (cN (vp x) (vi now) (vb false) (vp P) (vi t.s) (vi code) H1) fun v' H' => ∃ y : Unit, v' = vb (aw σ t now).2.2 ∧ ae (yU x P (aw σ t now) * aJ P (aw σ t now).1 * R) H' := by
  intro code h0 hx;refine ai (kO ..) ?_;refine aa (Hi h0) ?_;refine gs ?_;refine ag h1 (jq x P g σ t k hg now code (by have := S.N; omega) S.pts) fun v H2 h2 => ?_;exact ap (KS (g := { g with pv := v }) (k := { k with code := code }) (σ' := σ.note now t.who code) (t' := { t with code := code }) (by simp only [aw, hat, hx]) rfl (dD (σ := σ) hg (bK _) rfl) h2.to)
 have good : hM t.x = none → wp (cN (vp x) (vi now) (vb false) (vp P) (vi t.s) (vi 0) H1) fun v' H' => ∃ y : Unit, v' = vb (aw σ t now).2.2 ∧ ae (yU x P (aw σ t now) * aJ P (aw σ t now).1 * R) H' := by
  intro hx
  have hst : aw σ t now = eN σ t := by simp only [aw, hat, hx]
  refine ai (kO ..) ?_;refine aa (p7 rfl) ?_;refine gs ?_;refine bv h1 ac rfl rfl fun H2 h2 => ?_;rw [hst];exact Dz x P g σ t { k with a := 2 } now S (hR.2.1 (by omega)) rfl hg h2.to
 have k17f : ol t.x → wp (gS (vp x) (vi now) (vb false) (vp P) (vi t.s) (vi 0) (vb false) H1) fun v' H' => ∃ y : Unit, v' = vb (aw σ t now).2.2 ∧ ae (yU x P (aw σ t now) * aJ P (aw σ t now).1 * R) H' := by
  intro hf;refine ai (kN ..) ?_;refine ak h1 (b8 (aO (aO ba))) rfl ?_
  by_cases ho : t.x.op = 1
  ·refine aa (p7 ho) ?_
   refine gs ?_;rw [Bool.not_false];refine gs ?_;exact bad 1 (by omega) (by rw [md ho, if_pos hf])
  ·refine aa (Hi ho) ?_
   refine gs ?_;rw [Bool.not_false];refine gs ?_;exact bad 5 (by omega) (by rw [A6 ho, if_pos hf])
 have k17t : ¬ ol t.x → wp (gS (vp x) (vi now) (vb false) (vp P) (vi t.s) (vi 0) (vb true) H1) fun v' H' => ∃ y : Unit, v' = vb (aw σ t now).2.2 ∧ ae (yU x P (aw σ t now) * aJ P (aw σ t now).1 * R) H' := by
  intro hf;refine ai (kN ..) ?_;refine ak h1 (b8 (aO (aO ba))) rfl ?_
  by_cases ho : t.x.op = 1
  ·refine aa (p7 ho) ?_
   refine gs ?_;rw [Bool.not_true];refine gs ?_;refine ak h1 (b8 (aO (aO ba))) rfl ?_;refine aa (bw ho) ?_;refine gs ?_;refine ak h1 (b8 (aO (aO ba))) rfl ?_;refine gs ?_
   by_cases ha1 : t.x.a < 1
   ·refine aa (eO ha1) ?_
    refine gs ?_;exact bad 4 (by omega) (by rw [md ho, if_neg hf, if_pos (.inl ha1)])
   refine aa (db ha1) ?_;refine gs ?_;refine ak h1 (b8 (aO (aO ba))) rfl ?_;refine gs ?_
   by_cases ha2 : 65536 < t.x.a
   ·refine aa (pK ha2) ?_
    refine gs ?_;exact bad 4 (by omega) (by rw [md ho, if_neg hf, if_pos (.inr ha2)])
   refine aa (iQ ha2) ?_;refine gs ?_;refine ak h1 (b8 (aO (aO ba))) rfl ?_;refine aa (bw ho) ?_;refine gs ?_;refine ak h1 (b8 (aO (aO ba))) rfl ?_;refine gs ?_
   by_cases hb1 : t.x.b < 1
   ·refine aa (eO hb1) ?_
    refine gs ?_;exact bad 1 (by omega) (by rw [md ho, if_neg hf, if_neg (by omega), if_pos (.inl hb1)])
   refine aa (db hb1) ?_;refine gs ?_;refine ak h1 (b8 (aO (aO ba))) rfl ?_;refine gs ?_
   by_cases hb2 : 8 < t.x.b
   ·refine aa (pK hb2) ?_
    refine gs ?_;exact bad 1 (by omega) (by rw [md ho, if_neg hf, if_neg (by omega), if_pos (.inr hb2)])
   refine aa (iQ hb2) ?_;refine gs ?_;exact good (by rw [md ho, if_neg hf, if_neg (by omega), if_neg (by omega)])
  ·refine aa (Hi ho) ?_
   refine gs ?_;rw [Bool.not_true];refine gs ?_;rw [Bool.not_true];refine gs ?_;refine ak h1 (b8 (aO (aO ba))) rfl ?_;refine aa (aD ho) ?_;refine gs ?_;refine ak h1 (b8 (aO (aO ba))) rfl ?_;refine aa (aD ho) ?_;refine gs ?_;exact good (by rw [A6 ho, if_neg hf])
 refine ak h1 (b8 (aO (aO ba))) rfl ?_
 by_cases hf : t.x.flow < 0
 ·refine aa (pJ (by omega)) ?_
  refine gs ?_;exact k17f (.inl hf)
 refine aa (wU (by omega)) ?_;refine gs ?_;refine ak h1 (b8 (aO (aO ba))) rfl ?_;refine gs ?_
 by_cases hf2 : 1048576 < t.x.flow
 ·refine aa (Tq (by omega)) ?_
  refine gs ?_;exact k17f (.inr hf2)
 refine aa (Tt (by omega)) ?_;refine gs ?_;exact k17t (fun h => h.elim hf hf2)
theorem QP (S : SOk σ) (T : lE σ t) : Sp bi [vp x, vi now] (yT x P t * aJ P σ) (fun _ : Unit => vb (aw σ t now).2.2) (fun _ => yU x P (aw σ t now) * aJ P (aw σ t now).1) := by
 by_cases ho : t.x.op = 1
 ·rcases T.ats with hat | hat | hat | hat | hat
  ·exact VC x P σ t now S T hat
  ·exact VD x P σ t now S T hat
  ·exact Zp x P σ t now S T ho hat
  ·by_cases h4 : t.at' = 4
   ·exact Zq x P σ t now S T ho h4
   by_cases h5 : t.at' = 5
   ·exact Zr x P σ t now S T ho h5
   exact Zs x P σ t now S T ho (by omega)
  ·exact absurd ho hat.1
 ·rcases T.ats with hat | hat | hat | hat | hat
  ·exact VC x P σ t now S T hat
  ·exact VD x P σ t now S T hat
  ·exact Zi x P σ t now S T ho hat
  ·by_cases h4 : t.at' = 4
   ·exact Zj x P σ t now S T ho h4
   by_cases h5 : t.at' = 5
   ·exact Zk x P σ t now S T ho h5
   exact Zl x P σ t now S T ho (by omega)
  ·by_cases h7 : t.at' = 7
   ·exact Zm x P σ t now S T ho h7
   by_cases h8 : t.at' = 8
   ·exact Zn x P σ t now S T ho h8
   by_cases h9 : t.at' = 9
   ·exact Zo x P σ t now S T ho h9
   exact XF x P σ t now S T ho (by omega)
end
abbrev TP := Nat × Pt
def ltT (a b : TP) : Prop := a.2.step < b.2.step ∨ a.2.step = b.2.step ∧ a.1 < b.1
def Zt (L : List TP) : Prop := L.Pairwise ltT
def VH (X Y : List TP) : Prop := ∀ x ∈ X, ∀ y ∈ Y, x.1 < y.1
abbrev pl (L : List TP) : List Pt := L.map fun x : TP => x.2
theorem Xh : Zt [] := List.Pairwise.nil
inductive XH (bs : Nat) : List TP → Prop
 | last {X : List TP} (h1 : X.length ≤ bs) (h2 : Zt X) : XH bs X
 | cons {X L : List TP} (h1 : X.length = bs) (h2 : Zt X) (h3 : VH X L) (h4 : XH bs L) : XH bs (X ++ L)
theorem XH.nil {bs : Nat} : XH bs [] := .last (by simp) Xh
theorem XH.split {bs : Nat} {L : List TP} (h : XH bs L) (hl : bs ≤ L.length) : ∃ X L2, L = X ++ L2 ∧ X.length = bs ∧ Zt X ∧ VH X L2 ∧ XH bs L2 := by
 cases h with
 | last h1 h2 => exact ⟨L, [], by simp, by omega, h2, (fun x _ y hy => by cases hy), .nil⟩
 | @cons X L' h1 h2 h3 h4 => exact ⟨X, L', rfl, h1, h2, h3, h4⟩
theorem VH.left {X X2 Y : List TP} (h : VH (X ++ X2) Y) : VH X Y := fun x hx y hy => h x (List.mem_append_left _ hx) y hy
theorem VH.sub {X X' Y Y' : List TP} (h : VH X Y) (hx : ∀ x ∈ X', x ∈ X) (hy : ∀ y ∈ Y', y ∈ Y) : VH X' Y' := fun x h1 y h2 => h x (hx x h1) y (hy y h2)
theorem KM {x : OV} {Q Q' : Value → AH → Prop} (f : ∀ v H, Q v H → Q' v H) (k : wp x Q) : wp x Q' := let ⟨v, H, e, q⟩ := k; ⟨v, H, e, f _ _ q⟩
theorem Ak : Sp fG [.slice none 0 0, .slice none 0 0] emp (fun _ : Unit => vb true) (fun _ => emp) := by
 have same : ∀ f : Value, Sp pS [.slice none 0 0, .slice none 0 0, f] emp (fun _ : Unit => vb true) (fun _ => emp) := by
  intro f;refine bp (EO _ _ _) fun R H h => ?_;refine Nz ?_;refine Nz ?_;refine aa (p7 rfl) ?_;refine gs ?_;refine ai (xw _ _ _ _ H) ?_;refine ai (xy _ _ _ _ _ H) ?_;refine ai (xz _ _ _ _ _ H) ?_;refine Nz ?_;refine aa (db (by omega)) ?_;refine gs ?_;refine ai (t3 _ H) ?_;refine ai (xx _ H) ?_;exact ap ⟨(), rfl, h⟩
 refine bp (nk _ _) fun R H h => ?_;refine ag h (same _) fun _ H1 h1 => ?_;exact ap ⟨(), rfl, h1.to⟩
theorem Ti (e : Int) : Sp sC [.agg (dX e).toArray, .agg (dX e).toArray] emp (fun _ : Unit => vb true) (fun _ => emp) := by
 refine bp (G5 _ _) fun R H h => ?_;refine bg h fun b1 H1 h1 => ?_;refine bg h1 fun b2 H2 h2 => ?_;refine ak h2 aK rfl ?_;refine ak h2 aK rfl ?_;refine aa (bw rfl) ?_;refine gs ?_;refine ak h2 aK rfl ?_;refine gs ?_;refine ak h2 aK rfl ?_;refine gs ?_;refine aa (bw rfl) ?_;refine gs ?_;refine ak h2 aK rfl ?_;refine gs ?_;refine ak h2 aK rfl ?_;refine gs ?_;refine aa (bw rfl) ?_;refine gs ?_;refine ak h2 aK rfl ?_;refine gs ?_;refine ak h2 aK rfl ?_;refine gs ?_;refine ag h2 Ak fun _ H3 h3 => ?_;refine gs ?_;exact ap ⟨(), rfl, h3.to⟩
section
variable {α : Type}
theorem Yu (A B : List α) (x : α) : (A ++ x :: B)[A.length]? = some x := by simp
theorem VO {A B : List α} {x : α} {i : Nat} (h : i = A.length) : (A ++ x :: B)[i]? = some x := by subst h; exact Yu A B x
theorem at2 {A B C : List α} {x y : α} {j : Nat} (hj : j = A.length + 1 + B.length) : (A ++ x :: (B ++ y :: C))[j]? = some y := by
 have e : A ++ x :: (B ++ y :: C) = (A ++ x :: B) ++ y :: C := by simp
 rw [e];exact VO (by simp; omega)
end
section
variable {P R : SP} {H : AH} {s : Value} {l : List Pt} {Q : Value → AH → Prop}
end

section
variable (A B : List Pt) (s : Value) (X Y : List TP)
end
section
variable (A B : List Pt) (s : Value) (X Y : List TP) (hX : Zt X) (hY : Zt Y) (hB : VH X Y) (hb : A.length + X.length + Y.length < 1000000)
include hX hY hB hb
end


theorem PR {x : Nat} {g : XIds} {σ : aL} {R : SP} {H : AH} (h : ae (av x g σ * R) H) : ∃ (kv vv ev : Value) (Z : SP), ae (blk g.m (.cells false [kv, vv, ev]) * (ts 5 Ev.cells ev σ.μ.E * (blk x (.cells false [vi σ.c.sh, vi σ.c.sl, vi σ.c.wk, vi σ.c.wd, vu σ.c.un, vp g.m, vp g.ib, vp g.tb, vp g.po, vp g.co, g.ov, g.rv, g.wv, g.pv]) * (Z * R)))) H ∧
 ∀ {R' : SP} {H' : AH}, ae (blk g.m (.cells false [kv, vv, ev]) * (ts 5 Ev.cells ev σ.μ.E * (blk x (.cells false [vi σ.c.sh, vi σ.c.sl, vi σ.c.wk, vi σ.c.wd, vu σ.c.un, vp g.m, vp g.ib, vp g.tb, vp g.po, vp g.co, g.ov, g.rv, g.wv, g.pv]) * (Z * R')))) H' → ae (av x g σ * R') H' := by
 unfold av at h
 have h1 : ae (bN g.m σ.μ * (blk x (.cells false [vi σ.c.sh, vi σ.c.sl, vi σ.c.wk, vi σ.c.wd, vu σ.c.un, vp g.m, vp g.ib, vp g.tb, vp g.po, vp g.co, g.ov, g.rv, g.wv, g.pv]) * ((iC g.ib g.m σ.c.sh σ.nx σ.μ.N * (tab g.tb g.m σ.c.sh.toNat σ.c.sl.toNat *
  (ts 3 rJ g.ov (σ.obs.map fun x => x.1) * (ts 1 oH g.rv g.rp * (jk g.m 0 (g.rp.zip (σ.obs.map fun x => x.2)) * (ts 1 kR g.wv (fu g.ws) * ts 7 Pt.cells g.pv (bV σ.pts))))))) * R))) H := h.to
 obtain ⟨al, h2⟩ := ae.ex.1 h1;rw [aj, ae.pu] at h2;obtain ⟨hp, h2⟩ := h2;obtain ⟨⟨kv, vv, ev⟩, h3⟩ := ae.ex.1 h2;dsimp only at h3
 refine ⟨kv, vv, ev, (ts 3 DR kv al * ts 1 GE vv al) * (iC g.ib g.m σ.c.sh σ.nx σ.μ.N * (tab g.tb g.m σ.c.sh.toNat σ.c.sl.toNat *
  (ts 3 rJ g.ov (σ.obs.map fun x => x.1) * (ts 1 oH g.rv g.rp * (jk g.m 0 (g.rp.zip (σ.obs.map fun x => x.2)) * (ts 1 kR g.wv (fu g.ws) * ts 7 Pt.cells g.pv (bV σ.pts))))))), h3.to, fun {R' H'} h4 => ?_⟩
 unfold av
 have h5 : ae (bN g.m σ.μ * (blk x (.cells false [vi σ.c.sh, vi σ.c.sl, vi σ.c.wk, vi σ.c.wd, vu σ.c.un, vp g.m, vp g.ib, vp g.tb, vp g.po, vp g.co, g.ov, g.rv, g.wv, g.pv]) * ((iC g.ib g.m σ.c.sh σ.nx σ.μ.N * (tab g.tb g.m σ.c.sh.toNat σ.c.sl.toNat *
  (ts 3 rJ g.ov (σ.obs.map fun x => x.1) * (ts 1 oH g.rv g.rp * (jk g.m 0 (g.rp.zip (σ.obs.map fun x => x.2)) * (ts 1 kR g.wv (fu g.ws) * ts 7 Pt.cells g.pv (bV σ.pts))))))) * R'))) H' := by
  refine ae.ex.2 ⟨al, ?_⟩;rw [aj, ae.pu];refine ⟨hp, ae.ex.2 ⟨(kv, vv, ev), ?_⟩⟩;dsimp only;exact h4.to
 exact h5.to
theorem U6 {w how n : Nat} (h : aQ w how = some n) : n < 18446744073709551616 := by
 have := eh w;unfold aQ at h
 split at h
 ·split at h
  ·have := hF h; omega
  ·cases h
 ·split at h
  ·have := hF h; omega
  ·cases h
 ·split at h
  ·have := hF h; omega
  ·cases h
 ·cases h
structure SI (σ : aL) (k : Nat) : Prop where
 c : bW σ.c = true
 N : σ.μ.N ≤ k
 E : σ.μ.E.length ≤ k
 pts : σ.pts.length ≤ k
 V : ∀ l, σ.μ.V l < 18446744073709551616
 obs : σ.obs.length ≤ k
 cells : ∀ o, o < σ.obs.length → 1 ≤ (au σ o).length ∧ (au σ o).length < 1000
 slot : ∀ s i, σ.μ.V (10, s, i) ≠ 0 → σ.μ.V (10, s, i) % 4294967296 < σ.obs.length
 head : ∀ o, σ.μ.V (12, o, 0) ≤ k
theorem SI.ok {σ : aL} {k : Nat} (h : SI σ k) (hk : k < 300000) : SOk σ :=
 ⟨h.c, by have := h.N; omega, by have := h.pts; omega, h.V, by have := h.obs; omega, h.cells, h.slot⟩
theorem SI.mono {σ : aL} {k k' : Nat} (h : SI σ k) (hk : k ≤ k') : SI σ k' :=
 ⟨h.c, fF h.N hk, fF h.E hk, fF h.pts hk, h.V, fF h.obs (by omega), h.cells, h.slot, fun o => fF (h.head o) hk⟩
theorem SI.acc {σ : aL} {k : Nat} (h : SI σ k) (who kd : Int) (l : cE) : SI (σ.mem (σ.μ.acc who kd l)) (k + 2) :=
 ⟨h.c, by have := h.N; show σ.μ.N + 2 ≤ _; omega, by have := h.E; show (σ.μ.E ++ [_]).length ≤ _; simp; omega, fF h.pts (by omega), h.V, fF h.obs (by omega), h.cells, h.slot, fun o => fF (h.head o) (by omega)⟩
theorem SI.put {σ : aL} {k : Nat} (h : SI σ k) (l : cE) (v : Nat) (hv : v < 18446744073709551616) (h1 : l.1 ≠ 10) (h2 : l.1 ≠ 12 ∨ v ≤ k) : SI (σ.mem (σ.μ.put l v)) k := by
 refine ⟨h.c, h.N, h.E, h.pts, fun x => ?_, h.obs, h.cells, fun s i => ?_, fun o => ?_⟩
 ·show (if x = l then v else σ.μ.V x) < _
  split
  ·exact hv
  ·exact h.V x
 ·show (if (10, s, i) = l then v else σ.μ.V (10, s, i)) ≠ 0 → (if (10, s, i) = l then v else σ.μ.V (10, s, i)) % _ < _
  rw [if_neg (fun e => h1 (by rw [← e]))];exact h.slot s i
 ·show (if (12, o, 0) = l then v else σ.μ.V (12, o, 0)) ≤ _
  split
  ·rename_i e
   rcases h2 with h2 | h2
   ·exact absurd (by rw [← e]) h2
   ·exact h2
  ·exact h.head o
theorem SI.swp {σ : aL} {k : Nat} (h : SI σ k) (who : Int) (l : cE) (was now : Nat) (hv : now < 18446744073709551616) (h1 : l.1 ≠ 10) (h2 : l.1 ≠ 12) : SI (σ.mem (σ.μ.swp who l was now)) (k + 2) := by
 have e : σ.μ.swp who l was now = (if σ.μ.V l = was then (σ.μ.acc who 3 l).put l now else σ.μ.acc who 4 l) := by
  show (⟨_, _, _⟩ : Mu) = _;unfold Mu.swap
  split <;> rfl
 rw [e]
 split
 ·exact (h.acc who 3 l).put l now hv h1 (.inl h2)
 ·exact h.acc who 4 l
theorem SI.turn {σ : aL} {k : Nat} (h : SI σ k) (who : Int) (o w how : Nat) : SI (σ.mem (σ.μ.turn who o w (aQ w how))) (k + 2) := by
 cases e : aQ w how with
 | none => exact h.mono (by omega)
 | some n => exact h.swp who (11, (o : Int), 0) w n (U6 e) (by simp) (by simp)
theorem SI.cnt {σ : aL} {k : Nat} (h : SI σ k) (who : Int) (l : cE) (n : Nat) (h1 : l.1 ≠ 10) (h2 : l.1 ≠ 12) : SI (σ.mem (σ.μ.cnt who l n)) (k + 2) :=
 (h.acc who 3 l).put l _ (Nat.mod_lt _ (by omega)) h1 (.inl h2)
theorem SI.note {σ : aL} {k : Nat} (h : SI σ k) (step who e : Int) : SI (σ.note step who e) (k + 1) :=
 ⟨h.c, fF h.N (by omega), fF h.E (by omega), by have := h.pts; show (σ.pts ++ [_]).length ≤ _; simp; omega, h.V, fF h.obs (by omega), h.cells, h.slot, fun o => fF (h.head o) (by omega)⟩
theorem SI.link {σ : aL} {k : Nat} (h : SI σ k) (who : Int) (l : cE) (nx : Int → Option Nat) : SI { σ with μ := σ.μ.acc who 6 l, nx := nx } (k + 2) := by
 have := h.acc who 6 l;exact ⟨this.c, this.N, this.E, this.pts, this.V, this.obs, this.cells, this.slot, this.head⟩
theorem SI.begin {σ : aL} {k : Nat} (h : SI σ k) (who place : Int) : SI (σ.begin who place) (k + 1) :=
 ⟨h.c, by have := h.N; show σ.μ.N + 1 ≤ _; omega, fF h.E (by omega), fF h.pts (by omega), h.V, fF h.obs (by omega), h.cells, h.slot, fun o => fF (h.head o) (by omega)⟩
theorem SI.lay {σ : aL} {k : Nat} (h : SI σ k) (t : Tk) : SI (nz σ t) (k + 2) := by
 have ha := h.acc t.who 6 (16, (t.obj : Int), ((aI t.w % (au σ t.obj).length : Nat) : Int));rw [yQ]
 have hl : (σ.obs.modify t.obj fun q => (q.1, (au σ t.obj).set (aI t.w % (au σ t.obj).length) (⟨t.x.flow, t.x.a, t.x.b⟩ : Pk))).length = σ.obs.length := by simp
 refine ⟨ha.c, ha.N, ha.E, ha.pts, ha.V, by rw [hl]; exact fF h.obs (by omega), fun o ho => ?_, fun s i hs => by show _ < List.length _; rw [hl]; exact h.slot s i hs, ha.head⟩
 have ho' : o < σ.obs.length := by
  have : o < (σ.obs.modify t.obj fun q => (q.1, (au σ t.obj).set (aI t.w % (au σ t.obj).length) (⟨t.x.flow, t.x.a, t.x.b⟩ : Pk))).length := ho
  rwa [hl] at this
 have hc := h.cells o ho';rw [tC ho'] at hc
 have hx : ∀ z : Ob × List Pk, z.2.length = (σ.obs[o]).2.length → 1 ≤ z.2.length ∧ z.2.length < 1000 := fun z hz => by rw [hz]; exact hc
 unfold au;rw [List.getElem?_modify, cM ho'];refine hx (if t.obj = o then ((σ.obs[o]).1, (au σ t.obj).set (aI t.w % (au σ t.obj).length) ⟨t.x.flow, t.x.a, t.x.b⟩) else σ.obs[o]) ?_
 split
 ·rename_i e
  subst e;rw [tC ho', JE]
 ·rfl
theorem gT.mono {σ σ' : aL} {t : Tk} (T : gT σ t) (hc : σ'.c = σ.c) (ho : σ'.obs.length = σ.obs.length) : gT σ' t :=
 ⟨fun h => by rw [ho]; exact T.obj h, by rw [hc]; exact T.s, by rw [hc]; exact T.i, T.w, T.c5, T.c0, T.ats⟩
abbrev Tk.new (c : fM) (who : Int) (x : Cl) : Tk := ⟨who, x, (x.flow.tmod c.sh + c.sh).tmod c.sh, 0, 0, 0, false, 0, 0, 0, 0, 0⟩
theorem gT.new {σ : aL} (hc : bW σ.c = true) (who : Int) (x : Cl) : gT σ (Tk.new σ.c who x) := by
 have := bx.1 hc;exact ⟨fun h => by simp at h, rfl, fun _ _ => by simp; omega, by simp, fun h => by simp at h, fun h => by simp at h, .inl rfl⟩
theorem MN (σ : aL) (t : Tk) : ((nz σ t).obs.map fun q => q.1) = σ.obs.map fun q => q.1 := by
 unfold nz;apply List.ext_getElem?;intro j;simp only [Au, List.getElem?_modify]
 cases σ.obs[j]? with
 | none => rfl
 | some q =>
  show some (if t.obj = j then _ else q).1 = some q.1
  split <;> rfl
structure Kept (σ : aL) (t : Tk) (r : aL × Tk × Bool) (k : Nat) : Prop where
 si : SI r.1 (k + 3)
 c : r.1.c = σ.c
 obs : r.1.obs.length = σ.obs.length
 hd : (r.1.obs.map fun q => q.1) = σ.obs.map fun q => q.1
 pts : r.1.pts.length ≤ σ.pts.length + 1
 who : r.2.1.who = t.who
 x : r.2.1.x = t.x
 ok : r.2.2 = false → gT r.1 r.2.1
theorem Dh {σ : aL} {t : Tk} {k : Nat} (h : SI σ k) (T : gT σ t) (hat : t.at' = 0 ∨ t.at' = 2) : Kept σ t (gh σ t) k := by
 refine ⟨(h.acc _ _ _).mono (by omega), rfl, rfl, rfl, Nat.le_succ _, rfl, rfl, fun _ => ?_⟩;have hi := T.i (by omega) (by omega);refine ⟨fun hh => ?_, T.s, fun h1 h2 => ?_, T.w, fun hh => ?_, fun hh => ?_, ?_⟩
 ·show (aP σ t).obj < σ.obs.length
  have hf : (aP σ t).found = true := by
   cases hf : (aP σ t).found with
   | true => rfl
   | false =>
    have hh' : 6 ≤ (if (aP σ t).found = true then 6 else if bQ σ (aP σ t) = true then 3 else 2 : Nat) ∨ (if (aP σ t).found = true then 6 else if bQ σ (aP σ t) = true then 3 else 2 : Nat) = 5 ∧ _ := hh;rw [hf, if_neg (by simp)] at hh'
    rcases hh' with q | q
    ·split at q <;> omega
    ·have q := q.1
     split at q <;> omega
  have hf' : fe (σ.μ.V (10, t.s, (t.i : Int))) t.x.flow = true := hf;have e : (aP σ t).obj = σ.μ.V (10, t.s, (t.i : Int)) % 4294967296 := if_pos hf';rw [e];have hv := (of_decide_eq_true hf').1;exact h.slot _ _ hv
 ·have h1 : (if (aP σ t).found = true then 6 else if bQ σ (aP σ t) = true then 3 else 2 : Nat) < 5 := h1
  have h2 : (if (aP σ t).found = true then 6 else if bQ σ (aP σ t) = true then 3 else 2 : Nat) ≠ 3 := h2
  have hl : ¬ bQ σ (aP σ t) = true := by
   intro hl;rw [if_pos hl] at h1 h2
   split at h1
   ·omega
   ·rename_i hn
    rw [if_neg hn] at h2;exact h2 rfl
  have : ¬ (σ.c.sl ≤ ((t.i + 1 : Nat) : Int)) := fun q => hl (dI q);show ((t.i + 1 : Nat) : Int) < σ.c.sl;omega
 ·have hh : (if (aP σ t).found = true then 6 else if bQ σ (aP σ t) = true then 3 else 2 : Nat) = 5 := hh
  split at hh
  ·omega
  ·split at hh <;> omega
 ·have hh : (if (aP σ t).found = true then 6 else if bQ σ (aP σ t) = true then 3 else 2 : Nat) = 10 ∨ (if (aP σ t).found = true then 6 else if bQ σ (aP σ t) = true then 3 else 2 : Nat) = 11 ∨ (if (aP σ t).found = true then 6 else if bQ σ (aP σ t) = true then 3 else 2 : Nat) = 14 ∨ 21 ≤ (if (aP σ t).found = true then 6 else if bQ σ (aP σ t) = true then 3 else 2 : Nat) := hh
  split at hh
  ·omega
  ·split at hh <;> omega
 ·show (if (aP σ t).found = true then 6 else if bQ σ (aP σ t) = true then 3 else 2 : Nat) = 0 ∨ _
  simp only [gh]
  split
  ·simp
  ·split <;> simp
theorem Qr {σ : aL} {t : Tk} {k : Nat} (now : Int) (hk : k < 300000) (h : SI σ k) (T : gT σ t) : Kept σ t (ah σ t now) k := by
 rcases T.ats with hat | hat | hat | hat | hat | hat | hat | hat | hat | hat | hat | hat | hat | hat | hat | hat | hat | hat | hat | hat | hat | hat | hat | hat
 ·-- 0
  cases hx : dM t.x with
  | some e =>
   have hs : ah σ t now = (σ.note now t.who e, { t with code := e }, true) := by simp only [ah, hat, hx]
   rw [hs];exact ⟨(h.note _ _ _).mono (by omega), rfl, rfl, rfl, (by simp [aL.note]), rfl, rfl, fun h => by simp at h⟩
  | none =>
   have hs : ah σ t now = gh σ t := by simp only [ah, hat, hx, gh]
   rw [hs];exact Dh h T (.inl hat)
 ·-- 2
  have hs : ah σ t now = gh σ t := by simp only [ah, hat, gh]
  rw [hs];exact Dh h T (.inr hat)
 ·-- 3
  by_cases hw : σ.μ.V (8, t.s, 0) = 0
  ·have hs : ah σ t now = (σ.mem (σ.μ.swp t.who (8, t.s, 0) 0 1), { t with at' := 4, i := 0 }, false) := by simp only [ah, hat]; rw [if_pos hw]
   rw [hs];exact ⟨(h.swp _ _ _ _ (by omega) (by simp) (by simp)).mono (by omega), rfl, rfl, rfl, Nat.le_succ _, rfl, rfl, fun _ => ⟨fun _ => (by rename_i hh; simp at hh), T.s, (fun _ _ => by have := bx.1 h.c; show ((0 : Nat) : Int) < σ.c.sl; omega), T.w, (fun h => by simp at h), (fun h => by simp at h), (by simp)⟩⟩
  ·have hs : ah σ t now = (σ.mem (σ.μ.swp t.who (8, t.s, 0) 0 1), t, false) := by simp only [ah, hat]; rw [if_neg hw]
   rw [hs];exact ⟨(h.swp _ _ _ _ (by omega) (by simp) (by simp)).mono (by omega), rfl, rfl, rfl, Nat.le_succ _, rfl, rfl, fun _ => T.mono rfl rfl⟩
 ·-- 4
  have hi := T.i (by omega) (by omega)
  cases hf : (aP σ t).found with
  | true =>
   have hs : ah σ t now = (aS σ t, { aP σ t with at' := 5 }, false) := by simp only [ah, hat, hf]; rfl
   rw [hs];have hf' : fe (σ.μ.V (10, t.s, (t.i : Int))) t.x.flow = true := hf;have e : (aP σ t).obj = σ.μ.V (10, t.s, (t.i : Int)) % 4294967296 := if_pos hf'
   have ho : (aP σ t).obj < σ.obs.length := by rw [e]; exact h.slot _ _ (of_decide_eq_true hf').1
   exact ⟨(h.acc _ _ _).mono (by omega), rfl, rfl, rfl, Nat.le_succ _, rfl, rfl, fun _ => ⟨fun _ => ho, T.s, (fun h1 h2 => by simp at h1), T.w, (fun _ h2 => by rw [show (aP σ t).found = false from h2] at hf; cases hf), (fun h => by simp at h), (by simp)⟩⟩
  | false =>
   cases hla : bQ σ (aP σ t) with
   | true =>
    have hs : ah σ t now = ((aS σ t).note now t.who 5, { aP σ t with at' := 5, code := 5 }, false) := by simp only [ah, hat, hf, hla]; rfl
    rw [hs];exact ⟨((h.acc _ _ _).note _ _ _).mono (by omega), rfl, rfl, rfl, (by simp [aL.note]), rfl, rfl, fun _ => ⟨fun _ => (by rename_i hh; rw [show (aP σ t).found = false from hf] at hh; simp at hh), T.s, (fun h1 h2 => by simp at h1), T.w, (fun _ _ => rfl), (fun h => by simp at h), (by simp)⟩⟩
   | false =>
    have hs : ah σ t now = (aS σ t, aP σ t, false) := by simp only [ah, hat, hf, hla]; rfl
    rw [hs]
    have hl : ¬ (σ.c.sl ≤ ((t.i + 1 : Nat) : Int)) := fun q => by rw [show bQ σ (aP σ t) = true from dI q] at hla; cases hla
    have ea : (aP σ t).at' = 4 := hat;exact ⟨(h.acc _ _ _).mono (by omega), rfl, rfl, rfl, Nat.le_succ _, rfl, rfl, fun _ => ⟨fun _ => (by rename_i hh; rw [ea] at hh; simp at hh), T.s, (fun _ _ => by show ((t.i + 1 : Nat) : Int) < σ.c.sl; omega), T.w, (fun h => by rw [ea] at h; simp at h), (fun h => by rw [ea] at h; simp at h), (by rw [ea]; simp)⟩⟩
 ·-- 5
  cases hf : t.found with
  | false =>
   have hs : ah σ t now = (σ.mem ((σ.μ.acc t.who 2 (8, t.s, 0)).put (8, t.s, 0) 0), { t with at' := 6 }, true) := by simp only [ah, hat, hf]; rfl
   rw [hs];exact ⟨((h.acc _ _ _).put _ _ (by omega) (by simp) (.inl (by simp))).mono (by omega), rfl, rfl, rfl, Nat.le_succ _, rfl, rfl, fun h => by simp at h⟩
  | true =>
   have hs : ah σ t now = (σ.mem ((σ.μ.acc t.who 2 (8, t.s, 0)).put (8, t.s, 0) 0), { t with at' := 6 }, false) := by simp only [ah, hat, hf]; rfl
   rw [hs];exact ⟨((h.acc _ _ _).put _ _ (by omega) (by simp) (.inl (by simp))).mono (by omega), rfl, rfl, rfl, Nat.le_succ _, rfl, rfl, fun _ => ⟨fun _ => T.obj (.inr ⟨hat, hf⟩), T.s, (fun h1 h2 => by simp at h1), T.w, (fun h => by simp at h), (fun h => by simp at h), (by simp)⟩⟩
 ·-- 6
  have hs : ah σ t now = (σ.mem (σ.μ.acc t.who 5 (13, (t.obj : Int), 0)), { t with at' := 7 }, false) := by simp only [ah, hat]
  rw [hs];exact ⟨(h.acc _ _ _).mono (by omega), rfl, rfl, rfl, Nat.le_succ _, rfl, rfl, fun _ => ⟨fun _ => T.obj (.inl (by omega)), T.s, (fun h1 h2 => by simp at h1), T.w, (fun h => by simp at h), (fun h => by simp at h), (by simp)⟩⟩
 ·-- 7
  by_cases hw : aR (σ.μ.V (11, (t.obj : Int), 0)) = 2
  ·have hs : ah σ t now = (da σ t, { t with w := σ.μ.V (11, (t.obj : Int), 0), at' := 3 }, false) := by simp only [ah, hat]; rw [if_pos hw]
   rw [hs];exact ⟨(h.acc _ _ _).mono (by omega), rfl, rfl, rfl, Nat.le_succ _, rfl, rfl, fun _ => ⟨fun _ => (by rename_i hh; simp at hh), T.s, (fun _ h2 => by simp at h2), h.V _, (fun h => by simp at h), (fun h => by simp at h), (by simp)⟩⟩
  ·have hs : ah σ t now = (da σ t, { t with w := σ.μ.V (11, (t.obj : Int), 0), at' := 8 }, false) := by simp only [ah, hat]; rw [if_neg hw]
   rw [hs];exact ⟨(h.acc _ _ _).mono (by omega), rfl, rfl, rfl, Nat.le_succ _, rfl, rfl, fun _ => ⟨fun _ => T.obj (.inl (by omega)), T.s, (fun h1 h2 => by simp at h1), h.V _, (fun h => by simp at h), (fun h => by simp at h), (by simp)⟩⟩
 ·-- 8
  cases hf : jw σ t with
  | true =>
   have hs : ah σ t now = (iZ σ t, { t with at' := 15 }, false) := by simp only [ah, hat, hf]; rfl
   rw [hs];exact ⟨(h.acc _ _ _).mono (by omega), rfl, rfl, rfl, Nat.le_succ _, rfl, rfl, fun _ => ⟨fun _ => T.obj (.inl (by omega)), T.s, (fun h1 h2 => by simp at h1), T.w, (fun h => by simp at h), (fun h => by simp at h), (by simp)⟩⟩
  | false =>
   by_cases hw : aR t.w = 1
   ·have hs : ah σ t now = (iZ σ t, { t with at' := 9 }, false) := by simp only [ah, hat, hf]; rw [if_pos hw]; rfl
    rw [hs];exact ⟨(h.acc _ _ _).mono (by omega), rfl, rfl, rfl, Nat.le_succ _, rfl, rfl, fun _ => ⟨fun _ => T.obj (.inl (by omega)), T.s, (fun h1 h2 => by simp at h1), T.w, (fun h => by simp at h), (fun h => by simp at h), (by simp)⟩⟩
   ·have hs : ah σ t now = (iZ σ t, { t with at' := 12 }, false) := by simp only [ah, hat, hf]; rw [if_neg hw]; rfl
    rw [hs];exact ⟨(h.acc _ _ _).mono (by omega), rfl, rfl, rfl, Nat.le_succ _, rfl, rfl, fun _ => ⟨fun _ => T.obj (.inl (by omega)), T.s, (fun h1 h2 => by simp at h1), T.w, (fun h => by simp at h), (fun h => by simp at h), (by simp)⟩⟩
 ·-- 9
  cases hw : dY σ.μ t.obj t.w (aQ t.w 0) with
  | true =>
   have hs : ah σ t now = ((σ.mem (σ.μ.turn t.who t.obj t.w (aQ t.w 0))).note now t.who 0, { t with at' := 10, code := 0 }, false) := by simp only [ah, hat, hw]; rfl
   rw [hs];exact ⟨((h.turn _ _ _ _).note _ _ _).mono (by omega), rfl, rfl, rfl, (by simp [aL.note]), rfl, rfl, fun _ => ⟨fun _ => T.obj (.inl (by omega)), T.s, (fun h1 h2 => by simp at h1), T.w, (fun h => by simp at h), (fun _ => rfl), (by simp)⟩⟩
  | false =>
   have hs : ah σ t now = (σ.mem (σ.μ.turn t.who t.obj t.w (aQ t.w 0)), { t with at' := 7 }, false) := by simp only [ah, hat, hw]; rfl
   rw [hs];exact ⟨(h.turn _ _ _ _).mono (by omega), rfl, rfl, rfl, Nat.le_succ _, rfl, rfl, fun _ => ⟨fun _ => T.obj (.inl (by omega)), T.s, (fun h1 h2 => by simp at h1), T.w, (fun h => by simp at h), (fun h => by simp at h), (by simp)⟩⟩
 ·-- 10
  have hs : ah σ t now = (nz σ t, { t with at' := 11 }, false) := by simp only [ah, hat]
  rw [hs];exact ⟨(h.lay t).mono (by omega), rfl, i0 σ t, MN σ t, Nat.le_succ _, rfl, rfl, fun _ => (by have := i0 σ t; exact ⟨fun _ => (by rw [this]; exact T.obj (.inl (by omega))), T.s, (fun h1 h2 => by simp at h1), T.w, (fun h => by simp at h), (fun _ => T.c0 (by omega)), (by simp)⟩)⟩
 ·-- 11
  have hs : ah σ t now = (qq σ t, t, true) := by simp only [ah, hat]
  rw [hs];exact ⟨((h.acc _ _ _).put _ _ (by have := eh t.w; omega) (by simp) (.inl (by simp))).mono (by omega), rfl, rfl, rfl, Nat.le_succ _, rfl, rfl, fun h => by simp at h⟩
 ·-- 12
  have hs : ah σ t now = (σ.mem (σ.μ.cnt t.who (3, 0, 0) 4294967296), { t with at' := 13 }, false) := by simp only [ah, hat]
  rw [hs];exact ⟨(h.cnt _ _ _ (by simp) (by simp)).mono (by omega), rfl, rfl, rfl, Nat.le_succ _, rfl, rfl, fun _ => ⟨fun _ => T.obj (.inl (by omega)), T.s, (fun h1 h2 => by simp at h1), T.w, (fun h => by simp at h), (fun h => by simp at h), (by simp)⟩⟩
 ·-- 13
  cases hw : dY σ.μ t.obj t.w (aQ t.w 0) with
  | true =>
   have hs : ah σ t now = ((σ.mem (σ.μ.turn t.who t.obj t.w (aQ t.w 0))).note now t.who 0, { t with at' := 14, code := 0 }, false) := by simp only [ah, hat, hw]; rfl
   rw [hs];exact ⟨((h.turn _ _ _ _).note _ _ _).mono (by omega), rfl, rfl, rfl, (by simp [aL.note]), rfl, rfl, fun _ => ⟨fun _ => T.obj (.inl (by omega)), T.s, (fun h1 h2 => by simp at h1), T.w, (fun h => by simp at h), (fun _ => rfl), (by simp)⟩⟩
  | false =>
   have hs : ah σ t now = (σ.mem (σ.μ.turn t.who t.obj t.w (aQ t.w 0)), { t with at' := 20 }, false) := by simp only [ah, hat, hw]; rfl
   rw [hs];exact ⟨(h.turn _ _ _ _).mono (by omega), rfl, rfl, rfl, Nat.le_succ _, rfl, rfl, fun _ => ⟨fun _ => T.obj (.inl (by omega)), T.s, (fun h1 h2 => by simp at h1), T.w, (fun h => by simp at h), (fun h => by simp at h), (by simp)⟩⟩
 ·-- 14
  have hs : ah σ t now = (nz σ t, { t with at' := 21 }, false) := by simp only [ah, hat]
  rw [hs];exact ⟨(h.lay t).mono (by omega), rfl, i0 σ t, MN σ t, Nat.le_succ _, rfl, rfl, fun _ => (by have := i0 σ t; exact ⟨fun _ => (by rw [this]; exact T.obj (.inl (by omega))), T.s, (fun h1 h2 => by simp at h1), T.w, (fun h => by simp at h), (fun _ => T.c0 (by omega)), (by simp)⟩)⟩
 ·-- 15
  by_cases hw : σ.μ.V (2, 0, 0) % 2 = 1
  ·have hs : ah σ t now = (d9 σ t, { t with q := σ.μ.V (2, 0, 0), at' := 7 }, false) := by simp only [ah, hat]; rw [if_pos hw]
   rw [hs];exact ⟨(h.acc _ _ _).mono (by omega), rfl, rfl, rfl, Nat.le_succ _, rfl, rfl, fun _ => ⟨fun _ => T.obj (.inl (by omega)), T.s, (fun h1 h2 => by simp at h1), T.w, (fun h => by simp at h), (fun h => by simp at h), (by simp)⟩⟩
  ·have hs : ah σ t now = (d9 σ t, { t with q := σ.μ.V (2, 0, 0), at' := 16 }, false) := by simp only [ah, hat]; rw [if_neg hw]
   rw [hs];exact ⟨(h.acc _ _ _).mono (by omega), rfl, rfl, rfl, Nat.le_succ _, rfl, rfl, fun _ => ⟨fun _ => T.obj (.inl (by omega)), T.s, (fun h1 h2 => by simp at h1), T.w, (fun h => by simp at h), (fun h => by simp at h), (by simp)⟩⟩
 ·-- 16
  by_cases hw : aR (σ.μ.V (11, (t.obj : Int), 0)) = 2
  ·have hs : ah σ t now = (da σ t, { t with w := σ.μ.V (11, (t.obj : Int), 0), at' := 3 }, false) := by simp only [ah, hat]; rw [if_pos hw]
   rw [hs];exact ⟨(h.acc _ _ _).mono (by omega), rfl, rfl, rfl, Nat.le_succ _, rfl, rfl, fun _ => ⟨fun _ => (by rename_i hh; simp at hh), T.s, (fun _ h2 => by simp at h2), h.V _, (fun h => by simp at h), (fun h => by simp at h), (by simp)⟩⟩
  ·have hs : ah σ t now = (da σ t, { t with w := σ.μ.V (11, (t.obj : Int), 0), at' := 17 }, false) := by simp only [ah, hat]; rw [if_neg hw]
   rw [hs];exact ⟨(h.acc _ _ _).mono (by omega), rfl, rfl, rfl, Nat.le_succ _, rfl, rfl, fun _ => ⟨fun _ => T.obj (.inl (by omega)), T.s, (fun h1 h2 => by simp at h1), h.V _, (fun h => by simp at h), (fun h => by simp at h), (by simp)⟩⟩
 ·-- 17
  cases hf : jw σ t with
  | true =>
   have hs : ah σ t now = (iZ σ t, { t with at' := 18, mark := now }, false) := by simp only [ah, hat, hf]; rfl
   rw [hs];exact ⟨(h.acc _ _ _).mono (by omega), rfl, rfl, rfl, Nat.le_succ _, rfl, rfl, fun _ => ⟨fun _ => T.obj (.inl (by omega)), T.s, (fun h1 h2 => by simp at h1), T.w, (fun h => by simp at h), (fun h => by simp at h), (by simp)⟩⟩
  | false =>
   have hs : ah σ t now = (iZ σ t, { t with at' := 7 }, false) := by simp only [ah, hat, hf]; rfl
   rw [hs];exact ⟨(h.acc _ _ _).mono (by omega), rfl, rfl, rfl, Nat.le_succ _, rfl, rfl, fun _ => ⟨fun _ => T.obj (.inl (by omega)), T.s, (fun h1 h2 => by simp at h1), T.w, (fun h => by simp at h), (fun h => by simp at h), (by simp)⟩⟩
 ·-- 18
  by_cases hw : σ.μ.V (2, 0, 0) = t.q
  ·have hs : ah σ t now = ((d9 σ t).note t.mark t.who 9, { t with code := 9 }, true) := by simp only [ah, hat]; rw [if_pos hw]
   rw [hs];exact ⟨((h.acc _ _ _).note _ _ _).mono (by omega), rfl, rfl, rfl, (by simp [aL.note]), rfl, rfl, fun h => by simp at h⟩
  ·have hs : ah σ t now = (d9 σ t, { t with at' := 7 }, false) := by simp only [ah, hat]; rw [if_neg hw]
   rw [hs];exact ⟨(h.acc _ _ _).mono (by omega), rfl, rfl, rfl, Nat.le_succ _, rfl, rfl, fun _ => ⟨fun _ => T.obj (.inl (by omega)), T.s, (fun h1 h2 => by simp at h1), T.w, (fun h => by simp at h), (fun h => by simp at h), (by simp)⟩⟩
 ·-- 20
  have hs : ah σ t now = (σ.mem (σ.μ.cnt t.who (3, 0, 0) 1), { t with at' := 7 }, false) := by simp only [ah, hat]
  rw [hs];exact ⟨(h.cnt _ _ _ (by simp) (by simp)).mono (by omega), rfl, rfl, rfl, Nat.le_succ _, rfl, rfl, fun _ => ⟨fun _ => T.obj (.inl (by omega)), T.s, (fun h1 h2 => by simp at h1), T.w, (fun h => by simp at h), (fun h => by simp at h), (by simp)⟩⟩
 ·-- 21
  have hs : ah σ t now = (qq σ t, { t with at' := 22 }, false) := by simp only [ah, hat]
  rw [hs];exact ⟨((h.acc _ _ _).put _ _ (by have := eh t.w; omega) (by simp) (.inl (by simp))).mono (by omega), rfl, rfl, rfl, Nat.le_succ _, rfl, rfl, fun _ => ⟨fun _ => T.obj (.inl (by omega)), T.s, (fun h1 h2 => by simp at h1), T.w, (fun h => by simp at h), (fun _ => T.c0 (by omega)), (by simp)⟩⟩
 ·-- 22
  have hs : ah σ t now = (σ.mem (σ.μ.acc t.who 1 (9, t.s, 0)), { t with top := σ.μ.V (9, t.s, 0), at' := 23 }, false) := by simp only [ah, hat]
  rw [hs];exact ⟨(h.acc _ _ _).mono (by omega), rfl, rfl, rfl, Nat.le_succ _, rfl, rfl, fun _ => ⟨fun _ => T.obj (.inl (by omega)), T.s, (fun h1 h2 => by simp at h1), T.w, (fun h => by simp at h), (fun _ => T.c0 (by omega)), (by simp)⟩⟩
 ·-- 23
  have hs : ah σ t now = ({ σ with μ := σ.μ.acc t.who 6 (14, (t.obj : Int), 0), nx := fun k => if k = (t.obj : Int) then some t.top else σ.nx k }, { t with at' := 24 }, false) := by simp only [ah, hat]
  rw [hs];exact ⟨(h.link _ _ _).mono (by omega), rfl, rfl, rfl, Nat.le_succ _, rfl, rfl, fun _ => ⟨fun _ => T.obj (.inl (by omega)), T.s, (fun h1 h2 => by simp at h1), T.w, (fun h => by simp at h), (fun _ => T.c0 (by omega)), (by simp)⟩⟩
 ·-- 24
  by_cases hw : σ.μ.V (9, t.s, 0) = t.top
  ·have hs : ah σ t now = (σ.mem (σ.μ.swp t.who (9, t.s, 0) t.top (t.obj + 1)), { t with at' := 25 }, false) := by simp only [ah, hat]; rw [if_pos hw]
   rw [hs];exact ⟨(h.swp _ _ _ _ (by have := T.obj (.inl (by omega)); have := h.obs; omega) (by simp) (by simp)).mono (by omega), rfl, rfl, rfl, Nat.le_succ _, rfl, rfl, fun _ => ⟨fun _ => T.obj (.inl (by omega)), T.s, (fun h1 h2 => by simp at h1), T.w, (fun h => by simp at h), (fun _ => T.c0 (by omega)), (by simp)⟩⟩
  ·have hs : ah σ t now = (σ.mem (σ.μ.swp t.who (9, t.s, 0) t.top (t.obj + 1)), { t with at' := 22 }, false) := by simp only [ah, hat]; rw [if_neg hw]
   rw [hs];exact ⟨(h.swp _ _ _ _ (by have := T.obj (.inl (by omega)); have := h.obs; omega) (by simp) (by simp)).mono (by omega), rfl, rfl, rfl, Nat.le_succ _, rfl, rfl, fun _ => ⟨fun _ => T.obj (.inl (by omega)), T.s, (fun h1 h2 => by simp at h1), T.w, (fun h => by simp at h), (fun _ => T.c0 (by omega)), (by simp)⟩⟩
 ·-- 25
  have hs : ah σ t now = (σ.mem (σ.μ.cnt t.who (3, 0, 0) 1), t, true) := by simp only [ah, hat]
  rw [hs];exact ⟨(h.cnt _ _ _ (by simp) (by simp)).mono (by omega), rfl, rfl, rfl, Nat.le_succ _, rfl, rfl, fun h => by simp at h⟩
theorem I8 {α : Type} (F : α → SP) (R : SP) : (ex fun x => F x * R) = ex F * R := by
 apply SP.ext;intro h
 constructor
 ·rintro ⟨x, a, b, hd, rfl, ha, hb⟩
  exact ⟨a, b, hd, rfl, ⟨x, ha⟩, hb⟩
 ·rintro ⟨a, b, hd, rfl, ⟨x, ha⟩, hb⟩
  exact ⟨x, a, b, hd, rfl, ha, hb⟩
def eT (e p : Nat) (rp : List Nat) (t : Tk) : SP := ex fun v : Value => pu (FC rp t v) * eB e p (eM e (xS t.at')) v t
def xT (x P : Nat) (t : Tk) : SP := ex fun k : Xk => pu (hU t k) * xB x P t k
theorem RC (e p : Nat) (rp : List Nat) (σ : aL) (t : Tk) : eP e p rp σ t = eT e p rp t * bf p rp σ := by
 unfold eP eT;rw [← I8]
 congr 1
 funext v
 rw [aj]
theorem Z8 (x P : Nat) (σ : aL) (t : Tk) : xP x P σ t = xT x P t * aJ P σ := by
 unfold xP xT;rw [← I8]
 congr 1
 funext v
 rw [aj]
def xU (x P : Nat) (r : aL × Tk × Bool) : SP := ex fun k : Xk => pu (if r.2.2 = true then k.code = r.2.1.code else hU r.2.1 k) * xB x P r.2.1 k
theorem Z9 (x P : Nat) (r : aL × Tk × Bool) : xQ x P r = xU x P r * aJ P r.1 := by
 unfold xQ xU;rw [← I8]
 congr 1
 funext v
 rw [aj]
def eU (e p : Nat) (rp : List Nat) (r : aL × Tk × Bool) : SP := if r.2.2 = true then emp else eT e p rp r.2.1
theorem ZH (e p : Nat) (rp : List Nat) (r : aL × Tk × Bool) : eQ e p rp r = eU e p rp r * bf p rp r.1 := by
 unfold eQ eU
 split
 ·rw [nU]
 ·rw [RC]
theorem aaA {x P : Nat} {r : aL × Tk × Bool} (h : r.2.2 = false) : xU x P r = xT x P r.2.1 := by
 unfold xU xT;simp only [h]
 rfl
section
variable (p x : Nat) (rp : List Nat) (σ : aL)
theorem RF (hc : bW σ.c = true) (who : Int) (c : Cl) : Sp vV [vp p, vi who, .agg (Cl.cells c).toArray] (bf p rp σ) (fun e : Nat => vp e) (fun e => eT e p rp (Tk.new σ.c who c) * bf p rp σ) := by
 have hr := bx.1 hc;refine bp (I5 _ _ _) fun R H h => ?_;refine bg h fun b H1 h1 => ?_;refine aV h1 ?_;obtain ⟨g, hrp, hg, k1⟩ := eE (p := p) (rp := rp) (σ := σ) (R := blk b (.cells false (Cl.cells c)) * R) (H := H1) h1.to;refine ak k1 ac rfl ?_;refine ak k1 aK rfl ?_;refine ag k1 (DC (p := p) (g := g) (σ := σ) (xf g.tb g.m σ.c.sh.toNat σ.c.sl.toNat (by omega) c.flow)) fun _ H2 k2 => ?_;refine d7 k2 k1 rfl ?_
 have es : vi ((c.flow.tmod (σ.c.sh.toNat : Int) + (σ.c.sh.toNat : Int)).tmod (σ.c.sh.toNat : Int)) = vi (Tk.new σ.c who c).s := by rw [show ((σ.c.sh.toNat : Nat) : Int) = σ.c.sh from by omega]
 rw [es];have h2 := bJ (p := p) (rp := rp) (σ := σ) (R := blk b (.cells false (Cl.cells c)) * R) (H := H2) g hrp hg k2.to;refine iU ?_;refine bg h2 fun e H3 h3 => ?_;refine bv h3 ac rfl rfl fun H4 h4 => ?_;refine ap ⟨e, rfl, ?_⟩;rw [← RC];exact GD (v := .pointer none) (n := lQ) (iy (by simp)) rfl h4.to
theorem HC (who : Int) (c : Cl) (s : Int) : Sp jY [vp x, vi who, .agg (Cl.cells c).toArray] emp (fun b : Nat => vp b) (fun b => xT b x (Tk.new σ.c who c)) := by
 refine bp (qe _ _ _) fun R H h => ?_;refine bg h fun b H1 h1 => ?_;refine aV h1 ?_;refine iU ?_;refine bg h1 fun xb H2 h2 => ?_;refine ap ⟨xb, rfl, ?_⟩;refine ae.ex.2 ⟨⟨0, 0, -1, false, 0, 0, 0, 0, 0, 0, 0⟩, ?_⟩;rw [aj, ae.pu];exact ⟨by simp [hU], h2.to⟩
theorem JR (who place : Int) (hN : σ.μ.N < 1000000) : Sp jI [.agg [vp p, vp x].toArray, vi who, vi place] (bf p rp σ * aJ x σ) (fun _ : Unit => .tuple #[]) (fun _ => bf p rp (σ.begin who place) * aJ x (σ.begin who place)) := by
 refine bp (ua _ _ _) fun R H h => ?_;refine bg (l := [vp p, vp x]) h fun b H1 h1 => ?_;refine ak h1 aK rfl ?_;refine ag h1 (Yv p rp σ who place) fun _ H2 h2 => ?_;refine ak h2 aK rfl ?_;refine ag h2 (Zh x σ who place (by omega)) fun _ H3 h3 => ?_;exact ap ⟨(), rfl, h3.to⟩
end
def BV (f : Value → Value → Bool) : List Value → List Value → Bool
 | [], [] => true
 | x :: xs, y :: ys => f x y && BV f xs ys
 | _, _ => false
def Wa : Nat → Value → Value → Bool
 | _, .bool a, .bool b => a == b
 | _, .int k a, .int k' b => decide (k = k') && decide (a = b)
 | _, .string a, .string b => decide (a = b)
 | _, .pointer a, .pointer b => decide (a = b)
 | _, .slice a n e, .slice a' n' e' => decide (a = a') && decide (n = n') && decide (e = e')
 | _, .map a, .map b => decide (a = b)
 | _, .nilFunc, .nilFunc => true
 | _, .nilIface, .nilIface => true
 | n + 1, .agg xs, .agg ys => BV (Wa n) xs.toList ys.toList
 | n + 1, .tuple xs, .tuple ys => BV (Wa n) xs.toList ys.toList
 | n + 1, .func f xs zs, .func f' ys ws => decide (f = f') && BV (Wa n) xs.toList ys.toList && BV (Wa n) zs.toList ws.toList
 | _, _, _ => false
theorem zJ {f : Value → Value → Bool} (hf : ∀ x y, f x y = true → x = y) : ∀ xs ys, BV f xs ys = true → xs = ys := by
 intro xs
 induction xs with
 | nil => intro ys h; cases ys with | nil => rfl | cons y ys => simp [BV] at h
 | cons x xs ih =>
  intro ys h
  cases ys with
  | nil => simp [BV] at h
  | cons y ys =>
   simp only [BV, Bool.and_eq_true] at h;rw [hf _ _ h.1, ih _ h.2]
theorem CA : ∀ (n : Nat) (x y : Value), Wa n x y = true → x = y := by
 intro n
 induction n with
 | zero =>
  intro x y h
  cases x <;> cases y <;> simp_all [Wa]
 | succ n ih =>
  have hl := zJ ih;intro x y h
  cases x <;> cases y <;> simp_all [Wa]
  ·exact ⟨Array.toList_inj.1 (hl _ _ h.1.2), Array.toList_inj.1 (hl _ _ h.2)⟩
  ·exact Array.toList_inj.1 (hl _ _ h)
  ·exact Array.toList_inj.1 (hl _ _ h)
def eqO : Option Value → Option Value → Bool
 | none, none => true
 | some x, some y => Wa 4 x y
 | _, _ => false
theorem Oe {x y : Option Value} (h : eqO x y = true) : x = y := by
 cases x <;> cases y <;> simp_all [eqO]
 exact CA _ _ _ h
end Go.Proofs.YtflbeghglllknaaGreatDoor.Gst
