/- Several texts in one. -/
import Derived.Test.YtghoamdlcjdfjaaGreatDoorAwd
namespace Go.Proofs.YtghoamdlcjdfjaaGreatDoor.Gst
open Go Go.RowKit
set_option linter.unusedSimpArgs false
set_option linter.unusedVariables false
set_option maxHeartbeats 1000000
set_option synthInstance.maxSize 2000
set_option synthInstance.maxHeartbeats 400000
section
variable (m i rp : Nat) (cs : List Pk) (μ : Mu)
theorem KR (who : Int) (hE : μ.N < 1099511627000) : Sp jM [vp rp, vi who] (cp m i rp cs * bm m μ) (fun _ : Unit => vu (μ.V (11, (i : Int), 0))) (fun _ => cp m i rp cs * bm m (μ.acc who 1 (11, (i : Int), 0))) := by
 refine aX fun R H h => ?_;obtain ⟨cv, h0⟩ := eC (m := m) (i := i) (rp := rp) (cs := cs) (R := bm m μ * R) (H := H) h.to;refine a9 (fun r => vV _ _ H) ?_;refine bg ae ?_;refine aN h0 rfl ?_;refine aq h0 ae rfl ?_;refine ag h0 (dw 11 (i : Int) 0) fun _ H1 h1 => ?_;refine aG h1 h0 (by rfl) ?_;refine ag h1 (pE m μ who (11, (i : Int), 0) (by omega)) fun _ H2 h2 => ?_;exact ap ⟨(), rfl, (lO (m := m) (i := i) (rp := rp) (cs := cs) (cv := cv) (R := bm m (μ.acc who 1 (11, (i : Int), 0)) * R) h2.to).to⟩
theorem Bj (who : Int) (hE : μ.N < 1099511627000) : Sp gv [vp rp, vi who] (cp m i rp cs * bm m μ) (fun _ : Unit => vu (μ.V (12, (i : Int), 0))) (fun _ => cp m i rp cs * bm m (μ.acc who 1 (12, (i : Int), 0))) := by
 refine aX fun R H h => ?_;obtain ⟨cv, h0⟩ := eC (m := m) (i := i) (rp := rp) (cs := cs) (R := bm m μ * R) (H := H) h.to;refine a9 (fun r => vS _ _ H) ?_;refine bg ae ?_;refine aN h0 rfl ?_;refine aq h0 ae rfl ?_;refine ag h0 (dw 12 (i : Int) 0) fun _ H1 h1 => ?_;refine aG h1 h0 (by rfl) ?_;refine ag h1 (pE m μ who (12, (i : Int), 0) (by omega)) fun _ H2 h2 => ?_;exact ap ⟨(), rfl, (lO (m := m) (i := i) (rp := rp) (cs := cs) (cv := cv) (R := bm m (μ.acc who 1 (12, (i : Int), 0)) * R) h2.to).to⟩
theorem Bi (w h : Nat) (hw : w < 18446744073709551616) (hc : cs.length < 1000) : Sp gu [vp rp, vu w, vu h] (cp m i rp cs) (fun _ : Unit => vb (kQ w h cs.length)) (fun _ => cp m i rp cs) := by
 refine aX fun R H hh => ?_;have hl := d7 w;refine a9 (fun r => vR _ _ _ H) ?_;refine ag hh (mX w hw) fun _ H1 h1 => ?_;refine aa (v := vu (ay w)) rfl ?_;refine aa (v := vi (aH w)) rfl ?_;refine aa (v := vb (bZ w)) rfl ?_
 by_cases hle : h ≤ ay w
 ·refine aa (wG (by omega)) ?_
  refine gs ?_;refine aa (ka hle (by omega)) ?_;obtain ⟨cv, h2⟩ := eC (m := m) (i := i) (rp := rp) (cs := cs) (R := R) (H := H1) h1.to;refine gs ?_;refine aq h2 ae rfl ?_;refine gs ?_;refine aa (da (by omega) (by omega)) ?_;rw [show ((cs.length : Nat) : Int).toNat = cs.length from rO _];refine gs ?_
  by_cases hk : cs.length ≤ ay w - h
  ·refine aa (wG (by omega)) ?_
   refine gs ?_;exact ap ⟨(), by rw [kQ, ia ⟨hle, hk⟩], h1.to⟩
  ·refine aa (nW (by omega)) ?_
   refine gs ?_;exact ap ⟨(), by rw [kQ, hZ (fun q => hk q.2)], h1.to⟩
 ·refine aa (nW (by omega)) ?_
  refine gs ?_;exact ap ⟨(), by rw [kQ, hZ (fun q => hle q.1)], h1.to⟩
theorem KQ (who : Int) (w how : Nat) (hh : how < 3) (hw : w < 18446744073709551616) (hE : μ.N < 1099511627000) :
 Sp jL [vp rp, vi who, vu w, vi (how : Int)] (cp m i rp cs * bm m μ) (fun _ : Unit => vb (cG μ i w (aL w how))) (fun _ => cp m i rp cs * bm m (μ.turn who i w (aL w how))) := by
 refine aY (vU _ _ _ _) fun R H h => ?_;refine ag h (JY w how hw hh) fun _ H1 h1 => ?_
 generalize aL w how = o at h1 ⊢
 cases o with
 | none =>
  refine aa (v := vw 0) rfl ?_;refine aa (v := vb false) rfl ?_;refine gs ?_;refine Hr ?_;refine gs ?_;refine Ba rfl ?_;refine gs ?_;exact ap ⟨(), rfl, h1.to⟩
 | some n =>
  refine aa (v := vu n) rfl ?_;refine aa (v := vb true) rfl ?_;refine gs ?_;refine Ht ?_;obtain ⟨cv, k1⟩ := eC (m := m) (i := i) (rp := rp) (cs := cs) (R := bm m μ * R) (H := H1) h1.to;refine bg ae ?_;refine gs ?_;refine aN k1 rfl ?_;refine gs ?_;refine aq k1 ae rfl ?_;refine gs ?_;refine ag k1 (dw 11 (i : Int) 0) fun _ H2 k2 => ?_;refine aG k2 k1 (by rfl) ?_;refine gs ?_;refine ag k2 (Aw m μ who (11, (i : Int), 0) w n (by omega)) fun _ H3 k3 => ?_;refine gs ?_;refine ap ⟨(), rfl, ?_⟩;have h3 := lO (m := m) (i := i) (rp := rp) (cs := cs) (cv := cv) (R := bm m (μ.swp who (11, (i : Int), 0) w n) * R) (H := H3) k3.to;exact h3.to
end
section
variable (m i rp : Nat) (cs : List Pk) (μ : Mu)
theorem CB (n : Nat) (h0 : 1 ≤ cs.length ∧ cs.length < 1000) : Sp cy [vp rp, vu n] (b5 m i rp cs) (fun _ : Unit => vi ((n % cs.length : Nat) : Int)) (fun _ => b5 m i rp cs) := by
 have hlt : n % cs.length < cs.length := Nat.mod_lt _ (by omega);refine aX fun R H h => ?_;obtain ⟨cv, k⟩ := bP h;refine a9 (fun r => lP _ _ H) ?_;refine aq k ae rfl ?_;refine ja (s := cv) (l := cs) k ?_;refine aa (da (by omega) (by omega)) ?_;rw [show ((cs.length : Nat) : Int).toNat = cs.length from rO _];refine aa (g7 (by omega)) ?_;refine aa (fF (by omega)) ?_;exact ap ⟨(), rfl, h⟩
theorem KP (n : Nat) (h0 : 1 ≤ cs.length ∧ cs.length < 1000) : Sp dj [vp rp, vu n] (cp m i rp cs) (fun _ : Unit => vi ((n % cs.length : Nat) : Int)) (fun _ => cp m i rp cs) := by
 have hlt : n % cs.length < cs.length := Nat.mod_lt _ (by omega);refine aX fun R H h => ?_;obtain ⟨cv, k⟩ := eC h;refine a9 (fun r => mY _ _ H) ?_;refine aq k ae rfl ?_;refine aa (da (by omega) (by omega)) ?_;rw [show ((cs.length : Nat) : Int).toNat = cs.length from rO _];refine aa (g7 (by omega)) ?_;refine aa (fF (by omega)) ?_;exact ap ⟨(), rfl, h⟩
theorem CF (who : Int) (n : Nat) (hn : n < 18446744073709551615) (h0 : 1 ≤ cs.length ∧ cs.length < 1000) (hE : μ.N < 1099511627000) :
 Sp fO [vp rp, vi who, vu n] (b5 m i rp cs * a8 m μ) (fun _ : Unit => .tuple #[]) (fun _ => b5 m i rp cs * a8 m ((μ.acc who 2 (15, (i : Int), ((n % cs.length : Nat) : Int))).put (15, (i : Int), ((n % cs.length : Nat) : Int)) (n + 1))) := by
 refine aX fun R H h => ?_;obtain ⟨cv, k0⟩ := bP (m := m) (i := i) (rp := rp) (cs := cs) (R := a8 m μ * R) (H := H) h.to;refine a9 (fun r => uw _ _ _ H) ?_;refine bg ae ?_;refine aN k0 rfl ?_;refine ag h (CB m i rp cs n h0) fun _ H1 h1 => ?_;obtain ⟨cv1, k1⟩ := bP h1;refine aG k1 k0 (by rfl) ?_;refine ag h1 (uz m i rp cs 15 ((n % cs.length : Nat) : Int)) fun _ H2 h2 => ?_;obtain ⟨cv2, k2⟩ := bP h2;refine aG k2 k0 (by rfl) ?_;refine aa (eN (b := 1) (by omega)) ?_;refine ag h2 (ED m μ who (15, (i : Int), ((n % cs.length : Nat) : Int)) (n + 1) (by omega)) fun _ H3 h3 => ?_;exact ap ⟨(), rfl, h3.to⟩
theorem Bk (who : Int) (n : Nat) (hn : n < 18446744073709551615) (h0 : 1 ≤ cs.length ∧ cs.length < 1000) (hE : μ.N < 1099511627000) :
 Sp gy [vp rp, vi who, vu n] (cp m i rp cs * bm m μ) (fun _ : Unit => .tuple #[]) (fun _ => cp m i rp cs * bm m ((μ.acc who 2 (15, (i : Int), ((n % cs.length : Nat) : Int))).put (15, (i : Int), ((n % cs.length : Nat) : Int)) (n + 1))) := by
 refine aX fun R H h => ?_;obtain ⟨cv, k0⟩ := eC (m := m) (i := i) (rp := rp) (cs := cs) (R := bm m μ * R) (H := H) h.to;refine a9 (fun r => vT _ _ _ H) ?_;refine bg ae ?_;refine aN k0 rfl ?_;refine bg ae ?_;refine aN k0 rfl ?_;refine ag h (KP m i rp cs n h0) fun _ H1 h1 => ?_;obtain ⟨cv1, k1⟩ := eC h1;refine aG k1 k0 (by rfl) ?_;refine aG k1 k0 (by rfl) ?_;refine ag h1 (dw 15 (i : Int) ((n % cs.length : Nat) : Int)) fun _ H2 h2 => ?_;obtain ⟨cv2, k2⟩ := eC (m := m) (i := i) (rp := rp) (cs := cs) (R := bm m μ * R) (H := H2) h2.to;refine aG k2 k0 (by rfl) ?_;refine aa (eN (b := 1) (by omega)) ?_;refine ag h2 (v9 m μ who (15, (i : Int), ((n % cs.length : Nat) : Int)) (n + 1) (by omega)) fun _ H3 h3 => ?_;exact ap ⟨(), rfl, h3.to⟩
theorem Vk (who : Int) (n : Nat) (x : Pk) (h0 : 1 ≤ cs.length ∧ cs.length < 1000) (hE : μ.N < 1099511627000) :
 Sp jO [vp rp, vi who, vu n, .agg (Pk.cells x).toArray] (b5 m i rp cs * a8 m μ) (fun _ : Unit => .tuple #[]) (fun _ => b5 m i rp (cs.set (n % cs.length) x) * a8 m (μ.acc who 6 (16, (i : Int), ((n % cs.length : Nat) : Int)))) := by
 have hlt : n % cs.length < cs.length := Nat.mod_lt _ (by omega);refine aY (wb _ _ _ _) fun R H h => ?_;refine aZ h fun b H1 h1 => ?_;obtain ⟨cv, k1⟩ := bP (m := m) (i := i) (rp := rp) (cs := cs) (R := a8 m μ * (blk b (.cells false (Pk.cells x)) * R)) (H := H1) h1.to;refine bg ae ?_;refine aN k1 rfl ?_;refine ag h1 (CB m i rp cs n h0) fun _ H2 h2 => ?_;obtain ⟨cv2, k2⟩ := bP h2;refine aG k2 k1 (by rfl) ?_;refine ag h2 (uz m i rp cs 16 ((n % cs.length : Nat) : Int)) fun _ H3 h3 => ?_;obtain ⟨cv3, k3⟩ := bP h3;refine aG k3 k1 (by rfl) ?_;refine ag h3 ((vC m μ who (16, (i : Int), ((n % cs.length : Nat) : Int)) (by omega)).imp fun _ R H h => gn (N' := μ.N + 2) (by simp) h) fun _ H4 h4 => ?_;obtain ⟨cv4, k4⟩ := bP (m := m) (i := i) (rp := rp) (cs := cs) (R := a8 m (μ.acc who 6 (16, (i : Int), ((n % cs.length : Nat) : Int))) * (blk b (.cells false (Pk.cells x)) * R)) (H := H4) h4.to;refine bg ae ?_;refine aN k4 rfl ?_
 -- a cell is told once more, of the same ring
 have again : ∀ {k : Value × AH → OV} {Q : Value → AH → Prop}, (∀ H5, ac (blk rp (.cells false [vp m, vi i, cv4]) * (ts 3 Pk.cells cv4 cs * (a8 m (μ.acc who 6 (16, (i : Int), ((n % cs.length : Nat) : Int))) * (blk b (.cells false (Pk.cells x)) * R)))) H5 → wp (k (vi ((n % cs.length : Nat) : Int), H5)) Q) → wp ((FF cy [vp rp, vu n] H4).bind k) Q := by
  intro k Q hk
  have cell4 : Sp cy [vp rp, vu n] (blk rp (.cells false [vp m, vi i, cv4]) * ts 3 Pk.cells cv4 cs) (fun _ : Unit => vi ((n % cs.length : Nat) : Int)) (fun _ => blk rp (.cells false [vp m, vi i, cv4]) * ts 3 Pk.cells cv4 cs) := by
   refine aY (lP _ _) fun R H h => ?_;refine aq h ae rfl ?_;refine ja (s := cv4) (l := cs) h ?_;refine aa (da (by omega) (by omega)) ?_;rw [show ((cs.length : Nat) : Int).toNat = cs.length from rO _];refine aa (g7 (by omega)) ?_;refine aa (fF (by omega)) ?_;exact ap ⟨(), rfl, h⟩
  exact ag k4 cell4 fun _ H5 h5 => hk H5 h5.to
 refine again fun H5 k5 => ?_;refine aG k5 k4 (by rfl) ?_;refine aU k5 ?_;refine dB k4 k5 rfl ?_;refine CT (s := cv4) (l := cs) (i := n % cs.length) x k5 hlt (.inl ⟨rfl, rfl⟩) rfl (by omega) rfl rfl fun H6 k6 => ?_;refine ap ⟨(), rfl, ?_⟩;have h6 := wR (m := m) (i := i) (rp := rp) (cs := cs.set (n % cs.length) x) (cv := cv4) (R := a8 m (μ.acc who 6 (16, (i : Int), ((n % cs.length : Nat) : Int))) * R) (H := H6) k6.to;exact h6.to
end
theorem lQ (k a : Int) : Sp aS [vi k, vi a] emp (fun _ : Unit => dl (k, a, 0)) (fun _ => emp) := by
 refine aY (vj _ _) fun R H h => ?_;refine bj h fun b H1 h1 => ?_;refine j9 ?_;refine f7 h1 rfl rfl fun H2 h2 => ?_;refine aU h2 ?_;exact ap ⟨(), rfl, h2.to⟩
abbrev Mu.cnt (μ : Mu) (who : Int) (at' : bC) (n : Nat) : Mu := (μ.acc who 3 at').put at' ((μ.V at' + n) % 18446744073709551616)
section
variable (ib m nm : Nat) (c : eR) (nx : Int → Option Nat) (μ : Mu) (who : Int)
theorem Gr (hE : μ.N < 1099511627000) : Sp f0 [vp ib, vi who] (fZ ib m nm c nx * a8 m μ) (fun _ : Unit => .tuple #[]) (fun _ => fZ ib m nm c nx * a8 m (μ.cnt who (3, 0, 0) 4294967296)) := by
 refine aY (oY _ _) fun R H h => ?_;unfold fZ at h ⊢;refine bg ae ?_;refine aN h rfl ?_;refine ag h (lQ 3 0) fun _ H1 h1 => ?_;refine aG h1 h (by rfl) ?_;refine ag h1 (YL m μ who (3, 0, 0) 4294967296 (by omega)) fun _ H2 h2 => ?_;exact ap ⟨(), rfl, h2.to⟩
theorem Cd (hE : μ.N < 1099511627000) : Sp e6 [vp ib, vi who] (fZ ib m nm c nx * a8 m μ) (fun _ : Unit => .tuple #[]) (fun _ => fZ ib m nm c nx * a8 m (μ.cnt who (3, 0, 0) 1)) := by
 refine aY (rP _ _) fun R H h => ?_;unfold fZ at h ⊢;refine bg ae ?_;refine aN h rfl ?_;refine ag h (lQ 3 0) fun _ H1 h1 => ?_;refine aG h1 h (by rfl) ?_;refine ag h1 (YL m μ who (3, 0, 0) 1 (by omega)) fun _ H2 h2 => ?_;exact ap ⟨(), rfl, h2.to⟩
theorem PL (s : Int) (hE : μ.N < 1099511627000) : Sp ip [vp ib, vi who, vi s] (fZ ib m nm c nx * a8 m μ) (fun _ : Unit => vu (μ.V (9, s, 0))) (fun _ => fZ ib m nm c nx * a8 m (μ.acc who 1 (9, s, 0))) := by
 refine aY (rR _ _ _) fun R H h => ?_;unfold fZ at h ⊢;refine bg ae ?_;refine aN h rfl ?_;refine aq h ae rfl ?_;refine aj (show (b6 (.func (.func aS) #[vi 9] #[]) [vi s]).bind _ = _ from rfl) ?_;refine ag h (lQ 9 s) fun _ H1 h1 => ?_;refine aG h1 h (by rfl) ?_;refine ag h1 (vI m μ who (9, s, 0) (by omega)) fun _ H2 h2 => ?_;exact ap ⟨(), rfl, h2.to⟩
theorem Ji (s : Int) (top obj : Nat) (ho : obj < 4294967296) (hE : μ.N < 1099511627000) : Sp gM [vp ib, vi who, vi s, vu top, vi obj] (fZ ib m nm c nx * a8 m μ) (fun _ : Unit => vb (decide (μ.V (9, s, 0) = top))) (fun _ => fZ ib m nm c nx * a8 m (μ.swp who (9, s, 0) top (obj + 1))) := by
 refine aY (qD _ _ _ _ _) fun R H h => ?_;unfold fZ at h ⊢;refine bg ae ?_;refine aN h rfl ?_;refine aq h ae rfl ?_;refine aj (show (b6 (.func (.func aS) #[vi 9] #[]) [vi s]).bind _ = _ from rfl) ?_;refine ag h (lQ 9 s) fun _ H1 h1 => ?_;refine aG h1 h (by rfl) ?_;refine aa (da (by omega) (by omega)) ?_;rw [show ((obj : Nat) : Int).toNat = obj from rO _];refine aa (eN (b := 1) (by omega)) ?_;refine ag h1 (JM m μ who (9, s, 0) top (obj + 1) (by omega)) fun _ H2 h2 => ?_;exact ap ⟨(), rfl, h2.to⟩
theorem Jf (obj : Int) (next : Nat) (hE : μ.N < 1099511627000) : Sp gK [vp ib, vi who, vi obj, vu next] (fZ ib m nm c nx * a8 m μ) (fun _ : Unit => .tuple #[]) (fun _ => fZ ib m nm c (fun k => if k = obj then some next else nx k) * a8 m (μ.acc who 6 (14, obj, 0))) := by
 refine aY (qB _ _ _ _) fun R H h => ?_;unfold fZ at h ⊢;refine bg ae ?_;refine aN h rfl ?_;refine aq h ae rfl ?_;refine aj (show (b6 (.func (.func aS) #[vi 14] #[]) [vi obj]).bind _ = _ from rfl) ?_;refine ag h (lQ 14 obj) fun _ H1 h1 => ?_;refine aG h1 h (by rfl) ?_;refine ag h1 ((vC m μ who (14, obj, 0) (by omega)).imp fun _ R H h => gn (N' := μ.N + 2) (by simp) h) fun _ H2 h2 => ?_;refine aq h2 ae rfl ?_;refine V4 (ek := FX) obj (vu next) h2 fun H3 h3 => ?_;refine ap ⟨(), rfl, ?_⟩
 have e : (fun k => ((if k = obj then some next else nx k) : Option Nat).map fun n => vu n) = fun x => if x = obj then some (vu next) else (nx x).map fun n => vu n := by
  funext k
  split <;> rfl
 rw [e];exact h3.to
end
section
variable (ib m : Nat) (sh : Int) (nx : Int → Option Nat) (L : Nat) (μ : Mu) (who : Int)
theorem Fs (hE : μ.N < 1099511627000) : Sp iu [vp ib, vi who] (gH ib m sh nx L * bm m μ) (fun _ : Unit => .tuple #[]) (fun _ => gH ib m sh nx L * bm m (μ.cnt who (3, 0, 0) 4294967296)) := by
 refine aX fun R H h => ?_;obtain ⟨kv, nv, ns, hn, h0⟩ := mG (ib := ib) (m := m) (sh := sh) (nx := nx) (L := L) (R := bm m μ * R) (H := H) h.to;refine a9 (fun r => sr _ _ H) ?_;refine bg ae ?_;refine aN h0 rfl ?_;refine ag h0 (dw 3 0 0) fun _ H1 h1 => ?_;refine aG h1 h0 (by rfl) ?_;refine ag h1 (Ne m μ who (3, 0, 0) 4294967296 (by omega)) fun _ H2 h2 => ?_;have h3 := gI (ib := ib) (m := m) (sh := sh) (nx := nx) (L := L) (kv := kv) (nv := nv) (ns := ns) (R := bm m (μ.cnt who (3, 0, 0) 4294967296) * R) (H := H2) hn h2.to;exact ap ⟨(), rfl, h3.to⟩
theorem Bg (hE : μ.N < 1099511627000) : Sp gq [vp ib, vi who] (gH ib m sh nx L * bm m μ) (fun _ : Unit => .tuple #[]) (fun _ => gH ib m sh nx L * bm m (μ.cnt who (3, 0, 0) 1)) := by
 refine aX fun R H h => ?_;obtain ⟨kv, nv, ns, hn, h0⟩ := mG (ib := ib) (m := m) (sh := sh) (nx := nx) (L := L) (R := bm m μ * R) (H := H) h.to;refine a9 (fun r => vM _ _ H) ?_;refine bg ae ?_;refine aN h0 rfl ?_;refine ag h0 (dw 3 0 0) fun _ H1 h1 => ?_;refine aG h1 h0 (by rfl) ?_;refine ag h1 (Ne m μ who (3, 0, 0) 1 (by omega)) fun _ H2 h2 => ?_;have h3 := gI (ib := ib) (m := m) (sh := sh) (nx := nx) (L := L) (kv := kv) (nv := nv) (ns := ns) (R := bm m (μ.cnt who (3, 0, 0) 1) * R) (H := H2) hn h2.to;exact ap ⟨(), rfl, h3.to⟩
theorem KN (s : Int) (hE : μ.N < 1099511627000) : Sp jJ [vp ib, vi who, vi s] (gH ib m sh nx L * bm m μ) (fun _ : Unit => vu (μ.V (9, s, 0))) (fun _ => gH ib m sh nx L * bm m (μ.acc who 1 (9, s, 0))) := by
 refine aX fun R H h => ?_;obtain ⟨kv, nv, ns, hn, h0⟩ := mG (ib := ib) (m := m) (sh := sh) (nx := nx) (L := L) (R := bm m μ * R) (H := H) h.to;refine a9 (fun r => vN _ _ _ H) ?_;refine bg ae ?_;refine aN h0 rfl ?_;refine ag h0 (dw 9 s 0) fun _ H1 h1 => ?_;refine aG h1 h0 (by rfl) ?_;refine ag h1 (pE m μ who (9, s, 0) (by omega)) fun _ H2 h2 => ?_;have h3 := gI (ib := ib) (m := m) (sh := sh) (nx := nx) (L := L) (kv := kv) (nv := nv) (ns := ns) (R := bm m (μ.acc who 1 (9, s, 0)) * R) (H := H2) hn h2.to;exact ap ⟨(), rfl, h3.to⟩
theorem HA (s : Int) (top obj : Nat) (ho : obj < 4294967296) (hE : μ.N < 1099511627000) : Sp iY [vp ib, vi who, vi s, vu top, vi obj] (gH ib m sh nx L * bm m μ) (fun _ : Unit => vb (decide (μ.V (9, s, 0) = top))) (fun _ => gH ib m sh nx L * bm m (μ.swp who (9, s, 0) top (obj + 1))) := by
 refine aX fun R H h => ?_;obtain ⟨kv, nv, ns, hn, h0⟩ := mG (ib := ib) (m := m) (sh := sh) (nx := nx) (L := L) (R := bm m μ * R) (H := H) h.to;refine a9 (fun r => uk _ _ _ _ _ H) ?_;refine bg ae ?_;refine aN h0 rfl ?_;refine ag h0 (dw 9 s 0) fun _ H1 h1 => ?_;refine aG h1 h0 (by rfl) ?_;refine aa (da (by omega) (by omega)) ?_;rw [show ((obj : Nat) : Int).toNat = obj from rO _];refine aa (eN (b := 1) (by omega)) ?_;refine ag h1 (Aw m μ who (9, s, 0) top (obj + 1) (by omega)) fun _ H2 h2 => ?_;have h3 := gI (ib := ib) (m := m) (sh := sh) (nx := nx) (L := L) (kv := kv) (nv := nv) (ns := ns) (R := bm m (μ.swp who (9, s, 0) top (obj + 1)) * R) (H := H2) hn h2.to;exact ap ⟨(), rfl, h3.to⟩
end
theorem Fi (a : Int) {n : Int} (h : 1 ≤ n) : -n < a.tmod n ∧ a.tmod n < n := by
 have e := Int.natAbs_tmod a n;have : a.natAbs % n.natAbs < n.natAbs := Nat.mod_lt _ (by omega);omega
section
variable (t m p e : Nat) (σ : az)
theorem Hg (sh sl : Nat) (hs : 1 ≤ sh ∧ sh ≤ 4) (flow : Int) : Sp f4 [vp t, vi flow] (tab t m sh sl) (fun _ : Unit => vi ((flow.tmod sh + sh).tmod sh)) (fun _ => tab t m sh sl) := by
 refine aY (pK _ _) fun R H h => ?_;unfold tab at h ⊢;have q := Fi flow (n := sh) (by omega);refine aq h ae rfl ?_;refine aa (i8 (by omega)) ?_;refine aq h ae rfl ?_;refine aa (aO (by omega) (by omega)) ?_;refine aq h ae rfl ?_;refine aa (i8 (by omega)) ?_;exact ap ⟨(), rfl, h⟩
theorem XE (μ : Mu) : Sp gi [vp m] (a8 m μ) (fun _ : Unit => vi μ.E.length) (fun _ => a8 m μ) := by
 refine aX fun R H h => ?_;obtain ⟨⟨c, l, al, es, ck⟩, h1⟩ := ac.ex.1 h;rw [ar, ac.pu] at h1;obtain ⟨hp, h1⟩ := h1;dsimp only at h1;have h2 : ac (blk m (.cells false [.map (some c), l]) * (blk c (.map es ck) * ts 5 Ev.cells l μ.E) * R) H := h1;refine a9 (fun r => Ac _ H) ?_;refine aq h2 ae rfl ?_;refine sM (s := l) (l := μ.E) h2 ?_;exact ap ⟨(), rfl, h⟩
theorem s9 (r : Value) (x : Int) : Sp kp [r, vi x] emp (fun _ : Unit => .tuple #[.agg (m0 x).toArray, vb true]) (fun _ => emp) := by
 refine aY (Id _ _) fun R H h => ?_;refine bj h fun b H1 h1 => ?_;refine j9 ?_;refine f7 h1 rfl rfl fun H2 h2 => ?_;refine aU h2 ?_;exact ap ⟨(), rfl, h2.to⟩
def dG (x : Cl) : Option Int := if x.a < 1 ∨ 65536 < x.a then some 3 else if x.flow < 0 ∨ 1048576 < x.flow then some 5 else none
end
structure Tk where
 who : Int
 x : Cl
 s : Int
 at' : Nat
 i : Nat
 obj : Nat
 found : Bool
 w : Nat
 q : Nat
 mark : Int
 top : Nat
 code : Int
abbrev az.mem (σ : az) (μ : Mu) : az := { σ with μ := μ }
def tK (v : Nat) (flow : Int) : Bool := decide (v ≠ 0 ∧ ((v / 4294967296 : Nat) : Int) - 1 = flow)
def aA (σ : az) (t : Tk) : Tk :=
 let v := σ.μ.V (10, t.s, (t.i : Int))
 { t with i := t.i + 1, found := tK v t.x.flow, obj := if tK v t.x.flow = true then v % 4294967296 else t.obj }
abbrev bJ (σ : az) (t : Tk) : az := σ.mem (σ.μ.acc t.who 1 (10, t.s, (t.i : Int)))
def cz (σ : az) (t : Tk) : Bool := decide (σ.c.sl ≤ (t.i : Int))
def aw (σ : az) (o : Nat) : List Pk := ((σ.obs[o]?).map (·.2)).getD []
def dL (σ : az) (t : Tk) : az :=
 let n := (aw σ t.obj).length
 let k := ay t.w % n
 { σ with μ := σ.μ.acc t.who 6 (16, (t.obj : Int), (k : Int)), obs := σ.obs.modify t.obj fun p => (p.1, p.2.set k ⟨t.x.flow, t.x.a, t.x.b⟩) }
abbrev wU (σ : az) (t : Tk) : az :=
 let n := (aw σ t.obj).length
 let k := ay t.w % n
 σ.mem ((σ.μ.acc t.who 2 (15, (t.obj : Int), (k : Int))).put (15, (t.obj : Int), (k : Int)) (ay t.w + 1))
abbrev jW (σ : az) (t : Tk) : az := σ.mem (σ.μ.acc t.who 1 (11, (t.obj : Int), 0))
abbrev ij (σ : az) (t : Tk) : az := σ.mem (σ.μ.acc t.who 1 (12, (t.obj : Int), 0))
def fU (σ : az) (t : Tk) : Bool := kQ t.w (σ.μ.V (12, (t.obj : Int), 0)) (aw σ t.obj).length
abbrev mj (σ : az) (t : Tk) : az := σ.mem (σ.μ.acc t.who 1 (2, 0, 0))
def ah (σ : az) (t : Tk) (now : Int) : az × Tk × Bool :=
 let scan (σ : az) (t : Tk) : az × Tk × Bool :=
  let t1 := aA σ t
  (bJ σ t, { t1 with at' := if t1.found = true then 6 else if cz σ t1 = true then 3 else 2 }, false)
 match t.at' with
 | 0 => match dG t.x with
  | some e => (σ.note now t.who e, { t with code := e }, true)
  | none => scan σ t
 | 2 => scan σ t
 | 3 => let l : bC := (8, t.s, 0)
  (σ.mem (σ.μ.swp t.who l 0 1), (if σ.μ.V l = 0 then { t with at' := 4, i := 0 } else t), false)
 | 4 => let t1 := aA σ t
  if t1.found = true then (bJ σ t, { t1 with at' := 5 }, false)
  else if cz σ t1 = true then ((bJ σ t).note now t.who 5, { t1 with at' := 5, code := 5 }, false)
  else (bJ σ t, t1, false)
 | 5 => let l : bC := (8, t.s, 0)
  (σ.mem ((σ.μ.acc t.who 2 l).put l 0), { t with at' := 6 }, !t.found)
 | 6 => (σ.mem (σ.μ.acc t.who 5 (13, (t.obj : Int), 0)), { t with at' := 7 }, false)
 | 7 => let w := σ.μ.V (11, (t.obj : Int), 0)
  (jW σ t, { t with w := w, at' := if aH w = 2 then 3 else 8 }, false)
 | 8 => (ij σ t, { t with at' := if fU σ t = true then 15 else if aH t.w = 1 then 9 else 12 }, false)
 | 9 => let o := aL t.w 0
  let σ1 := σ.mem (σ.μ.turn t.who t.obj t.w o)
  if cG σ.μ t.obj t.w o = true then (σ1.note now t.who 0, { t with at' := 10, code := 0 }, false) else (σ1, { t with at' := 7 }, false)
 | 10 => (dL σ t, { t with at' := 11 }, false)
 | 11 => (wU σ t, t, true)
 | 12 => (σ.mem (σ.μ.cnt t.who (3, 0, 0) 4294967296), { t with at' := 13 }, false)
 | 13 => let o := aL t.w 0
  let σ1 := σ.mem (σ.μ.turn t.who t.obj t.w o)
  if cG σ.μ t.obj t.w o = true then (σ1.note now t.who 0, { t with at' := 14, code := 0 }, false) else (σ1, { t with at' := 20 }, false)
 | 14 => (dL σ t, { t with at' := 21 }, false)
 | 15 => let q := σ.μ.V (2, 0, 0)
  (mj σ t, { t with q := q, at' := if q % 2 = 1 then 7 else 16 }, false)
 | 16 => let w := σ.μ.V (11, (t.obj : Int), 0)
  (jW σ t, { t with w := w, at' := if aH w = 2 then 3 else 17 }, false)
 | 17 => (ij σ t, (if fU σ t = true then { t with at' := 18, mark := now } else { t with at' := 7 }), false)
 | 18 => if σ.μ.V (2, 0, 0) = t.q then ((mj σ t).note t.mark t.who 9, { t with code := 9 }, true) else (mj σ t, { t with at' := 7 }, false)
 | 20 => (σ.mem (σ.μ.cnt t.who (3, 0, 0) 1), { t with at' := 7 }, false)
 | 21 => (wU σ t, { t with at' := 22 }, false)
 | 22 => (σ.mem (σ.μ.acc t.who 1 (9, t.s, 0)), { t with top := σ.μ.V (9, t.s, 0), at' := 23 }, false)
 | 23 => ({ σ with μ := σ.μ.acc t.who 6 (14, (t.obj : Int), 0), nx := fun k => if k = (t.obj : Int) then some t.top else σ.nx k }, { t with at' := 24 }, false)
 | 24 => let l : bC := (9, t.s, 0)
  (σ.mem (σ.μ.swp t.who l t.top (t.obj + 1)), { t with at' := if σ.μ.V l = t.top then 25 else 22 }, false)
 | _ => (σ.mem (σ.μ.cnt t.who (3, 0, 0) 1), t, true)
def bT (p : Nat) (rp : List Nat) (σ : az) : SP := ex fun g : PIds => pu (g.rp = rp ∧ rp.length = σ.obs.length) * aI p g σ
theorem hM {p : Nat} {rp : List Nat} {σ : az} {R : SP} {H : AH} (h : ac (bT p rp σ * R) H) : ∃ g : PIds, g.rp = rp ∧ rp.length = σ.obs.length ∧ ac (aI p g σ * R) H := by
 obtain ⟨g, h1⟩ := ac.ex.1 h;rw [ar, ac.pu] at h1;exact ⟨g, h1.1.1, h1.1.2, h1.2⟩
theorem bG {p : Nat} {rp : List Nat} {σ : az} {R : SP} {H : AH} (g : PIds) (h1 : g.rp = rp) (h2 : rp.length = σ.obs.length) (h : ac (aI p g σ * R) H) : ac (bT p rp σ * R) H :=
 ac.ex.2 ⟨g, by rw [ar]; exact ac.pu.2 ⟨⟨h1, h2⟩, h⟩⟩
theorem UX {p : Nat} {σ : az} {R : SP} {H : AH} (h : ac (eS p σ * R) H) : ∃ rp, ac (bT p rp σ * R) H := by
 obtain ⟨g, hg, h1⟩ := lK h;exact ⟨g.rp, bG g rfl hg h1⟩
theorem E5 (m : Nat) : ∀ {ps : List (Nat × List Pk)} {i j : Nat} (h : i < ps.length), ∃ R, lw m j ps = b5 m (j + i) (ps[i]).1 (ps[i]).2 * R ∧ ∀ q : Nat × List Pk, lw m j (ps.set i q) = b5 m (j + i) q.1 q.2 * R := by
 intro ps
 induction ps with
 | nil => intro i j h; simp at h
 | cons p ps ih =>
  intro i j h
  cases i with
  | zero => exact ⟨lw m (j + 1) ps, rfl, fun q => rfl⟩
  | succ i =>
   obtain ⟨R, e1, e2⟩ := ih (i := i) (j := j + 1) (by simpa using h);refine ⟨b5 m j p.1 p.2 * R, ?_, fun q => ?_⟩
   ·show b5 m j p.1 p.2 * lw m (j + 1) ps = _
    rw [e1, bo, show j + 1 + i = j + (i + 1) from by omega]; rfl
   ·show b5 m j p.1 p.2 * lw m (j + 1) (ps.set i q) = _
    rw [e2, bo, show j + 1 + i = j + (i + 1) from by omega]
theorem E6 (m : Nat) : ∀ {ps : List (Nat × List Pk)} {i j : Nat} (h : i < ps.length), ∃ R, iD m j ps = cp m (j + i) (ps[i]).1 (ps[i]).2 * R ∧ ∀ q : Nat × List Pk, iD m j (ps.set i q) = cp m (j + i) q.1 q.2 * R := by
 intro ps
 induction ps with
 | nil => intro i j h; simp at h
 | cons p ps ih =>
  intro i j h
  cases i with
  | zero => exact ⟨iD m (j + 1) ps, rfl, fun q => rfl⟩
  | succ i =>
   obtain ⟨R, e1, e2⟩ := ih (i := i) (j := j + 1) (by simpa using h);refine ⟨cp m j p.1 p.2 * R, ?_, fun q => ?_⟩
   ·show cp m j p.1 p.2 * iD m (j + 1) ps = _
    rw [e1, bo, show j + 1 + i = j + (i + 1) from by omega]; rfl
   ·show cp m j p.1 p.2 * iD m (j + 1) (ps.set i q) = _
    rw [e2, bo, show j + 1 + i = j + (i + 1) from by omega]
def Wu (ns : List (Int × Nat)) (obj : Int) : Int := match ns.findIdx? fun p => p.1 == obj with
 | some i => i
 | none => -1
theorem FB {ns : List (Int × Nat)} {obj : Int} {i : Nat} (h : ∀ j, j < i → ∀ p, ns[j]? = some p → p.1 ≠ obj) :
 (∀ (hi : i < ns.length), ns[i].1 = obj → Wu ns obj = i) ∧ (ns.length ≤ i → Wu ns obj = -1) := by
 constructor
 ·intro hi e
  unfold Wu
  have : ns.findIdx? (fun p => p.1 == obj) = some i := by
   rw [List.findIdx?_eq_some_iff_getElem];refine ⟨hi, by simpa using e, fun j hj => ?_⟩;have := h j hj ns[j] (by rw [br])
   simpa using this
  rw [this]
 ·intro hi
  unfold Wu
  have : ns.findIdx? (fun p => p.1 == obj) = none := by
   rw [List.findIdx?_eq_none_iff];intro p hp;obtain ⟨j, hj, rfl⟩ := List.getElem_of_mem hp;have := h j (by omega) ns[j] (by rw [br])
   simpa using this
  rw [this]
theorem Q8 (ib m : Nat) (sh : Int) (kv nv : Value) (ns : List (Int × Nat)) (hn : ns.length < 1000000) (obj : Int) :
 Sp kZ [vp ib, vi obj] (blk ib (.cells false [vp m, vi sh, kv, nv]) * ts 1 dC kv (ns.map (·.1))) (fun _ : Unit => vi (Wu ns obj)) (fun _ => blk ib (.cells false [vp m, vi sh, kv, nv]) * ts 1 dC kv (ns.map (·.1))) := by
 refine aY (xL _ _) fun R H h => ?_;refine aj (ss _ _ _ H) ?_;refine aj (sw _ _ _ _ H) ?_;have loop : ∀ (d i : Nat), i + d = ns.length → (∀ j, j < i → ∀ p, ns[j]? = some p → p.1 ≠ obj) →
  wp (gA (vp ib) (vi obj) (vi 0) (vi i) H) fun v' H' => ∃ x : Unit, v' = vi (Wu ns obj) ∧ ac (blk ib (.cells false [vp m, vi sh, kv, nv]) * ts 1 dC kv (ns.map (·.1)) * R) H' := by
  intro d
  induction d with
  | zero =>
   intro i hi hj;refine aj (lq _ _ _ _ H) ?_;refine aq h ae rfl ?_;refine sM (s := kv) h ?_;rw [qM];refine aa (b4 (by omega)) ?_;refine gs ?_;refine aj (pB _ H) ?_;refine aj (su _ H) ?_;exact ap ⟨(), by rw [(FB hj).2 (by omega)], h⟩
  | succ d ih =>
   intro i hi hj
   have hil : i < ns.length := by omega
   refine aj (lq _ _ _ _ H) ?_;refine aq h ae rfl ?_;refine sM (s := kv) h ?_;rw [qM];refine aa (cJ (by omega)) ?_;refine gs ?_;refine aj (sx _ _ _ _ H) ?_;refine aq h ae rfl ?_;refine i9 (s := kv) (enc := dC) (l := ns.map fun p : Int × Nat => p.1) (v := vi ns[i].1) h (i := i) (by simpa using hil) (by simp [dC]) ?_
   by_cases e : ns[i].1 = obj
   ·refine aa (bv e) ?_
    refine gs ?_;exact ap ⟨(), by rw [(FB hj).1 hil e], h⟩
   ·refine aa (aR e) ?_
    refine gs ?_;refine aj (sy _ _ _ _ H) ?_;refine aa (aO (by omega) (by omega)) ?_;refine ih (i + 1) (by omega) fun j hj2 p hp => ?_
    rcases Nat.lt_succ_iff_lt_or_eq.1 hj2 with h1 | rfl
    ·exact hj j h1 p hp
    ·rw [br hil] at hp
     obtain rfl := fg hp;exact e
 exact loop ns.length 0 (by omega) (fun j hj => by omega)
theorem Rz {ns : List (Int × Nat)} {obj : Int} (h : ns.findIdx? (fun p => p.1 == obj) = none) : Wu ns obj = -1 := by unfold Wu; rw [h]
theorem RB {ns : List (Int × Nat)} {obj : Int} {i : Nat} (h : ns.findIdx? (fun p => p.1 == obj) = some i) : Wu ns obj = i := by unfold Wu; rw [h]
theorem PZ {ns : List (Int × Nat)} {obj : Int} (h : ns.findIdx? (fun p => p.1 == obj) = none) (n : Nat) (k : Int) : Bz (ns ++ [(obj, n)]) k = if k = obj then some n else Bz ns k := by
 have hn : ns.find? (fun p => p.1 == obj) = none := by
  rw [List.find?_eq_none];rw [List.findIdx?_eq_none_iff] at h;intro p hp;have := h p hp
  simpa using this
 unfold Bz;rw [List.find?_append]
 by_cases e : k = obj
 ·subst e
  rw [hn, if_pos rfl];simp
 ·rw [if_neg e]
  have : ([(obj, n)] : List (Int × Nat)).find? (fun p => p.1 == k) = none := by
   rw [List.find?_eq_none];intro p hp
   obtain rfl : p = (obj, n) := by simpa using hp
   simpa using fun q => e q.symm
  rw [this]
  cases ns.find? (fun p => p.1 == k) <;> rfl
theorem UI (obj : Int) (n : Nat) (k : Int) : ∀ {ns : List (Int × Nat)} {i : Nat}, ns.findIdx? (fun p => p.1 == obj) = some i → Bz (ns.set i (obj, n)) k = if k = obj then some n else Bz ns k := by
 intro ns
 induction ns with
 | nil => intro i h; simp at h
 | cons p ns ih =>
  intro i h;rw [List.findIdx?_cons] at h
  by_cases e : p.1 = obj
  ·rw [if_pos (by simpa using e)] at h
   obtain rfl := fg h;simp only [List.set_cons_zero, Bz, List.find?_cons]
   by_cases e2 : k = obj
   ·subst e2; simp
   ·have h1 : ((obj == k) : Bool) = false := by simpa using fun q => e2 q.symm
    have h2 : ((p.1 == k) : Bool) = false := by rw [e]; exact h1
    simp [h1, h2, e2]
  ·rw [if_neg (by simpa using e)] at h
   obtain ⟨j, hj, rfl⟩ := aM.1 h;have := ih hj;simp only [List.set_cons_succ, Bz, List.find?_cons] at this ⊢
   by_cases e2 : p.1 = k
   ·have h1 : ((p.1 == k) : Bool) = true := by simpa using e2
    simp only [h1];rw [if_neg (fun q => e (e2.trans q))]
   ·have h1 : ((p.1 == k) : Bool) = false := by simpa using e2
    simp only [h1];exact this
theorem Hz (ib m : Nat) (sh : Int) (nx : Int → Option Nat) (L : Nat) (μ : Mu) (who obj : Int) (next : Nat) (hL : L < 900000) (hE : μ.N < 1099511627000) :
 Sp iX [vp ib, vi who, vi obj, vu next] (gH ib m sh nx L * bm m μ) (fun _ : Unit => .tuple #[]) (fun _ => gH ib m sh (fun k => if k = obj then some next else nx k) (L + 1) * bm m (μ.acc who 6 (14, obj, 0))) := by
 refine aX fun R H h => ?_;obtain ⟨kv, nv, ns, ⟨hn, hl⟩, h0⟩ := mG (ib := ib) (m := m) (sh := sh) (nx := nx) (L := L) (R := bm m μ * R) (H := H) h.to;refine a9 (fun r => uj _ _ _ _ H) ?_;refine bg ae ?_;refine aN h0 rfl ?_;refine ag h0 (dw 14 obj 0) fun _ H1 h1 => ?_;refine aG h1 h0 (by rfl) ?_;refine ag h1 ((Q9 m μ who 6 (14, obj, 0) (by omega)).imp fun _ R H h => tS (N' := μ.N + 2) (by simp) h) fun _ H2 h2 => ?_;refine ag h2 (Q8 ib m sh kv nv ns (by omega) obj) fun _ H3 h3 => ?_
 cases hf : ns.findIdx? (fun p => p.1 == obj) with
 | none =>
  rw [Rz hf];refine aa (cJ (by omega)) ?_;refine gs ?_;refine aq h3 ae rfl ?_;refine KG h3 fun b0 H4 h4 => ?_;refine gX (s := kv) (l := ns.map fun p : Int × Nat => p.1) (obj : Int) h4 rfl ?_ (by omega) fun a c H5 h5 => ?_
  ·unfold room; simp only [qM]; omega
  refine bg ae ?_;refine aN h5 rfl ?_;refine aG h4 h5 (by rfl) ?_;refine KG h5 fun b1 H6 h6 => ?_;refine gX (s := nv) (l := ns.map fun p : Int × Nat => p.2) (next : Nat) h6 rfl ?_ (by omega) fun a2 c2 H7 h7 => ?_
  ·unfold room; simp only [qM]; omega
  refine bk h7 ae rfl rfl fun H8 h8 => ?_;refine bk h8 ae rfl rfl fun H9 h9 => ?_
  have e1 : (ns ++ [(obj, next)]).map (fun p : Int × Nat => p.1) = (ns.map fun p : Int × Nat => p.1) ++ [obj] := by rw [Jk]; rfl
  have e2 : (ns ++ [(obj, next)]).map (fun p : Int × Nat => p.2) = (ns.map fun p : Int × Nat => p.2) ++ [next] := by rw [Jk]; rfl
  refine ap ⟨(), rfl, ?_⟩;have h10 := gI (ib := ib) (m := m) (sh := sh) (nx := fun k => if k = obj then some next else nx k) (L := L + 1) (kv := .slice a ((ns.map fun p : Int × Nat => p.1).length + 1) c) (nv := .slice a2 ((ns.map fun p : Int × Nat => p.2).length + 1) c2) (ns := ns ++ [(obj, next)])
   (R := bm m (μ.acc who 6 (14, obj, 0)) * R) (H := H9) ⟨fun k => by rw [PZ hf, hn], by simp; omega⟩ (by rw [e1, e2]; exact h9.to)
  exact h10.to
 | some i =>
  rw [RB hf];have hi := (List.findIdx?_eq_some_iff_getElem.1 hf);obtain ⟨hil, hk, _⟩ := hi;refine aa (b4 (by omega)) ?_;refine gs ?_;refine aq h3 ae rfl ?_;refine CT (s := nv) (l := ns.map fun p : Int × Nat => p.2) (i := i) (next : Nat) h3 (by simpa using hil) (.inl ⟨rfl, rfl⟩) rfl (by omega) rfl (by simp [Io, splice]) fun H4 h4 => ?_
  have e1 : (ns.set i (obj, next)).map (fun p : Int × Nat => p.1) = ns.map fun p : Int × Nat => p.1 := by
   rw [List.map_set];apply List.ext_getElem?;intro j;rw [List.getElem?_set]
   split
   ·rename_i e
    subst e
    have hk : ns[i].1 = obj := by simpa using hk
    simp [hil, hk]
   ·rfl
  have e2 : (ns.set i (obj, next)).map (fun p : Int × Nat => p.2) = (ns.map fun p : Int × Nat => p.2).set i next := by rw [List.map_set]
  refine ap ⟨(), rfl, ?_⟩;have h10 := gI (ib := ib) (m := m) (sh := sh) (nx := fun k => if k = obj then some next else nx k) (L := L + 1) (kv := kv) (nv := nv) (ns := ns.set i (obj, next))
   (R := bm m (μ.acc who 6 (14, obj, 0)) * R) (H := H4) ⟨fun k => by rw [UI obj next k hf, hn], by rw [vx]; omega⟩ (by rw [e1, e2]; exact h4.to)
  exact h10.to
theorem s5 {σ : az} {o : Nat} (ho : o < σ.obs.length) : aw σ o = (σ.obs[o]).2 := by
 unfold aw;rw [br ho]; rfl
theorem wO (p : Nat) (g : PIds) (σ : az) (o b : Nat) (hl : g.rp.length = σ.obs.length) (ho : o < σ.obs.length) (hb : g.rp[o]? = some b) :
 ∃ R, aI p g σ = b5 g.m o b (aw σ o) * a8 g.m σ.μ * R ∧ ∀ μ' cs', aI p g { σ with μ := μ', obs := σ.obs.modify o fun q => (q.1, cs') } = b5 g.m o b cs' * a8 g.m μ' * R := by
 have hz : o < (g.rp.zip (σ.obs.map fun x => x.2)).length := by simp; omega
 obtain ⟨R, e1, e2⟩ := E5 g.m (ps := g.rp.zip (σ.obs.map fun x => x.2)) (j := 0) hz
 have hrp : g.rp[o]'(by omega) = b := by
  rw [br (by omega)] at hb;exact fg hb
 have e3 : (g.rp.zip (σ.obs.map fun x => x.2))[o] = (b, aw σ o) := by
  rw [List.getElem_zip, s5 ho, List.getElem_map, hrp]
 rw [e3] at e1;rw [Nat.zero_add] at e1 e2
 refine ⟨blk p (.cells false [vp g.m, vp g.ib, vp g.tb, vp g.po, vp g.co, vi σ.c.sh, vi σ.c.sl, vi σ.c.wk, vi σ.c.wd, vu σ.c.un, g.ov, .map (some g.pm), g.pv]) * (fZ g.ib g.m g.nm σ.c σ.nx * (tab g.tb g.m σ.c.sh.toNat σ.c.sl.toNat * (ts 4 zl g.ov ((σ.obs.map fun x => x.1).zip g.rp) * (R *
  (Re FX g.pm (fun k => (σ.places k).map fun n => vi n) * ts 7 Pt.cells g.pv σ.pts))))), ?_, fun μ' cs' => ?_⟩
 ·unfold aI
  rw [e1]
  ac_rfl
 ·unfold aI
  dsimp only
  have e4 : (σ.obs.modify o fun q => (q.1, cs')).map (fun x => x.1) = σ.obs.map fun x => x.1 := by
   apply List.ext_getElem?;intro j;simp only [vt, List.getElem?_modify]
   cases σ.obs[j]? with
   | none => rfl
   | some q => simp only [dD]; split <;> rfl
  have e5 : g.rp.zip ((σ.obs.modify o fun q => (q.1, cs')).map fun x => x.2) = (g.rp.zip (σ.obs.map fun x => x.2)).set o (b, cs') := by
   apply List.ext_getElem?;intro j;rw [List.getElem?_set]
   by_cases hj : o = j
   ·subst hj
    rw [if_pos rfl, if_pos hz];exact List.getElem?_zip_eq_some.2 ⟨hb, by simp [List.getElem?_modify, br ho]⟩
   ·rw [if_neg hj]
    have : (List.map (fun x => x.2) (σ.obs.modify o fun q => (q.1, cs')))[j]? = (σ.obs.map fun x => x.2)[j]? := by
     simp only [vt, List.getElem?_modify]
     cases σ.obs[j]? with
     | none => rfl
     | some q => show some (if o = j then (q.1, cs') else q).2 = some q.2; rw [if_neg hj]
    simp only [List.zip, List.getElem?_zipWith, this]
  rw [e4, e5, e2]
  ac_rfl
theorem GC {σ : az} {o : Nat} (ho : o < σ.obs.length) : (σ.obs.modify o fun q => (q.1, aw σ o)) = σ.obs := by
 apply List.ext_getElem?;intro j;rw [List.getElem?_modify]
 cases hj : σ.obs[j]? with
 | none => rfl
 | some q =>
  show some (if o = j then _ else _) = some q
  by_cases e : o = j
  ·subst e
   rw [if_pos rfl];unfold aw;rw [hj]; rfl
  ·rw [if_neg e]
section
variable {f : Nat} {args : List Value} {v : Unit → Value} {p : Nat} {g : PIds} {σ : az} {o b : Nat}
theorem Rh {μ' : Mu} {cs' : List Pk} (hl : g.rp.length = σ.obs.length) (ho : o < σ.obs.length) (hb : g.rp[o]? = some b)
 (s : Sp f args (b5 g.m o b (aw σ o) * a8 g.m σ.μ) v (fun _ => b5 g.m o b cs' * a8 g.m μ')) :
 Sp f args (aI p g σ) v (fun _ => aI p g { σ with μ := μ', obs := σ.obs.modify o fun q => (q.1, cs') }) := by
 obtain ⟨R', e1, e2⟩ := wO p g σ o b hl ho hb;intro R H h;rw [e1, ar] at h;obtain ⟨x, H', h1, h2⟩ := s _ _ h;exact ⟨x, H', h1, by rw [e2, ar]; exact h2⟩
theorem jX {μ' : Mu} (hl : g.rp.length = σ.obs.length) (ho : o < σ.obs.length) (hb : g.rp[o]? = some b)
 (s : Sp f args (b5 g.m o b (aw σ o) * a8 g.m σ.μ) v (fun _ => b5 g.m o b (aw σ o) * a8 g.m μ')) :
 Sp f args (aI p g σ) v (fun _ => aI p g (σ.mem μ')) := by
 have := Rh (p := p) hl ho hb s;rw [GC ho] at this;exact this
theorem KT (hl : g.rp.length = σ.obs.length) (ho : o < σ.obs.length) (hb : g.rp[o]? = some b)
 (s : Sp f args (b5 g.m o b (aw σ o)) v (fun _ => b5 g.m o b (aw σ o))) :
 Sp f args (aI p g σ) v (fun _ => aI p g σ) := by
 obtain ⟨R', e1, _⟩ := wO p g σ o b hl ho hb;intro R H h;rw [e1, ar, ar] at h;obtain ⟨x, H', h1, h2⟩ := s _ _ h;exact ⟨x, H', h1, by rw [e1, ar, ar]; exact h2⟩
theorem Ri {μ' : Mu} (s : Sp f args (tab g.tb g.m σ.c.sh.toNat σ.c.sl.toNat * a8 g.m σ.μ) v (fun _ => tab g.tb g.m σ.c.sh.toNat σ.c.sl.toNat * a8 g.m μ')) :
 Sp f args (aI p g σ) v (fun _ => aI p g (σ.mem μ')) := by
 intro R H h;unfold aI at h;obtain ⟨x, H', h1, h2⟩ := s _ H (ac.fr (A := tab g.tb g.m σ.c.sh.toNat σ.c.sl.toNat * a8 g.m σ.μ) h);refine ⟨x, H', h1, ?_⟩;unfold aI;exact h2.to
theorem Rj (s : Sp f args (tab g.tb g.m σ.c.sh.toNat σ.c.sl.toNat) v (fun _ => tab g.tb g.m σ.c.sh.toNat σ.c.sl.toNat)) :
 Sp f args (aI p g σ) v (fun _ => aI p g σ) := by
 intro R H h;unfold aI at h;obtain ⟨x, H', h1, h2⟩ := s _ H (ac.fr (A := tab g.tb g.m σ.c.sh.toNat σ.c.sl.toNat) h);refine ⟨x, H', h1, ?_⟩;unfold aI;exact h2.to
theorem KS {μ' : Mu} (s : Sp f args (a8 g.m σ.μ) v (fun _ => a8 g.m μ')) : Sp f args (aI p g σ) v (fun _ => aI p g (σ.mem μ')) := by
 intro R H h;unfold aI at h;obtain ⟨x, H', h1, h2⟩ := s _ H (ac.fr (A := a8 g.m σ.μ) h);refine ⟨x, H', h1, ?_⟩;unfold aI;exact h2.to
theorem sP {μ' : Mu} {nx' : Int → Option Nat} (s : Sp f args (fZ g.ib g.m g.nm σ.c σ.nx * a8 g.m σ.μ) v (fun _ => fZ g.ib g.m g.nm σ.c nx' * a8 g.m μ')) :
 Sp f args (aI p g σ) v (fun _ => aI p g { σ with μ := μ', nx := nx' }) := by
 intro R H h;unfold aI at h;obtain ⟨x, H', h1, h2⟩ := s _ H (ac.fr (A := fZ g.ib g.m g.nm σ.c σ.nx * a8 g.m σ.μ) h);refine ⟨x, H', h1, ?_⟩;unfold aI;exact h2.to
end
instance ZW (p : Nat) (g : PIds) (σ : az) : Hs (aI p g σ) p (.cells false [vp g.m, vp g.ib, vp g.tb, vp g.po, vp g.co, vi σ.c.sh, vi σ.c.sl, vi σ.c.wk, vi σ.c.wd, vu σ.c.un, g.ov, .map (some g.pm), g.pv]) := ⟨by
 intro H h;unfold aI at h
 exact h.left.get⟩
theorem nO {P P0 R : SP} {H : AH} {b fn : Nat} {args : List Value} {c : Int} {d : Bool} {Q0 : Unit → SP} {Q : Value → AH → Prop} (h : ac P H)
 (s : Sp fn args P0 (fun _ : Unit => .tuple #[.agg (m0 c).toArray, vb d]) Q0) [fr : Fr P (P0 * blk b (.cells false [vi 0, .slice none 0 0, vi 0, vw 0])) R]
 (hk : ∀ H', ac (Q0 () * R) H' → Q (.tuple #[.agg (m0 c).toArray, vb d]) H') :
 wp ((FF fn args H).bind fun r2 => (ai r2.1 0).bind fun v3 => (ai r2.1 1).bind fun v4 => (dg 4 (vp b) v3 r2.2).bind fun H5 => (aB 4 (vp b) H5).bind fun v6 => some (Value.tuple #[v6, v4], H5)) Q := by
 have h0 : ac (P0 * (blk b (.cells false [vi 0, .slice none 0 0, vi 0, vw 0]) * R)) H := by
  have := ac.fr (A := P0 * blk b (.cells false [vi 0, .slice none 0 0, vi 0, vw 0])) h;rw [ar] at this;exact this
 refine ag h0 s fun _ H1 h1 => ?_;refine aa (v := .agg (m0 c).toArray) rfl ?_;refine aa (v := vb d) rfl ?_;refine f7 h1 rfl rfl fun H2 h2 => ?_;refine aU h2 ?_;exact ap (hk H2 h2.to)
abbrev PI (e n : Nat) : Value := .func (.func n) #[vp e] #[]
abbrev eB (e p : Nat) (nx rv : Value) (t : Tk) : SP :=
 blk e (.cells false [vp p, vi t.who, vi t.x.op, vi t.x.flow, vi t.x.a, vi t.x.b, vi t.s, nx, vi t.i, vi t.obj, vb t.found, rv, vu t.w, vu t.q, vi t.mark, vu t.top])
def xy : Nat → Nat
 | 0 => kV | 2 => iU | 3 => cu | 4 => dn | 5 => dp | 6 => fL | 7 => bA | 8 => kq
 | 9 => iT | 10 => mT | 11 => ky | 12 => iS | 13 => kz | 14 => ko | 15 => mU | 16 => dP
 | 17 => dO | 18 => eO | 20 => km | 21 => iV | 22 => cP | 23 => ks | 24 => kw | _ => mS
def E7 (rp : List Nat) (t : Tk) (v : Value) : Prop := 7 ≤ t.at' → ∃ b, rp[t.obj]? = some b ∧ v = vp b
def eP (e p : Nat) (rp : List Nat) (σ : az) (t : Tk) : SP := ex fun v : Value => pu (E7 rp t v) * (eB e p (PI e (xy t.at')) v t * bT p rp σ)
def eQ (e p : Nat) (rp : List Nat) (r : az × Tk × Bool) : SP := if r.2.2 = true then bT p rp r.1 else eP e p rp r.1 r.2.1
abbrev cZ (r : az × Tk × Bool) : Value := .tuple #[.agg (m0 (if r.2.2 = true then r.2.1.code else 0)).toArray, vb r.2.2]
theorem Lm {e p : Nat} {rp : List Nat} {σ : az} {t : Tk} {R : SP} {H : AH} (h : ac (eP e p rp σ t * R) H) : ∃ v, E7 rp t v ∧ ac (eB e p (PI e (xy t.at')) v t * (bT p rp σ * R)) H := by
 obtain ⟨v, h1⟩ := ac.ex.1 h;rw [ar, ac.pu] at h1;exact ⟨v, h1.1, h1.2.to⟩
theorem FV {e p : Nat} {rp : List Nat} {σ : az} {t : Tk} {R : SP} {H : AH} {v : Value} {n : Nat} (hv : E7 rp t v) (hn : xy t.at' = n) (h : ac (eB e p (PI e n) v t * (bT p rp σ * R)) H) : ac (eP e p rp σ t * R) H := by
 subst hn;exact ac.ex.2 ⟨v, by rw [ar]; exact ac.pu.2 ⟨hv, h.to⟩⟩
section
variable (e p : Nat)
theorem Zb (nx rv : Value) (n : Nat) (t : Tk) : Sp ba [vp e, PI e n] (eB e p nx rv t) (fun _ : Unit => .tuple #[.agg (m0 0).toArray, vb false]) (fun _ => eB e p (PI e n) rv t) := by
 refine aY (RX _ _) fun R H h => ?_;refine bj h fun b H1 h1 => ?_;refine bk h1 ae rfl rfl fun H2 h2 => ?_;refine j9 ?_;refine f7 h2 rfl rfl fun H3 h3 => ?_;refine aU h3 ?_;exact ap ⟨(), rfl, h3.to⟩
theorem aaW (rp : List Nat) (σ : az) (step who code : Int) (hp : σ.pts.length < 1000000) : Sp gO [vp p, vi step, vi who, .agg (m0 code).toArray] (bT p rp σ) (fun _ : Unit => .tuple #[]) (fun _ => bT p rp (σ.note step who code)) := by
 refine aX fun R H h => ?_;obtain ⟨g, hrp, hg, h0⟩ := hM h;unfold aI at h0;refine a9 (fun r => qP _ _ _ _ H) ?_;refine aZ h0 fun b1 H1 h1 => ?_;refine bg ae ?_;refine aN h1 rfl ?_;refine bg ae ?_;refine aN h1 rfl ?_;refine Fl (ek := FX) who h1 ?_;refine aU h1 ?_;refine ag h1 (BB code) fun _ H2 h2 => ?_;refine aG h2 h1 rfl ?_;refine aG h2 h1 rfl ?_;refine V2 who h2 h1 ?_
 have ev : (((σ.places who).map fun n => vi n).getD (vi 0)) = vi ((σ.places who).getD 0) := by cases σ.places who <;> rfl
 rw [ev];refine j9 ?_;refine KG h2 fun b0 H3 h3 => ?_;refine gX (⟨step, who, (σ.places who).getD 0, code⟩ : Pt) h3 rfl ?_ (by omega) fun a cc H4 h4 => ?_
 ·unfold room; omega
 refine bk h4 ae rfl rfl fun H5 h5 => ?_;refine ap ⟨(), rfl, ?_⟩;refine bG { g with pv := .slice a (σ.pts.length + 1) cc } hrp hg ?_;unfold aI az.note;exact h5.to
theorem ta (rp : List Nat) (σ : az) (nx rv : Value) (t : Tk) (now code : Int) (hp : σ.pts.length < 1000000) :
 Sp ku [vp e, vi now, vi code] (eB e p nx rv t * bT p rp σ) (fun _ : Unit => .tuple #[]) (fun _ => eB e p nx rv t * bT p rp (σ.note now t.who code)) := by
 refine aY (Ii _ _ _) fun R H h => ?_;refine aq h ae rfl ?_;refine aq h ae rfl ?_;refine j9 ?_;refine ag h (aaW p rp σ now t.who code hp) fun _ H1 h1 => ?_;exact ap ⟨(), rfl, h1.to⟩
theorem wB (rp : List Nat) (σ : az) (nx rv : Value) (t : Tk) (now code : Int) (hp : σ.pts.length < 1000000) :
 Sp hC [vp e, vi now, vi code] (eB e p nx rv t * bT p rp σ) (fun _ : Unit => .tuple #[.agg (m0 code).toArray, vb true]) (fun _ => eB e p nx rv t * bT p rp (σ.note now t.who code)) := by
 refine aY (C9 _ _ _) fun R H h => ?_;refine bj h fun b H1 h1 => ?_;refine ag h1 (ta e p rp σ nx rv t now code hp) fun _ H2 h2 => ?_;exact nO h2 (s9 (vp e) code) fun H3 h3 => ⟨(), rfl, h3.to⟩
end
theorem NJ {α : Type} {P : SP} {H : AH} {e n g i : Nat} {enc : α → List Value} {l : List α} {s : Value} {Q : Value → AH → Prop} {k : Value → OV} {kk : IntKind} {cs : List Value} (h : ac P H) [r : Rd P s e enc l] [E : Enc enc e] (hi : i < l.length) (hg : g + n ≤ e)
 (hc : ((enc l[i]).drop g).take n = cs) (hk : wp (k (.agg cs.toArray)) Q) : wp (ldN n [.i e (.int kk (i : Int)), .f g] s H k) Q := by
 subst hc;obtain ⟨b, o, ro, row, rfl, h2, h3, h4⟩ := AF (s := s) (enc := enc) (l := l) h hi;unfold ldN;rw [NY hi, Z5];have hm : (i + 1) * e ≤ l.length * e := Nat.mul_le_mul_right _ (by omega);rw [Nat.add_mul] at hm
 have : aB n (oz b (o + i * e + g)) H = some (.agg (((enc l[i]).drop g).take n).toArray) := by
  simp only [aB, sm, dh, be, h2];rw [if_pos (by omega)]
  congr 3
  rw [← Ee E.len l i hi, ← h4, List.drop_take, List.drop_take, List.drop_take, List.drop_drop, List.drop_drop, List.take_take, List.take_take, Nat.min_eq_left (by omega), Nat.min_eq_left (by omega), Nat.add_assoc]
 show wp ((aB n (oz b (o + i * e + g)) H).bind k) Q;rw [this]; exact hk
structure SOk (σ : az) : Prop where
 c : bM σ.c = true
 N : σ.μ.N < 800000
 pts : σ.pts.length < 900000
 V : ∀ l, σ.μ.V l < 18446744073709551616
 obs : σ.obs.length < 900000
 cells : ∀ o, o < σ.obs.length → 1 ≤ (aw σ o).length ∧ (aw σ o).length < 1000
 slot : ∀ s i, σ.μ.V (10, s, i) ≠ 0 → σ.μ.V (10, s, i) % 4294967296 < σ.obs.length
structure eG (σ : az) (t : Tk) : Prop where
 obj : 6 ≤ t.at' ∨ t.at' = 5 ∧ t.found = true → t.obj < σ.obs.length
 s : t.s = (t.x.flow.tmod σ.c.sh + σ.c.sh).tmod σ.c.sh
 i : t.at' < 5 → t.at' ≠ 3 → (t.i : Int) < σ.c.sl
 w : t.w < 18446744073709551616
 c5 : t.at' = 5 → t.found = false → t.code = 5
 c0 : t.at' = 10 ∨ t.at' = 11 ∨ t.at' = 14 ∨ 21 ≤ t.at' → t.code = 0
 ats : t.at' = 0 ∨ t.at' = 2 ∨ t.at' = 3 ∨ t.at' = 4 ∨ t.at' = 5 ∨ t.at' = 6 ∨ t.at' = 7 ∨ t.at' = 8 ∨ t.at' = 9 ∨ t.at' = 10 ∨ t.at' = 11 ∨ t.at' = 12 ∨ t.at' = 13 ∨ t.at' = 14 ∨ t.at' = 15 ∨ t.at' = 16 ∨ t.at' = 17 ∨ t.at' = 18 ∨ t.at' = 20 ∨ t.at' = 21 ∨ t.at' = 22 ∨ t.at' = 23 ∨ t.at' = 24 ∨ t.at' = 25
section
variable (e p : Nat) (rp : List Nat) (g : PIds) (σ : az) (nx rv : Value) (t : Tk) (now : Int)
theorem py (hl : g.rp.length = σ.obs.length) (o : Nat) (ho : o < σ.obs.length) : Sp ej [vp p, vi o] (aI p g σ) (fun _ : Unit => vb true) (fun _ => aI p g σ) := by
 have hz : ((σ.obs.map fun x => x.1).zip g.rp).length = σ.obs.length := by simp [hl]
 refine aX fun R H h => ?_;have h0 := h;unfold aI at h0;refine a9 (fun r => qS _ _ H) ?_;refine aa (wG (by omega)) ?_;refine gs ?_;refine aq h ae rfl ?_;refine gs ?_;refine gD (s := g.ov) h0 ?_;rw [hz];refine gs ?_;refine aa (cJ (by omega)) ?_;refine gs ?_;exact ap ⟨(), rfl, h⟩
theorem wP (hl : g.rp.length = σ.obs.length) (o b : Nat) (ho : o < σ.obs.length) (hb : g.rp[o]? = some b) : Sp ei [vp p, vi o] (aI p g σ) (fun _ : Unit => vp b) (fun _ => aI p g σ) := by
 have hz : ((σ.obs.map fun x => x.1).zip g.rp).length = σ.obs.length := by simp [hl]
 refine aY (qR _ _) fun R H h => ?_;refine ag h (py p g σ hl o ho) fun _ H1 h1 => ?_;refine gs ?_;rw [Bool.not_true];refine gs ?_;refine aq h1 ae rfl ?_;have h2 := h1;unfold aI at h2
 have hb' : g.rp[o]'(by omega) = b := by rw [br (by omega)] at hb; exact fg hb
 refine Fm (v := vp b) (enc := zl) (l := (σ.obs.map fun x : Ob × List Pk => x.1).zip g.rp) h2 (by omega) (by omega) ?_ ?_
 ·show some (vp ((σ.obs.map fun x => x.1).zip g.rp)[o].2) = _
  rw [List.getElem_zip, hb']
 exact ap ⟨(), rfl, h1.to⟩
theorem JR (hl : g.rp.length = σ.obs.length) (who : Int) (o : Nat) (ho : o < σ.obs.length) (hN : σ.μ.N < 800000) : Sp dq [vp p, vi who, vi o] (aI p g σ) (fun v : Value => v) (fun _ => aI p g (σ.mem (σ.μ.acc who 5 (13, (o : Int), 0)))) := by
 have hz : ((σ.obs.map fun x => x.1).zip g.rp).length = σ.obs.length := by simp [hl]
 refine aY (lm _ _ _) fun R H h => ?_;refine bj h fun b H1 h1 => ?_;refine ag h1 (py p g σ hl o ho) fun _ H2 h2 => ?_;refine gs ?_;rw [Bool.not_true];refine gs ?_;refine aq h2 ae rfl ?_;refine j9 ?_;refine ag h2 (KS (p := p) (g := g) (σ := σ) ((Ad g.m σ.μ who (13, (o : Int), 0) (by omega)).imp fun _ R H h => gn (N' := σ.μ.N + 2) (by simp) h)) fun _ H3 h3 => ?_;refine aq h3 ae rfl ?_;have h4 := h3;unfold aI at h4;refine NJ (enc := zl) (l := (σ.obs.map fun x : Ob × List Pk => x.1).zip g.rp) h4 (by omega) (by omega) (show _ = [_, _, _] from rfl) ?_;refine f7 h3 rfl rfl fun H5 h5 => ?_;refine aU h5 ?_;exact ap ⟨_, rfl, h5.to⟩
theorem Ak (who : Int) (hN : σ.μ.N < 800000) : Sp e7 [vp p, vi who] (aI p g σ) (fun _ : Unit => vu (σ.μ.V (2, 0, 0))) (fun _ => aI p g (σ.mem (σ.μ.acc who 1 (2, 0, 0)))) := by
 refine aY (sq _ _) fun R H h => ?_;refine aq h ae rfl ?_;refine j9 ?_;refine ag h (KS (p := p) (g := g) (σ := σ) (vI g.m σ.μ who (2, 0, 0) (by omega))) fun _ H1 h1 => ?_;exact ap ⟨(), rfl, h1.to⟩
theorem AK (b : Bool) (h : tK (σ.μ.V (10, t.s, (t.i : Int))) t.x.flow = b) : aA σ t = { t with i := t.i + 1, found := b, obj := if b = true then σ.μ.V (10, t.s, (t.i : Int)) % 4294967296 else t.obj } := by
 subst h
 rfl
theorem Lp (S : SOk σ) (hi : (t.i : Int) < σ.c.sl) : Sp tU [vp e] (eB e p nx rv t * aI p g σ) (fun _ : Unit => vb (cz σ (aA σ t))) (fun _ => eB e p nx rv (aA σ t) * aI p g (bJ σ t)) := by
 have hc := bE.1 S.c;refine aY (Oe _) fun R H h => ?_;refine aq h ae rfl ?_;refine aq h ae rfl ?_;refine aq h ae rfl ?_;refine aq h ae rfl ?_;refine aq h ae rfl ?_;refine ag h (Ri (p := p) (g := g) (σ := σ) (Hh g.tb g.m σ.c.sh.toNat σ.c.sl.toNat σ.μ t.who t.s t.i (by have := S.N; omega) (S.V _))) fun _ H1 h1 => ?_
 have fin : ∀ (t1 : Tk) (H' : AH), t1.i = t.i + 1 → ac (eB e p nx rv t1 * (aI p g (bJ σ t) * R)) H' → wp (p8 (vp e) (vb false) H') fun v' H' => ∃ _x : Unit, v' = vb (cz σ t1) ∧ ac (eB e p nx rv t1 * aI p g (bJ σ t) * R) H' := by
  intro t1 H' hi1 h';refine aj (C8 _ _ H') ?_;refine bg ae ?_;refine aN h' rfl ?_;refine aq h' ae rfl ?_;refine aq h' ae rfl ?_;refine ag h' (Rj (p := p) (g := g) (σ := bJ σ t) (Hi g.tb g.m σ.c.sh.toNat σ.c.sl.toNat)) fun _ H2 h2 => ?_;refine aG h2 h' (by rfl) ?_;refine aa (v := vb (cz σ t1)) ?_ ?_
  ·rw [yc]
   congr 3
   apply propext;omega
  exact ap ⟨(), rfl, h2.to⟩
 by_cases hv : σ.μ.V (10, t.s, (t.i : Int)) = 0
 ·have e1 : lR (σ.μ.V (10, t.s, (t.i : Int))) = .tuple #[vi 0, vi 0, vb false] := by rw [lR, if_pos hv]
  rw [e1];refine aa (v := vi 0) rfl ?_;refine aa (v := vi 0) rfl ?_;refine aa (v := vb false) rfl ?_;refine aq h1 ae rfl ?_;refine aa (aO (by omega) (by omega)) ?_;rw [show ((t.i : Nat) : Int) + 1 = ((t.i + 1 : Nat) : Int) from by omega];refine bk h1 ae rfl rfl fun H2 h2 => ?_;refine aj (s6 _ _ _ _ _ H2) ?_;refine gs ?_;refine bk h2 ae rfl rfl fun H3 h3 => ?_;refine aq h3 ae rfl ?_;refine gs ?_
  have e2 : aA σ t = { t with i := t.i + 1, found := false } := by
   have : tK (σ.μ.V (10, t.s, (t.i : Int))) t.x.flow = false := by simp [tK, hv]
   exact (AK σ t _ this).trans rfl
  rw [e2];exact fin _ H3 rfl h3.to
 ·have e1 : lR (σ.μ.V (10, t.s, (t.i : Int))) = .tuple #[vi ((σ.μ.V (10, t.s, (t.i : Int)) / 4294967296 : Nat) - 1), vi (σ.μ.V (10, t.s, (t.i : Int)) % 4294967296 : Nat), vb true] := by rw [lR, if_neg hv]
  rw [e1];refine aa (v := vi ((σ.μ.V (10, t.s, (t.i : Int)) / 4294967296 : Nat) - 1)) rfl ?_;refine aa (v := vi (σ.μ.V (10, t.s, (t.i : Int)) % 4294967296 : Nat)) rfl ?_;refine aa (v := vb true) rfl ?_;refine aq h1 ae rfl ?_;refine aa (aO (by omega) (by omega)) ?_;rw [show ((t.i : Nat) : Int) + 1 = ((t.i + 1 : Nat) : Int) from by omega];refine bk h1 ae rfl rfl fun H2 h2 => ?_;refine aj (s6 _ _ _ _ _ H2) ?_;refine gs ?_;refine aq h2 (gf (bR (bR bU))) rfl ?_
  by_cases hf : ((σ.μ.V (10, t.s, (t.i : Int)) / 4294967296 : Nat) : Int) - 1 = t.x.flow
  ·refine lU ?_
   refine aa (bv hf) ?_;refine gs ?_;refine bk h2 ae rfl rfl fun H3 h3 => ?_;refine aq h3 ae rfl ?_;refine gs ?_;refine bk h3 ae rfl rfl fun H4 h4 => ?_
   have e2 : aA σ t = { t with i := t.i + 1, found := true, obj := σ.μ.V (10, t.s, (t.i : Int)) % 4294967296 } := by
    have : tK (σ.μ.V (10, t.s, (t.i : Int))) t.x.flow = true := ia ⟨hv, hf⟩;exact (AK σ t _ this).trans rfl
   rw [e2];exact fin _ H4 rfl h4.to
  ·refine lU ?_
   refine aa (aR hf) ?_;refine gs ?_;refine bk h2 ae rfl rfl fun H3 h3 => ?_;refine aq h3 ae rfl ?_;refine gs ?_
   have e2 : aA σ t = { t with i := t.i + 1, found := false } := by
    have : tK (σ.μ.V (10, t.s, (t.i : Int))) t.x.flow = false := hZ fun q => hf q.2;exact (AK σ t _ this).trans rfl
   rw [e2];exact fin _ H3 rfl h3.to
end
theorem gC {rp : List Nat} {t : Tk} {v : Value} (h : t.at' < 7) : E7 rp t v := fun h' => by omega
theorem b8 {rp : List Nat} {t : Tk} {b : Nat} (h : rp[t.obj]? = some b) : E7 rp t (vp b) := fun _ => ⟨b, h, rfl⟩
section
variable {e p : Nat} {rp : List Nat} {g : PIds} {σ σ' : az} {t t' : Tk} {R P : SP} {H : AH} {r : az × Tk × Bool} {v : Value} {n : Nat} {c : Int}
theorem cO (h : ac (eP e p rp σ t * R) H) : ∃ (nx rv : Value) (g : PIds), E7 rp t rv ∧ g.rp = rp ∧ rp.length = σ.obs.length ∧ nx = PI e (xy t.at') ∧ ac (eB e p nx rv t * (aI p g σ * R)) H := by
 obtain ⟨rv, h1, h2⟩ := Lm h;obtain ⟨g, h3, h4, h5⟩ := hM (p := p) (rp := rp) (σ := σ) (R := eB e p (PI e (xy t.at')) rv t * R) (H := H) h2.to;exact ⟨_, rv, g, h1, h3, h4, rfl, h5.to⟩
theorem Dc (hr : r = (σ', t', false)) (hv : E7 rp t' v) (hn : xy t'.at' = n) (h : ac (eB e p (PI e n) v t' * (bT p rp σ' * R)) H) :
 ∃ x : Unit, (.tuple #[.agg (m0 0).toArray, vb false]) = cZ r ∧ ac (eQ e p rp r * R) H := by
 subst hr;exact ⟨(), rfl, FV hv hn h⟩
theorem cR (hr : r = (σ', t', false)) (hv : E7 g.rp t' v) (hn : xy t'.at' = n) (hl : g.rp.length = σ'.obs.length) (h : ac (eB e p (PI e n) v t' * (aI p g σ' * R)) H) :
 ∃ x : Unit, (.tuple #[.agg (m0 0).toArray, vb false]) = cZ r ∧ ac (eQ e p g.rp r * R) H := by
 refine Dc hr hv hn ?_;have h1 := bG (p := p) (rp := g.rp) (σ := σ') (R := eB e p (PI e n) v t' * R) g rfl hl h.to;exact h1.to
theorem zk (hr : r = (σ', t', true)) (hc : t'.code = c) (h : ac (bT p rp σ' * R) H) :
 ∃ x : Unit, (.tuple #[.agg (m0 c).toArray, vb true]) = cZ r ∧ ac (eQ e p rp r * R) H := by
 subst hr;subst hc;exact ⟨(), rfl, h⟩
theorem fD (nx rv : Value) (t' : Tk) (n : Nat) {b : Nat} {Q : Value → AH → Prop} (h : ac P H) [fr : Fr P (eB e p nx rv t' * blk b (.cells false [vi 0, .slice none 0 0, vi 0, vw 0])) R]
 (hk : ∀ H', ac (eB e p (PI e n) rv t' * R) H' → Q (.tuple #[.agg (m0 0).toArray, vb false]) H') :
 wp ((FF ba [vp e, PI e n] H).bind fun r2 => (ai r2.1 0).bind fun v3 => (ai r2.1 1).bind fun v4 => (dg 4 (vp b) v3 r2.2).bind fun H5 => (aB 4 (vp b) H5).bind fun v6 => some (Value.tuple #[v6, v4], H5)) Q :=
 nO h (Zb e p nx rv n t') hk
end
section
variable (e p : Nat) (rp : List Nat) (σ : az) (t : Tk) (now : Int)
theorem QP (S : SOk σ) (T : eG σ t) (hat : t.at' = 3) : Sp cu [vp e, vi now] (eP e p rp σ t) (fun _ : Unit => cZ (ah σ t now)) (fun _ => eQ e p rp (ah σ t now)) := by
 have hN : σ.μ.N < 1099511627000 := by have := S.N; omega
 refine aX fun R H h => ?_;obtain ⟨nx, rv, g, hv, rfl, hl, _, h0⟩ := cO h;refine a9 (fun r => Ig _ _ H) ?_;refine bj h0 fun b1 H1 h1 => ?_;refine aq h1 ae rfl ?_;refine aq h1 ae rfl ?_;refine aq h1 ae rfl ?_;refine aq h1 ae rfl ?_;refine ag h1 (Ri (p := p) (g := g) (σ := σ) (KB g.tb g.m σ.c.sh.toNat σ.c.sl.toNat σ.μ t.who t.s hN)) fun _ H2 h2 => ?_
 by_cases hw : σ.μ.V (8, t.s, 0) = 0
 ·rw [ia hw]
  refine gs ?_;rw [Bool.not_true];refine gs ?_;refine bk h2 ae rfl rfl fun H3 h3 => ?_;refine fD (e := e) (p := p) nx rv { t with at' := 4, i := 0 } dn h3 fun H9 h9 => ?_;exact cR (σ' := σ.mem (σ.μ.swp t.who (8, t.s, 0) 0 1)) (t' := { t with at' := 4, i := 0 }) (v := rv) (n := dn) (by simp only [ah, hat]; rw [if_pos hw]) (gC (by simp)) rfl hl h9.to
 ·rw [hZ hw]
  refine gs ?_;rw [Bool.not_false];refine gs ?_;refine fD (e := e) (p := p) nx rv t cu h2 fun H9 h9 => ?_;exact cR (σ' := σ.mem (σ.μ.swp t.who (8, t.s, 0) 0 1)) (t' := t) (v := rv) (n := cu) (by simp only [ah, hat]; rw [if_neg hw]) (gC (by omega)) (by rw [hat]; rfl) hl h9.to
theorem Hb (S : SOk σ) (T : eG σ t) (hat : t.at' = 5) : Sp dp [vp e, vi now] (eP e p rp σ t) (fun _ : Unit => cZ (ah σ t now)) (fun _ => eQ e p rp (ah σ t now)) := by
 have hN : σ.μ.N < 1099511627000 := by have := S.N; omega
 refine aX fun R H h => ?_;obtain ⟨nx, rv, g, hv, rfl, hl, _, h0⟩ := cO h;refine a9 (fun r => Db _ _ H) ?_;refine bj h0 fun b1 H1 h1 => ?_;refine aq h1 ae rfl ?_;refine aq h1 ae rfl ?_;refine aq h1 ae rfl ?_;refine aq h1 ae rfl ?_;refine ag h1 (Ri (p := p) (g := g) (σ := σ) (Fh g.tb g.m σ.c.sh.toNat σ.c.sl.toNat σ.μ t.who t.s hN)) fun _ H2 h2 => ?_;refine aq h2 ae rfl ?_;cases hf : t.found
 ·refine gs ?_
  rw [Bool.not_false];refine gs ?_;refine nO h2 (s9 (vp e) 5) fun H9 h9 => ?_;exact zk (σ' := σ.mem ((σ.μ.acc t.who 2 (8, t.s, 0)).put (8, t.s, 0) 0)) (t' := { t with at' := 6 }) (by simp only [ah, hat, hf]; rfl) (T.c5 hat hf) (bG (p := p) (rp := g.rp) (R := R) g rfl hl h9.to)
 ·refine gs ?_
  rw [Bool.not_true];refine gs ?_;refine fD (e := e) (p := p) nx rv { t with at' := 6 } fL h2 fun H9 h9 => ?_;exact cR (σ' := σ.mem ((σ.μ.acc t.who 2 (8, t.s, 0)).put (8, t.s, 0) 0)) (t' := { t with at' := 6 }) (v := rv) (n := fL) (by simp only [ah, hat, hf]; rfl) (gC (by simp)) rfl hl h9.to
theorem QQ (S : SOk σ) (T : eG σ t) (hat : t.at' = 6) : Sp fL [vp e, vi now] (eP e p rp σ t) (fun _ : Unit => cZ (ah σ t now)) (fun _ => eQ e p rp (ah σ t now)) := by
 have hN : σ.μ.N < 1099511627000 := by have := S.N; omega
 refine aX fun R H h => ?_;obtain ⟨nx, rv, g, hv, rfl, hl, _, h0⟩ := cO h;have ho := T.obj (.inl (by omega));obtain ⟨b, hb⟩ : ∃ b, g.rp[t.obj]? = some b := ⟨_, br (by omega)⟩;refine a9 (fun r => Ih _ _ H) ?_;refine bj h0 fun b1 H1 h1 => ?_;refine aq h1 ae rfl ?_;refine aq h1 ae rfl ?_;refine aq h1 ae rfl ?_;refine ag h1 (JR p g σ hl t.who t.obj ho S.N) fun _ H2 h2 => ?_;refine aq h2 ae rfl ?_;refine aq h2 ae rfl ?_;refine ag h2 (wP p g (σ.mem (σ.μ.acc t.who 5 (13, (t.obj : Int), 0))) hl t.obj b ho hb) fun _ H3 h3 => ?_;refine bk h3 ae rfl rfl fun H4 h4 => ?_;refine fD (e := e) (p := p) nx (vp b) { t with at' := 7 } bA h4 fun H9 h9 => ?_;exact cR (σ' := σ.mem (σ.μ.acc t.who 5 (13, (t.obj : Int), 0))) (t' := { t with at' := 7 }) (v := (vp b)) (n := bA) (by simp only [ah, hat]) (b8 hb) rfl hl h9.to
theorem QU (S : SOk σ) (T : eG σ t) (hat : t.at' = 7) : Sp bA [vp e, vi now] (eP e p rp σ t) (fun _ : Unit => cZ (ah σ t now)) (fun _ => eQ e p rp (ah σ t now)) := by
 have hN : σ.μ.N < 1099511627000 := by have := S.N; omega
 refine aX fun R H h => ?_;obtain ⟨nx, rv, g, hv, rfl, hl, _, h0⟩ := cO h;obtain ⟨b, hb, rfl⟩ := hv (by omega);have ho := T.obj (.inl (by omega));refine a9 (fun r => In _ _ H) ?_;refine bj h0 fun b1 H1 h1 => ?_;refine aq h1 ae rfl ?_;refine aq h1 ae rfl ?_;refine ag h1 (jX (p := p) hl ho hb (wg g.m t.obj b (aw σ t.obj) σ.μ t.who hN)) fun _ H2 h2 => ?_;refine bk h2 ae rfl rfl fun H3 h3 => ?_;refine aq h3 ae rfl ?_;refine ag h3 (nP _ (S.V _)) fun _ H4 h4 => ?_
 by_cases hw : aH (σ.μ.V (11, (t.obj : Int), 0)) = 2
 ·refine aa (bv hw) ?_
  refine gs ?_;refine fD (e := e) (p := p) nx (vp b) { t with w := σ.μ.V (11, (t.obj : Int), 0), at' := 3 } cu h4 fun H9 h9 => ?_;exact cR (σ' := jW σ t) (t' := { t with w := σ.μ.V (11, (t.obj : Int), 0), at' := 3 }) (v := (vp b)) (n := cu) (by simp only [ah, hat]; rw [if_pos hw]) (gC (by simp)) rfl hl h9.to
 ·refine aa (aR hw) ?_
  refine gs ?_;refine fD (e := e) (p := p) nx (vp b) { t with w := σ.μ.V (11, (t.obj : Int), 0), at' := 8 } kq h4 fun H9 h9 => ?_;exact cR (σ' := jW σ t) (t' := { t with w := σ.μ.V (11, (t.obj : Int), 0), at' := 8 }) (v := (vp b)) (n := kq) (by simp only [ah, hat]; rw [if_neg hw]) (b8 hb) rfl hl h9.to
theorem AU (S : SOk σ) (T : eG σ t) (hat : t.at' = 16) : Sp dP [vp e, vi now] (eP e p rp σ t) (fun _ : Unit => cZ (ah σ t now)) (fun _ => eQ e p rp (ah σ t now)) := by
 have hN : σ.μ.N < 1099511627000 := by have := S.N; omega
 refine aX fun R H h => ?_;obtain ⟨nx, rv, g, hv, rfl, hl, _, h0⟩ := cO h;obtain ⟨b, hb, rfl⟩ := hv (by omega);have ho := T.obj (.inl (by omega));refine a9 (fun r => xd _ _ H) ?_;refine bj h0 fun b1 H1 h1 => ?_;refine aq h1 ae rfl ?_;refine aq h1 ae rfl ?_;refine ag h1 (jX (p := p) hl ho hb (wg g.m t.obj b (aw σ t.obj) σ.μ t.who hN)) fun _ H2 h2 => ?_;refine bk h2 ae rfl rfl fun H3 h3 => ?_;refine aq h3 ae rfl ?_;refine ag h3 (nP _ (S.V _)) fun _ H4 h4 => ?_
 by_cases hw : aH (σ.μ.V (11, (t.obj : Int), 0)) = 2
 ·refine aa (bv hw) ?_
  refine gs ?_;refine fD (e := e) (p := p) nx (vp b) { t with w := σ.μ.V (11, (t.obj : Int), 0), at' := 3 } cu h4 fun H9 h9 => ?_;exact cR (σ' := jW σ t) (t' := { t with w := σ.μ.V (11, (t.obj : Int), 0), at' := 3 }) (v := (vp b)) (n := cu) (by simp only [ah, hat]; rw [if_pos hw]) (gC (by simp)) rfl hl h9.to
 ·refine aa (aR hw) ?_
  refine gs ?_;refine fD (e := e) (p := p) nx (vp b) { t with w := σ.μ.V (11, (t.obj : Int), 0), at' := 17 } dO h4 fun H9 h9 => ?_;exact cR (σ' := jW σ t) (t' := { t with w := σ.μ.V (11, (t.obj : Int), 0), at' := 17 }) (v := (vp b)) (n := dO) (by simp only [ah, hat]; rw [if_neg hw]) (b8 hb) rfl hl h9.to
theorem QM (S : SOk σ) (T : eG σ t) (hat : t.at' = 8) : Sp kq [vp e, vi now] (eP e p rp σ t) (fun _ : Unit => cZ (ah σ t now)) (fun _ => eQ e p rp (ah σ t now)) := by
 have hN : σ.μ.N < 1099511627000 := by have := S.N; omega
 refine aX fun R H h => ?_;obtain ⟨nx, rv, g, hv, rfl, hl, _, h0⟩ := cO h;obtain ⟨b, hb, rfl⟩ := hv (by omega);have ho := T.obj (.inl (by omega));refine a9 (fun r => Ie _ _ H) ?_;refine bj h0 fun b1 H1 h1 => ?_;refine aq h1 ae rfl ?_;refine aq h1 ae rfl ?_;refine ag h1 (jX (p := p) hl ho hb (CE g.m t.obj b (aw σ t.obj) σ.μ t.who hN)) fun _ H2 h2 => ?_;refine aj (Bo _ _ _ _ H2) ?_;refine aq h2 ae rfl ?_;refine aq h2 ae rfl ?_;refine ag h2 (KT (p := p) (σ := ij σ t) hl ho hb (CD g.m t.obj b (aw σ t.obj) t.w (σ.μ.V (12, (t.obj : Int), 0)) T.w (S.cells _ ho).2)) fun _ H3 h3 => ?_;cases hf : kQ t.w (σ.μ.V (12, (t.obj : Int), 0)) (aw σ t.obj).length
 ·refine gs ?_
  refine aq h3 ae rfl ?_;refine ag h3 (nP _ T.w) fun _ H4 h4 => ?_
  by_cases hw : aH t.w = 1
  ·refine aa (bv hw) ?_
   refine gs ?_;refine fD (e := e) (p := p) nx (vp b) { t with at' := 9 } iT h4 fun H9 h9 => ?_;exact cR (σ' := ij σ t) (t' := { t with at' := 9 }) (v := (vp b)) (n := iT) (by simp only [ah, hat, fU, hf]; rw [if_pos hw]; rfl) (b8 hb) rfl hl h9.to
  ·refine aa (aR hw) ?_
   refine gs ?_;refine aj (Bp _ _ _ H4) ?_;refine fD (e := e) (p := p) nx (vp b) { t with at' := 12 } iS h4 fun H9 h9 => ?_;exact cR (σ' := ij σ t) (t' := { t with at' := 12 }) (v := (vp b)) (n := iS) (by simp only [ah, hat, fU, hf]; rw [if_neg hw]; rfl) (b8 hb) rfl hl h9.to
 ·refine gs ?_
  refine fD (e := e) (p := p) nx (vp b) { t with at' := 15 } mU h3 fun H9 h9 => ?_;exact cR (σ' := ij σ t) (t' := { t with at' := 15 }) (v := (vp b)) (n := mU) (by simp only [ah, hat, fU, hf]; rfl) (b8 hb) rfl hl h9.to
theorem Kw (S : SOk σ) (T : eG σ t) (hat : t.at' = 9) : Sp iT [vp e, vi now] (eP e p rp σ t) (fun _ : Unit => cZ (ah σ t now)) (fun _ => eQ e p rp (ah σ t now)) := by
 have hN : σ.μ.N < 1099511627000 := by have := S.N; omega
 refine aX fun R H h => ?_;obtain ⟨nx, rv, g, hv, rfl, hl, _, h0⟩ := cO h;obtain ⟨b, hb, rfl⟩ := hv (by omega);have ho := T.obj (.inl (by omega));refine a9 (fun r => FS _ _ H) ?_;refine bj h0 fun b1 H1 h1 => ?_;refine aq h1 ae rfl ?_;refine aq h1 ae rfl ?_;refine aq h1 ae rfl ?_;refine ag h1 (jX (p := p) hl ho hb (AJ g.m t.obj b (aw σ t.obj) σ.μ t.who t.w T.w hN)) fun _ H2 h2 => ?_;cases hw : cG σ.μ t.obj t.w (aL t.w 0)
 ·refine gs ?_
  rw [Bool.not_false];refine gs ?_;refine fD (e := e) (p := p) nx (vp b) { t with at' := 7 } bA h2 fun H9 h9 => ?_;exact cR (σ' := σ.mem (σ.μ.turn t.who t.obj t.w (aL t.w 0))) (t' := { t with at' := 7 }) (v := (vp b)) (n := bA) (by simp only [ah, hat, hw]; rfl) (b8 hb) rfl hl h9.to
 ·refine gs ?_
  rw [Bool.not_true];refine gs ?_;have k2 := bG (p := p) (rp := g.rp) (σ := σ.mem (σ.μ.turn t.who t.obj t.w (aL t.w 0))) (R := eB e p nx (vp b) t * (blk b1 (.cells false [vi 0, .slice none 0 0, vi 0, vw 0]) * R)) g rfl hl h2.to;refine ag k2 (ta e p g.rp (σ.mem (σ.μ.turn t.who t.obj t.w (aL t.w 0))) nx (vp b) t now 0 (by have := S.pts; show σ.pts.length < _; omega)) fun _ H3 h3 => ?_;refine fD (e := e) (p := p) nx (vp b) { t with at' := 10, code := 0 } mT h3 fun H9 h9 => ?_;exact Dc (σ' := (σ.mem (σ.μ.turn t.who t.obj t.w (aL t.w 0))).note now t.who 0) (t' := { t with at' := 10, code := 0 }) (v := (vp b)) (n := mT) (by simp only [ah, hat, hw]; rfl) (b8 hb) rfl h9.to
theorem QT (S : SOk σ) (T : eG σ t) (hat : t.at' = 13) : Sp kz [vp e, vi now] (eP e p rp σ t) (fun _ : Unit => cZ (ah σ t now)) (fun _ => eQ e p rp (ah σ t now)) := by
 have hN : σ.μ.N < 1099511627000 := by have := S.N; omega
 refine aX fun R H h => ?_;obtain ⟨nx, rv, g, hv, rfl, hl, _, h0⟩ := cO h;obtain ⟨b, hb, rfl⟩ := hv (by omega);have ho := T.obj (.inl (by omega));refine a9 (fun r => Im _ _ H) ?_;refine bj h0 fun b1 H1 h1 => ?_;refine aq h1 ae rfl ?_;refine aq h1 ae rfl ?_;refine aq h1 ae rfl ?_;refine ag h1 (jX (p := p) hl ho hb (AJ g.m t.obj b (aw σ t.obj) σ.μ t.who t.w T.w hN)) fun _ H2 h2 => ?_;cases hw : cG σ.μ t.obj t.w (aL t.w 0)
 ·refine gs ?_
  rw [Bool.not_false];refine gs ?_;refine fD (e := e) (p := p) nx (vp b) { t with at' := 20 } km h2 fun H9 h9 => ?_;exact cR (σ' := σ.mem (σ.μ.turn t.who t.obj t.w (aL t.w 0))) (t' := { t with at' := 20 }) (v := (vp b)) (n := km) (by simp only [ah, hat, hw]; rfl) (b8 hb) rfl hl h9.to
 ·refine gs ?_
  rw [Bool.not_true];refine gs ?_;have k2 := bG (p := p) (rp := g.rp) (σ := σ.mem (σ.μ.turn t.who t.obj t.w (aL t.w 0))) (R := eB e p nx (vp b) t * (blk b1 (.cells false [vi 0, .slice none 0 0, vi 0, vw 0]) * R)) g rfl hl h2.to;refine ag k2 (ta e p g.rp (σ.mem (σ.μ.turn t.who t.obj t.w (aL t.w 0))) nx (vp b) t now 0 (by have := S.pts; show σ.pts.length < _; omega)) fun _ H3 h3 => ?_;refine fD (e := e) (p := p) nx (vp b) { t with at' := 14, code := 0 } ko h3 fun H9 h9 => ?_;exact Dc (σ' := (σ.mem (σ.μ.turn t.who t.obj t.w (aL t.w 0))).note now t.who 0) (t' := { t with at' := 14, code := 0 }) (v := (vp b)) (n := ko) (by simp only [ah, hat, hw]; rfl) (b8 hb) rfl h9.to
theorem yw (σ : az) (t : Tk) : dL σ t = { σ with μ := σ.μ.acc t.who 6 (16, (t.obj : Int), ((ay t.w % (aw σ t.obj).length : Nat) : Int)), obs := σ.obs.modify t.obj fun q => (q.1, (aw σ t.obj).set (ay t.w % (aw σ t.obj).length) ⟨t.x.flow, t.x.a, t.x.b⟩) } := by
 have eo : (σ.obs.modify t.obj fun q => (q.1, q.2.set (ay t.w % (aw σ t.obj).length) (⟨t.x.flow, t.x.a, t.x.b⟩ : Pk))) = σ.obs.modify t.obj fun q => (q.1, (aw σ t.obj).set (ay t.w % (aw σ t.obj).length) ⟨t.x.flow, t.x.a, t.x.b⟩) := by
  apply List.ext_getElem?;intro j;rw [List.getElem?_modify, List.getElem?_modify]
  cases hj : σ.obs[j]? with
  | none => rfl
  | some q =>
   show some (if t.obj = j then _ else q) = some (if t.obj = j then _ else q)
   by_cases e : t.obj = j
   ·subst e
    rw [if_pos rfl, if_pos rfl];unfold aw;rw [hj]; rfl
   ·rw [if_neg e, if_neg e]
 exact congrArg (fun o => ({ σ with μ := σ.μ.acc t.who 6 (16, (t.obj : Int), ((ay t.w % (aw σ t.obj).length : Nat) : Int)), obs := o } : az)) eo
theorem Lq (S : SOk σ) (T : eG σ t) (nx : Value) (g : PIds) (b : Nat) (hl : g.rp.length = σ.obs.length) (ho : t.obj < σ.obs.length) (hb : g.rp[t.obj]? = some b) :
 Sp tV [vp e] (eB e p nx (vp b) t * aI p g σ) (fun _ : Unit => .tuple #[]) (fun _ => eB e p nx (vp b) t * aI p g (dL σ t)) := by
 have hN : σ.μ.N < 1099511627000 := by have := S.N; omega
 refine aY (Of _) fun R H h => ?_;refine bg ae ?_;refine aN h rfl ?_;refine bg ae ?_;refine aN h rfl ?_;refine aq h ae rfl ?_;refine ag h (jb t.w T.w) fun _ H1 h1 => ?_;refine aG h1 h (by rfl) ?_;refine aG h1 h (by rfl) ?_;refine bg (gf (bR (bR bU))) ?_;refine aN h1 rfl ?_;refine aG h h1 (by rfl) ?_;refine bg (gf (bR (bR bU))) ?_;refine aN h1 rfl ?_;refine aG h h1 (by rfl) ?_;refine bg (gf (bR (bR bU))) ?_;refine aN h1 rfl ?_;refine aG h h1 (by rfl) ?_;refine j9 ?_;refine ag h1 (Rh (p := p) hl ho hb (Vk g.m t.obj b (aw σ t.obj) σ.μ t.who (ay t.w) ⟨t.x.flow, t.x.a, t.x.b⟩ (S.cells _ ho) hN)) fun _ H2 h2 => ?_;refine ap ⟨(), rfl, ?_⟩;rw [yw];exact h2.to
theorem il (σ : az) (t : Tk) : (dL σ t).obs.length = σ.obs.length := by unfold dL; simp
theorem VF (S : SOk σ) (T : eG σ t) (hat : t.at' = 10) : Sp mT [vp e, vi now] (eP e p rp σ t) (fun _ : Unit => cZ (ah σ t now)) (fun _ => eQ e p rp (ah σ t now)) := by
 have hN : σ.μ.N < 1099511627000 := by have := S.N; omega
 refine aX fun R H h => ?_;obtain ⟨nx, rv, g, hv, rfl, hl, _, h0⟩ := cO h;obtain ⟨b, hb, rfl⟩ := hv (by omega);have ho := T.obj (.inl (by omega));refine a9 (fun r => Og _ _ H) ?_;refine bj h0 fun b1 H1 h1 => ?_;refine ag h1 (Lq e p σ t S T nx g b hl ho hb) fun _ H2 h2 => ?_;refine fD (e := e) (p := p) nx (vp b) { t with at' := 11 } ky h2 fun H9 h9 => ?_;exact cR (σ' := dL σ t) (t' := { t with at' := 11 }) (v := (vp b)) (n := ky) (by simp only [ah, hat]) (b8 hb) rfl (by rw [il]; exact hl) h9.to
theorem QL (S : SOk σ) (T : eG σ t) (hat : t.at' = 14) : Sp ko [vp e, vi now] (eP e p rp σ t) (fun _ : Unit => cZ (ah σ t now)) (fun _ => eQ e p rp (ah σ t now)) := by
 have hN : σ.μ.N < 1099511627000 := by have := S.N; omega
 refine aX fun R H h => ?_;obtain ⟨nx, rv, g, hv, rfl, hl, _, h0⟩ := cO h;obtain ⟨b, hb, rfl⟩ := hv (by omega);have ho := T.obj (.inl (by omega));refine a9 (fun r => Ic _ _ H) ?_;refine bj h0 fun b1 H1 h1 => ?_;refine ag h1 (Lq e p σ t S T nx g b hl ho hb) fun _ H2 h2 => ?_;refine fD (e := e) (p := p) nx (vp b) { t with at' := 21 } iV h2 fun H9 h9 => ?_;exact cR (σ' := dL σ t) (t' := { t with at' := 21 }) (v := (vp b)) (n := iV) (by simp only [ah, hat]) (b8 hb) rfl (by rw [il]; exact hl) h9.to
theorem QS (S : SOk σ) (T : eG σ t) (hat : t.at' = 11) : Sp ky [vp e, vi now] (eP e p rp σ t) (fun _ : Unit => cZ (ah σ t now)) (fun _ => eQ e p rp (ah σ t now)) := by
 have hN : σ.μ.N < 1099511627000 := by have := S.N; omega
 refine aX fun R H h => ?_;obtain ⟨nx, rv, g, hv, rfl, hl, _, h0⟩ := cO h;obtain ⟨b, hb, rfl⟩ := hv (by omega);have ho := T.obj (.inl (by omega));refine a9 (fun r => Il _ _ H) ?_;refine bj h0 fun b1 H1 h1 => ?_;refine bg ae ?_;refine aN h1 rfl ?_;refine bg ae ?_;refine aN h1 rfl ?_;refine aq h1 ae rfl ?_;refine ag h1 (jb t.w T.w) fun _ H2 h2 => ?_;refine aG h2 h1 (by rfl) ?_;refine aG h2 h1 (by rfl) ?_;have hwc := d7 t.w;refine ag h2 (jX (p := p) hl ho hb (CF g.m t.obj b (aw σ t.obj) σ.μ t.who (ay t.w) (by omega) (S.cells _ ho) hN)) fun _ H3 h3 => ?_;refine nO h3 (s9 (vp e) 0) fun H9 h9 => ?_;exact zk (σ' := wU σ t) (t' := t) (by simp only [ah, hat]) (T.c0 (by omega)) (bG (p := p) (rp := g.rp) (R := R) g rfl hl h9.to)
theorem Ky (S : SOk σ) (T : eG σ t) (hat : t.at' = 21) : Sp iV [vp e, vi now] (eP e p rp σ t) (fun _ : Unit => cZ (ah σ t now)) (fun _ => eQ e p rp (ah σ t now)) := by
 have hN : σ.μ.N < 1099511627000 := by have := S.N; omega
 refine aX fun R H h => ?_;obtain ⟨nx, rv, g, hv, rfl, hl, _, h0⟩ := cO h;obtain ⟨b, hb, rfl⟩ := hv (by omega);have ho := T.obj (.inl (by omega));refine a9 (fun r => FU _ _ H) ?_;refine bj h0 fun b1 H1 h1 => ?_;refine bg ae ?_;refine aN h1 rfl ?_;refine bg ae ?_;refine aN h1 rfl ?_;refine aq h1 ae rfl ?_;refine ag h1 (jb t.w T.w) fun _ H2 h2 => ?_;refine aG h2 h1 (by rfl) ?_;refine aG h2 h1 (by rfl) ?_;have hwc := d7 t.w;refine ag h2 (jX (p := p) hl ho hb (CF g.m t.obj b (aw σ t.obj) σ.μ t.who (ay t.w) (by omega) (S.cells _ ho) hN)) fun _ H3 h3 => ?_;refine fD (e := e) (p := p) nx (vp b) { t with at' := 22 } cP h3 fun H9 h9 => ?_;exact cR (σ' := wU σ t) (t' := { t with at' := 22 }) (v := (vp b)) (n := cP) (by simp only [ah, hat]) (b8 hb) rfl hl h9.to
theorem Kv (S : SOk σ) (T : eG σ t) (hat : t.at' = 12) : Sp iS [vp e, vi now] (eP e p rp σ t) (fun _ : Unit => cZ (ah σ t now)) (fun _ => eQ e p rp (ah σ t now)) := by
 have hN : σ.μ.N < 1099511627000 := by have := S.N; omega
 refine aX fun R H h => ?_;obtain ⟨nx, rv, g, hv, rfl, hl, _, h0⟩ := cO h;obtain ⟨b, hb, rfl⟩ := hv (by omega);have ho := T.obj (.inl (by omega));refine a9 (fun r => FR _ _ H) ?_;refine bj h0 fun b1 H1 h1 => ?_;refine aq h1 ae rfl ?_;refine aq h1 ae rfl ?_;refine aq h1 ae rfl ?_;refine ag h1 (sP (p := p) (g := g) (σ := σ) (Gr g.ib g.m g.nm σ.c σ.nx σ.μ t.who hN)) fun _ H2 h2 => ?_;refine fD (e := e) (p := p) nx (vp b) { t with at' := 13 } kz h2 fun H9 h9 => ?_;exact cR (σ' := σ.mem (σ.μ.cnt t.who (3, 0, 0) 4294967296)) (t' := { t with at' := 13 }) (v := (vp b)) (n := kz) (by simp only [ah, hat]) (b8 hb) rfl hl h9.to
theorem QJ (S : SOk σ) (T : eG σ t) (hat : t.at' = 20) : Sp km [vp e, vi now] (eP e p rp σ t) (fun _ : Unit => cZ (ah σ t now)) (fun _ => eQ e p rp (ah σ t now)) := by
 have hN : σ.μ.N < 1099511627000 := by have := S.N; omega
 refine aX fun R H h => ?_;obtain ⟨nx, rv, g, hv, rfl, hl, _, h0⟩ := cO h;obtain ⟨b, hb, rfl⟩ := hv (by omega);have ho := T.obj (.inl (by omega));refine a9 (fun r => Ib _ _ H) ?_;refine bj h0 fun b1 H1 h1 => ?_;refine aq h1 ae rfl ?_;refine aq h1 ae rfl ?_;refine aq h1 ae rfl ?_;refine ag h1 (sP (p := p) (g := g) (σ := σ) (Cd g.ib g.m g.nm σ.c σ.nx σ.μ t.who hN)) fun _ H2 h2 => ?_;refine fD (e := e) (p := p) nx (vp b) { t with at' := 7 } bA h2 fun H9 h9 => ?_;exact cR (σ' := σ.mem (σ.μ.cnt t.who (3, 0, 0) 1)) (t' := { t with at' := 7 }) (v := (vp b)) (n := bA) (by simp only [ah, hat]) (b8 hb) rfl hl h9.to
theorem VE (S : SOk σ) (T : eG σ t) (hat : t.at' = 25) : Sp mS [vp e, vi now] (eP e p rp σ t) (fun _ : Unit => cZ (ah σ t now)) (fun _ => eQ e p rp (ah σ t now)) := by
 have hN : σ.μ.N < 1099511627000 := by have := S.N; omega
 refine aX fun R H h => ?_;obtain ⟨nx, rv, g, hv, rfl, hl, _, h0⟩ := cO h;obtain ⟨b, hb, rfl⟩ := hv (by omega);have ho := T.obj (.inl (by omega));refine a9 (fun r => Od _ _ H) ?_;refine bj h0 fun b1 H1 h1 => ?_;refine aq h1 ae rfl ?_;refine aq h1 ae rfl ?_;refine aq h1 ae rfl ?_;refine ag h1 (sP (p := p) (g := g) (σ := σ) (Cd g.ib g.m g.nm σ.c σ.nx σ.μ t.who hN)) fun _ H2 h2 => ?_;refine nO h2 (s9 (vp e) 0) fun H9 h9 => ?_;exact zk (σ' := σ.mem (σ.μ.cnt t.who (3, 0, 0) 1)) (t' := t) (by simp only [ah, hat]) (T.c0 (by omega)) (bG (p := p) (rp := g.rp) (R := R) g rfl hl h9.to)
theorem Ff (S : SOk σ) (T : eG σ t) (hat : t.at' = 22) : Sp cP [vp e, vi now] (eP e p rp σ t) (fun _ : Unit => cZ (ah σ t now)) (fun _ => eQ e p rp (ah σ t now)) := by
 have hN : σ.μ.N < 1099511627000 := by have := S.N; omega
 refine aX fun R H h => ?_;obtain ⟨nx, rv, g, hv, rfl, hl, _, h0⟩ := cO h;obtain ⟨b, hb, rfl⟩ := hv (by omega);have ho := T.obj (.inl (by omega));refine a9 (fun r => Bs _ _ H) ?_;refine bj h0 fun b1 H1 h1 => ?_;refine aq h1 ae rfl ?_;refine aq h1 ae rfl ?_;refine aq h1 ae rfl ?_;refine aq h1 ae rfl ?_;refine ag h1 (sP (p := p) (g := g) (σ := σ) (PL g.ib g.m g.nm σ.c σ.nx σ.μ t.who t.s hN)) fun _ H2 h2 => ?_;refine bk h2 ae rfl rfl fun H3 h3 => ?_;refine fD (e := e) (p := p) nx (vp b) { t with top := σ.μ.V (9, t.s, 0), at' := 23 } ks h3 fun H9 h9 => ?_;exact cR (σ' := σ.mem (σ.μ.acc t.who 1 (9, t.s, 0))) (t' := { t with top := σ.μ.V (9, t.s, 0), at' := 23 }) (v := (vp b)) (n := ks) (by simp only [ah, hat]) (b8 hb) rfl hl h9.to
theorem QO (S : SOk σ) (T : eG σ t) (hat : t.at' = 23) : Sp ks [vp e, vi now] (eP e p rp σ t) (fun _ : Unit => cZ (ah σ t now)) (fun _ => eQ e p rp (ah σ t now)) := by
 have hN : σ.μ.N < 1099511627000 := by have := S.N; omega
 refine aX fun R H h => ?_;obtain ⟨nx, rv, g, hv, rfl, hl, _, h0⟩ := cO h;obtain ⟨b, hb, rfl⟩ := hv (by omega);have ho := T.obj (.inl (by omega));refine a9 (fun r => If _ _ H) ?_;refine bj h0 fun b1 H1 h1 => ?_;refine aq h1 ae rfl ?_;refine aq h1 ae rfl ?_;refine aq h1 ae rfl ?_;refine aq h1 ae rfl ?_;refine aq h1 ae rfl ?_;refine ag h1 (sP (p := p) (g := g) (σ := σ) (Jf g.ib g.m g.nm σ.c σ.nx σ.μ t.who t.obj t.top hN)) fun _ H2 h2 => ?_;refine fD (e := e) (p := p) nx (vp b) { t with at' := 24 } kw h2 fun H9 h9 => ?_;exact cR (σ' := { σ with μ := σ.μ.acc t.who 6 (14, (t.obj : Int), 0), nx := fun k => if k = (t.obj : Int) then some t.top else σ.nx k }) (t' := { t with at' := 24 }) (v := (vp b)) (n := kw) (by simp only [ah, hat]) (b8 hb) rfl hl h9.to
theorem QR (S : SOk σ) (T : eG σ t) (hat : t.at' = 24) : Sp kw [vp e, vi now] (eP e p rp σ t) (fun _ : Unit => cZ (ah σ t now)) (fun _ => eQ e p rp (ah σ t now)) := by
 have hN : σ.μ.N < 1099511627000 := by have := S.N; omega
 refine aX fun R H h => ?_;obtain ⟨nx, rv, g, hv, rfl, hl, _, h0⟩ := cO h;obtain ⟨b, hb, rfl⟩ := hv (by omega);have ho := T.obj (.inl (by omega));refine a9 (fun r => Ij _ _ H) ?_;refine bj h0 fun b1 H1 h1 => ?_;refine aq h1 ae rfl ?_;refine aq h1 ae rfl ?_;refine aq h1 ae rfl ?_;refine aq h1 ae rfl ?_;refine aq h1 ae rfl ?_;refine aq h1 ae rfl ?_;refine ag h1 (sP (p := p) (g := g) (σ := σ) (Ji g.ib g.m g.nm σ.c σ.nx σ.μ t.who t.s t.top t.obj (by have := S.obs; omega) hN)) fun _ H2 h2 => ?_
 by_cases hw : σ.μ.V (9, t.s, 0) = t.top
 ·rw [ia hw]
  refine gs ?_;rw [Bool.not_true];refine gs ?_;refine fD (e := e) (p := p) nx (vp b) { t with at' := 25 } mS h2 fun H9 h9 => ?_;exact cR (σ' := σ.mem (σ.μ.swp t.who (9, t.s, 0) t.top (t.obj + 1))) (t' := { t with at' := 25 }) (v := (vp b)) (n := mS) (by simp only [ah, hat]; rw [if_pos hw]) (b8 hb) rfl hl h9.to
 ·rw [hZ hw]
  refine gs ?_;rw [Bool.not_false];refine gs ?_;refine fD (e := e) (p := p) nx (vp b) { t with at' := 22 } cP h2 fun H9 h9 => ?_;exact cR (σ' := σ.mem (σ.μ.swp t.who (9, t.s, 0) t.top (t.obj + 1))) (t' := { t with at' := 22 }) (v := (vp b)) (n := cP) (by simp only [ah, hat]; rw [if_neg hw]) (b8 hb) rfl hl h9.to
theorem VG (S : SOk σ) (T : eG σ t) (hat : t.at' = 15) : Sp mU [vp e, vi now] (eP e p rp σ t) (fun _ : Unit => cZ (ah σ t now)) (fun _ => eQ e p rp (ah σ t now)) := by
 have hN : σ.μ.N < 1099511627000 := by have := S.N; omega
 refine aX fun R H h => ?_;obtain ⟨nx, rv, g, hv, rfl, hl, _, h0⟩ := cO h;obtain ⟨b, hb, rfl⟩ := hv (by omega);have ho := T.obj (.inl (by omega));refine a9 (fun r => Oi _ _ H) ?_;refine bj h0 fun b1 H1 h1 => ?_;refine aq h1 ae rfl ?_;refine aq h1 ae rfl ?_;refine ag h1 (Ak p g σ t.who S.N) fun _ H2 h2 => ?_;refine bk h2 ae rfl rfl fun H3 h3 => ?_;refine aq h3 ae rfl ?_;refine aa (Nt 2 (by omega)) ?_
 by_cases hw : σ.μ.V (2, 0, 0) % 2 = 1
 ·refine aa (bv (show ((σ.μ.V (2, 0, 0) % 2 : Nat) : Int) = 1 by omega)) ?_
  refine gs ?_;refine fD (e := e) (p := p) nx (vp b) { t with q := σ.μ.V (2, 0, 0), at' := 7 } bA h3 fun H9 h9 => ?_;exact cR (σ' := mj σ t) (t' := { t with q := σ.μ.V (2, 0, 0), at' := 7 }) (v := (vp b)) (n := bA) (by simp only [ah, hat]; rw [if_pos hw]) (b8 hb) rfl hl h9.to
 ·refine aa (aR (show ¬ ((σ.μ.V (2, 0, 0) % 2 : Nat) : Int) = 1 by omega)) ?_
  refine gs ?_;refine fD (e := e) (p := p) nx (vp b) { t with q := σ.μ.V (2, 0, 0), at' := 16 } dP h3 fun H9 h9 => ?_;exact cR (σ' := mj σ t) (t' := { t with q := σ.μ.V (2, 0, 0), at' := 16 }) (v := (vp b)) (n := dP) (by simp only [ah, hat]; rw [if_neg hw]) (b8 hb) rfl hl h9.to
theorem AT (S : SOk σ) (T : eG σ t) (hat : t.at' = 17) : Sp dO [vp e, vi now] (eP e p rp σ t) (fun _ : Unit => cZ (ah σ t now)) (fun _ => eQ e p rp (ah σ t now)) := by
 have hN : σ.μ.N < 1099511627000 := by have := S.N; omega
 refine aX fun R H h => ?_;obtain ⟨nx, rv, g, hv, rfl, hl, _, h0⟩ := cO h;obtain ⟨b, hb, rfl⟩ := hv (by omega);have ho := T.obj (.inl (by omega));refine a9 (fun r => w8 _ _ H) ?_;refine bj h0 fun b1 H1 h1 => ?_;refine bg ae ?_;refine aN h1 rfl ?_;refine bg ae ?_;refine aN h1 rfl ?_;refine aq h1 ae rfl ?_;refine aq h1 ae rfl ?_;refine ag h1 (jX (p := p) hl ho hb (CE g.m t.obj b (aw σ t.obj) σ.μ t.who hN)) fun _ H2 h2 => ?_;refine aG h2 h1 (by rfl) ?_;refine aG h2 h1 (by rfl) ?_;refine ag h2 (KT (p := p) (σ := ij σ t) hl ho hb (CD g.m t.obj b (aw σ t.obj) t.w (σ.μ.V (12, (t.obj : Int), 0)) T.w (S.cells _ ho).2)) fun _ H3 h3 => ?_;cases hf : kQ t.w (σ.μ.V (12, (t.obj : Int), 0)) (aw σ t.obj).length
 ·refine gs ?_
  rw [Bool.not_false];refine gs ?_;refine fD (e := e) (p := p) nx (vp b) { t with at' := 7 } bA h3 fun H9 h9 => ?_;exact cR (σ' := ij σ t) (t' := { t with at' := 7 }) (v := (vp b)) (n := bA) (by simp only [ah, hat, fU, hf]; rfl) (b8 hb) rfl hl h9.to
 ·refine gs ?_
  rw [Bool.not_true];refine gs ?_;refine bk h3 ae rfl rfl fun H4 h4 => ?_;refine fD (e := e) (p := p) nx (vp b) { t with at' := 18, mark := now } eO h4 fun H9 h9 => ?_;exact cR (σ' := ij σ t) (t' := { t with at' := 18, mark := now }) (v := (vp b)) (n := eO) (by simp only [ah, hat, fU, hf]; rfl) (b8 hb) rfl hl h9.to
theorem BF (S : SOk σ) (T : eG σ t) (hat : t.at' = 18) : Sp eO [vp e, vi now] (eP e p rp σ t) (fun _ : Unit => cZ (ah σ t now)) (fun _ => eQ e p rp (ah σ t now)) := by
 have hN : σ.μ.N < 1099511627000 := by have := S.N; omega
 refine aX fun R H h => ?_;obtain ⟨nx, rv, g, hv, rfl, hl, _, h0⟩ := cO h;obtain ⟨b, hb, rfl⟩ := hv (by omega);have ho := T.obj (.inl (by omega));refine a9 (fun r => zj _ _ H) ?_;refine bj h0 fun b1 H1 h1 => ?_;refine aq h1 ae rfl ?_;refine aq h1 ae rfl ?_;refine ag h1 (Ak p g σ t.who S.N) fun _ H2 h2 => ?_;refine bg ae ?_;refine aN h2 rfl ?_;refine aG h1 h2 (by rfl) ?_
 by_cases hw : σ.μ.V (2, 0, 0) = t.q
 ·refine aa (GB (show ((σ.μ.V (2, 0, 0) : Nat) : Int) = (t.q : Int) by omega)) ?_
  refine gs ?_;refine aq h2 ae rfl ?_;have k2 := bG (p := p) (rp := g.rp) (σ := mj σ t) (R := eB e p nx (vp b) t * (blk b1 (.cells false [vi 0, .slice none 0 0, vi 0, vw 0]) * R)) g rfl hl h2.to;refine nO k2 (wB e p g.rp (mj σ t) nx (vp b) t t.mark 9 (by have := S.pts; show σ.pts.length < _; omega)) fun H9 h9 => ?_;exact zk (σ' := (mj σ t).note t.mark t.who 9) (t' := { t with code := 9 }) (by simp only [ah, hat]; rw [if_pos hw]) rfl h9.to
 ·refine aa (aaV (show ¬ ((σ.μ.V (2, 0, 0) : Nat) : Int) = (t.q : Int) by omega)) ?_
  refine gs ?_;refine fD (e := e) (p := p) nx (vp b) { t with at' := 7 } bA h2 fun H9 h9 => ?_;exact cR (σ' := mj σ t) (t' := { t with at' := 7 }) (v := (vp b)) (n := bA) (by simp only [ah, hat]; rw [if_neg hw]) (b8 hb) rfl hl h9.to
def ff (σ : az) (t : Tk) : az × Tk × Bool :=
 (bJ σ t, { aA σ t with at' := if (aA σ t).found = true then 6 else if cz σ (aA σ t) = true then 3 else 2 }, false)
theorem CO (S : SOk σ) (T : eG σ t) (hat : t.at' = 0 ∨ t.at' = 2) : Sp iU [vp e, vi now] (eP e p rp σ t) (fun _ : Unit => cZ (ff σ t)) (fun _ => eQ e p rp (ff σ t)) := by
 have hN : σ.μ.N < 1099511627000 := by have := S.N; omega
 refine aX fun R H h => ?_;obtain ⟨nx, rv, g, hv, rfl, hl, _, h0⟩ := cO h;have hi := T.i (by omega) (by omega);refine a9 (fun r => Ik _ _ H) ?_;refine bj h0 fun b1 H1 h1 => ?_;refine ag h1 (Lp e p g σ nx rv t S hi) fun _ H2 h2 => ?_;refine aj (Bq _ _ _ _ H2) ?_;refine aq h2 ae rfl ?_;cases hf : (aA σ t).found
 ·refine gs ?_
  cases hla : cz σ (aA σ t)
  ·refine gs ?_
   refine aj (Br _ _ _ H2) ?_;refine fD (e := e) (p := p) nx rv { aA σ t with at' := 2 } iU h2 fun H9 h9 => ?_;exact cR (σ' := bJ σ t) (t' := { aA σ t with at' := 2 }) (v := rv) (n := iU) (by simp only [ff, hf, hla]; rfl) (gC (by simp)) rfl hl h9.to
  ·refine gs ?_
   refine fD (e := e) (p := p) nx rv { aA σ t with at' := 3 } cu h2 fun H9 h9 => ?_;exact cR (σ' := bJ σ t) (t' := { aA σ t with at' := 3 }) (v := rv) (n := cu) (by simp only [ff, hf, hla]; rfl) (gC (by simp)) rfl hl h9.to
 ·refine gs ?_
  refine fD (e := e) (p := p) nx rv { aA σ t with at' := 6 } fL h2 fun H9 h9 => ?_;exact cR (σ' := bJ σ t) (t' := { aA σ t with at' := 6 }) (v := rv) (n := fL) (by simp only [ff, hf]; rfl) (gC (by simp)) rfl hl h9.to
theorem Ha (S : SOk σ) (T : eG σ t) (hat : t.at' = 4) : Sp dn [vp e, vi now] (eP e p rp σ t) (fun _ : Unit => cZ (ah σ t now)) (fun _ => eQ e p rp (ah σ t now)) := by
 have hN : σ.μ.N < 1099511627000 := by have := S.N; omega
 refine aX fun R H h => ?_;obtain ⟨nx, rv, g, hv, rfl, hl, _, h0⟩ := cO h;have hi := T.i (by omega) (by omega);refine a9 (fun r => Da _ _ H) ?_;refine bj h0 fun b1 H1 h1 => ?_;refine ag h1 (Lp e p g σ nx rv t S hi) fun _ H2 h2 => ?_;refine aj (w9 _ _ _ _ _ H2) ?_;refine aq h2 ae rfl ?_;cases hf : (aA σ t).found
 ·refine gs ?_
  cases hla : cz σ (aA σ t)
  ·refine gs ?_
   refine aj (xa _ _ _ H2) ?_;refine fD (e := e) (p := p) nx rv (aA σ t) dn h2 fun H9 h9 => ?_;exact cR (σ' := bJ σ t) (t' := (aA σ t)) (v := rv) (n := dn) (by simp only [ah, hat, hf, hla]; rfl) (gC (show t.at' < 7 by omega)) (by show xy t.at' = _; rw [hat]; rfl) hl h9.to
  ·refine gs ?_
   have k2 := bG (p := p) (rp := g.rp) (σ := bJ σ t) (R := eB e p nx rv (aA σ t) * (blk b1 (.cells false [vi 0, .slice none 0 0, vi 0, vw 0]) * R)) g rfl hl h2.to;refine ag k2 (ta e p g.rp (bJ σ t) nx rv (aA σ t) now 5 (by have := S.pts; show σ.pts.length < _; omega)) fun _ H3 h3 => ?_;refine fD (e := e) (p := p) nx rv { aA σ t with at' := 5, code := 5 } dp h3 fun H9 h9 => ?_;exact Dc (σ' := (bJ σ t).note now (aA σ t).who 5) (t' := { aA σ t with at' := 5, code := 5 }) (v := rv) (n := dp) (by simp only [ah, hat, hf, hla]; rfl) (gC (by simp)) rfl h9.to
 ·refine gs ?_
  refine fD (e := e) (p := p) nx rv { aA σ t with at' := 5 } dp h2 fun H9 h9 => ?_;exact cR (σ' := bJ σ t) (t' := { aA σ t with at' := 5 }) (v := rv) (n := dp) (by simp only [ah, hat, hf]; rfl) (gC (by simp)) rfl hl h9.to
theorem Kx (S : SOk σ) (T : eG σ t) (hat : t.at' = 0) : Sp kV [vp e, vi now] (eP e p rp σ t) (fun _ : Unit => cZ (ah σ t now)) (fun _ => eQ e p rp (ah σ t now)) := by
 have hN : σ.μ.N < 1099511627000 := by have := S.N; omega
 refine aY (FT _ _) fun R H h => ?_;refine bj h fun b H1 h1 => ?_;refine aj (zd _ _ _ _ H1) ?_;obtain ⟨nx, rv, g, hv, rfl, hl, _, k1⟩ := cO (e := e) (p := p) (rp := rp) (σ := σ) (t := t) (R := blk b (.cells false [vi 0, .slice none 0 0, vi 0, vw 0]) * R) (H := H1) h1.to
 have fin : ∀ code, dG t.x = some code → wp ((FF hC [vp e, vi now, vi code] H1).bind fun r25 =>
  (ai r25.1 0).bind fun v26 =>
  (ai r25.1 1).bind fun v27 =>
  (dg 4 (vp b) v26 r25.2).bind fun H28 =>
  (aB 4 (vp b) H28).bind fun v29 => some (Value.tuple #[v29, v27], H28)) fun v' H' => ∃ x_1 : Unit, v' = cZ (ah σ t now) ∧ ac (eQ e p g.rp (ah σ t now) * R) H' := by
  intro code hx;have k2 := bG (p := p) (rp := g.rp) (σ := σ) (R := eB e p nx rv t * (blk b (.cells false [vi 0, .slice none 0 0, vi 0, vw 0]) * R)) g rfl hl k1.to;refine nO k2 (wB e p g.rp σ nx rv t now code (by have := S.pts; omega)) fun H9 h9 => ?_;exact zk (σ' := σ.note now t.who code) (t' := { t with code := code }) (by simp only [ah, hat, hx]) rfl h9.to
 have scan : dG t.x = none → wp (oG (vp e) (vi now) (vp b) (vb false) H1) fun v' H' => ∃ x_1 : Unit, v' = cZ (ah σ t now) ∧ ac (eQ e p g.rp (ah σ t now) * R) H' := by
  intro hx
  have hs : ah σ t now = ff σ t := by simp only [ah, hat, hx, ff]
  rw [hs];refine aj (ze _ _ _ _ H1) ?_;exact nO h1 (CO e p g.rp σ t now S T (.inl hat)) fun H9 h9 => ⟨(), rfl, h9.to⟩
 refine aq k1 (gf (bR (bR bU))) rfl ?_
 by_cases ha : t.x.a < 1
 ·refine aa (cJ ha) ?_
  refine gs ?_;exact fin 3 (by rw [dG, if_pos (.inl ha)])
 ·refine aa (b4 ha) ?_
  refine gs ?_;refine aq k1 (gf (bR (bR bU))) rfl ?_;refine gs ?_
  by_cases ha2 : 65536 < t.x.a
  ·refine aa (wH ha2) ?_
   refine gs ?_;exact fin 3 (by rw [dG, if_pos (.inr ha2)])
  ·refine aa (jQ ha2) ?_
   refine gs ?_;refine aq k1 (gf (bR (bR bU))) rfl ?_
   by_cases hf : t.x.flow < 0
   ·refine aa (cJ hf) ?_
    refine gs ?_;exact fin 5 (by rw [dG, if_neg (by omega), if_pos (.inl hf)])
   ·refine aa (b4 hf) ?_
    refine gs ?_;refine aq k1 (gf (bR (bR bU))) rfl ?_;refine gs ?_
    by_cases hf2 : 1048576 < t.x.flow
    ·refine aa (wH hf2) ?_
     refine gs ?_;exact fin 5 (by rw [dG, if_neg (by omega), if_pos (.inr hf2)])
    ·refine aa (jQ hf2) ?_
     refine gs ?_;exact scan (by rw [dG, if_neg (by omega), if_neg (by omega)])
theorem R7 (S : SOk σ) (T : eG σ t) : Sp vD [vp e, vi now] (eP e p rp σ t) (fun _ : Unit => cZ (ah σ t now)) (fun _ => eQ e p rp (ah σ t now)) := by
 refine aY (Ia _ _) fun R H h => ?_;refine bj h fun b H1 h1 => ?_;obtain ⟨rv, hv, k1⟩ := Lm (e := e) (p := p) (rp := rp) (σ := σ) (t := t) (R := blk b (.cells false [vi 0, .slice none 0 0, vi 0, vw 0]) * R) (H := H1) h1.to;refine aq k1 ae rfl ?_;refine aj (show (b6 (.func (.func (xy t.at')) #[vp e] #[]) [vi now]).bind _ = _ from rfl) ?_
 have hs : Sp (xy t.at') [vp e, vi now] (eP e p rp σ t) (fun _ : Unit => cZ (ah σ t now)) (fun _ => eQ e p rp (ah σ t now)) := by
  rcases T.ats with hat | hat | hat | hat | hat | hat | hat | hat | hat | hat | hat | hat | hat | hat | hat | hat | hat | hat | hat | hat | hat | hat | hat | hat <;> rw [show xy t.at' = _ from by rw [hat]]
  ·exact Kx e p rp σ t now S T hat
  ·have h := CO e p rp σ t now S T (.inr hat)
   have hs : ah σ t now = ff σ t := by simp only [ah, hat, ff]
   rw [hs]; exact h
  ·exact QP e p rp σ t now S T hat
  ·exact Ha e p rp σ t now S T hat
  ·exact Hb e p rp σ t now S T hat
  ·exact QQ e p rp σ t now S T hat
  ·exact QU e p rp σ t now S T hat
  ·exact QM e p rp σ t now S T hat
  ·exact Kw e p rp σ t now S T hat
  ·exact VF e p rp σ t now S T hat
  ·exact QS e p rp σ t now S T hat
  ·exact Kv e p rp σ t now S T hat
  ·exact QT e p rp σ t now S T hat
  ·exact QL e p rp σ t now S T hat
  ·exact VG e p rp σ t now S T hat
  ·exact AU e p rp σ t now S T hat
  ·exact AT e p rp σ t now S T hat
  ·exact BF e p rp σ t now S T hat
  ·exact QJ e p rp σ t now S T hat
  ·exact Ky e p rp σ t now S T hat
  ·exact Ff e p rp σ t now S T hat
  ·exact QO e p rp σ t now S T hat
  ·exact QR e p rp σ t now S T hat
  ·exact VE e p rp σ t now S T hat
 exact nO h1 hs fun H9 h9 => ⟨(), rfl, h9.to⟩
end
def Zr (x : Cl) : Prop := x.flow < 0 ∨ 1048576 < x.flow
instance (x : Cl) : Decidable (Zr x) := inferInstanceAs (Decidable (_ ∨ _))
def aa0 (x : Cl) : Option Int :=
 if x.op = 1 then (if Zr x then some 1 else if x.a < 1 ∨ 65536 < x.a then some 4 else if x.b < 1 ∨ 8 < x.b then some 1 else none)
 else if Zr x then some 5 else none
def aa5 (σ : az) (t : Tk) : Tk :=
 let v := σ.μ.V (10, t.s, (t.i : Int))
 { t with i := if tK v t.x.flow = true then t.i else t.i + 1, found := tK v t.x.flow, obj := if tK v t.x.flow = true then v % 4294967296 else t.obj, mark := if v = 0 ∧ t.mark < 0 then (t.i : Int) else t.mark }
abbrev aaO (σ : az) (t : Tk) : az := σ.mem (σ.μ.swp t.who (8, t.s, 0) 0 1)
abbrev Fk (σ : az) (t : Tk) : az := σ.mem ((σ.μ.acc t.who 2 (8, t.s, 0)).put (8, t.s, 0) 0)
def Uq (σ : az) (t : Tk) : az × Tk × Bool := (aaO σ t, { t with at' := if σ.μ.V (8, t.s, 0) = 0 then 3 else 2 }, false)
abbrev UJ (σ : az) (t : Tk) : Ob := ⟨t.x.flow, t.x.b, max (σ.c.un / t.x.a.toNat) 1⟩
def aa1 (σ : az) (t : Tk) (now : Int) : az × Tk × Bool :=
 match t.at' with
 | 4 => (σ.make t.who (UJ σ t), { t with obj := σ.obs.length, at' := 5 }, false)
 | 5 => ((σ.mem ((σ.μ.acc t.who 2 (10, t.s, t.mark)).put (10, t.s, t.mark) (cS t.x.flow t.obj))).note now t.who 0, { t with at' := 6, code := 0 }, false)
 | _ => (Fk σ t, t, true)
def Z9 (σ : az) (t : Tk) (now : Int) : az × Tk × Bool :=
 match t.at' with
 | 4 => let w := σ.μ.V (11, (t.obj : Int), 0)
  (jW σ t, { t with w := w, at' := if aH w = 0 then 8 else 5 }, false)
 | 5 => let q := σ.μ.V (2, 0, 0)
  (mj σ t, { t with q := q, at' := if q % 2 = 1 then 4 else 6 }, false)
 | 6 => let w := σ.μ.V (11, (t.obj : Int), 0)
  (jW σ t, { t with w := w, mark := now, at' := if aH w = 0 then 8 else 7 }, false)
 | 7 => if σ.μ.V (2, 0, 0) = t.q then ((mj σ t).note t.mark t.who 8, { t with at' := 10, code := 8 }, false) else (mj σ t, { t with at' := 4 }, false)
 | 8 => let o := aL t.w 2
  let σ1 := σ.mem (σ.μ.turn t.who t.obj t.w o)
  if cG σ.μ t.obj t.w o = true then (σ1.note now t.who 0, { t with at' := 9, code := 0 }, false) else (σ1, { t with at' := 4 }, false)
 | 9 => (σ.mem ((σ.μ.acc t.who 2 (10, t.s, (t.i : Int))).put (10, t.s, (t.i : Int)) 0), { t with at' := 10 }, false)
 | _ => (Fk σ t, t, true)
def NB (σ : az) (t : Tk) (now : Int) : az × Tk × Bool :=
 match t.at' with
 | 0 => match aa0 t.x with
  | some e => (σ.note now t.who e, { t with code := e }, true)
  | none => Uq σ t
 | 2 => Uq σ t
 | 3 => let t1 := aa5 σ t
  if t1.found = true then (if t.x.op = 1 then ((bJ σ t).note now t.who 6, { t1 with at' := 6, code := 6 }, false) else (bJ σ t, { t1 with at' := 4 }, false))
  else if cz σ t1 = true then
   (if t.x.op = 1 then (if t1.mark < 0 then ((bJ σ t).note now t.who 7, { t1 with at' := 6, code := 7 }, false) else (bJ σ t, { t1 with at' := 4 }, false))
   else ((bJ σ t).note now t.who 5, { t1 with at' := 10, code := 5 }, false))
  else (bJ σ t, t1, false)
 | _ => if t.x.op = 1 then aa1 σ t now else Z9 σ t now
structure Yl (σ : az) (t : Tk) : Prop where
 s : t.s = (t.x.flow.tmod σ.c.sh + σ.c.sh).tmod σ.c.sh
 i : t.at' < 4 → (t.i : Int) < σ.c.sl
 x : t.at' ≠ 0 → aa0 t.x = none
 ats : t.at' = 0 ∨ t.at' = 2 ∨ t.at' = 3 ∨ 4 ≤ t.at' ∧ t.at' < 7 ∨ t.x.op ≠ 1 ∧ 7 ≤ t.at' ∧ t.at' < 11
 mark : t.at' = 4 ∨ t.at' = 5 → t.x.op = 1 → 0 ≤ t.mark
 obj : t.at' = 5 ∧ t.x.op = 1 ∨ 4 ≤ t.at' ∧ t.at' < 10 ∧ t.x.op ≠ 1 → t.obj < σ.obs.length
 w : t.w < 18446744073709551616
structure Ek where
 I : Nat
 free : Int
 at' : Int
 obj : Nat
 rv : Value
 w : Nat
 q : Nat
 nw : Int
 told : Int
section
variable {e p : Nat} {rp : List Nat} {g : PIds} {σ σ' : az} {t t' : Tk} {R P : SP} {H : AH} {r : az × Tk × Bool} {v : Value} {n : Nat} {c : Int} {k : Ek}
end
section
variable (e p : Nat) (rp : List Nat) (g : PIds) (σ : az) (t : Tk) (k : Ek) (nx : Value) (now : Int)
end
section
variable (e p : Nat) (rp : List Nat) (σ : az) (t : Tk) (now : Int)
abbrev Tk.newR (c : eR) (who : Int) (x : Cl) : Tk := ⟨who, x, (x.flow.tmod c.sh + c.sh).tmod c.sh, 0, 0, 0, false, 0, 0, -1, 0, 0⟩
end
theorem t5 (p : Nat) (g : XIds) (σ : az) (o b : Nat) (hl : g.rp.length = σ.obs.length) (ho : o < σ.obs.length) (hb : g.rp[o]? = some b) :
 ∃ R, (∀ N, σ.μ.N = N → av p g σ = cp g.m o b (aw σ o) * bm g.m σ.μ * (gH g.ib g.m σ.c.sh σ.nx N * R)) ∧ ∀ μ' cs', av p g { σ with μ := μ', obs := σ.obs.modify o fun q => (q.1, cs') } = cp g.m o b cs' * bm g.m μ' * (gH g.ib g.m σ.c.sh σ.nx μ'.N * R) := by
 have hz : o < (g.rp.zip (σ.obs.map fun x => x.2)).length := by simp; omega
 obtain ⟨R, e1, e2⟩ := E6 g.m (ps := g.rp.zip (σ.obs.map fun x => x.2)) (j := 0) hz
 have hrp : g.rp[o]'(by omega) = b := by
  rw [br (by omega)] at hb;exact fg hb
 have e3 : (g.rp.zip (σ.obs.map fun x => x.2))[o] = (b, aw σ o) := by
  rw [List.getElem_zip, s5 ho, List.getElem_map, hrp]
 rw [e3] at e1;rw [Nat.zero_add] at e1 e2
 refine ⟨blk p (.cells false [vi σ.c.sh, vi σ.c.sl, vi σ.c.wk, vi σ.c.wd, vu σ.c.un, vp g.m, vp g.ib, vp g.tb, vp g.po, vp g.co, g.ov, g.rv, g.wv, g.pv]) * (tab g.tb g.m σ.c.sh.toNat σ.c.sl.toNat * (ts 3 re g.ov (σ.obs.map fun x => x.1) * (ts 1 nT g.rv g.rp * (R *
  (ts 1 dC g.wv (dZ g.ws) * ts 7 Pt.cells g.pv (bq σ.pts)))))), fun N hN => ?_, fun μ' cs' => ?_⟩
 ·subst hN
  unfold av;rw [e1]
  ac_rfl
 ·unfold av
  dsimp only
  have e4 : (σ.obs.modify o fun q => (q.1, cs')).map (fun x => x.1) = σ.obs.map fun x => x.1 := by
   apply List.ext_getElem?;intro j;simp only [vt, List.getElem?_modify]
   cases σ.obs[j]? with
   | none => rfl
   | some q => simp only [dD]; split <;> rfl
  have e5 : g.rp.zip ((σ.obs.modify o fun q => (q.1, cs')).map fun x => x.2) = (g.rp.zip (σ.obs.map fun x => x.2)).set o (b, cs') := by
   apply List.ext_getElem?;intro j;rw [List.getElem?_set]
   by_cases hj : o = j
   ·subst hj
    rw [if_pos rfl, if_pos hz];exact List.getElem?_zip_eq_some.2 ⟨hb, by simp [List.getElem?_modify, br ho]⟩
   ·rw [if_neg hj]
    have : (List.map (fun x => x.2) (σ.obs.modify o fun q => (q.1, cs')))[j]? = (σ.obs.map fun x => x.2)[j]? := by
     simp only [vt, List.getElem?_modify]
     cases σ.obs[j]? with
     | none => rfl
     | some q => show some (if o = j then (q.1, cs') else q).2 = some q.2; rw [if_neg hj]
    simp only [List.zip, List.getElem?_zipWith, this]
  rw [e4, e5, e2]
  ac_rfl
section
variable {f : Nat} {args : List Value} {v : Unit → Value} {p : Nat} {g : XIds} {σ : az} {o b : Nat}
theorem C0 {μ' : Mu} {cs' : List Pk} (hN : σ.μ.N ≤ μ'.N) (hl : g.rp.length = σ.obs.length) (ho : o < σ.obs.length) (hb : g.rp[o]? = some b)
 (s : Sp f args (cp g.m o b (aw σ o) * bm g.m σ.μ) v (fun _ => cp g.m o b cs' * bm g.m μ')) :
 Sp f args (av p g σ) v (fun _ => av p g { σ with μ := μ', obs := σ.obs.modify o fun q => (q.1, cs') }) := by
 obtain ⟨R', e1, e2⟩ := t5 p g σ o b hl ho hb;intro R H h;rw [e1 _ rfl, ar] at h;obtain ⟨x, H', h1, h2⟩ := s _ _ h;refine ⟨x, H', h1, ?_⟩;rw [e2, ar];have h3 := nB hN (ac.fr (A := gH g.ib g.m σ.c.sh σ.nx σ.μ.N) h2);exact h3.to
theorem mm {μ' : Mu} (hN : σ.μ.N ≤ μ'.N) (hl : g.rp.length = σ.obs.length) (ho : o < σ.obs.length) (hb : g.rp[o]? = some b)
 (s : Sp f args (cp g.m o b (aw σ o) * bm g.m σ.μ) v (fun _ => cp g.m o b (aw σ o) * bm g.m μ')) :
 Sp f args (av p g σ) v (fun _ => av p g (σ.mem μ')) := by
 have := C0 (p := p) hN hl ho hb s;rw [GC ho] at this;exact this
theorem Fu (hl : g.rp.length = σ.obs.length) (ho : o < σ.obs.length) (hb : g.rp[o]? = some b)
 (s : Sp f args (cp g.m o b (aw σ o)) v (fun _ => cp g.m o b (aw σ o))) :
 Sp f args (av p g σ) v (fun _ => av p g σ) := by
 obtain ⟨R', e1, _⟩ := t5 p g σ o b hl ho hb;intro R H h;rw [e1 _ rfl, ar, ar] at h;obtain ⟨x, H', h1, h2⟩ := s _ _ h;exact ⟨x, H', h1, by rw [e1 _ rfl, ar, ar]; exact h2⟩
theorem HJ {μ' : Mu} (hN : σ.μ.N ≤ μ'.N) (s : Sp f args (tab g.tb g.m σ.c.sh.toNat σ.c.sl.toNat * bm g.m σ.μ) v (fun _ => tab g.tb g.m σ.c.sh.toNat σ.c.sl.toNat * bm g.m μ')) :
 Sp f args (av p g σ) v (fun _ => av p g (σ.mem μ')) := by
 intro R H h;unfold av at h;obtain ⟨x, H', h1, h2⟩ := s _ H (ac.fr (A := tab g.tb g.m σ.c.sh.toNat σ.c.sl.toNat * bm g.m σ.μ) h);refine ⟨x, H', h1, ?_⟩;unfold av;have h3 := nB hN (ac.fr (A := gH g.ib g.m σ.c.sh σ.nx σ.μ.N) h2);exact h3.to
theorem KV (s : Sp f args (tab g.tb g.m σ.c.sh.toNat σ.c.sl.toNat) v (fun _ => tab g.tb g.m σ.c.sh.toNat σ.c.sl.toNat)) :
 Sp f args (av p g σ) v (fun _ => av p g σ) := by
 intro R H h;unfold av at h;obtain ⟨x, H', h1, h2⟩ := s _ H (ac.fr (A := tab g.tb g.m σ.c.sh.toNat σ.c.sl.toNat) h);refine ⟨x, H', h1, ?_⟩;unfold av;exact h2.to
theorem Rp {μ' : Mu} (hN : σ.μ.N ≤ μ'.N) (s : Sp f args (bm g.m σ.μ) v (fun _ => bm g.m μ')) : Sp f args (av p g σ) v (fun _ => av p g (σ.mem μ')) := by
 intro R H h;unfold av at h;obtain ⟨x, H', h1, h2⟩ := s _ H (ac.fr (A := bm g.m σ.μ) h);refine ⟨x, H', h1, ?_⟩;unfold av;have h3 := nB hN (ac.fr (A := gH g.ib g.m σ.c.sh σ.nx σ.μ.N) h2);exact h3.to
theorem uV {μ' : Mu} {nx' : Int → Option Nat} {L : Nat} (hL : L ≤ μ'.N) (s : Sp f args (gH g.ib g.m σ.c.sh σ.nx σ.μ.N * bm g.m σ.μ) v (fun _ => gH g.ib g.m σ.c.sh nx' L * bm g.m μ')) :
 Sp f args (av p g σ) v (fun _ => av p g { σ with μ := μ', nx := nx' }) := by
 intro R H h;unfold av at h;obtain ⟨x, H', h1, h2⟩ := s _ H (ac.fr (A := gH g.ib g.m σ.c.sh σ.nx σ.μ.N * bm g.m σ.μ) h);refine ⟨x, H', h1, ?_⟩;unfold av;have h3 := nB hL (ac.fr (A := gH g.ib g.m σ.c.sh nx' L) h2);exact h3.to
end
instance Zu (p : Nat) (g : XIds) (σ : az) : Hs (av p g σ) p (.cells false [vi σ.c.sh, vi σ.c.sl, vi σ.c.wk, vi σ.c.wd, vu σ.c.un, vp g.m, vp g.ib, vp g.tb, vp g.po, vp g.co, g.ov, g.rv, g.wv, g.pv]) := ⟨by
 intro H h;unfold av at h
 exact h.left.get⟩
theorem CV (m i rp : Nat) (cs : List Pk) (μ : Mu) (who : Int) (n : Nat) (x : Pk) (h0 : 1 ≤ cs.length ∧ cs.length < 1000) (hE : μ.N < 1099511627000) :
 Sp lg [vp rp, vi who, vu n, .agg (Pk.cells x).toArray] (cp m i rp cs * bm m μ) (fun _ : Unit => .tuple #[]) (fun _ => cp m i rp (cs.set (n % cs.length) x) * bm m (μ.acc who 6 (16, (i : Int), ((n % cs.length : Nat) : Int)))) := by
 have hlt : n % cs.length < cs.length := Nat.mod_lt _ (by omega);refine aY (xV _ _ _ _) fun R H h => ?_;refine aZ h fun b H1 h1 => ?_;obtain ⟨cv, k1⟩ := eC (m := m) (i := i) (rp := rp) (cs := cs) (R := bm m μ * (blk b (.cells false (Pk.cells x)) * R)) (H := H1) h1.to;refine bg ae ?_;refine aN k1 rfl ?_;refine bg ae ?_;refine aN k1 rfl ?_
 have cell : ∀ cv, Sp dj [vp rp, vu n] (blk rp (.cells false [vp m, vi i, vi cs.length, cv])) (fun _ : Unit => vi ((n % cs.length : Nat) : Int)) (fun _ => blk rp (.cells false [vp m, vi i, vi cs.length, cv])) := by
  intro cv;refine aY (mY _ _) fun R H h => ?_;refine aq h ae rfl ?_;refine aa (da (by omega) (by omega)) ?_;rw [show ((cs.length : Nat) : Int).toNat = cs.length from rO _];refine aa (g7 (by omega)) ?_;refine aa (fF (by omega)) ?_;exact ap ⟨(), rfl, h⟩
 refine ag k1 (cell cv) fun _ H2 k2 => ?_;refine aG k2 k1 (by rfl) ?_;refine aG k2 k1 (by rfl) ?_;refine ag k2 (dw 16 (i : Int) ((n % cs.length : Nat) : Int)) fun _ H3 k3 => ?_;refine aG k3 k1 (by rfl) ?_;refine ag k3 ((Q9 m μ who 6 (16, (i : Int), ((n % cs.length : Nat) : Int)) (by omega)).imp fun _ R H h => tS (N' := μ.N + 2) (by simp) h) fun _ H4 k4 => ?_;refine bg ae ?_;refine aN k4 rfl ?_;refine ag k4 (cell cv) fun _ H5 k5 => ?_;refine aG k5 k4 (by rfl) ?_;refine aU k5 ?_;refine dB k4 k5 rfl ?_;refine CT (s := cv) (l := cs) (i := n % cs.length) x k5 hlt (.inl ⟨rfl, rfl⟩) rfl (by omega) rfl rfl fun H6 k6 => ?_;refine ap ⟨(), rfl, ?_⟩;have el : (cs.set (n % cs.length) x).length = cs.length := vx;have h6 := lO (m := m) (i := i) (rp := rp) (cs := cs.set (n % cs.length) x) (cv := cv) (R := bm m (μ.acc who 6 (16, (i : Int), ((n % cs.length : Nat) : Int))) * R) (H := H6) (by rw [el]; exact k6.to);exact h6.to
section
variable (p : Nat) (g : XIds) (σ : az)
theorem KO (hl : g.rp.length = σ.obs.length) (who : Int) (o : Nat) (ho : o < σ.obs.length) (hN : σ.μ.N < 800000) : Sp jK [vp p, vi who, vi o] (av p g σ) (fun v : Value => v) (fun _ => av p g (σ.mem (σ.μ.acc who 5 (13, (o : Int), 0)))) := by
 refine aY (vP _ _ _) fun R H h => ?_;refine bj h fun b H1 h1 => ?_;refine aa (b4 (by omega)) ?_;refine gs ?_;refine aq h1 ae rfl ?_;refine gs ?_;have h2 := h1;unfold av at h2;refine gD (s := g.ov) (enc := re) (l := σ.obs.map fun x : Ob × List Pk => x.1) h2 ?_;rw [qM];refine gs ?_;refine aa (nW (by omega)) ?_;refine gs ?_;refine bg ae ?_;refine aN h1 rfl ?_;refine ag h1 (dw 13 (o : Int) 0) fun _ H3 h3 => ?_;refine aG h3 h1 (by rfl) ?_;refine ag h3 (Rp (p := p) (g := g) (σ := σ) (μ' := σ.μ.acc who 5 (13, (o : Int), 0)) (by simp) ((Q9 g.m σ.μ who 5 (13, (o : Int), 0) (by omega)).imp fun _ R H h => tS (N' := σ.μ.N + 2) (by simp) h)) fun _ H4 h4 => ?_;refine aq h4 ae rfl ?_;have h5 := h4;unfold av at h5;refine KJ (enc := re) (l := σ.obs.map fun x : Ob × List Pk => x.1) h5 (by rw [qM]; exact ho) ?_;refine f7 h4 rfl rfl fun H6 h6 => ?_;refine aU h6 ?_;exact ap ⟨_, rfl, h6.to⟩
theorem Bh (who : Int) (hN : σ.μ.N < 800000) : Sp gr [vp p, vi who] (av p g σ) (fun _ : Unit => vu (σ.μ.V (2, 0, 0))) (fun _ => av p g (σ.mem (σ.μ.acc who 1 (2, 0, 0)))) := by
 refine aY (vQ _ _) fun R H h => ?_;refine bg ae ?_;refine aN h rfl ?_;refine ag h (dw 2 0 0) fun _ H1 h1 => ?_;refine aG h1 h (by rfl) ?_;refine ag h1 (Rp (p := p) (g := g) (σ := σ) (μ' := σ.μ.acc who 1 (2, 0, 0)) (by simp) (pE g.m σ.μ who (2, 0, 0) (by omega))) fun _ H2 h2 => ?_;exact ap ⟨(), rfl, h2.to⟩
theorem uP (t m sh sl : Nat) (hs : 1 ≤ sh ∧ sh ≤ 4) (flow : Int) : Sp e8 [vp t, vi flow] (tab t m sh sl) (fun _ : Unit => vi ((flow.tmod sh + sh).tmod sh)) (fun _ => tab t m sh sl) := by
 have q := Fi flow (n := sh) (by omega);refine aY (sB _ _) fun R H h => ?_;unfold tab at h ⊢;refine aq h ae rfl ?_;refine aa (i8 (by omega)) ?_;refine aj (ox _ _ _ H) ?_
 by_cases hn : flow.tmod sh < 0
 ·refine aa (cJ hn) ?_
  refine gs ?_;refine aq h ae rfl ?_;refine aa (aO (by omega) (by omega)) ?_;refine aj (iJ _ _ H) ?_;refine ap ⟨(), ?_, h⟩;have : (flow.tmod sh + sh).tmod sh = flow.tmod sh + sh := Int.tmod_eq_of_lt (by omega) (by omega);rw [this]
 ·refine aa (b4 hn) ?_
  refine gs ?_;refine aj (iJ _ _ H) ?_;refine ap ⟨(), ?_, h⟩
  have : (flow.tmod sh + sh).tmod sh = flow.tmod sh := by
   rw [Xv (by omega), Int.add_emod_right];exact Int.emod_eq_of_lt (by omega) (by omega)
  rw [this]
end
theorem t7 (w pl k : Int) : ∀ ws : List (Int × Int), fR (ws ++ [(w, pl)]) k = if k = w then pl else fR ws k := by
 intro ws
 induction ws with
 | nil =>
  simp only [List.nil_append, fR, List.any_nil]
  by_cases e : k = w
  ·subst e; simp
  ·have : ¬ w = k := fun q => e q.symm
   simp [e, this]
 | cons p ws ih =>
  simp only [List.cons_append, fR, ih, List.any_append, List.any_cons, List.any_nil, Bool.or_false]
  by_cases e : k = w
  ·subst e; simp
  ·have h1 : ((w == k) : Bool) = false := by simpa using fun q => e q.symm
   rw [h1, Bool.or_false];simp only [if_neg e]
theorem EI (ws : List (Int × Int)) (k : Int) (j : Nat) (hj : j < ws.length) : fR (ws.take (j + 1)) k = if k = ws[j].1 then ws[j].2 else fR (ws.take j) k := by
 rw [List.take_succ_eq_append_getElem hj];exact t7 ws[j].1 ws[j].2 k (ws.take j)
theorem nF (ws : List (Int × Int)) : (dZ ws).length = 2 * ws.length := by
 unfold dZ
 induction ws with
 | nil => rfl
 | cons p ws ih => rw [List.flatMap_cons, nC, ih]; simp; omega
theorem P9 : ∀ (ws : List (Int × Int)) (j : Nat) (hj : j < ws.length), (dZ ws)[2 * j]? = some ws[j].1 ∧ (dZ ws)[2 * j + 1]? = some ws[j].2 := by
 intro ws
 induction ws with
 | nil => intro j hj; simp at hj
 | cons p ws ih =>
  intro j hj
  cases j with
  | zero => exact ⟨rfl, rfl⟩
  | succ j =>
   have h := ih j (by simpa using hj);have e : dZ (p :: ws) = p.1 :: p.2 :: dZ ws := rfl;rw [e, show 2 * (j + 1) = 2 * j + 2 from by omega];exact h
theorem Uh (x : Pt) : ∀ (l : List Pt) (k : Nat), k ≤ l.length → (∀ j p, k ≤ j → l[j]? = some p → x.step < p.step) → (∀ p, 0 < k → l[k - 1]? = some p → p.step ≤ x.step) → tL x l = l.take k ++ x :: l.drop k := by
 intro l
 induction l with
 | nil => intro k hk _ _; simp at hk; subst hk; rfl
 | cons y l ih =>
  intro k hk h1 h2
  cases k with
  | zero =>
   have hy := h1 0 y (bf _) rfl
   have hno : ¬ (y.step ≤ x.step ∨ (l.any fun z => decide (z.step ≤ x.step)) = true) := by
    rintro (h | h)
    ·omega
    ·obtain ⟨z, hz, hzs⟩ := List.any_eq_true.1 h
     obtain ⟨j, hj⟩ := List.mem_iff_getElem?.1 hz;have := h1 (j + 1) z (by omega) (by simpa using hj)
     have hzs : z.step ≤ x.step := by simpa using hzs
     omega
   rw [tL, if_neg hno]
   rfl
  | succ k =>
   have hyes : y.step ≤ x.step ∨ (l.any fun z => decide (z.step ≤ x.step)) = true := by
    cases k with
    | zero => exact .inl (h2 y (by omega) rfl)
    | succ k =>
     right
     have hkl : k < l.length := by simp at hk; omega
     rw [List.any_eq_true];refine ⟨l[k], PN hkl, ?_⟩;have := h2 l[k] (by omega) (by simp [hkl])
     simpa using this
   rw [tL, if_pos hyes, ih k (by simpa using hk) (fun j p hj hp => h1 (j + 1) p (by omega) (by simpa using hp)) (fun p hk0 hp => h2 p (by omega) (by
    rw [show k + 1 - 1 = (k - 1) + 1 from by omega]; simpa using hp))]
   rfl
theorem FJ (l : List Pt) (x : Pt) : bq (l ++ [x]) = tL x (bq l) := by
 unfold bq;rw [List.foldl_append]; rfl
theorem PM (x : Pt) : ∀ l : List Pt, (tL x l).length = l.length + 1 := by
 intro l
 induction l with
 | nil => rfl
 | cons y l ih => rw [tL]; split <;> simp [ih]
theorem HT (l : List Pt) : (bq l).length = l.length := by
 have : ∀ (l acc : List Pt), (l.foldl (fun acc x => tL x acc) acc).length = acc.length + l.length := by
  intro l
  induction l with
  | nil => intro acc; rfl
  | cons x l ih => intro acc; rw [List.foldl_cons, ih, PM]; simp; omega
 have h := this l []
 simpa [bq] using h
theorem WC (e b : Nat) (he : 0 < e) (H : AH) : dX e b (.slice none 0 0) (.slice none 0 0) H = some (.slice none 0 0, H) := by
 unfold dX
 have : j4 e (.slice none 0 0) H = some (0, []) := by simp [j4]
 rw [this];simp [he]
theorem VP {α : Type} {P R : SP} {H : AH} {e : Nat} {enc : α → List Value} {l : List α} {s : Value} (h : ac P H) [f : Ts P s α e enc l R] : s.cells.toList = [s] ∧ [s].all Value.oneCell' = true := by
 rcases qy h (enc := enc) (s := s) with ⟨rfl, _, _⟩ | ⟨bb, rfl, _⟩ <;> exact ⟨rfl, rfl⟩
theorem Hl {α : Type} {P R : SP} {H : AH} {e : Nat} {enc : α → List Value} {l : List α} {s : Value} {lo hi : Option Value} {a b : Nat} (h : ac P H) [f : Ts P s α e enc l R] [E : Enc enc e] (hlo : (lo = none ∧ a = 0) ∨ ∃ k, lo = some (.int k (a : Int)))
 (hhi : (hi = none ∧ b = l.length) ∨ ∃ k, hi = some (.int k (b : Int))) (h1 : a ≤ b) (h2 : b ≤ l.length) : ∃ s', dY e s lo hi = some s' ∧ Rd P s' e enc ((l.take b).drop a) := by
 haveI : Rd P s e enc l := by rw [f.eq]; infer_instance
 by_cases h0 : 0 < l.length
 ·exact Vh h hlo hhi h1 h2 h0
 ·have hl : l = [] := List.eq_nil_of_length_eq_zero (by omega)
  subst hl
  have hb0 : b = 0 := by simpa using h2
  subst hb0
  have ha0 : a = 0 := by omega
  subst ha0;have hpos := E.pos
  have rd0 : ∀ s', (∃ a c, s' = .slice a 0 c ∧ (a = none → c = 0) ∧ (∀ x, a = some x → ∃ b o, x = ⟨b, o, none⟩)) → Rd P s' e enc (([] : List α).take 0 |>.drop 0) := by
   rintro s' ⟨a, c, rfl, q1, q2⟩
   exact ⟨fun {H'} _ => ⟨by simp, .inl ⟨a, c, rfl, rfl, q1, q2⟩⟩⟩
  rcases qy h (enc := enc) (s := s) with ⟨rfl, _, _⟩ | ⟨bb, rfl, _⟩
  ·refine ⟨.slice none 0 0, ?_, rd0 _ ⟨none, 0, rfl, fun _ => rfl, fun x hx => (by cases hx)⟩⟩
   rcases hlo with ⟨rfl, _⟩ | ⟨k1, rfl⟩ <;> rcases hhi with ⟨rfl, _⟩ | ⟨k2, rfl⟩ <;> simp [dY, lI]
  ·refine ⟨.slice (some ⟨bb, 0, none⟩) 0 e, ?_, rd0 _ ⟨some ⟨bb, 0, none⟩, e, rfl, fun h => (by cases h), fun x hx => ⟨bb, 0, (fg hx).symm⟩⟩⟩
   rcases hlo with ⟨rfl, _⟩ | ⟨k1, rfl⟩ <;> rcases hhi with ⟨rfl, _⟩ | ⟨k2, rfl⟩ <;> simp [dY, lI, hpos]
abbrev az.begin (σ : az) (who place : Int) : az := { σ with places := fun k => if k = who then some place else σ.places k, μ := { σ.μ with N := σ.μ.N + 1 } }
theorem Y2 (p : Nat) (rp : List Nat) (σ : az) (who place : Int) : Sp f3 [vp p, vi who, vi place] (bT p rp σ) (fun _ : Unit => .tuple #[]) (fun _ => bT p rp (σ.begin who place)) := by
 refine aX fun R H h => ?_;obtain ⟨g, hrp, hg, h0⟩ := hM h;unfold aI at h0;refine a9 (fun r => px _ _ _ H) ?_;refine aq h0 ae rfl ?_;refine V4 (ek := FX) who (vi place) h0 fun H1 h1 => ?_;refine ap ⟨(), rfl, ?_⟩;refine bG g hrp hg ?_;unfold aI;dsimp only
 have e : (fun k => ((if k = who then some place else σ.places k) : Option Int).map fun n => vi n) = fun x => if x = who then some (vi place) else (σ.places x).map fun n => vi n := by
  funext k
  split <;> rfl
 rw [e];have h2 := gn (V := σ.μ.V) (E := σ.μ.E) (N := σ.μ.N) (N' := σ.μ.N + 1) (by omega) (ac.fr (A := a8 g.m σ.μ) h1);exact h2.to
theorem ZS (p : Nat) (σ : az) (who place : Int) (hN : σ.μ.N < 1000000000) : Sp iv [vp p, vi who, vi place] (bD p σ) (fun _ : Unit => .tuple #[]) (fun _ => bD p (σ.begin who place)) := by
 refine aX fun R H h => ?_;obtain ⟨g, ⟨hg1, hg2, hg3⟩, h0⟩ := fB h;unfold av at h0;refine a9 (fun r => sA _ _ _ H) ?_;refine aq h0 ae rfl ?_;refine V1 (cs := [vi who, vi place]) h0 rfl fun b H1 h1 => ?_;have h2 := Fj (e := 1) (enc := dC) (l := [who, place]) h1;refine KI (s := g.wv) (l := dZ g.ws) (m := [who, place]) h2 ?_ (by omega) fun v H2 h3 => ?_
 ·rw [nF]; unfold room; simp; omega
 have hc := VP (s := v) (enc := dC) (l := dZ g.ws ++ [who, place]) h3
 haveI : sQ v [v] := ⟨hc.1⟩
 dsimp only;refine bk h3 ae rfl hc.2 fun H3 h4 => ?_;refine ap ⟨(), rfl, ?_⟩
 have e2 : dZ (g.ws ++ [(who, place)]) = dZ g.ws ++ [who, place] := by simp [dZ]
 refine ep { g with wv := v, ws := g.ws ++ [(who, place)] } ⟨hg1, fun k => ?_, by simp; omega⟩ ?_
 ·show fR (g.ws ++ [(who, place)]) k = _
  rw [t7, hg2];show _ = ((if k = who then some place else σ.places k)).getD 0
  split <;> rfl
 unfold av;dsimp only;rw [e2];have h5 := tS (V := σ.μ.V) (E := σ.μ.E) (N := σ.μ.N) (N' := σ.μ.N + 1) (by omega) (ac.fr (A := bm g.m σ.μ) h4);have h6 := nB (L' := σ.μ.N + 1) (by omega) (ac.fr (A := gH g.ib g.m σ.c.sh σ.nx σ.μ.N) h5);exact h6.to
theorem abL (p : Nat) (g : XIds) (σ : az) (step who code : Int) (hpl : fR g.ws who = (σ.places who).getD 0) (hw : g.ws.length < 1000000000) (hp : σ.pts.length < 900000) :
 Sp UC [vp p, vi step, vi who, .agg (m0 code).toArray] (av p g σ) (fun _ : Value => .tuple #[]) (fun v => av p { g with pv := v } (σ.note step who code)) := by
 refine aY (ZB _ _ _ _) fun R H h => ?_;refine aZ h fun rb H1 h1 => ?_;refine aj (Qr _ _ _ _ _ H1) ?_;refine aj (J7 _ _ _ _ _ _ H1) ?_;have place : ∀ (d j : Nat), j + d = g.ws.length → wp (J4 (vp p) (vi step) (vi who) (vp rb) (vi (fR g.ws who)) H1) (fun v' H' => ∃ x : Value, v' = .tuple #[] ∧ ac (av p { g with pv := x } (σ.note step who code) * R) H') →
  wp (yD (vp p) (vi step) (vi who) (vp rb) (vi (fR (g.ws.take j) who)) (vi ((2 * j : Nat) : Int)) H1) (fun v' H' => ∃ x : Value, v' = .tuple #[] ∧ ac (av p { g with pv := x } (σ.note step who code) * R) H') := by
  have h2 := h1;unfold av at h2;intro d
  induction d with
  | zero =>
   intro j hj hk;refine aj (Az _ _ _ _ _ _ H1) ?_;refine aq h1 ae rfl ?_;refine ja (s := g.wv) (l := dZ g.ws) h2 ?_;rw [nF];refine aa (b4 (by omega)) ?_;refine gs ?_;refine aj (EV _ _ _ _ _ H1) ?_;rw [List.take_of_length_le (by omega)];exact hk
  | succ d ih =>
   intro j hj hk
   have hjl : j < g.ws.length := by omega
   obtain ⟨a1, a2⟩ := P9 g.ws j hjl;have hlen := nF g.ws;refine aj (Az _ _ _ _ _ _ H1) ?_;refine aq h1 ae rfl ?_;refine ja (s := g.wv) (l := dZ g.ws) h2 ?_;rw [nF];refine aa (cJ (by omega)) ?_;refine gs ?_;refine aj (J8 _ _ _ _ _ _ H1) ?_;refine aq h1 ae rfl ?_;refine i9 (s := g.wv) (l := dZ g.ws) (i := 2 * j) (v := vi g.ws[j].1) h2 (by omega) ?_ ?_
   ·rw [br (by omega)] at a1
    rw [fg a1]; rfl
   have next : ∀ pl : Int, fR (g.ws.take (j + 1)) who = pl → wp (yE (vp p) (vi step) (vi who) (vp rb) (vi pl) (vi ((2 * j : Nat) : Int)) H1) (fun v' H' => ∃ x : Value, v' = .tuple #[] ∧ ac (av p { g with pv := x } (σ.note step who code) * R) H') := by
    intro pl hpl2;refine aj (J9 _ _ _ _ _ _ H1) ?_;refine aa (aO (by omega) (by omega)) ?_;have := ih (j + 1) (by omega) hk;rw [hpl2] at this;rw [show ((2 * j : Nat) : Int) + 2 = ((2 * (j + 1) : Nat) : Int) from by omega];exact this
   have ht := EI g.ws who j hjl
   by_cases hwho : g.ws[j].1 = who
   ·refine aa (bv hwho) ?_
    refine gs ?_;refine aq h1 ae rfl ?_;refine aa (aO (by omega) (by omega)) ?_;rw [show ((2 * j : Nat) : Int) + 1 = ((2 * j + 1 : Nat) : Int) from by omega];refine i9 (s := g.wv) (l := dZ g.ws) (i := 2 * j + 1) (v := vi g.ws[j].2) h2 (by omega) ?_ ?_
    ·rw [br (by omega)] at a2
     rw [fg a2]; rfl
    exact next _ (by rw [ht, if_pos hwho.symm])
   ·refine aa (aR hwho) ?_
    refine gs ?_;exact next _ (by rw [ht, if_neg (fun q => hwho q.symm)])
 refine place g.ws.length 0 (by omega) ?_;rw [hpl];refine aj (Qs _ _ _ _ _ H1) ?_;refine aq h1 aD rfl ?_;refine aj (show ((dX 3 24 (.slice none 0 0) (.slice none 0 0) H1).bind _) = _ from by rw [WC 3 24 (by omega)]) ?_;refine bk h1 aD rfl rfl fun H2 h2 => ?_;refine aq h2 ae rfl ?_;have h2u := h2;unfold av at h2u;have hlen := HT σ.pts;refine ja (s := g.pv) (l := bq σ.pts) h2u ?_;refine aj (Qt _ _ _ _ _ _ H2) ?_
 -- behind all that are not behind it
 have put : ∀ k, k ≤ (bq σ.pts).length → (∀ j p, k ≤ j → (bq σ.pts)[j]? = some p → step < p.step) → (∀ p, 0 < k → (bq σ.pts)[k - 1]? = some p → p.step ≤ step) →
  wp (J6 (vp p) (vi step) (vi who) (vp rb) (vi ((σ.places who).getD 0)) (vi (k : Int)) H2) (fun v' H' => ∃ x : Value, v' = .tuple #[] ∧ ac (av p { g with pv := x } (σ.note step who code) * R) H') := by
  intro k hk ha hb;have hins := Uh ⟨step, who, (σ.places who).getD 0, code⟩ (bq σ.pts) k hk ha hb;refine aj (Qu _ _ _ _ _ _ H2) ?_;refine aq h2 ae rfl ?_;have q1 : ac (ts 7 Pt.cells g.pv (bq σ.pts)) H2 := h2u.to;obtain ⟨s1, e1, r1⟩ := Hl (s := g.pv) (l := bq σ.pts) (lo := none) (hi := some (vi (k : Int))) (a := 0) (b := k) q1 (.inl ⟨rfl, rfl⟩) (.inr ⟨_, rfl⟩) (Nat.zero_le _) hk;refine aa e1 ?_;have h3 := d6 7 Pt.cells h2u;refine KI (s := .slice none 0 0) (l := ([] : List Pt)) (m := ((bq σ.pts).take k).drop 0) h3 ?_ (by omega) fun v3 H3 h4 => ?_
  ·unfold room; simp only [List.length_drop, List.length_take, List.length_nil]; omega
  rw [List.nil_append, List.drop_zero] at h4;refine aU h4 ?_;refine j9 ?_;refine KG h4 fun b0 H5 h5 => ?_;refine gX (s := v3) (l := (bq σ.pts).take k) (⟨step, who, (σ.places who).getD 0, code⟩ : Pt) h5 rfl ?_ (by omega) fun a cc H6 h6 => ?_
  ·unfold room; simp only [List.length_take]; omega
  refine aq h6 ae rfl ?_;have q2 : ac (ts 7 Pt.cells g.pv (bq σ.pts)) H6 := h6.to;obtain ⟨s2, e2, r2⟩ := Hl (s := g.pv) (l := bq σ.pts) (lo := some (vi (k : Int))) (hi := none) (a := k) (b := (bq σ.pts).length) q2 (.inr ⟨_, rfl⟩) (.inl ⟨rfl, rfl⟩) hk (bf _);refine aa e2 ?_;refine KI (s := .slice a (((bq σ.pts).take k).length + 1) cc) (l := (bq σ.pts).take k ++ [(⟨step, who, (σ.places who).getD 0, code⟩ : Pt)]) (m := ((bq σ.pts).take (bq σ.pts).length).drop k) h6 ?_ (by omega) fun v4 H7 h7 => ?_
  ·unfold room; simp only [List.length_drop, List.length_take, nC, List.length_cons, List.length_nil]; omega
  have hc := VP (s := v4) (enc := Pt.cells) (l := ((bq σ.pts).take k ++ [(⟨step, who, (σ.places who).getD 0, code⟩ : Pt)]) ++ ((bq σ.pts).take (bq σ.pts).length).drop k) h7
  haveI : sQ v4 [v4] := ⟨hc.1⟩
  dsimp only;refine bk h7 ae rfl hc.2 fun H8 h8 => ?_;refine ap ⟨v4, rfl, ?_⟩
  have e3 : bq (σ.note step who code).pts = ((bq σ.pts).take k ++ [(⟨step, who, (σ.places who).getD 0, code⟩ : Pt)]) ++ ((bq σ.pts).take (bq σ.pts).length).drop k := by
   show bq (σ.pts ++ [_]) = _;rw [FJ, hins, List.take_length];simp
  unfold av;dsimp only;rw [e3];exact h8.to
 have down : ∀ (k : Nat), k ≤ (bq σ.pts).length → (∀ j p, k ≤ j → (bq σ.pts)[j]? = some p → step < p.step) →
  wp (yC (vp p) (vi step) (vi who) (vp rb) (vi ((σ.places who).getD 0)) (vi (k : Int)) H2) (fun v' H' => ∃ x : Value, v' = .tuple #[] ∧ ac (av p { g with pv := x } (σ.note step who code) * R) H') := by
  intro k
  induction k with
  | zero =>
   intro hk ha;refine aj (Ay _ _ _ _ _ _ H2) ?_;refine aa (jQ (by omega)) ?_;refine gs ?_;refine aj (us _ _ _ _ _ _ H2) ?_;exact put 0 hk ha (fun p h => absurd h (by omega))
  | succ k ih =>
   intro hk ha
   have hkl : k < (bq σ.pts).length := by omega
   refine aj (Ay _ _ _ _ _ _ H2) ?_;refine aa (wH (by omega)) ?_;refine gs ?_;refine aq h2 ae rfl ?_;refine gs ?_;refine aa (mp (by omega) (by omega)) ?_;rw [show ((k + 1 : Nat) : Int) - 1 = (k : Int) from by omega];refine gs ?_;refine Fm (s := g.pv) (l := bq σ.pts) (v := vi ((bq σ.pts)[k]).step) h2u hkl (by omega) rfl ?_;refine gs ?_
   by_cases hs : step < ((bq σ.pts)[k]).step
   ·refine aa (wH hs) ?_
    refine gs ?_;refine aj (J5 _ _ _ _ _ _ H2) ?_;refine aa (mp (by omega) (by omega)) ?_;rw [show ((k + 1 : Nat) : Int) - 1 = (k : Int) from by omega];refine ih (by omega) fun j p hj hp => ?_
    by_cases e : j = k
    ·subst e
     rw [br hkl] at hp;rw [← fg hp]; exact hs
    ·exact ha j p (by omega) hp
   ·refine aa (jQ hs) ?_
    refine gs ?_;refine aj (us _ _ _ _ _ _ H2) ?_;refine put (k + 1) hk ha fun p _ hp => ?_;rw [show k + 1 - 1 = k from by omega, br hkl] at hp;rw [← fg hp]; omega
 exact down (bq σ.pts).length (bf _) fun j p hj hp => by
  rw [List.getElem?_eq_none hj] at hp; cases hp
structure Xk where
 a : Nat
 I : Nat
 free : Int
 hit : Bool
 obj : Nat
 w : Nat
 h : Nat
 q : Nat
 top : Nat
 mark : Int
 code : Int
abbrev xB (x P : Nat) (t : Tk) (k : Xk) : SP :=
 blk x (.cells false [vp P, vi t.who, vi t.x.op, vi t.x.flow, vi t.x.a, vi t.x.b, vi k.a, vi k.I, vi k.free, vb k.hit, vi k.obj, vu k.w, vu k.h, vu k.q, vw 0, vu k.top, vi k.mark, vi k.code, .slice none 0 0, vi 0, vw 0,
  vi 0, vi 0, .slice none 0 0, vw 0, vw 0, vi 0, vi 0, vi 0, vb false, vi 0, .slice none 0 0, vi 0, vw 0])
def f9 (t : Tk) (k : Xk) : Prop := k.a = t.at' ∧ match t.at' with
 | 0 => k.I = t.i ∧ k.hit = false
 | 2 => k.I = t.i ∧ k.hit = false
 | 4 => k.I = t.i ∧ k.hit = false
 | 5 => k.hit = t.found ∧ (t.found = true → k.obj = t.obj) ∧ (t.found = false → k.code = t.code)
 | 6 => k.obj = t.obj
 | 7 => k.obj = t.obj
 | 8 => k.obj = t.obj ∧ k.w = t.w
 | 9 => k.obj = t.obj ∧ k.w = t.w
 | 10 => k.obj = t.obj ∧ k.w = t.w ∧ k.q = 0 ∧ k.code = t.code
 | 11 => k.obj = t.obj ∧ k.w = t.w ∧ k.code = t.code
 | 12 => k.obj = t.obj ∧ k.w = t.w
 | 13 => k.obj = t.obj ∧ k.w = t.w
 | 14 => k.obj = t.obj ∧ k.w = t.w ∧ k.q = 1 ∧ k.code = t.code
 | 15 => k.obj = t.obj
 | 16 => k.obj = t.obj ∧ k.q = t.q
 | 17 => k.obj = t.obj ∧ k.w = t.w ∧ k.q = t.q
 | 18 => k.obj = t.obj ∧ k.q = t.q ∧ k.mark = t.mark
 | 20 => k.obj = t.obj
 | 21 => k.obj = t.obj ∧ k.w = t.w ∧ k.code = t.code
 | 22 => k.obj = t.obj ∧ k.code = t.code
 | 23 => k.obj = t.obj ∧ k.top = t.top ∧ k.code = t.code
 | 24 => k.obj = t.obj ∧ k.top = t.top ∧ k.code = t.code
 | 25 => k.code = t.code
 | _ => True
def xP (x P : Nat) (σ : az) (t : Tk) : SP := ex fun k : Xk => pu (f9 t k) * (xB x P t k * bD P σ)
def xQ (x P : Nat) (r : az × Tk × Bool) : SP := ex fun k : Xk => pu (if r.2.2 = true then k.code = r.2.1.code else f9 r.2.1 k) * (xB x P r.2.1 k * bD P r.1)
section
variable {x P : Nat} {g : XIds} {σ σ' : az} {t t' : Tk} {R : SP} {H : AH} {r : az × Tk × Bool} {k : Xk}
theorem b9 (h : ac (xP x P σ t * R) H) : ∃ (k : Xk) (g : XIds), f9 t k ∧ fQ g σ ∧ ac (xB x P t k * (av P g σ * R)) H := by
 obtain ⟨k, h1⟩ := ac.ex.1 h;rw [ar, ac.pu] at h1;obtain ⟨g, h2, h3⟩ := fB (p := P) (σ := σ) (R := xB x P t k * R) (H := H) h1.2.to;exact ⟨k, g, h1.1, h2, h3.to⟩
theorem cH (hr : r = (σ', t', false)) (hR : f9 t' k) (hg : fQ g σ') (h : ac (xB x P t' k * (av P g σ' * R)) H) : ∃ y : Unit, (vb false : Value) = vb r.2.2 ∧ ac (xQ x P r * R) H := by
 subst hr;refine ⟨(), rfl, ac.ex.2 ⟨k, ?_⟩⟩;rw [ar, ac.pu];have h1 := ep (p := P) (σ := σ') (R := xB x P t' k * R) g hg h.to;exact ⟨hR, h1.to⟩
theorem Bf (hr : r = (σ', t', true)) (hc : k.code = t'.code) (hg : fQ g σ') (h : ac (xB x P t' k * (av P g σ' * R)) H) : ∃ y : Unit, (vb true : Value) = vb r.2.2 ∧ ac (xQ x P r * R) H := by
 subst hr;refine ⟨(), rfl, ac.ex.2 ⟨k, ?_⟩⟩;rw [ar, ac.pu];have h1 := ep (p := P) (σ := σ') (R := xB x P t' k * R) g hg h.to;exact ⟨hc, h1.to⟩
theorem lj {c : eR} {μ' : Mu} {obs' : List (Ob × List Pk)} {nx' : Int → Option Nat} {pts' : List Pt} {pv : Value} (h : fQ g σ) (hN : σ.μ.N ≤ μ'.N) (ho : obs'.length = σ.obs.length) : fQ { g with pv := pv } ⟨c, μ', obs', nx', σ.places, pts'⟩ :=
 ⟨h.1.trans ho.symm, h.2.1, dN h.2.2 hN⟩
theorem aE {c : eR} {μ' : Mu} {obs' : List (Ob × List Pk)} {nx' : Int → Option Nat} {pts' : List Pt} (h : fQ g σ) (hN : σ.μ.N ≤ μ'.N) (ho : obs'.length = σ.obs.length) : fQ g ⟨c, μ', obs', nx', σ.places, pts'⟩ :=
 ⟨h.1.trans ho.symm, h.2.1, dN h.2.2 hN⟩
end
section
variable (x P : Nat) (g : XIds) (σ : az) (t : Tk) (k : Xk)
theorem jo (hl : g.rp.length = σ.obs.length) (b : Nat) (ho : k.obj < σ.obs.length) (hb : g.rp[k.obj]? = some b) : Sp bx [vp x] (xB x P t k * av P g σ) (fun _ : Unit => vp b) (fun _ => xB x P t k * av P g σ) := by
 refine aY (vY _) fun R H h => ?_;refine aq h ae rfl ?_;refine aq h ae rfl ?_;refine aq h ae rfl ?_;have h2 := h;unfold av at h2;refine i9 (s := g.rv) (l := g.rp) (v := vp b) h2 (by omega) ?_ ?_
 ·rw [br (by omega)] at hb
  rw [fg hb]
 exact ap ⟨(), rfl, h⟩
theorem uO (hw : k.w < 18446744073709551616) : Sp dU [vp x] (xB x P t k) (fun _ : Unit => vu (ay k.w)) (fun _ => xB x P t k) := by
 refine aY (ur _) fun R H h => ?_;refine aq h ae rfl ?_;refine ag h (mX k.w hw) fun _ H1 h1 => ?_;refine aa (v := vu (ay k.w)) rfl ?_;refine aa (v := vi (aH k.w)) rfl ?_;refine aa (v := vb (bZ k.w)) rfl ?_;exact ap ⟨(), rfl, h1.to⟩
theorem NN (S : SOk σ) (hl : g.rp.length = σ.obs.length) (b : Nat) (ho : k.obj < σ.obs.length) (hb : g.rp[k.obj]? = some b) :
 Sp gz [vp x] (xB x P t k * av P g σ) (fun _ : Unit => vi (aH (σ.μ.V (11, (k.obj : Int), 0)))) (fun _ => xB x P t { k with w := σ.μ.V (11, (k.obj : Int), 0) } * av P g (σ.mem (σ.μ.acc t.who 1 (11, (k.obj : Int), 0)))) := by
 have hN : σ.μ.N < 1099511627000 := by have := S.N; omega
 refine aY (vZ _) fun R H h => ?_;refine ag h (jo x P g σ t k hl b ho hb) fun _ H1 h1 => ?_;refine bg ae ?_;refine aN h1 rfl ?_;refine aG h h1 (by rfl) ?_;refine ag h1 (mm (p := P) (μ' := σ.μ.acc t.who 1 (11, (k.obj : Int), 0)) (by simp) hl ho hb (KR g.m k.obj b (aw σ k.obj) σ.μ t.who hN)) fun _ H2 h2 => ?_;refine bk h2 ae rfl rfl fun H3 h3 => ?_;refine aq h3 ae rfl ?_;refine ag h3 (mX _ (S.V _)) fun _ H4 h4 => ?_;refine aa (v := vu (ay (σ.μ.V (11, (k.obj : Int), 0)))) rfl ?_;refine aa (v := vi (aH (σ.μ.V (11, (k.obj : Int), 0)))) rfl ?_;refine aa (v := vb (bZ (σ.μ.V (11, (k.obj : Int), 0)))) rfl ?_;exact ap ⟨(), rfl, h4.to⟩
theorem yH (hg : fQ g σ) (now e : Int) (hN : σ.μ.N < 1000000000) (hp : σ.pts.length < 900000) :
 Sp cm [vp x, vi now, vi e] (xB x P t k * av P g σ) (fun _ : Value => .tuple #[]) (fun v => xB x P t { k with code := e } * av P { g with pv := v } (σ.note now t.who e)) := by
 refine aY (vX _ _ _) fun R H h => ?_;refine j9 ?_;refine bk h ae rfl rfl fun H1 h1 => ?_;refine aq h1 ae rfl ?_;refine aq h1 ae rfl ?_;refine V0 h1 ae ?_;refine ag h1 (abL P g σ now t.who e (hg.2.1 _) (by have := hg.2.2; omega) hp) fun v H2 h2 => ?_;exact ap ⟨v, rfl, h2.to⟩
def wq (t1 : Tk) (k k' : Xk) : Prop := k'.a = k.a ∧ k'.w = k.w ∧ k'.q = k.q ∧ k'.top = k.top ∧ k'.mark = k.mark ∧ k'.code = k.code ∧ (t1.found = true → k'.hit = true ∧ k'.obj = t1.obj) ∧ (t1.found = false → k'.hit = k.hit ∧ k'.I = k.I + 1)
theorem NM (S : SOk σ) (T : eG σ t) (hI : k.I = t.i) (hi : (t.i : Int) < σ.c.sl) :
 Sp M2 [vp x] (xB x P t k * av P g σ) (fun _ : Xk => .tuple #[vb (aA σ t).found, vb (!(aA σ t).found && cz σ (aA σ t))]) (fun k' => pu (wq (aA σ t) k k') * (xB x P t k' * av P g (bJ σ t))) := by
 have hN : σ.μ.N < 1099511627000 := by have := S.N; omega
 have hc := bE.1 S.c;refine aY (ZD _) fun R H h => ?_;refine bg ae ?_;refine aN h rfl ?_;refine bg ae ?_;refine aN h rfl ?_;refine bg ae ?_;refine aN h rfl ?_;refine aq h ae rfl ?_;refine aq h ae rfl ?_;refine aq h (gf (bR (bR bU))) rfl ?_;refine ag h (KV (p := P) (g := g) (σ := σ) (uP g.tb g.m σ.c.sh.toNat σ.c.sl.toNat (by omega) t.x.flow)) fun _ H1 h1 => ?_;refine aG h1 h (by rfl) ?_;refine aG h1 h (by rfl) ?_;refine aG h1 h (by rfl) ?_
 have es : vi ((t.x.flow.tmod (σ.c.sh.toNat : Int) + (σ.c.sh.toNat : Int)).tmod (σ.c.sh.toNat : Int)) = vi t.s := by rw [T.s, show ((σ.c.sh.toNat : Nat) : Int) = σ.c.sh from by omega]
 rw [es];refine bg ae ?_;refine aN h1 rfl ?_;refine aG h h1 (by rfl) ?_;rw [hI]
 have ek : k = { k with I := t.i } := by rw [← hI]
 rw [ek] at h1;refine ag h1 (HJ (p := P) (g := g) (σ := σ) (μ' := σ.μ.acc t.who 1 (10, t.s, (t.i : Int))) (by simp) (Qj g.tb g.m σ.c.sh.toNat σ.c.sl.toNat σ.μ t.who t.s t.i hN (S.V _))) fun _ H2 h2 => ?_;have tail : ∀ (k' : Xk) (H' : AH), wq { aA σ t with found := false } { k with I := t.i } { k' with I := t.i + 1 } → k'.I = t.i → (aA σ t).found = false → ac (xB x P t k' * (av P g (bJ σ t) * R)) H' →
  wp (E3 (vp x) (vb false) (vb false) H') fun v' H' => ∃ k' : Xk, v' = .tuple #[vb (aA σ t).found, vb (!(aA σ t).found && cz σ (aA σ t))] ∧ ac (pu (wq (aA σ t) k k') * (xB x P t k' * av P g (bJ σ t)) * R) H' := by
  intro k' H' hX hI' hf h';refine aj (Qv ..) ?_;refine aq h' ae rfl ?_;rw [hI'];refine aa (aO (by omega) (by omega)) ?_;rw [show ((t.i : Nat) : Int) + 1 = ((t.i + 1 : Nat) : Int) from by omega];refine bk h' ae rfl rfl fun H3 h3 => ?_;refine aq h3 ae rfl ?_;refine aq h3 ae rfl ?_;refine aq h3 ae rfl ?_;have h4 := h3;unfold av tab at h4;refine aq h4 ae rfl ?_;refine aa (v := vb (cz σ (aA σ t))) ?_ ?_
  ·rw [yc]
   congr 3
   show ((σ.c.sl.toNat : Int) ≤ _) = (σ.c.sl ≤ ((t.i + 1 : Nat) : Int));apply propext;omega
  refine ap ⟨{ k' with I := t.i + 1 }, by rw [hf]; rfl, ?_⟩;rw [ar, ac.pu];refine ⟨?_, h3.to⟩
  have e0 : aA σ t = { aA σ t with found := false } := by rw [← hf]
  rw [e0]
  simpa [wq, hI] using hX
 by_cases hv : σ.μ.V (10, t.s, (t.i : Int)) = 0
 ·have e1 : lR (σ.μ.V (10, t.s, (t.i : Int))) = .tuple #[vi 0, vi 0, vb false] := by rw [lR, if_pos hv]
  have hf : (aA σ t).found = false := hZ fun q => q.1 hv;rw [e1];refine aa (v := vi 0) rfl ?_;refine aa (v := vi 0) rfl ?_;refine aa (v := vb false) rfl ?_;refine gs ?_;refine aj (Cz ..) ?_;refine gs ?_;rw [Bool.not_false];refine gs ?_;refine aq h2 ae rfl ?_
  by_cases hfr : k.free < 0
  ·refine lU ?_
   refine aa (cJ hfr) ?_;refine gs ?_;refine aq h2 ae rfl ?_;refine bk h2 ae rfl rfl fun H3 h3 => ?_;exact tail { k with I := t.i, free := t.i } H3 (by simp [wq]) rfl hf h3.to
  ·refine lU ?_
   refine aa (b4 hfr) ?_;refine gs ?_;exact tail { k with I := t.i } H2 (by simp [wq]) rfl hf h2.to
 ·have e1 : lR (σ.μ.V (10, t.s, (t.i : Int))) = .tuple #[vi ((σ.μ.V (10, t.s, (t.i : Int)) / 4294967296 : Nat) - 1), vi (σ.μ.V (10, t.s, (t.i : Int)) % 4294967296 : Nat), vb true] := by rw [lR, if_neg hv]
  rw [e1];refine aa (v := vi ((σ.μ.V (10, t.s, (t.i : Int)) / 4294967296 : Nat) - 1)) rfl ?_;refine aa (v := vi (σ.μ.V (10, t.s, (t.i : Int)) % 4294967296 : Nat)) rfl ?_;refine aa (v := vb true) rfl ?_;refine gs ?_;refine aq h2 (gf (bR (bR bU))) rfl ?_;refine lU ?_
  by_cases hf : ((σ.μ.V (10, t.s, (t.i : Int)) / 4294967296 : Nat) : Int) - 1 = t.x.flow
  ·have hfo : (aA σ t).found = true := ia ⟨hv, hf⟩
   have hob : (aA σ t).obj = σ.μ.V (10, t.s, (t.i : Int)) % 4294967296 := if_pos hfo;refine aa (bv hf) ?_;refine gs ?_;refine bk h2 ae rfl rfl fun H3 h3 => ?_;refine bk h3 ae rfl rfl fun H4 h4 => ?_;refine ap ⟨{ k with I := t.i, hit := true, obj := σ.μ.V (10, t.s, (t.i : Int)) % 4294967296 }, by rw [hfo]; rfl, ?_⟩;rw [ar, ac.pu];exact ⟨by simp [wq, hfo, hob], h4.to⟩
  ·have hfo : (aA σ t).found = false := hZ fun q => hf q.2
   refine aa (aR hf) ?_;refine gs ?_;refine aj (Cz ..) ?_;refine gs ?_;rw [Bool.not_true];refine gs ?_;exact tail { k with I := t.i } H2 (by simp [wq]) rfl hfo h2.to
theorem Hy {R : SP} {H : AH} {Q : Value → AH → Prop} (now : Int) (S : SOk σ) (T : eG σ t) (h : ac (xB x P t k * (av P g σ * R)) H)
 (hk : ∀ b H', ac (blk b (.cells false [vi t.x.flow, vi t.x.a, vi t.x.b]) * (xB x P t k * (av P g σ * R))) H' → wp (Ka (vp x) (vi now) (vb false) (vp P) (vi t.s) (vp b) H') Q) :
 wp (FF dr [vp x, vi now] H) Q := by
 have hc := bE.1 S.c;refine a9 (fun r => ZC _ _ H) ?_;refine bg ae ?_;refine aN h rfl ?_;refine aq h ae rfl ?_;refine aq h ae rfl ?_;refine aq h (gf (bR (bR bU))) rfl ?_;refine ag h (KV (p := P) (g := g) (σ := σ) (uP g.tb g.m σ.c.sh.toNat σ.c.sl.toNat (by omega) t.x.flow)) fun _ H1 h1 => ?_;refine aG h1 h (by rfl) ?_
 have es : vi ((t.x.flow.tmod (σ.c.sh.toNat : Int) + (σ.c.sh.toNat : Int)).tmod (σ.c.sh.toNat : Int)) = vi t.s := by rw [T.s, show ((σ.c.sh.toNat : Nat) : Int) = σ.c.sh from by omega]
 rw [es];refine aq h1 (gf (bR (bR bU))) rfl ?_;refine aq h1 (gf (bR (bR bU))) rfl ?_;refine aq h1 (gf (bR (bR bU))) rfl ?_;refine j9 ?_;refine bj h1 fun b H2 h2 => ?_;refine f7 h2 rfl rfl fun H3 h3 => ?_;exact hk b H3 h3.to
theorem bu {R : SP} {H : AH} {Q : Value → AH → Prop} (now : Int) (S : SOk σ) (T : eG σ t) (ha : k.a ≠ 0) (h : ac (xB x P t k * (av P g σ * R)) H)
 (hk : ∀ b H', ac (blk b (.cells false [vi t.x.flow, vi t.x.a, vi t.x.b]) * (xB x P t k * (av P g σ * R))) H' → wp (nJ (vp x) (vi now) (vb false) (vp P) (vi t.s) (vp b) (vi k.a) H') Q) :
 wp (FF dr [vp x, vi now] H) Q := by
 refine Hy x P g σ t k now S T h fun b H1 h1 => ?_;refine aj (Cx ..) ?_;refine aq h1 ae rfl ?_;refine aa (aR (by omega)) ?_;refine gs ?_;refine aj (Cy ..) ?_;refine aq h1 ae rfl ?_;exact hk b H1 h1
end
theorem ml {f : Nat} {args : List Value} {H : AH} {Q : Value → AH → Prop} (h : wp (FF f args H) Q) : wp ((FF f args H).bind fun r => some (r.1, r.2)) Q := by
 obtain ⟨v, H', e, q⟩ := h;rw [e]; exact ⟨v, H', rfl, q⟩
section
variable (x P : Nat) (σ : az) (t : Tk) (now : Int)
theorem ch6 {x0 x1 x4 x5 x6 x7 : Value} {a : Nat} {H : AH} {Q : Value → AH → Prop} (h : a ≠ 2 ∧ a ≠ 3 ∧ a ≠ 4 ∧ a ≠ 5) (hk : wp ((ak .other .eql (vi (a : Int)) (vi 6)).bind fun v => EW x0 x1 x4 x5 x6 x7 (vi (a : Int)) v H) Q) : wp (nJ x0 x1 x4 x5 x6 x7 (vi (a : Int)) H) Q := by
 refine aj (kA ..) ?_;refine aa (aR (by omega)) ?_;refine aj (mZ ..) ?_;refine gs ?_;refine aa (aR (by omega)) ?_;refine aj (nI ..) ?_;refine gs ?_;refine aa (aR (by omega)) ?_;refine aj (sC ..) ?_;refine gs ?_;refine aa (aR (by omega)) ?_;refine aj (AA ..) ?_;refine gs ?_;exact hk
theorem ch8 {x0 x1 x4 x5 x6 x7 : Value} {a : Nat} {H : AH} {Q : Value → AH → Prop} (h : a ≠ 2 ∧ a ≠ 3 ∧ a ≠ 4 ∧ a ≠ 5 ∧ a ≠ 6 ∧ a ≠ 7) (hk : wp ((ak .other .eql (vi (a : Int)) (vi 8)).bind fun v => EX x0 x1 x4 x5 x6 x7 (vi (a : Int)) v H) Q) : wp (nJ x0 x1 x4 x5 x6 x7 (vi (a : Int)) H) Q := by
 refine ch6 (by omega) ?_;refine aa (aR (by omega)) ?_;refine aj (sD ..) ?_;refine gs ?_;refine aa (aR (by omega)) ?_;refine aj (AB ..) ?_;refine gs ?_;exact hk
theorem Y4 {x0 x1 x4 x5 x6 x7 : Value} {a : Nat} {H : AH} {Q : Value → AH → Prop} (h : a ≠ 2 ∧ a ≠ 3 ∧ a ≠ 4 ∧ a ≠ 5 ∧ a ≠ 6 ∧ a ≠ 7 ∧ a ≠ 8 ∧ a ≠ 9 ∧ a ≠ 13) (hk : wp ((ak .other .eql (vi (a : Int)) (vi 10)).bind fun v98 => ax v98 (ut x0 x1 x4 x5 x6 x7 (vi (a : Int)) v98 H) ((ak .other .eql (vi (a : Int)) (vi 14)).bind fun v99 => ut x0 x1 x4 x5 x6 x7 (vi (a : Int)) v99 H)) Q) : wp (nJ x0 x1 x4 x5 x6 x7 (vi (a : Int)) H) Q := by
 refine ch8 (by omega) ?_;refine aa (aR (by omega)) ?_;refine aj (nK ..) ?_;refine gs ?_;refine aa (aR (by omega)) ?_;refine gs ?_;refine aa (aR (by omega)) ?_;refine aj (sE ..) ?_;refine gs ?_;exact hk
theorem Y5 {x0 x1 x4 x5 x6 x7 : Value} {a : Nat} {H : AH} {Q : Value → AH → Prop} (h : a ≠ 2 ∧ a ≠ 3 ∧ a ≠ 4 ∧ a ≠ 5 ∧ a ≠ 6 ∧ a ≠ 7 ∧ a ≠ 8 ∧ a ≠ 9 ∧ a ≠ 10 ∧ a ≠ 13 ∧ a ≠ 14) (hk : wp ((ak .other .eql (vi (a : Int)) (vi 11)).bind fun v => EZ x0 x1 x4 x5 x6 (vi (a : Int)) v H) Q) : wp (nJ x0 x1 x4 x5 x6 x7 (vi (a : Int)) H) Q := by
 refine Y4 (by omega) ?_;refine aa (aR (by omega)) ?_;refine gs ?_;refine aa (aR (by omega)) ?_;refine aj (sF ..) ?_;refine gs ?_;exact hk
theorem RP {x0 x1 x4 x5 x6 x7 : Value} {a : Nat} {H : AH} {Q : Value → AH → Prop} (h : a ≠ 2 ∧ a ≠ 3 ∧ a ≠ 4 ∧ a ≠ 5 ∧ a ≠ 6 ∧ a ≠ 7 ∧ a ≠ 8 ∧ a ≠ 9 ∧ a ≠ 10 ∧ a ≠ 11 ∧ a ≠ 12 ∧ a ≠ 13 ∧ a ≠ 14) (hk : wp ((ak .other .eql (vi (a : Int)) (vi 15)).bind fun v92 => ax v92 (j6 x0 x1 x4 x6 v92 H) ((ak .other .eql (vi (a : Int)) (vi 16)).bind fun v93 => ax v93 (j6 x0 x1 x4 x6 v93 H) ((ak .other .eql (vi (a : Int)) (vi 17)).bind fun v94 => ax v94 (j6 x0 x1 x4 x6 v94 H) ((ak .other .eql (vi (a : Int)) (vi 18)).bind fun v95 => j6 x0 x1 x4 x6 v95 H)))) Q) : wp (nJ x0 x1 x4 x5 x6 x7 (vi (a : Int)) H) Q := by
 refine Y5 (by omega) ?_;refine aa (aR (by omega)) ?_;refine aj (sG ..) ?_;refine gs ?_;refine aa (aR (by omega)) ?_;refine aj (AC ..) ?_;refine gs ?_;exact hk
theorem ZV {x0 x1 x4 x5 x6 x7 : Value} {a : Nat} {H : AH} {Q : Value → AH → Prop} (h : a ≠ 2 ∧ a ≠ 3 ∧ a ≠ 4 ∧ a ≠ 5 ∧ a ≠ 6 ∧ a ≠ 7 ∧ a ≠ 8 ∧ a ≠ 9 ∧ a ≠ 10 ∧ a ≠ 11 ∧ a ≠ 12 ∧ a ≠ 13 ∧ a ≠ 14 ∧ a ≠ 15 ∧ a ≠ 16 ∧ a ≠ 17 ∧ a ≠ 18) (hk : wp ((FF UD [x0, x6] H).bind fun r91 => some (r91.1, r91.2)) Q) : wp (nJ x0 x1 x4 x5 x6 x7 (vi (a : Int)) H) Q := by
 refine RP (by omega) ?_;refine aa (aR (by omega)) ?_;refine gs ?_;refine aa (aR (by omega)) ?_;refine gs ?_;refine aa (aR (by omega)) ?_;refine gs ?_;refine aa (aR (by omega)) ?_;refine aj (lu ..) ?_;refine gs ?_;exact hk
theorem Yb (S : SOk σ) (T : eG σ t) (hat : t.at' = 3) : Sp dr [vp x, vi now] (xP x P σ t) (fun _ : Unit => vb (ah σ t now).2.2) (fun _ => xQ x P (ah σ t now)) := by
 have hN : σ.μ.N < 1099511627000 := by have := S.N; omega
 refine aX fun R H h => ?_;obtain ⟨k, g, hR, hg, h0⟩ := b9 h;have hl := hg.1;simp only [f9, hat] at hR;obtain ⟨ha, _⟩ := hR;refine bu x P g σ t k now S T (by omega) h0 fun b1 H1 h1 => ?_;refine aj (kA ..) ?_;refine aa (aR (by omega)) ?_;refine aj (mZ ..) ?_;refine gs ?_;refine aa (bv (by omega)) ?_;refine aj (nI ..) ?_;refine gs ?_;refine aq h1 ae rfl ?_;refine aq h1 ae rfl ?_;refine ag h1 (HJ (p := P) (g := g) (σ := σ) (μ' := σ.μ.swp t.who (8, t.s, 0) 0 1) (by simp) (U1 g.tb g.m σ.c.sh.toNat σ.c.sl.toNat σ.μ t.who t.s hN)) fun _ H2 h2 => ?_
 by_cases hw : σ.μ.V (8, t.s, 0) = 0
 ·rw [ia hw]
  refine gs ?_;refine bk h2 ae rfl rfl fun H3 h3 => ?_;refine bk h3 ae rfl rfl fun H4 h4 => ?_;refine bk h4 ae rfl rfl fun H5 h5 => ?_;refine aj (bH ..) ?_;exact ap (cH (g := g) (σ' := σ.mem (σ.μ.swp t.who (8, t.s, 0) 0 1)) (t' := { t with at' := 4, i := 0 }) (k := { k with a := 4, I := 0, hit := false }) (by simp only [ah, hat]; rw [if_pos hw]) (by simp [f9]) (aE (σ := σ) hg (by simp) rfl) h5.to)
 ·rw [hZ hw]
  refine gs ?_;refine aj (bH ..) ?_;exact ap (cH (g := g) (σ' := σ.mem (σ.μ.swp t.who (8, t.s, 0) 0 1)) (t' := t) (k := k) (by simp only [ah, hat]; rw [if_neg hw]) (by simp only [f9, hat]; exact ⟨ha, trivial⟩) (aE (σ := σ) hg (by simp) rfl) h2.to)
theorem Yd (S : SOk σ) (T : eG σ t) (hat : t.at' = 5) : Sp dr [vp x, vi now] (xP x P σ t) (fun _ : Unit => vb (ah σ t now).2.2) (fun _ => xQ x P (ah σ t now)) := by
 have hN : σ.μ.N < 1099511627000 := by have := S.N; omega
 refine aX fun R H h => ?_;obtain ⟨k, g, hR, hg, h0⟩ := b9 h;have hl := hg.1;simp only [f9, hat] at hR;obtain ⟨ha, hhit, hobj, hcode⟩ := hR;refine bu x P g σ t k now S T (by omega) h0 fun b1 H1 h1 => ?_;refine aj (kA ..) ?_;refine aa (aR (by omega)) ?_;refine aj (mZ ..) ?_;refine gs ?_;refine aa (aR (by omega)) ?_;refine aj (nI ..) ?_;refine gs ?_;refine aa (aR (by omega)) ?_;refine aj (sC ..) ?_;refine gs ?_;refine aa (bv (by omega)) ?_;refine aj (AA ..) ?_;refine gs ?_;refine aq h1 ae rfl ?_;refine aq h1 ae rfl ?_;refine ag h1 (HJ (p := P) (g := g) (σ := σ) (μ' := (σ.μ.acc t.who 2 (8, t.s, 0)).put (8, t.s, 0) 0) (by simp) (J0 g.tb g.m σ.c.sh.toNat σ.c.sl.toNat σ.μ t.who t.s hN)) fun _ H2 h2 => ?_;refine aq h2 ae rfl ?_;cases hf : t.found
 ·rw [hf] at hhit
  rw [hhit];refine gs ?_;rw [Bool.not_false];refine gs ?_;exact ap (Bf (g := g) (k := k) (σ' := σ.mem ((σ.μ.acc t.who 2 (8, t.s, 0)).put (8, t.s, 0) 0)) (t' := { t with at' := 6 }) (by simp only [ah, hat, hf]; rfl) (hcode hf) (aE (σ := σ) hg (by simp) rfl) h2.to)
 ·rw [hf] at hhit
  rw [hhit];refine gs ?_;rw [Bool.not_true];refine gs ?_;refine bk h2 ae rfl rfl fun H3 h3 => ?_;refine aj (bH ..) ?_;exact ap (cH (g := g) (σ' := σ.mem ((σ.μ.acc t.who 2 (8, t.s, 0)).put (8, t.s, 0) 0)) (t' := { t with at' := 6 }) (k := { k with a := 6 }) (by simp only [ah, hat, hf]; rfl) (by simp [f9, hobj hf]) (aE (σ := σ) hg (by simp) rfl) h3.to)
theorem Ye (S : SOk σ) (T : eG σ t) (hat : t.at' = 6) : Sp dr [vp x, vi now] (xP x P σ t) (fun _ : Unit => vb (ah σ t now).2.2) (fun _ => xQ x P (ah σ t now)) := by
 have hN : σ.μ.N < 1099511627000 := by have := S.N; omega
 refine aX fun R H h => ?_;obtain ⟨k, g, hR, hg, h0⟩ := b9 h;have hl := hg.1;simp only [f9, hat] at hR;obtain ⟨ha, hobj⟩ := hR;have ho := T.obj (.inl (by omega))
 have hob : k.obj < σ.obs.length := by omega
 obtain ⟨b, hb⟩ : ∃ b, g.rp[k.obj]? = some b := ⟨_, br (by omega)⟩;refine bu x P g σ t k now S T (by omega) h0 fun b1 H1 h1 => ?_;refine ch6 (by omega) ?_;refine aa (bv (by omega)) ?_;refine aj (sD ..) ?_;refine gs ?_;refine aq h1 ae rfl ?_;refine aq h1 ae rfl ?_;refine ag h1 (KO P g σ hl t.who k.obj hob S.N) fun _ H2 h2 => ?_;refine bk h2 ae rfl rfl fun H3 h3 => ?_;refine aj (bH ..) ?_;rw [hobj] at h3;exact ap (cH (g := g) (σ' := σ.mem (σ.μ.acc t.who 5 (13, (t.obj : Int), 0))) (t' := { t with at' := 7 }) (k := { k with a := 7, obj := t.obj }) (by simp only [ah, hat]) (by simp [f9]) (aE (σ := σ) hg (by simp) rfl) h3.to)
theorem Yf (S : SOk σ) (T : eG σ t) (hat : t.at' = 7) : Sp dr [vp x, vi now] (xP x P σ t) (fun _ : Unit => vb (ah σ t now).2.2) (fun _ => xQ x P (ah σ t now)) := by
 have hN : σ.μ.N < 1099511627000 := by have := S.N; omega
 refine aX fun R H h => ?_;obtain ⟨k, g, hR, hg, h0⟩ := b9 h;have hl := hg.1;simp only [f9, hat] at hR;obtain ⟨ha, hobj⟩ := hR;have ho := T.obj (.inl (by omega))
 have hob : k.obj < σ.obs.length := by omega
 obtain ⟨b, hb⟩ : ∃ b, g.rp[k.obj]? = some b := ⟨_, br (by omega)⟩;refine bu x P g σ t k now S T (by omega) h0 fun b1 H1 h1 => ?_;refine ch6 (by omega) ?_;refine aa (aR (by omega)) ?_;refine aj (sD ..) ?_;refine gs ?_;refine aa (bv (by omega)) ?_;refine aj (AB ..) ?_;refine gs ?_;refine bk h1 ae rfl rfl fun H2 h2 => ?_;refine ag h2 (NN x P g σ t { k with a := 8 } S hl b hob hb) fun _ H3 h3 => ?_;dsimp only at h3;rw [hobj] at h3
 by_cases hw : aH (σ.μ.V (11, (t.obj : Int), 0)) = 2
 ·refine aa (bv (by rw [hobj]; exact hw)) ?_
  refine gs ?_;refine bk h3 ae rfl rfl fun H4 h4 => ?_;refine aj (bH ..) ?_;exact ap (cH (g := g) (σ' := jW σ t) (t' := { t with at' := 3, w := σ.μ.V (11, (t.obj : Int), 0) }) (k := { k with a := 3, obj := t.obj, w := σ.μ.V (11, (t.obj : Int), 0) }) (by simp only [ah, hat]; rw [if_pos hw]) (by simp [f9]) (aE (σ := σ) hg (by simp) rfl) h4.to)
 ·refine aa (aR (by rw [hobj]; exact hw)) ?_
  refine gs ?_;refine aj (bH ..) ?_;exact ap (cH (g := g) (σ' := jW σ t) (t' := { t with at' := 8, w := σ.μ.V (11, (t.obj : Int), 0) }) (k := { k with a := 8, obj := t.obj, w := σ.μ.V (11, (t.obj : Int), 0) }) (by simp only [ah, hat]; rw [if_neg hw]) (by simp [f9]) (aE (σ := σ) hg (by simp) rfl) h3.to)
theorem Yg (S : SOk σ) (T : eG σ t) (hat : t.at' = 8) : Sp dr [vp x, vi now] (xP x P σ t) (fun _ : Unit => vb (ah σ t now).2.2) (fun _ => xQ x P (ah σ t now)) := by
 have hN : σ.μ.N < 1099511627000 := by have := S.N; omega
 refine aX fun R H h => ?_;obtain ⟨k, g, hR, hg, h0⟩ := b9 h;have hl := hg.1;simp only [f9, hat] at hR;obtain ⟨ha, hobj, hw0⟩ := hR;have ho := T.obj (.inl (by omega))
 have hob : k.obj < σ.obs.length := by omega
 obtain ⟨b, hb⟩ : ∃ b, g.rp[k.obj]? = some b := ⟨_, br (by omega)⟩;refine bu x P g σ t k now S T (by omega) h0 fun b1 H1 h1 => ?_;refine ch8 (by omega) ?_;refine aa (bv (by omega)) ?_;refine aj (nK ..) ?_;refine gs ?_;refine ag h1 (jo x P g σ t k hl b hob hb) fun _ H2 h2 => ?_;refine bg ae ?_;refine aN h2 rfl ?_;refine aG h1 h2 (by rfl) ?_;refine ag h2 (mm (p := P) (μ' := σ.μ.acc t.who 1 (12, (k.obj : Int), 0)) (by simp) hl hob hb (Bj g.m k.obj b (aw σ k.obj) σ.μ t.who hN)) fun _ H3 h3 => ?_;refine bk h3 ae rfl rfl fun H4 h4 => ?_;refine aq h4 ae rfl ?_;refine ag h4 (mX k.w (by rw [hw0]; exact T.w)) fun _ H5 h5 => ?_;refine aa (v := vu (ay k.w)) rfl ?_;refine aa (v := vi (aH k.w)) rfl ?_;refine aa (v := vb (bZ k.w)) rfl ?_;refine aj (Kc ..) ?_;refine ag h5 (jo x P g (σ.mem (σ.μ.acc t.who 1 (12, (k.obj : Int), 0))) t { k with h := σ.μ.V (12, (k.obj : Int), 0) } hl b hob hb) fun _ H6 h6 => ?_;refine bg ae ?_;refine aN h6 rfl ?_;refine aG h5 h6 (by rfl) ?_;refine bg ae ?_;refine aN h6 rfl ?_;refine aG h5 h6 (by rfl) ?_;refine ag h6 (Fu (p := P) (σ := σ.mem (σ.μ.acc t.who 1 (12, (k.obj : Int), 0))) hl hob hb (Bi g.m k.obj b (aw σ k.obj) k.w (σ.μ.V (12, (k.obj : Int), 0)) (by rw [hw0]; exact T.w) (S.cells _ hob).2)) fun _ H7 h7 => ?_;rw [hobj, hw0] at h7;rw [hobj, hw0];cases hf : kQ t.w (σ.μ.V (12, (t.obj : Int), 0)) (aw σ t.obj).length
 ·refine gs ?_
  by_cases hw : aH t.w = 1
  ·refine aa (bv hw) ?_
   refine gs ?_;refine bk h7 ae rfl rfl fun H8 h8 => ?_;refine aj (bH ..) ?_;exact ap (cH (g := g) (σ' := ij σ t) (t' := { t with at' := 9 }) (k := { k with a := 9, obj := t.obj, w := t.w, h := σ.μ.V (12, (t.obj : Int), 0) }) (by simp only [ah, hat, fU, hf]; rw [if_pos hw]; rfl) (by simp [f9]) (aE (σ := σ) hg (by simp) rfl) h8.to)
  ·refine aa (aR hw) ?_
   refine gs ?_;refine bk h7 ae rfl rfl fun H8 h8 => ?_;refine aj (bH ..) ?_;exact ap (cH (g := g) (σ' := ij σ t) (t' := { t with at' := 12 }) (k := { k with a := 12, obj := t.obj, w := t.w, h := σ.μ.V (12, (t.obj : Int), 0) }) (by simp only [ah, hat, fU, hf]; rw [if_neg hw]; rfl) (by simp [f9]) (aE (σ := σ) hg (by simp) rfl) h8.to)
 ·refine gs ?_
  refine bk h7 ae rfl rfl fun H8 h8 => ?_;refine aj (bH ..) ?_;exact ap (cH (g := g) (σ' := ij σ t) (t' := { t with at' := 15 }) (k := { k with a := 15, obj := t.obj, w := t.w, h := σ.μ.V (12, (t.obj : Int), 0) }) (by simp only [ah, hat, fU, hf]; rfl) (by simp [f9]) (aE (σ := σ) hg (by simp) rfl) h8.to)
theorem HC (g : XIds) (k : Xk) (S : SOk σ) (hg : fQ g σ) (ha : k.a = 9 ∨ k.a = 13) (b : Nat) (ho : k.obj < σ.obs.length) (hb : g.rp[k.obj]? = some b) (hw0 : k.w < 18446744073709551616) :
 Sp i4 [vp x, vi now] (xB x P t k * av P g σ) (fun _ : Value => .tuple #[]) (fun v => if cG σ.μ k.obj k.w (aL k.w 0) = true then
  xB x P t { k with q := if k.a = 13 then 1 else 0, a := k.a + 1, code := 0 } * av P { g with pv := v } ((σ.mem (σ.μ.turn t.who k.obj k.w (aL k.w 0))).note now t.who 0)
  else xB x P t { k with q := if k.a = 13 then 1 else 0, a := if k.a = 13 then 20 else 7 } * av P g (σ.mem (σ.μ.turn t.who k.obj k.w (aL k.w 0)))) := by
 have hN : σ.μ.N < 1099511627000 := by have := S.N; omega
 have hl := hg.1
 have hturn : σ.μ.N ≤ (σ.μ.turn t.who k.obj k.w (aL k.w 0)).N := by cases aL k.w 0 <;> simp
 have hturn2 : (σ.μ.turn t.who k.obj k.w (aL k.w 0)).N ≤ σ.μ.N + 2 := by cases aL k.w 0 <;> simp
 refine aY (uq _ _) fun R H h => ?_;refine bk h ae rfl rfl fun H1 h1 => ?_;refine aj (pC ..) ?_;refine aq h1 ae rfl ?_
 have main : ∀ (q : Nat) (H2 : AH), q = (if k.a = 13 then 1 else 0) → ac (xB x P t { k with q := q } * (av P g σ * R)) H2 → wp (fe (vp x) (vi now) H2) fun v' H' => ∃ v : Value, v' = .tuple #[] ∧ ac ((if cG σ.μ k.obj k.w (aL k.w 0) = true then
  xB x P t { k with q := if k.a = 13 then 1 else 0, a := k.a + 1, code := 0 } * av P { g with pv := v } ((σ.mem (σ.μ.turn t.who k.obj k.w (aL k.w 0))).note now t.who 0)
  else xB x P t { k with q := if k.a = 13 then 1 else 0, a := if k.a = 13 then 20 else 7 } * av P g (σ.mem (σ.μ.turn t.who k.obj k.w (aL k.w 0)))) * R) H' := by
  intro q H2 hq h2;refine aj (pD ..) ?_;refine ag h2 (jo x P g σ t { k with q := q } hl b ho hb) fun _ H3 h3 => ?_;refine bg ae ?_;refine aN h3 rfl ?_;refine aG h2 h3 (by rfl) ?_;refine bg ae ?_;refine aN h3 rfl ?_;refine aG h2 h3 (by rfl) ?_;refine ag h3 (mm (p := P) (μ' := σ.μ.turn t.who k.obj k.w (aL k.w 0)) hturn hl ho hb (KQ g.m k.obj b (aw σ k.obj) σ.μ t.who k.w 0 (by omega) hw0 hN)) fun _ H4 h4 => ?_;cases hw : cG σ.μ k.obj k.w (aL k.w 0)
  ·refine gs ?_
   refine aq h4 ae rfl ?_
   rcases ha with ha | ha
   ·refine aa (bv (show ((k.a : Nat) : Int) = 9 by omega)) ?_
    refine gs ?_;refine bk h4 ae rfl rfl fun H5 h5 => ?_;refine ap ⟨.bool true, rfl, ?_⟩;rw [if_neg (by simp)];simp only [hq] at h5;rw [if_neg (by omega)] at h5 ⊢;rw [if_neg (by omega)];exact h5.to
   ·refine aa (aR (show ¬ ((k.a : Nat) : Int) = 9 by omega)) ?_
    refine gs ?_;refine bk h4 ae rfl rfl fun H5 h5 => ?_;refine ap ⟨.bool true, rfl, ?_⟩;rw [if_neg (by simp)];simp only [hq] at h5;rw [if_pos ha] at h5 ⊢;rw [if_pos ha];exact h5.to
  ·refine gs ?_
   refine ag h4 (yH x P g (σ.mem (σ.μ.turn t.who k.obj k.w (aL k.w 0))) t { k with q := q } (aE (σ := σ) hg hturn rfl) now 0 (by have := S.N; show (σ.μ.turn t.who k.obj k.w (aL k.w 0)).N < _; omega) S.pts) fun v H5 h5 => ?_;refine aq h5 ae rfl ?_;refine aa (aO (a := ((k.a : Nat) : Int)) (b := 1) (by omega) (by omega)) ?_;rw [show ((k.a : Nat) : Int) + 1 = ((k.a + 1 : Nat) : Int) from by omega];refine bk h5 ae rfl rfl fun H6 h6 => ?_;refine ap ⟨v, rfl, ?_⟩;rw [if_pos rfl];simp only [hq] at h6;exact h6.to
 rcases ha with ha | ha
 ·refine aa (aR (by omega)) ?_
  refine gs ?_;exact main 0 H1 (by rw [if_neg (by omega)]) h1.to
 ·refine aa (bv (by omega)) ?_
  refine gs ?_;refine bk h1 ae rfl rfl fun H2 h2 => ?_;exact main 1 H2 (by rw [if_pos ha]) h2.to
theorem Yh (S : SOk σ) (T : eG σ t) (hat : t.at' = 9) : Sp dr [vp x, vi now] (xP x P σ t) (fun _ : Unit => vb (ah σ t now).2.2) (fun _ => xQ x P (ah σ t now)) := by
 have hN : σ.μ.N < 1099511627000 := by have := S.N; omega
 refine aX fun R H h => ?_;obtain ⟨k, g, hR, hg, h0⟩ := b9 h;have hl := hg.1;simp only [f9, hat] at hR;obtain ⟨ha, hobj, hw0⟩ := hR;have ho := T.obj (.inl (by omega))
 have hob : k.obj < σ.obs.length := by omega
 obtain ⟨b, hb⟩ : ∃ b, g.rp[k.obj]? = some b := ⟨_, br (by omega)⟩;refine bu x P g σ t k now S T (by omega) h0 fun b1 H1 h1 => ?_;refine ch8 (by omega) ?_;refine aa (aR (by omega)) ?_;refine aj (nK ..) ?_;refine gs ?_;refine aa (bv (by omega)) ?_;refine gs ?_;refine aj (sE ..) ?_;refine gs ?_
 have hturn : σ.μ.N ≤ (σ.μ.turn t.who k.obj k.w (aL k.w 0)).N := by cases aL k.w 0 <;> simp
 refine ag h1 (HC x P σ t now g k S hg (by omega) b hob hb (by rw [hw0]; exact T.w)) fun v H2 h2 => ?_;refine aj (bH ..) ?_;cases hw : cG σ.μ t.obj t.w (aL t.w 0)
 ·rw [if_neg (by rw [hobj, hw0, hw]; simp)] at h2
  rw [hobj, hw0, ha, if_neg (by omega), if_neg (by omega)] at h2;exact ap (cH (g := g) (σ' := σ.mem (σ.μ.turn t.who t.obj t.w (aL t.w 0))) (t' := { t with at' := 7 }) (k := { k with a := 7, obj := t.obj, w := t.w, q := 0 }) (by simp only [ah, hat, hw]; rfl) (by simp [f9]) (aE (σ := σ) hg (by rw [hobj, hw0] at hturn; exact hturn) rfl) h2.to)
 ·rw [if_pos (by rw [hobj, hw0, hw])] at h2
  rw [hobj, hw0, ha, if_neg (by omega)] at h2;exact ap (cH (g := { g with pv := v }) (σ' := (σ.mem (σ.μ.turn t.who t.obj t.w (aL t.w 0))).note now t.who 0) (t' := { t with at' := 10, code := 0 }) (k := { k with a := 10, obj := t.obj, w := t.w, q := 0, code := 0 }) (by simp only [ah, hat, hw]; rfl) (by simp [f9]) (lj (σ := σ) hg (by rw [hobj, hw0] at hturn; exact hturn) rfl) h2.to)
theorem Wd (S : SOk σ) (T : eG σ t) (hat : t.at' = 13) : Sp dr [vp x, vi now] (xP x P σ t) (fun _ : Unit => vb (ah σ t now).2.2) (fun _ => xQ x P (ah σ t now)) := by
 have hN : σ.μ.N < 1099511627000 := by have := S.N; omega
 refine aX fun R H h => ?_;obtain ⟨k, g, hR, hg, h0⟩ := b9 h;have hl := hg.1;simp only [f9, hat] at hR;obtain ⟨ha, hobj, hw0⟩ := hR;have ho := T.obj (.inl (by omega))
 have hob : k.obj < σ.obs.length := by omega
 obtain ⟨b, hb⟩ : ∃ b, g.rp[k.obj]? = some b := ⟨_, br (by omega)⟩;refine bu x P g σ t k now S T (by omega) h0 fun b1 H1 h1 => ?_;refine ch8 (by omega) ?_;refine aa (aR (by omega)) ?_;refine aj (nK ..) ?_;refine gs ?_;refine aa (aR (by omega)) ?_;refine gs ?_;refine aa (bv (by omega)) ?_;refine aj (sE ..) ?_;refine gs ?_
 have hturn : σ.μ.N ≤ (σ.μ.turn t.who k.obj k.w (aL k.w 0)).N := by cases aL k.w 0 <;> simp
 refine ag h1 (HC x P σ t now g k S hg (by omega) b hob hb (by rw [hw0]; exact T.w)) fun v H2 h2 => ?_;refine aj (bH ..) ?_;cases hw : cG σ.μ t.obj t.w (aL t.w 0)
 ·rw [if_neg (by rw [hobj, hw0, hw]; simp)] at h2
  rw [hobj, hw0, ha, if_pos rfl, if_pos rfl] at h2;exact ap (cH (g := g) (σ' := σ.mem (σ.μ.turn t.who t.obj t.w (aL t.w 0))) (t' := { t with at' := 20 }) (k := { k with a := 20, obj := t.obj, w := t.w, q := 1 }) (by simp only [ah, hat, hw]; rfl) (by simp [f9]) (aE (σ := σ) hg (by rw [hobj, hw0] at hturn; exact hturn) rfl) h2.to)
 ·rw [if_pos (by rw [hobj, hw0, hw])] at h2
  rw [hobj, hw0, ha, if_pos rfl] at h2;exact ap (cH (g := { g with pv := v }) (σ' := (σ.mem (σ.μ.turn t.who t.obj t.w (aL t.w 0))).note now t.who 0) (t' := { t with at' := 14, code := 0 }) (k := { k with a := 14, obj := t.obj, w := t.w, q := 1, code := 0 }) (by simp only [ah, hat, hw]; rfl) (by simp [f9]) (lj (σ := σ) hg (by rw [hobj, hw0] at hturn; exact hturn) rfl) h2.to)
theorem Wa (S : SOk σ) (T : eG σ t) (hat : t.at' = 10) : Sp dr [vp x, vi now] (xP x P σ t) (fun _ : Unit => vb (ah σ t now).2.2) (fun _ => xQ x P (ah σ t now)) := by
 have hN : σ.μ.N < 1099511627000 := by have := S.N; omega
 refine aX fun R H h => ?_;obtain ⟨k, g, hR, hg, h0⟩ := b9 h;have hl := hg.1;simp only [f9, hat] at hR;obtain ⟨ha, hobj, hw0, hq, hcode⟩ := hR;have ho := T.obj (.inl (by omega))
 have hob : k.obj < σ.obs.length := by omega
 obtain ⟨b, hb⟩ : ∃ b, g.rp[k.obj]? = some b := ⟨_, br (by omega)⟩;refine bu x P g σ t k now S T (by omega) h0 fun b1 H1 h1 => ?_;refine Y4 (by omega) ?_;refine aa (bv (by omega)) ?_;refine gs ?_;refine aj (sF ..) ?_;refine gs ?_;refine ag h1 (jo x P g σ t k hl b hob hb) fun _ H2 h2 => ?_;refine bg ae ?_;refine aN h2 rfl ?_;refine aG h1 h2 (by rfl) ?_;refine ag h2 (uO x P t k (by rw [hw0]; exact T.w)) fun _ H3 h3 => ?_;refine aG h3 h2 (by rfl) ?_;refine aU h3 ?_;refine dB h1 h3 rfl ?_;refine dB h2 h3 rfl ?_;refine ag h3 (C0 (p := P) (μ' := σ.μ.acc t.who 6 (16, (k.obj : Int), ((ay k.w % (aw σ k.obj).length : Nat) : Int))) (by simp) hl hob hb (CV g.m k.obj b (aw σ k.obj) σ.μ t.who (ay k.w) ⟨t.x.flow, t.x.a, t.x.b⟩ (S.cells _ hob) hN)) fun _ H4 h4 => ?_;refine bk h4 ae rfl rfl fun H5 h5 => ?_;refine aq h5 ae rfl ?_;refine aa (aR (by omega)) ?_;refine gs ?_;refine aj (bH ..) ?_;have e1 := yw σ t;rw [hobj, hw0, ← e1] at h5;exact ap (cH (g := g) (σ' := dL σ t) (t' := { t with at' := 11 }) (k := { k with a := 11, obj := t.obj, w := t.w }) (by simp only [ah, hat]) (by simp [f9, hcode]) (aE (σ := σ) hg (by simp) (il σ t)) h5.to)
theorem We (S : SOk σ) (T : eG σ t) (hat : t.at' = 14) : Sp dr [vp x, vi now] (xP x P σ t) (fun _ : Unit => vb (ah σ t now).2.2) (fun _ => xQ x P (ah σ t now)) := by
 have hN : σ.μ.N < 1099511627000 := by have := S.N; omega
 refine aX fun R H h => ?_;obtain ⟨k, g, hR, hg, h0⟩ := b9 h;have hl := hg.1;simp only [f9, hat] at hR;obtain ⟨ha, hobj, hw0, hq, hcode⟩ := hR;have ho := T.obj (.inl (by omega))
 have hob : k.obj < σ.obs.length := by omega
 obtain ⟨b, hb⟩ : ∃ b, g.rp[k.obj]? = some b := ⟨_, br (by omega)⟩;refine bu x P g σ t k now S T (by omega) h0 fun b1 H1 h1 => ?_;refine Y4 (by omega) ?_;refine aa (aR (by omega)) ?_;refine gs ?_;refine aa (bv (by omega)) ?_;refine aj (sF ..) ?_;refine gs ?_;refine ag h1 (jo x P g σ t k hl b hob hb) fun _ H2 h2 => ?_;refine bg ae ?_;refine aN h2 rfl ?_;refine aG h1 h2 (by rfl) ?_;refine ag h2 (uO x P t k (by rw [hw0]; exact T.w)) fun _ H3 h3 => ?_;refine aG h3 h2 (by rfl) ?_;refine aU h3 ?_;refine dB h1 h3 rfl ?_;refine dB h2 h3 rfl ?_;refine ag h3 (C0 (p := P) (μ' := σ.μ.acc t.who 6 (16, (k.obj : Int), ((ay k.w % (aw σ k.obj).length : Nat) : Int))) (by simp) hl hob hb (CV g.m k.obj b (aw σ k.obj) σ.μ t.who (ay k.w) ⟨t.x.flow, t.x.a, t.x.b⟩ (S.cells _ hob) hN)) fun _ H4 h4 => ?_;refine bk h4 ae rfl rfl fun H5 h5 => ?_;refine aq h5 ae rfl ?_;refine aa (bv (by omega)) ?_;refine gs ?_;refine bk h5 ae rfl rfl fun H6 h6 => ?_;refine aj (bH ..) ?_;have e1 := yw σ t;rw [hobj, hw0, ← e1] at h6;exact ap (cH (g := g) (σ' := dL σ t) (t' := { t with at' := 21 }) (k := { k with a := 21, obj := t.obj, w := t.w }) (by simp only [ah, hat]) (by simp [f9, hcode]) (aE (σ := σ) hg (by simp) (il σ t)) h6.to)
theorem Wb (S : SOk σ) (T : eG σ t) (hat : t.at' = 11) : Sp dr [vp x, vi now] (xP x P σ t) (fun _ : Unit => vb (ah σ t now).2.2) (fun _ => xQ x P (ah σ t now)) := by
 have hN : σ.μ.N < 1099511627000 := by have := S.N; omega
 refine aX fun R H h => ?_;obtain ⟨k, g, hR, hg, h0⟩ := b9 h;have hl := hg.1;simp only [f9, hat] at hR;obtain ⟨ha, hobj, hw0, hcode⟩ := hR;have ho := T.obj (.inl (by omega))
 have hob : k.obj < σ.obs.length := by omega
 obtain ⟨b, hb⟩ : ∃ b, g.rp[k.obj]? = some b := ⟨_, br (by omega)⟩;refine bu x P g σ t k now S T (by omega) h0 fun b1 H1 h1 => ?_;refine Y5 (by omega) ?_;refine aa (bv (by omega)) ?_;refine aj (sG ..) ?_;refine gs ?_;refine ag h1 (jo x P g σ t k hl b hob hb) fun _ H2 h2 => ?_;refine bg ae ?_;refine aN h2 rfl ?_;refine aG h1 h2 (by rfl) ?_;refine ag h2 (uO x P t k (by rw [hw0]; exact T.w)) fun _ H3 h3 => ?_;refine aG h3 h2 (by rfl) ?_;have hwc := d7 k.w;refine ag h3 (mm (p := P) (μ' := (σ.μ.acc t.who 2 (15, (k.obj : Int), ((ay k.w % (aw σ k.obj).length : Nat) : Int))).put (15, (k.obj : Int), ((ay k.w % (aw σ k.obj).length : Nat) : Int)) (ay k.w + 1)) (by simp) hl hob hb (Bk g.m k.obj b (aw σ k.obj) σ.μ t.who (ay k.w) (by omega) (S.cells _ hob) hN)) fun _ H4 h4 => ?_;rw [hobj, hw0] at h4;exact ap (Bf (g := g) (k := k) (σ' := wU σ t) (t' := t) (by simp only [ah, hat]) hcode (aE (σ := σ) hg (by simp) rfl) h4.to)
theorem Wc (S : SOk σ) (T : eG σ t) (hat : t.at' = 12) : Sp dr [vp x, vi now] (xP x P σ t) (fun _ : Unit => vb (ah σ t now).2.2) (fun _ => xQ x P (ah σ t now)) := by
 have hN : σ.μ.N < 1099511627000 := by have := S.N; omega
 refine aX fun R H h => ?_;obtain ⟨k, g, hR, hg, h0⟩ := b9 h;have hl := hg.1;simp only [f9, hat] at hR;obtain ⟨ha, hobj, hw0⟩ := hR;have ho := T.obj (.inl (by omega))
 have hob : k.obj < σ.obs.length := by omega
 obtain ⟨b, hb⟩ : ∃ b, g.rp[k.obj]? = some b := ⟨_, br (by omega)⟩;refine bu x P g σ t k now S T (by omega) h0 fun b1 H1 h1 => ?_;refine Y5 (by omega) ?_;refine aa (aR (by omega)) ?_;refine aj (sG ..) ?_;refine gs ?_;refine aa (bv (by omega)) ?_;refine aj (AC ..) ?_;refine gs ?_;refine aq h1 ae rfl ?_;refine aq h1 ae rfl ?_;refine ag h1 (uV (p := P) (g := g) (σ := σ) (μ' := σ.μ.cnt t.who (3, 0, 0) 4294967296) (L := σ.μ.N) (by simp) (Fs g.ib g.m σ.c.sh σ.nx σ.μ.N σ.μ t.who hN)) fun _ H2 h2 => ?_;refine bk h2 ae rfl rfl fun H3 h3 => ?_;refine aj (bH ..) ?_;exact ap (cH (g := g) (σ' := σ.mem (σ.μ.cnt t.who (3, 0, 0) 4294967296)) (t' := { t with at' := 13 }) (k := { k with a := 13 }) (by simp only [ah, hat]) (by simp [f9, hobj, hw0]) (aE (σ := σ) hg (by simp) rfl) h3.to)
theorem Wf (S : SOk σ) (T : eG σ t) (hat : t.at' = 15) : Sp dr [vp x, vi now] (xP x P σ t) (fun _ : Unit => vb (ah σ t now).2.2) (fun _ => xQ x P (ah σ t now)) := by
 have hN : σ.μ.N < 1099511627000 := by have := S.N; omega
 refine aX fun R H h => ?_;obtain ⟨k, g, hR, hg, h0⟩ := b9 h;have hl := hg.1;simp only [f9, hat] at hR;obtain ⟨ha, hobj⟩ := hR;have ho := T.obj (.inl (by omega))
 have hob : k.obj < σ.obs.length := by omega
 obtain ⟨b, hb⟩ : ∃ b, g.rp[k.obj]? = some b := ⟨_, br (by omega)⟩;refine bu x P g σ t k now S T (by omega) h0 fun b1 H1 h1 => ?_;refine RP (by omega) ?_;refine aa (bv (by omega)) ?_;refine gs ?_;refine aj (lu ..) ?_;refine gs ?_;refine ml ?_;refine a9 (fun r => E0 _ _ H1) ?_;refine aj (qt ..) ?_;refine aq h1 ae rfl ?_;refine aj (qu ..) ?_;refine aa (bv (by omega)) ?_;refine gs ?_;refine aq h1 ae rfl ?_;refine aq h1 ae rfl ?_;refine ag h1 (Bh P g σ t.who S.N) fun _ H2 h2 => ?_;refine bk h2 ae rfl rfl fun H3 h3 => ?_;refine bk h3 ae rfl rfl fun H4 h4 => ?_;refine aq h4 ae rfl ?_;refine aa (Nt 2 (by omega)) ?_
 by_cases hw : σ.μ.V (2, 0, 0) % 2 = 1
 ·refine aa (bv (show ((σ.μ.V (2, 0, 0) % 2 : Nat) : Int) = 1 by omega)) ?_
  refine gs ?_;refine bk h4 ae rfl rfl fun H5 h5 => ?_;refine aj (i7 ..) ?_;exact ap (cH (g := g) (σ' := mj σ t) (t' := { t with at' := 7, q := σ.μ.V (2, 0, 0) }) (k := { k with a := 7, q := σ.μ.V (2, 0, 0) }) (by simp only [ah, hat]; rw [if_pos hw]) (by simp [f9, hobj]) (aE (σ := σ) hg (by simp) rfl) h5.to)
 ·refine aa (aR (show ¬ ((σ.μ.V (2, 0, 0) % 2 : Nat) : Int) = 1 by omega)) ?_
  refine gs ?_;refine aj (i7 ..) ?_;exact ap (cH (g := g) (σ' := mj σ t) (t' := { t with at' := 16, q := σ.μ.V (2, 0, 0) }) (k := { k with a := 16, q := σ.μ.V (2, 0, 0) }) (by simp only [ah, hat]; rw [if_neg hw]) (by simp [f9, hobj]) (aE (σ := σ) hg (by simp) rfl) h4.to)
theorem Wg (S : SOk σ) (T : eG σ t) (hat : t.at' = 16) : Sp dr [vp x, vi now] (xP x P σ t) (fun _ : Unit => vb (ah σ t now).2.2) (fun _ => xQ x P (ah σ t now)) := by
 have hN : σ.μ.N < 1099511627000 := by have := S.N; omega
 refine aX fun R H h => ?_;obtain ⟨k, g, hR, hg, h0⟩ := b9 h;have hl := hg.1;simp only [f9, hat] at hR;obtain ⟨ha, hobj, hq⟩ := hR;have ho := T.obj (.inl (by omega))
 have hob : k.obj < σ.obs.length := by omega
 obtain ⟨b, hb⟩ : ∃ b, g.rp[k.obj]? = some b := ⟨_, br (by omega)⟩;refine bu x P g σ t k now S T (by omega) h0 fun b1 H1 h1 => ?_;refine RP (by omega) ?_;refine aa (aR (by omega)) ?_;refine gs ?_;refine aa (bv (by omega)) ?_;refine gs ?_;refine aj (lu ..) ?_;refine gs ?_;refine ml ?_;refine a9 (fun r => E0 _ _ H1) ?_;refine aj (qt ..) ?_;refine aq h1 ae rfl ?_;refine aj (qu ..) ?_;refine aa (aR (by omega)) ?_;refine gs ?_;refine aa (bv (by omega)) ?_;refine gs ?_;refine bk h1 ae rfl rfl fun H2 h2 => ?_;refine ag h2 (NN x P g σ t { k with a := 17 } S hl b hob hb) fun _ H3 h3 => ?_;dsimp only at h3;rw [hobj] at h3
 by_cases hw : aH (σ.μ.V (11, (t.obj : Int), 0)) = 2
 ·refine aa (bv (by rw [hobj]; exact hw)) ?_
  refine gs ?_;refine bk h3 ae rfl rfl fun H4 h4 => ?_;refine aj (i7 ..) ?_;exact ap (cH (g := g) (σ' := jW σ t) (t' := { t with at' := 3, w := σ.μ.V (11, (t.obj : Int), 0) }) (k := { k with a := 3, obj := t.obj, w := σ.μ.V (11, (t.obj : Int), 0) }) (by simp only [ah, hat]; rw [if_pos hw]) (by simp [f9]) (aE (σ := σ) hg (by simp) rfl) h4.to)
 ·refine aa (aR (by rw [hobj]; exact hw)) ?_
  refine gs ?_;refine aj (i7 ..) ?_;exact ap (cH (g := g) (σ' := jW σ t) (t' := { t with at' := 17, w := σ.μ.V (11, (t.obj : Int), 0) }) (k := { k with a := 17, obj := t.obj, w := σ.μ.V (11, (t.obj : Int), 0) }) (by simp only [ah, hat]; rw [if_neg hw]) (by simp [f9, hq]) (aE (σ := σ) hg (by simp) rfl) h3.to)
theorem Wh (S : SOk σ) (T : eG σ t) (hat : t.at' = 17) : Sp dr [vp x, vi now] (xP x P σ t) (fun _ : Unit => vb (ah σ t now).2.2) (fun _ => xQ x P (ah σ t now)) := by
 have hN : σ.μ.N < 1099511627000 := by have := S.N; omega
 refine aX fun R H h => ?_;obtain ⟨k, g, hR, hg, h0⟩ := b9 h;have hl := hg.1;simp only [f9, hat] at hR;obtain ⟨ha, hobj, hw0, hq⟩ := hR;have ho := T.obj (.inl (by omega))
 have hob : k.obj < σ.obs.length := by omega
 obtain ⟨b, hb⟩ : ∃ b, g.rp[k.obj]? = some b := ⟨_, br (by omega)⟩;refine bu x P g σ t k now S T (by omega) h0 fun b1 H1 h1 => ?_;refine RP (by omega) ?_;refine aa (aR (by omega)) ?_;refine gs ?_;refine aa (aR (by omega)) ?_;refine gs ?_;refine aa (bv (by omega)) ?_;refine gs ?_;refine aj (lu ..) ?_;refine gs ?_;refine ml ?_;refine a9 (fun r => E0 _ _ H1) ?_;refine aj (qt ..) ?_;refine aq h1 ae rfl ?_;refine aj (qu ..) ?_;refine aa (aR (by omega)) ?_;refine gs ?_;refine aa (aR (by omega)) ?_;refine gs ?_;refine aa (bv (by omega)) ?_;refine gs ?_;refine ag h1 (jo x P g σ t k hl b hob hb) fun _ H2 h2 => ?_;refine bg ae ?_;refine aN h2 rfl ?_;refine aG h1 h2 (by rfl) ?_;refine ag h2 (mm (p := P) (μ' := σ.μ.acc t.who 1 (12, (k.obj : Int), 0)) (by simp) hl hob hb (Bj g.m k.obj b (aw σ k.obj) σ.μ t.who hN)) fun _ H3 h3 => ?_;refine bk h3 ae rfl rfl fun H4 h4 => ?_;refine bk h4 ae rfl rfl fun H5 h5 => ?_;refine bk h5 ae rfl rfl fun H6 h6 => ?_;refine ag h6 (jo x P g (σ.mem (σ.μ.acc t.who 1 (12, (k.obj : Int), 0))) t { k with h := σ.μ.V (12, (k.obj : Int), 0), mark := now, a := 18 } hl b hob hb) fun _ H7 h7 => ?_;refine bg ae ?_;refine aN h7 rfl ?_;refine aG h6 h7 (by rfl) ?_;refine bg ae ?_;refine aN h7 rfl ?_;refine aG h6 h7 (by rfl) ?_;refine ag h7 (Fu (p := P) (σ := σ.mem (σ.μ.acc t.who 1 (12, (k.obj : Int), 0))) hl hob hb (Bi g.m k.obj b (aw σ k.obj) k.w (σ.μ.V (12, (k.obj : Int), 0)) (by rw [hw0]; exact T.w) (S.cells _ hob).2)) fun _ H8 h8 => ?_;rw [hobj, hw0] at h8;rw [hobj, hw0];cases hf : kQ t.w (σ.μ.V (12, (t.obj : Int), 0)) (aw σ t.obj).length
 ·refine gs ?_
  rw [Bool.not_false];refine gs ?_;refine bk h8 ae rfl rfl fun H9 h9 => ?_;refine aj (i7 ..) ?_;exact ap (cH (g := g) (σ' := ij σ t) (t' := { t with at' := 7 }) (k := { k with a := 7, obj := t.obj, w := t.w, h := σ.μ.V (12, (t.obj : Int), 0), mark := now }) (by simp only [ah, hat, fU, hf]; rfl) (by simp [f9]) (aE (σ := σ) hg (by simp) rfl) h9.to)
 ·refine gs ?_
  rw [Bool.not_true];refine gs ?_;refine aj (i7 ..) ?_;exact ap (cH (g := g) (σ' := ij σ t) (t' := { t with at' := 18, mark := now }) (k := { k with a := 18, obj := t.obj, w := t.w, h := σ.μ.V (12, (t.obj : Int), 0), mark := now }) (by simp only [ah, hat, fU, hf]; rfl) (by simp [f9, hq]) (aE (σ := σ) hg (by simp) rfl) h8.to)
theorem Wi (S : SOk σ) (T : eG σ t) (hat : t.at' = 18) : Sp dr [vp x, vi now] (xP x P σ t) (fun _ : Unit => vb (ah σ t now).2.2) (fun _ => xQ x P (ah σ t now)) := by
 have hN : σ.μ.N < 1099511627000 := by have := S.N; omega
 refine aX fun R H h => ?_;obtain ⟨k, g, hR, hg, h0⟩ := b9 h;have hl := hg.1;simp only [f9, hat] at hR;obtain ⟨ha, hobj, hq, hm⟩ := hR;have ho := T.obj (.inl (by omega))
 have hob : k.obj < σ.obs.length := by omega
 obtain ⟨b, hb⟩ : ∃ b, g.rp[k.obj]? = some b := ⟨_, br (by omega)⟩;refine bu x P g σ t k now S T (by omega) h0 fun b1 H1 h1 => ?_;refine RP (by omega) ?_;refine aa (aR (by omega)) ?_;refine gs ?_;refine aa (aR (by omega)) ?_;refine gs ?_;refine aa (aR (by omega)) ?_;refine gs ?_;refine aa (bv (by omega)) ?_;refine aj (lu ..) ?_;refine gs ?_;refine ml ?_;refine a9 (fun r => E0 _ _ H1) ?_;refine aj (qt ..) ?_;refine aq h1 ae rfl ?_;refine aj (qu ..) ?_;refine aa (aR (by omega)) ?_;refine gs ?_;refine aa (aR (by omega)) ?_;refine gs ?_;refine aa (aR (by omega)) ?_;refine gs ?_;refine aa (bv (by omega)) ?_;refine gs ?_;refine aq h1 ae rfl ?_;refine aq h1 ae rfl ?_;refine ag h1 (Bh P g σ t.who S.N) fun _ H2 h2 => ?_;refine bg ae ?_;refine aN h2 rfl ?_;refine aG h1 h2 (by rfl) ?_
 by_cases hw : σ.μ.V (2, 0, 0) = t.q
 ·refine aa (bv (show ((σ.μ.V (2, 0, 0) : Nat) : Int) = (k.q : Int) by omega)) ?_
  refine gs ?_;refine aq h2 ae rfl ?_;rw [hm];refine ag h2 (yH x P g (mj σ t) t k (aE (σ := σ) hg (by simp) rfl) t.mark 9 (by have := S.N; show σ.μ.N + 2 < _; omega) S.pts) fun v H3 h3 => ?_;exact ap (Bf (g := { g with pv := v }) (k := { k with code := 9 }) (σ' := (mj σ t).note t.mark t.who 9) (t' := { t with code := 9 }) (by simp only [ah, hat]; rw [if_pos hw]) rfl (lj (σ := σ) hg (by simp) rfl) h3.to)
 ·refine aa (aR (show ¬ ((σ.μ.V (2, 0, 0) : Nat) : Int) = (k.q : Int) by omega)) ?_
  refine gs ?_;refine bk h2 ae rfl rfl fun H3 h3 => ?_;refine aj (i7 ..) ?_;exact ap (cH (g := g) (σ' := mj σ t) (t' := { t with at' := 7 }) (k := { k with a := 7 }) (by simp only [ah, hat]; rw [if_neg hw]) (by simp [f9, hobj]) (aE (σ := σ) hg (by simp) rfl) h3.to)
theorem Wj (S : SOk σ) (T : eG σ t) (hat : t.at' = 20) : Sp dr [vp x, vi now] (xP x P σ t) (fun _ : Unit => vb (ah σ t now).2.2) (fun _ => xQ x P (ah σ t now)) := by
 have hN : σ.μ.N < 1099511627000 := by have := S.N; omega
 refine aX fun R H h => ?_;obtain ⟨k, g, hR, hg, h0⟩ := b9 h;have hl := hg.1;simp only [f9, hat] at hR;obtain ⟨ha, hobj⟩ := hR;have ho := T.obj (.inl (by omega))
 have hob : k.obj < σ.obs.length := by omega
 obtain ⟨b, hb⟩ : ∃ b, g.rp[k.obj]? = some b := ⟨_, br (by omega)⟩;refine bu x P g σ t k now S T (by omega) h0 fun b1 H1 h1 => ?_;refine ZV (by omega) ?_;refine ml ?_;refine a9 (fun r => wa _ _ H1) ?_;refine aq h1 ae rfl ?_;refine aj (kB ..) ?_;refine aq h1 ae rfl ?_;refine aj (kD ..) ?_;refine aa (bv (by omega)) ?_;refine gs ?_;refine aq h1 ae rfl ?_;refine aq h1 ae rfl ?_;refine ag h1 (uV (p := P) (g := g) (σ := σ) (μ' := σ.μ.cnt t.who (3, 0, 0) 1) (L := σ.μ.N) (by simp) (Bg g.ib g.m σ.c.sh σ.nx σ.μ.N σ.μ t.who hN)) fun _ H2 h2 => ?_;refine bk h2 ae rfl rfl fun H3 h3 => ?_;refine aj (kC ..) ?_;exact ap (cH (g := g) (σ' := σ.mem (σ.μ.cnt t.who (3, 0, 0) 1)) (t' := { t with at' := 7 }) (k := { k with a := 7 }) (by simp only [ah, hat]) (by simp [f9, hobj]) (aE (σ := σ) hg (by simp) rfl) h3.to)
theorem Wl (S : SOk σ) (T : eG σ t) (hat : t.at' = 21) : Sp dr [vp x, vi now] (xP x P σ t) (fun _ : Unit => vb (ah σ t now).2.2) (fun _ => xQ x P (ah σ t now)) := by
 have hN : σ.μ.N < 1099511627000 := by have := S.N; omega
 refine aX fun R H h => ?_;obtain ⟨k, g, hR, hg, h0⟩ := b9 h;have hl := hg.1;simp only [f9, hat] at hR;obtain ⟨ha, hobj, hw0, hcode⟩ := hR;have ho := T.obj (.inl (by omega))
 have hob : k.obj < σ.obs.length := by omega
 obtain ⟨b, hb⟩ : ∃ b, g.rp[k.obj]? = some b := ⟨_, br (by omega)⟩;refine bu x P g σ t k now S T (by omega) h0 fun b1 H1 h1 => ?_;refine ZV (by omega) ?_;refine ml ?_;refine a9 (fun r => wa _ _ H1) ?_;refine aq h1 ae rfl ?_;refine aj (kB ..) ?_;refine aq h1 ae rfl ?_;refine aj (kD ..) ?_;refine aa (aR (by omega)) ?_;refine gs ?_;refine aa (bv (by omega)) ?_;refine gs ?_;refine ag h1 (jo x P g σ t k hl b hob hb) fun _ H2 h2 => ?_;refine bg ae ?_;refine aN h2 rfl ?_;refine aG h1 h2 (by rfl) ?_;refine ag h2 (uO x P t k (by rw [hw0]; exact T.w)) fun _ H3 h3 => ?_;refine aG h3 h2 (by rfl) ?_;have hwc := d7 k.w;refine ag h3 (mm (p := P) (μ' := (σ.μ.acc t.who 2 (15, (k.obj : Int), ((ay k.w % (aw σ k.obj).length : Nat) : Int))).put (15, (k.obj : Int), ((ay k.w % (aw σ k.obj).length : Nat) : Int)) (ay k.w + 1)) (by simp) hl hob hb (Bk g.m k.obj b (aw σ k.obj) σ.μ t.who (ay k.w) (by omega) (S.cells _ hob) hN)) fun _ H4 h4 => ?_;refine bk h4 ae rfl rfl fun H5 h5 => ?_;refine aj (kC ..) ?_;rw [hobj, hw0] at h5;exact ap (cH (g := g) (σ' := wU σ t) (t' := { t with at' := 22 }) (k := { k with a := 22, obj := t.obj, w := t.w }) (by simp only [ah, hat]) (by simp [f9, hcode]) (aE (σ := σ) hg (by simp) rfl) h5.to)
theorem Wm (S : SOk σ) (T : eG σ t) (hat : t.at' = 22) : Sp dr [vp x, vi now] (xP x P σ t) (fun _ : Unit => vb (ah σ t now).2.2) (fun _ => xQ x P (ah σ t now)) := by
 have hN : σ.μ.N < 1099511627000 := by have := S.N; omega
 refine aX fun R H h => ?_;obtain ⟨k, g, hR, hg, h0⟩ := b9 h;have hl := hg.1;simp only [f9, hat] at hR;obtain ⟨ha, hobj, hcode⟩ := hR;have ho := T.obj (.inl (by omega))
 have hob : k.obj < σ.obs.length := by omega
 obtain ⟨b, hb⟩ : ∃ b, g.rp[k.obj]? = some b := ⟨_, br (by omega)⟩;refine bu x P g σ t k now S T (by omega) h0 fun b1 H1 h1 => ?_;refine ZV (by omega) ?_;refine ml ?_;refine a9 (fun r => wa _ _ H1) ?_;refine aq h1 ae rfl ?_;refine aj (kB ..) ?_;refine aq h1 ae rfl ?_;refine aj (kD ..) ?_;refine aa (aR (by omega)) ?_;refine gs ?_;refine aa (aR (by omega)) ?_;refine gs ?_;refine aa (bv (by omega)) ?_;refine gs ?_;refine aq h1 ae rfl ?_;refine aq h1 ae rfl ?_;refine ag h1 (uV (p := P) (g := g) (σ := σ) (μ' := σ.μ.acc t.who 1 (9, t.s, 0)) (L := σ.μ.N) (by simp) (KN g.ib g.m σ.c.sh σ.nx σ.μ.N σ.μ t.who t.s hN)) fun _ H2 h2 => ?_;refine bk h2 ae rfl rfl fun H3 h3 => ?_;refine bk h3 ae rfl rfl fun H4 h4 => ?_;refine aj (kC ..) ?_;exact ap (cH (g := g) (σ' := σ.mem (σ.μ.acc t.who 1 (9, t.s, 0))) (t' := { t with at' := 23, top := σ.μ.V (9, t.s, 0) }) (k := { k with a := 23, top := σ.μ.V (9, t.s, 0) }) (by simp only [ah, hat]) (by simp [f9, hobj, hcode]) (aE (σ := σ) hg (by simp) rfl) h4.to)
theorem Wn (S : SOk σ) (T : eG σ t) (hat : t.at' = 23) : Sp dr [vp x, vi now] (xP x P σ t) (fun _ : Unit => vb (ah σ t now).2.2) (fun _ => xQ x P (ah σ t now)) := by
 have hN : σ.μ.N < 1099511627000 := by have := S.N; omega
 refine aX fun R H h => ?_;obtain ⟨k, g, hR, hg, h0⟩ := b9 h;have hl := hg.1;simp only [f9, hat] at hR;obtain ⟨ha, hobj, htop, hcode⟩ := hR;have ho := T.obj (.inl (by omega))
 have hob : k.obj < σ.obs.length := by omega
 obtain ⟨b, hb⟩ : ∃ b, g.rp[k.obj]? = some b := ⟨_, br (by omega)⟩;refine bu x P g σ t k now S T (by omega) h0 fun b1 H1 h1 => ?_;refine ZV (by omega) ?_;refine ml ?_;refine a9 (fun r => wa _ _ H1) ?_;refine aq h1 ae rfl ?_;refine aj (kB ..) ?_;refine aq h1 ae rfl ?_;refine aj (kD ..) ?_;refine aa (aR (by omega)) ?_;refine gs ?_;refine aa (aR (by omega)) ?_;refine gs ?_;refine aa (aR (by omega)) ?_;refine gs ?_;refine aa (bv (by omega)) ?_;refine gs ?_;refine aq h1 ae rfl ?_;refine aq h1 ae rfl ?_;refine aq h1 ae rfl ?_;refine aq h1 ae rfl ?_;refine ag h1 (uV (p := P) (g := g) (σ := σ) (μ' := σ.μ.acc t.who 6 (14, (k.obj : Int), 0)) (L := σ.μ.N + 1) (by simp) (Hz g.ib g.m σ.c.sh σ.nx σ.μ.N σ.μ t.who k.obj k.top (by have := S.N; omega) hN)) fun _ H2 h2 => ?_;refine bk h2 ae rfl rfl fun H3 h3 => ?_;refine aj (kC ..) ?_;rw [hobj, htop] at h3;exact ap (cH (g := g) (σ' := { σ with μ := σ.μ.acc t.who 6 (14, (t.obj : Int), 0), nx := fun k => if k = (t.obj : Int) then some t.top else σ.nx k }) (t' := { t with at' := 24 }) (k := { k with a := 24, obj := t.obj, top := t.top }) (by simp only [ah, hat]) (by simp [f9, hcode]) (aE (σ := σ) hg (by simp) rfl) h3.to)
theorem Wo (S : SOk σ) (T : eG σ t) (hat : t.at' = 24) : Sp dr [vp x, vi now] (xP x P σ t) (fun _ : Unit => vb (ah σ t now).2.2) (fun _ => xQ x P (ah σ t now)) := by
 have hN : σ.μ.N < 1099511627000 := by have := S.N; omega
 refine aX fun R H h => ?_;obtain ⟨k, g, hR, hg, h0⟩ := b9 h;have hl := hg.1;simp only [f9, hat] at hR;obtain ⟨ha, hobj, htop, hcode⟩ := hR;have ho := T.obj (.inl (by omega))
 have hob : k.obj < σ.obs.length := by omega
 obtain ⟨b, hb⟩ : ∃ b, g.rp[k.obj]? = some b := ⟨_, br (by omega)⟩;refine bu x P g σ t k now S T (by omega) h0 fun b1 H1 h1 => ?_;refine ZV (by omega) ?_;refine ml ?_;refine a9 (fun r => wa _ _ H1) ?_;refine aq h1 ae rfl ?_;refine aj (kB ..) ?_;refine aq h1 ae rfl ?_;refine aj (kD ..) ?_;refine aa (aR (by omega)) ?_;refine gs ?_;refine aa (aR (by omega)) ?_;refine gs ?_;refine aa (aR (by omega)) ?_;refine gs ?_;refine aa (aR (by omega)) ?_;refine gs ?_;refine aa (bv (by omega)) ?_;refine gs ?_;refine bk h1 ae rfl rfl fun H2 h2 => ?_;refine aq h2 ae rfl ?_;refine aq h2 ae rfl ?_;refine aq h2 ae rfl ?_;refine aq h2 ae rfl ?_;refine ag h2 (uV (p := P) (g := g) (σ := σ) (μ' := σ.μ.swp t.who (9, t.s, 0) k.top (k.obj + 1)) (L := σ.μ.N) (by simp) (HA g.ib g.m σ.c.sh σ.nx σ.μ.N σ.μ t.who t.s k.top k.obj (by have := S.obs; omega) hN)) fun _ H3 h3 => ?_;rw [hobj, htop] at h3;rw [htop]
 by_cases hw : σ.μ.V (9, t.s, 0) = t.top
 ·rw [ia hw]
  refine gs ?_;refine bk h3 ae rfl rfl fun H4 h4 => ?_;refine aj (kC ..) ?_;exact ap (cH (g := g) (σ' := σ.mem (σ.μ.swp t.who (9, t.s, 0) t.top (t.obj + 1))) (t' := { t with at' := 25 }) (k := { k with a := 25, obj := t.obj, top := t.top }) (by simp only [ah, hat]; rw [if_pos hw]) (by simp [f9, hcode]) (aE (σ := σ) hg (by simp) rfl) h4.to)
 ·rw [hZ hw]
  refine gs ?_;refine aj (kC ..) ?_;exact ap (cH (g := g) (σ' := σ.mem (σ.μ.swp t.who (9, t.s, 0) t.top (t.obj + 1))) (t' := { t with at' := 22 }) (k := { k with a := 22, obj := t.obj, top := t.top }) (by simp only [ah, hat]; rw [if_neg hw]) (by simp [f9, hcode]) (aE (σ := σ) hg (by simp) rfl) h3.to)
theorem Wp (S : SOk σ) (T : eG σ t) (hat : t.at' = 25) : Sp dr [vp x, vi now] (xP x P σ t) (fun _ : Unit => vb (ah σ t now).2.2) (fun _ => xQ x P (ah σ t now)) := by
 have hN : σ.μ.N < 1099511627000 := by have := S.N; omega
 refine aX fun R H h => ?_;obtain ⟨k, g, hR, hg, h0⟩ := b9 h;have hl := hg.1;simp only [f9, hat] at hR;obtain ⟨ha, hcode⟩ := hR;refine bu x P g σ t k now S T (by omega) h0 fun b1 H1 h1 => ?_;refine ZV (by omega) ?_;refine ml ?_;refine a9 (fun r => wa _ _ H1) ?_;refine aq h1 ae rfl ?_;refine aj (kB ..) ?_;refine aq h1 ae rfl ?_;refine aj (kD ..) ?_;refine aa (aR (by omega)) ?_;refine gs ?_;refine aa (aR (by omega)) ?_;refine gs ?_;refine aa (aR (by omega)) ?_;refine gs ?_;refine aa (aR (by omega)) ?_;refine gs ?_;refine aa (aR (by omega)) ?_;refine gs ?_;refine aa (bv (by omega)) ?_;refine gs ?_;refine aq h1 ae rfl ?_;refine aq h1 ae rfl ?_;refine ag h1 (uV (p := P) (g := g) (σ := σ) (μ' := σ.μ.cnt t.who (3, 0, 0) 1) (L := σ.μ.N) (by simp) (Bg g.ib g.m σ.c.sh σ.nx σ.μ.N σ.μ t.who hN)) fun _ H2 h2 => ?_;exact ap (Bf (g := g) (k := k) (σ' := σ.mem (σ.μ.cnt t.who (3, 0, 0) 1)) (t' := t) (by simp only [ah, hat]) hcode (aE (σ := σ) hg (by simp) rfl) h2.to)
theorem V8 {R : SP} {H1 : AH} {b1 : Nat} {sv : Value} (g : XIds) (k : Xk) (S : SOk σ) (T : eG σ t) (hg : fQ g σ) (ha : k.a = 2) (hI : k.I = t.i) (hh : k.hit = false) (hi : (t.i : Int) < σ.c.sl)
 (h1 : ac (blk b1 (.cells false [vi t.x.flow, vi t.x.a, vi t.x.b]) * (xB x P t k * (av P g σ * R))) H1) :
 wp (Kd (vp x) (vi now) (vb false) (vp P) sv (vp b1) (vi k.a) (vb true) H1) fun v' H' => ∃ y : Unit, v' = vb (ff σ t).2.2 ∧ ac (xQ x P (ff σ t) * R) H' := by
 refine aj (mZ ..) ?_;refine gs ?_;refine ag h1 (NM x P g σ t k S T hI hi) fun k2 H2 h2 => ?_;rw [ar, ac.pu] at h2;obtain ⟨hX, h2⟩ := h2;obtain ⟨x1, x2, x3, x4, x5, x6, x7, x8⟩ := hX;refine aa (v := vb (aA σ t).found) rfl ?_;refine aa (v := vb (!(aA σ t).found && cz σ (aA σ t))) rfl ?_;cases hf : (aA σ t).found
 ·obtain ⟨y1, y2⟩ := x8 hf
  refine gs ?_;rw [Bool.not_false, Bool.true_and];cases hla : cz σ (aA σ t)
  ·refine gs ?_
   refine aj (bH ..) ?_;exact ap (cH (g := g) (k := k2) (σ' := bJ σ t) (t' := { aA σ t with at' := 2 }) (by simp only [ff, hf, hla]; rfl) (by simp [f9, x1, ha, y1, y2, hh, hI, aA]) (aE (σ := σ) hg (by simp) rfl) (show ac (xB x P t k2 * (av P g (bJ σ t) * R)) H2 from h2.to))
  ·refine gs ?_
   refine bk h2 ae rfl rfl fun H3 h3 => ?_;refine aj (bH ..) ?_;exact ap (cH (g := g) (k := { k2 with a := 3 }) (σ' := bJ σ t) (t' := { aA σ t with at' := 3 }) (by simp only [ff, hf, hla]; rfl) (by simp [f9]) (aE (σ := σ) hg (by simp) rfl) (show ac (xB x P t { k2 with a := 3 } * (av P g (bJ σ t) * R)) H3 from h3.to))
 ·obtain ⟨y1, y2⟩ := x7 hf
  refine gs ?_;refine bk h2 ae rfl rfl fun H3 h3 => ?_;refine aj (bH ..) ?_;exact ap (cH (g := g) (k := { k2 with a := 6 }) (σ' := bJ σ t) (t' := { aA σ t with at' := 6 }) (by simp only [ff, hf]; rfl) (by simp [f9, y2]) (aE (σ := σ) hg (by simp) rfl) (show ac (xB x P t { k2 with a := 6 } * (av P g (bJ σ t) * R)) H3 from h3.to))
theorem Ya (S : SOk σ) (T : eG σ t) (hat : t.at' = 2) : Sp dr [vp x, vi now] (xP x P σ t) (fun _ : Unit => vb (ah σ t now).2.2) (fun _ => xQ x P (ah σ t now)) := by
 have hN : σ.μ.N < 1099511627000 := by have := S.N; omega
 refine aX fun R H h => ?_;obtain ⟨k, g, hR, hg, h0⟩ := b9 h;have hl := hg.1;simp only [f9, hat] at hR;obtain ⟨ha, hI, hh⟩ := hR;have hi := T.i (by omega) (by omega)
 have hs : ah σ t now = ff σ t := by simp only [ah, hat, ff]
 rw [hs];refine bu x P g σ t k now S T (by omega) h0 fun b1 H1 h1 => ?_;refine aj (kA ..) ?_;refine aa (bv (by omega)) ?_;exact V8 x P σ t now g k S T hg ha hI hh hi h1
theorem Yc (S : SOk σ) (T : eG σ t) (hat : t.at' = 4) : Sp dr [vp x, vi now] (xP x P σ t) (fun _ : Unit => vb (ah σ t now).2.2) (fun _ => xQ x P (ah σ t now)) := by
 have hN : σ.μ.N < 1099511627000 := by have := S.N; omega
 refine aX fun R H h => ?_;obtain ⟨k, g, hR, hg, h0⟩ := b9 h;have hl := hg.1;simp only [f9, hat] at hR;obtain ⟨ha, hI, hh⟩ := hR;have hi := T.i (by omega) (by omega);refine bu x P g σ t k now S T (by omega) h0 fun b1 H1 h1 => ?_;refine aj (kA ..) ?_;refine aa (aR (by omega)) ?_;refine aj (mZ ..) ?_;refine gs ?_;refine aa (aR (by omega)) ?_;refine aj (nI ..) ?_;refine gs ?_;refine aa (bv (by omega)) ?_;refine aj (sC ..) ?_;refine gs ?_;refine ag h1 (NM x P g σ t k S T hI hi) fun k2 H2 h2 => ?_;rw [ar, ac.pu] at h2;obtain ⟨hX, h2⟩ := h2;obtain ⟨x1, x2, x3, x4, x5, x6, x7, x8⟩ := hX;refine aa (v := vb (aA σ t).found) rfl ?_;refine aa (v := vb (!(aA σ t).found && cz σ (aA σ t))) rfl ?_;cases hf : (aA σ t).found
 ·obtain ⟨y1, y2⟩ := x8 hf
  refine gs ?_;rw [Bool.not_false, Bool.true_and];cases hla : cz σ (aA σ t)
  ·refine gs ?_
   refine aj (bH ..) ?_;exact ap (cH (g := g) (k := k2) (σ' := bJ σ t) (t' := aA σ t) (by simp only [ah, hat, hf, hla]; rfl) (by simp [f9, x1, ha, y1, y2, hh, hI, aA, hat]) (aE (σ := σ) hg (by simp) rfl) (show ac (xB x P t k2 * (av P g (bJ σ t) * R)) H2 from h2.to))
  ·refine gs ?_
   refine ag h2 (yH x P g (bJ σ t) t k2 (aE (σ := σ) hg (by simp) rfl) now 5 (by have := S.N; show σ.μ.N + 2 < _; omega) S.pts) fun v H3 h3 => ?_;refine bk h3 ae rfl rfl fun H4 h4 => ?_;refine aj (bH ..) ?_;exact ap (cH (g := { g with pv := v }) (k := { k2 with a := 5, code := 5 }) (σ' := (bJ σ t).note now t.who 5) (t' := { aA σ t with at' := 5, code := 5 }) (by simp only [ah, hat, hf, hla]; rfl) (by simp [f9, hf, y1, hh]) (lj (σ := σ) hg (by simp) rfl) (show ac (xB x P t { k2 with a := 5, code := 5 } * (av P { g with pv := v } ((bJ σ t).note now t.who 5) * R)) H4 from h4.to))
 ·obtain ⟨y1, y2⟩ := x7 hf
  refine gs ?_;refine bk h2 ae rfl rfl fun H3 h3 => ?_;refine aj (bH ..) ?_;exact ap (cH (g := g) (k := { k2 with a := 5 }) (σ' := bJ σ t) (t' := { aA σ t with at' := 5 }) (by simp only [ah, hat, hf]; rfl) (by simp [f9, hf, y1, y2]) (aE (σ := σ) hg (by simp) rfl) (show ac (xB x P t { k2 with a := 5 } * (av P g (bJ σ t) * R)) H3 from h3.to))
theorem X9 (S : SOk σ) (T : eG σ t) (hat : t.at' = 0) : Sp dr [vp x, vi now] (xP x P σ t) (fun _ : Unit => vb (ah σ t now).2.2) (fun _ => xQ x P (ah σ t now)) := by
 have hN : σ.μ.N < 1099511627000 := by have := S.N; omega
 refine aX fun R H h => ?_;obtain ⟨k, g, hR, hg, h0⟩ := b9 h;have hl := hg.1;simp only [f9, hat] at hR;obtain ⟨ha, hI, hh⟩ := hR;have hi := T.i (by omega) (by omega);refine Hy x P g σ t k now S T h0 fun b1 H1 h1 => ?_;refine aj (Cx ..) ?_;refine aq h1 ae rfl ?_;refine aa (bv (by omega)) ?_;refine gs ?_
 have fin : ∀ code, dG t.x = some code → wp ((FF cm [vp x, vi now, vi code] H1).bind fun r125 => some ((vb true), r125.2)) fun v' H' => ∃ y : Unit, v' = vb (ah σ t now).2.2 ∧ ac (xQ x P (ah σ t now) * R) H' := by
  intro code hx;refine ag h1 (yH x P g σ t k hg now code (by have := S.N; omega) S.pts) fun v H2 h2 => ?_;exact ap (Bf (g := { g with pv := v }) (k := { k with code := code }) (σ' := σ.note now t.who code) (t' := { t with code := code }) (by simp only [ah, hat, hx]) rfl (lj (σ := σ) hg (bf _) rfl) h2.to)
 refine aq h1 (gf (bR (bR bU))) rfl ?_
 by_cases ha1 : t.x.a < 1
 ·refine aa (cJ ha1) ?_
  refine gs ?_;exact fin 3 (by rw [dG, if_pos (.inl ha1)])
 ·refine aa (b4 ha1) ?_
  refine gs ?_;refine aq h1 (gf (bR (bR bU))) rfl ?_;refine gs ?_
  by_cases ha2 : 65536 < t.x.a
  ·refine aa (wH ha2) ?_
   refine gs ?_;exact fin 3 (by rw [dG, if_pos (.inr ha2)])
  ·refine aa (jQ ha2) ?_
   refine gs ?_;refine aq h1 (gf (bR (bR bU))) rfl ?_
   by_cases hf : t.x.flow < 0
   ·refine aa (cJ hf) ?_
    refine gs ?_;exact fin 5 (by rw [dG, if_neg (by omega), if_pos (.inl hf)])
   ·refine aa (b4 hf) ?_
    refine gs ?_;refine aq h1 (gf (bR (bR bU))) rfl ?_;refine gs ?_
    by_cases hf2 : 1048576 < t.x.flow
    ·refine aa (wH hf2) ?_
     refine gs ?_;exact fin 5 (by rw [dG, if_neg (by omega), if_pos (.inr hf2)])
    ·refine aa (jQ hf2) ?_
     refine gs ?_
     have hx : dG t.x = none := by rw [dG, if_neg (by omega), if_neg (by omega)]
     have hs : ah σ t now = ff σ t := by simp only [ah, hat, hx, ff]
     rw [hs];refine bk h1 ae rfl rfl fun H2 h2 => ?_;refine aj (Cy ..) ?_;refine aq h2 ae rfl ?_;refine aj (kA ..) ?_;refine aa (bv (by omega)) ?_;exact V8 x P σ t now g { k with a := 2 } S T hg rfl hI hh hi h2.to
theorem Q7 (S : SOk σ) (T : eG σ t) : Sp dr [vp x, vi now] (xP x P σ t) (fun _ : Unit => vb (ah σ t now).2.2) (fun _ => xQ x P (ah σ t now)) := by
 rcases T.ats with hat | hat | hat | hat | hat | hat | hat | hat | hat | hat | hat | hat | hat | hat | hat | hat | hat | hat | hat | hat | hat | hat | hat | hat
 ·exact X9 x P σ t now S T hat
 ·exact Ya x P σ t now S T hat
 ·exact Yb x P σ t now S T hat
 ·exact Yc x P σ t now S T hat
 ·exact Yd x P σ t now S T hat
 ·exact Ye x P σ t now S T hat
 ·exact Yf x P σ t now S T hat
 ·exact Yg x P σ t now S T hat
 ·exact Yh x P σ t now S T hat
 ·exact Wa x P σ t now S T hat
 ·exact Wb x P σ t now S T hat
 ·exact Wc x P σ t now S T hat
 ·exact Wd x P σ t now S T hat
 ·exact We x P σ t now S T hat
 ·exact Wf x P σ t now S T hat
 ·exact Wg x P σ t now S T hat
 ·exact Wh x P σ t now S T hat
 ·exact Wi x P σ t now S T hat
 ·exact Wj x P σ t now S T hat
 ·exact Wl x P σ t now S T hat
 ·exact Wm x P σ t now S T hat
 ·exact Wn x P σ t now S T hat
 ·exact Wo x P σ t now S T hat
 ·exact Wp x P σ t now S T hat
end
section
variable {x P : Nat} {g : XIds} {σ σ' : az} {t t' : Tk} {R : SP} {H : AH} {r : az × Tk × Bool} {k : Xk}
end
section
variable (x P : Nat) (g : XIds) (σ : az) (t : Tk) (k : Xk)
variable (now : Int)
end
section
variable (x P : Nat) (σ : az) (t : Tk) (now : Int)
end
abbrev TP := Nat × Pt
def ltT (a b : TP) : Prop := a.2.step < b.2.step ∨ a.2.step = b.2.step ∧ a.1 < b.1
def ZT (L : List TP) : Prop := L.Pairwise ltT
def Wy (X Y : List TP) : Prop := ∀ x ∈ X, ∀ y ∈ Y, x.1 < y.1
abbrev pl (L : List TP) : List Pt := L.map fun x : TP => x.2
theorem XV : ZT [] := List.Pairwise.nil
inductive Yj (bs : Nat) : List TP → Prop
 | last {X : List TP} (h1 : X.length ≤ bs) (h2 : ZT X) : Yj bs X
 | cons {X L : List TP} (h1 : X.length = bs) (h2 : ZT X) (h3 : Wy X L) (h4 : Yj bs L) : Yj bs (X ++ L)
theorem Yj.nil {bs : Nat} : Yj bs [] := .last (by simp) XV
theorem Yj.split {bs : Nat} {L : List TP} (h : Yj bs L) (hl : bs ≤ L.length) : ∃ X L2, L = X ++ L2 ∧ X.length = bs ∧ ZT X ∧ Wy X L2 ∧ Yj bs L2 := by
 cases h with
 | last h1 h2 => exact ⟨L, [], by simp, by omega, h2, (fun x _ y hy => by cases hy), .nil⟩
 | @cons X L' h1 h2 h3 h4 => exact ⟨X, L', rfl, h1, h2, h3, h4⟩
theorem Wy.left {X X2 Y : List TP} (h : Wy (X ++ X2) Y) : Wy X Y := fun x hx y hy => h x (List.mem_append_left _ hx) y hy
theorem Wy.sub {X X' Y Y' : List TP} (h : Wy X Y) (hx : ∀ x ∈ X', x ∈ X) (hy : ∀ y ∈ Y', y ∈ Y) : Wy X' Y' := fun x h1 y h2 => h x (hx x h1) y (hy y h2)
theorem zV : Sp eg [.slice none 0 0, .slice none 0 0] emp (fun _ : Unit => vb true) (fun _ => emp) := by
 have same : ∀ f : Value, Sp pa [.slice none 0 0, .slice none 0 0, f] emp (fun _ : Unit => vb true) (fun _ => emp) := by
  intro f;refine aY (Eh _ _ _) fun R H h => ?_;refine NI ?_;refine NI ?_;refine aa (GB rfl) ?_;refine gs ?_;refine aj (xe _ _ _ _ H) ?_;refine aj (xg _ _ _ _ _ H) ?_;refine aj (xh _ _ _ _ _ H) ?_;refine NI ?_;refine aa (b4 (by omega)) ?_;refine gs ?_;refine aj (tF _ H) ?_;refine aj (xf _ H) ?_;exact ap ⟨(), rfl, h⟩
 refine aY (mF _ _) fun R H h => ?_;refine ag h (same _) fun _ H1 h1 => ?_;exact ap ⟨(), rfl, h1.to⟩
theorem Uf (e : Int) : Sp r7 [.agg (m0 e).toArray, .agg (m0 e).toArray] emp (fun _ : Unit => vb true) (fun _ => emp) := by
 refine aY (Gp _ _) fun R H h => ?_;refine aZ h fun b1 H1 h1 => ?_;refine aZ h1 fun b2 H2 h2 => ?_;refine aq h2 aD rfl ?_;refine aq h2 aD rfl ?_;refine aa (bv rfl) ?_;refine gs ?_;refine aq h2 aD rfl ?_;refine gs ?_;refine aq h2 aD rfl ?_;refine gs ?_;refine aa (bv rfl) ?_;refine gs ?_;refine aq h2 aD rfl ?_;refine gs ?_;refine aq h2 aD rfl ?_;refine gs ?_;refine aa (bv rfl) ?_;refine gs ?_;refine aq h2 aD rfl ?_;refine gs ?_;refine aq h2 aD rfl ?_;refine gs ?_;refine ag h2 zV fun _ H3 h3 => ?_;refine gs ?_;exact ap ⟨(), rfl, h3.to⟩
section
variable {α : Type}
theorem Y1 (A B : List α) (x : α) : (A ++ x :: B)[A.length]? = some x := by simp
theorem WG {A B : List α} {x : α} {i : Nat} (h : i = A.length) : (A ++ x :: B)[i]? = some x := by subst h; exact Y1 A B x
theorem at2 {A B C : List α} {x y : α} {j : Nat} (hj : j = A.length + 1 + B.length) : (A ++ x :: (B ++ y :: C))[j]? = some y := by
 have e : A ++ x :: (B ++ y :: C) = (A ++ x :: B) ++ y :: C := by simp
 rw [e];exact WG (by simp; omega)
end
section
variable {P R : SP} {H : AH} {s : Value} {l : List Pt} {Q : Value → AH → Prop}
end

section
variable (A B : List Pt) (s : Value) (X Y : List TP)
end
section
variable (A B : List Pt) (s : Value) (X Y : List TP) (hX : ZT X) (hY : ZT Y) (hB : Wy X Y) (hb : A.length + X.length + Y.length < 1000000)
include hX hY hB hb
end


theorem Qa {x : Nat} {g : XIds} {σ : az} {R : SP} {H : AH} (h : ac (av x g σ * R) H) : ∃ (kv vv ev : Value) (Z : SP), ac (blk g.m (.cells false [kv, vv, ev]) * (ts 5 Ev.cells ev σ.μ.E * (blk x (.cells false [vi σ.c.sh, vi σ.c.sl, vi σ.c.wk, vi σ.c.wd, vu σ.c.un, vp g.m, vp g.ib, vp g.tb, vp g.po, vp g.co, g.ov, g.rv, g.wv, g.pv]) * (Z * R)))) H ∧
 ∀ {R' : SP} {H' : AH}, ac (blk g.m (.cells false [kv, vv, ev]) * (ts 5 Ev.cells ev σ.μ.E * (blk x (.cells false [vi σ.c.sh, vi σ.c.sl, vi σ.c.wk, vi σ.c.wd, vu σ.c.un, vp g.m, vp g.ib, vp g.tb, vp g.po, vp g.co, g.ov, g.rv, g.wv, g.pv]) * (Z * R')))) H' → ac (av x g σ * R') H' := by
 unfold av at h
 have h1 : ac (bm g.m σ.μ * (blk x (.cells false [vi σ.c.sh, vi σ.c.sl, vi σ.c.wk, vi σ.c.wd, vu σ.c.un, vp g.m, vp g.ib, vp g.tb, vp g.po, vp g.co, g.ov, g.rv, g.wv, g.pv]) * ((gH g.ib g.m σ.c.sh σ.nx σ.μ.N * (tab g.tb g.m σ.c.sh.toNat σ.c.sl.toNat *
  (ts 3 re g.ov (σ.obs.map fun x => x.1) * (ts 1 nT g.rv g.rp * (iD g.m 0 (g.rp.zip (σ.obs.map fun x => x.2)) * (ts 1 dC g.wv (dZ g.ws) * ts 7 Pt.cells g.pv (bq σ.pts))))))) * R))) H := h.to
 obtain ⟨al, h2⟩ := ac.ex.1 h1;rw [ar, ac.pu] at h2;obtain ⟨hp, h2⟩ := h2;obtain ⟨⟨kv, vv, ev⟩, h3⟩ := ac.ex.1 h2;dsimp only at h3
 refine ⟨kv, vv, ev, (ts 3 Df kv al * ts 1 FY vv al) * (gH g.ib g.m σ.c.sh σ.nx σ.μ.N * (tab g.tb g.m σ.c.sh.toNat σ.c.sl.toNat *
  (ts 3 re g.ov (σ.obs.map fun x => x.1) * (ts 1 nT g.rv g.rp * (iD g.m 0 (g.rp.zip (σ.obs.map fun x => x.2)) * (ts 1 dC g.wv (dZ g.ws) * ts 7 Pt.cells g.pv (bq σ.pts))))))), h3.to, fun {R' H'} h4 => ?_⟩
 unfold av
 have h5 : ac (bm g.m σ.μ * (blk x (.cells false [vi σ.c.sh, vi σ.c.sl, vi σ.c.wk, vi σ.c.wd, vu σ.c.un, vp g.m, vp g.ib, vp g.tb, vp g.po, vp g.co, g.ov, g.rv, g.wv, g.pv]) * ((gH g.ib g.m σ.c.sh σ.nx σ.μ.N * (tab g.tb g.m σ.c.sh.toNat σ.c.sl.toNat *
  (ts 3 re g.ov (σ.obs.map fun x => x.1) * (ts 1 nT g.rv g.rp * (iD g.m 0 (g.rp.zip (σ.obs.map fun x => x.2)) * (ts 1 dC g.wv (dZ g.ws) * ts 7 Pt.cells g.pv (bq σ.pts))))))) * R'))) H' := by
  refine ac.ex.2 ⟨al, ?_⟩;rw [ar, ac.pu];refine ⟨hp, ac.ex.2 ⟨(kv, vv, ev), ?_⟩⟩;dsimp only;exact h4.to
 exact h5.to
theorem VU {w how n : Nat} (h : aL w how = some n) : n < 18446744073709551616 := by
 have := d7 w;unfold aL at h
 split at h
 ·split at h
  ·have := fg h; omega
  ·cases h
 ·split at h
  ·have := fg h; omega
  ·cases h
 ·split at h
  ·have := fg h; omega
  ·cases h
 ·cases h
structure SI (σ : az) (k : Nat) : Prop where
 c : bM σ.c = true
 N : σ.μ.N ≤ k
 E : σ.μ.E.length ≤ k
 pts : σ.pts.length ≤ k
 V : ∀ l, σ.μ.V l < 18446744073709551616
 obs : σ.obs.length ≤ k
 cells : ∀ o, o < σ.obs.length → 1 ≤ (aw σ o).length ∧ (aw σ o).length < 1000
 slot : ∀ s i, σ.μ.V (10, s, i) ≠ 0 → σ.μ.V (10, s, i) % 4294967296 < σ.obs.length
 head : ∀ o, σ.μ.V (12, o, 0) ≤ k
theorem SI.ok {σ : az} {k : Nat} (h : SI σ k) (hk : k < 300000) : SOk σ :=
 ⟨h.c, by have := h.N; omega, by have := h.pts; omega, h.V, by have := h.obs; omega, h.cells, h.slot⟩
theorem SI.mono {σ : az} {k k' : Nat} (h : SI σ k) (hk : k ≤ k') : SI σ k' :=
 ⟨h.c, dN h.N hk, dN h.E hk, dN h.pts hk, h.V, dN h.obs (by omega), h.cells, h.slot, fun o => dN (h.head o) hk⟩
theorem SI.acc {σ : az} {k : Nat} (h : SI σ k) (who kd : Int) (l : bC) : SI (σ.mem (σ.μ.acc who kd l)) (k + 2) :=
 ⟨h.c, by have := h.N; show σ.μ.N + 2 ≤ _; omega, by have := h.E; show (σ.μ.E ++ [_]).length ≤ _; simp; omega, dN h.pts (by omega), h.V, dN h.obs (by omega), h.cells, h.slot, fun o => dN (h.head o) (by omega)⟩
theorem SI.put {σ : az} {k : Nat} (h : SI σ k) (l : bC) (v : Nat) (hv : v < 18446744073709551616) (h1 : l.1 ≠ 10) (h2 : l.1 ≠ 12 ∨ v ≤ k) : SI (σ.mem (σ.μ.put l v)) k := by
 refine ⟨h.c, h.N, h.E, h.pts, fun x => ?_, h.obs, h.cells, fun s i => ?_, fun o => ?_⟩
 ·show (if x = l then v else σ.μ.V x) < _
  split
  ·exact hv
  ·exact h.V x
 ·show (if (10, s, i) = l then v else σ.μ.V (10, s, i)) ≠ 0 → (if (10, s, i) = l then v else σ.μ.V (10, s, i)) % _ < _
  rw [if_neg (fun e => h1 (by rw [← e]))];exact h.slot s i
 ·show (if (12, o, 0) = l then v else σ.μ.V (12, o, 0)) ≤ _
  split
  ·rename_i e
   rcases h2 with h2 | h2
   ·exact absurd (by rw [← e]) h2
   ·exact h2
  ·exact h.head o
theorem SI.swp {σ : az} {k : Nat} (h : SI σ k) (who : Int) (l : bC) (was now : Nat) (hv : now < 18446744073709551616) (h1 : l.1 ≠ 10) (h2 : l.1 ≠ 12) : SI (σ.mem (σ.μ.swp who l was now)) (k + 2) := by
 have e : σ.μ.swp who l was now = (if σ.μ.V l = was then (σ.μ.acc who 3 l).put l now else σ.μ.acc who 4 l) := by
  show (⟨_, _, _⟩ : Mu) = _;unfold Mu.swap
  split <;> rfl
 rw [e]
 split
 ·exact (h.acc who 3 l).put l now hv h1 (.inl h2)
 ·exact h.acc who 4 l
theorem SI.turn {σ : az} {k : Nat} (h : SI σ k) (who : Int) (o w how : Nat) : SI (σ.mem (σ.μ.turn who o w (aL w how))) (k + 2) := by
 cases e : aL w how with
 | none => exact h.mono (by omega)
 | some n => exact h.swp who (11, (o : Int), 0) w n (VU e) (by simp) (by simp)
theorem SI.cnt {σ : az} {k : Nat} (h : SI σ k) (who : Int) (l : bC) (n : Nat) (h1 : l.1 ≠ 10) (h2 : l.1 ≠ 12) : SI (σ.mem (σ.μ.cnt who l n)) (k + 2) :=
 (h.acc who 3 l).put l _ (Nat.mod_lt _ (by omega)) h1 (.inl h2)
theorem SI.note {σ : az} {k : Nat} (h : SI σ k) (step who e : Int) : SI (σ.note step who e) (k + 1) :=
 ⟨h.c, dN h.N (by omega), dN h.E (by omega), by have := h.pts; show (σ.pts ++ [_]).length ≤ _; simp; omega, h.V, dN h.obs (by omega), h.cells, h.slot, fun o => dN (h.head o) (by omega)⟩
theorem SI.link {σ : az} {k : Nat} (h : SI σ k) (who : Int) (l : bC) (nx : Int → Option Nat) : SI { σ with μ := σ.μ.acc who 6 l, nx := nx } (k + 2) := by
 have := h.acc who 6 l;exact ⟨this.c, this.N, this.E, this.pts, this.V, this.obs, this.cells, this.slot, this.head⟩
theorem SI.begin {σ : az} {k : Nat} (h : SI σ k) (who place : Int) : SI (σ.begin who place) (k + 1) :=
 ⟨h.c, by have := h.N; show σ.μ.N + 1 ≤ _; omega, dN h.E (by omega), dN h.pts (by omega), h.V, dN h.obs (by omega), h.cells, h.slot, fun o => dN (h.head o) (by omega)⟩
theorem SI.lay {σ : az} {k : Nat} (h : SI σ k) (t : Tk) : SI (dL σ t) (k + 2) := by
 have ha := h.acc t.who 6 (16, (t.obj : Int), ((ay t.w % (aw σ t.obj).length : Nat) : Int));rw [yw]
 have hl : (σ.obs.modify t.obj fun q => (q.1, (aw σ t.obj).set (ay t.w % (aw σ t.obj).length) (⟨t.x.flow, t.x.a, t.x.b⟩ : Pk))).length = σ.obs.length := by simp
 refine ⟨ha.c, ha.N, ha.E, ha.pts, ha.V, by rw [hl]; exact dN h.obs (by omega), fun o ho => ?_, fun s i hs => by show _ < List.length _; rw [hl]; exact h.slot s i hs, ha.head⟩
 have ho' : o < σ.obs.length := by
  have : o < (σ.obs.modify t.obj fun q => (q.1, (aw σ t.obj).set (ay t.w % (aw σ t.obj).length) (⟨t.x.flow, t.x.a, t.x.b⟩ : Pk))).length := ho
  rwa [hl] at this
 have hc := h.cells o ho';rw [s5 ho'] at hc
 have hx : ∀ z : Ob × List Pk, z.2.length = (σ.obs[o]).2.length → 1 ≤ z.2.length ∧ z.2.length < 1000 := fun z hz => by rw [hz]; exact hc
 unfold aw;rw [List.getElem?_modify, br ho'];refine hx (if t.obj = o then ((σ.obs[o]).1, (aw σ t.obj).set (ay t.w % (aw σ t.obj).length) ⟨t.x.flow, t.x.a, t.x.b⟩) else σ.obs[o]) ?_
 split
 ·rename_i e
  subst e;rw [s5 ho', vx]
 ·rfl
theorem eG.mono {σ σ' : az} {t : Tk} (T : eG σ t) (hc : σ'.c = σ.c) (ho : σ'.obs.length = σ.obs.length) : eG σ' t :=
 ⟨fun h => by rw [ho]; exact T.obj h, by rw [hc]; exact T.s, by rw [hc]; exact T.i, T.w, T.c5, T.c0, T.ats⟩
abbrev Tk.new (c : eR) (who : Int) (x : Cl) : Tk := ⟨who, x, (x.flow.tmod c.sh + c.sh).tmod c.sh, 0, 0, 0, false, 0, 0, 0, 0, 0⟩
theorem eG.new {σ : az} (hc : bM σ.c = true) (who : Int) (x : Cl) : eG σ (Tk.new σ.c who x) := by
 have := bE.1 hc;exact ⟨fun h => by simp at h, rfl, fun _ _ => by simp; omega, by simp, fun h => by simp at h, fun h => by simp at h, .inl rfl⟩
theorem MU (σ : az) (t : Tk) : ((dL σ t).obs.map fun q => q.1) = σ.obs.map fun q => q.1 := by
 unfold dL;apply List.ext_getElem?;intro j;simp only [vt, List.getElem?_modify]
 cases σ.obs[j]? with
 | none => rfl
 | some q =>
  show some (if t.obj = j then _ else q).1 = some q.1
  split <;> rfl
structure Kept (σ : az) (t : Tk) (r : az × Tk × Bool) (k : Nat) : Prop where
 si : SI r.1 (k + 3)
 c : r.1.c = σ.c
 obs : r.1.obs.length = σ.obs.length
 hd : (r.1.obs.map fun q => q.1) = σ.obs.map fun q => q.1
 pts : r.1.pts.length ≤ σ.pts.length + 1
 who : r.2.1.who = t.who
 x : r.2.1.x = t.x
 ok : r.2.2 = false → eG r.1 r.2.1
theorem CG {σ : az} {t : Tk} {k : Nat} (h : SI σ k) (T : eG σ t) (hat : t.at' = 0 ∨ t.at' = 2) : Kept σ t (ff σ t) k := by
 refine ⟨(h.acc _ _ _).mono (by omega), rfl, rfl, rfl, Nat.le_succ _, rfl, rfl, fun _ => ?_⟩;have hi := T.i (by omega) (by omega);refine ⟨fun hh => ?_, T.s, fun h1 h2 => ?_, T.w, fun hh => ?_, fun hh => ?_, ?_⟩
 ·show (aA σ t).obj < σ.obs.length
  have hf : (aA σ t).found = true := by
   cases hf : (aA σ t).found with
   | true => rfl
   | false =>
    have hh' : 6 ≤ (if (aA σ t).found = true then 6 else if cz σ (aA σ t) = true then 3 else 2 : Nat) ∨ (if (aA σ t).found = true then 6 else if cz σ (aA σ t) = true then 3 else 2 : Nat) = 5 ∧ _ := hh;rw [hf, if_neg (by simp)] at hh'
    rcases hh' with q | q
    ·split at q <;> omega
    ·have q := q.1
     split at q <;> omega
  have hf' : tK (σ.μ.V (10, t.s, (t.i : Int))) t.x.flow = true := hf;have e : (aA σ t).obj = σ.μ.V (10, t.s, (t.i : Int)) % 4294967296 := if_pos hf';rw [e];have hv := (of_decide_eq_true hf').1;exact h.slot _ _ hv
 ·have h1 : (if (aA σ t).found = true then 6 else if cz σ (aA σ t) = true then 3 else 2 : Nat) < 5 := h1
  have h2 : (if (aA σ t).found = true then 6 else if cz σ (aA σ t) = true then 3 else 2 : Nat) ≠ 3 := h2
  have hl : ¬ cz σ (aA σ t) = true := by
   intro hl;rw [if_pos hl] at h1 h2
   split at h1
   ·omega
   ·rename_i hn
    rw [if_neg hn] at h2;exact h2 rfl
  have : ¬ (σ.c.sl ≤ ((t.i + 1 : Nat) : Int)) := fun q => hl (ia q);show ((t.i + 1 : Nat) : Int) < σ.c.sl;omega
 ·have hh : (if (aA σ t).found = true then 6 else if cz σ (aA σ t) = true then 3 else 2 : Nat) = 5 := hh
  split at hh
  ·omega
  ·split at hh <;> omega
 ·have hh : (if (aA σ t).found = true then 6 else if cz σ (aA σ t) = true then 3 else 2 : Nat) = 10 ∨ (if (aA σ t).found = true then 6 else if cz σ (aA σ t) = true then 3 else 2 : Nat) = 11 ∨ (if (aA σ t).found = true then 6 else if cz σ (aA σ t) = true then 3 else 2 : Nat) = 14 ∨ 21 ≤ (if (aA σ t).found = true then 6 else if cz σ (aA σ t) = true then 3 else 2 : Nat) := hh
  split at hh
  ·omega
  ·split at hh <;> omega
 ·show (if (aA σ t).found = true then 6 else if cz σ (aA σ t) = true then 3 else 2 : Nat) = 0 ∨ _
  simp only [ff]
  split
  ·simp
  ·split <;> simp
theorem QN {σ : az} {t : Tk} {k : Nat} (now : Int) (hk : k < 300000) (h : SI σ k) (T : eG σ t) : Kept σ t (ah σ t now) k := by
 rcases T.ats with hat | hat | hat | hat | hat | hat | hat | hat | hat | hat | hat | hat | hat | hat | hat | hat | hat | hat | hat | hat | hat | hat | hat | hat
 ·-- 0
  cases hx : dG t.x with
  | some e =>
   have hs : ah σ t now = (σ.note now t.who e, { t with code := e }, true) := by simp only [ah, hat, hx]
   rw [hs];exact ⟨(h.note _ _ _).mono (by omega), rfl, rfl, rfl, (by simp [az.note]), rfl, rfl, fun h => by simp at h⟩
  | none =>
   have hs : ah σ t now = ff σ t := by simp only [ah, hat, hx, ff]
   rw [hs];exact CG h T (.inl hat)
 ·-- 2
  have hs : ah σ t now = ff σ t := by simp only [ah, hat, ff]
  rw [hs];exact CG h T (.inr hat)
 ·-- 3
  by_cases hw : σ.μ.V (8, t.s, 0) = 0
  ·have hs : ah σ t now = (σ.mem (σ.μ.swp t.who (8, t.s, 0) 0 1), { t with at' := 4, i := 0 }, false) := by simp only [ah, hat]; rw [if_pos hw]
   rw [hs];exact ⟨(h.swp _ _ _ _ (by omega) (by simp) (by simp)).mono (by omega), rfl, rfl, rfl, Nat.le_succ _, rfl, rfl, fun _ => ⟨fun _ => (by rename_i hh; simp at hh), T.s, (fun _ _ => by have := bE.1 h.c; show ((0 : Nat) : Int) < σ.c.sl; omega), T.w, (fun h => by simp at h), (fun h => by simp at h), (by simp)⟩⟩
  ·have hs : ah σ t now = (σ.mem (σ.μ.swp t.who (8, t.s, 0) 0 1), t, false) := by simp only [ah, hat]; rw [if_neg hw]
   rw [hs];exact ⟨(h.swp _ _ _ _ (by omega) (by simp) (by simp)).mono (by omega), rfl, rfl, rfl, Nat.le_succ _, rfl, rfl, fun _ => T.mono rfl rfl⟩
 ·-- 4
  have hi := T.i (by omega) (by omega)
  cases hf : (aA σ t).found with
  | true =>
   have hs : ah σ t now = (bJ σ t, { aA σ t with at' := 5 }, false) := by simp only [ah, hat, hf]; rfl
   rw [hs];have hf' : tK (σ.μ.V (10, t.s, (t.i : Int))) t.x.flow = true := hf;have e : (aA σ t).obj = σ.μ.V (10, t.s, (t.i : Int)) % 4294967296 := if_pos hf'
   have ho : (aA σ t).obj < σ.obs.length := by rw [e]; exact h.slot _ _ (of_decide_eq_true hf').1
   exact ⟨(h.acc _ _ _).mono (by omega), rfl, rfl, rfl, Nat.le_succ _, rfl, rfl, fun _ => ⟨fun _ => ho, T.s, (fun h1 h2 => by simp at h1), T.w, (fun _ h2 => by rw [show (aA σ t).found = false from h2] at hf; cases hf), (fun h => by simp at h), (by simp)⟩⟩
  | false =>
   cases hla : cz σ (aA σ t) with
   | true =>
    have hs : ah σ t now = ((bJ σ t).note now t.who 5, { aA σ t with at' := 5, code := 5 }, false) := by simp only [ah, hat, hf, hla]; rfl
    rw [hs];exact ⟨((h.acc _ _ _).note _ _ _).mono (by omega), rfl, rfl, rfl, (by simp [az.note]), rfl, rfl, fun _ => ⟨fun _ => (by rename_i hh; rw [show (aA σ t).found = false from hf] at hh; simp at hh), T.s, (fun h1 h2 => by simp at h1), T.w, (fun _ _ => rfl), (fun h => by simp at h), (by simp)⟩⟩
   | false =>
    have hs : ah σ t now = (bJ σ t, aA σ t, false) := by simp only [ah, hat, hf, hla]; rfl
    rw [hs]
    have hl : ¬ (σ.c.sl ≤ ((t.i + 1 : Nat) : Int)) := fun q => by rw [show cz σ (aA σ t) = true from ia q] at hla; cases hla
    have ea : (aA σ t).at' = 4 := hat;exact ⟨(h.acc _ _ _).mono (by omega), rfl, rfl, rfl, Nat.le_succ _, rfl, rfl, fun _ => ⟨fun _ => (by rename_i hh; rw [ea] at hh; simp at hh), T.s, (fun _ _ => by show ((t.i + 1 : Nat) : Int) < σ.c.sl; omega), T.w, (fun h => by rw [ea] at h; simp at h), (fun h => by rw [ea] at h; simp at h), (by rw [ea]; simp)⟩⟩
 ·-- 5
  cases hf : t.found with
  | false =>
   have hs : ah σ t now = (σ.mem ((σ.μ.acc t.who 2 (8, t.s, 0)).put (8, t.s, 0) 0), { t with at' := 6 }, true) := by simp only [ah, hat, hf]; rfl
   rw [hs];exact ⟨((h.acc _ _ _).put _ _ (by omega) (by simp) (.inl (by simp))).mono (by omega), rfl, rfl, rfl, Nat.le_succ _, rfl, rfl, fun h => by simp at h⟩
  | true =>
   have hs : ah σ t now = (σ.mem ((σ.μ.acc t.who 2 (8, t.s, 0)).put (8, t.s, 0) 0), { t with at' := 6 }, false) := by simp only [ah, hat, hf]; rfl
   rw [hs];exact ⟨((h.acc _ _ _).put _ _ (by omega) (by simp) (.inl (by simp))).mono (by omega), rfl, rfl, rfl, Nat.le_succ _, rfl, rfl, fun _ => ⟨fun _ => T.obj (.inr ⟨hat, hf⟩), T.s, (fun h1 h2 => by simp at h1), T.w, (fun h => by simp at h), (fun h => by simp at h), (by simp)⟩⟩
 ·-- 6
  have hs : ah σ t now = (σ.mem (σ.μ.acc t.who 5 (13, (t.obj : Int), 0)), { t with at' := 7 }, false) := by simp only [ah, hat]
  rw [hs];exact ⟨(h.acc _ _ _).mono (by omega), rfl, rfl, rfl, Nat.le_succ _, rfl, rfl, fun _ => ⟨fun _ => T.obj (.inl (by omega)), T.s, (fun h1 h2 => by simp at h1), T.w, (fun h => by simp at h), (fun h => by simp at h), (by simp)⟩⟩
 ·-- 7
  by_cases hw : aH (σ.μ.V (11, (t.obj : Int), 0)) = 2
  ·have hs : ah σ t now = (jW σ t, { t with w := σ.μ.V (11, (t.obj : Int), 0), at' := 3 }, false) := by simp only [ah, hat]; rw [if_pos hw]
   rw [hs];exact ⟨(h.acc _ _ _).mono (by omega), rfl, rfl, rfl, Nat.le_succ _, rfl, rfl, fun _ => ⟨fun _ => (by rename_i hh; simp at hh), T.s, (fun _ h2 => by simp at h2), h.V _, (fun h => by simp at h), (fun h => by simp at h), (by simp)⟩⟩
  ·have hs : ah σ t now = (jW σ t, { t with w := σ.μ.V (11, (t.obj : Int), 0), at' := 8 }, false) := by simp only [ah, hat]; rw [if_neg hw]
   rw [hs];exact ⟨(h.acc _ _ _).mono (by omega), rfl, rfl, rfl, Nat.le_succ _, rfl, rfl, fun _ => ⟨fun _ => T.obj (.inl (by omega)), T.s, (fun h1 h2 => by simp at h1), h.V _, (fun h => by simp at h), (fun h => by simp at h), (by simp)⟩⟩
 ·-- 8
  cases hf : fU σ t with
  | true =>
   have hs : ah σ t now = (ij σ t, { t with at' := 15 }, false) := by simp only [ah, hat, hf]; rfl
   rw [hs];exact ⟨(h.acc _ _ _).mono (by omega), rfl, rfl, rfl, Nat.le_succ _, rfl, rfl, fun _ => ⟨fun _ => T.obj (.inl (by omega)), T.s, (fun h1 h2 => by simp at h1), T.w, (fun h => by simp at h), (fun h => by simp at h), (by simp)⟩⟩
  | false =>
   by_cases hw : aH t.w = 1
   ·have hs : ah σ t now = (ij σ t, { t with at' := 9 }, false) := by simp only [ah, hat, hf]; rw [if_pos hw]; rfl
    rw [hs];exact ⟨(h.acc _ _ _).mono (by omega), rfl, rfl, rfl, Nat.le_succ _, rfl, rfl, fun _ => ⟨fun _ => T.obj (.inl (by omega)), T.s, (fun h1 h2 => by simp at h1), T.w, (fun h => by simp at h), (fun h => by simp at h), (by simp)⟩⟩
   ·have hs : ah σ t now = (ij σ t, { t with at' := 12 }, false) := by simp only [ah, hat, hf]; rw [if_neg hw]; rfl
    rw [hs];exact ⟨(h.acc _ _ _).mono (by omega), rfl, rfl, rfl, Nat.le_succ _, rfl, rfl, fun _ => ⟨fun _ => T.obj (.inl (by omega)), T.s, (fun h1 h2 => by simp at h1), T.w, (fun h => by simp at h), (fun h => by simp at h), (by simp)⟩⟩
 ·-- 9
  cases hw : cG σ.μ t.obj t.w (aL t.w 0) with
  | true =>
   have hs : ah σ t now = ((σ.mem (σ.μ.turn t.who t.obj t.w (aL t.w 0))).note now t.who 0, { t with at' := 10, code := 0 }, false) := by simp only [ah, hat, hw]; rfl
   rw [hs];exact ⟨((h.turn _ _ _ _).note _ _ _).mono (by omega), rfl, rfl, rfl, (by simp [az.note]), rfl, rfl, fun _ => ⟨fun _ => T.obj (.inl (by omega)), T.s, (fun h1 h2 => by simp at h1), T.w, (fun h => by simp at h), (fun _ => rfl), (by simp)⟩⟩
  | false =>
   have hs : ah σ t now = (σ.mem (σ.μ.turn t.who t.obj t.w (aL t.w 0)), { t with at' := 7 }, false) := by simp only [ah, hat, hw]; rfl
   rw [hs];exact ⟨(h.turn _ _ _ _).mono (by omega), rfl, rfl, rfl, Nat.le_succ _, rfl, rfl, fun _ => ⟨fun _ => T.obj (.inl (by omega)), T.s, (fun h1 h2 => by simp at h1), T.w, (fun h => by simp at h), (fun h => by simp at h), (by simp)⟩⟩
 ·-- 10
  have hs : ah σ t now = (dL σ t, { t with at' := 11 }, false) := by simp only [ah, hat]
  rw [hs];exact ⟨(h.lay t).mono (by omega), rfl, il σ t, MU σ t, Nat.le_succ _, rfl, rfl, fun _ => (by have := il σ t; exact ⟨fun _ => (by rw [this]; exact T.obj (.inl (by omega))), T.s, (fun h1 h2 => by simp at h1), T.w, (fun h => by simp at h), (fun _ => T.c0 (by omega)), (by simp)⟩)⟩
 ·-- 11
  have hs : ah σ t now = (wU σ t, t, true) := by simp only [ah, hat]
  rw [hs];exact ⟨((h.acc _ _ _).put _ _ (by have := d7 t.w; omega) (by simp) (.inl (by simp))).mono (by omega), rfl, rfl, rfl, Nat.le_succ _, rfl, rfl, fun h => by simp at h⟩
 ·-- 12
  have hs : ah σ t now = (σ.mem (σ.μ.cnt t.who (3, 0, 0) 4294967296), { t with at' := 13 }, false) := by simp only [ah, hat]
  rw [hs];exact ⟨(h.cnt _ _ _ (by simp) (by simp)).mono (by omega), rfl, rfl, rfl, Nat.le_succ _, rfl, rfl, fun _ => ⟨fun _ => T.obj (.inl (by omega)), T.s, (fun h1 h2 => by simp at h1), T.w, (fun h => by simp at h), (fun h => by simp at h), (by simp)⟩⟩
 ·-- 13
  cases hw : cG σ.μ t.obj t.w (aL t.w 0) with
  | true =>
   have hs : ah σ t now = ((σ.mem (σ.μ.turn t.who t.obj t.w (aL t.w 0))).note now t.who 0, { t with at' := 14, code := 0 }, false) := by simp only [ah, hat, hw]; rfl
   rw [hs];exact ⟨((h.turn _ _ _ _).note _ _ _).mono (by omega), rfl, rfl, rfl, (by simp [az.note]), rfl, rfl, fun _ => ⟨fun _ => T.obj (.inl (by omega)), T.s, (fun h1 h2 => by simp at h1), T.w, (fun h => by simp at h), (fun _ => rfl), (by simp)⟩⟩
  | false =>
   have hs : ah σ t now = (σ.mem (σ.μ.turn t.who t.obj t.w (aL t.w 0)), { t with at' := 20 }, false) := by simp only [ah, hat, hw]; rfl
   rw [hs];exact ⟨(h.turn _ _ _ _).mono (by omega), rfl, rfl, rfl, Nat.le_succ _, rfl, rfl, fun _ => ⟨fun _ => T.obj (.inl (by omega)), T.s, (fun h1 h2 => by simp at h1), T.w, (fun h => by simp at h), (fun h => by simp at h), (by simp)⟩⟩
 ·-- 14
  have hs : ah σ t now = (dL σ t, { t with at' := 21 }, false) := by simp only [ah, hat]
  rw [hs];exact ⟨(h.lay t).mono (by omega), rfl, il σ t, MU σ t, Nat.le_succ _, rfl, rfl, fun _ => (by have := il σ t; exact ⟨fun _ => (by rw [this]; exact T.obj (.inl (by omega))), T.s, (fun h1 h2 => by simp at h1), T.w, (fun h => by simp at h), (fun _ => T.c0 (by omega)), (by simp)⟩)⟩
 ·-- 15
  by_cases hw : σ.μ.V (2, 0, 0) % 2 = 1
  ·have hs : ah σ t now = (mj σ t, { t with q := σ.μ.V (2, 0, 0), at' := 7 }, false) := by simp only [ah, hat]; rw [if_pos hw]
   rw [hs];exact ⟨(h.acc _ _ _).mono (by omega), rfl, rfl, rfl, Nat.le_succ _, rfl, rfl, fun _ => ⟨fun _ => T.obj (.inl (by omega)), T.s, (fun h1 h2 => by simp at h1), T.w, (fun h => by simp at h), (fun h => by simp at h), (by simp)⟩⟩
  ·have hs : ah σ t now = (mj σ t, { t with q := σ.μ.V (2, 0, 0), at' := 16 }, false) := by simp only [ah, hat]; rw [if_neg hw]
   rw [hs];exact ⟨(h.acc _ _ _).mono (by omega), rfl, rfl, rfl, Nat.le_succ _, rfl, rfl, fun _ => ⟨fun _ => T.obj (.inl (by omega)), T.s, (fun h1 h2 => by simp at h1), T.w, (fun h => by simp at h), (fun h => by simp at h), (by simp)⟩⟩
 ·-- 16
  by_cases hw : aH (σ.μ.V (11, (t.obj : Int), 0)) = 2
  ·have hs : ah σ t now = (jW σ t, { t with w := σ.μ.V (11, (t.obj : Int), 0), at' := 3 }, false) := by simp only [ah, hat]; rw [if_pos hw]
   rw [hs];exact ⟨(h.acc _ _ _).mono (by omega), rfl, rfl, rfl, Nat.le_succ _, rfl, rfl, fun _ => ⟨fun _ => (by rename_i hh; simp at hh), T.s, (fun _ h2 => by simp at h2), h.V _, (fun h => by simp at h), (fun h => by simp at h), (by simp)⟩⟩
  ·have hs : ah σ t now = (jW σ t, { t with w := σ.μ.V (11, (t.obj : Int), 0), at' := 17 }, false) := by simp only [ah, hat]; rw [if_neg hw]
   rw [hs];exact ⟨(h.acc _ _ _).mono (by omega), rfl, rfl, rfl, Nat.le_succ _, rfl, rfl, fun _ => ⟨fun _ => T.obj (.inl (by omega)), T.s, (fun h1 h2 => by simp at h1), h.V _, (fun h => by simp at h), (fun h => by simp at h), (by simp)⟩⟩
 ·-- 17
  cases hf : fU σ t with
  | true =>
   have hs : ah σ t now = (ij σ t, { t with at' := 18, mark := now }, false) := by simp only [ah, hat, hf]; rfl
   rw [hs];exact ⟨(h.acc _ _ _).mono (by omega), rfl, rfl, rfl, Nat.le_succ _, rfl, rfl, fun _ => ⟨fun _ => T.obj (.inl (by omega)), T.s, (fun h1 h2 => by simp at h1), T.w, (fun h => by simp at h), (fun h => by simp at h), (by simp)⟩⟩
  | false =>
   have hs : ah σ t now = (ij σ t, { t with at' := 7 }, false) := by simp only [ah, hat, hf]; rfl
   rw [hs];exact ⟨(h.acc _ _ _).mono (by omega), rfl, rfl, rfl, Nat.le_succ _, rfl, rfl, fun _ => ⟨fun _ => T.obj (.inl (by omega)), T.s, (fun h1 h2 => by simp at h1), T.w, (fun h => by simp at h), (fun h => by simp at h), (by simp)⟩⟩
 ·-- 18
  by_cases hw : σ.μ.V (2, 0, 0) = t.q
  ·have hs : ah σ t now = ((mj σ t).note t.mark t.who 9, { t with code := 9 }, true) := by simp only [ah, hat]; rw [if_pos hw]
   rw [hs];exact ⟨((h.acc _ _ _).note _ _ _).mono (by omega), rfl, rfl, rfl, (by simp [az.note]), rfl, rfl, fun h => by simp at h⟩
  ·have hs : ah σ t now = (mj σ t, { t with at' := 7 }, false) := by simp only [ah, hat]; rw [if_neg hw]
   rw [hs];exact ⟨(h.acc _ _ _).mono (by omega), rfl, rfl, rfl, Nat.le_succ _, rfl, rfl, fun _ => ⟨fun _ => T.obj (.inl (by omega)), T.s, (fun h1 h2 => by simp at h1), T.w, (fun h => by simp at h), (fun h => by simp at h), (by simp)⟩⟩
 ·-- 20
  have hs : ah σ t now = (σ.mem (σ.μ.cnt t.who (3, 0, 0) 1), { t with at' := 7 }, false) := by simp only [ah, hat]
  rw [hs];exact ⟨(h.cnt _ _ _ (by simp) (by simp)).mono (by omega), rfl, rfl, rfl, Nat.le_succ _, rfl, rfl, fun _ => ⟨fun _ => T.obj (.inl (by omega)), T.s, (fun h1 h2 => by simp at h1), T.w, (fun h => by simp at h), (fun h => by simp at h), (by simp)⟩⟩
 ·-- 21
  have hs : ah σ t now = (wU σ t, { t with at' := 22 }, false) := by simp only [ah, hat]
  rw [hs];exact ⟨((h.acc _ _ _).put _ _ (by have := d7 t.w; omega) (by simp) (.inl (by simp))).mono (by omega), rfl, rfl, rfl, Nat.le_succ _, rfl, rfl, fun _ => ⟨fun _ => T.obj (.inl (by omega)), T.s, (fun h1 h2 => by simp at h1), T.w, (fun h => by simp at h), (fun _ => T.c0 (by omega)), (by simp)⟩⟩
 ·-- 22
  have hs : ah σ t now = (σ.mem (σ.μ.acc t.who 1 (9, t.s, 0)), { t with top := σ.μ.V (9, t.s, 0), at' := 23 }, false) := by simp only [ah, hat]
  rw [hs];exact ⟨(h.acc _ _ _).mono (by omega), rfl, rfl, rfl, Nat.le_succ _, rfl, rfl, fun _ => ⟨fun _ => T.obj (.inl (by omega)), T.s, (fun h1 h2 => by simp at h1), T.w, (fun h => by simp at h), (fun _ => T.c0 (by omega)), (by simp)⟩⟩
 ·-- 23
  have hs : ah σ t now = ({ σ with μ := σ.μ.acc t.who 6 (14, (t.obj : Int), 0), nx := fun k => if k = (t.obj : Int) then some t.top else σ.nx k }, { t with at' := 24 }, false) := by simp only [ah, hat]
  rw [hs];exact ⟨(h.link _ _ _).mono (by omega), rfl, rfl, rfl, Nat.le_succ _, rfl, rfl, fun _ => ⟨fun _ => T.obj (.inl (by omega)), T.s, (fun h1 h2 => by simp at h1), T.w, (fun h => by simp at h), (fun _ => T.c0 (by omega)), (by simp)⟩⟩
 ·-- 24
  by_cases hw : σ.μ.V (9, t.s, 0) = t.top
  ·have hs : ah σ t now = (σ.mem (σ.μ.swp t.who (9, t.s, 0) t.top (t.obj + 1)), { t with at' := 25 }, false) := by simp only [ah, hat]; rw [if_pos hw]
   rw [hs];exact ⟨(h.swp _ _ _ _ (by have := T.obj (.inl (by omega)); have := h.obs; omega) (by simp) (by simp)).mono (by omega), rfl, rfl, rfl, Nat.le_succ _, rfl, rfl, fun _ => ⟨fun _ => T.obj (.inl (by omega)), T.s, (fun h1 h2 => by simp at h1), T.w, (fun h => by simp at h), (fun _ => T.c0 (by omega)), (by simp)⟩⟩
  ·have hs : ah σ t now = (σ.mem (σ.μ.swp t.who (9, t.s, 0) t.top (t.obj + 1)), { t with at' := 22 }, false) := by simp only [ah, hat]; rw [if_neg hw]
   rw [hs];exact ⟨(h.swp _ _ _ _ (by have := T.obj (.inl (by omega)); have := h.obs; omega) (by simp) (by simp)).mono (by omega), rfl, rfl, rfl, Nat.le_succ _, rfl, rfl, fun _ => ⟨fun _ => T.obj (.inl (by omega)), T.s, (fun h1 h2 => by simp at h1), T.w, (fun h => by simp at h), (fun _ => T.c0 (by omega)), (by simp)⟩⟩
 ·-- 25
  have hs : ah σ t now = (σ.mem (σ.μ.cnt t.who (3, 0, 0) 1), t, true) := by simp only [ah, hat]
  rw [hs];exact ⟨(h.cnt _ _ _ (by simp) (by simp)).mono (by omega), rfl, rfl, rfl, Nat.le_succ _, rfl, rfl, fun h => by simp at h⟩
theorem Is {α : Type} (F : α → SP) (R : SP) : (ex fun x => F x * R) = ex F * R := by
 apply SP.ext;intro h
 constructor
 ·rintro ⟨x, a, b, hd, rfl, ha, hb⟩
  exact ⟨a, b, hd, rfl, ⟨x, ha⟩, hb⟩
 ·rintro ⟨a, b, hd, rfl, ⟨x, ha⟩, hb⟩
  exact ⟨x, a, b, hd, rfl, ha, hb⟩
def eT (e p : Nat) (rp : List Nat) (t : Tk) : SP := ex fun v : Value => pu (E7 rp t v) * eB e p (PI e (xy t.at')) v t
def xT (x P : Nat) (t : Tk) : SP := ex fun k : Xk => pu (f9 t k) * xB x P t k
theorem R4 (e p : Nat) (rp : List Nat) (σ : az) (t : Tk) : eP e p rp σ t = eT e p rp t * bT p rp σ := by
 unfold eP eT;rw [← Is]
 congr 1
 funext v
 rw [ar]
theorem abH (x P : Nat) (σ : az) (t : Tk) : xP x P σ t = xT x P t * bD P σ := by
 unfold xP xT;rw [← Is]
 congr 1
 funext v
 rw [ar]
def xU (x P : Nat) (r : az × Tk × Bool) : SP := ex fun k : Xk => pu (if r.2.2 = true then k.code = r.2.1.code else f9 r.2.1 k) * xB x P r.2.1 k
theorem abI (x P : Nat) (r : az × Tk × Bool) : xQ x P r = xU x P r * bD P r.1 := by
 unfold xQ xU;rw [← Is]
 congr 1
 funext v
 rw [ar]
def eU (e p : Nat) (rp : List Nat) (r : az × Tk × Bool) : SP := if r.2.2 = true then emp else eT e p rp r.2.1
theorem aaE (e p : Nat) (rp : List Nat) (r : az × Tk × Bool) : eQ e p rp r = eU e p rp r * bT p rp r.1 := by
 unfold eQ eU
 split
 ·rw [jd]
 ·rw [R4]
theorem abJ {x P : Nat} {r : az × Tk × Bool} (h : r.2.2 = false) : xU x P r = xT x P r.2.1 := by
 unfold xU xT;simp only [h]
 rfl
theorem aaF {e p : Nat} {rp : List Nat} {r : az × Tk × Bool} (h : r.2.2 = false) : eU e p rp r = eT e p rp r.2.1 := by
 unfold eU;rw [if_neg (by rw [h]; simp)]
section
variable (p x : Nat) (rp : List Nat) (σ : az)
theorem R6 (hc : bM σ.c = true) (who : Int) (c : Cl) : Sp vE [vp p, vi who, .agg (Cl.cells c).toArray] (bT p rp σ) (fun e : Nat => vp e) (fun e => eT e p rp (Tk.new σ.c who c) * bT p rp σ) := by
 have hr := bE.1 hc;refine aY (Ip _ _ _) fun R H h => ?_;refine aZ h fun b H1 h1 => ?_;refine aU h1 ?_;obtain ⟨g, hrp, hg, k1⟩ := hM (p := p) (rp := rp) (σ := σ) (R := blk b (.cells false (Cl.cells c)) * R) (H := H1) h1.to;refine aq k1 ae rfl ?_;refine aq k1 aD rfl ?_;refine ag k1 (Rj (p := p) (g := g) (σ := σ) (Hg g.tb g.m σ.c.sh.toNat σ.c.sl.toNat (by omega) c.flow)) fun _ H2 k2 => ?_;refine dB k2 k1 rfl ?_
 have es : vi ((c.flow.tmod (σ.c.sh.toNat : Int) + (σ.c.sh.toNat : Int)).tmod (σ.c.sh.toNat : Int)) = vi (Tk.new σ.c who c).s := by rw [show ((σ.c.sh.toNat : Nat) : Int) = σ.c.sh from by omega]
 rw [es];have h2 := bG (p := p) (rp := rp) (σ := σ) (R := blk b (.cells false (Cl.cells c)) * R) (H := H2) g hrp hg k2.to;refine j9 ?_;refine aZ h2 fun e H3 h3 => ?_;refine bk h3 ae rfl rfl fun H4 h4 => ?_;refine ap ⟨e, rfl, ?_⟩;rw [← R4];exact FV (v := .pointer none) (n := kV) (gC (by simp)) rfl h4.to
theorem GV (who : Int) (c : Cl) (s : Int) : Sp mh [vp x, vi who, .agg (Cl.cells c).toArray] emp (fun b : Nat => vp b) (fun b => xT b x (Tk.new σ.c who c)) := by
 refine aY (Au _ _ _) fun R H h => ?_;refine aZ h fun b H1 h1 => ?_;refine aU h1 ?_;refine j9 ?_;refine aZ h1 fun xb H2 h2 => ?_;refine ap ⟨xb, rfl, ?_⟩;refine ac.ex.2 ⟨⟨0, 0, -1, false, 0, 0, 0, 0, 0, 0, 0⟩, ?_⟩;rw [ar, ac.pu];exact ⟨by simp [f9], h2.to⟩
theorem JN (who place : Int) (hN : σ.μ.N < 1000000) : Sp iW [.agg [vp p, vp x].toArray, vi who, vi place] (bT p rp σ * bD x σ) (fun _ : Unit => .tuple #[]) (fun _ => bT p rp (σ.begin who place) * bD x (σ.begin who place)) := by
 refine aY (tN _ _ _) fun R H h => ?_;refine aZ (l := [vp p, vp x]) h fun b H1 h1 => ?_;refine aq h1 aD rfl ?_;refine ag h1 (Y2 p rp σ who place) fun _ H2 h2 => ?_;refine aq h2 aD rfl ?_;refine ag h2 (ZS x σ who place (by omega)) fun _ H3 h3 => ?_;exact ap ⟨(), rfl, h3.to⟩
theorem VL (xb : Nat) (r : az × Tk × Bool) : Sp r9 [vp xb, vb r.2.2] (xU xb x r) (fun _ : Unit => .agg (m0 (if r.2.2 = true then r.2.1.code else 0)).toArray) (fun _ => xU xb x r) := by
 refine aX fun R H h => ?_;obtain ⟨k, h1⟩ := ac.ex.1 h;rw [ar, ac.pu] at h1;obtain ⟨hk, h1⟩ := h1;refine a9 (fun r => Gv _ _ H) ?_;refine bj h1 fun b H2 h2 => ?_;have back : ∀ {H' : AH}, ac (xB xb x r.2.1 k * R) H' → ac (xU xb x r * R) H' := fun h => ac.ex.2 ⟨k, by rw [ar]; exact ac.pu.2 ⟨hk, h⟩⟩;cases hd : r.2.2
 ·refine gs ?_
  refine j9 ?_;refine f7 h2 rfl rfl fun H3 h3 => ?_;refine aU h3 ?_;exact ap ⟨(), rfl, back h3.to⟩
 ·refine gs ?_
  rw [hd, if_pos rfl] at hk;refine V0 h2 ae ?_;rw [hk];refine f7 h2 rfl rfl fun H3 h3 => ?_;refine aU h3 ?_;exact ap ⟨(), rfl, back h3.to⟩
end
theorem UF (d : Bool) : ak .bool .neq (vb d) (vb d) = some (vb false) := by cases d <;> rfl
theorem ZO {p x pb : Nat} {rp : List Nat} {σ : az} {P R : SP} {H : AH} {Q : Value → AH → Prop} {k : Value × AH → Value → OV} (h : ac P H) [f : Fr P (blk pb (.cells false [vp p, vp x]) * (bT p rp σ * bD x σ)) R]
 (hk : ∀ H', ac (blk pb (.cells false [vp p, vp x]) * (bT p rp σ * bD x σ) * R) H' → wp (k (vi σ.μ.E.length, H') (vb false)) Q) :
 wp (fH (vb false) false [.f 0] (vp pb) H fun v29 =>
  fH (vb false) false [.n, .f 0] v29 H fun v30 =>
  (gE (vb false) false H (FF gi [v30] H)).bind fun r31 =>
  yq (vb false) false [.f 1] (vp pb) fun v32 =>
  (gB (vb false) false (am v32 r31.2)).bind fun v33 =>
  bw (am v32 H) (am v32 r31.2) <|
  yq (vb false) false [.n, .f 5] v33 fun v34 =>
  (gB (vb false) false (am v34 r31.2)).bind fun v35 =>
  bw (am v34 H) (am v34 r31.2) <|
  yq (vb false) false [.n, .f 2] v35 fun v36 =>
  (gB (vb false) false (am v36 r31.2)).bind fun v37 =>
  bw (am v36 H) (am v36 r31.2) <|
  (uR (yv (vb false)) false (fq v37 some) (some undef)).bind fun v38 =>
  bw (Xx v37) (Xx v37) <|
  (gB (vb false) false (ak .other .neq r31.1 v38)).bind fun v39 =>
  (aQ (vb false) (vb true) v39).bind (k r31)) Q := by
 have h0 := ac.fr (A := blk pb (.cells false [vp p, vp x]) * (bT p rp σ * bD x σ)) h;obtain ⟨g, hrp, hg, k1⟩ := hM (p := p) (rp := rp) (σ := σ) (R := bD x σ * (blk pb (.cells false [vp p, vp x]) * R)) (H := H) h0.to;obtain ⟨gx, hgx, l1⟩ := fB (p := x) (σ := σ) (R := aI p g σ * (blk pb (.cells false [vp p, vp x]) * R)) (H := H) k1.to;obtain ⟨kv, vv, ev, Z, m1, back⟩ := Qa (x := x) (g := gx) (σ := σ) (R := aI p g σ * (blk pb (.cells false [vp p, vp x]) * R)) (H := H) l1.to;refine gs ?_;refine aq m1 aD rfl ?_;refine gs ?_;refine aq m1 ae rfl ?_;have bl : Sp gi [vp g.m] (aI p g σ) (fun _ : Unit => vi σ.μ.E.length) (fun _ => aI p g σ) := KS (p := p) (g := g) (σ := σ) (XE g.m σ.μ);refine lV ?_;refine ag m1 bl fun _ H2 m2 => ?_
 have gadff : ∀ {o : List Stp} {y : Value} {kk : Value → OV}, wp (ad o y kk) Q → wp (yq (vb false) false o y kk) Q := fun {o y kk} q => by rw [rN]; exact q
 refine gadff ?_;refine bg aD ?_;refine cL ?_;refine aN m2 rfl ?_;refine aG m1 m2 (by rfl) ?_;refine gadff ?_;refine bg ae ?_;refine cL ?_;refine aN m2 rfl ?_;refine aG m1 m2 (by rfl) ?_;refine gadff ?_;refine bg ae ?_;refine cL ?_;refine aN m2 rfl ?_;refine aG m1 m2 (by rfl) ?_;refine Bc ?_;refine gD (s := ev) (l := σ.μ.E) m2 ?_;refine QX ?_;refine cL ?_;refine aa (GB rfl) ?_;refine aa (nH _ _) ?_;refine hk H2 ?_;have m3 := back (R' := aI p g σ * (blk pb (.cells false [vp p, vp x]) * R)) (H' := H2) m2.to;have m4 := ep (p := x) (σ := σ) (R := aI p g σ * (blk pb (.cells false [vp p, vp x]) * R)) gx hgx m3;have m5 := bG (p := p) (rp := rp) (σ := σ) (R := bD x σ * (blk pb (.cells false [vp p, vp x]) * R)) (H := H2) g hrp hg m4.to;exact m5.to
def Bt (f : Value → Value → Bool) : List Value → List Value → Bool
 | [], [] => true
 | x :: xs, y :: ys => f x y && Bt f xs ys
 | _, _ => false
def WT : Nat → Value → Value → Bool
 | _, .bool a, .bool b => a == b
 | _, .int k a, .int k' b => decide (k = k') && decide (a = b)
 | _, .string a, .string b => decide (a = b)
 | _, .pointer a, .pointer b => decide (a = b)
 | _, .slice a n e, .slice a' n' e' => decide (a = a') && decide (n = n') && decide (e = e')
 | _, .map a, .map b => decide (a = b)
 | _, .nilFunc, .nilFunc => true
 | _, .nilIface, .nilIface => true
 | n + 1, .agg xs, .agg ys => Bt (WT n) xs.toList ys.toList
 | n + 1, .tuple xs, .tuple ys => Bt (WT n) xs.toList ys.toList
 | n + 1, .func f xs zs, .func f' ys ws => decide (f = f') && Bt (WT n) xs.toList ys.toList && Bt (WT n) zs.toList ws.toList
 | _, _, _ => false
theorem zn {f : Value → Value → Bool} (hf : ∀ x y, f x y = true → x = y) : ∀ xs ys, Bt f xs ys = true → xs = ys := by
 intro xs
 induction xs with
 | nil => intro ys h; cases ys with | nil => rfl | cons y ys => simp [Bt] at h
 | cons x xs ih =>
  intro ys h
  cases ys with
  | nil => simp [Bt] at h
  | cons y ys =>
   simp only [Bt, Bool.and_eq_true] at h;rw [hf _ _ h.1, ih _ h.2]
theorem BY : ∀ (n : Nat) (x y : Value), WT n x y = true → x = y := by
 intro n
 induction n with
 | zero =>
  intro x y h
  cases x <;> cases y <;> simp_all [WT]
 | succ n ih =>
  have hl := zn ih;intro x y h
  cases x <;> cases y <;> simp_all [WT]
  ·exact ⟨Array.toList_inj.1 (hl _ _ h.1.2), Array.toList_inj.1 (hl _ _ h.2)⟩
  ·exact Array.toList_inj.1 (hl _ _ h)
  ·exact Array.toList_inj.1 (hl _ _ h)
def eqO : Option Value → Option Value → Bool
 | none, none => true
 | some x, some y => WT 4 x y
 | _, _ => false
theorem On {x y : Option Value} (h : eqO x y = true) : x = y := by
 cases x <;> cases y <;> simp_all [eqO]
 exact BY _ _ _ h
section
variable (g d : Nat)
def xY (b : Nat) : Nat := if b < g then b else b + d
def wT (a : Addr) : Addr := { a with block := xY g d a.block }
def bn : Value → Value
 | .pointer a => .pointer (a.map (wT g d))
 | .slice a n e => .slice (a.map (wT g d)) n e
 | .map r => .map (r.map (xY g d))
 | .func fn f c => .func fn (f.map bn) (c.map bn)
 | .iface t v => .iface t (bn v)
 | .agg cs => .agg (cs.map bn)
 | .tuple cs => .tuple (cs.map bn)
 | v => v
end
abbrev fV (g d : Nat) (l : List Value) : List Value := l.map (bn g d)
section
variable {g d : Nat}
theorem Nx {a b : Nat} (h : xY g d a = xY g d b) : a = b := by unfold xY at h; split at h <;> split at h <;> omega
@[simp] theorem Ny (b : Bool) : (bn g d) (.bool b) = .bool b := by rw [bn] <;> simp
@[simp] theorem wh (k : IntKind) (n : Int) : (bn g d) (.int k n) = .int k n := by rw [bn] <;> simp
@[simp] theorem aa6 (k : FloatKind) (n : Nat) : (bn g d) (.float k n) = .float k n := by rw [bn] <;> simp
@[simp] theorem ZG (k : FloatKind) (n m : Nat) : (bn g d) (.complex k n m) = .complex k n m := by rw [bn] <;> simp
@[simp] theorem CI (b : ByteArray) : (bn g d) (.string b) = .string b := by rw [bn] <;> simp
@[simp] theorem abR (r : Option Nat) : (bn g d) (.chan r) = .chan r := by rw [bn] <;> simp
@[simp] theorem ZH : (bn g d) .nilFunc = .nilFunc := by rw [bn] <;> simp
@[simp] theorem YO : (bn g d) .nilIface = .nilIface := by rw [bn] <;> simp
@[simp] theorem Kr (a : Option Addr) : (bn g d) (.pointer a) = .pointer (a.map (wT g d)) := by rw [bn]
@[simp] theorem fC (a : Option Addr) (n e : Nat) : (bn g d) (.slice a n e) = .slice (a.map (wT g d)) n e := by rw [bn]
@[simp] theorem E9 (r : Option Nat) : (bn g d) (.map r) = .map (r.map (xY g d)) := by rw [bn]
@[simp] theorem aa7 (t : TypeId) (v : Value) : (bn g d) (.iface t v) = .iface t ((bn g d) v) := by rw [bn]
@[simp] theorem abS (fn : Fn) (f c : Array Value) : (bn g d) (.func fn f c) = .func fn (f.map (bn g d)) (c.map (bn g d)) := by rw [bn]
@[simp] theorem Km (cs : Array Value) : (bn g d) (.agg cs) = .agg (cs.map (bn g d)) := by rw [bn]
@[simp] theorem Vv (cs : Array Value) : (bn g d) (.tuple cs) = .tuple (cs.map (bn g d)) := by rw [bn]
@[simp] theorem pI : (bn g d) undef = undef := by simp [undef]
theorem Vp {v : Value} (h : cB v = true) : (bn g d) v = v := by
 unfold cB at h
 split at h <;> first | (simp; done) | cases h
theorem uC {l : List Value} (h : l.all cB = true) : fV g d l = l := by
 induction l with
 | nil => rfl
 | cons x l ih => simp only [List.all_cons, Bool.and_eq_true] at h; simp only [fV, List.map_cons, Vp h.1]; rw [show List.map (bn g d) l = l from ih h.2]
theorem G6 {v : Value} (h : uY v = true) : (bn g d) v = v := by
 unfold uY at h
 split at h
 ·rename_i cs
  rw [Km]; congr 1; exact Array.toList_inj.1 (by rw [Array.toList_map]; exact uC h)
 ·rename_i cs
  rw [Vv]; congr 1; exact Array.toList_inj.1 (by rw [Array.toList_map]; exact uC h)
 ·exact Vp h
theorem AM (v : Value) : ((bn g d) v).cells = v.cells.map (bn g d) := by
 cases v <;> simp [Value.cells]
theorem QE (v : Value) : ((bn g d) v).cells.toList = fV g d v.cells.toList := by rw [AM, Array.toList_map]
theorem ZI (v : Value) : Value.oneCell' ((bn g d) v) = Value.oneCell' v := by
 cases v <;> simp [Value.oneCell']
theorem Nz (l : List Value) : (fV g d l).all Value.oneCell' = l.all Value.oneCell' := by
 simp only [fV, List.all_map]; congr 1; funext v; exact ZI v
theorem Fa (v : Value) : sm ((bn g d) v) = (sm v).map fun a => (xY g d a.1, a.2) := by
 cases v with
 | pointer a =>
  cases a with
  | none => simp [sm]
  | some a =>
   obtain ⟨b, o, sp⟩ := a
   cases sp <;> simp [sm, wT]
 | _ => simp [sm]
theorem Vu (c a b : Value) : aQ ((bn g d) c) ((bn g d) a) ((bn g d) b) = (aQ c a b).map (bn g d) := by
 cases c with
 | bool t => cases t <;> simp [aQ]
 | _ => simp [aQ]
theorem XU (v : Value) : sn ((bn g d) v) = (sn v).map (bn g d) := by
 cases v with
 | pointer a => cases a <;> simp [sn]
 | func fn f c => cases fn <;> simp [sn]
 | _ => simp [sn]
theorem XP (off : Nat) (v : Value) : BA off ((bn g d) v) = (BA off v).map (bn g d) := by
 unfold BA;rw [Fa]
 cases sm v <;> simp [wT]
theorem Vt (n : Option Nat) (off : Nat) (v : Value) : jC n off ((bn g d) v) = (jC n off v).map (bn g d) := by
 cases v with
 | agg cs => cases n <;> simp [jC]
 | _ => simp [jC]
theorem XQ (e : Nat) (v i : Value) : mW e ((bn g d) v) ((bn g d) i) = (mW e v i).map (bn g d) := by
 cases v with
 | slice a n k =>
  cases a with
  | none => simp [mW]
  | some a =>
   obtain ⟨b, o, sp⟩ := a
   cases sp with
   | none =>
    cases i with
    | int k i => simp only [fC, wh, dD, wT, mW]; split <;> simp [wT]
    | _ => simp [mW, wT]
   | some sp => simp [mW, wT]
 | _ => simp [mW]
theorem Vs (len e : Nat) (v i : Value) : hF len e ((bn g d) v) ((bn g d) i) = (hF len e v i).map (bn g d) := by
 cases v with
 | pointer a =>
  cases a with
  | none => simp [hF]
  | some a =>
   obtain ⟨b, o, sp⟩ := a
   cases sp with
   | none =>
    cases i with
    | int k i => simp only [Kr, wh, dD, wT, hF]; split <;> simp [wT]
    | _ => simp [hF, wT]
   | some sp => simp [hF, wT]
 | _ => simp [hF]
theorem Kp (len : Nat) (n : Option Nat) (e : Nat) (v i : Value) : iz len n e ((bn g d) v) ((bn g d) i) = (iz len n e v i).map (bn g d) := by
 cases v with
 | agg cs =>
  cases i with
  | int k i =>
   simp only [Km, wh, iz]
   split
   ·cases n <;> simp
   ·rfl
  | _ => simp [iz]
 | _ => simp [iz]
theorem Ko (v i : Value) : iy ((bn g d) v) ((bn g d) i) = (iy v i).map (bn g d) := by
 cases v with
 | string b =>
  cases i with
  | int k i =>
   simp only [CI, wh, iy]
   split
   ·rw [Option.map_map]; congr 1; funext x; simp
   ·rfl
  | _ => simp [iy]
 | _ => simp [iy]
theorem XR (v : Value) : ou ((bn g d) v) = (ou v).map (bn g d) := by cases v <;> simp [ou]
theorem XS (l : List Value) : gT (fV g d l) = (gT l).map (bn g d) := by
 match l with
 | [] => rfl
 | [x] => simp [fV, gT]
 | [x, y] => cases x <;> cases y <;> simp [fV, gT]
 | x :: y :: z :: l => simp [fV, gT]
theorem XT (l : List Value) : iH (fV g d l) = (iH l).map (bn g d) := by
 match l with
 | [] => rfl
 | [x] => simp [fV, iH]
 | [x, y] => cases x <;> cases y <;> simp [fV, iH]
 | x :: y :: z :: l => simp [fV, iH]
theorem AN : ∀ xs ys : List Value, bi (fV g d xs) (fV g d ys) = bi xs ys := by
 intro xs
 induction xs with
 | nil => intro ys; cases ys <;> simp [fV, bi]
 | cons x xs ih =>
  intro ys
  cases ys with
  | nil => cases x <;> simp [fV, bi]
  | cons y ys =>
   have := ih ys;simp only [fV] at this
   cases x <;> cases y <;> simp [fV, bi, this]
theorem ZJ (cl : TCls) (x y : Value) : ot cl ((bn g d) x) ((bn g d) y) = ot cl x y := by
 cases cl with
 | flat n =>
  cases x with
  | agg a =>
   cases y with
   | agg b =>
    simp only [Km, ot, Array.size_map, Array.toList_map];rw [show bi (List.map (bn g d) a.toList) (List.map (bn g d) b.toList) = bi a.toList b.toList from AN _ _]
   | _ => simp [ot]
  | _ => cases y <;> simp [ot]
 | bool => cases x <;> cases y <;> simp [ot]
 | ptr => cases x <;> cases y <;> simp [ot] <;> (rename_i a b; cases a <;> cases b <;> simp [ot])
 | slice => cases x <;> cases y <;> simp [ot] <;> (rename_i a _ _ b _ _; cases a <;> cases b <;> simp [ot])
 | map => cases x <;> cases y <;> simp [ot] <;> (rename_i a b; cases a <;> cases b <;> simp [ot])
 | func => cases x <;> cases y <;> simp [ot]
 | other => cases x <;> cases y <;> simp [ot]
theorem XH {op : BinOp} {k : IntKind} {a b : Int} : (lx op k a b).map (bn g d) = lx op k a b := by
 cases op <;> simp [lx] <;> (split <;> simp)
theorem P8 {op : BinOp} {k : IntKind} {a b : Int} : (lh op k a b).map (bn g d) = lh op k a b := by
 unfold lh
 split
 ·rfl
 ·cases op <;> simp
theorem XJ {op : BinOp} {a b : ByteArray} : (UV op a b).map (bn g d) = UV op a b := by
 cases op <;> simp [UV]
theorem Vr (cl : TCls) (op : BinOp) (x y : Value) : Cq cl op ((bn g d) x) ((bn g d) y) = (Cq cl op x y).map (bn g d) := by
 cases op <;> simp only [Cq, ZJ, Option.map_map, Option.map_none] <;> (congr 1; funext b; simp)
theorem XO (cl : TCls) (op : BinOp) (x y : Value) : ak cl op ((bn g d) x) ((bn g d) y) = (ak cl op x y).map (bn g d) := by
 have key := Vr (g := g) (d := d) cl op x y
 cases x with
 | int k a =>
  cases y with
  | int k' b => cases op <;> simp only [wh, ak, P8] <;> (split <;> simp [XH])
  | _ => simpa [ak] using key
 | string a =>
  cases y with
  | string b => simp [ak, XJ]
  | _ => simpa [ak] using key
 | _ => simpa [ak] using key
theorem ZK (op : UnOp) (x : Value) : pw op ((bn g d) x) = (pw op x).map (bn g d) := by cases op <;> cases x <;> simp [pw]
theorem Vq (k : Option IntKind) (x : Value) : bO k ((bn g d) x) = (bO k x).map (bn g d) := by cases k <;> cases x <;> simp [bO]
theorem G7 (v : Value) (i : Nat) : ai ((bn g d) v) i = (ai v i).map (bn g d) := by cases v <;> simp [ai]
theorem AQ (v : Value) : lI ((bn g d) v) = lI v := by cases v <;> simp [lI]
end
inductive Tr (α : Type) where
 | lf
 | nd (v : Option α) (l r : Tr α)
section
variable {α : Type}
def Tr.get : Tr α → Nat → Option α
 | .lf, _ => none
 | .nd v l r, i => match i with
  | 0 => v
  | i + 1 => match Nat.beq (i % 2) 0 with
   | true => l.get (i / 2)
   | false => r.get (i / 2)
def Tr.set (x : α) : Nat → Tr α → Nat → Option (Tr α)
 | 0, _, _ => none
 | k + 1, t, i => match i with
  | 0 => match t with
   | .lf => some (.nd (some x) .lf .lf)
   | .nd _ l r => some (.nd (some x) l r)
  | i + 1 => match Nat.beq (i % 2) 0 with
   | true => match t with
    | .lf => (Tr.set x k .lf (i / 2)).map fun l' => .nd none l' .lf
    | .nd v l r => (Tr.set x k l (i / 2)).map fun l' => .nd v l' r
   | false => match t with
    | .lf => (Tr.set x k .lf (i / 2)).map fun r' => .nd none .lf r'
    | .nd v l r => (Tr.set x k r (i / 2)).map fun r' => .nd v l r'
theorem Tr.get_set {x : α} : ∀ (k : Nat) {t t' : Tr α} {i : Nat}, Tr.set x k t i = some t' → ∀ j, t'.get j = if j = i then some x else t.get j := by
 intro k
 induction k with
 | zero => intro t t' i h; cases h
 | succ k ih =>
  intro t t' i h j
  cases i with
  | zero =>
   cases t with
   | lf => simp only [Tr.set] at h; cases h; cases j with
    | zero => rfl
    | succ j => simp only [Tr.get]; split <;> simp [Tr.get]
   | nd v l r => simp only [Tr.set] at h; cases h; cases j with
    | zero => rfl
    | succ j => simp [Tr.get]
  | succ i =>
   simp only [Tr.set] at h
   have beq : ∀ a : Nat, Nat.beq a 0 = (a == 0) := fun a => by cases a <;> simp [Nat.beq]
   have lf : ∀ j, (Tr.lf : Tr α).get j = none := fun j => by cases j <;> rfl
   cases hb : Nat.beq (i % 2) 0 with
   | true =>
    have hi : i % 2 = 0 := by rw [beq] at hb; simpa using hb
    rw [hb] at h;simp only at h
    have key : ∃ v l r l', Tr.set x k l (i / 2) = some l' ∧ t' = .nd v l' r ∧ ∀ j, t.get j = (Tr.nd v l r).get j := by
     cases t with
     | lf => obtain ⟨l', h1, e⟩ := aM.1 h; exact ⟨none, .lf, .lf, l', h1, e.symm, fun j => by rw [lf]; cases j with | zero => rfl | succ j => simp only [Tr.get]; split <;> rfl⟩
     | nd v l r => obtain ⟨l', h1, e⟩ := aM.1 h; exact ⟨v, l, r, l', h1, e.symm, fun j => rfl⟩
    obtain ⟨v, l, r, l', h1, rfl, hg⟩ := key;rw [hg]
    cases j with
    | zero => rfl
    | succ j =>
     simp only [Tr.get]
     cases hj : Nat.beq (j % 2) 0 with
     | true =>
      have hj' : j % 2 = 0 := by rw [beq] at hj; simpa using hj
      simp only;rw [ih h1]
      by_cases e : j / 2 = i / 2
      ·rw [if_pos e, if_pos (by omega)]
      ·rw [if_neg e, if_neg (by omega)]
     | false =>
      have hj' : j % 2 ≠ 0 := by rw [beq] at hj; simpa using hj
      simp only;rw [if_neg (by omega)]
   | false =>
    have hi : i % 2 ≠ 0 := by rw [beq] at hb; simpa using hb
    rw [hb] at h;simp only at h
    have key : ∃ v l r r', Tr.set x k r (i / 2) = some r' ∧ t' = .nd v l r' ∧ ∀ j, t.get j = (Tr.nd v l r).get j := by
     cases t with
     | lf => obtain ⟨l', h1, e⟩ := aM.1 h; exact ⟨none, .lf, .lf, l', h1, e.symm, fun j => by rw [lf]; cases j with | zero => rfl | succ j => simp only [Tr.get]; split <;> rfl⟩
     | nd v l r => obtain ⟨l', h1, e⟩ := aM.1 h; exact ⟨v, l, r, l', h1, e.symm, fun j => rfl⟩
    obtain ⟨v, l, r, l', h1, rfl, hg⟩ := key;rw [hg]
    cases j with
    | zero => rfl
    | succ j =>
     simp only [Tr.get]
     cases hj : Nat.beq (j % 2) 0 with
     | false =>
      have hj' : j % 2 ≠ 0 := by rw [beq] at hj; simpa using hj
      simp only;rw [ih h1]
      by_cases e : j / 2 = i / 2
      ·rw [if_pos e, if_pos (by omega)]
      ·rw [if_neg e, if_neg (by omega)]
     | true =>
      have hj' : j % 2 = 0 := by rw [beq] at hj; simpa using hj
      simp only;rw [if_neg (by omega)]
end
structure EH where
 n : Nat
 t : Tr AObj
def EH.get (E : EH) (b : Nat) : Option AObj := E.t.get b
def EH.set (E : EH) (b : Nat) (o : AObj) : Option EH := (Tr.set o 24 E.t b).map fun t => ⟨E.n, t⟩
def EH.push (E : EH) (o : AObj) : Option EH := (Tr.set o 24 E.t E.n).map fun t => ⟨E.n + 1, t⟩
section
variable (g d : Nat)
def G5 (e : MapEntry) : MapEntry := { e with key := bn g d e.key, val := bn g d e.val }
def HE : AObj → AObj
 | .cells ro cs => .cells ro (fV g d cs)
 | .map es c => .map (es.map (G5 g d)) c
 | .dead => .dead
structure HR (F : List AObj) (E : EH) (H : AH) : Prop where
 len : F.length = d
 le : g ≤ E.n
 size : H.size = E.n + d
 get : ∀ b, H.get (xY g d b) = (E.get b).map (HE g d)
 out : ∀ b, E.n ≤ b → E.get b = none
 fr : ∀ b, g ≤ b → b < g + d → H.get b = F[b - g]?
end
section
variable {g d : Nat} {F : List AObj} {E E' : EH} {H : AH}
theorem HR.lt (h : HR g d F E H) {b : Nat} {o : AObj} (hb : E.get b = some o) : b < E.n := by
 rcases Nat.lt_or_ge b E.n with h1 | h1
 ·exact h1
 ·rw [h.out b h1] at hb; cases hb
theorem HR.new (h : HR g d F E H) : H.size = xY g d E.n := by
 unfold xY; rw [if_neg (by have := h.le; omega)]; exact h.size
theorem HR.shlt (h : HR g d F E H) {b : Nat} (hb : b < E.n) : xY g d b < H.size := by
 rw [h.size]; unfold xY; split <;> omega
theorem HR.set (h : HR g d F E H) {b : Nat} {o : AObj} (hb : b < E.n) (hs : E.set b o = some E') : HR g d F E' (H.set (xY g d b) (HE g d o)) := by
 obtain ⟨t, ht, rfl⟩ := aM.1 hs;have hg := Tr.get_set 24 ht;refine ⟨h.len, h.le, by rw [AH.size_set]; exact h.size, fun j => ?_, fun j hj => ?_, fun j h1 h2 => ?_⟩
 ·show _ = (t.get j).map _
  rw [hg j, AH.get_set]
  by_cases e : j = b
  ·subst e; rw [if_pos rfl, if_pos rfl, if_pos (h.shlt hb)]; rfl
  ·rw [if_neg (fun x => e (Nx x)), if_neg e]; exact h.get j
 ·show t.get j = none
  rw [hg j, if_neg (by have : E.n ≤ j := hj; omega)]; exact h.out j hj
 ·rw [AH.get_set_ne (by unfold xY; split <;> omega)]; exact h.fr j h1 h2
theorem HR.push (h : HR g d F E H) {o : AObj} (hs : E.push o = some E') : HR g d F E' (H.push (HE g d o)) := by
 obtain ⟨t, ht, rfl⟩ := aM.1 hs;have hg := Tr.get_set 24 ht;have hle := h.le;have hsz := h.size;refine ⟨h.len, by show g ≤ E.n + 1; omega, by rw [AH.size_push, hsz]; show _ = E.n + 1 + d; omega, fun j => ?_, fun j hj => ?_, fun j h1 h2 => ?_⟩
 ·show _ = (t.get j).map _
  rw [hg j, AH.get_push, h.new]
  by_cases e : j = E.n
  ·subst e; rw [if_pos rfl, if_pos rfl]; rfl
  ·rw [if_neg (fun x => e (Nx x)), if_neg e]; exact h.get j
 ·show t.get j = none
  have : E.n + 1 ≤ j := hj;rw [hg j, if_neg (by omega)]; exact h.out j (by omega)
 ·rw [AH.get_push_old (by omega)]; exact h.fr j h1 h2
end
section
variable {g d : Nat}
theorem CH (cs : List Value) (o : Nat) (xs : List Value) : splice (fV g d cs) o (fV g d xs) = fV g d (splice cs o xs) := by
 simp [splice, fV, List.map_take, List.map_drop]
theorem AP (places : Nat → Option (Nat × Nat)) : ∀ (parts : List (Nat × Value)) (zero : List Value), cA places (fV g d zero) (parts.map fun p => (p.1, (bn g d) p.2)) = (cA places zero parts).map (fV g d) := by
 intro parts
 induction parts with
 | nil => intro zero; rfl
 | cons p parts ih =>
  intro zero;obtain ⟨i, v⟩ := p;simp only [List.map_cons, cA]
  cases places i with
  | none => rfl
  | some q =>
   simp only [be];rw [AM, Array.size_map, Array.toList_map, show (fV g d zero).length = zero.length from qM _]
   split
   ·rw [show List.map (bn g d) v.cells.toList = fV g d v.cells.toList from rfl, CH]; exact ih _
   ·rfl
theorem QF (e : Nat) (x : Value) (lo hi : Option Value) : dY e ((bn g d) x) (lo.map (bn g d)) (hi.map (bn g d)) = (dY e x lo hi).map (bn g d) := by
 cases x with
 | slice a n e' =>
  have key : ∀ L R : Option Int, (L.bind fun l => R.bind fun h =>
   if 0 ≤ l ∧ l ≤ h ∧ h ≤ n then
    match a.map (wT g d) with
    | none => if n = 0 ∧ e' = 0 then some (.slice none 0 0) else none
    | some ⟨b, o, none⟩ => if e' = e ∧ 0 < e then some (.slice (some ⟨b, o + l.toNat * e, none⟩) (h.toNat - l.toNat) e) else none
    | _ => none
   else none : Option Value) = (L.bind fun l => R.bind fun h =>
   if 0 ≤ l ∧ l ≤ h ∧ h ≤ n then
    match a with
    | none => if n = 0 ∧ e' = 0 then some (.slice none 0 0) else none
    | some ⟨b, o, none⟩ => if e' = e ∧ 0 < e then some (.slice (some ⟨b, o + l.toNat * e, none⟩) (h.toNat - l.toNat) e) else none
    | _ => none
   else none : Option Value).map (bn g d) := by
   intro L R
   cases L with
   | none => rfl
   | some l =>
    cases R with
    | none => rfl
    | some r =>
     simp only [be]
     split
     ·cases a with
      | none => simp only [Option.map_none]; split <;> simp
      | some a =>
       obtain ⟨b, o, sp⟩ := a
       cases sp with
       | none => simp only [dD, wT]; split <;> simp [wT]
       | some sp => simp [wT]
     ·rfl
  cases lo with
  | none =>
   cases hi with
   | none => simp only [fC, dY, Option.map_none]; exact key (some 0) (some n)
   | some h => simp only [fC, dY, dD, AQ]; exact key (some 0) (lI h)
  | some l =>
   cases hi with
   | none => simp only [fC, dY, dD, AQ]; exact key (lI l) (some n)
   | some h => simp only [fC, dY, dD, AQ]; exact key (lI l) (lI h)
 | _ => simp [dY]
theorem Kq {x hi mx v : Value} (h : iA x hi mx = some v) : iA ((bn g d) x) ((bn g d) hi) ((bn g d) mx) = some ((bn g d) v) := by
 unfold iA at h
 split at h
 ·cases h; simp [iA]
 ·cases h; simp [iA, wT]
 ·cases h
theorem Vm (v : Value) : oZ ((bn g d) v) = oZ v := by cases v <;> simp [oZ]
theorem AO (cl : KCls) (k : Value) : g9 cl ((bn g d) k) = g9 cl k := by
 cases cl <;> cases k <;> simp [g9]
 rename_i n cs
 congr 2
 funext v; exact Vm v
theorem Vn (cl : KCls) (a b : Value) : jA cl ((bn g d) a) ((bn g d) b) = jA cl a b := by
 cases cl with
 | flat n =>
  cases a <;> cases b <;> simp [jA]
  rename_i x y
  rw [show bi (List.map (bn g d) x.toList) (List.map (bn g d) y.toList) = bi x.toList y.toList from AN _ _]
 | int => cases a <;> cases b <;> simp [jA]
 | string => cases a <;> cases b <;> simp [jA]
theorem sI (cl : KCls) (k : Value) : ∀ (es : List MapEntry) (i : Nat), aT cl ((bn g d) k) (es.map (G5 g d)) i = (aT cl k es i).map fun r => r.map fun p => (p.1, (bn g d) p.2) := by
 intro es
 induction es with
 | nil => intro i; rfl
 | cons e es ih =>
  intro i;simp only [List.map_cons, aT, G5, Vn]
  cases jA cl k e.key with
  | none => rfl
  | some b =>
   simp only [be]
   cases b with
   | true => simp
   | false => simp only [Bool.false_eq_true, if_false]; exact ih _
theorem Kn (v : Value) (args : List Value) : b6 ((bn g d) v) (fV g d args) = (b6 v args).map fun r => (r.1, fV g d r.2) := by
 cases v with
 | func fn f c => cases fn <;> simp [b6, fV]
 | _ => simp [b6]
end
def oF (E : EH) (b : Nat) : Option (List Value) :=
 match E.get b with
 | some (.cells _ cs) => some cs
 | _ => none
def RY (v : Value) (E : EH) : Option Value := (sm v).bind fun a => (oF E a.1).bind fun cs => cs[a.2]?
def RZ (n : Nat) (v : Value) (E : EH) : Option Value :=
 (sm v).bind fun a => (oF E a.1).bind fun cs => if a.2 + n ≤ cs.length then some (.agg ((cs.drop a.2).take n).toArray) else none
def eSt (n : Nat) (v x : Value) (E : EH) : Option EH :=
 (sm v).bind fun a => match E.get a.1 with
  | some (.cells false cs) => if x.cells.size = n ∧ a.2 + n ≤ cs.length ∧ x.cells.toList.all Value.oneCell' = true then E.set a.1 (.cells false (splice cs a.2 x.cells.toList)) else none
  | _ => none
def Y9 (cs : List Value) (E : EH) : Option (Value × EH) := (E.push (.cells false cs)).map fun E' => (.pointer (some ⟨E.n, 0, none⟩), E')
def BV (n e : Nat) (cs : List Value) (E : EH) : Option (Value × EH) := (E.push (.cells false cs)).map fun E' => (.slice (some ⟨E.n, 0, none⟩) n e, E')
def BU (v : Value) (E : EH) : Option Value :=
 match v with
 | .map none => some (.int .i64 0)
 | .map (some b) => match E.get b with
  | some (.map es _) => some (.int .i64 es.length)
  | _ => none
 | _ => none
def Oj (e : Nat) (x : Value) (E : EH) : Option (Nat × List Value) :=
 match x with
 | .slice none n _ => if n = 0 then some (0, []) else none
 | .slice (some ⟨b, o, none⟩) m _ => if m = 0 then some (0, []) else (oF E b).bind fun cs => if o + m * e ≤ cs.length then some (m, (cs.drop o).take (m * e)) else none
 | _ => none
def Y7 (e bytes : Nat) (s x : Value) (E : EH) : Option (Value × EH) :=
 (Oj e x E).bind fun r =>
  if r.2.all Value.oneCell' = true ∧ 0 < e then
   match s with
   | .slice none n k => if n = 0 ∧ k = 0 then (if r.1 = 0 then some (.slice none 0 0, E) else if r.1 * bytes ≤ room ∧ r.1 ≤ room then BV r.1 e r.2 E else none) else none
   | .slice (some ⟨b, o, none⟩) n e' =>
    if r.1 = 0 then some (s, E)
    else if e' = 0 then (if n = 0 ∧ r.1 * bytes ≤ room ∧ r.1 ≤ room then BV r.1 e r.2 E else none)
    else match E.get b with
     | some (.cells false cs) =>
      if e' = e ∧ o + n * e ≤ cs.length ∧ (n + r.1) * bytes ≤ room ∧ n + r.1 ≤ room then (E.set b .dead).bind fun E1 => BV (n + r.1) e ((cs.drop o).take (n * e) ++ r.2) E1 else none
     | _ => none
   | _ => none
  else none
def R0 (zero : List Value) (e bytes : Nat) (len cap : Value) (E : EH) : Option (Value × EH) :=
 match len, cap with
 | .int _ l, .int _ c => if 0 ≤ l ∧ l = c ∧ l.toNat * bytes ≤ room ∧ l.toNat ≤ room ∧ 0 < e ∧ zero.length = e then
  BV l.toNat e (List.replicate l.toNat zero).flatten E else none
 | _, _ => none
def uZ (v : Value) (E : EH) : Option (List MapEntry × Nat) :=
 match v with
 | .map none => some ([], 0)
 | .map (some b) => match E.get b with
  | some (.map es c) => some (es, c)
  | _ => none
 | _ => none
def ye (fl : KCls) (zero : Value) (m k : Value) (ok : Bool) (E : EH) : Option Value :=
 if g9 fl k = true then (uZ m E).bind fun es => (aT fl k es.1 0).map fun r => match r with
  | some (_, v) => if ok then .tuple #[v, .bool true] else v
  | none => if ok then .tuple #[zero, .bool false] else zero
 else none
def Dd (fl : KCls) (m k x : Value) (E : EH) : Option EH :=
 if g9 fl k = true then match m with
 | .map (some b) => match E.get b with
  | some (.map es c) => (aT fl k es 0).bind fun r => match r with
   | some (i, _) => E.set b (.map (es.modify i fun e => { e with key := k, val := x }) c)
   | none => E.set b (.map (es ++ [{ key := k, val := x, born := c }]) (c + 1))
  | _ => none
 | _ => none
 else none
def C7 (fl : KCls) (m k : Value) (E : EH) : Option EH :=
 if g9 fl k = true then match m with
 | .map (some b) => match E.get b with
  | some (.map es c) => (aT fl k es 0).bind fun r => match r with
   | some (i, _) => E.set b (.map (es.eraseIdx i) c)
   | none => E.set b (.map es c)
  | _ => none
 | _ => none
 else none
def dk (g d : Nat) (F : List AObj) (x : Option (Value × EH)) (y : Option (Value × AH)) : Prop := ∀ v E', x = some (v, E') → ∃ H', y = some (bn g d v, H') ∧ HR g d F E' H'
def Wz (g d : Nat) (F : List AObj) (x : Option EH) (y : Option AH) : Prop := ∀ E', x = some E' → ∃ H', y = some H' ∧ HR g d F E' H'
section
variable {g d : Nat} {F : List AObj} {E E' : EH} {H : AH}
theorem HR.cells (h : HR g d F E H) (b : Nat) : dh H (xY g d b) = (oF E b).map (fV g d) := by
 unfold dh oF;rw [h.get b]
 cases E.get b with
 | none => rfl
 | some o => cases o <;> rfl
theorem HR.ld1 (h : HR g d F E H) (v : Value) : am ((bn g d) v) H = (RY v E).map (bn g d) := by
 unfold am RY;rw [Fa]
 cases sm v with
 | none => rfl
 | some a =>
  simp only [dD, be, h.cells]
  cases oF E a.1 <;> simp [fV]
theorem HR.ldN (h : HR g d F E H) (n : Nat) (v : Value) : aB n ((bn g d) v) H = (RZ n v E).map (bn g d) := by
 unfold aB RZ;rw [Fa]
 cases sm v with
 | none => rfl
 | some a =>
  simp only [dD, be, h.cells]
  cases oF E a.1 with
  | none => rfl
  | some cs =>
   simp only [dD, be, fV, qM]
   split
   ·simp [List.map_take, List.map_drop]
   ·rfl
theorem HR.st (h : HR g d F E H) (n : Nat) (v x : Value) : Wz g d F (eSt n v x E) (dg n ((bn g d) v) ((bn g d) x) H) := by
 intro E' he;unfold eSt at he;unfold dg;rw [Fa];obtain ⟨a, ha, he⟩ := aC.1 he;rw [ha];simp only [dD, be, h.get]
 split at he
 ·rename_i cs hcs
  split at he
  ·rename_i hc
   rw [hcs];simp only [dD, HE]
   rw [AM, Array.size_map, Array.toList_map, show (fV g d cs).length = cs.length from qM _, show (List.map (bn g d) x.cells.toList).all Value.oneCell' = x.cells.toList.all Value.oneCell' from Nz _, if_pos hc,
    show splice (fV g d cs) a.2 (List.map (bn g d) x.cells.toList) = fV g d (splice cs a.2 x.cells.toList) from CH _ _ _]
   exact ⟨_, rfl, h.set (h.lt hcs) he⟩
  ·cases he
 ·cases he
theorem HR.new' (h : HR g d F E H) (cs : List Value) : dk g d F (Y9 cs E) (some (XI (fV g d cs) H)) := by
 intro v E' he;obtain ⟨E1, h1, e⟩ := aM.1 he;cases e;exact ⟨H.push (HE g d (.cells false cs)), by simp [XI, h.new, wT, HE], h.push h1⟩
theorem HR.rowP (h : HR g d F E H) (n e : Nat) (cs : List Value) : dk g d F (BV n e cs E) (some (.slice (some ⟨H.size, 0, none⟩) n e, H.push (.cells false (fV g d cs)))) := by
 intro v E' he;obtain ⟨E1, h1, e⟩ := aM.1 he;cases e;exact ⟨H.push (HE g d (.cells false cs)), by simp [h.new, wT, HE], h.push h1⟩
theorem HR.lenM (h : HR g d F E H) (v : Value) : lJ ((bn g d) v) H = (BU v E).map (bn g d) := by
 cases v with
 | map r =>
  cases r with
  | none => simp [lJ, BU]
  | some b =>
   simp only [E9, dD, lJ, BU, h.get]
   cases E.get b with
   | none => rfl
   | some o => cases o <;> simp [HE]
 | _ => simp [lJ, BU]
theorem HR.row (h : HR g d F E H) (e : Nat) (x : Value) : j4 e ((bn g d) x) H = (Oj e x E).map fun r => (r.1, fV g d r.2) := by
 cases x with
 | slice a n k =>
  cases a with
  | none => simp only [fC, Option.map_none, j4, Oj]; split <;> rfl
  | some a =>
   obtain ⟨b, o, sp⟩ := a
   cases sp with
   | some sp => simp [j4, Oj, wT]
   | none =>
    simp only [fC, dD, wT, j4, Oj, h.cells]
    split
    ·rfl
    ·cases oF E b with
     | none => rfl
     | some cs =>
      simp only [dD, be, fV, qM]
      split
      ·simp [List.map_take, List.map_drop]
      ·rfl
 | _ => simp [j4, Oj]
theorem HR.mapOf (h : HR g d F E H) (v : Value) : i6 ((bn g d) v) H = (uZ v E).map fun r => (r.1.map (G5 g d), r.2) := by
 cases v with
 | map r =>
  cases r with
  | none => simp [i6, uZ]
  | some b =>
   simp only [E9, dD, i6, uZ, h.get]
   cases E.get b with
   | none => rfl
   | some o => cases o <;> simp [HE]
 | _ => simp [i6, uZ]
theorem HR.lookup (h : HR g d F E H) (fl : KCls) {zero : Value} (hz : (bn g d) zero = zero) (m k : Value) (ok : Bool) : b7 fl zero ((bn g d) m) ((bn g d) k) ok H = (ye fl zero m k ok E).map (bn g d) := by
 unfold b7 ye;rw [AO]
 split
 ·rw [h.mapOf]
  cases uZ m E with
  | none => rfl
  | some es =>
   simp only [dD, be, sI]
   cases aT fl k es.1 0 with
   | none => rfl
   | some r =>
    cases r with
    | none => cases ok <;> simp [hz]
    | some p => cases ok <;> simp
 ·rfl
theorem HR.update (h : HR g d F E H) (fl : KCls) (m k x : Value) : Wz g d F (Dd fl m k x E) (dv fl ((bn g d) m) ((bn g d) k) ((bn g d) x) H) := by
 intro E' he;unfold Dd at he
 split at he
 ·rename_i hk
  split at he
  ·rename_i b
   split at he
   ·rename_i es c hb
    obtain ⟨r, hr, he⟩ := aC.1 he
    have hg : H.get (xY g d b) = some (.map (es.map (G5 g d)) c) := by rw [h.get, hb]; rfl
    have hf := sI (g := g) (d := d) fl k es 0;rw [hr] at hf;simp only [E9, dD, dv, AO, hk, if_true, hg]
    cases r with
    | some p =>
     have hf : aT fl ((bn g d) k) (es.map (G5 g d)) 0 = some (some (p.1, (bn g d) p.2)) := hf;rw [hf];refine ⟨_, rfl, ?_⟩;have := h.set (h.lt hb) he;simp only [HE] at this;show HR g d F E' (H.set (xY g d b) (.map ((es.map (G5 g d)).modify p.1 fun e => { e with key := (bn g d) k, val := (bn g d) x }) c));rw [show (es.map (G5 g d)).modify p.1 (fun e => { e with key := (bn g d) k, val := (bn g d) x }) = (es.modify p.1 fun e => { e with key := k, val := x }).map (G5 g d) from ?_]
     ·exact this
     ·apply List.ext_getElem?
      intro i;simp only [List.getElem?_modify, vt]
      cases es[i]? with
      | none => rfl
      | some e => simp only [dD, Option.map_map]; split <;> rfl
    | none =>
     have hf : aT fl ((bn g d) k) (es.map (G5 g d)) 0 = some none := hf;rw [hf];refine ⟨_, rfl, ?_⟩;have := h.set (h.lt hb) he;simp only [HE, Jk, List.map_cons, List.map_nil, G5] at this;exact this
   ·cases he
  ·cases he
 ·cases he
theorem HR.delete (h : HR g d F E H) (fl : KCls) (m k : Value) : Wz g d F (C7 fl m k E) (lH fl ((bn g d) m) ((bn g d) k) H) := by
 intro E' he;unfold C7 at he
 split at he
 ·rename_i hk
  split at he
  ·rename_i b
   split at he
   ·rename_i es c hb
    obtain ⟨r, hr, he⟩ := aC.1 he
    have hg : H.get (xY g d b) = some (.map (es.map (G5 g d)) c) := by rw [h.get, hb]; rfl
    have hf := sI (g := g) (d := d) fl k es 0;rw [hr] at hf;simp only [E9, dD, lH, AO, hk, if_true, hg]
    cases r with
    | some p =>
     have hf : aT fl ((bn g d) k) (es.map (G5 g d)) 0 = some (some (p.1, (bn g d) p.2)) := hf;rw [hf];refine ⟨_, rfl, ?_⟩;have := h.set (h.lt hb) he;simp only [HE] at this;show HR g d F E' (H.set (xY g d b) (.map ((es.map (G5 g d)).eraseIdx p.1) c));rw [show (es.map (G5 g d)).eraseIdx p.1 = (es.eraseIdx p.1).map (G5 g d) from by simp [List.eraseIdx_eq_take_drop_succ, List.map_take, List.map_drop]];exact this
    | none =>
     have hf : aT fl ((bn g d) k) (es.map (G5 g d)) 0 = some none := hf;rw [hf];exact ⟨_, rfl, h.set (h.lt hb) he⟩
   ·cases he
  ·cases he
 ·cases he
theorem HR.make (h : HR g d F E H) {zero : List Value} (hz : fV g d zero = zero) (e by' : Nat) (len cap : Value) : dk g d F (R0 zero e by' len cap E) (jV zero e by' ((bn g d) len) ((bn g d) cap) H) := by
 intro v E' he;unfold R0 at he
 split at he
 ·split at he
  ·rename_i k1 l k2 c hc
   obtain ⟨H', h1, h2⟩ := h.rowP _ _ _ v E' he;refine ⟨H', ?_, h2⟩;simp only [wh, jV];rw [if_pos hc, ← h1]
   congr 4
   rw [fV, List.map_flatten, List.map_replicate, show List.map (bn g d) zero = zero from hz]
  ·cases he
 ·cases he
theorem HR.app (h : HR g d F E H) (e by' : Nat) (x y : Value) : dk g d F (Y7 e by' x y E) (dX e by' ((bn g d) x) ((bn g d) y) H) := by
 intro v E' he;unfold Y7 at he;unfold dX;rw [h.row];obtain ⟨r, hr, he⟩ := aC.1 he;rw [hr];simp only [dD, be];rw [show (fV g d r.2).all Value.oneCell' = r.2.all Value.oneCell' from Nz _]
 split at he
 ·rename_i hc
  rw [if_pos hc]
  split at he
  ·rename_i n k
   simp only [fC, Option.map_none]
   split at he
   ·rename_i h0
    rw [if_pos h0]
    split at he
    ·rename_i h1
     rw [if_pos h1]; cases he; exact ⟨H, by simp, h⟩
    ·rename_i h1
     rw [if_neg h1]
     split at he
     ·rename_i h2
      rw [if_pos h2];exact h.rowP _ _ _ v E' he
     ·cases he
   ·cases he
  ·rename_i _ b o n e' _
   simp only [fC, dD, wT]
   split at he
   ·rename_i h1
    rw [if_pos h1]; cases he; exact ⟨H, by simp [wT], h⟩
   ·rename_i h1
    rw [if_neg h1]
    split at he
    ·rename_i h2
     rw [if_pos h2]
     split at he
     ·rename_i h3
      rw [if_pos h3];exact h.rowP _ _ _ v E' he
     ·cases he
    ·rename_i h2
     rw [if_neg h2]
     split at he
     ·rename_i cs hb
      have hg : H.get (xY g d b) = some (.cells false (fV g d cs)) := by rw [h.get, hb]; rfl
      rw [hg];simp only;rw [show (fV g d cs).length = cs.length from qM _]
      split at he
      ·rename_i h3
       rw [if_pos h3];obtain ⟨E1, h4, he⟩ := aC.1 he;have hs := h.set (h.lt hb) h4;obtain ⟨H', h5, h6⟩ := hs.rowP _ _ _ v E' he;refine ⟨H', ?_, h6⟩;rw [← h5, AH.size_set];simp [HE, fV, List.map_take, List.map_drop]
      ·cases he
     ·cases he
  ·cases he
 ·cases he
end
abbrev TF := Nat → List Value → EH → Option (Value × EH)
def AV (P : Program) (b : Builtin) (argTypes : Array TypeId) (args : List Value) (E : EH) : Option (Value × EH) :=
 match b, args with
 | .len, [x] => match (argTypes[0]?).bind fun t => P.underlying t with
  | some (.slice _) => match x with | .slice _ _ _ => (ou x).map (·, E) | _ => none
  | some .string => match x with | .string _ => (ou x).map (·, E) | _ => none
  | some (.map _ _) => (BU x E).map (·, E)
  | _ => none
 | .max, args => (gT args).map (·, E)
 | .min, args => (iH args).map (·, E)
 | .append, [s, x] => (argTypes[0]?).bind fun t => (bQ P t).bind fun el => (bY P el).bind fun e => (eI P el).bind fun by' => (bp P el).bind fun z =>
  if z.cells.size = e ∧ (argTypes[1]?).bind (fun u => bQ P u) = some el then Y7 e by' s x E else none
 | .delete, [m, k] => (argTypes[0]?).bind fun t => (bS P t).bind fun kt => (cf P kt.1).bind fun fl => (C7 fl m k E).map fun E' => (.tuple #[], E')
 | _, _ => none
def ZX (P : Program) (ev : Operand → Value) (op : Op) (E : EH) : Option Value :=
 match op with
 | .load t a => (d9 P t).bind fun g => match g with
  | some n => RZ n (ev a) E
  | none => RY (ev a) E
 | .lookup t m k ok => (bS P t).bind fun kt => (cf P kt.1).bind fun fl => (bp P kt.2).bind fun z => ye fl z (ev m) (ev k) ok E
 | .call c => match c.args.toList.map ev with
  | [x] => match (c.argTypes[0]?).bind fun t => P.underlying t with
   | some (.slice _) => match x with | .slice _ _ _ => ou x | _ => none
   | some .string => match x with | .string _ => ou x | _ => none
   | some (.map _ _) => BU x E
   | _ => none
  | _ => none
 | _ => none
def uH (P : Program) (call : TF) (ev : Operand → Value) (o : Oper) (E : EH) : Option (Value × EH) :=
 match o.op with
 | .move x => some (ev x, E)
 | .assign x => some (ev x, E)
 | .pick c a b => (aQ (ev c) (ev a) (ev b)).map (·, E)
 | .alloc t => (bp P t).bind fun z => Y9 z.cells.toList E
 | .box _ x => Y9 (ev x).cells.toList E
 | .build t parts => match P.underlying t with
  | some (.struct fs) => (bp P t).bind fun z => (iB P fs.toList).bind fun ps => (cA (ps[·]?) z.cells.toList (parts.toList.map fun p => (p.1, ev p.2))).map fun cs => (.agg cs.toArray, E)
  | some (.array _ el) => (bp P t).bind fun z => (bY P el).bind fun e => (cA (fun i => some (i * e, e)) z.cells.toList (parts.toList.map fun p => (p.1, ev p.2))).map fun cs => (.agg cs.toArray, E)
  | _ => none
 | .buildSlice t len parts => (bQ P t).bind fun el => (bY P el).bind fun e => (bp P el).bind fun z =>
  if 0 < e ∧ z.cells.size = e ∧ len * e ≤ 2 ^ 24 then
   (cA (fun i => some (i * e, e)) (List.replicate len z.cells.toList).flatten (parts.toList.map fun p => (p.1, ev p.2))).bind fun cs => BV len e cs E
  else none
 | .load t a => (d9 P t).bind fun g => match g with
  | some n => (RZ n (ev a) E).map (·, E)
  | none => (RY (ev a) E).map (·, E)
 | .store t a x => (bY P t).bind fun n => (eSt n (ev a) (ev x) E).map fun E' => (undef, E')
 | .nilCheck x => (sn (ev x)).map (·, E)
 | .binOp op t x y _ => (ak (wy P t) op (ev x) (ev y)).map (·, E)
 | .unOp op _ x => (pw op (ev x)).map (·, E)
 | .convert src dst x => match P.underlying src with
  | some _ => (bO (o5 P dst) (ev x)).map (·, E)
  | none => none
 | .makeFunc fn first captured => some (.func fn (first.map ev) (captured.map ev), E)
 | .makeMap _ none => (E.push (.map [] 0)).map fun E' => (.map (some E.n), E')
 | .makeSlice t l c => (bQ P t).bind fun el => (bY P el).bind fun e => (eI P el).bind fun by' => (bp P el).bind fun z => R0 z.cells.toList e by' (ev l) (ev c) E
 | .slice t x lo hi none => (bQ P t).bind fun el => (bY P el).bind fun e => (dY e (ev x) (lo.map ev) (hi.map ev)).map (·, E)
 | .slice t x none (some hi) (some mx) => (bQ P t).bind fun el => (bY P el).bind fun _ => (iA (ev x) (ev hi) (ev mx)).map (·, E)
 | .fieldAddr s x f => (jf P s f).bind fun f => (bY P f.type).bind fun n => if n = 0 then none else (BA f.offset (ev x)).map (·, E)
 | .field s x f => (jf P s f).bind fun f => (d9 P f.type).bind fun n => (jC n f.offset (ev x)).map (·, E)
 | .indexAddr t x i => match P.underlying t with
  | some (.slice el) => (bY P el).bind fun e => (mW e (ev x) (ev i)).map (·, E)
  | some (.array len el) => (bY P el).bind fun e => (hF len e (ev x) (ev i)).map (·, E)
  | _ => none
 | .index t x i => match P.underlying t with
  | some (.array len el) => (bY P el).bind fun e => (d9 P el).bind fun n => (iz len n e (ev x) (ev i)).map (·, E)
  | some .string => (iy (ev x) (ev i)).map (·, E)
  | _ => none
 | .lookup t m k ok => (bS P t).bind fun kt => (cf P kt.1).bind fun fl => (bp P kt.2).bind fun z => (ye fl z (ev m) (ev k) ok E).map (·, E)
 | .mapUpdate t m k x => (bS P t).bind fun kt => (cf P kt.1).bind fun fl => (Dd fl (ev m) (ev k) (ev x) E).map fun E' => (undef, E')
 | .extract t i => (ai (ev t) i).map (·, E)
 | .call c => match c.callee with
  | .builtin b => AV P b c.argTypes (c.args.toList.map ev) E
  | .value f => (b6 (ev f) (c.args.toList.map ev)).bind fun fa => call fa.1 fa.2 E
  | _ => none
 | _ => none
section
variable {P : Program} {g d : Nat} {F : List AObj} {E E' : EH} {H : AH}
theorem jc {t : TypeId} {z : Value} (h : bp P t = some z) : (bn g d) z = z ∧ fV g d z.cells.toList = z.cells.toList := by
 obtain ⟨i, _, _, h1, h2⟩ := cn h;exact ⟨G6 h2, uC h1⟩
theorem dk.val (h : HR g d F E H) {x y : Option Value} (e : y = x.map (bn g d)) : dk g d F (x.map (·, E)) (y.map (·, H)) := by
 intro v E' hx;obtain ⟨z, hz, e1⟩ := aM.1 hx;cases e1;rw [e, hz];exact ⟨H, rfl, h⟩
theorem dk.bind {α : Type} {o : Option α} {f : α → Option (Value × EH)} {f' : α → Option (Value × AH)} (h : ∀ a, o = some a → dk g d F (f a) (f' a)) : dk g d F (o.bind f) (o.bind f') := by
 intro v E' hx;obtain ⟨a, ha, hx⟩ := aC.1 hx;rw [ha];exact h a ha v E' hx
theorem dk.no {y : Option (Value × AH)} : dk g d F none y := fun v E' h => by cases h
theorem dk.ite {c : Prop} [Decidable c] {x : Option (Value × EH)} {y : Option (Value × AH)} (h : c → dk g d F x y) : dk g d F (if c then x else none) (if c then y else none) := by
 intro v E' hx
 split at hx
 ·rename_i hc; rw [if_pos hc]; exact h hc v E' hx
 ·cases hx
theorem dk.heap {x : Option EH} {y : Option AH} (v : Value) (hv : (bn g d) v = v) (h : Wz g d F x y) : dk g d F (x.map fun E' => (v, E')) (y.map fun H' => (v, H')) := by
 intro v' E' hx;obtain ⟨E1, h1, e⟩ := aM.1 hx;cases e;obtain ⟨H', h2, h3⟩ := h E' h1;exact ⟨H', by rw [h2, hv]; rfl, h3⟩
theorem Ir {ev ev' : Operand → Value} {l : List Operand} (h : ∀ x ∈ l, ev' x = (bn g d) (ev x)) : l.map ev' = fV g d (l.map ev) := by
 rw [fV, List.map_map];exact List.map_congr_left h
theorem FH (h : HR g d F E H) (b : Builtin) (ats : Array TypeId) (args : List Value) : dk g d F (AV P b ats args E) (ca P b ats (fV g d args) H) := by
 intro v E' hx;unfold AV at hx
 split at hx
 ·rename_i x
  simp only [fV, List.map_cons, List.map_nil, ca]
  split at hx
  ·rename_i hu
   rw [hu];simp only
   split at hx
   ·simp only [fC]
    exact dk.val h (by rw [← fC, XR]) v E' hx
   ·cases hx
  ·rename_i hu
   rw [hu];simp only
   split at hx
   ·simp only [CI]
    exact dk.val h (by simp [ou]) v E' hx
   ·cases hx
  ·rename_i hu
   rw [hu];exact dk.val h (h.lenM _) v E' hx
  ·cases hx
 ·exact dk.val h (XS _) v E' hx
 ·exact dk.val h (XT _) v E' hx
 ·simp only [fV, List.map_cons, List.map_nil, ca]
  exact dk.bind (fun t _ => dk.bind fun el _ => dk.bind fun e _ => dk.bind fun by' _ => dk.bind fun z _ => dk.ite fun _ => h.app _ _ _ _) v E' hx
 ·simp only [fV, List.map_cons, List.map_nil, ca]
  exact dk.bind (fun t _ => dk.bind fun kt _ => dk.bind fun fl _ => dk.heap _ (by simp) (h.delete _ _ _)) v E' hx
 ·cases hx
theorem YN (h : HR g d F E H) {ev ev' : Operand → Value} {op : Op} (hev : ∀ x, x ∈ op.operands.toList → ev' x = (bn g d) (ev x)) : yP P ev' op H = (ZX P ev op E).map (bn g d) := by
 cases op with
 | load t a =>
  simp only [yP, ZX];rw [hev a (by simp [Op.operands])]
  cases d9 P t with
  | none => rfl
  | some n => cases n with
   | none => exact h.ld1 _
   | some n => exact h.ldN _ _
 | lookup t m k ok =>
  simp only [yP, ZX];rw [hev m (by simp [Op.operands]), hev k (by simp [Op.operands])]
  cases bS P t with
  | none => rfl
  | some kt =>
   simp only [be]
   cases cf P kt.1 with
   | none => rfl
   | some fl =>
    simp only [be]
    cases hz : bp P kt.2 with
    | none => rfl
    | some z => exact h.lookup fl (jc hz).1 _ _ _
 | call c =>
  have ha : c.args.toList.map ev' = fV g d (c.args.toList.map ev) := Ir fun x hx => hev x (by simp only [Op.operands, Call.operands, Array.toList_append, List.mem_append]; exact .inr hx);simp only [yP, ZX];rw [ha]
  generalize c.args.toList.map ev = l
  match l with
  | [] => rfl
  | [x] =>
   simp only [fV, List.map_cons, List.map_nil]
   generalize (c.argTypes[0]?).bind (fun t => P.underlying t) = u
   cases u with
   | none => rfl
   | some u => cases u <;> first | rfl | exact h.lenM _ | (cases x <;> simp [ou])
  | x :: y :: l => rfl
 | _ => rfl
def pT (g d : Nat) (F : List AObj) (c : TF) (c' : a7) : Prop := ∀ (E : EH) (H : AH) f args, HR g d F E H → dk g d F (c f args E) (c' f (fV g d args) H)
theorem Zq (h : HR g d F E H) {c : TF} {c' : a7} (hc : pT g d F c c') {ev ev' : Operand → Value} {o : Oper} (hev : ∀ x, x ∈ o.op.operands.toList → ev' x = (bn g d) (ev x)) :
 dk g d F (uH P c ev o E) (dx P c' ev' o H) := by
 obtain ⟨dst, op, type, pos, after, guard⟩ := o;simp only at hev
 have fill : ∀ (parts : Array (Nat × Operand)), (∀ x, x ∈ (parts.toList.map (·.2)) → ev' x = (bn g d) (ev x)) → (parts.toList.map fun p => (p.1, ev' p.2)) = (parts.toList.map fun p => (p.1, ev p.2)).map fun p => (p.1, (bn g d) p.2) := by
  intro parts hp;rw [List.map_map];refine List.map_congr_left fun p hpm => ?_;simp only [Function.comp];rw [hp p.2 (List.mem_map_of_mem hpm)]
 have arr : ∀ (l : Array Operand), (∀ x ∈ l.toList, ev' x = (bn g d) (ev x)) → l.map ev' = (l.map ev).map (bn g d) := by
  intro l hl;apply Array.toList_inj.1;rw [Array.toList_map, Array.toList_map, Array.toList_map];exact Ir hl
 cases op
 case move x => intro v E' hx; simp only [uH] at hx; cases hx; exact ⟨H, by simp only [dx]; rw [hev x (by simp [Op.operands])], h⟩
 case assign x => intro v E' hx; simp only [uH] at hx; cases hx; exact ⟨H, by simp only [dx]; rw [hev x (by simp [Op.operands])], h⟩
 case pick k a b =>
  simp only [uH, dx];rw [hev k (by simp [Op.operands]), hev a (by simp [Op.operands]), hev b (by simp [Op.operands])];exact dk.val h (Vu _ _ _)
 case alloc t =>
  intro v E' hx;simp only [uH] at hx;simp only [dx];obtain ⟨z, hz, hx⟩ := aC.1 hx;rw [hz];have := h.new' _ v E' hx;rw [(jc hz).2] at this;exact this
 case box t x =>
  simp only [uH, dx];rw [hev x (by simp [Op.operands]), QE];exact h.new' _
 case build t parts =>
  have hp := fill parts fun x hx => hev x (by simpa [Op.operands] using hx);intro v E' hx;simp only [uH] at hx;simp only [dx];rw [hp]
  split at hx
  ·rename_i fs hu
   rw [hu];simp only;obtain ⟨z, hz, hx⟩ := aC.1 hx;obtain ⟨ps, hps, hx⟩ := aC.1 hx;obtain ⟨cs, hcs, e⟩ := aM.1 hx;cases e;have hf := AP (g := g) (d := d) (ps[·]?) (parts.toList.map fun p => (p.1, ev p.2)) z.cells.toList;rw [(jc hz).2, hcs] at hf;rw [hz, hps];simp only [be];rw [hf];exact ⟨H, by simp, h⟩
  ·rename_i el hu
   rw [hu];simp only;obtain ⟨z, hz, hx⟩ := aC.1 hx;obtain ⟨e, he, hx⟩ := aC.1 hx;obtain ⟨cs, hcs, e⟩ := aM.1 hx;cases e;have hf := AP (g := g) (d := d) (fun i => some (i * e, e)) (parts.toList.map fun p => (p.1, ev p.2)) z.cells.toList;rw [(jc hz).2, hcs] at hf;rw [hz, he];simp only [be];rw [hf];exact ⟨H, by simp, h⟩
  ·cases hx
 case buildSlice t len parts =>
  have hp := fill parts fun x hx => hev x (by simpa [Op.operands] using hx);simp only [uH, dx];rw [hp];refine dk.bind fun el _ => dk.bind fun e _ => dk.bind fun z hz => dk.ite fun _ => ?_;intro v E' hx;obtain ⟨cs, hcs, hx⟩ := aC.1 hx;have hf := AP (g := g) (d := d) (fun i => some (i * e, e)) (parts.toList.map fun p => (p.1, ev p.2)) (List.replicate len z.cells.toList).flatten
  rw [hcs, show fV g d (List.replicate len z.cells.toList).flatten = (List.replicate len z.cells.toList).flatten from by
   rw [fV, List.map_flatten, List.map_replicate, show List.map (bn g d) z.cells.toList = z.cells.toList from (jc hz).2]] at hf
  rw [hf];exact h.rowP _ _ _ v E' hx
 case load t a =>
  simp only [uH, dx];rw [hev a (by simp [Op.operands])];refine dk.bind fun n _ => ?_
  cases n with
  | none => exact dk.val h (h.ld1 _)
  | some n => exact dk.val h (h.ldN _ _)
 case store t a x =>
  simp only [uH, dx];rw [hev a (by simp [Op.operands]), hev x (by simp [Op.operands])];exact dk.bind fun n _ => dk.heap _ pI (h.st _ _ _)
 case nilCheck x =>
  simp only [uH, dx];rw [hev x (by simp [Op.operands])];exact dk.val h (XU _)
 case binOp op t x y z =>
  simp only [uH, dx];rw [hev x (by simp [Op.operands]), hev y (by simp [Op.operands])];exact dk.val h (XO _ _ _ _)
 case unOp op t x =>
  simp only [uH, dx];rw [hev x (by simp [Op.operands])];exact dk.val h (ZK _ _)
 case convert src dst x =>
  simp only [uH, dx];rw [hev x (by simp [Op.operands])]
  split
  ·rename_i hu; rw [hu]; exact dk.val h (Vq _ _)
  ·exact dk.no
 case makeFunc fn first captured =>
  simp only [uH, dx];rw [arr first fun x hx => hev x (by simp only [Op.operands, Array.toList_append, List.mem_append]; exact .inl hx), arr captured fun x hx => hev x (by simp only [Op.operands, Array.toList_append, List.mem_append]; exact .inr hx)];intro v E' hx; cases hx; exact ⟨H, by simp, h⟩
 case makeMap t r =>
  cases r with
  | none =>
   intro v E' hx;simp only [uH] at hx;simp only [dx];obtain ⟨E1, h1, e⟩ := aM.1 hx;cases e;exact ⟨H.push (HE g d (.map [] 0)), by simp [h.new, HE], h.push h1⟩
  | some r => exact dk.no
 case makeSlice t l k =>
  simp only [uH, dx];rw [hev l (by simp [Op.operands]), hev k (by simp [Op.operands])]
  exact dk.bind fun el _ => dk.bind fun e _ => dk.bind fun by' _ => dk.bind fun z hz => h.make (jc hz).2 _ _ _ _
 case slice t x lo hi mx =>
  have hx := hev x (by simp [Op.operands])
  have ho : ∀ (q : Option Operand), (∀ y ∈ q.toArray.toList, ev' y = (bn g d) (ev y)) → q.map ev' = (q.map ev).map (bn g d) := by
   intro q hq
   cases q with
   | none => rfl
   | some y => simp [hq y (by simp)]
  have hlo : lo.map ev' = (lo.map ev).map (bn g d) := ho lo fun y hy => hev y (by simp only [Op.operands, Array.toList_append, List.mem_append]; exact .inl (.inl (.inr hy)));have hhi : hi.map ev' = (hi.map ev).map (bn g d) := ho hi fun y hy => hev y (by simp only [Op.operands, Array.toList_append, List.mem_append]; exact .inl (.inr hy));have hmx : mx.map ev' = (mx.map ev).map (bn g d) := ho mx fun y hy => hev y (by simp only [Op.operands, Array.toList_append, List.mem_append]; exact .inr hy)
  cases mx with
  | none =>
   simp only [uH, dx];rw [hx, hlo, hhi];exact dk.bind fun el _ => dk.bind fun e _ => dk.val h (QF _ _ _ _)
  | some mx =>
   cases lo with
   | some lo => cases hi <;> exact dk.no
   | none =>
    cases hi with
    | none => exact dk.no
    | some hi =>
     simp only [dD, Option.some.injEq] at hhi hmx;simp only [uH, dx];rw [hx, hhi, hmx];refine dk.bind fun el _ => dk.bind fun e _ => ?_;intro v E' hv;obtain ⟨z, hz, e⟩ := aM.1 hv;cases e;rw [Kq hz];exact ⟨H, rfl, h⟩
 case fieldAddr st x f =>
  simp only [uH, dx];rw [hev x (by simp [Op.operands])];refine dk.bind fun f _ => dk.bind fun n _ => ?_
  split
  ·exact dk.no
  ·exact dk.val h (XP _ _)
 case field st x f =>
  simp only [uH, dx];rw [hev x (by simp [Op.operands])];exact dk.bind fun f _ => dk.bind fun n _ => dk.val h (Vt _ _ _)
 case indexAddr t x i =>
  simp only [uH, dx];rw [hev x (by simp [Op.operands]), hev i (by simp [Op.operands])]
  split
  ·rename_i hu; rw [hu]; exact dk.bind fun e _ => dk.val h (XQ _ _ _)
  ·rename_i hu; rw [hu]; exact dk.bind fun e _ => dk.val h (Vs _ _ _ _)
  ·exact dk.no
 case index t x i =>
  simp only [uH, dx];rw [hev x (by simp [Op.operands]), hev i (by simp [Op.operands])]
  split
  ·rename_i hu; rw [hu]; exact dk.bind fun e _ => dk.bind fun n _ => dk.val h (Kp _ _ _ _ _)
  ·rename_i hu; rw [hu]; exact dk.val h (Ko _ _)
  ·exact dk.no
 case lookup t m k ok =>
  simp only [uH, dx];rw [hev m (by simp [Op.operands]), hev k (by simp [Op.operands])];exact dk.bind fun kt _ => dk.bind fun fl _ => dk.bind fun z hz => dk.val h (h.lookup fl (jc hz).1 _ _ _)
 case mapUpdate t m k x =>
  simp only [uH, dx];rw [hev m (by simp [Op.operands]), hev k (by simp [Op.operands]), hev x (by simp [Op.operands])];exact dk.bind fun kt _ => dk.bind fun fl _ => dk.heap _ pI (h.update _ _ _ _)
 case extract t i =>
  simp only [uH, dx];rw [hev t (by simp [Op.operands])];exact dk.val h (G7 _ _)
 case call k =>
  obtain ⟨callee, args, ats⟩ := k;have ha : args.toList.map ev' = fV g d (args.toList.map ev) := Ir fun x hx => hev x (by simp only [Op.operands, Call.operands, Array.toList_append, List.mem_append]; exact .inr hx)
  cases callee with
  | builtin b =>
   simp only [uH, dx];rw [ha];exact FH h _ _ _
  | value f =>
   simp only [uH, dx];rw [ha, hev f (by simp [Op.operands, Call.operands])];intro v E' hx;obtain ⟨q, hq, hx⟩ := aC.1 hx;rw [Kn, hq];exact hc E H _ _ h v E' hx
  | invoke r m => exact dk.no
 all_goals exact dk.no
end
end Go.Proofs.YtghoamdlcjdfjaaGreatDoor.Gst
