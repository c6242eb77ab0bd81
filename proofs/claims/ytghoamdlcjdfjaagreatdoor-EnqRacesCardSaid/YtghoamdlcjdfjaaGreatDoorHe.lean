/- Several texts in one. -/
import Derived.Test.YtghoamdlcjdfjaaGreatDoorHd
namespace Go.Proofs.YtghoamdlcjdfjaaGreatDoor.Gst
open Go Go.RowKit
set_option linter.unusedSimpArgs false
set_option linter.unusedVariables false
set_option maxHeartbeats 1000000
set_option synthInstance.maxSize 2000
set_option synthInstance.maxHeartbeats 400000
section
variable (m i rp : Nat) (cs : List Pk) (μ : Mu)
theorem MY (who : Int) (hE : μ.N < 1099511627000) : Sp jt [vp rp, vi who] (cn m i rp cs * bi m μ) (fun _ : Unit => vu (μ.V (11, (i : Int), 0))) (fun _ => cn m i rp cs * bi m (μ.acc who 1 (11, (i : Int), 0))) := by
 refine aW fun R H h => ?_;obtain ⟨cv, h0⟩ := d4 (m := m) (i := i) (rp := rp) (cs := cs) (R := bi m μ * R) (H := H) h.to;refine aZ (fun r => wC _ _ H) ?_;refine bn ae ?_;refine aP h0 rfl ?_;refine ar h0 ae rfl ?_;refine af h0 (dm 11 (i : Int) 0) fun _ H1 h1 => ?_;refine aG h1 h0 (by rfl) ?_;refine af h1 (pG m μ who (11, (i : Int), 0) (by omega)) fun _ H2 h2 => ?_;exact am ⟨(), rfl, (lF (m := m) (i := i) (rp := rp) (cs := cs) (cv := cv) (R := bi m (μ.acc who 1 (11, (i : Int), 0)) * R) h2.to).to⟩
theorem Cp (who : Int) (hE : μ.N < 1099511627000) : Sp f4 [vp rp, vi who] (cn m i rp cs * bi m μ) (fun _ : Unit => vu (μ.V (12, (i : Int), 0))) (fun _ => cn m i rp cs * bi m (μ.acc who 1 (12, (i : Int), 0))) := by
 refine aW fun R H h => ?_;obtain ⟨cv, h0⟩ := d4 (m := m) (i := i) (rp := rp) (cs := cs) (R := bi m μ * R) (H := H) h.to;refine aZ (fun r => wz _ _ H) ?_;refine bn ae ?_;refine aP h0 rfl ?_;refine ar h0 ae rfl ?_;refine af h0 (dm 12 (i : Int) 0) fun _ H1 h1 => ?_;refine aG h1 h0 (by rfl) ?_;refine af h1 (pG m μ who (12, (i : Int), 0) (by omega)) fun _ H2 h2 => ?_;exact am ⟨(), rfl, (lF (m := m) (i := i) (rp := rp) (cs := cs) (cv := cv) (R := bi m (μ.acc who 1 (12, (i : Int), 0)) * R) h2.to).to⟩
theorem Co (w h : Nat) (hw : w < 18446744073709551616) (hc : cs.length < 1000) : Sp f3 [vp rp, vu w, vu h] (cn m i rp cs) (fun _ : Unit => vb (lp w h cs.length)) (fun _ => cn m i rp cs) := by
 refine aW fun R H hh => ?_;have hl := dQ w;refine aZ (fun r => wy _ _ _ H) ?_;refine af hh (mO w hw) fun _ H1 h1 => ?_;refine aa (v := vu (ay w)) rfl ?_;refine aa (v := vi (aL w)) rfl ?_;refine aa (v := vb (cg w)) rfl ?_
 by_cases hle : h ≤ ay w
 ·refine aa (jf (by omega)) ?_
  refine gs ?_;refine aa (Dh hle (by omega)) ?_;obtain ⟨cv, h2⟩ := d4 (m := m) (i := i) (rp := rp) (cs := cs) (R := R) (H := H1) h1.to;refine gs ?_;refine ar h2 ae rfl ?_;refine gs ?_;refine aa (de (by omega) (by omega)) ?_;rw [show ((cs.length : Nat) : Int).toNat = cs.length from tI _];refine gs ?_
  by_cases hk : cs.length ≤ ay w - h
  ·refine aa (jf (by omega)) ?_
   refine gs ?_;exact am ⟨(), by rw [lp, i4 ⟨hle, hk⟩], h1.to⟩
  ·refine aa (fT (by omega)) ?_
   refine gs ?_;exact am ⟨(), by rw [lp, iv (fun q => hk q.2)], h1.to⟩
 ·refine aa (fT (by omega)) ?_
  refine gs ?_;exact am ⟨(), by rw [lp, iv (fun q => hle q.1)], h1.to⟩
theorem MX (who : Int) (w how : Nat) (hh : how < 3) (hw : w < 18446744073709551616) (hE : μ.N < 1099511627000) :
 Sp jr [vp rp, vi who, vu w, vi (how : Int)] (cn m i rp cs * bi m μ) (fun _ : Unit => vb (d5 μ i w (aX w how))) (fun _ => cn m i rp cs * bi m (μ.turn who i w (aX w how))) := by
 refine aU (wB _ _ _ _) fun R H h => ?_;refine af h (L4 w how hw hh) fun _ H1 h1 => ?_
 generalize aX w how = o at h1 ⊢
 cases o with
 | none =>
  refine aa (v := vw 0) rfl ?_;refine aa (v := vb false) rfl ?_;refine gs ?_;refine Jx ?_;refine gs ?_;refine Ep rfl ?_;refine gs ?_;exact am ⟨(), rfl, h1.to⟩
 | some n =>
  refine aa (v := vu n) rfl ?_;refine aa (v := vb true) rfl ?_;refine gs ?_;refine Jy ?_;obtain ⟨cv, k1⟩ := d4 (m := m) (i := i) (rp := rp) (cs := cs) (R := bi m μ * R) (H := H1) h1.to;refine bn ae ?_;refine gs ?_;refine aP k1 rfl ?_;refine gs ?_;refine ar k1 ae rfl ?_;refine gs ?_;refine af k1 (dm 11 (i : Int) 0) fun _ H2 k2 => ?_;refine aG k2 k1 (by rfl) ?_;refine gs ?_;refine af k2 (BH m μ who (11, (i : Int), 0) w n (by omega)) fun _ H3 k3 => ?_;refine gs ?_;refine am ⟨(), rfl, ?_⟩;have h3 := lF (m := m) (i := i) (rp := rp) (cs := cs) (cv := cv) (R := bi m (μ.swp who (11, (i : Int), 0) w n) * R) (H := H3) k3.to;exact h3.to
end
section
variable (m i rp : Nat) (cs : List Pk) (μ : Mu)
theorem D9 (n : Nat) (h0 : 1 ≤ cs.length ∧ cs.length < 1000) : Sp cu [vp rp, vu n] (bY m i rp cs) (fun _ : Unit => vi ((n % cs.length : Nat) : Int)) (fun _ => bY m i rp cs) := by
 have hlt : n % cs.length < cs.length := Nat.mod_lt _ (by omega);refine aW fun R H h => ?_;obtain ⟨cv, k⟩ := bP h;refine aZ (fun r => lG _ _ H) ?_;refine ar k ae rfl ?_;refine cw (s := cv) (l := cs) k ?_;refine aa (de (by omega) (by omega)) ?_;rw [show ((cs.length : Nat) : Int).toNat = cs.length from tI _];refine aa (ir (by omega)) ?_;refine aa (gK (by omega)) ?_;exact am ⟨(), rfl, h⟩
theorem MW (n : Nat) (h0 : 1 ≤ cs.length ∧ cs.length < 1000) : Sp dc [vp rp, vu n] (cn m i rp cs) (fun _ : Unit => vi ((n % cs.length : Nat) : Int)) (fun _ => cn m i rp cs) := by
 have hlt : n % cs.length < cs.length := Nat.mod_lt _ (by omega);refine aW fun R H h => ?_;obtain ⟨cv, k⟩ := d4 h;refine aZ (fun r => mS _ _ H) ?_;refine ar k ae rfl ?_;refine aa (de (by omega) (by omega)) ?_;rw [show ((cs.length : Nat) : Int).toNat = cs.length from tI _];refine aa (ir (by omega)) ?_;refine aa (gK (by omega)) ?_;exact am ⟨(), rfl, h⟩
theorem Ec (who : Int) (n : Nat) (hn : n < 18446744073709551615) (h0 : 1 ≤ cs.length ∧ cs.length < 1000) (hE : μ.N < 1099511627000) :
 Sp fu [vp rp, vi who, vu n] (bY m i rp cs * bd m μ) (fun _ : Unit => .tuple #[]) (fun _ => bY m i rp cs * bd m ((μ.acc who 2 (15, (i : Int), ((n % cs.length : Nat) : Int))).put (15, (i : Int), ((n % cs.length : Nat) : Int)) (n + 1))) := by
 refine aW fun R H h => ?_;obtain ⟨cv, k0⟩ := bP (m := m) (i := i) (rp := rp) (cs := cs) (R := bd m μ * R) (H := H) h.to;refine aZ (fun r => uM _ _ _ H) ?_;refine bn ae ?_;refine aP k0 rfl ?_;refine af h (D9 m i rp cs n h0) fun _ H1 h1 => ?_;obtain ⟨cv1, k1⟩ := bP h1;refine aG k1 k0 (by rfl) ?_;refine af h1 (uP m i rp cs 15 ((n % cs.length : Nat) : Int)) fun _ H2 h2 => ?_;obtain ⟨cv2, k2⟩ := bP h2;refine aG k2 k0 (by rfl) ?_;refine aa (ej (b := 1) (by omega)) ?_;refine af h2 (GC m μ who (15, (i : Int), ((n % cs.length : Nat) : Int)) (n + 1) (by omega)) fun _ H3 h3 => ?_;exact am ⟨(), rfl, h3.to⟩
theorem Cq (who : Int) (n : Nat) (hn : n < 18446744073709551615) (h0 : 1 ≤ cs.length ∧ cs.length < 1000) (hE : μ.N < 1099511627000) :
 Sp f5 [vp rp, vi who, vu n] (cn m i rp cs * bi m μ) (fun _ : Unit => .tuple #[]) (fun _ => cn m i rp cs * bi m ((μ.acc who 2 (15, (i : Int), ((n % cs.length : Nat) : Int))).put (15, (i : Int), ((n % cs.length : Nat) : Int)) (n + 1))) := by
 refine aW fun R H h => ?_;obtain ⟨cv, k0⟩ := d4 (m := m) (i := i) (rp := rp) (cs := cs) (R := bi m μ * R) (H := H) h.to;refine aZ (fun r => wA _ _ _ H) ?_;refine bn ae ?_;refine aP k0 rfl ?_;refine bn ae ?_;refine aP k0 rfl ?_;refine af h (MW m i rp cs n h0) fun _ H1 h1 => ?_;obtain ⟨cv1, k1⟩ := d4 h1;refine aG k1 k0 (by rfl) ?_;refine aG k1 k0 (by rfl) ?_;refine af h1 (dm 15 (i : Int) ((n % cs.length : Nat) : Int)) fun _ H2 h2 => ?_;obtain ⟨cv2, k2⟩ := d4 (m := m) (i := i) (rp := rp) (cs := cs) (R := bi m μ * R) (H := H2) h2.to;refine aG k2 k0 (by rfl) ?_;refine aa (ej (b := 1) (by omega)) ?_;refine af h2 (wH m μ who (15, (i : Int), ((n % cs.length : Nat) : Int)) (n + 1) (by omega)) fun _ H3 h3 => ?_;exact am ⟨(), rfl, h3.to⟩
theorem Yl (who : Int) (n : Nat) (x : Pk) (h0 : 1 ≤ cs.length ∧ cs.length < 1000) (hE : μ.N < 1099511627000) :
 Sp jv [vp rp, vi who, vu n, .agg (Pk.cells x).toArray] (bY m i rp cs * bd m μ) (fun _ : Unit => .tuple #[]) (fun _ => bY m i rp (cs.set (n % cs.length) x) * bd m (μ.acc who 6 (16, (i : Int), ((n % cs.length : Nat) : Int)))) := by
 have hlt : n % cs.length < cs.length := Nat.mod_lt _ (by omega);refine aU (wJ _ _ _ _) fun R H h => ?_;refine aV h fun b H1 h1 => ?_;obtain ⟨cv, k1⟩ := bP (m := m) (i := i) (rp := rp) (cs := cs) (R := bd m μ * (blk b (.cells false (Pk.cells x)) * R)) (H := H1) h1.to;refine bn ae ?_;refine aP k1 rfl ?_;refine af h1 (D9 m i rp cs n h0) fun _ H2 h2 => ?_;obtain ⟨cv2, k2⟩ := bP h2;refine aG k2 k1 (by rfl) ?_;refine af h2 (uP m i rp cs 16 ((n % cs.length : Nat) : Int)) fun _ H3 h3 => ?_;obtain ⟨cv3, k3⟩ := bP h3;refine aG k3 k1 (by rfl) ?_;refine af h3 ((vL m μ who (16, (i : Int), ((n % cs.length : Nat) : Int)) (by omega)).imp fun _ R H h => jF (N' := μ.N + 2) (by simp) h) fun _ H4 h4 => ?_;obtain ⟨cv4, k4⟩ := bP (m := m) (i := i) (rp := rp) (cs := cs) (R := bd m (μ.acc who 6 (16, (i : Int), ((n % cs.length : Nat) : Int))) * (blk b (.cells false (Pk.cells x)) * R)) (H := H4) h4.to;refine bn ae ?_;refine aP k4 rfl ?_
 -- a cell is told once more, of the same ring
 have again : ∀ {k : Value × AH → OV} {Q : Value → AH → Prop}, (∀ H5, ac (blk rp (.cells false [vp m, vi i, cv4]) * (ts 3 Pk.cells cv4 cs * (bd m (μ.acc who 6 (16, (i : Int), ((n % cs.length : Nat) : Int))) * (blk b (.cells false (Pk.cells x)) * R)))) H5 → wp (k (vi ((n % cs.length : Nat) : Int), H5)) Q) → wp ((FF cu [vp rp, vu n] H4).bind k) Q := by
  intro k Q hk
  have cell4 : Sp cu [vp rp, vu n] (blk rp (.cells false [vp m, vi i, cv4]) * ts 3 Pk.cells cv4 cs) (fun _ : Unit => vi ((n % cs.length : Nat) : Int)) (fun _ => blk rp (.cells false [vp m, vi i, cv4]) * ts 3 Pk.cells cv4 cs) := by
   refine aU (lG _ _) fun R H h => ?_;refine ar h ae rfl ?_;refine cw (s := cv4) (l := cs) h ?_;refine aa (de (by omega) (by omega)) ?_;rw [show ((cs.length : Nat) : Int).toNat = cs.length from tI _];refine aa (ir (by omega)) ?_;refine aa (gK (by omega)) ?_;exact am ⟨(), rfl, h⟩
  exact af k4 cell4 fun _ H5 h5 => hk H5 h5.to
 refine again fun H5 k5 => ?_;refine aG k5 k4 (by rfl) ?_;refine aT k5 ?_;refine dw k4 k5 rfl ?_;refine Er (s := cv4) (l := cs) (i := n % cs.length) x k5 hlt (.inl ⟨rfl, rfl⟩) rfl (by omega) rfl rfl fun H6 k6 => ?_;refine am ⟨(), rfl, ?_⟩;have h6 := xr (m := m) (i := i) (rp := rp) (cs := cs.set (n % cs.length) x) (cv := cv4) (R := bd m (μ.acc who 6 (16, (i : Int), ((n % cs.length : Nat) : Int))) * R) (H := H6) k6.to;exact h6.to
end
theorem uT (k a : Int) : Sp aY [vi k, vi a] emp (fun _ : Unit => dr (k, a, 0)) (fun _ => emp) := by
 refine aU (vz _ _) fun R H h => ?_;refine bk h fun b H1 h1 => ?_;refine j7 ?_;refine fW h1 rfl rfl fun H2 h2 => ?_;refine aT h2 ?_;exact am ⟨(), rfl, h2.to⟩
abbrev Mu.cnt (μ : Mu) (who : Int) (at' : bK) (n : Nat) : Mu := (μ.acc who 3 at').put at' ((μ.V at' + n) % 18446744073709551616)
section
variable (ib m nm : Nat) (c : gF) (nx : Int → Option Nat) (μ : Mu) (who : Int)
theorem Iz (hE : μ.N < 1099511627000) : Sp fJ [vp ib, vi who] (jD ib m nm c nx * bd m μ) (fun _ : Unit => .tuple #[]) (fun _ => jD ib m nm c nx * bd m (μ.cnt who (3, 0, 0) 4294967296)) := by
 refine aU (oW _ _) fun R H h => ?_;unfold jD at h ⊢;refine bn ae ?_;refine aP h rfl ?_;refine af h (uT 3 0) fun _ H1 h1 => ?_;refine aG h1 h (by rfl) ?_;refine af h1 (acN m μ who (3, 0, 0) 4294967296 (by omega)) fun _ H2 h2 => ?_;exact am ⟨(), rfl, h2.to⟩
theorem DN (hE : μ.N < 1099511627000) : Sp eG [vp ib, vi who] (jD ib m nm c nx * bd m μ) (fun _ : Unit => .tuple #[]) (fun _ => jD ib m nm c nx * bd m (μ.cnt who (3, 0, 0) 1)) := by
 refine aU (rS _ _) fun R H h => ?_;unfold jD at h ⊢;refine bn ae ?_;refine aP h rfl ?_;refine af h (uT 3 0) fun _ H1 h1 => ?_;refine aG h1 h (by rfl) ?_;refine af h1 (acN m μ who (3, 0, 0) 1 (by omega)) fun _ H2 h2 => ?_;exact am ⟨(), rfl, h2.to⟩
theorem SK (s : Int) (hE : μ.N < 1099511627000) : Sp gS [vp ib, vi who, vi s] (jD ib m nm c nx * bd m μ) (fun _ : Unit => vu (μ.V (9, s, 0))) (fun _ => jD ib m nm c nx * bd m (μ.acc who 1 (9, s, 0))) := by
 refine aU (rT _ _ _) fun R H h => ?_;unfold jD at h ⊢;refine bn ae ?_;refine aP h rfl ?_;refine ar h ae rfl ?_;refine ag (show (cI (.func (.func aY) #[vi 9] #[]) [vi s]).bind _ = _ from rfl) ?_;refine af h (uT 9 s) fun _ H1 h1 => ?_;refine aG h1 h (by rfl) ?_;refine af h1 (Bc m μ who (9, s, 0) (by omega)) fun _ H2 h2 => ?_;exact am ⟨(), rfl, h2.to⟩
theorem Lo (s : Int) (top obj : Nat) (ho : obj < 4294967296) (hE : μ.N < 1099511627000) : Sp gg [vp ib, vi who, vi s, vu top, vi obj] (jD ib m nm c nx * bd m μ) (fun _ : Unit => vb (decide (μ.V (9, s, 0) = top))) (fun _ => jD ib m nm c nx * bd m (μ.swp who (9, s, 0) top (obj + 1))) := by
 refine aU (qJ _ _ _ _ _) fun R H h => ?_;unfold jD at h ⊢;refine bn ae ?_;refine aP h rfl ?_;refine ar h ae rfl ?_;refine ag (show (cI (.func (.func aY) #[vi 9] #[]) [vi s]).bind _ = _ from rfl) ?_;refine af h (uT 9 s) fun _ H1 h1 => ?_;refine aG h1 h (by rfl) ?_;refine aa (de (by omega) (by omega)) ?_;rw [show ((obj : Nat) : Int).toNat = obj from tI _];refine aa (ej (b := 1) (by omega)) ?_;refine af h1 (LT m μ who (9, s, 0) top (obj + 1) (by omega)) fun _ H2 h2 => ?_;exact am ⟨(), rfl, h2.to⟩
theorem Lm (obj : Int) (next : Nat) (hE : μ.N < 1099511627000) : Sp gf [vp ib, vi who, vi obj, vu next] (jD ib m nm c nx * bd m μ) (fun _ : Unit => .tuple #[]) (fun _ => jD ib m nm c (fun k => if k = obj then some next else nx k) * bd m (μ.acc who 6 (14, obj, 0))) := by
 refine aU (qI _ _ _ _) fun R H h => ?_;unfold jD at h ⊢;refine bn ae ?_;refine aP h rfl ?_;refine ar h ae rfl ?_;refine ag (show (cI (.func (.func aY) #[vi 14] #[]) [vi obj]).bind _ = _ from rfl) ?_;refine af h (uT 14 obj) fun _ H1 h1 => ?_;refine aG h1 h (by rfl) ?_;refine af h1 ((vL m μ who (14, obj, 0) (by omega)).imp fun _ R H h => jF (N' := μ.N + 2) (by simp) h) fun _ H2 h2 => ?_;refine ar h2 ae rfl ?_;refine YZ (ek := JI) obj (vu next) h2 fun H3 h3 => ?_;refine am ⟨(), rfl, ?_⟩
 have e : (fun k => ((if k = obj then some next else nx k) : Option Nat).map fun n => vu n) = fun x => if x = obj then some (vu next) else (nx x).map fun n => vu n := by
  funext k
  split <;> rfl
 rw [e];exact h3.to
end
section
variable (ib m : Nat) (sh : Int) (nx : Int → Option Nat) (L : Nat) (μ : Mu) (who : Int)
theorem Ho (hE : μ.N < 1099511627000) : Sp gY [vp ib, vi who] (gc ib m sh nx L * bi m μ) (fun _ : Unit => .tuple #[]) (fun _ => gc ib m sh nx L * bi m (μ.cnt who (3, 0, 0) 4294967296)) := by
 refine aW fun R H h => ?_;obtain ⟨kv, nv, ns, hn, h0⟩ := mE (ib := ib) (m := m) (sh := sh) (nx := nx) (L := L) (R := bi m μ * R) (H := H) h.to;refine aZ (fun r => sn _ _ H) ?_;refine bn ae ?_;refine aP h0 rfl ?_;refine af h0 (dm 3 0 0) fun _ H1 h1 => ?_;refine aG h1 h0 (by rfl) ?_;refine af h1 (PE m μ who (3, 0, 0) 4294967296 (by omega)) fun _ H2 h2 => ?_;have h3 := ge (ib := ib) (m := m) (sh := sh) (nx := nx) (L := L) (kv := kv) (nv := nv) (ns := ns) (R := bi m (μ.cnt who (3, 0, 0) 4294967296) * R) (H := H2) hn h2.to;exact am ⟨(), rfl, h3.to⟩
theorem Cm (hE : μ.N < 1099511627000) : Sp f0 [vp ib, vi who] (gc ib m sh nx L * bi m μ) (fun _ : Unit => .tuple #[]) (fun _ => gc ib m sh nx L * bi m (μ.cnt who (3, 0, 0) 1)) := by
 refine aW fun R H h => ?_;obtain ⟨kv, nv, ns, hn, h0⟩ := mE (ib := ib) (m := m) (sh := sh) (nx := nx) (L := L) (R := bi m μ * R) (H := H) h.to;refine aZ (fun r => wn _ _ H) ?_;refine bn ae ?_;refine aP h0 rfl ?_;refine af h0 (dm 3 0 0) fun _ H1 h1 => ?_;refine aG h1 h0 (by rfl) ?_;refine af h1 (PE m μ who (3, 0, 0) 1 (by omega)) fun _ H2 h2 => ?_;have h3 := ge (ib := ib) (m := m) (sh := sh) (nx := nx) (L := L) (kv := kv) (nv := nv) (ns := ns) (R := bi m (μ.cnt who (3, 0, 0) 1) * R) (H := H2) hn h2.to;exact am ⟨(), rfl, h3.to⟩
theorem MU (s : Int) (hE : μ.N < 1099511627000) : Sp jp [vp ib, vi who, vi s] (gc ib m sh nx L * bi m μ) (fun _ : Unit => vu (μ.V (9, s, 0))) (fun _ => gc ib m sh nx L * bi m (μ.acc who 1 (9, s, 0))) := by
 refine aW fun R H h => ?_;obtain ⟨kv, nv, ns, hn, h0⟩ := mE (ib := ib) (m := m) (sh := sh) (nx := nx) (L := L) (R := bi m μ * R) (H := H) h.to;refine aZ (fun r => wo _ _ _ H) ?_;refine bn ae ?_;refine aP h0 rfl ?_;refine af h0 (dm 9 s 0) fun _ H1 h1 => ?_;refine aG h1 h0 (by rfl) ?_;refine af h1 (pG m μ who (9, s, 0) (by omega)) fun _ H2 h2 => ?_;have h3 := ge (ib := ib) (m := m) (sh := sh) (nx := nx) (L := L) (kv := kv) (nv := nv) (ns := ns) (R := bi m (μ.acc who 1 (9, s, 0)) * R) (H := H2) hn h2.to;exact am ⟨(), rfl, h3.to⟩
theorem JG (s : Int) (top obj : Nat) (ho : obj < 4294967296) (hE : μ.N < 1099511627000) : Sp iE [vp ib, vi who, vi s, vu top, vi obj] (gc ib m sh nx L * bi m μ) (fun _ : Unit => vb (decide (μ.V (9, s, 0) = top))) (fun _ => gc ib m sh nx L * bi m (μ.swp who (9, s, 0) top (obj + 1))) := by
 refine aW fun R H h => ?_;obtain ⟨kv, nv, ns, hn, h0⟩ := mE (ib := ib) (m := m) (sh := sh) (nx := nx) (L := L) (R := bi m μ * R) (H := H) h.to;refine aZ (fun r => uC _ _ _ _ _ H) ?_;refine bn ae ?_;refine aP h0 rfl ?_;refine af h0 (dm 9 s 0) fun _ H1 h1 => ?_;refine aG h1 h0 (by rfl) ?_;refine aa (de (by omega) (by omega)) ?_;rw [show ((obj : Nat) : Int).toNat = obj from tI _];refine aa (ej (b := 1) (by omega)) ?_;refine af h1 (BH m μ who (9, s, 0) top (obj + 1) (by omega)) fun _ H2 h2 => ?_;have h3 := ge (ib := ib) (m := m) (sh := sh) (nx := nx) (L := L) (kv := kv) (nv := nv) (ns := ns) (R := bi m (μ.swp who (9, s, 0) top (obj + 1)) * R) (H := H2) hn h2.to;exact am ⟨(), rfl, h3.to⟩
end
theorem Qa (a : Int) {n : Int} (h : 1 ≤ n) : -n < a.tmod n ∧ a.tmod n < n := by
 have e := Int.natAbs_tmod a n;have : a.natAbs % n.natAbs < n.natAbs := Nat.mod_lt _ (by omega);omega
section
variable (t m p e : Nat) (σ : aE)
theorem Jo (sh sl : Nat) (hs : 1 ≤ sh ∧ sh ≤ 4) (flow : Int) : Sp fL [vp t, vi flow] (tab t m sh sl) (fun _ : Unit => vi ((flow.tmod sh + sh).tmod sh)) (fun _ => tab t m sh sl) := by
 refine aU (pL _ _) fun R H h => ?_;unfold tab at h ⊢;have q := Qa flow (n := sh) (by omega);refine ar h ae rfl ?_;refine aa (jw (by omega)) ?_;refine ar h ae rfl ?_;refine aa (aJ (by omega) (by omega)) ?_;refine ar h ae rfl ?_;refine aa (jw (by omega)) ?_;exact am ⟨(), rfl, h⟩
theorem aaX (μ : Mu) : Sp fV [vp m] (bd m μ) (fun _ : Unit => vi μ.E.length) (fun _ => bd m μ) := by
 refine aW fun R H h => ?_;obtain ⟨⟨c, l, al, es, ck⟩, h1⟩ := ac.ex.1 h;rw [ak, ac.pu] at h1;obtain ⟨hp, h1⟩ := h1;dsimp only at h1;have h2 : ac (blk m (.cells false [.map (some c), l]) * (blk c (.map es ck) * ts 5 Ev.cells l μ.E) * R) H := h1;refine aZ (fun r => A8 _ H) ?_;refine ar h2 ae rfl ?_;refine sH (s := l) (l := μ.E) h2 ?_;exact am ⟨(), rfl, h⟩
theorem s6 (r : Value) (x : Int) : Sp jS [r, vi x] emp (fun _ : Unit => .tuple #[.agg (mU x).toArray, vb true]) (fun _ => emp) := by
 refine aU (J9 _ _) fun R H h => ?_;refine bk h fun b H1 h1 => ?_;refine j7 ?_;refine fW h1 rfl rfl fun H2 h2 => ?_;refine aT h2 ?_;exact am ⟨(), rfl, h2.to⟩
def dA (x : Cl) : Option Int := if x.a < 1 ∨ 65536 < x.a then some 3 else if x.flow < 0 ∨ 1048576 < x.flow then some 5 else none
end
structure Tk where
 who : Int
 x : Cl
 s : Int
 at' : Nat
 i : Nat
 obj : Nat
 found : Bool
 w : Nat
 q : Nat
 mark : Int
 top : Nat
 code : Int
abbrev aE.mem (σ : aE) (μ : Mu) : aE := { σ with μ := μ }
def tH (v : Nat) (flow : Int) : Bool := decide (v ≠ 0 ∧ ((v / 4294967296 : Nat) : Int) - 1 = flow)
def aC (σ : aE) (t : Tk) : Tk :=
 let v := σ.μ.V (10, t.s, (t.i : Int))
 { t with i := t.i + 1, found := tH v t.x.flow, obj := if tH v t.x.flow = true then v % 4294967296 else t.obj }
abbrev bR (σ : aE) (t : Tk) : aE := σ.mem (σ.μ.acc t.who 1 (10, t.s, (t.i : Int)))
def cT (σ : aE) (t : Tk) : Bool := decide (σ.c.sl ≤ (t.i : Int))
def av (σ : aE) (o : Nat) : List Pk := ((σ.obs[o]?).map (·.2)).getD []
def fI (σ : aE) (t : Tk) : aE :=
 let n := (av σ t.obj).length
 let k := ay t.w % n
 { σ with μ := σ.μ.acc t.who 6 (16, (t.obj : Int), (k : Int)), obs := σ.obs.modify t.obj fun p => (p.1, p.2.set k ⟨t.x.flow, t.x.a, t.x.b⟩) }
abbrev xu (σ : aE) (t : Tk) : aE :=
 let n := (av σ t.obj).length
 let k := ay t.w % n
 σ.mem ((σ.μ.acc t.who 2 (15, (t.obj : Int), (k : Int))).put (15, (t.obj : Int), (k : Int)) (ay t.w + 1))
abbrev jA (σ : aE) (t : Tk) : aE := σ.mem (σ.μ.acc t.who 1 (11, (t.obj : Int), 0))
abbrev gP (σ : aE) (t : Tk) : aE := σ.mem (σ.μ.acc t.who 1 (12, (t.obj : Int), 0))
def il (σ : aE) (t : Tk) : Bool := lp t.w (σ.μ.V (12, (t.obj : Int), 0)) (av σ t.obj).length
abbrev l5 (σ : aE) (t : Tk) : aE := σ.mem (σ.μ.acc t.who 1 (2, 0, 0))
def ai (σ : aE) (t : Tk) (now : Int) : aE × Tk × Bool :=
 let scan (σ : aE) (t : Tk) : aE × Tk × Bool :=
  let t1 := aC σ t
  (bR σ t, { t1 with at' := if t1.found = true then 6 else if cT σ t1 = true then 3 else 2 }, false)
 match t.at' with
 | 0 => match dA t.x with
  | some e => (σ.note now t.who e, { t with code := e }, true)
  | none => scan σ t
 | 2 => scan σ t
 | 3 => let l : bK := (8, t.s, 0)
  (σ.mem (σ.μ.swp t.who l 0 1), (if σ.μ.V l = 0 then { t with at' := 4, i := 0 } else t), false)
 | 4 => let t1 := aC σ t
  if t1.found = true then (bR σ t, { t1 with at' := 5 }, false)
  else if cT σ t1 = true then ((bR σ t).note now t.who 5, { t1 with at' := 5, code := 5 }, false)
  else (bR σ t, t1, false)
 | 5 => let l : bK := (8, t.s, 0)
  (σ.mem ((σ.μ.acc t.who 2 l).put l 0), { t with at' := 6 }, !t.found)
 | 6 => (σ.mem (σ.μ.acc t.who 5 (13, (t.obj : Int), 0)), { t with at' := 7 }, false)
 | 7 => let w := σ.μ.V (11, (t.obj : Int), 0)
  (jA σ t, { t with w := w, at' := if aL w = 2 then 3 else 8 }, false)
 | 8 => (gP σ t, { t with at' := if il σ t = true then 15 else if aL t.w = 1 then 9 else 12 }, false)
 | 9 => let o := aX t.w 0
  let σ1 := σ.mem (σ.μ.turn t.who t.obj t.w o)
  if d5 σ.μ t.obj t.w o = true then (σ1.note now t.who 0, { t with at' := 10, code := 0 }, false) else (σ1, { t with at' := 7 }, false)
 | 10 => (fI σ t, { t with at' := 11 }, false)
 | 11 => (xu σ t, t, true)
 | 12 => (σ.mem (σ.μ.cnt t.who (3, 0, 0) 4294967296), { t with at' := 13 }, false)
 | 13 => let o := aX t.w 0
  let σ1 := σ.mem (σ.μ.turn t.who t.obj t.w o)
  if d5 σ.μ t.obj t.w o = true then (σ1.note now t.who 0, { t with at' := 14, code := 0 }, false) else (σ1, { t with at' := 20 }, false)
 | 14 => (fI σ t, { t with at' := 21 }, false)
 | 15 => let q := σ.μ.V (2, 0, 0)
  (l5 σ t, { t with q := q, at' := if q % 2 = 1 then 7 else 16 }, false)
 | 16 => let w := σ.μ.V (11, (t.obj : Int), 0)
  (jA σ t, { t with w := w, at' := if aL w = 2 then 3 else 17 }, false)
 | 17 => (gP σ t, (if il σ t = true then { t with at' := 18, mark := now } else { t with at' := 7 }), false)
 | 18 => if σ.μ.V (2, 0, 0) = t.q then ((l5 σ t).note t.mark t.who 9, { t with code := 9 }, true) else (l5 σ t, { t with at' := 7 }, false)
 | 20 => (σ.mem (σ.μ.cnt t.who (3, 0, 0) 1), { t with at' := 7 }, false)
 | 21 => (xu σ t, { t with at' := 22 }, false)
 | 22 => (σ.mem (σ.μ.acc t.who 1 (9, t.s, 0)), { t with top := σ.μ.V (9, t.s, 0), at' := 23 }, false)
 | 23 => ({ σ with μ := σ.μ.acc t.who 6 (14, (t.obj : Int), 0), nx := fun k => if k = (t.obj : Int) then some t.top else σ.nx k }, { t with at' := 24 }, false)
 | 24 => let l : bK := (9, t.s, 0)
  (σ.mem (σ.μ.swp t.who l t.top (t.obj + 1)), { t with at' := if σ.μ.V l = t.top then 25 else 22 }, false)
 | _ => (σ.mem (σ.μ.cnt t.who (3, 0, 0) 1), t, true)
def bT (p : Nat) (rp : List Nat) (σ : aE) : SP := ex fun g : PIds => pu (g.rp = rp ∧ rp.length = σ.obs.length) * aK p g σ
theorem gC {p : Nat} {rp : List Nat} {σ : aE} {R : SP} {H : AH} (h : ac (bT p rp σ * R) H) : ∃ g : PIds, g.rp = rp ∧ rp.length = σ.obs.length ∧ ac (aK p g σ * R) H := by
 obtain ⟨g, h1⟩ := ac.ex.1 h;rw [ak, ac.pu] at h1;exact ⟨g, h1.1.1, h1.1.2, h1.2⟩
theorem bG {p : Nat} {rp : List Nat} {σ : aE} {R : SP} {H : AH} (g : PIds) (h1 : g.rp = rp) (h2 : rp.length = σ.obs.length) (h : ac (aK p g σ * R) H) : ac (bT p rp σ * R) H :=
 ac.ex.2 ⟨g, by rw [ak]; exact ac.pu.2 ⟨⟨h1, h2⟩, h⟩⟩
theorem XW {p : Nat} {σ : aE} {R : SP} {H : AH} (h : ac (ez p σ * R) H) : ∃ rp, ac (bT p rp σ * R) H := by
 obtain ⟨g, hg, h1⟩ := lz h;exact ⟨g.rp, bG g rfl hg h1⟩
theorem G4 (m : Nat) : ∀ {ps : List (Nat × List Pk)} {i j : Nat} (h : i < ps.length), ∃ R, kW m j ps = bY m (j + i) (ps[i]).1 (ps[i]).2 * R ∧ ∀ q : Nat × List Pk, kW m j (ps.set i q) = bY m (j + i) q.1 q.2 * R := by
 intro ps
 induction ps with
 | nil => intro i j h; simp at h
 | cons p ps ih =>
  intro i j h
  cases i with
  | zero => exact ⟨kW m (j + 1) ps, rfl, fun q => rfl⟩
  | succ i =>
   obtain ⟨R, e1, e2⟩ := ih (i := i) (j := j + 1) (by simpa using h);refine ⟨bY m j p.1 p.2 * R, ?_, fun q => ?_⟩
   ·show bY m j p.1 p.2 * kW m (j + 1) ps = _
    rw [e1, bo, show j + 1 + i = j + (i + 1) from by omega]; rfl
   ·show bY m j p.1 p.2 * kW m (j + 1) (ps.set i q) = _
    rw [e2, bo, show j + 1 + i = j + (i + 1) from by omega]
theorem G5 (m : Nat) : ∀ {ps : List (Nat × List Pk)} {i j : Nat} (h : i < ps.length), ∃ R, ia m j ps = cn m (j + i) (ps[i]).1 (ps[i]).2 * R ∧ ∀ q : Nat × List Pk, ia m j (ps.set i q) = cn m (j + i) q.1 q.2 * R := by
 intro ps
 induction ps with
 | nil => intro i j h; simp at h
 | cons p ps ih =>
  intro i j h
  cases i with
  | zero => exact ⟨ia m (j + 1) ps, rfl, fun q => rfl⟩
  | succ i =>
   obtain ⟨R, e1, e2⟩ := ih (i := i) (j := j + 1) (by simpa using h);refine ⟨cn m j p.1 p.2 * R, ?_, fun q => ?_⟩
   ·show cn m j p.1 p.2 * ia m (j + 1) ps = _
    rw [e1, bo, show j + 1 + i = j + (i + 1) from by omega]; rfl
   ·show cn m j p.1 p.2 * ia m (j + 1) (ps.set i q) = _
    rw [e2, bo, show j + 1 + i = j + (i + 1) from by omega]
def Zo (ns : List (Int × Nat)) (obj : Int) : Int := match ns.findIdx? fun p => p.1 == obj with
 | some i => i
 | none => -1
theorem HC {ns : List (Int × Nat)} {obj : Int} {i : Nat} (h : ∀ j, j < i → ∀ p, ns[j]? = some p → p.1 ≠ obj) :
 (∀ (hi : i < ns.length), ns[i].1 = obj → Zo ns obj = i) ∧ (ns.length ≤ i → Zo ns obj = -1) := by
 constructor
 ·intro hi e
  unfold Zo
  have : ns.findIdx? (fun p => p.1 == obj) = some i := by
   rw [List.findIdx?_eq_some_iff_getElem];refine ⟨hi, by simpa using e, fun j hj => ?_⟩;have := h j hj ns[j] (by rw [bu])
   simpa using this
  rw [this]
 ·intro hi
  unfold Zo
  have : ns.findIdx? (fun p => p.1 == obj) = none := by
   rw [List.findIdx?_eq_none_iff];intro p hp;obtain ⟨j, hj, rfl⟩ := List.getElem_of_mem hp;have := h j (by omega) ns[j] (by rw [bu])
   simpa using this
  rw [this]
theorem Ui (ib m : Nat) (sh : Int) (kv nv : Value) (ns : List (Int × Nat)) (hn : ns.length < 1000000) (obj : Int) :
 Sp kG [vp ib, vi obj] (blk ib (.cells false [vp m, vi sh, kv, nv]) * ts 1 bH kv (ns.map (·.1))) (fun _ : Unit => vi (Zo ns obj)) (fun _ => blk ib (.cells false [vp m, vi sh, kv, nv]) * ts 1 bH kv (ns.map (·.1))) := by
 refine aU (yH _ _) fun R H h => ?_;refine ag (so _ _ _ H) ?_;refine ag (sr _ _ _ _ H) ?_;have loop : ∀ (d i : Nat), i + d = ns.length → (∀ j, j < i → ∀ p, ns[j]? = some p → p.1 ≠ obj) →
  wp (f8 (vp ib) (vi obj) (vi 0) (vi i) H) fun v' H' => ∃ x : Unit, v' = vi (Zo ns obj) ∧ ac (blk ib (.cells false [vp m, vi sh, kv, nv]) * ts 1 bH kv (ns.map (·.1)) * R) H' := by
  intro d
  induction d with
  | zero =>
   intro i hi hj;refine ag (kT _ _ _ _ H) ?_;refine ar h ae rfl ?_;refine sH (s := kv) h ?_;rw [qK];refine aa (bF (by omega)) ?_;refine gs ?_;refine ag (pD _ H) ?_;refine ag (sq _ H) ?_;exact am ⟨(), by rw [(HC hj).2 (by omega)], h⟩
  | succ d ih =>
   intro i hi hj
   have hil : i < ns.length := by omega
   refine ag (kT _ _ _ _ H) ?_;refine ar h ae rfl ?_;refine sH (s := kv) h ?_;rw [qK];refine aa (cy (by omega)) ?_;refine gs ?_;refine ag (ss _ _ _ _ H) ?_;refine ar h ae rfl ?_;refine da (s := kv) (enc := bH) (l := ns.map fun p : Int × Nat => p.1) (v := vi ns[i].1) h (i := i) (by simpa using hil) (by simp [bH]) ?_
   by_cases e : ns[i].1 = obj
   ·refine aa (bf e) ?_
    refine gs ?_;exact am ⟨(), by rw [(HC hj).1 hil e], h⟩
   ·refine aa (aM e) ?_
    refine gs ?_;refine ag (su _ _ _ _ H) ?_;refine aa (aJ (by omega) (by omega)) ?_;refine ih (i + 1) (by omega) fun j hj2 p hp => ?_
    rcases Nat.lt_succ_iff_lt_or_eq.1 hj2 with h1 | rfl
    ·exact hj j h1 p hp
    ·rw [bu hil] at hp
     obtain rfl := eu hp;exact e
 exact loop ns.length 0 (by omega) (fun j hj => by omega)
theorem UJ {ns : List (Int × Nat)} {obj : Int} (h : ns.findIdx? (fun p => p.1 == obj) = none) : Zo ns obj = -1 := by unfold Zo; rw [h]
theorem UK {ns : List (Int × Nat)} {obj : Int} {i : Nat} (h : ns.findIdx? (fun p => p.1 == obj) = some i) : Zo ns obj = i := by unfold Zo; rw [h]
theorem SX {ns : List (Int × Nat)} {obj : Int} (h : ns.findIdx? (fun p => p.1 == obj) = none) (n : Nat) (k : Int) : CI (ns ++ [(obj, n)]) k = if k = obj then some n else CI ns k := by
 have hn : ns.find? (fun p => p.1 == obj) = none := by
  rw [List.find?_eq_none];rw [List.findIdx?_eq_none_iff] at h;intro p hp;have := h p hp
  simpa using this
 unfold CI;rw [List.find?_append]
 by_cases e : k = obj
 ·subst e
  rw [hn, if_pos rfl];simp
 ·rw [if_neg e]
  have : ([(obj, n)] : List (Int × Nat)).find? (fun p => p.1 == k) = none := by
   rw [List.find?_eq_none];intro p hp
   obtain rfl : p = (obj, n) := by simpa using hp
   simpa using fun q => e q.symm
  rw [this]
  cases ns.find? (fun p => p.1 == k) <;> rfl
theorem XH (obj : Int) (n : Nat) (k : Int) : ∀ {ns : List (Int × Nat)} {i : Nat}, ns.findIdx? (fun p => p.1 == obj) = some i → CI (ns.set i (obj, n)) k = if k = obj then some n else CI ns k := by
 intro ns
 induction ns with
 | nil => intro i h; simp at h
 | cons p ns ih =>
  intro i h;rw [List.findIdx?_cons] at h
  by_cases e : p.1 = obj
  ·rw [if_pos (by simpa using e)] at h
   obtain rfl := eu h;simp only [List.set_cons_zero, CI, List.find?_cons]
   by_cases e2 : k = obj
   ·subst e2; simp
   ·have h1 : ((obj == k) : Bool) = false := by simpa using fun q => e2 q.symm
    have h2 : ((p.1 == k) : Bool) = false := by rw [e]; exact h1
    simp [h1, h2, e2]
  ·rw [if_neg (by simpa using e)] at h
   obtain ⟨j, hj, rfl⟩ := aN.1 h;have := ih hj;simp only [List.set_cons_succ, CI, List.find?_cons] at this ⊢
   by_cases e2 : p.1 = k
   ·have h1 : ((p.1 == k) : Bool) = true := by simpa using e2
    simp only [h1];rw [if_neg (fun q => e (e2.trans q))]
   ·have h1 : ((p.1 == k) : Bool) = false := by simpa using e2
    simp only [h1];exact this
theorem JF (ib m : Nat) (sh : Int) (nx : Int → Option Nat) (L : Nat) (μ : Mu) (who obj : Int) (next : Nat) (hL : L < 900000) (hE : μ.N < 1099511627000) :
 Sp iD [vp ib, vi who, vi obj, vu next] (gc ib m sh nx L * bi m μ) (fun _ : Unit => .tuple #[]) (fun _ => gc ib m sh (fun k => if k = obj then some next else nx k) (L + 1) * bi m (μ.acc who 6 (14, obj, 0))) := by
 refine aW fun R H h => ?_;obtain ⟨kv, nv, ns, ⟨hn, hl⟩, h0⟩ := mE (ib := ib) (m := m) (sh := sh) (nx := nx) (L := L) (R := bi m μ * R) (H := H) h.to;refine aZ (fun r => uB _ _ _ _ H) ?_;refine bn ae ?_;refine aP h0 rfl ?_;refine af h0 (dm 14 obj 0) fun _ H1 h1 => ?_;refine aG h1 h0 (by rfl) ?_;refine af h1 ((Uj m μ who 6 (14, obj, 0) (by omega)).imp fun _ R H h => tQ (N' := μ.N + 2) (by simp) h) fun _ H2 h2 => ?_;refine af h2 (Ui ib m sh kv nv ns (by omega) obj) fun _ H3 h3 => ?_
 cases hf : ns.findIdx? (fun p => p.1 == obj) with
 | none =>
  rw [UJ hf];refine aa (cy (by omega)) ?_;refine gs ?_;refine ar h3 ae rfl ?_;refine Ht h3 fun b0 H4 h4 => ?_;refine eA (s := kv) (l := ns.map fun p : Int × Nat => p.1) (obj : Int) h4 rfl ?_ (by omega) fun a c H5 h5 => ?_
  ·unfold room; simp only [qK]; omega
  refine bn ae ?_;refine aP h5 rfl ?_;refine aG h4 h5 (by rfl) ?_;refine Ht h5 fun b1 H6 h6 => ?_;refine eA (s := nv) (l := ns.map fun p : Int × Nat => p.2) (next : Nat) h6 rfl ?_ (by omega) fun a2 c2 H7 h7 => ?_
  ·unfold room; simp only [qK]; omega
  refine bh h7 ae rfl rfl fun H8 h8 => ?_;refine bh h8 ae rfl rfl fun H9 h9 => ?_
  have e1 : (ns ++ [(obj, next)]).map (fun p : Int × Nat => p.1) = (ns.map fun p : Int × Nat => p.1) ++ [obj] := by rw [IC]; rfl
  have e2 : (ns ++ [(obj, next)]).map (fun p : Int × Nat => p.2) = (ns.map fun p : Int × Nat => p.2) ++ [next] := by rw [IC]; rfl
  refine am ⟨(), rfl, ?_⟩;have h10 := ge (ib := ib) (m := m) (sh := sh) (nx := fun k => if k = obj then some next else nx k) (L := L + 1) (kv := .slice a ((ns.map fun p : Int × Nat => p.1).length + 1) c) (nv := .slice a2 ((ns.map fun p : Int × Nat => p.2).length + 1) c2) (ns := ns ++ [(obj, next)])
   (R := bi m (μ.acc who 6 (14, obj, 0)) * R) (H := H9) ⟨fun k => by rw [SX hf, hn], by simp; omega⟩ (by rw [e1, e2]; exact h9.to)
  exact h10.to
 | some i =>
  rw [UK hf];have hi := (List.findIdx?_eq_some_iff_getElem.1 hf);obtain ⟨hil, hk, _⟩ := hi;refine aa (bF (by omega)) ?_;refine gs ?_;refine ar h3 ae rfl ?_;refine Er (s := nv) (l := ns.map fun p : Int × Nat => p.2) (i := i) (next : Nat) h3 (by simpa using hil) (.inl ⟨rfl, rfl⟩) rfl (by omega) rfl (by simp [Kk, splice]) fun H4 h4 => ?_
  have e1 : (ns.set i (obj, next)).map (fun p : Int × Nat => p.1) = ns.map fun p : Int × Nat => p.1 := by
   rw [List.map_set];apply List.ext_getElem?;intro j;rw [List.getElem?_set]
   split
   ·rename_i e
    subst e
    have hk : ns[i].1 = obj := by simpa using hk
    simp [hil, hk]
   ·rfl
  have e2 : (ns.set i (obj, next)).map (fun p : Int × Nat => p.2) = (ns.map fun p : Int × Nat => p.2).set i next := by rw [List.map_set]
  refine am ⟨(), rfl, ?_⟩;have h10 := ge (ib := ib) (m := m) (sh := sh) (nx := fun k => if k = obj then some next else nx k) (L := L + 1) (kv := kv) (nv := nv) (ns := ns.set i (obj, next))
   (R := bi m (μ.acc who 6 (14, obj, 0)) * R) (H := H4) ⟨fun k => by rw [XH obj next k hf, hn], by rw [Gj]; omega⟩ (by rw [e1, e2]; exact h4.to)
  exact h10.to
theorem sW {σ : aE} {o : Nat} (ho : o < σ.obs.length) : av σ o = (σ.obs[o]).2 := by
 unfold av;rw [bu ho]; rfl
theorem xf (p : Nat) (g : PIds) (σ : aE) (o b : Nat) (hl : g.rp.length = σ.obs.length) (ho : o < σ.obs.length) (hb : g.rp[o]? = some b) :
 ∃ R, aK p g σ = bY g.m o b (av σ o) * bd g.m σ.μ * R ∧ ∀ μ' cs', aK p g { σ with μ := μ', obs := σ.obs.modify o fun q => (q.1, cs') } = bY g.m o b cs' * bd g.m μ' * R := by
 have hz : o < (g.rp.zip (σ.obs.map fun x => x.2)).length := by simp; omega
 obtain ⟨R, e1, e2⟩ := G4 g.m (ps := g.rp.zip (σ.obs.map fun x => x.2)) (j := 0) hz
 have hrp : g.rp[o]'(by omega) = b := by
  rw [bu (by omega)] at hb;exact eu hb
 have e3 : (g.rp.zip (σ.obs.map fun x => x.2))[o] = (b, av σ o) := by
  rw [List.getElem_zip, sW ho, List.getElem_map, hrp]
 rw [e3] at e1;rw [Nat.zero_add] at e1 e2
 refine ⟨blk p (.cells false [vp g.m, vp g.ib, vp g.tb, vp g.po, vp g.co, vi σ.c.sh, vi σ.c.sl, vi σ.c.wk, vi σ.c.wd, vu σ.c.un, g.ov, .map (some g.pm), g.pv]) * (jD g.ib g.m g.nm σ.c σ.nx * (tab g.tb g.m σ.c.sh.toNat σ.c.sl.toNat * (ts 4 Ia g.ov ((σ.obs.map fun x => x.1).zip g.rp) * (R *
  (Un JI g.pm (fun k => (σ.places k).map fun n => vi n) * ts 7 Pt.cells g.pv σ.pts))))), ?_, fun μ' cs' => ?_⟩
 ·unfold aK
  rw [e1]
  ac_rfl
 ·unfold aK
  dsimp only
  have e4 : (σ.obs.modify o fun q => (q.1, cs')).map (fun x => x.1) = σ.obs.map fun x => x.1 := by
   apply List.ext_getElem?;intro j;simp only [vH, List.getElem?_modify]
   cases σ.obs[j]? with
   | none => rfl
   | some q => simp only [dx]; split <;> rfl
  have e5 : g.rp.zip ((σ.obs.modify o fun q => (q.1, cs')).map fun x => x.2) = (g.rp.zip (σ.obs.map fun x => x.2)).set o (b, cs') := by
   apply List.ext_getElem?;intro j;rw [List.getElem?_set]
   by_cases hj : o = j
   ·subst hj
    rw [if_pos rfl, if_pos hz];exact List.getElem?_zip_eq_some.2 ⟨hb, by simp [List.getElem?_modify, bu ho]⟩
   ·rw [if_neg hj]
    have : (List.map (fun x => x.2) (σ.obs.modify o fun q => (q.1, cs')))[j]? = (σ.obs.map fun x => x.2)[j]? := by
     simp only [vH, List.getElem?_modify]
     cases σ.obs[j]? with
     | none => rfl
     | some q => show some (if o = j then (q.1, cs') else q).2 = some q.2; rw [if_neg hj]
    simp only [List.zip, List.getElem?_zipWith, this]
  rw [e4, e5, e2]
  ac_rfl
theorem IK {σ : aE} {o : Nat} (ho : o < σ.obs.length) : (σ.obs.modify o fun q => (q.1, av σ o)) = σ.obs := by
 apply List.ext_getElem?;intro j;rw [List.getElem?_modify]
 cases hj : σ.obs[j]? with
 | none => rfl
 | some q =>
  show some (if o = j then _ else _) = some q
  by_cases e : o = j
  ·subst e
   rw [if_pos rfl];unfold av;rw [hj]; rfl
  ·rw [if_neg e]
section
variable {f : Nat} {args : List Value} {v : Unit → Value} {p : Nat} {g : PIds} {σ : aE} {o b : Nat}
theorem Ut {μ' : Mu} {cs' : List Pk} (hl : g.rp.length = σ.obs.length) (ho : o < σ.obs.length) (hb : g.rp[o]? = some b)
 (s : Sp f args (bY g.m o b (av σ o) * bd g.m σ.μ) v (fun _ => bY g.m o b cs' * bd g.m μ')) :
 Sp f args (aK p g σ) v (fun _ => aK p g { σ with μ := μ', obs := σ.obs.modify o fun q => (q.1, cs') }) := by
 obtain ⟨R', e1, e2⟩ := xf p g σ o b hl ho hb;intro R H h;rw [e1, ak] at h;obtain ⟨x, H', h1, h2⟩ := s _ _ h;exact ⟨x, H', h1, by rw [e2, ak]; exact h2⟩
theorem kY {μ' : Mu} (hl : g.rp.length = σ.obs.length) (ho : o < σ.obs.length) (hb : g.rp[o]? = some b)
 (s : Sp f args (bY g.m o b (av σ o) * bd g.m σ.μ) v (fun _ => bY g.m o b (av σ o) * bd g.m μ')) :
 Sp f args (aK p g σ) v (fun _ => aK p g (σ.mem μ')) := by
 have := Ut (p := p) hl ho hb s;rw [IK ho] at this;exact this
theorem MZ (hl : g.rp.length = σ.obs.length) (ho : o < σ.obs.length) (hb : g.rp[o]? = some b)
 (s : Sp f args (bY g.m o b (av σ o)) v (fun _ => bY g.m o b (av σ o))) :
 Sp f args (aK p g σ) v (fun _ => aK p g σ) := by
 obtain ⟨R', e1, _⟩ := xf p g σ o b hl ho hb;intro R H h;rw [e1, ak, ak] at h;obtain ⟨x, H', h1, h2⟩ := s _ _ h;exact ⟨x, H', h1, by rw [e1, ak, ak]; exact h2⟩
theorem Uu {μ' : Mu} (s : Sp f args (tab g.tb g.m σ.c.sh.toNat σ.c.sl.toNat * bd g.m σ.μ) v (fun _ => tab g.tb g.m σ.c.sh.toNat σ.c.sl.toNat * bd g.m μ')) :
 Sp f args (aK p g σ) v (fun _ => aK p g (σ.mem μ')) := by
 intro R H h;unfold aK at h;obtain ⟨x, H', h1, h2⟩ := s _ H (ac.fr (A := tab g.tb g.m σ.c.sh.toNat σ.c.sl.toNat * bd g.m σ.μ) h);refine ⟨x, H', h1, ?_⟩;unfold aK;exact h2.to
theorem Uv (s : Sp f args (tab g.tb g.m σ.c.sh.toNat σ.c.sl.toNat) v (fun _ => tab g.tb g.m σ.c.sh.toNat σ.c.sl.toNat)) :
 Sp f args (aK p g σ) v (fun _ => aK p g σ) := by
 intro R H h;unfold aK at h;obtain ⟨x, H', h1, h2⟩ := s _ H (ac.fr (A := tab g.tb g.m σ.c.sh.toNat σ.c.sl.toNat) h);refine ⟨x, H', h1, ?_⟩;unfold aK;exact h2.to
theorem Us {μ' : Mu} (s : Sp f args (bd g.m σ.μ) v (fun _ => bd g.m μ')) : Sp f args (aK p g σ) v (fun _ => aK p g (σ.mem μ')) := by
 intro R H h;unfold aK at h;obtain ⟨x, H', h1, h2⟩ := s _ H (ac.fr (A := bd g.m σ.μ) h);refine ⟨x, H', h1, ?_⟩;unfold aK;exact h2.to
theorem Da {μ' : Mu} {nx' : Int → Option Nat} (s : Sp f args (jD g.ib g.m g.nm σ.c σ.nx * bd g.m σ.μ) v (fun _ => jD g.ib g.m g.nm σ.c nx' * bd g.m μ')) :
 Sp f args (aK p g σ) v (fun _ => aK p g { σ with μ := μ', nx := nx' }) := by
 intro R H h;unfold aK at h;obtain ⟨x, H', h1, h2⟩ := s _ H (ac.fr (A := jD g.ib g.m g.nm σ.c σ.nx * bd g.m σ.μ) h);refine ⟨x, H', h1, ?_⟩;unfold aK;exact h2.to
end
instance aeO (p : Nat) (g : PIds) (σ : aE) : Hs (aK p g σ) p (.cells false [vp g.m, vp g.ib, vp g.tb, vp g.po, vp g.co, vi σ.c.sh, vi σ.c.sl, vi σ.c.wk, vi σ.c.wd, vu σ.c.un, g.ov, .map (some g.pm), g.pv]) := ⟨by
 intro H h;unfold aK at h
 exact h.left.get⟩
theorem nL {P P0 R : SP} {H : AH} {b fn : Nat} {args : List Value} {c : Int} {d : Bool} {Q0 : Unit → SP} {Q : Value → AH → Prop} (h : ac P H)
 (s : Sp fn args P0 (fun _ : Unit => .tuple #[.agg (mU c).toArray, vb d]) Q0) [fr : Fr P (P0 * blk b (.cells false [vi 0, .slice none 0 0, vi 0, vw 0])) R]
 (hk : ∀ H', ac (Q0 () * R) H' → Q (.tuple #[.agg (mU c).toArray, vb d]) H') :
 wp ((FF fn args H).bind fun r2 => (ah r2.1 0).bind fun v3 => (ah r2.1 1).bind fun v4 => (cZ 4 (vp b) v3 r2.2).bind fun H5 => (ax 4 (vp b) H5).bind fun v6 => some (Value.tuple #[v6, v4], H5)) Q := by
 have h0 : ac (P0 * (blk b (.cells false [vi 0, .slice none 0 0, vi 0, vw 0]) * R)) H := by
  have := ac.fr (A := P0 * blk b (.cells false [vi 0, .slice none 0 0, vi 0, vw 0])) h;rw [ak] at this;exact this
 refine af h0 s fun _ H1 h1 => ?_;refine aa (v := .agg (mU c).toArray) rfl ?_;refine aa (v := vb d) rfl ?_;refine fW h1 rfl rfl fun H2 h2 => ?_;refine aT h2 ?_;exact am (hk H2 h2.to)
abbrev SG (e n : Nat) : Value := .func (.func n) #[vp e] #[]
abbrev eB (e p : Nat) (nx rv : Value) (t : Tk) : SP :=
 blk e (.cells false [vp p, vi t.who, vi t.x.op, vi t.x.flow, vi t.x.a, vi t.x.b, vi t.s, nx, vi t.i, vi t.obj, vb t.found, rv, vu t.w, vu t.q, vi t.mark, vu t.top])
def ye : Nat → Nat
 | 0 => kB | 2 => iA | 3 => cr | 4 => dh | 5 => di | 6 => fj | 7 => bA | 8 => jT
 | 9 => iz | 10 => mK | 11 => jX | 12 => iy | 13 => jY | 14 => jR | 15 => mL | 16 => dH
 | 17 => dG | 18 => en | 20 => jQ | 21 => iB | 22 => cN | 23 => jU | 24 => jW | _ => mJ
def G6 (rp : List Nat) (t : Tk) (v : Value) : Prop := 7 ≤ t.at' → ∃ b, rp[t.obj]? = some b ∧ v = vp b
def eP (e p : Nat) (rp : List Nat) (σ : aE) (t : Tk) : SP := ex fun v : Value => pu (G6 rp t v) * (eB e p (SG e (ye t.at')) v t * bT p rp σ)
def eQ (e p : Nat) (rp : List Nat) (r : aE × Tk × Bool) : SP := if r.2.2 = true then bT p rp r.1 else eP e p rp r.1 r.2.1
abbrev cX (r : aE × Tk × Bool) : Value := .tuple #[.agg (mU (if r.2.2 = true then r.2.1.code else 0)).toArray, vb r.2.2]
theorem Nm {e p : Nat} {rp : List Nat} {σ : aE} {t : Tk} {R : SP} {H : AH} (h : ac (eP e p rp σ t * R) H) : ∃ v, G6 rp t v ∧ ac (eB e p (SG e (ye t.at')) v t * (bT p rp σ * R)) H := by
 obtain ⟨v, h1⟩ := ac.ex.1 h;rw [ak, ac.pu] at h1;exact ⟨v, h1.1, h1.2.to⟩
theorem HZ {e p : Nat} {rp : List Nat} {σ : aE} {t : Tk} {R : SP} {H : AH} {v : Value} {n : Nat} (hv : G6 rp t v) (hn : ye t.at' = n) (h : ac (eB e p (SG e n) v t * (bT p rp σ * R)) H) : ac (eP e p rp σ t * R) H := by
 subst hn;exact ac.ex.2 ⟨v, by rw [ak]; exact ac.pu.2 ⟨hv, h.to⟩⟩
section
variable (e p : Nat)
theorem adF (nx rv : Value) (n : Nat) (t : Tk) : Sp a8 [vp e, SG e n] (eB e p nx rv t) (fun _ : Unit => .tuple #[.agg (mU 0).toArray, vb false]) (fun _ => eB e p (SG e n) rv t) := by
 refine aU (U3 _ _) fun R H h => ?_;refine bk h fun b H1 h1 => ?_;refine bh h1 ae rfl rfl fun H2 h2 => ?_;refine j7 ?_;refine fW h2 rfl rfl fun H3 h3 => ?_;refine aT h3 ?_;exact am ⟨(), rfl, h3.to⟩
theorem afF (rp : List Nat) (σ : aE) (step who code : Int) (hp : σ.pts.length < 1000000) : Sp gi [vp p, vi step, vi who, .agg (mU code).toArray] (bT p rp σ) (fun _ : Unit => .tuple #[]) (fun _ => bT p rp (σ.note step who code)) := by
 refine aW fun R H h => ?_;obtain ⟨g, hrp, hg, h0⟩ := gC h;unfold aK at h0;refine aZ (fun r => qN _ _ _ _ H) ?_;refine aV h0 fun b1 H1 h1 => ?_;refine bn ae ?_;refine aP h1 rfl ?_;refine bn ae ?_;refine aP h1 rfl ?_;refine Qg (ek := JI) who h1 ?_;refine aT h1 ?_;refine af h1 (CM code) fun _ H2 h2 => ?_;refine aG h2 h1 rfl ?_;refine aG h2 h1 rfl ?_;refine YY who h2 h1 ?_
 have ev : (((σ.places who).map fun n => vi n).getD (vi 0)) = vi ((σ.places who).getD 0) := by cases σ.places who <;> rfl
 rw [ev];refine j7 ?_;refine Ht h2 fun b0 H3 h3 => ?_;refine eA (⟨step, who, (σ.places who).getD 0, code⟩ : Pt) h3 rfl ?_ (by omega) fun a cc H4 h4 => ?_
 ·unfold room; omega
 refine bh h4 ae rfl rfl fun H5 h5 => ?_;refine am ⟨(), rfl, ?_⟩;refine bG { g with pv := .slice a (σ.pts.length + 1) cc } hrp hg ?_;unfold aK aE.note;exact h5.to
theorem s7 (rp : List Nat) (σ : aE) (nx rv : Value) (t : Tk) (now code : Int) (hp : σ.pts.length < 1000000) :
 Sp jV [vp e, vi now, vi code] (eB e p nx rv t * bT p rp σ) (fun _ : Unit => .tuple #[]) (fun _ => eB e p nx rv t * bT p rp (σ.note now t.who code)) := by
 refine aU (Ke _ _ _) fun R H h => ?_;refine ar h ae rfl ?_;refine ar h ae rfl ?_;refine j7 ?_;refine af h (afF p rp σ now t.who code hp) fun _ H1 h1 => ?_;exact am ⟨(), rfl, h1.to⟩
theorem wX (rp : List Nat) (σ : aE) (nx rv : Value) (t : Tk) (now code : Int) (hp : σ.pts.length < 1000000) :
 Sp gz [vp e, vi now, vi code] (eB e p nx rv t * bT p rp σ) (fun _ : Unit => .tuple #[.agg (mU code).toArray, vb true]) (fun _ => eB e p nx rv t * bT p rp (σ.note now t.who code)) := by
 refine aU (EI _ _ _) fun R H h => ?_;refine bk h fun b H1 h1 => ?_;refine af h1 (s7 e p rp σ nx rv t now code hp) fun _ H2 h2 => ?_;exact nL h2 (s6 (vp e) code) fun H3 h3 => ⟨(), rfl, h3.to⟩
end
theorem Hk {α : Type} {P : SP} {H : AH} {e n g i : Nat} {enc : α → List Value} {l : List α} {s : Value} {Q : Value → AH → Prop} {k : Value → OV} {kk : IntKind} {cs : List Value} (h : ac P H) [r : Rd P s e enc l] [E : Enc enc e] (hi : i < l.length) (hg : g + n ≤ e)
 (hc : ((enc l[i]).drop g).take n = cs) (hk : wp (k (.agg cs.toArray)) Q) : wp (ldN n [.i e (.int kk (i : Int)), .f g] s H k) Q := by
 subst hc;obtain ⟨b, o, ro, row, rfl, h2, h3, h4⟩ := Mn (s := s) (enc := enc) (l := l) h hi;unfold ldN;rw [UF hi, aeY];have hm : (i + 1) * e ≤ l.length * e := Nat.mul_le_mul_right _ (by omega);rw [Nat.add_mul] at hm
 have : ax n (pR b (o + i * e + g)) H = some (.agg (((enc l[i]).drop g).take n).toArray) := by
  simp only [ax, sL, dv, be, h2];rw [if_pos (by omega)]
  congr 3
  rw [← F9 E.len l i hi, ← h4, List.drop_take, List.drop_take, List.drop_take, List.drop_drop, List.drop_drop, List.take_take, List.take_take, Nat.min_eq_left (by omega), Nat.min_eq_left (by omega), Nat.add_assoc]
 show wp ((ax n (pR b (o + i * e + g)) H).bind k) Q;rw [this]; exact hk
structure SOk (σ : aE) : Prop where
 c : b5 σ.c = true
 N : σ.μ.N < 800000
 pts : σ.pts.length < 900000
 V : ∀ l, σ.μ.V l < 18446744073709551616
 obs : σ.obs.length < 900000
 cells : ∀ o, o < σ.obs.length → 1 ≤ (av σ o).length ∧ (av σ o).length < 1000
 slot : ∀ s i, σ.μ.V (10, s, i) ≠ 0 → σ.μ.V (10, s, i) % 4294967296 < σ.obs.length
structure eM (σ : aE) (t : Tk) : Prop where
 obj : 6 ≤ t.at' ∨ t.at' = 5 ∧ t.found = true → t.obj < σ.obs.length
 s : t.s = (t.x.flow.tmod σ.c.sh + σ.c.sh).tmod σ.c.sh
 i : t.at' < 5 → t.at' ≠ 3 → (t.i : Int) < σ.c.sl
 w : t.w < 18446744073709551616
 c5 : t.at' = 5 → t.found = false → t.code = 5
 c0 : t.at' = 10 ∨ t.at' = 11 ∨ t.at' = 14 ∨ 21 ≤ t.at' → t.code = 0
 ats : t.at' = 0 ∨ t.at' = 2 ∨ t.at' = 3 ∨ t.at' = 4 ∨ t.at' = 5 ∨ t.at' = 6 ∨ t.at' = 7 ∨ t.at' = 8 ∨ t.at' = 9 ∨ t.at' = 10 ∨ t.at' = 11 ∨ t.at' = 12 ∨ t.at' = 13 ∨ t.at' = 14 ∨ t.at' = 15 ∨ t.at' = 16 ∨ t.at' = 17 ∨ t.at' = 18 ∨ t.at' = 20 ∨ t.at' = 21 ∨ t.at' = 22 ∨ t.at' = 23 ∨ t.at' = 24 ∨ t.at' = 25
section
variable (e p : Nat) (rp : List Nat) (g : PIds) (σ : aE) (nx rv : Value) (t : Tk) (now : Int)
theorem xg (hl : g.rp.length = σ.obs.length) (o : Nat) (ho : o < σ.obs.length) : Sp dX [vp p, vi o] (aK p g σ) (fun _ : Unit => vb true) (fun _ => aK p g σ) := by
 have hz : ((σ.obs.map fun x => x.1).zip g.rp).length = σ.obs.length := by simp [hl]
 refine aW fun R H h => ?_;have h0 := h;unfold aK at h0;refine aZ (fun r => qP _ _ H) ?_;refine aa (jf (by omega)) ?_;refine gs ?_;refine ar h ae rfl ?_;refine gs ?_;refine fC (s := g.ov) h0 ?_;rw [hz];refine gs ?_;refine aa (cy (by omega)) ?_;refine gs ?_;exact am ⟨(), rfl, h⟩
theorem IQ (hl : g.rp.length = σ.obs.length) (o b : Nat) (ho : o < σ.obs.length) (hb : g.rp[o]? = some b) : Sp gj [vp p, vi o] (aK p g σ) (fun _ : Unit => vp b) (fun _ => aK p g σ) := by
 have hz : ((σ.obs.map fun x => x.1).zip g.rp).length = σ.obs.length := by simp [hl]
 refine aU (qO _ _) fun R H h => ?_;refine af h (xg p g σ hl o ho) fun _ H1 h1 => ?_;refine gs ?_;rw [Bool.not_true];refine gs ?_;refine ar h1 ae rfl ?_;have h2 := h1;unfold aK at h2
 have hb' : g.rp[o]'(by omega) = b := by rw [bu (by omega)] at hb; exact eu hb
 refine fN (v := vp b) (enc := Ia) (l := (σ.obs.map fun x : Ob × List Pk => x.1).zip g.rp) h2 (by omega) (by omega) ?_ ?_
 ·show some (vp ((σ.obs.map fun x => x.1).zip g.rp)[o].2) = _
  rw [List.getElem_zip, hb']
 exact am ⟨(), rfl, h1.to⟩
theorem LY (hl : g.rp.length = σ.obs.length) (who : Int) (o : Nat) (ho : o < σ.obs.length) (hN : σ.μ.N < 800000) : Sp gW [vp p, vi who, vi o] (aK p g σ) (fun v : Value => v) (fun _ => aK p g (σ.mem (σ.μ.acc who 5 (13, (o : Int), 0)))) := by
 have hz : ((σ.obs.map fun x => x.1).zip g.rp).length = σ.obs.length := by simp [hl]
 refine aU (sf _ _ _) fun R H h => ?_;refine bk h fun b H1 h1 => ?_;refine af h1 (xg p g σ hl o ho) fun _ H2 h2 => ?_;refine gs ?_;rw [Bool.not_true];refine gs ?_;refine ar h2 ae rfl ?_;refine j7 ?_;refine af h2 (Us (p := p) (g := g) (σ := σ) ((Xy g.m σ.μ who (13, (o : Int), 0) (by omega)).imp fun _ R H h => jF (N' := σ.μ.N + 2) (by simp) h)) fun _ H3 h3 => ?_;refine ar h3 ae rfl ?_;have h4 := h3;unfold aK at h4;refine Hk (enc := Ia) (l := (σ.obs.map fun x : Ob × List Pk => x.1).zip g.rp) h4 (by omega) (by omega) (show _ = [_, _, _] from rfl) ?_;refine fW h3 rfl rfl fun H5 h5 => ?_;refine aT h5 ?_;exact am ⟨_, rfl, h5.to⟩
theorem Be (who : Int) (hN : σ.μ.N < 800000) : Sp eH [vp p, vi who] (aK p g σ) (fun _ : Unit => vu (σ.μ.V (2, 0, 0))) (fun _ => aK p g (σ.mem (σ.μ.acc who 1 (2, 0, 0)))) := by
 refine aU (sg _ _) fun R H h => ?_;refine ar h ae rfl ?_;refine j7 ?_;refine af h (Us (p := p) (g := g) (σ := σ) (Bc g.m σ.μ who (2, 0, 0) (by omega))) fun _ H1 h1 => ?_;exact am ⟨(), rfl, h1.to⟩
theorem BR (b : Bool) (h : tH (σ.μ.V (10, t.s, (t.i : Int))) t.x.flow = b) : aC σ t = { t with i := t.i + 1, found := b, obj := if b = true then σ.μ.V (10, t.s, (t.i : Int)) % 4294967296 else t.obj } := by
 subst h
 rfl
theorem No (S : SOk σ) (hi : (t.i : Int) < σ.c.sl) : Sp tT [vp e] (eB e p nx rv t * aK p g σ) (fun _ : Unit => vb (cT σ (aC σ t))) (fun _ => eB e p nx rv (aC σ t) * aK p g (bR σ t)) := by
 have hc := bW.1 S.c;refine aU (QH _) fun R H h => ?_;refine ar h ae rfl ?_;refine ar h ae rfl ?_;refine ar h ae rfl ?_;refine ar h ae rfl ?_;refine ar h ae rfl ?_;refine af h (Uu (p := p) (g := g) (σ := σ) (Jp g.tb g.m σ.c.sh.toNat σ.c.sl.toNat σ.μ t.who t.s t.i (by have := S.N; omega) (S.V _))) fun _ H1 h1 => ?_
 have fin : ∀ (t1 : Tk) (H' : AH), t1.i = t.i + 1 → ac (eB e p nx rv t1 * (aK p g (bR σ t) * R)) H' → wp (qc (vp e) (vb false) H') fun v' H' => ∃ _x : Unit, v' = vb (cT σ t1) ∧ ac (eB e p nx rv t1 * aK p g (bR σ t) * R) H' := by
  intro t1 H' hi1 h';refine ag (EG _ _ H') ?_;refine bn ae ?_;refine aP h' rfl ?_;refine ar h' ae rfl ?_;refine ar h' ae rfl ?_;refine af h' (Uv (p := p) (g := g) (σ := bR σ t) (Jq g.tb g.m σ.c.sh.toNat σ.c.sl.toNat)) fun _ H2 h2 => ?_;refine aG h2 h' (by rfl) ?_;refine aa (v := vb (cT σ t1)) ?_ ?_
  ·rw [yU]
   congr 3
   apply propext;omega
  exact am ⟨(), rfl, h2.to⟩
 by_cases hv : σ.μ.V (10, t.s, (t.i : Int)) = 0
 ·have e1 : lH (σ.μ.V (10, t.s, (t.i : Int))) = .tuple #[vi 0, vi 0, vb false] := by rw [lH, if_pos hv]
  rw [e1];refine aa (v := vi 0) rfl ?_;refine aa (v := vi 0) rfl ?_;refine aa (v := vb false) rfl ?_;refine ar h1 ae rfl ?_;refine aa (aJ (by omega) (by omega)) ?_;rw [show ((t.i : Nat) : Int) + 1 = ((t.i + 1 : Nat) : Int) from by omega];refine bh h1 ae rfl rfl fun H2 h2 => ?_;refine ag (sZ _ _ _ _ _ H2) ?_;refine gs ?_;refine bh h2 ae rfl rfl fun H3 h3 => ?_;refine ar h3 ae rfl ?_;refine gs ?_
  have e2 : aC σ t = { t with i := t.i + 1, found := false } := by
   have : tH (σ.μ.V (10, t.s, (t.i : Int))) t.x.flow = false := by simp [tH, hv]
   exact (BR σ t _ this).trans rfl
  rw [e2];exact fin _ H3 rfl h3.to
 ·have e1 : lH (σ.μ.V (10, t.s, (t.i : Int))) = .tuple #[vi ((σ.μ.V (10, t.s, (t.i : Int)) / 4294967296 : Nat) - 1), vi (σ.μ.V (10, t.s, (t.i : Int)) % 4294967296 : Nat), vb true] := by rw [lH, if_neg hv]
  rw [e1];refine aa (v := vi ((σ.μ.V (10, t.s, (t.i : Int)) / 4294967296 : Nat) - 1)) rfl ?_;refine aa (v := vi (σ.μ.V (10, t.s, (t.i : Int)) % 4294967296 : Nat)) rfl ?_;refine aa (v := vb true) rfl ?_;refine ar h1 ae rfl ?_;refine aa (aJ (by omega) (by omega)) ?_;rw [show ((t.i : Nat) : Int) + 1 = ((t.i + 1 : Nat) : Int) from by omega];refine bh h1 ae rfl rfl fun H2 h2 => ?_;refine ag (sZ _ _ _ _ _ H2) ?_;refine gs ?_;refine ar h2 (ik (cm (cm cj))) rfl ?_
  by_cases hf : ((σ.μ.V (10, t.s, (t.i : Int)) / 4294967296 : Nat) : Int) - 1 = t.x.flow
  ·refine qG ?_
   refine aa (bf hf) ?_;refine gs ?_;refine bh h2 ae rfl rfl fun H3 h3 => ?_;refine ar h3 ae rfl ?_;refine gs ?_;refine bh h3 ae rfl rfl fun H4 h4 => ?_
   have e2 : aC σ t = { t with i := t.i + 1, found := true, obj := σ.μ.V (10, t.s, (t.i : Int)) % 4294967296 } := by
    have : tH (σ.μ.V (10, t.s, (t.i : Int))) t.x.flow = true := i4 ⟨hv, hf⟩;exact (BR σ t _ this).trans rfl
   rw [e2];exact fin _ H4 rfl h4.to
  ·refine qG ?_
   refine aa (aM hf) ?_;refine gs ?_;refine bh h2 ae rfl rfl fun H3 h3 => ?_;refine ar h3 ae rfl ?_;refine gs ?_
   have e2 : aC σ t = { t with i := t.i + 1, found := false } := by
    have : tH (σ.μ.V (10, t.s, (t.i : Int))) t.x.flow = false := iv fun q => hf q.2;exact (BR σ t _ this).trans rfl
   rw [e2];exact fin _ H3 rfl h3.to
end
theorem f9 {rp : List Nat} {t : Tk} {v : Value} (h : t.at' < 7) : G6 rp t v := fun h' => by omega
theorem bZ {rp : List Nat} {t : Tk} {b : Nat} (h : rp[t.obj]? = some b) : G6 rp t (vp b) := fun _ => ⟨b, h, rfl⟩
section
variable {e p : Nat} {rp : List Nat} {g : PIds} {σ σ' : aE} {t t' : Tk} {R P : SP} {H : AH} {r : aE × Tk × Bool} {v : Value} {n : Nat} {c : Int}
theorem cM (h : ac (eP e p rp σ t * R) H) : ∃ (nx rv : Value) (g : PIds), G6 rp t rv ∧ g.rp = rp ∧ rp.length = σ.obs.length ∧ nx = SG e (ye t.at') ∧ ac (eB e p nx rv t * (aK p g σ * R)) H := by
 obtain ⟨rv, h1, h2⟩ := Nm h;obtain ⟨g, h3, h4, h5⟩ := gC (p := p) (rp := rp) (σ := σ) (R := eB e p (SG e (ye t.at')) rv t * R) (H := H) h2.to;exact ⟨_, rv, g, h1, h3, h4, rfl, h5.to⟩
theorem EL (hr : r = (σ', t', false)) (hv : G6 rp t' v) (hn : ye t'.at' = n) (h : ac (eB e p (SG e n) v t' * (bT p rp σ' * R)) H) :
 ∃ x : Unit, (.tuple #[.agg (mU 0).toArray, vb false]) = cX r ∧ ac (eQ e p rp r * R) H := by
 subst hr;exact ⟨(), rfl, HZ hv hn h⟩
theorem cP (hr : r = (σ', t', false)) (hv : G6 g.rp t' v) (hn : ye t'.at' = n) (hl : g.rp.length = σ'.obs.length) (h : ac (eB e p (SG e n) v t' * (aK p g σ' * R)) H) :
 ∃ x : Unit, (.tuple #[.agg (mU 0).toArray, vb false]) = cX r ∧ ac (eQ e p g.rp r * R) H := by
 refine EL hr hv hn ?_;have h1 := bG (p := p) (rp := g.rp) (σ := σ') (R := eB e p (SG e n) v t' * R) g rfl hl h.to;exact h1.to
theorem z5 (hr : r = (σ', t', true)) (hc : t'.code = c) (h : ac (bT p rp σ' * R) H) :
 ∃ x : Unit, (.tuple #[.agg (mU c).toArray, vb true]) = cX r ∧ ac (eQ e p rp r * R) H := by
 subst hr;subst hc;exact ⟨(), rfl, h⟩
theorem fc (nx rv : Value) (t' : Tk) (n : Nat) {b : Nat} {Q : Value → AH → Prop} (h : ac P H) [fr : Fr P (eB e p nx rv t' * blk b (.cells false [vi 0, .slice none 0 0, vi 0, vw 0])) R]
 (hk : ∀ H', ac (eB e p (SG e n) rv t' * R) H' → Q (.tuple #[.agg (mU 0).toArray, vb false]) H') :
 wp ((FF a8 [vp e, SG e n] H).bind fun r2 => (ah r2.1 0).bind fun v3 => (ah r2.1 1).bind fun v4 => (cZ 4 (vp b) v3 r2.2).bind fun H5 => (ax 4 (vp b) H5).bind fun v6 => some (Value.tuple #[v6, v4], H5)) Q :=
 nL h (adF e p nx rv n t') hk
end
section
variable (e p : Nat) (rp : List Nat) (σ : aE) (t : Tk) (now : Int)
theorem TX (S : SOk σ) (T : eM σ t) (hat : t.at' = 3) : Sp cr [vp e, vi now] (eP e p rp σ t) (fun _ : Unit => cX (ai σ t now)) (fun _ => eQ e p rp (ai σ t now)) := by
 have hN : σ.μ.N < 1099511627000 := by have := S.N; omega
 refine aW fun R H h => ?_;obtain ⟨nx, rv, g, hv, rfl, hl, _, h0⟩ := cM h;refine aZ (fun r => Kc _ _ H) ?_;refine bk h0 fun b1 H1 h1 => ?_;refine ar h1 ae rfl ?_;refine ar h1 ae rfl ?_;refine ar h1 ae rfl ?_;refine ar h1 ae rfl ?_;refine af h1 (Uu (p := p) (g := g) (σ := σ) (MN g.tb g.m σ.c.sh.toNat σ.c.sl.toNat σ.μ t.who t.s hN)) fun _ H2 h2 => ?_
 by_cases hw : σ.μ.V (8, t.s, 0) = 0
 ·rw [i4 hw]
  refine gs ?_;rw [Bool.not_true];refine gs ?_;refine bh h2 ae rfl rfl fun H3 h3 => ?_;refine fc (e := e) (p := p) nx rv { t with at' := 4, i := 0 } dh h3 fun H9 h9 => ?_;exact cP (σ' := σ.mem (σ.μ.swp t.who (8, t.s, 0) 0 1)) (t' := { t with at' := 4, i := 0 }) (v := rv) (n := dh) (by simp only [ai, hat]; rw [if_pos hw]) (f9 (by simp)) rfl hl h9.to
 ·rw [iv hw]
  refine gs ?_;rw [Bool.not_false];refine gs ?_;refine fc (e := e) (p := p) nx rv t cr h2 fun H9 h9 => ?_;exact cP (σ' := σ.mem (σ.μ.swp t.who (8, t.s, 0) 0 1)) (t' := t) (v := rv) (n := cr) (by simp only [ai, hat]; rw [if_neg hw]) (f9 (by omega)) (by rw [hat]; rfl) hl h9.to
theorem Jk (S : SOk σ) (T : eM σ t) (hat : t.at' = 5) : Sp di [vp e, vi now] (eP e p rp σ t) (fun _ : Unit => cX (ai σ t now)) (fun _ => eQ e p rp (ai σ t now)) := by
 have hN : σ.μ.N < 1099511627000 := by have := S.N; omega
 refine aW fun R H h => ?_;obtain ⟨nx, rv, g, hv, rfl, hl, _, h0⟩ := cM h;refine aZ (fun r => EK _ _ H) ?_;refine bk h0 fun b1 H1 h1 => ?_;refine ar h1 ae rfl ?_;refine ar h1 ae rfl ?_;refine ar h1 ae rfl ?_;refine ar h1 ae rfl ?_;refine af h1 (Uu (p := p) (g := g) (σ := σ) (Hh g.tb g.m σ.c.sh.toNat σ.c.sl.toNat σ.μ t.who t.s hN)) fun _ H2 h2 => ?_;refine ar h2 ae rfl ?_;cases hf : t.found
 ·refine gs ?_
  rw [Bool.not_false];refine gs ?_;refine nL h2 (s6 (vp e) 5) fun H9 h9 => ?_;exact z5 (σ' := σ.mem ((σ.μ.acc t.who 2 (8, t.s, 0)).put (8, t.s, 0) 0)) (t' := { t with at' := 6 }) (by simp only [ai, hat, hf]; rfl) (T.c5 hat hf) (bG (p := p) (rp := g.rp) (R := R) g rfl hl h9.to)
 ·refine gs ?_
  rw [Bool.not_true];refine gs ?_;refine fc (e := e) (p := p) nx rv { t with at' := 6 } fj h2 fun H9 h9 => ?_;exact cP (σ' := σ.mem ((σ.μ.acc t.who 2 (8, t.s, 0)).put (8, t.s, 0) 0)) (t' := { t with at' := 6 }) (v := rv) (n := fj) (by simp only [ai, hat, hf]; rfl) (f9 (by simp)) rfl hl h9.to
theorem TY (S : SOk σ) (T : eM σ t) (hat : t.at' = 6) : Sp fj [vp e, vi now] (eP e p rp σ t) (fun _ : Unit => cX (ai σ t now)) (fun _ => eQ e p rp (ai σ t now)) := by
 have hN : σ.μ.N < 1099511627000 := by have := S.N; omega
 refine aW fun R H h => ?_;obtain ⟨nx, rv, g, hv, rfl, hl, _, h0⟩ := cM h;have ho := T.obj (.inl (by omega));obtain ⟨b, hb⟩ : ∃ b, g.rp[t.obj]? = some b := ⟨_, bu (by omega)⟩;refine aZ (fun r => Kd _ _ H) ?_;refine bk h0 fun b1 H1 h1 => ?_;refine ar h1 ae rfl ?_;refine ar h1 ae rfl ?_;refine ar h1 ae rfl ?_;refine af h1 (LY p g σ hl t.who t.obj ho S.N) fun _ H2 h2 => ?_;refine ar h2 ae rfl ?_;refine ar h2 ae rfl ?_;refine af h2 (IQ p g (σ.mem (σ.μ.acc t.who 5 (13, (t.obj : Int), 0))) hl t.obj b ho hb) fun _ H3 h3 => ?_;refine bh h3 ae rfl rfl fun H4 h4 => ?_;refine fc (e := e) (p := p) nx (vp b) { t with at' := 7 } bA h4 fun H9 h9 => ?_;exact cP (σ' := σ.mem (σ.μ.acc t.who 5 (13, (t.obj : Int), 0))) (t' := { t with at' := 7 }) (v := (vp b)) (n := bA) (by simp only [ai, hat]) (bZ hb) rfl hl h9.to
theorem T5 (S : SOk σ) (T : eM σ t) (hat : t.at' = 7) : Sp bA [vp e, vi now] (eP e p rp σ t) (fun _ : Unit => cX (ai σ t now)) (fun _ => eQ e p rp (ai σ t now)) := by
 have hN : σ.μ.N < 1099511627000 := by have := S.N; omega
 refine aW fun R H h => ?_;obtain ⟨nx, rv, g, hv, rfl, hl, _, h0⟩ := cM h;obtain ⟨b, hb, rfl⟩ := hv (by omega);have ho := T.obj (.inl (by omega));refine aZ (fun r => Kj _ _ H) ?_;refine bk h0 fun b1 H1 h1 => ?_;refine ar h1 ae rfl ?_;refine ar h1 ae rfl ?_;refine af h1 (kY (p := p) hl ho hb (Ed g.m t.obj b (av σ t.obj) σ.μ t.who hN)) fun _ H2 h2 => ?_;refine bh h2 ae rfl rfl fun H3 h3 => ?_;refine ar h3 ae rfl ?_;refine af h3 (nM _ (S.V _)) fun _ H4 h4 => ?_
 by_cases hw : aL (σ.μ.V (11, (t.obj : Int), 0)) = 2
 ·refine aa (bf hw) ?_
  refine gs ?_;refine fc (e := e) (p := p) nx (vp b) { t with w := σ.μ.V (11, (t.obj : Int), 0), at' := 3 } cr h4 fun H9 h9 => ?_;exact cP (σ' := jA σ t) (t' := { t with w := σ.μ.V (11, (t.obj : Int), 0), at' := 3 }) (v := (vp b)) (n := cr) (by simp only [ai, hat]; rw [if_pos hw]) (f9 (by simp)) rfl hl h9.to
 ·refine aa (aM hw) ?_
  refine gs ?_;refine fc (e := e) (p := p) nx (vp b) { t with w := σ.μ.V (11, (t.obj : Int), 0), at' := 8 } jT h4 fun H9 h9 => ?_;exact cP (σ' := jA σ t) (t' := { t with w := σ.μ.V (11, (t.obj : Int), 0), at' := 8 }) (v := (vp b)) (n := jT) (by simp only [ai, hat]; rw [if_neg hw]) (bZ hb) rfl hl h9.to
theorem B0 (S : SOk σ) (T : eM σ t) (hat : t.at' = 16) : Sp dH [vp e, vi now] (eP e p rp σ t) (fun _ : Unit => cX (ai σ t now)) (fun _ => eQ e p rp (ai σ t now)) := by
 have hN : σ.μ.N < 1099511627000 := by have := S.N; omega
 refine aW fun R H h => ?_;obtain ⟨nx, rv, g, hv, rfl, hl, _, h0⟩ := cM h;obtain ⟨b, hb, rfl⟩ := hv (by omega);have ho := T.obj (.inl (by omega));refine aZ (fun r => xJ _ _ H) ?_;refine bk h0 fun b1 H1 h1 => ?_;refine ar h1 ae rfl ?_;refine ar h1 ae rfl ?_;refine af h1 (kY (p := p) hl ho hb (Ed g.m t.obj b (av σ t.obj) σ.μ t.who hN)) fun _ H2 h2 => ?_;refine bh h2 ae rfl rfl fun H3 h3 => ?_;refine ar h3 ae rfl ?_;refine af h3 (nM _ (S.V _)) fun _ H4 h4 => ?_
 by_cases hw : aL (σ.μ.V (11, (t.obj : Int), 0)) = 2
 ·refine aa (bf hw) ?_
  refine gs ?_;refine fc (e := e) (p := p) nx (vp b) { t with w := σ.μ.V (11, (t.obj : Int), 0), at' := 3 } cr h4 fun H9 h9 => ?_;exact cP (σ' := jA σ t) (t' := { t with w := σ.μ.V (11, (t.obj : Int), 0), at' := 3 }) (v := (vp b)) (n := cr) (by simp only [ai, hat]; rw [if_pos hw]) (f9 (by simp)) rfl hl h9.to
 ·refine aa (aM hw) ?_
  refine gs ?_;refine fc (e := e) (p := p) nx (vp b) { t with w := σ.μ.V (11, (t.obj : Int), 0), at' := 17 } dG h4 fun H9 h9 => ?_;exact cP (σ' := jA σ t) (t' := { t with w := σ.μ.V (11, (t.obj : Int), 0), at' := 17 }) (v := (vp b)) (n := dG) (by simp only [ai, hat]; rw [if_neg hw]) (bZ hb) rfl hl h9.to
theorem TU (S : SOk σ) (T : eM σ t) (hat : t.at' = 8) : Sp jT [vp e, vi now] (eP e p rp σ t) (fun _ : Unit => cX (ai σ t now)) (fun _ => eQ e p rp (ai σ t now)) := by
 have hN : σ.μ.N < 1099511627000 := by have := S.N; omega
 refine aW fun R H h => ?_;obtain ⟨nx, rv, g, hv, rfl, hl, _, h0⟩ := cM h;obtain ⟨b, hb, rfl⟩ := hv (by omega);have ho := T.obj (.inl (by omega));refine aZ (fun r => Ka _ _ H) ?_;refine bk h0 fun b1 H1 h1 => ?_;refine ar h1 ae rfl ?_;refine ar h1 ae rfl ?_;refine af h1 (kY (p := p) hl ho hb (Eb g.m t.obj b (av σ t.obj) σ.μ t.who hN)) fun _ H2 h2 => ?_;refine ag (Cw _ _ _ _ H2) ?_;refine ar h2 ae rfl ?_;refine ar h2 ae rfl ?_;refine af h2 (MZ (p := p) (σ := gP σ t) hl ho hb (Ea g.m t.obj b (av σ t.obj) t.w (σ.μ.V (12, (t.obj : Int), 0)) T.w (S.cells _ ho).2)) fun _ H3 h3 => ?_;cases hf : lp t.w (σ.μ.V (12, (t.obj : Int), 0)) (av σ t.obj).length
 ·refine gs ?_
  refine ar h3 ae rfl ?_;refine af h3 (nM _ T.w) fun _ H4 h4 => ?_
  by_cases hw : aL t.w = 1
  ·refine aa (bf hw) ?_
   refine gs ?_;refine fc (e := e) (p := p) nx (vp b) { t with at' := 9 } iz h4 fun H9 h9 => ?_;exact cP (σ' := gP σ t) (t' := { t with at' := 9 }) (v := (vp b)) (n := iz) (by simp only [ai, hat, il, hf]; rw [if_pos hw]; rfl) (bZ hb) rfl hl h9.to
  ·refine aa (aM hw) ?_
   refine gs ?_;refine ag (Cx _ _ _ H4) ?_;refine fc (e := e) (p := p) nx (vp b) { t with at' := 12 } iy h4 fun H9 h9 => ?_;exact cP (σ' := gP σ t) (t' := { t with at' := 12 }) (v := (vp b)) (n := iy) (by simp only [ai, hat, il, hf]; rw [if_neg hw]; rfl) (bZ hb) rfl hl h9.to
 ·refine gs ?_
  refine fc (e := e) (p := p) nx (vp b) { t with at' := 15 } mL h3 fun H9 h9 => ?_;exact cP (σ' := gP σ t) (t' := { t with at' := 15 }) (v := (vp b)) (n := mL) (by simp only [ai, hat, il, hf]; rfl) (bZ hb) rfl hl h9.to
theorem MI (S : SOk σ) (T : eM σ t) (hat : t.at' = 9) : Sp iz [vp e, vi now] (eP e p rp σ t) (fun _ : Unit => cX (ai σ t now)) (fun _ => eQ e p rp (ai σ t now)) := by
 have hN : σ.μ.N < 1099511627000 := by have := S.N; omega
 refine aW fun R H h => ?_;obtain ⟨nx, rv, g, hv, rfl, hl, _, h0⟩ := cM h;obtain ⟨b, hb, rfl⟩ := hv (by omega);have ho := T.obj (.inl (by omega));refine aZ (fun r => HW _ _ H) ?_;refine bk h0 fun b1 H1 h1 => ?_;refine ar h1 ae rfl ?_;refine ar h1 ae rfl ?_;refine ar h1 ae rfl ?_;refine af h1 (kY (p := p) hl ho hb (BQ g.m t.obj b (av σ t.obj) σ.μ t.who t.w T.w hN)) fun _ H2 h2 => ?_;cases hw : d5 σ.μ t.obj t.w (aX t.w 0)
 ·refine gs ?_
  rw [Bool.not_false];refine gs ?_;refine fc (e := e) (p := p) nx (vp b) { t with at' := 7 } bA h2 fun H9 h9 => ?_;exact cP (σ' := σ.mem (σ.μ.turn t.who t.obj t.w (aX t.w 0))) (t' := { t with at' := 7 }) (v := (vp b)) (n := bA) (by simp only [ai, hat, hw]; rfl) (bZ hb) rfl hl h9.to
 ·refine gs ?_
  rw [Bool.not_true];refine gs ?_;have k2 := bG (p := p) (rp := g.rp) (σ := σ.mem (σ.μ.turn t.who t.obj t.w (aX t.w 0))) (R := eB e p nx (vp b) t * (blk b1 (.cells false [vi 0, .slice none 0 0, vi 0, vw 0]) * R)) g rfl hl h2.to;refine af k2 (s7 e p g.rp (σ.mem (σ.μ.turn t.who t.obj t.w (aX t.w 0))) nx (vp b) t now 0 (by have := S.pts; show σ.pts.length < _; omega)) fun _ H3 h3 => ?_;refine fc (e := e) (p := p) nx (vp b) { t with at' := 10, code := 0 } mK h3 fun H9 h9 => ?_;exact EL (σ' := (σ.mem (σ.μ.turn t.who t.obj t.w (aX t.w 0))).note now t.who 0) (t' := { t with at' := 10, code := 0 }) (v := (vp b)) (n := mK) (by simp only [ai, hat, hw]; rfl) (bZ hb) rfl h9.to
theorem T4 (S : SOk σ) (T : eM σ t) (hat : t.at' = 13) : Sp jY [vp e, vi now] (eP e p rp σ t) (fun _ : Unit => cX (ai σ t now)) (fun _ => eQ e p rp (ai σ t now)) := by
 have hN : σ.μ.N < 1099511627000 := by have := S.N; omega
 refine aW fun R H h => ?_;obtain ⟨nx, rv, g, hv, rfl, hl, _, h0⟩ := cM h;obtain ⟨b, hb, rfl⟩ := hv (by omega);have ho := T.obj (.inl (by omega));refine aZ (fun r => Ki _ _ H) ?_;refine bk h0 fun b1 H1 h1 => ?_;refine ar h1 ae rfl ?_;refine ar h1 ae rfl ?_;refine ar h1 ae rfl ?_;refine af h1 (kY (p := p) hl ho hb (BQ g.m t.obj b (av σ t.obj) σ.μ t.who t.w T.w hN)) fun _ H2 h2 => ?_;cases hw : d5 σ.μ t.obj t.w (aX t.w 0)
 ·refine gs ?_
  rw [Bool.not_false];refine gs ?_;refine fc (e := e) (p := p) nx (vp b) { t with at' := 20 } jQ h2 fun H9 h9 => ?_;exact cP (σ' := σ.mem (σ.μ.turn t.who t.obj t.w (aX t.w 0))) (t' := { t with at' := 20 }) (v := (vp b)) (n := jQ) (by simp only [ai, hat, hw]; rfl) (bZ hb) rfl hl h9.to
 ·refine gs ?_
  rw [Bool.not_true];refine gs ?_;have k2 := bG (p := p) (rp := g.rp) (σ := σ.mem (σ.μ.turn t.who t.obj t.w (aX t.w 0))) (R := eB e p nx (vp b) t * (blk b1 (.cells false [vi 0, .slice none 0 0, vi 0, vw 0]) * R)) g rfl hl h2.to;refine af k2 (s7 e p g.rp (σ.mem (σ.μ.turn t.who t.obj t.w (aX t.w 0))) nx (vp b) t now 0 (by have := S.pts; show σ.pts.length < _; omega)) fun _ H3 h3 => ?_;refine fc (e := e) (p := p) nx (vp b) { t with at' := 14, code := 0 } jR h3 fun H9 h9 => ?_;exact EL (σ' := (σ.mem (σ.μ.turn t.who t.obj t.w (aX t.w 0))).note now t.who 0) (t' := { t with at' := 14, code := 0 }) (v := (vp b)) (n := jR) (by simp only [ai, hat, hw]; rfl) (bZ hb) rfl h9.to
theorem zh (σ : aE) (t : Tk) : fI σ t = { σ with μ := σ.μ.acc t.who 6 (16, (t.obj : Int), ((ay t.w % (av σ t.obj).length : Nat) : Int)), obs := σ.obs.modify t.obj fun q => (q.1, (av σ t.obj).set (ay t.w % (av σ t.obj).length) ⟨t.x.flow, t.x.a, t.x.b⟩) } := by
 have eo : (σ.obs.modify t.obj fun q => (q.1, q.2.set (ay t.w % (av σ t.obj).length) (⟨t.x.flow, t.x.a, t.x.b⟩ : Pk))) = σ.obs.modify t.obj fun q => (q.1, (av σ t.obj).set (ay t.w % (av σ t.obj).length) ⟨t.x.flow, t.x.a, t.x.b⟩) := by
  apply List.ext_getElem?;intro j;rw [List.getElem?_modify, List.getElem?_modify]
  cases hj : σ.obs[j]? with
  | none => rfl
  | some q =>
   show some (if t.obj = j then _ else q) = some (if t.obj = j then _ else q)
   by_cases e : t.obj = j
   ·subst e
    rw [if_pos rfl, if_pos rfl];unfold av;rw [hj]; rfl
   ·rw [if_neg e, if_neg e]
 exact congrArg (fun o => ({ σ with μ := σ.μ.acc t.who 6 (16, (t.obj : Int), ((ay t.w % (av σ t.obj).length : Nat) : Int)), obs := o } : aE)) eo
theorem Np (S : SOk σ) (T : eM σ t) (nx : Value) (g : PIds) (b : Nat) (hl : g.rp.length = σ.obs.length) (ho : t.obj < σ.obs.length) (hb : g.rp[t.obj]? = some b) :
 Sp tU [vp e] (eB e p nx (vp b) t * aK p g σ) (fun _ : Unit => .tuple #[]) (fun _ => eB e p nx (vp b) t * aK p g (fI σ t)) := by
 have hN : σ.μ.N < 1099511627000 := by have := S.N; omega
 refine aU (QI _) fun R H h => ?_;refine bn ae ?_;refine aP h rfl ?_;refine bn ae ?_;refine aP h rfl ?_;refine ar h ae rfl ?_;refine af h (iM t.w T.w) fun _ H1 h1 => ?_;refine aG h1 h (by rfl) ?_;refine aG h1 h (by rfl) ?_;refine bn (ik (cm (cm cj))) ?_;refine aP h1 rfl ?_;refine aG h h1 (by rfl) ?_;refine bn (ik (cm (cm cj))) ?_;refine aP h1 rfl ?_;refine aG h h1 (by rfl) ?_;refine bn (ik (cm (cm cj))) ?_;refine aP h1 rfl ?_;refine aG h h1 (by rfl) ?_;refine j7 ?_;refine af h1 (Ut (p := p) hl ho hb (Yl g.m t.obj b (av σ t.obj) σ.μ t.who (ay t.w) ⟨t.x.flow, t.x.a, t.x.b⟩ (S.cells _ ho) hN)) fun _ H2 h2 => ?_;refine am ⟨(), rfl, ?_⟩;rw [zh];exact h2.to
theorem jh (σ : aE) (t : Tk) : (fI σ t).obs.length = σ.obs.length := by unfold fI; simp
theorem YE (S : SOk σ) (T : eM σ t) (hat : t.at' = 10) : Sp mK [vp e, vi now] (eP e p rp σ t) (fun _ : Unit => cX (ai σ t now)) (fun _ => eQ e p rp (ai σ t now)) := by
 have hN : σ.μ.N < 1099511627000 := by have := S.N; omega
 refine aW fun R H h => ?_;obtain ⟨nx, rv, g, hv, rfl, hl, _, h0⟩ := cM h;obtain ⟨b, hb, rfl⟩ := hv (by omega);have ho := T.obj (.inl (by omega));refine aZ (fun r => QJ _ _ H) ?_;refine bk h0 fun b1 H1 h1 => ?_;refine af h1 (Np e p σ t S T nx g b hl ho hb) fun _ H2 h2 => ?_;refine fc (e := e) (p := p) nx (vp b) { t with at' := 11 } jX h2 fun H9 h9 => ?_;exact cP (σ' := fI σ t) (t' := { t with at' := 11 }) (v := (vp b)) (n := jX) (by simp only [ai, hat]) (bZ hb) rfl (by rw [jh]; exact hl) h9.to
theorem TT (S : SOk σ) (T : eM σ t) (hat : t.at' = 14) : Sp jR [vp e, vi now] (eP e p rp σ t) (fun _ : Unit => cX (ai σ t now)) (fun _ => eQ e p rp (ai σ t now)) := by
 have hN : σ.μ.N < 1099511627000 := by have := S.N; omega
 refine aW fun R H h => ?_;obtain ⟨nx, rv, g, hv, rfl, hl, _, h0⟩ := cM h;obtain ⟨b, hb, rfl⟩ := hv (by omega);have ho := T.obj (.inl (by omega));refine aZ (fun r => J8 _ _ H) ?_;refine bk h0 fun b1 H1 h1 => ?_;refine af h1 (Np e p σ t S T nx g b hl ho hb) fun _ H2 h2 => ?_;refine fc (e := e) (p := p) nx (vp b) { t with at' := 21 } iB h2 fun H9 h9 => ?_;exact cP (σ' := fI σ t) (t' := { t with at' := 21 }) (v := (vp b)) (n := iB) (by simp only [ai, hat]) (bZ hb) rfl (by rw [jh]; exact hl) h9.to
theorem T0 (S : SOk σ) (T : eM σ t) (hat : t.at' = 11) : Sp jX [vp e, vi now] (eP e p rp σ t) (fun _ : Unit => cX (ai σ t now)) (fun _ => eQ e p rp (ai σ t now)) := by
 have hN : σ.μ.N < 1099511627000 := by have := S.N; omega
 refine aW fun R H h => ?_;obtain ⟨nx, rv, g, hv, rfl, hl, _, h0⟩ := cM h;obtain ⟨b, hb, rfl⟩ := hv (by omega);have ho := T.obj (.inl (by omega));refine aZ (fun r => Kh _ _ H) ?_;refine bk h0 fun b1 H1 h1 => ?_;refine bn ae ?_;refine aP h1 rfl ?_;refine bn ae ?_;refine aP h1 rfl ?_;refine ar h1 ae rfl ?_;refine af h1 (iM t.w T.w) fun _ H2 h2 => ?_;refine aG h2 h1 (by rfl) ?_;refine aG h2 h1 (by rfl) ?_;have hwc := dQ t.w;refine af h2 (kY (p := p) hl ho hb (Ec g.m t.obj b (av σ t.obj) σ.μ t.who (ay t.w) (by omega) (S.cells _ ho) hN)) fun _ H3 h3 => ?_;refine nL h3 (s6 (vp e) 0) fun H9 h9 => ?_;exact z5 (σ' := xu σ t) (t' := t) (by simp only [ai, hat]) (T.c0 (by omega)) (bG (p := p) (rp := g.rp) (R := R) g rfl hl h9.to)
theorem MK (S : SOk σ) (T : eM σ t) (hat : t.at' = 21) : Sp iB [vp e, vi now] (eP e p rp σ t) (fun _ : Unit => cX (ai σ t now)) (fun _ => eQ e p rp (ai σ t now)) := by
 have hN : σ.μ.N < 1099511627000 := by have := S.N; omega
 refine aW fun R H h => ?_;obtain ⟨nx, rv, g, hv, rfl, hl, _, h0⟩ := cM h;obtain ⟨b, hb, rfl⟩ := hv (by omega);have ho := T.obj (.inl (by omega));refine aZ (fun r => HY _ _ H) ?_;refine bk h0 fun b1 H1 h1 => ?_;refine bn ae ?_;refine aP h1 rfl ?_;refine bn ae ?_;refine aP h1 rfl ?_;refine ar h1 ae rfl ?_;refine af h1 (iM t.w T.w) fun _ H2 h2 => ?_;refine aG h2 h1 (by rfl) ?_;refine aG h2 h1 (by rfl) ?_;have hwc := dQ t.w;refine af h2 (kY (p := p) hl ho hb (Ec g.m t.obj b (av σ t.obj) σ.μ t.who (ay t.w) (by omega) (S.cells _ ho) hN)) fun _ H3 h3 => ?_;refine fc (e := e) (p := p) nx (vp b) { t with at' := 22 } cN h3 fun H9 h9 => ?_;exact cP (σ' := xu σ t) (t' := { t with at' := 22 }) (v := (vp b)) (n := cN) (by simp only [ai, hat]) (bZ hb) rfl hl h9.to
theorem MH (S : SOk σ) (T : eM σ t) (hat : t.at' = 12) : Sp iy [vp e, vi now] (eP e p rp σ t) (fun _ : Unit => cX (ai σ t now)) (fun _ => eQ e p rp (ai σ t now)) := by
 have hN : σ.μ.N < 1099511627000 := by have := S.N; omega
 refine aW fun R H h => ?_;obtain ⟨nx, rv, g, hv, rfl, hl, _, h0⟩ := cM h;obtain ⟨b, hb, rfl⟩ := hv (by omega);have ho := T.obj (.inl (by omega));refine aZ (fun r => HV _ _ H) ?_;refine bk h0 fun b1 H1 h1 => ?_;refine ar h1 ae rfl ?_;refine ar h1 ae rfl ?_;refine ar h1 ae rfl ?_;refine af h1 (Da (p := p) (g := g) (σ := σ) (Iz g.ib g.m g.nm σ.c σ.nx σ.μ t.who hN)) fun _ H2 h2 => ?_;refine fc (e := e) (p := p) nx (vp b) { t with at' := 13 } jY h2 fun H9 h9 => ?_;exact cP (σ' := σ.mem (σ.μ.cnt t.who (3, 0, 0) 4294967296)) (t' := { t with at' := 13 }) (v := (vp b)) (n := jY) (by simp only [ai, hat]) (bZ hb) rfl hl h9.to
theorem TQ (S : SOk σ) (T : eM σ t) (hat : t.at' = 20) : Sp jQ [vp e, vi now] (eP e p rp σ t) (fun _ : Unit => cX (ai σ t now)) (fun _ => eQ e p rp (ai σ t now)) := by
 have hN : σ.μ.N < 1099511627000 := by have := S.N; omega
 refine aW fun R H h => ?_;obtain ⟨nx, rv, g, hv, rfl, hl, _, h0⟩ := cM h;obtain ⟨b, hb, rfl⟩ := hv (by omega);have ho := T.obj (.inl (by omega));refine aZ (fun r => J7 _ _ H) ?_;refine bk h0 fun b1 H1 h1 => ?_;refine ar h1 ae rfl ?_;refine ar h1 ae rfl ?_;refine ar h1 ae rfl ?_;refine af h1 (Da (p := p) (g := g) (σ := σ) (DN g.ib g.m g.nm σ.c σ.nx σ.μ t.who hN)) fun _ H2 h2 => ?_;refine fc (e := e) (p := p) nx (vp b) { t with at' := 7 } bA h2 fun H9 h9 => ?_;exact cP (σ' := σ.mem (σ.μ.cnt t.who (3, 0, 0) 1)) (t' := { t with at' := 7 }) (v := (vp b)) (n := bA) (by simp only [ai, hat]) (bZ hb) rfl hl h9.to
theorem YD (S : SOk σ) (T : eM σ t) (hat : t.at' = 25) : Sp mJ [vp e, vi now] (eP e p rp σ t) (fun _ : Unit => cX (ai σ t now)) (fun _ => eQ e p rp (ai σ t now)) := by
 have hN : σ.μ.N < 1099511627000 := by have := S.N; omega
 refine aW fun R H h => ?_;obtain ⟨nx, rv, g, hv, rfl, hl, _, h0⟩ := cM h;obtain ⟨b, hb, rfl⟩ := hv (by omega);have ho := T.obj (.inl (by omega));refine aZ (fun r => QG _ _ H) ?_;refine bk h0 fun b1 H1 h1 => ?_;refine ar h1 ae rfl ?_;refine ar h1 ae rfl ?_;refine ar h1 ae rfl ?_;refine af h1 (Da (p := p) (g := g) (σ := σ) (DN g.ib g.m g.nm σ.c σ.nx σ.μ t.who hN)) fun _ H2 h2 => ?_;refine nL h2 (s6 (vp e) 0) fun H9 h9 => ?_;exact z5 (σ' := σ.mem (σ.μ.cnt t.who (3, 0, 0) 1)) (t' := t) (by simp only [ai, hat]) (T.c0 (by omega)) (bG (p := p) (rp := g.rp) (R := R) g rfl hl h9.to)
theorem Hf (S : SOk σ) (T : eM σ t) (hat : t.at' = 22) : Sp cN [vp e, vi now] (eP e p rp σ t) (fun _ : Unit => cX (ai σ t now)) (fun _ => eQ e p rp (ai σ t now)) := by
 have hN : σ.μ.N < 1099511627000 := by have := S.N; omega
 refine aW fun R H h => ?_;obtain ⟨nx, rv, g, hv, rfl, hl, _, h0⟩ := cM h;obtain ⟨b, hb, rfl⟩ := hv (by omega);have ho := T.obj (.inl (by omega));refine aZ (fun r => CA _ _ H) ?_;refine bk h0 fun b1 H1 h1 => ?_;refine ar h1 ae rfl ?_;refine ar h1 ae rfl ?_;refine ar h1 ae rfl ?_;refine ar h1 ae rfl ?_;refine af h1 (Da (p := p) (g := g) (σ := σ) (SK g.ib g.m g.nm σ.c σ.nx σ.μ t.who t.s hN)) fun _ H2 h2 => ?_;refine bh h2 ae rfl rfl fun H3 h3 => ?_;refine fc (e := e) (p := p) nx (vp b) { t with top := σ.μ.V (9, t.s, 0), at' := 23 } jU h3 fun H9 h9 => ?_;exact cP (σ' := σ.mem (σ.μ.acc t.who 1 (9, t.s, 0))) (t' := { t with top := σ.μ.V (9, t.s, 0), at' := 23 }) (v := (vp b)) (n := jU) (by simp only [ai, hat]) (bZ hb) rfl hl h9.to
theorem TW (S : SOk σ) (T : eM σ t) (hat : t.at' = 23) : Sp jU [vp e, vi now] (eP e p rp σ t) (fun _ : Unit => cX (ai σ t now)) (fun _ => eQ e p rp (ai σ t now)) := by
 have hN : σ.μ.N < 1099511627000 := by have := S.N; omega
 refine aW fun R H h => ?_;obtain ⟨nx, rv, g, hv, rfl, hl, _, h0⟩ := cM h;obtain ⟨b, hb, rfl⟩ := hv (by omega);have ho := T.obj (.inl (by omega));refine aZ (fun r => Kb _ _ H) ?_;refine bk h0 fun b1 H1 h1 => ?_;refine ar h1 ae rfl ?_;refine ar h1 ae rfl ?_;refine ar h1 ae rfl ?_;refine ar h1 ae rfl ?_;refine ar h1 ae rfl ?_;refine af h1 (Da (p := p) (g := g) (σ := σ) (Lm g.ib g.m g.nm σ.c σ.nx σ.μ t.who t.obj t.top hN)) fun _ H2 h2 => ?_;refine fc (e := e) (p := p) nx (vp b) { t with at' := 24 } jW h2 fun H9 h9 => ?_;exact cP (σ' := { σ with μ := σ.μ.acc t.who 6 (14, (t.obj : Int), 0), nx := fun k => if k = (t.obj : Int) then some t.top else σ.nx k }) (t' := { t with at' := 24 }) (v := (vp b)) (n := jW) (by simp only [ai, hat]) (bZ hb) rfl hl h9.to
theorem TZ (S : SOk σ) (T : eM σ t) (hat : t.at' = 24) : Sp jW [vp e, vi now] (eP e p rp σ t) (fun _ : Unit => cX (ai σ t now)) (fun _ => eQ e p rp (ai σ t now)) := by
 have hN : σ.μ.N < 1099511627000 := by have := S.N; omega
 refine aW fun R H h => ?_;obtain ⟨nx, rv, g, hv, rfl, hl, _, h0⟩ := cM h;obtain ⟨b, hb, rfl⟩ := hv (by omega);have ho := T.obj (.inl (by omega));refine aZ (fun r => Kf _ _ H) ?_;refine bk h0 fun b1 H1 h1 => ?_;refine ar h1 ae rfl ?_;refine ar h1 ae rfl ?_;refine ar h1 ae rfl ?_;refine ar h1 ae rfl ?_;refine ar h1 ae rfl ?_;refine ar h1 ae rfl ?_;refine af h1 (Da (p := p) (g := g) (σ := σ) (Lo g.ib g.m g.nm σ.c σ.nx σ.μ t.who t.s t.top t.obj (by have := S.obs; omega) hN)) fun _ H2 h2 => ?_
 by_cases hw : σ.μ.V (9, t.s, 0) = t.top
 ·rw [i4 hw]
  refine gs ?_;rw [Bool.not_true];refine gs ?_;refine fc (e := e) (p := p) nx (vp b) { t with at' := 25 } mJ h2 fun H9 h9 => ?_;exact cP (σ' := σ.mem (σ.μ.swp t.who (9, t.s, 0) t.top (t.obj + 1))) (t' := { t with at' := 25 }) (v := (vp b)) (n := mJ) (by simp only [ai, hat]; rw [if_pos hw]) (bZ hb) rfl hl h9.to
 ·rw [iv hw]
  refine gs ?_;rw [Bool.not_false];refine gs ?_;refine fc (e := e) (p := p) nx (vp b) { t with at' := 22 } cN h2 fun H9 h9 => ?_;exact cP (σ' := σ.mem (σ.μ.swp t.who (9, t.s, 0) t.top (t.obj + 1))) (t' := { t with at' := 22 }) (v := (vp b)) (n := cN) (by simp only [ai, hat]; rw [if_neg hw]) (bZ hb) rfl hl h9.to
theorem YF (S : SOk σ) (T : eM σ t) (hat : t.at' = 15) : Sp mL [vp e, vi now] (eP e p rp σ t) (fun _ : Unit => cX (ai σ t now)) (fun _ => eQ e p rp (ai σ t now)) := by
 have hN : σ.μ.N < 1099511627000 := by have := S.N; omega
 refine aW fun R H h => ?_;obtain ⟨nx, rv, g, hv, rfl, hl, _, h0⟩ := cM h;obtain ⟨b, hb, rfl⟩ := hv (by omega);have ho := T.obj (.inl (by omega));refine aZ (fun r => QL _ _ H) ?_;refine bk h0 fun b1 H1 h1 => ?_;refine ar h1 ae rfl ?_;refine ar h1 ae rfl ?_;refine af h1 (Be p g σ t.who S.N) fun _ H2 h2 => ?_;refine bh h2 ae rfl rfl fun H3 h3 => ?_;refine ar h3 ae rfl ?_;refine aa (PT 2 (by omega)) ?_
 by_cases hw : σ.μ.V (2, 0, 0) % 2 = 1
 ·refine aa (bf (show ((σ.μ.V (2, 0, 0) % 2 : Nat) : Int) = 1 by omega)) ?_
  refine gs ?_;refine fc (e := e) (p := p) nx (vp b) { t with q := σ.μ.V (2, 0, 0), at' := 7 } bA h3 fun H9 h9 => ?_;exact cP (σ' := l5 σ t) (t' := { t with q := σ.μ.V (2, 0, 0), at' := 7 }) (v := (vp b)) (n := bA) (by simp only [ai, hat]; rw [if_pos hw]) (bZ hb) rfl hl h9.to
 ·refine aa (aM (show ¬ ((σ.μ.V (2, 0, 0) % 2 : Nat) : Int) = 1 by omega)) ?_
  refine gs ?_;refine fc (e := e) (p := p) nx (vp b) { t with q := σ.μ.V (2, 0, 0), at' := 16 } dH h3 fun H9 h9 => ?_;exact cP (σ' := l5 σ t) (t' := { t with q := σ.μ.V (2, 0, 0), at' := 16 }) (v := (vp b)) (n := dH) (by simp only [ai, hat]; rw [if_neg hw]) (bZ hb) rfl hl h9.to
theorem BZ (S : SOk σ) (T : eM σ t) (hat : t.at' = 17) : Sp dG [vp e, vi now] (eP e p rp σ t) (fun _ : Unit => cX (ai σ t now)) (fun _ => eQ e p rp (ai σ t now)) := by
 have hN : σ.μ.N < 1099511627000 := by have := S.N; omega
 refine aW fun R H h => ?_;obtain ⟨nx, rv, g, hv, rfl, hl, _, h0⟩ := cM h;obtain ⟨b, hb, rfl⟩ := hv (by omega);have ho := T.obj (.inl (by omega));refine aZ (fun r => xG _ _ H) ?_;refine bk h0 fun b1 H1 h1 => ?_;refine bn ae ?_;refine aP h1 rfl ?_;refine bn ae ?_;refine aP h1 rfl ?_;refine ar h1 ae rfl ?_;refine ar h1 ae rfl ?_;refine af h1 (kY (p := p) hl ho hb (Eb g.m t.obj b (av σ t.obj) σ.μ t.who hN)) fun _ H2 h2 => ?_;refine aG h2 h1 (by rfl) ?_;refine aG h2 h1 (by rfl) ?_;refine af h2 (MZ (p := p) (σ := gP σ t) hl ho hb (Ea g.m t.obj b (av σ t.obj) t.w (σ.μ.V (12, (t.obj : Int), 0)) T.w (S.cells _ ho).2)) fun _ H3 h3 => ?_;cases hf : lp t.w (σ.μ.V (12, (t.obj : Int), 0)) (av σ t.obj).length
 ·refine gs ?_
  rw [Bool.not_false];refine gs ?_;refine fc (e := e) (p := p) nx (vp b) { t with at' := 7 } bA h3 fun H9 h9 => ?_;exact cP (σ' := gP σ t) (t' := { t with at' := 7 }) (v := (vp b)) (n := bA) (by simp only [ai, hat, il, hf]; rfl) (bZ hb) rfl hl h9.to
 ·refine gs ?_
  rw [Bool.not_true];refine gs ?_;refine bh h3 ae rfl rfl fun H4 h4 => ?_;refine fc (e := e) (p := p) nx (vp b) { t with at' := 18, mark := now } en h4 fun H9 h9 => ?_;exact cP (σ' := gP σ t) (t' := { t with at' := 18, mark := now }) (v := (vp b)) (n := en) (by simp only [ai, hat, il, hf]; rfl) (bZ hb) rfl hl h9.to
theorem C3 (S : SOk σ) (T : eM σ t) (hat : t.at' = 18) : Sp en [vp e, vi now] (eP e p rp σ t) (fun _ : Unit => cX (ai σ t now)) (fun _ => eQ e p rp (ai σ t now)) := by
 have hN : σ.μ.N < 1099511627000 := by have := S.N; omega
 refine aW fun R H h => ?_;obtain ⟨nx, rv, g, hv, rfl, hl, _, h0⟩ := cM h;obtain ⟨b, hb, rfl⟩ := hv (by omega);have ho := T.obj (.inl (by omega));refine aZ (fun r => z4 _ _ H) ?_;refine bk h0 fun b1 H1 h1 => ?_;refine ar h1 ae rfl ?_;refine ar h1 ae rfl ?_;refine af h1 (Be p g σ t.who S.N) fun _ H2 h2 => ?_;refine bn ae ?_;refine aP h2 rfl ?_;refine aG h1 h2 (by rfl) ?_
 by_cases hw : σ.μ.V (2, 0, 0) = t.q
 ·refine aa (IJ (show ((σ.μ.V (2, 0, 0) : Nat) : Int) = (t.q : Int) by omega)) ?_
  refine gs ?_;refine ar h2 ae rfl ?_;have k2 := bG (p := p) (rp := g.rp) (σ := l5 σ t) (R := eB e p nx (vp b) t * (blk b1 (.cells false [vi 0, .slice none 0 0, vi 0, vw 0]) * R)) g rfl hl h2.to;refine nL k2 (wX e p g.rp (l5 σ t) nx (vp b) t t.mark 9 (by have := S.pts; show σ.pts.length < _; omega)) fun H9 h9 => ?_;exact z5 (σ' := (l5 σ t).note t.mark t.who 9) (t' := { t with code := 9 }) (by simp only [ai, hat]; rw [if_pos hw]) rfl h9.to
 ·refine aa (acL (show ¬ ((σ.μ.V (2, 0, 0) : Nat) : Int) = (t.q : Int) by omega)) ?_
  refine gs ?_;refine fc (e := e) (p := p) nx (vp b) { t with at' := 7 } bA h2 fun H9 h9 => ?_;exact cP (σ' := l5 σ t) (t' := { t with at' := 7 }) (v := (vp b)) (n := bA) (by simp only [ai, hat]; rw [if_neg hw]) (bZ hb) rfl hl h9.to
def eL (σ : aE) (t : Tk) : aE × Tk × Bool :=
 (bR σ t, { aC σ t with at' := if (aC σ t).found = true then 6 else if cT σ (aC σ t) = true then 3 else 2 }, false)
theorem El (S : SOk σ) (T : eM σ t) (hat : t.at' = 0 ∨ t.at' = 2) : Sp iA [vp e, vi now] (eP e p rp σ t) (fun _ : Unit => cX (eL σ t)) (fun _ => eQ e p rp (eL σ t)) := by
 have hN : σ.μ.N < 1099511627000 := by have := S.N; omega
 refine aW fun R H h => ?_;obtain ⟨nx, rv, g, hv, rfl, hl, _, h0⟩ := cM h;have hi := T.i (by omega) (by omega);refine aZ (fun r => Kg _ _ H) ?_;refine bk h0 fun b1 H1 h1 => ?_;refine af h1 (No e p g σ nx rv t S hi) fun _ H2 h2 => ?_;refine ag (Cy _ _ _ _ H2) ?_;refine ar h2 ae rfl ?_;cases hf : (aC σ t).found
 ·refine gs ?_
  cases hla : cT σ (aC σ t)
  ·refine gs ?_
   refine ag (Cz _ _ _ H2) ?_;refine fc (e := e) (p := p) nx rv { aC σ t with at' := 2 } iA h2 fun H9 h9 => ?_;exact cP (σ' := bR σ t) (t' := { aC σ t with at' := 2 }) (v := rv) (n := iA) (by simp only [eL, hf, hla]; rfl) (f9 (by simp)) rfl hl h9.to
  ·refine gs ?_
   refine fc (e := e) (p := p) nx rv { aC σ t with at' := 3 } cr h2 fun H9 h9 => ?_;exact cP (σ' := bR σ t) (t' := { aC σ t with at' := 3 }) (v := rv) (n := cr) (by simp only [eL, hf, hla]; rfl) (f9 (by simp)) rfl hl h9.to
 ·refine gs ?_
  refine fc (e := e) (p := p) nx rv { aC σ t with at' := 6 } fj h2 fun H9 h9 => ?_;exact cP (σ' := bR σ t) (t' := { aC σ t with at' := 6 }) (v := rv) (n := fj) (by simp only [eL, hf]; rfl) (f9 (by simp)) rfl hl h9.to
theorem Jj (S : SOk σ) (T : eM σ t) (hat : t.at' = 4) : Sp dh [vp e, vi now] (eP e p rp σ t) (fun _ : Unit => cX (ai σ t now)) (fun _ => eQ e p rp (ai σ t now)) := by
 have hN : σ.μ.N < 1099511627000 := by have := S.N; omega
 refine aW fun R H h => ?_;obtain ⟨nx, rv, g, hv, rfl, hl, _, h0⟩ := cM h;have hi := T.i (by omega) (by omega);refine aZ (fun r => EJ _ _ H) ?_;refine bk h0 fun b1 H1 h1 => ?_;refine af h1 (No e p g σ nx rv t S hi) fun _ H2 h2 => ?_;refine ag (xH _ _ _ _ _ H2) ?_;refine ar h2 ae rfl ?_;cases hf : (aC σ t).found
 ·refine gs ?_
  cases hla : cT σ (aC σ t)
  ·refine gs ?_
   refine ag (xI _ _ _ H2) ?_;refine fc (e := e) (p := p) nx rv (aC σ t) dh h2 fun H9 h9 => ?_;exact cP (σ' := bR σ t) (t' := (aC σ t)) (v := rv) (n := dh) (by simp only [ai, hat, hf, hla]; rfl) (f9 (show t.at' < 7 by omega)) (by show ye t.at' = _; rw [hat]; rfl) hl h9.to
  ·refine gs ?_
   have k2 := bG (p := p) (rp := g.rp) (σ := bR σ t) (R := eB e p nx rv (aC σ t) * (blk b1 (.cells false [vi 0, .slice none 0 0, vi 0, vw 0]) * R)) g rfl hl h2.to;refine af k2 (s7 e p g.rp (bR σ t) nx rv (aC σ t) now 5 (by have := S.pts; show σ.pts.length < _; omega)) fun _ H3 h3 => ?_;refine fc (e := e) (p := p) nx rv { aC σ t with at' := 5, code := 5 } di h3 fun H9 h9 => ?_;exact EL (σ' := (bR σ t).note now (aC σ t).who 5) (t' := { aC σ t with at' := 5, code := 5 }) (v := rv) (n := di) (by simp only [ai, hat, hf, hla]; rfl) (f9 (by simp)) rfl h9.to
 ·refine gs ?_
  refine fc (e := e) (p := p) nx rv { aC σ t with at' := 5 } di h2 fun H9 h9 => ?_;exact cP (σ' := bR σ t) (t' := { aC σ t with at' := 5 }) (v := rv) (n := di) (by simp only [ai, hat, hf]; rfl) (f9 (by simp)) rfl hl h9.to
theorem MJ (S : SOk σ) (T : eM σ t) (hat : t.at' = 0) : Sp kB [vp e, vi now] (eP e p rp σ t) (fun _ : Unit => cX (ai σ t now)) (fun _ => eQ e p rp (ai σ t now)) := by
 have hN : σ.μ.N < 1099511627000 := by have := S.N; omega
 refine aU (HX _ _) fun R H h => ?_;refine bk h fun b H1 h1 => ?_;refine ag (zY _ _ _ _ H1) ?_;obtain ⟨nx, rv, g, hv, rfl, hl, _, k1⟩ := cM (e := e) (p := p) (rp := rp) (σ := σ) (t := t) (R := blk b (.cells false [vi 0, .slice none 0 0, vi 0, vw 0]) * R) (H := H1) h1.to
 have fin : ∀ code, dA t.x = some code → wp ((FF gz [vp e, vi now, vi code] H1).bind fun r25 =>
  (ah r25.1 0).bind fun v26 =>
  (ah r25.1 1).bind fun v27 =>
  (cZ 4 (vp b) v26 r25.2).bind fun H28 =>
  (ax 4 (vp b) H28).bind fun v29 => some (Value.tuple #[v29, v27], H28)) fun v' H' => ∃ x_1 : Unit, v' = cX (ai σ t now) ∧ ac (eQ e p g.rp (ai σ t now) * R) H' := by
  intro code hx;have k2 := bG (p := p) (rp := g.rp) (σ := σ) (R := eB e p nx rv t * (blk b (.cells false [vi 0, .slice none 0 0, vi 0, vw 0]) * R)) g rfl hl k1.to;refine nL k2 (wX e p g.rp σ nx rv t now code (by have := S.pts; omega)) fun H9 h9 => ?_;exact z5 (σ' := σ.note now t.who code) (t' := { t with code := code }) (by simp only [ai, hat, hx]) rfl h9.to
 have scan : dA t.x = none → wp (oB (vp e) (vi now) (vp b) (vb false) H1) fun v' H' => ∃ x_1 : Unit, v' = cX (ai σ t now) ∧ ac (eQ e p g.rp (ai σ t now) * R) H' := by
  intro hx
  have hs : ai σ t now = eL σ t := by simp only [ai, hat, hx, eL]
  rw [hs];refine ag (zZ _ _ _ _ H1) ?_;exact nL h1 (El e p g.rp σ t now S T (.inl hat)) fun H9 h9 => ⟨(), rfl, h9.to⟩
 refine ar k1 (ik (cm (cm cj))) rfl ?_
 by_cases ha : t.x.a < 1
 ·refine aa (cy ha) ?_
  refine gs ?_;exact fin 3 (by rw [dA, if_pos (.inl ha)])
 ·refine aa (bF ha) ?_
  refine gs ?_;refine ar k1 (ik (cm (cm cj))) rfl ?_;refine gs ?_
  by_cases ha2 : 65536 < t.x.a
  ·refine aa (w6 ha2) ?_
   refine gs ?_;exact fin 3 (by rw [dA, if_pos (.inr ha2)])
  ·refine aa (gO ha2) ?_
   refine gs ?_;refine ar k1 (ik (cm (cm cj))) rfl ?_
   by_cases hf : t.x.flow < 0
   ·refine aa (cy hf) ?_
    refine gs ?_;exact fin 5 (by rw [dA, if_neg (by omega), if_pos (.inl hf)])
   ·refine aa (bF hf) ?_
    refine gs ?_;refine ar k1 (ik (cm (cm cj))) rfl ?_;refine gs ?_
    by_cases hf2 : 1048576 < t.x.flow
    ·refine aa (w6 hf2) ?_
     refine gs ?_;exact fin 5 (by rw [dA, if_neg (by omega), if_pos (.inr hf2)])
    ·refine aa (gO hf2) ?_
     refine gs ?_;exact scan (by rw [dA, if_neg (by omega), if_neg (by omega)])
theorem Va (S : SOk σ) (T : eM σ t) : Sp vM [vp e, vi now] (eP e p rp σ t) (fun _ : Unit => cX (ai σ t now)) (fun _ => eQ e p rp (ai σ t now)) := by
 refine aU (J6 _ _) fun R H h => ?_;refine bk h fun b H1 h1 => ?_;obtain ⟨rv, hv, k1⟩ := Nm (e := e) (p := p) (rp := rp) (σ := σ) (t := t) (R := blk b (.cells false [vi 0, .slice none 0 0, vi 0, vw 0]) * R) (H := H1) h1.to;refine ar k1 ae rfl ?_;refine ag (show (cI (.func (.func (ye t.at')) #[vp e] #[]) [vi now]).bind _ = _ from rfl) ?_
 have hs : Sp (ye t.at') [vp e, vi now] (eP e p rp σ t) (fun _ : Unit => cX (ai σ t now)) (fun _ => eQ e p rp (ai σ t now)) := by
  rcases T.ats with hat | hat | hat | hat | hat | hat | hat | hat | hat | hat | hat | hat | hat | hat | hat | hat | hat | hat | hat | hat | hat | hat | hat | hat <;> rw [show ye t.at' = _ from by rw [hat]]
  ·exact MJ e p rp σ t now S T hat
  ·have h := El e p rp σ t now S T (.inr hat)
   have hs : ai σ t now = eL σ t := by simp only [ai, hat, eL]
   rw [hs]; exact h
  ·exact TX e p rp σ t now S T hat
  ·exact Jj e p rp σ t now S T hat
  ·exact Jk e p rp σ t now S T hat
  ·exact TY e p rp σ t now S T hat
  ·exact T5 e p rp σ t now S T hat
  ·exact TU e p rp σ t now S T hat
  ·exact MI e p rp σ t now S T hat
  ·exact YE e p rp σ t now S T hat
  ·exact T0 e p rp σ t now S T hat
  ·exact MH e p rp σ t now S T hat
  ·exact T4 e p rp σ t now S T hat
  ·exact TT e p rp σ t now S T hat
  ·exact YF e p rp σ t now S T hat
  ·exact B0 e p rp σ t now S T hat
  ·exact BZ e p rp σ t now S T hat
  ·exact C3 e p rp σ t now S T hat
  ·exact TQ e p rp σ t now S T hat
  ·exact MK e p rp σ t now S T hat
  ·exact Hf e p rp σ t now S T hat
  ·exact TW e p rp σ t now S T hat
  ·exact TZ e p rp σ t now S T hat
  ·exact YD e p rp σ t now S T hat
 exact nL h1 hs fun H9 h9 => ⟨(), rfl, h9.to⟩
end
def adU (x : Cl) : Prop := x.flow < 0 ∨ 1048576 < x.flow
instance (x : Cl) : Decidable (adU x) := inferInstanceAs (Decidable (_ ∨ _))
def afJ (x : Cl) : Option Int :=
 if x.op = 1 then (if adU x then some 1 else if x.a < 1 ∨ 65536 < x.a then some 4 else if x.b < 1 ∨ 8 < x.b then some 1 else none)
 else if adU x then some 5 else none
def afO (σ : aE) (t : Tk) : Tk :=
 let v := σ.μ.V (10, t.s, (t.i : Int))
 { t with i := if tH v t.x.flow = true then t.i else t.i + 1, found := tH v t.x.flow, obj := if tH v t.x.flow = true then v % 4294967296 else t.obj, mark := if v = 0 ∧ t.mark < 0 then (t.i : Int) else t.mark }
abbrev ae9 (σ : aE) (t : Tk) : aE := σ.mem (σ.μ.swp t.who (8, t.s, 0) 0 1)
abbrev Hi (σ : aE) (t : Tk) : aE := σ.mem ((σ.μ.acc t.who 2 (8, t.s, 0)).put (8, t.s, 0) 0)
def Xo (σ : aE) (t : Tk) : aE × Tk × Bool := (ae9 σ t, { t with at' := if σ.μ.V (8, t.s, 0) = 0 then 3 else 2 }, false)
abbrev XI (σ : aE) (t : Tk) : Ob := ⟨t.x.flow, t.x.b, max (σ.c.un / t.x.a.toNat) 1⟩
def afK (σ : aE) (t : Tk) (now : Int) : aE × Tk × Bool :=
 match t.at' with
 | 4 => (σ.make t.who (XI σ t), { t with obj := σ.obs.length, at' := 5 }, false)
 | 5 => ((σ.mem ((σ.μ.acc t.who 2 (10, t.s, t.mark)).put (10, t.s, t.mark) (dn t.x.flow t.obj))).note now t.who 0, { t with at' := 6, code := 0 }, false)
 | _ => (Hi σ t, t, true)
def ae2 (σ : aE) (t : Tk) (now : Int) : aE × Tk × Bool :=
 match t.at' with
 | 4 => let w := σ.μ.V (11, (t.obj : Int), 0)
  (jA σ t, { t with w := w, at' := if aL w = 0 then 8 else 5 }, false)
 | 5 => let q := σ.μ.V (2, 0, 0)
  (l5 σ t, { t with q := q, at' := if q % 2 = 1 then 4 else 6 }, false)
 | 6 => let w := σ.μ.V (11, (t.obj : Int), 0)
  (jA σ t, { t with w := w, mark := now, at' := if aL w = 0 then 8 else 7 }, false)
 | 7 => if σ.μ.V (2, 0, 0) = t.q then ((l5 σ t).note t.mark t.who 8, { t with at' := 10, code := 8 }, false) else (l5 σ t, { t with at' := 4 }, false)
 | 8 => let o := aX t.w 2
  let σ1 := σ.mem (σ.μ.turn t.who t.obj t.w o)
  if d5 σ.μ t.obj t.w o = true then (σ1.note now t.who 0, { t with at' := 9, code := 0 }, false) else (σ1, { t with at' := 4 }, false)
 | 9 => (σ.mem ((σ.μ.acc t.who 2 (10, t.s, (t.i : Int))).put (10, t.s, (t.i : Int)) 0), { t with at' := 10 }, false)
 | _ => (Hi σ t, t, true)
def P4 (σ : aE) (t : Tk) (now : Int) : aE × Tk × Bool :=
 match t.at' with
 | 0 => match afJ t.x with
  | some e => (σ.note now t.who e, { t with code := e }, true)
  | none => Xo σ t
 | 2 => Xo σ t
 | 3 => let t1 := afO σ t
  if t1.found = true then (if t.x.op = 1 then ((bR σ t).note now t.who 6, { t1 with at' := 6, code := 6 }, false) else (bR σ t, { t1 with at' := 4 }, false))
  else if cT σ t1 = true then
   (if t.x.op = 1 then (if t1.mark < 0 then ((bR σ t).note now t.who 7, { t1 with at' := 6, code := 7 }, false) else (bR σ t, { t1 with at' := 4 }, false))
   else ((bR σ t).note now t.who 5, { t1 with at' := 10, code := 5 }, false))
  else (bR σ t, t1, false)
 | _ => if t.x.op = 1 then afK σ t now else ae2 σ t now
structure ROk (σ : aE) (t : Tk) : Prop where
 s : t.s = (t.x.flow.tmod σ.c.sh + σ.c.sh).tmod σ.c.sh
 i : t.at' < 4 → (t.i : Int) < σ.c.sl
 x : t.at' ≠ 0 → afJ t.x = none
 ats : t.at' = 0 ∨ t.at' = 2 ∨ t.at' = 3 ∨ 4 ≤ t.at' ∧ t.at' < 7 ∨ t.x.op ≠ 1 ∧ 7 ≤ t.at' ∧ t.at' < 11
 mark : t.at' = 4 ∨ t.at' = 5 → t.x.op = 1 → 0 ≤ t.mark
 obj : t.at' = 5 ∧ t.x.op = 1 ∨ 4 ≤ t.at' ∧ t.at' < 10 ∧ t.x.op ≠ 1 → t.obj < σ.obs.length
 w : t.w < 18446744073709551616
structure Ek where
 I : Nat
 free : Int
 at' : Int
 obj : Nat
 rv : Value
 w : Nat
 q : Nat
 nw : Int
 told : Int
section
variable {e p : Nat} {rp : List Nat} {g : PIds} {σ σ' : aE} {t t' : Tk} {R P : SP} {H : AH} {r : aE × Tk × Bool} {v : Value} {n : Nat} {c : Int} {k : Ek}
end
section
variable (e p : Nat) (rp : List Nat) (g : PIds) (σ : aE) (t : Tk) (k : Ek) (nx : Value) (now : Int)
end
section
variable (e p : Nat) (rp : List Nat) (σ : aE) (t : Tk) (now : Int)
abbrev Tk.newR (c : gF) (who : Int) (x : Cl) : Tk := ⟨who, x, (x.flow.tmod c.sh + c.sh).tmod c.sh, 0, 0, 0, false, 0, 0, -1, 0, 0⟩
end
theorem t5 (p : Nat) (g : XIds) (σ : aE) (o b : Nat) (hl : g.rp.length = σ.obs.length) (ho : o < σ.obs.length) (hb : g.rp[o]? = some b) :
 ∃ R, (∀ N, σ.μ.N = N → aw p g σ = cn g.m o b (av σ o) * bi g.m σ.μ * (gc g.ib g.m σ.c.sh σ.nx N * R)) ∧ ∀ μ' cs', aw p g { σ with μ := μ', obs := σ.obs.modify o fun q => (q.1, cs') } = cn g.m o b cs' * bi g.m μ' * (gc g.ib g.m σ.c.sh σ.nx μ'.N * R) := by
 have hz : o < (g.rp.zip (σ.obs.map fun x => x.2)).length := by simp; omega
 obtain ⟨R, e1, e2⟩ := G5 g.m (ps := g.rp.zip (σ.obs.map fun x => x.2)) (j := 0) hz
 have hrp : g.rp[o]'(by omega) = b := by
  rw [bu (by omega)] at hb;exact eu hb
 have e3 : (g.rp.zip (σ.obs.map fun x => x.2))[o] = (b, av σ o) := by
  rw [List.getElem_zip, sW ho, List.getElem_map, hrp]
 rw [e3] at e1;rw [Nat.zero_add] at e1 e2
 refine ⟨blk p (.cells false [vi σ.c.sh, vi σ.c.sl, vi σ.c.wk, vi σ.c.wd, vu σ.c.un, vp g.m, vp g.ib, vp g.tb, vp g.po, vp g.co, g.ov, g.rv, g.wv, g.pv]) * (tab g.tb g.m σ.c.sh.toNat σ.c.sl.toNat * (ts 3 qW g.ov (σ.obs.map fun x => x.1) * (ts 1 nQ g.rv g.rp * (R *
  (ts 1 bH g.wv (dN g.ws) * ts 7 Pt.cells g.pv (bq σ.pts)))))), fun N hN => ?_, fun μ' cs' => ?_⟩
 ·subst hN
  unfold aw;rw [e1]
  ac_rfl
 ·unfold aw
  dsimp only
  have e4 : (σ.obs.modify o fun q => (q.1, cs')).map (fun x => x.1) = σ.obs.map fun x => x.1 := by
   apply List.ext_getElem?;intro j;simp only [vH, List.getElem?_modify]
   cases σ.obs[j]? with
   | none => rfl
   | some q => simp only [dx]; split <;> rfl
  have e5 : g.rp.zip ((σ.obs.modify o fun q => (q.1, cs')).map fun x => x.2) = (g.rp.zip (σ.obs.map fun x => x.2)).set o (b, cs') := by
   apply List.ext_getElem?;intro j;rw [List.getElem?_set]
   by_cases hj : o = j
   ·subst hj
    rw [if_pos rfl, if_pos hz];exact List.getElem?_zip_eq_some.2 ⟨hb, by simp [List.getElem?_modify, bu ho]⟩
   ·rw [if_neg hj]
    have : (List.map (fun x => x.2) (σ.obs.modify o fun q => (q.1, cs')))[j]? = (σ.obs.map fun x => x.2)[j]? := by
     simp only [vH, List.getElem?_modify]
     cases σ.obs[j]? with
     | none => rfl
     | some q => show some (if o = j then (q.1, cs') else q).2 = some q.2; rw [if_neg hj]
    simp only [List.zip, List.getElem?_zipWith, this]
  rw [e4, e5, e2]
  ac_rfl
section
variable {f : Nat} {args : List Value} {v : Unit → Value} {p : Nat} {g : XIds} {σ : aE} {o b : Nat}
theorem Ex {μ' : Mu} {cs' : List Pk} (hN : σ.μ.N ≤ μ'.N) (hl : g.rp.length = σ.obs.length) (ho : o < σ.obs.length) (hb : g.rp[o]? = some b)
 (s : Sp f args (cn g.m o b (av σ o) * bi g.m σ.μ) v (fun _ => cn g.m o b cs' * bi g.m μ')) :
 Sp f args (aw p g σ) v (fun _ => aw p g { σ with μ := μ', obs := σ.obs.modify o fun q => (q.1, cs') }) := by
 obtain ⟨R', e1, e2⟩ := t5 p g σ o b hl ho hb;intro R H h;rw [e1 _ rfl, ak] at h;obtain ⟨x, H', h1, h2⟩ := s _ _ h;refine ⟨x, H', h1, ?_⟩;rw [e2, ak];have h3 := np hN (ac.fr (A := gc g.ib g.m σ.c.sh σ.nx σ.μ.N) h2);exact h3.to
theorem l8 {μ' : Mu} (hN : σ.μ.N ≤ μ'.N) (hl : g.rp.length = σ.obs.length) (ho : o < σ.obs.length) (hb : g.rp[o]? = some b)
 (s : Sp f args (cn g.m o b (av σ o) * bi g.m σ.μ) v (fun _ => cn g.m o b (av σ o) * bi g.m μ')) :
 Sp f args (aw p g σ) v (fun _ => aw p g (σ.mem μ')) := by
 have := Ex (p := p) hN hl ho hb s;rw [IK ho] at this;exact this
theorem Hu (hl : g.rp.length = σ.obs.length) (ho : o < σ.obs.length) (hb : g.rp[o]? = some b)
 (s : Sp f args (cn g.m o b (av σ o)) v (fun _ => cn g.m o b (av σ o))) :
 Sp f args (aw p g σ) v (fun _ => aw p g σ) := by
 obtain ⟨R', e1, _⟩ := t5 p g σ o b hl ho hb;intro R H h;rw [e1 _ rfl, ak, ak] at h;obtain ⟨x, H', h1, h2⟩ := s _ _ h;exact ⟨x, H', h1, by rw [e1 _ rfl, ak, ak]; exact h2⟩
theorem JO {μ' : Mu} (hN : σ.μ.N ≤ μ'.N) (s : Sp f args (tab g.tb g.m σ.c.sh.toNat σ.c.sl.toNat * bi g.m σ.μ) v (fun _ => tab g.tb g.m σ.c.sh.toNat σ.c.sl.toNat * bi g.m μ')) :
 Sp f args (aw p g σ) v (fun _ => aw p g (σ.mem μ')) := by
 intro R H h;unfold aw at h;obtain ⟨x, H', h1, h2⟩ := s _ H (ac.fr (A := tab g.tb g.m σ.c.sh.toNat σ.c.sl.toNat * bi g.m σ.μ) h);refine ⟨x, H', h1, ?_⟩;unfold aw;have h3 := np hN (ac.fr (A := gc g.ib g.m σ.c.sh σ.nx σ.μ.N) h2);exact h3.to
theorem M0 (s : Sp f args (tab g.tb g.m σ.c.sh.toNat σ.c.sl.toNat) v (fun _ => tab g.tb g.m σ.c.sh.toNat σ.c.sl.toNat)) :
 Sp f args (aw p g σ) v (fun _ => aw p g σ) := by
 intro R H h;unfold aw at h;obtain ⟨x, H', h1, h2⟩ := s _ H (ac.fr (A := tab g.tb g.m σ.c.sh.toNat σ.c.sl.toNat) h);refine ⟨x, H', h1, ?_⟩;unfold aw;exact h2.to
theorem UA {μ' : Mu} (hN : σ.μ.N ≤ μ'.N) (s : Sp f args (bi g.m σ.μ) v (fun _ => bi g.m μ')) : Sp f args (aw p g σ) v (fun _ => aw p g (σ.mem μ')) := by
 intro R H h;unfold aw at h;obtain ⟨x, H', h1, h2⟩ := s _ H (ac.fr (A := bi g.m σ.μ) h);refine ⟨x, H', h1, ?_⟩;unfold aw;have h3 := np hN (ac.fr (A := gc g.ib g.m σ.c.sh σ.nx σ.μ.N) h2);exact h3.to
theorem u6 {μ' : Mu} {nx' : Int → Option Nat} {L : Nat} (hL : L ≤ μ'.N) (s : Sp f args (gc g.ib g.m σ.c.sh σ.nx σ.μ.N * bi g.m σ.μ) v (fun _ => gc g.ib g.m σ.c.sh nx' L * bi g.m μ')) :
 Sp f args (aw p g σ) v (fun _ => aw p g { σ with μ := μ', nx := nx' }) := by
 intro R H h;unfold aw at h;obtain ⟨x, H', h1, h2⟩ := s _ H (ac.fr (A := gc g.ib g.m σ.c.sh σ.nx σ.μ.N * bi g.m σ.μ) h);refine ⟨x, H', h1, ?_⟩;unfold aw;have h3 := np hL (ac.fr (A := gc g.ib g.m σ.c.sh nx' L) h2);exact h3.to
end
instance adW (p : Nat) (g : XIds) (σ : aE) : Hs (aw p g σ) p (.cells false [vi σ.c.sh, vi σ.c.sl, vi σ.c.wk, vi σ.c.wd, vu σ.c.un, vp g.m, vp g.ib, vp g.tb, vp g.po, vp g.co, g.ov, g.rv, g.wv, g.pv]) := ⟨by
 intro H h;unfold aw at h
 exact h.left.get⟩
theorem Et (m i rp : Nat) (cs : List Pk) (μ : Mu) (who : Int) (n : Nat) (x : Pk) (h0 : 1 ≤ cs.length ∧ cs.length < 1000) (hE : μ.N < 1099511627000) :
 Sp kK [vp rp, vi who, vu n, .agg (Pk.cells x).toArray] (cn m i rp cs * bi m μ) (fun _ : Unit => .tuple #[]) (fun _ => cn m i rp (cs.set (n % cs.length) x) * bi m (μ.acc who 6 (16, (i : Int), ((n % cs.length : Nat) : Int)))) := by
 have hlt : n % cs.length < cs.length := Nat.mod_lt _ (by omega);refine aU (yN _ _ _ _) fun R H h => ?_;refine aV h fun b H1 h1 => ?_;obtain ⟨cv, k1⟩ := d4 (m := m) (i := i) (rp := rp) (cs := cs) (R := bi m μ * (blk b (.cells false (Pk.cells x)) * R)) (H := H1) h1.to;refine bn ae ?_;refine aP k1 rfl ?_;refine bn ae ?_;refine aP k1 rfl ?_
 have cell : ∀ cv, Sp dc [vp rp, vu n] (blk rp (.cells false [vp m, vi i, vi cs.length, cv])) (fun _ : Unit => vi ((n % cs.length : Nat) : Int)) (fun _ => blk rp (.cells false [vp m, vi i, vi cs.length, cv])) := by
  intro cv;refine aU (mS _ _) fun R H h => ?_;refine ar h ae rfl ?_;refine aa (de (by omega) (by omega)) ?_;rw [show ((cs.length : Nat) : Int).toNat = cs.length from tI _];refine aa (ir (by omega)) ?_;refine aa (gK (by omega)) ?_;exact am ⟨(), rfl, h⟩
 refine af k1 (cell cv) fun _ H2 k2 => ?_;refine aG k2 k1 (by rfl) ?_;refine aG k2 k1 (by rfl) ?_;refine af k2 (dm 16 (i : Int) ((n % cs.length : Nat) : Int)) fun _ H3 k3 => ?_;refine aG k3 k1 (by rfl) ?_;refine af k3 ((Uj m μ who 6 (16, (i : Int), ((n % cs.length : Nat) : Int)) (by omega)).imp fun _ R H h => tQ (N' := μ.N + 2) (by simp) h) fun _ H4 k4 => ?_;refine bn ae ?_;refine aP k4 rfl ?_;refine af k4 (cell cv) fun _ H5 k5 => ?_;refine aG k5 k4 (by rfl) ?_;refine aT k5 ?_;refine dw k4 k5 rfl ?_;refine Er (s := cv) (l := cs) (i := n % cs.length) x k5 hlt (.inl ⟨rfl, rfl⟩) rfl (by omega) rfl rfl fun H6 k6 => ?_;refine am ⟨(), rfl, ?_⟩;have el : (cs.set (n % cs.length) x).length = cs.length := Gj;have h6 := lF (m := m) (i := i) (rp := rp) (cs := cs.set (n % cs.length) x) (cv := cv) (R := bi m (μ.acc who 6 (16, (i : Int), ((n % cs.length : Nat) : Int))) * R) (H := H6) (by rw [el]; exact k6.to);exact h6.to
section
variable (p : Nat) (g : XIds) (σ : aE)
theorem MV (hl : g.rp.length = σ.obs.length) (who : Int) (o : Nat) (ho : o < σ.obs.length) (hN : σ.μ.N < 800000) : Sp jq [vp p, vi who, vi o] (aw p g σ) (fun v : Value => v) (fun _ => aw p g (σ.mem (σ.μ.acc who 5 (13, (o : Int), 0)))) := by
 refine aU (wu _ _ _) fun R H h => ?_;refine bk h fun b H1 h1 => ?_;refine aa (bF (by omega)) ?_;refine gs ?_;refine ar h1 ae rfl ?_;refine gs ?_;have h2 := h1;unfold aw at h2;refine fC (s := g.ov) (enc := qW) (l := σ.obs.map fun x : Ob × List Pk => x.1) h2 ?_;rw [qK];refine gs ?_;refine aa (fT (by omega)) ?_;refine gs ?_;refine bn ae ?_;refine aP h1 rfl ?_;refine af h1 (dm 13 (o : Int) 0) fun _ H3 h3 => ?_;refine aG h3 h1 (by rfl) ?_;refine af h3 (UA (p := p) (g := g) (σ := σ) (μ' := σ.μ.acc who 5 (13, (o : Int), 0)) (by simp) ((Uj g.m σ.μ who 5 (13, (o : Int), 0) (by omega)).imp fun _ R H h => tQ (N' := σ.μ.N + 2) (by simp) h)) fun _ H4 h4 => ?_;refine ar h4 ae rfl ?_;have h5 := h4;unfold aw at h5;refine Ce (enc := qW) (l := σ.obs.map fun x : Ob × List Pk => x.1) h5 (by rw [qK]; exact ho) ?_;refine fW h4 rfl rfl fun H6 h6 => ?_;refine aT h6 ?_;exact am ⟨_, rfl, h6.to⟩
theorem Cn (who : Int) (hN : σ.μ.N < 800000) : Sp f2 [vp p, vi who] (aw p g σ) (fun _ : Unit => vu (σ.μ.V (2, 0, 0))) (fun _ => aw p g (σ.mem (σ.μ.acc who 1 (2, 0, 0)))) := by
 refine aU (ww _ _) fun R H h => ?_;refine bn ae ?_;refine aP h rfl ?_;refine af h (dm 2 0 0) fun _ H1 h1 => ?_;refine aG h1 h (by rfl) ?_;refine af h1 (UA (p := p) (g := g) (σ := σ) (μ' := σ.μ.acc who 1 (2, 0, 0)) (by simp) (pG g.m σ.μ who (2, 0, 0) (by omega))) fun _ H2 h2 => ?_;exact am ⟨(), rfl, h2.to⟩
theorem u2 (t m sh sl : Nat) (hs : 1 ≤ sh ∧ sh ≤ 4) (flow : Int) : Sp eI [vp t, vi flow] (tab t m sh sl) (fun _ : Unit => vi ((flow.tmod sh + sh).tmod sh)) (fun _ => tab t m sh sl) := by
 have q := Qa flow (n := sh) (by omega);refine aU (sx _ _) fun R H h => ?_;unfold tab at h ⊢;refine ar h ae rfl ?_;refine aa (jw (by omega)) ?_;refine ag (oq _ _ _ H) ?_
 by_cases hn : flow.tmod sh < 0
 ·refine aa (cy hn) ?_
  refine gs ?_;refine ar h ae rfl ?_;refine aa (aJ (by omega) (by omega)) ?_;refine ag (io _ _ H) ?_;refine am ⟨(), ?_, h⟩;have : (flow.tmod sh + sh).tmod sh = flow.tmod sh + sh := Int.tmod_eq_of_lt (by omega) (by omega);rw [this]
 ·refine aa (bF hn) ?_
  refine gs ?_;refine ag (io _ _ H) ?_;refine am ⟨(), ?_, h⟩
  have : (flow.tmod sh + sh).tmod sh = flow.tmod sh := by
   rw [aaP (by omega), Int.add_emod_right];exact Int.emod_eq_of_lt (by omega) (by omega)
  rw [this]
end
theorem t7 (w pl k : Int) : ∀ ws : List (Int × Int), fA (ws ++ [(w, pl)]) k = if k = w then pl else fA ws k := by
 intro ws
 induction ws with
 | nil =>
  simp only [List.nil_append, fA, List.any_nil]
  by_cases e : k = w
  ·subst e; simp
  ·have : ¬ w = k := fun q => e q.symm
   simp [e, this]
 | cons p ws ih =>
  simp only [List.cons_append, fA, ih, List.any_append, List.any_cons, List.any_nil, Bool.or_false]
  by_cases e : k = w
  ·subst e; simp
  ·have h1 : ((w == k) : Bool) = false := by simpa using fun q => e q.symm
   rw [h1, Bool.or_false];simp only [if_neg e]
theorem GI (ws : List (Int × Int)) (k : Int) (j : Nat) (hj : j < ws.length) : fA (ws.take (j + 1)) k = if k = ws[j].1 then ws[j].2 else fA (ws.take j) k := by
 rw [List.take_succ_eq_append_getElem hj];exact t7 ws[j].1 ws[j].2 k (ws.take j)
theorem nz (ws : List (Int × Int)) : (dN ws).length = 2 * ws.length := by
 unfold dN
 induction ws with
 | nil => rfl
 | cons p ws ih => rw [List.flatMap_cons, mH, ih]; simp; omega
theorem S6 : ∀ (ws : List (Int × Int)) (j : Nat) (hj : j < ws.length), (dN ws)[2 * j]? = some ws[j].1 ∧ (dN ws)[2 * j + 1]? = some ws[j].2 := by
 intro ws
 induction ws with
 | nil => intro j hj; simp at hj
 | cons p ws ih =>
  intro j hj
  cases j with
  | zero => exact ⟨rfl, rfl⟩
  | succ j =>
   have h := ih j (by simpa using hj);have e : dN (p :: ws) = p.1 :: p.2 :: dN ws := rfl;rw [e, show 2 * (j + 1) = 2 * j + 2 from by omega];exact h
theorem Xb (x : Pt) : ∀ (l : List Pt) (k : Nat), k ≤ l.length → (∀ j p, k ≤ j → l[j]? = some p → x.step < p.step) → (∀ p, 0 < k → l[k - 1]? = some p → p.step ≤ x.step) → tJ x l = l.take k ++ x :: l.drop k := by
 intro l
 induction l with
 | nil => intro k hk _ _; simp at hk; subst hk; rfl
 | cons y l ih =>
  intro k hk h1 h2
  cases k with
  | zero =>
   have hy := h1 0 y (bm _) rfl
   have hno : ¬ (y.step ≤ x.step ∨ (l.any fun z => decide (z.step ≤ x.step)) = true) := by
    rintro (h | h)
    ·omega
    ·obtain ⟨z, hz, hzs⟩ := List.any_eq_true.1 h
     obtain ⟨j, hj⟩ := List.mem_iff_getElem?.1 hz;have := h1 (j + 1) z (by omega) (by simpa using hj)
     have hzs : z.step ≤ x.step := by simpa using hzs
     omega
   rw [tJ, if_neg hno]
   rfl
  | succ k =>
   have hyes : y.step ≤ x.step ∨ (l.any fun z => decide (z.step ≤ x.step)) = true := by
    cases k with
    | zero => exact .inl (h2 y (by omega) rfl)
    | succ k =>
     right
     have hkl : k < l.length := by simp at hk; omega
     rw [List.any_eq_true];refine ⟨l[k], AV hkl, ?_⟩;have := h2 l[k] (by omega) (by simp [hkl])
     simpa using this
   rw [tJ, if_pos hyes, ih k (by simpa using hk) (fun j p hj hp => h1 (j + 1) p (by omega) (by simpa using hp)) (fun p hk0 hp => h2 p (by omega) (by
    rw [show k + 1 - 1 = (k - 1) + 1 from by omega]; simpa using hp))]
   rfl
theorem HM (l : List Pt) (x : Pt) : bq (l ++ [x]) = tJ x (bq l) := by
 unfold bq;rw [List.foldl_append]; rfl
theorem SL (x : Pt) : ∀ l : List Pt, (tJ x l).length = l.length + 1 := by
 intro l
 induction l with
 | nil => rfl
 | cons y l ih => rw [tJ]; split <;> simp [ih]
theorem JY (l : List Pt) : (bq l).length = l.length := by
 have : ∀ (l acc : List Pt), (l.foldl (fun acc x => tJ x acc) acc).length = acc.length + l.length := by
  intro l
  induction l with
  | nil => intro acc; rfl
  | cons x l ih => intro acc; rw [List.foldl_cons, ih, SL]; simp; omega
 have h := this l []
 simpa [bq] using h
theorem Zv (e b : Nat) (he : 0 < e) (H : AH) : cO e b (.slice none 0 0) (.slice none 0 0) H = some (.slice none 0 0, H) := by
 unfold cO
 have : jI e (.slice none 0 0) H = some (0, []) := by simp [jI]
 rw [this];simp [he]
theorem YO {α : Type} {P R : SP} {H : AH} {e : Nat} {enc : α → List Value} {l : List α} {s : Value} (h : ac P H) [f : Ts P s α e enc l R] : s.cells.toList = [s] ∧ [s].all Value.oneCell' = true := by
 rcases jO h (enc := enc) (s := s) with ⟨rfl, _, _⟩ | ⟨bb, rfl, _⟩ <;> exact ⟨rfl, rfl⟩
theorem Jt {α : Type} {P R : SP} {H : AH} {e : Nat} {enc : α → List Value} {l : List α} {s : Value} {lo hi : Option Value} {a b : Nat} (h : ac P H) [f : Ts P s α e enc l R] [E : Enc enc e] (hlo : (lo = none ∧ a = 0) ∨ ∃ k, lo = some (.int k (a : Int)))
 (hhi : (hi = none ∧ b = l.length) ∨ ∃ k, hi = some (.int k (b : Int))) (h1 : a ≤ b) (h2 : b ≤ l.length) : ∃ s', dM e s lo hi = some s' ∧ Rd P s' e enc ((l.take b).drop a) := by
 haveI : Rd P s e enc l := by rw [f.eq]; infer_instance
 by_cases h0 : 0 < l.length
 ·exact Yi h hlo hhi h1 h2 h0
 ·have hl : l = [] := List.eq_nil_of_length_eq_zero (by omega)
  subst hl
  have hb0 : b = 0 := by simpa using h2
  subst hb0
  have ha0 : a = 0 := by omega
  subst ha0;have hpos := E.pos
  have rd0 : ∀ s', (∃ a c, s' = .slice a 0 c ∧ (a = none → c = 0) ∧ (∀ x, a = some x → ∃ b o, x = ⟨b, o, none⟩)) → Rd P s' e enc (([] : List α).take 0 |>.drop 0) := by
   rintro s' ⟨a, c, rfl, q1, q2⟩
   exact ⟨fun {H'} _ => ⟨by simp, .inl ⟨a, c, rfl, rfl, q1, q2⟩⟩⟩
  rcases jO h (enc := enc) (s := s) with ⟨rfl, _, _⟩ | ⟨bb, rfl, _⟩
  ·refine ⟨.slice none 0 0, ?_, rd0 _ ⟨none, 0, rfl, fun _ => rfl, fun x hx => (by cases hx)⟩⟩
   rcases hlo with ⟨rfl, _⟩ | ⟨k1, rfl⟩ <;> rcases hhi with ⟨rfl, _⟩ | ⟨k2, rfl⟩ <;> simp [dM, lx]
  ·refine ⟨.slice (some ⟨bb, 0, none⟩) 0 e, ?_, rd0 _ ⟨some ⟨bb, 0, none⟩, e, rfl, fun h => (by cases h), fun x hx => ⟨bb, 0, (eu hx).symm⟩⟩⟩
   rcases hlo with ⟨rfl, _⟩ | ⟨k1, rfl⟩ <;> rcases hhi with ⟨rfl, _⟩ | ⟨k2, rfl⟩ <;> simp [dM, lx, hpos]
abbrev aE.begin (σ : aE) (who place : Int) : aE := { σ with places := fun k => if k = who then some place else σ.places k, μ := { σ.μ with N := σ.μ.N + 1 } }
theorem ac4 (p : Nat) (rp : List Nat) (σ : aE) (who place : Int) : Sp fK [vp p, vi who, vi place] (bT p rp σ) (fun _ : Unit => .tuple #[]) (fun _ => bT p rp (σ.begin who place)) := by
 refine aW fun R H h => ?_;obtain ⟨g, hrp, hg, h0⟩ := gC h;unfold aK at h0;refine aZ (fun r => pw _ _ _ H) ?_;refine ar h0 ae rfl ?_;refine YZ (ek := JI) who (vi place) h0 fun H1 h1 => ?_;refine am ⟨(), rfl, ?_⟩;refine bG g hrp hg ?_;unfold aK;dsimp only
 have e : (fun k => ((if k = who then some place else σ.places k) : Option Int).map fun n => vi n) = fun x => if x = who then some (vi place) else (σ.places x).map fun n => vi n := by
  funext k
  split <;> rfl
 rw [e];have h2 := jF (V := σ.μ.V) (E := σ.μ.E) (N := σ.μ.N) (N' := σ.μ.N + 1) (by omega) (ac.fr (A := bd g.m σ.μ) h1);exact h2.to
theorem aeK (p : Nat) (σ : aE) (who place : Int) (hN : σ.μ.N < 1000000000) : Sp gZ [vp p, vi who, vi place] (bC p σ) (fun _ : Unit => .tuple #[]) (fun _ => bC p (σ.begin who place)) := by
 refine aW fun R H h => ?_;obtain ⟨g, ⟨hg1, hg2, hg3⟩, h0⟩ := gD h;unfold aw at h0;refine aZ (fun r => sw _ _ _ H) ?_;refine ar h0 ae rfl ?_;refine Qf (cs := [vi who, vi place]) h0 rfl fun b H1 h1 => ?_;have h2 := zq (e := 1) (enc := bH) (l := [who, place]) h1;refine Cd (s := g.wv) (l := dN g.ws) (m := [who, place]) h2 ?_ (by omega) fun v H2 h3 => ?_
 ·rw [nz]; unfold room; simp; omega
 have hc := YO (s := v) (enc := bH) (l := dN g.ws ++ [who, place]) h3
 haveI : sM v [v] := ⟨hc.1⟩
 dsimp only;refine bh h3 ae rfl hc.2 fun H3 h4 => ?_;refine am ⟨(), rfl, ?_⟩
 have e2 : dN (g.ws ++ [(who, place)]) = dN g.ws ++ [who, place] := by simp [dN]
 refine dY { g with wv := v, ws := g.ws ++ [(who, place)] } ⟨hg1, fun k => ?_, by simp; omega⟩ ?_
 ·show fA (g.ws ++ [(who, place)]) k = _
  rw [t7, hg2];show _ = ((if k = who then some place else σ.places k)).getD 0
  split <;> rfl
 unfold aw;dsimp only;rw [e2];have h5 := tQ (V := σ.μ.V) (E := σ.μ.E) (N := σ.μ.N) (N' := σ.μ.N + 1) (by omega) (ac.fr (A := bi g.m σ.μ) h4);have h6 := np (L' := σ.μ.N + 1) (by omega) (ac.fr (A := gc g.ib g.m σ.c.sh σ.nx σ.μ.N) h5);exact h6.to
theorem af3 (p : Nat) (g : XIds) (σ : aE) (step who code : Int) (hpl : fA g.ws who = (σ.places who).getD 0) (hw : g.ws.length < 1000000000) (hp : σ.pts.length < 900000) :
 Sp XB [vp p, vi step, vi who, .agg (mU code).toArray] (aw p g σ) (fun _ : Value => .tuple #[]) (fun v => aw p { g with pv := v } (σ.note step who code)) := by
 refine aU (ad1 _ _ _ _) fun R H h => ?_;refine aV h fun rb H1 h1 => ?_;refine ag (Tv _ _ _ _ _ H1) ?_;refine ag (Mg _ _ _ _ _ _ H1) ?_;have place : ∀ (d j : Nat), j + d = g.ws.length → wp (Md (vp p) (vi step) (vi who) (vp rb) (vi (fA g.ws who)) H1) (fun v' H' => ∃ x : Value, v' = .tuple #[] ∧ ac (aw p { g with pv := x } (σ.note step who code) * R) H') →
  wp (zn (vp p) (vi step) (vi who) (vp rb) (vi (fA (g.ws.take j) who)) (vi ((2 * j : Nat) : Int)) H1) (fun v' H' => ∃ x : Value, v' = .tuple #[] ∧ ac (aw p { g with pv := x } (σ.note step who code) * R) H') := by
  have h2 := h1;unfold aw at h2;intro d
  induction d with
  | zero =>
   intro j hj hk;refine ag (BK _ _ _ _ _ _ H1) ?_;refine ar h1 ae rfl ?_;refine cw (s := g.wv) (l := dN g.ws) h2 ?_;rw [nz];refine aa (bF (by omega)) ?_;refine gs ?_;refine ag (GW _ _ _ _ _ H1) ?_;rw [List.take_of_length_le (by omega)];exact hk
  | succ d ih =>
   intro j hj hk
   have hjl : j < g.ws.length := by omega
   obtain ⟨a1, a2⟩ := S6 g.ws j hjl;have hlen := nz g.ws;refine ag (BK _ _ _ _ _ _ H1) ?_;refine ar h1 ae rfl ?_;refine cw (s := g.wv) (l := dN g.ws) h2 ?_;rw [nz];refine aa (cy (by omega)) ?_;refine gs ?_;refine ag (Mh _ _ _ _ _ _ H1) ?_;refine ar h1 ae rfl ?_;refine da (s := g.wv) (l := dN g.ws) (i := 2 * j) (v := vi g.ws[j].1) h2 (by omega) ?_ ?_
   ·rw [bu (by omega)] at a1
    rw [eu a1]; rfl
   have next : ∀ pl : Int, fA (g.ws.take (j + 1)) who = pl → wp (zo (vp p) (vi step) (vi who) (vp rb) (vi pl) (vi ((2 * j : Nat) : Int)) H1) (fun v' H' => ∃ x : Value, v' = .tuple #[] ∧ ac (aw p { g with pv := x } (σ.note step who code) * R) H') := by
    intro pl hpl2;refine ag (Mi _ _ _ _ _ _ H1) ?_;refine aa (aJ (by omega) (by omega)) ?_;have := ih (j + 1) (by omega) hk;rw [hpl2] at this;rw [show ((2 * j : Nat) : Int) + 2 = ((2 * (j + 1) : Nat) : Int) from by omega];exact this
   have ht := GI g.ws who j hjl
   by_cases hwho : g.ws[j].1 = who
   ·refine aa (bf hwho) ?_
    refine gs ?_;refine ar h1 ae rfl ?_;refine aa (aJ (by omega) (by omega)) ?_;rw [show ((2 * j : Nat) : Int) + 1 = ((2 * j + 1 : Nat) : Int) from by omega];refine da (s := g.wv) (l := dN g.ws) (i := 2 * j + 1) (v := vi g.ws[j].2) h2 (by omega) ?_ ?_
    ·rw [bu (by omega)] at a2
     rw [eu a2]; rfl
    exact next _ (by rw [ht, if_pos hwho.symm])
   ·refine aa (aM hwho) ?_
    refine gs ?_;exact next _ (by rw [ht, if_neg (fun q => hwho q.symm)])
 refine place g.ws.length 0 (by omega) ?_;rw [hpl];refine ag (Tw _ _ _ _ _ H1) ?_;refine ar h1 aB rfl ?_;refine ag (show ((cO 3 24 (.slice none 0 0) (.slice none 0 0) H1).bind _) = _ from by rw [Zv 3 24 (by omega)]) ?_;refine bh h1 aB rfl rfl fun H2 h2 => ?_;refine ar h2 ae rfl ?_;have h2u := h2;unfold aw at h2u;have hlen := JY σ.pts;refine cw (s := g.pv) (l := bq σ.pts) h2u ?_;refine ag (Tx _ _ _ _ _ _ H2) ?_
 -- behind all that are not behind it
 have put : ∀ k, k ≤ (bq σ.pts).length → (∀ j p, k ≤ j → (bq σ.pts)[j]? = some p → step < p.step) → (∀ p, 0 < k → (bq σ.pts)[k - 1]? = some p → p.step ≤ step) →
  wp (Mf (vp p) (vi step) (vi who) (vp rb) (vi ((σ.places who).getD 0)) (vi (k : Int)) H2) (fun v' H' => ∃ x : Value, v' = .tuple #[] ∧ ac (aw p { g with pv := x } (σ.note step who code) * R) H') := by
  intro k hk ha hb;have hins := Xb ⟨step, who, (σ.places who).getD 0, code⟩ (bq σ.pts) k hk ha hb;refine ag (Tz _ _ _ _ _ _ H2) ?_;refine ar h2 ae rfl ?_;have q1 : ac (ts 7 Pt.cells g.pv (bq σ.pts)) H2 := h2u.to;obtain ⟨s1, e1, r1⟩ := Jt (s := g.pv) (l := bq σ.pts) (lo := none) (hi := some (vi (k : Int))) (a := 0) (b := k) q1 (.inl ⟨rfl, rfl⟩) (.inr ⟨_, rfl⟩) (Nat.zero_le _) hk;refine aa e1 ?_;have h3 := cK 7 Pt.cells h2u;refine Cd (s := .slice none 0 0) (l := ([] : List Pt)) (m := ((bq σ.pts).take k).drop 0) h3 ?_ (by omega) fun v3 H3 h4 => ?_
  ·unfold room; simp only [List.length_drop, List.length_take, List.length_nil]; omega
  rw [List.nil_append, List.drop_zero] at h4;refine aT h4 ?_;refine j7 ?_;refine Ht h4 fun b0 H5 h5 => ?_;refine eA (s := v3) (l := (bq σ.pts).take k) (⟨step, who, (σ.places who).getD 0, code⟩ : Pt) h5 rfl ?_ (by omega) fun a cc H6 h6 => ?_
  ·unfold room; simp only [List.length_take]; omega
  refine ar h6 ae rfl ?_;have q2 : ac (ts 7 Pt.cells g.pv (bq σ.pts)) H6 := h6.to;obtain ⟨s2, e2, r2⟩ := Jt (s := g.pv) (l := bq σ.pts) (lo := some (vi (k : Int))) (hi := none) (a := k) (b := (bq σ.pts).length) q2 (.inr ⟨_, rfl⟩) (.inl ⟨rfl, rfl⟩) hk (bm _);refine aa e2 ?_;refine Cd (s := .slice a (((bq σ.pts).take k).length + 1) cc) (l := (bq σ.pts).take k ++ [(⟨step, who, (σ.places who).getD 0, code⟩ : Pt)]) (m := ((bq σ.pts).take (bq σ.pts).length).drop k) h6 ?_ (by omega) fun v4 H7 h7 => ?_
  ·unfold room; simp only [List.length_drop, List.length_take, mH, List.length_cons, List.length_nil]; omega
  have hc := YO (s := v4) (enc := Pt.cells) (l := ((bq σ.pts).take k ++ [(⟨step, who, (σ.places who).getD 0, code⟩ : Pt)]) ++ ((bq σ.pts).take (bq σ.pts).length).drop k) h7
  haveI : sM v4 [v4] := ⟨hc.1⟩
  dsimp only;refine bh h7 ae rfl hc.2 fun H8 h8 => ?_;refine am ⟨v4, rfl, ?_⟩
  have e3 : bq (σ.note step who code).pts = ((bq σ.pts).take k ++ [(⟨step, who, (σ.places who).getD 0, code⟩ : Pt)]) ++ ((bq σ.pts).take (bq σ.pts).length).drop k := by
   show bq (σ.pts ++ [_]) = _;rw [HM, hins, List.take_length];simp
  unfold aw;dsimp only;rw [e3];exact h8.to
 have down : ∀ (k : Nat), k ≤ (bq σ.pts).length → (∀ j p, k ≤ j → (bq σ.pts)[j]? = some p → step < p.step) →
  wp (zm (vp p) (vi step) (vi who) (vp rb) (vi ((σ.places who).getD 0)) (vi (k : Int)) H2) (fun v' H' => ∃ x : Value, v' = .tuple #[] ∧ ac (aw p { g with pv := x } (σ.note step who code) * R) H') := by
  intro k
  induction k with
  | zero =>
   intro hk ha;refine ag (BJ _ _ _ _ _ _ H2) ?_;refine aa (gO (by omega)) ?_;refine gs ?_;refine ag (uI _ _ _ _ _ _ H2) ?_;exact put 0 hk ha (fun p h => absurd h (by omega))
  | succ k ih =>
   intro hk ha
   have hkl : k < (bq σ.pts).length := by omega
   refine ag (BJ _ _ _ _ _ _ H2) ?_;refine aa (w6 (by omega)) ?_;refine gs ?_;refine ar h2 ae rfl ?_;refine gs ?_;refine aa (fe (by omega) (by omega)) ?_;rw [show ((k + 1 : Nat) : Int) - 1 = (k : Int) from by omega];refine gs ?_;refine fN (s := g.pv) (l := bq σ.pts) (v := vi ((bq σ.pts)[k]).step) h2u hkl (by omega) rfl ?_;refine gs ?_
   by_cases hs : step < ((bq σ.pts)[k]).step
   ·refine aa (w6 hs) ?_
    refine gs ?_;refine ag (Me _ _ _ _ _ _ H2) ?_;refine aa (fe (by omega) (by omega)) ?_;rw [show ((k + 1 : Nat) : Int) - 1 = (k : Int) from by omega];refine ih (by omega) fun j p hj hp => ?_
    by_cases e : j = k
    ·subst e
     rw [bu hkl] at hp;rw [← eu hp]; exact hs
    ·exact ha j p (by omega) hp
   ·refine aa (gO hs) ?_
    refine gs ?_;refine ag (uI _ _ _ _ _ _ H2) ?_;refine put (k + 1) hk ha fun p _ hp => ?_;rw [show k + 1 - 1 = k from by omega, bu hkl] at hp;rw [← eu hp]; omega
 exact down (bq σ.pts).length (bm _) fun j p hj hp => by
  rw [List.getElem?_eq_none hj] at hp; cases hp
structure Xk where
 a : Nat
 I : Nat
 free : Int
 hit : Bool
 obj : Nat
 w : Nat
 h : Nat
 q : Nat
 top : Nat
 mark : Int
 code : Int
abbrev xB (x P : Nat) (t : Tk) (k : Xk) : SP :=
 blk x (.cells false [vp P, vi t.who, vi t.x.op, vi t.x.flow, vi t.x.a, vi t.x.b, vi k.a, vi k.I, vi k.free, vb k.hit, vi k.obj, vu k.w, vu k.h, vu k.q, vw 0, vu k.top, vi k.mark, vi k.code, .slice none 0 0, vi 0, vw 0,
  vi 0, vi 0, .slice none 0 0, vw 0, vw 0, vi 0, vi 0, vi 0, vb false, vi 0, .slice none 0 0, vi 0, vw 0])
def fO (t : Tk) (k : Xk) : Prop := k.a = t.at' ∧ match t.at' with
 | 0 => k.I = t.i ∧ k.hit = false
 | 2 => k.I = t.i ∧ k.hit = false
 | 4 => k.I = t.i ∧ k.hit = false
 | 5 => k.hit = t.found ∧ (t.found = true → k.obj = t.obj) ∧ (t.found = false → k.code = t.code)
 | 6 => k.obj = t.obj
 | 7 => k.obj = t.obj
 | 8 => k.obj = t.obj ∧ k.w = t.w
 | 9 => k.obj = t.obj ∧ k.w = t.w
 | 10 => k.obj = t.obj ∧ k.w = t.w ∧ k.q = 0 ∧ k.code = t.code
 | 11 => k.obj = t.obj ∧ k.w = t.w ∧ k.code = t.code
 | 12 => k.obj = t.obj ∧ k.w = t.w
 | 13 => k.obj = t.obj ∧ k.w = t.w
 | 14 => k.obj = t.obj ∧ k.w = t.w ∧ k.q = 1 ∧ k.code = t.code
 | 15 => k.obj = t.obj
 | 16 => k.obj = t.obj ∧ k.q = t.q
 | 17 => k.obj = t.obj ∧ k.w = t.w ∧ k.q = t.q
 | 18 => k.obj = t.obj ∧ k.q = t.q ∧ k.mark = t.mark
 | 20 => k.obj = t.obj
 | 21 => k.obj = t.obj ∧ k.w = t.w ∧ k.code = t.code
 | 22 => k.obj = t.obj ∧ k.code = t.code
 | 23 => k.obj = t.obj ∧ k.top = t.top ∧ k.code = t.code
 | 24 => k.obj = t.obj ∧ k.top = t.top ∧ k.code = t.code
 | 25 => k.code = t.code
 | _ => True
def xP (x P : Nat) (σ : aE) (t : Tk) : SP := ex fun k : Xk => pu (fO t k) * (xB x P t k * bC P σ)
def xQ (x P : Nat) (r : aE × Tk × Bool) : SP := ex fun k : Xk => pu (if r.2.2 = true then k.code = r.2.1.code else fO r.2.1 k) * (xB x P r.2.1 k * bC P r.1)
section
variable {x P : Nat} {g : XIds} {σ σ' : aE} {t t' : Tk} {R : SP} {H : AH} {r : aE × Tk × Bool} {k : Xk}
theorem b4 (h : ac (xP x P σ t * R) H) : ∃ (k : Xk) (g : XIds), fO t k ∧ fy g σ ∧ ac (xB x P t k * (aw P g σ * R)) H := by
 obtain ⟨k, h1⟩ := ac.ex.1 h;rw [ak, ac.pu] at h1;obtain ⟨g, h2, h3⟩ := gD (p := P) (σ := σ) (R := xB x P t k * R) (H := H) h1.2.to;exact ⟨k, g, h1.1, h2, h3.to⟩
theorem cG (hr : r = (σ', t', false)) (hR : fO t' k) (hg : fy g σ') (h : ac (xB x P t' k * (aw P g σ' * R)) H) : ∃ y : Unit, (vb false : Value) = vb r.2.2 ∧ ac (xQ x P r * R) H := by
 subst hr;refine ⟨(), rfl, ac.ex.2 ⟨k, ?_⟩⟩;rw [ak, ac.pu];have h1 := dY (p := P) (σ := σ') (R := xB x P t' k * R) g hg h.to;exact ⟨hR, h1.to⟩
theorem Cj (hr : r = (σ', t', true)) (hc : k.code = t'.code) (hg : fy g σ') (h : ac (xB x P t' k * (aw P g σ' * R)) H) : ∃ y : Unit, (vb true : Value) = vb r.2.2 ∧ ac (xQ x P r * R) H := by
 subst hr;refine ⟨(), rfl, ac.ex.2 ⟨k, ?_⟩⟩;rw [ak, ac.pu];have h1 := dY (p := P) (σ := σ') (R := xB x P t' k * R) g hg h.to;exact ⟨hc, h1.to⟩
theorem kN {c : gF} {μ' : Mu} {obs' : List (Ob × List Pk)} {nx' : Int → Option Nat} {pts' : List Pt} {pv : Value} (h : fy g σ) (hN : σ.μ.N ≤ μ'.N) (ho : obs'.length = σ.obs.length) : fy { g with pv := pv } ⟨c, μ', obs', nx', σ.places, pts'⟩ :=
 ⟨h.1.trans ho.symm, h.2.1, ep h.2.2 hN⟩
theorem aD {c : gF} {μ' : Mu} {obs' : List (Ob × List Pk)} {nx' : Int → Option Nat} {pts' : List Pt} (h : fy g σ) (hN : σ.μ.N ≤ μ'.N) (ho : obs'.length = σ.obs.length) : fy g ⟨c, μ', obs', nx', σ.places, pts'⟩ :=
 ⟨h.1.trans ho.symm, h.2.1, ep h.2.2 hN⟩
end
section
variable (x P : Nat) (g : XIds) (σ : aE) (t : Tk) (k : Xk)
theorem iY (hl : g.rp.length = σ.obs.length) (b : Nat) (ho : k.obj < σ.obs.length) (hb : g.rp[k.obj]? = some b) : Sp bx [vp x] (xB x P t k * aw P g σ) (fun _ : Unit => vp b) (fun _ => xB x P t k * aw P g σ) := by
 refine aU (wF _) fun R H h => ?_;refine ar h ae rfl ?_;refine ar h ae rfl ?_;refine ar h ae rfl ?_;have h2 := h;unfold aw at h2;refine da (s := g.rv) (l := g.rp) (v := vp b) h2 (by omega) ?_ ?_
 ·rw [bu (by omega)] at hb
  rw [eu hb]
 exact am ⟨(), rfl, h⟩
theorem u1 (hw : k.w < 18446744073709551616) : Sp dL [vp x] (xB x P t k) (fun _ : Unit => vu (ay k.w)) (fun _ => xB x P t k) := by
 refine aU (uH _) fun R H h => ?_;refine ar h ae rfl ?_;refine af h (mO k.w hw) fun _ H1 h1 => ?_;refine aa (v := vu (ay k.w)) rfl ?_;refine aa (v := vi (aL k.w)) rfl ?_;refine aa (v := vb (cg k.w)) rfl ?_;exact am ⟨(), rfl, h1.to⟩
theorem Qj (S : SOk σ) (hl : g.rp.length = σ.obs.length) (b : Nat) (ho : k.obj < σ.obs.length) (hb : g.rp[k.obj]? = some b) :
 Sp f6 [vp x] (xB x P t k * aw P g σ) (fun _ : Unit => vi (aL (σ.μ.V (11, (k.obj : Int), 0)))) (fun _ => xB x P t { k with w := σ.μ.V (11, (k.obj : Int), 0) } * aw P g (σ.mem (σ.μ.acc t.who 1 (11, (k.obj : Int), 0)))) := by
 have hN : σ.μ.N < 1099511627000 := by have := S.N; omega
 refine aU (wG _) fun R H h => ?_;refine af h (iY x P g σ t k hl b ho hb) fun _ H1 h1 => ?_;refine bn ae ?_;refine aP h1 rfl ?_;refine aG h h1 (by rfl) ?_;refine af h1 (l8 (p := P) (μ' := σ.μ.acc t.who 1 (11, (k.obj : Int), 0)) (by simp) hl ho hb (MY g.m k.obj b (av σ k.obj) σ.μ t.who hN)) fun _ H2 h2 => ?_;refine bh h2 ae rfl rfl fun H3 h3 => ?_;refine ar h3 ae rfl ?_;refine af h3 (mO _ (S.V _)) fun _ H4 h4 => ?_;refine aa (v := vu (ay (σ.μ.V (11, (k.obj : Int), 0)))) rfl ?_;refine aa (v := vi (aL (σ.μ.V (11, (k.obj : Int), 0)))) rfl ?_;refine aa (v := vb (cg (σ.μ.V (11, (k.obj : Int), 0)))) rfl ?_;exact am ⟨(), rfl, h4.to⟩
theorem zu (hg : fy g σ) (now e : Int) (hN : σ.μ.N < 1000000000) (hp : σ.pts.length < 900000) :
 Sp ch [vp x, vi now, vi e] (xB x P t k * aw P g σ) (fun _ : Value => .tuple #[]) (fun v => xB x P t { k with code := e } * aw P { g with pv := v } (σ.note now t.who e)) := by
 refine aU (wE _ _ _) fun R H h => ?_;refine j7 ?_;refine bh h ae rfl rfl fun H1 h1 => ?_;refine ar h1 ae rfl ?_;refine ar h1 ae rfl ?_;refine Jz h1 ae ?_;refine af h1 (af3 P g σ now t.who e (hg.2.1 _) (by have := hg.2.2; omega) hp) fun v H2 h2 => ?_;exact am ⟨v, rfl, h2.to⟩
def wQ (t1 : Tk) (k k' : Xk) : Prop := k'.a = k.a ∧ k'.w = k.w ∧ k'.q = k.q ∧ k'.top = k.top ∧ k'.mark = k.mark ∧ k'.code = k.code ∧ (t1.found = true → k'.hit = true ∧ k'.obj = t1.obj) ∧ (t1.found = false → k'.hit = k.hit ∧ k'.I = k.I + 1)
theorem Qi (S : SOk σ) (T : eM σ t) (hI : k.I = t.i) (hi : (t.i : Int) < σ.c.sl) :
 Sp Pr [vp x] (xB x P t k * aw P g σ) (fun _ : Xk => .tuple #[vb (aC σ t).found, vb (!(aC σ t).found && cT σ (aC σ t))]) (fun k' => pu (wQ (aC σ t) k k') * (xB x P t k' * aw P g (bR σ t))) := by
 have hN : σ.μ.N < 1099511627000 := by have := S.N; omega
 have hc := bW.1 S.c;refine aU (ad3 _) fun R H h => ?_;refine bn ae ?_;refine aP h rfl ?_;refine bn ae ?_;refine aP h rfl ?_;refine bn ae ?_;refine aP h rfl ?_;refine ar h ae rfl ?_;refine ar h ae rfl ?_;refine ar h (ik (cm (cm cj))) rfl ?_;refine af h (M0 (p := P) (g := g) (σ := σ) (u2 g.tb g.m σ.c.sh.toNat σ.c.sl.toNat (by omega) t.x.flow)) fun _ H1 h1 => ?_;refine aG h1 h (by rfl) ?_;refine aG h1 h (by rfl) ?_;refine aG h1 h (by rfl) ?_
 have es : vi ((t.x.flow.tmod (σ.c.sh.toNat : Int) + (σ.c.sh.toNat : Int)).tmod (σ.c.sh.toNat : Int)) = vi t.s := by rw [T.s, show ((σ.c.sh.toNat : Nat) : Int) = σ.c.sh from by omega]
 rw [es];refine bn ae ?_;refine aP h1 rfl ?_;refine aG h h1 (by rfl) ?_;rw [hI]
 have ek : k = { k with I := t.i } := by rw [← hI]
 rw [ek] at h1;refine af h1 (JO (p := P) (g := g) (σ := σ) (μ' := σ.μ.acc t.who 1 (10, t.s, (t.i : Int))) (by simp) (Tj g.tb g.m σ.c.sh.toNat σ.c.sl.toNat σ.μ t.who t.s t.i hN (S.V _))) fun _ H2 h2 => ?_;have tail : ∀ (k' : Xk) (H' : AH), wQ { aC σ t with found := false } { k with I := t.i } { k' with I := t.i + 1 } → k'.I = t.i → (aC σ t).found = false → ac (xB x P t k' * (aw P g (bR σ t) * R)) H' →
  wp (G2 (vp x) (vb false) (vb false) H') fun v' H' => ∃ k' : Xk, v' = .tuple #[vb (aC σ t).found, vb (!(aC σ t).found && cT σ (aC σ t))] ∧ ac (pu (wQ (aC σ t) k k') * (xB x P t k' * aw P g (bR σ t)) * R) H' := by
  intro k' H' hX hI' hf h';refine ag (TA ..) ?_;refine ar h' ae rfl ?_;rw [hI'];refine aa (aJ (by omega) (by omega)) ?_;rw [show ((t.i : Nat) : Int) + 1 = ((t.i + 1 : Nat) : Int) from by omega];refine bh h' ae rfl rfl fun H3 h3 => ?_;refine ar h3 ae rfl ?_;refine ar h3 ae rfl ?_;refine ar h3 ae rfl ?_;have h4 := h3;unfold aw tab at h4;refine ar h4 ae rfl ?_;refine aa (v := vb (cT σ (aC σ t))) ?_ ?_
  ·rw [yU]
   congr 3
   show ((σ.c.sl.toNat : Int) ≤ _) = (σ.c.sl ≤ ((t.i + 1 : Nat) : Int));apply propext;omega
  refine am ⟨{ k' with I := t.i + 1 }, by rw [hf]; rfl, ?_⟩;rw [ak, ac.pu];refine ⟨?_, h3.to⟩
  have e0 : aC σ t = { aC σ t with found := false } := by rw [← hf]
  rw [e0]
  simpa [wQ, hI] using hX
 by_cases hv : σ.μ.V (10, t.s, (t.i : Int)) = 0
 ·have e1 : lH (σ.μ.V (10, t.s, (t.i : Int))) = .tuple #[vi 0, vi 0, vb false] := by rw [lH, if_pos hv]
  have hf : (aC σ t).found = false := iv fun q => q.1 hv;rw [e1];refine aa (v := vi 0) rfl ?_;refine aa (v := vi 0) rfl ?_;refine aa (v := vb false) rfl ?_;refine gs ?_;refine ag (D7 ..) ?_;refine gs ?_;rw [Bool.not_false];refine gs ?_;refine ar h2 ae rfl ?_
  by_cases hfr : k.free < 0
  ·refine qG ?_
   refine aa (cy hfr) ?_;refine gs ?_;refine ar h2 ae rfl ?_;refine bh h2 ae rfl rfl fun H3 h3 => ?_;exact tail { k with I := t.i, free := t.i } H3 (by simp [wQ]) rfl hf h3.to
  ·refine qG ?_
   refine aa (bF hfr) ?_;refine gs ?_;exact tail { k with I := t.i } H2 (by simp [wQ]) rfl hf h2.to
 ·have e1 : lH (σ.μ.V (10, t.s, (t.i : Int))) = .tuple #[vi ((σ.μ.V (10, t.s, (t.i : Int)) / 4294967296 : Nat) - 1), vi (σ.μ.V (10, t.s, (t.i : Int)) % 4294967296 : Nat), vb true] := by rw [lH, if_neg hv]
  rw [e1];refine aa (v := vi ((σ.μ.V (10, t.s, (t.i : Int)) / 4294967296 : Nat) - 1)) rfl ?_;refine aa (v := vi (σ.μ.V (10, t.s, (t.i : Int)) % 4294967296 : Nat)) rfl ?_;refine aa (v := vb true) rfl ?_;refine gs ?_;refine ar h2 (ik (cm (cm cj))) rfl ?_;refine qG ?_
  by_cases hf : ((σ.μ.V (10, t.s, (t.i : Int)) / 4294967296 : Nat) : Int) - 1 = t.x.flow
  ·have hfo : (aC σ t).found = true := i4 ⟨hv, hf⟩
   have hob : (aC σ t).obj = σ.μ.V (10, t.s, (t.i : Int)) % 4294967296 := if_pos hfo;refine aa (bf hf) ?_;refine gs ?_;refine bh h2 ae rfl rfl fun H3 h3 => ?_;refine bh h3 ae rfl rfl fun H4 h4 => ?_;refine am ⟨{ k with I := t.i, hit := true, obj := σ.μ.V (10, t.s, (t.i : Int)) % 4294967296 }, by rw [hfo]; rfl, ?_⟩;rw [ak, ac.pu];exact ⟨by simp [wQ, hfo, hob], h4.to⟩
  ·have hfo : (aC σ t).found = false := iv fun q => hf q.2
   refine aa (aM hf) ?_;refine gs ?_;refine ag (D7 ..) ?_;refine gs ?_;rw [Bool.not_true];refine gs ?_;exact tail { k with I := t.i } H2 (by simp [wQ]) rfl hfo h2.to
theorem JE {R : SP} {H : AH} {Q : Value → AH → Prop} (now : Int) (S : SOk σ) (T : eM σ t) (h : ac (xB x P t k * (aw P g σ * R)) H)
 (hk : ∀ b H', ac (blk b (.cells false [vi t.x.flow, vi t.x.a, vi t.x.b]) * (xB x P t k * (aw P g σ * R))) H' → wp (Mj (vp x) (vi now) (vb false) (vp P) (vi t.s) (vp b) H') Q) :
 wp (FF dj [vp x, vi now] H) Q := by
 have hc := bW.1 S.c;refine aZ (fun r => ad2 _ _ H) ?_;refine bn ae ?_;refine aP h rfl ?_;refine ar h ae rfl ?_;refine ar h ae rfl ?_;refine ar h (ik (cm (cm cj))) rfl ?_;refine af h (M0 (p := P) (g := g) (σ := σ) (u2 g.tb g.m σ.c.sh.toNat σ.c.sl.toNat (by omega) t.x.flow)) fun _ H1 h1 => ?_;refine aG h1 h (by rfl) ?_
 have es : vi ((t.x.flow.tmod (σ.c.sh.toNat : Int) + (σ.c.sh.toNat : Int)).tmod (σ.c.sh.toNat : Int)) = vi t.s := by rw [T.s, show ((σ.c.sh.toNat : Nat) : Int) = σ.c.sh from by omega]
 rw [es];refine ar h1 (ik (cm (cm cj))) rfl ?_;refine ar h1 (ik (cm (cm cj))) rfl ?_;refine ar h1 (ik (cm (cm cj))) rfl ?_;refine j7 ?_;refine bk h1 fun b H2 h2 => ?_;refine fW h2 rfl rfl fun H3 h3 => ?_;exact hk b H3 h3.to
theorem br {R : SP} {H : AH} {Q : Value → AH → Prop} (now : Int) (S : SOk σ) (T : eM σ t) (ha : k.a ≠ 0) (h : ac (xB x P t k * (aw P g σ * R)) H)
 (hk : ∀ b H', ac (blk b (.cells false [vi t.x.flow, vi t.x.a, vi t.x.b]) * (xB x P t k * (aw P g σ * R))) H' → wp (nG (vp x) (vi now) (vb false) (vp P) (vi t.s) (vp b) (vi k.a) H') Q) :
 wp (FF dj [vp x, vi now] H) Q := by
 refine JE x P g σ t k now S T h fun b H1 h1 => ?_;refine ag (D5 ..) ?_;refine ar h1 ae rfl ?_;refine aa (aM (by omega)) ?_;refine gs ?_;refine ag (D6 ..) ?_;refine ar h1 ae rfl ?_;exact hk b H1 h1
end
theorem l6 {f : Nat} {args : List Value} {H : AH} {Q : Value → AH → Prop} (h : wp (FF f args H) Q) : wp ((FF f args H).bind fun r => some (r.1, r.2)) Q := by
 obtain ⟨v, H', e, q⟩ := h;rw [e]; exact ⟨v, H', rfl, q⟩
section
variable (x P : Nat) (σ : aE) (t : Tk) (now : Int)
theorem ch6 {x0 x1 x4 x5 x6 x7 : Value} {a : Nat} {H : AH} {Q : Value → AH → Prop} (h : a ≠ 2 ∧ a ≠ 3 ∧ a ≠ 4 ∧ a ≠ 5) (hk : wp ((aj .other .eql (vi (a : Int)) (vi 6)).bind fun v => GX x0 x1 x4 x5 x6 x7 (vi (a : Int)) v H) Q) : wp (nG x0 x1 x4 x5 x6 x7 (vi (a : Int)) H) Q := by
 refine ag (jZ ..) ?_;refine aa (aM (by omega)) ?_;refine ag (mT ..) ?_;refine gs ?_;refine aa (aM (by omega)) ?_;refine ag (nF ..) ?_;refine gs ?_;refine aa (aM (by omega)) ?_;refine ag (sy ..) ?_;refine gs ?_;refine aa (aM (by omega)) ?_;refine ag (BL ..) ?_;refine gs ?_;exact hk
theorem ch8 {x0 x1 x4 x5 x6 x7 : Value} {a : Nat} {H : AH} {Q : Value → AH → Prop} (h : a ≠ 2 ∧ a ≠ 3 ∧ a ≠ 4 ∧ a ≠ 5 ∧ a ≠ 6 ∧ a ≠ 7) (hk : wp ((aj .other .eql (vi (a : Int)) (vi 8)).bind fun v => GY x0 x1 x4 x5 x6 x7 (vi (a : Int)) v H) Q) : wp (nG x0 x1 x4 x5 x6 x7 (vi (a : Int)) H) Q := by
 refine ch6 (by omega) ?_;refine aa (aM (by omega)) ?_;refine ag (sA ..) ?_;refine gs ?_;refine aa (aM (by omega)) ?_;refine ag (BM ..) ?_;refine gs ?_;exact hk
theorem ac6 {x0 x1 x4 x5 x6 x7 : Value} {a : Nat} {H : AH} {Q : Value → AH → Prop} (h : a ≠ 2 ∧ a ≠ 3 ∧ a ≠ 4 ∧ a ≠ 5 ∧ a ≠ 6 ∧ a ≠ 7 ∧ a ≠ 8 ∧ a ≠ 9 ∧ a ≠ 13) (hk : wp ((aj .other .eql (vi (a : Int)) (vi 10)).bind fun v98 => au v98 (uJ x0 x1 x4 x5 x6 x7 (vi (a : Int)) v98 H) ((aj .other .eql (vi (a : Int)) (vi 14)).bind fun v99 => uJ x0 x1 x4 x5 x6 x7 (vi (a : Int)) v99 H)) Q) : wp (nG x0 x1 x4 x5 x6 x7 (vi (a : Int)) H) Q := by
 refine ch8 (by omega) ?_;refine aa (aM (by omega)) ?_;refine ag (nH ..) ?_;refine gs ?_;refine aa (aM (by omega)) ?_;refine gs ?_;refine aa (aM (by omega)) ?_;refine ag (sB ..) ?_;refine gs ?_;exact hk
theorem ac7 {x0 x1 x4 x5 x6 x7 : Value} {a : Nat} {H : AH} {Q : Value → AH → Prop} (h : a ≠ 2 ∧ a ≠ 3 ∧ a ≠ 4 ∧ a ≠ 5 ∧ a ≠ 6 ∧ a ≠ 7 ∧ a ≠ 8 ∧ a ≠ 9 ∧ a ≠ 10 ∧ a ≠ 13 ∧ a ≠ 14) (hk : wp ((aj .other .eql (vi (a : Int)) (vi 11)).bind fun v => G0 x0 x1 x4 x5 x6 (vi (a : Int)) v H) Q) : wp (nG x0 x1 x4 x5 x6 x7 (vi (a : Int)) H) Q := by
 refine ac6 (by omega) ?_;refine aa (aM (by omega)) ?_;refine gs ?_;refine aa (aM (by omega)) ?_;refine ag (sC ..) ?_;refine gs ?_;exact hk
theorem UX {x0 x1 x4 x5 x6 x7 : Value} {a : Nat} {H : AH} {Q : Value → AH → Prop} (h : a ≠ 2 ∧ a ≠ 3 ∧ a ≠ 4 ∧ a ≠ 5 ∧ a ≠ 6 ∧ a ≠ 7 ∧ a ≠ 8 ∧ a ≠ 9 ∧ a ≠ 10 ∧ a ≠ 11 ∧ a ≠ 12 ∧ a ≠ 13 ∧ a ≠ 14) (hk : wp ((aj .other .eql (vi (a : Int)) (vi 15)).bind fun v92 => au v92 (jM x0 x1 x4 x6 v92 H) ((aj .other .eql (vi (a : Int)) (vi 16)).bind fun v93 => au v93 (jM x0 x1 x4 x6 v93 H) ((aj .other .eql (vi (a : Int)) (vi 17)).bind fun v94 => au v94 (jM x0 x1 x4 x6 v94 H) ((aj .other .eql (vi (a : Int)) (vi 18)).bind fun v95 => jM x0 x1 x4 x6 v95 H)))) Q) : wp (nG x0 x1 x4 x5 x6 x7 (vi (a : Int)) H) Q := by
 refine ac7 (by omega) ?_;refine aa (aM (by omega)) ?_;refine ag (sD ..) ?_;refine gs ?_;refine aa (aM (by omega)) ?_;refine ag (BN ..) ?_;refine gs ?_;exact hk
theorem chw {x0 x1 x4 x5 x6 x7 : Value} {a : Nat} {H : AH} {Q : Value → AH → Prop} (h : a ≠ 2 ∧ a ≠ 3 ∧ a ≠ 4 ∧ a ≠ 5 ∧ a ≠ 6 ∧ a ≠ 7 ∧ a ≠ 8 ∧ a ≠ 9 ∧ a ≠ 10 ∧ a ≠ 11 ∧ a ≠ 12 ∧ a ≠ 13 ∧ a ≠ 14 ∧ a ≠ 15 ∧ a ≠ 16 ∧ a ≠ 17 ∧ a ≠ 18) (hk : wp ((FF XC [x0, x6] H).bind fun r91 => some (r91.1, r91.2)) Q) : wp (nG x0 x1 x4 x5 x6 x7 (vi (a : Int)) H) Q := by
 refine UX (by omega) ?_;refine aa (aM (by omega)) ?_;refine gs ?_;refine aa (aM (by omega)) ?_;refine gs ?_;refine aa (aM (by omega)) ?_;refine gs ?_;refine aa (aM (by omega)) ?_;refine ag (kV ..) ?_;refine gs ?_;exact hk
theorem abV (S : SOk σ) (T : eM σ t) (hat : t.at' = 3) : Sp dj [vp x, vi now] (xP x P σ t) (fun _ : Unit => vb (ai σ t now).2.2) (fun _ => xQ x P (ai σ t now)) := by
 have hN : σ.μ.N < 1099511627000 := by have := S.N; omega
 refine aW fun R H h => ?_;obtain ⟨k, g, hR, hg, h0⟩ := b4 h;have hl := hg.1;simp only [fO, hat] at hR;obtain ⟨ha, _⟩ := hR;refine br x P g σ t k now S T (by omega) h0 fun b1 H1 h1 => ?_;refine ag (jZ ..) ?_;refine aa (aM (by omega)) ?_;refine ag (mT ..) ?_;refine gs ?_;refine aa (bf (by omega)) ?_;refine ag (nF ..) ?_;refine gs ?_;refine ar h1 ae rfl ?_;refine ar h1 ae rfl ?_;refine af h1 (JO (p := P) (g := g) (σ := σ) (μ' := σ.μ.swp t.who (8, t.s, 0) 0 1) (by simp) (X1 g.tb g.m σ.c.sh.toNat σ.c.sl.toNat σ.μ t.who t.s hN)) fun _ H2 h2 => ?_
 by_cases hw : σ.μ.V (8, t.s, 0) = 0
 ·rw [i4 hw]
  refine gs ?_;refine bh h2 ae rfl rfl fun H3 h3 => ?_;refine bh h3 ae rfl rfl fun H4 h4 => ?_;refine bh h4 ae rfl rfl fun H5 h5 => ?_;refine ag (bI ..) ?_;exact am (cG (g := g) (σ' := σ.mem (σ.μ.swp t.who (8, t.s, 0) 0 1)) (t' := { t with at' := 4, i := 0 }) (k := { k with a := 4, I := 0, hit := false }) (by simp only [ai, hat]; rw [if_pos hw]) (by simp [fO]) (aD (σ := σ) hg (by simp) rfl) h5.to)
 ·rw [iv hw]
  refine gs ?_;refine ag (bI ..) ?_;exact am (cG (g := g) (σ' := σ.mem (σ.μ.swp t.who (8, t.s, 0) 0 1)) (t' := t) (k := k) (by simp only [ai, hat]; rw [if_neg hw]) (by simp only [fO, hat]; exact ⟨ha, trivial⟩) (aD (σ := σ) hg (by simp) rfl) h2.to)
theorem abX (S : SOk σ) (T : eM σ t) (hat : t.at' = 5) : Sp dj [vp x, vi now] (xP x P σ t) (fun _ : Unit => vb (ai σ t now).2.2) (fun _ => xQ x P (ai σ t now)) := by
 have hN : σ.μ.N < 1099511627000 := by have := S.N; omega
 refine aW fun R H h => ?_;obtain ⟨k, g, hR, hg, h0⟩ := b4 h;have hl := hg.1;simp only [fO, hat] at hR;obtain ⟨ha, hhit, hobj, hcode⟩ := hR;refine br x P g σ t k now S T (by omega) h0 fun b1 H1 h1 => ?_;refine ag (jZ ..) ?_;refine aa (aM (by omega)) ?_;refine ag (mT ..) ?_;refine gs ?_;refine aa (aM (by omega)) ?_;refine ag (nF ..) ?_;refine gs ?_;refine aa (aM (by omega)) ?_;refine ag (sy ..) ?_;refine gs ?_;refine aa (bf (by omega)) ?_;refine ag (BL ..) ?_;refine gs ?_;refine ar h1 ae rfl ?_;refine ar h1 ae rfl ?_;refine af h1 (JO (p := P) (g := g) (σ := σ) (μ' := (σ.μ.acc t.who 2 (8, t.s, 0)).put (8, t.s, 0) 0) (by simp) (L9 g.tb g.m σ.c.sh.toNat σ.c.sl.toNat σ.μ t.who t.s hN)) fun _ H2 h2 => ?_;refine ar h2 ae rfl ?_;cases hf : t.found
 ·rw [hf] at hhit
  rw [hhit];refine gs ?_;rw [Bool.not_false];refine gs ?_;exact am (Cj (g := g) (k := k) (σ' := σ.mem ((σ.μ.acc t.who 2 (8, t.s, 0)).put (8, t.s, 0) 0)) (t' := { t with at' := 6 }) (by simp only [ai, hat, hf]; rfl) (hcode hf) (aD (σ := σ) hg (by simp) rfl) h2.to)
 ·rw [hf] at hhit
  rw [hhit];refine gs ?_;rw [Bool.not_true];refine gs ?_;refine bh h2 ae rfl rfl fun H3 h3 => ?_;refine ag (bI ..) ?_;exact am (cG (g := g) (σ' := σ.mem ((σ.μ.acc t.who 2 (8, t.s, 0)).put (8, t.s, 0) 0)) (t' := { t with at' := 6 }) (k := { k with a := 6 }) (by simp only [ai, hat, hf]; rfl) (by simp [fO, hobj hf]) (aD (σ := σ) hg (by simp) rfl) h3.to)
theorem abY (S : SOk σ) (T : eM σ t) (hat : t.at' = 6) : Sp dj [vp x, vi now] (xP x P σ t) (fun _ : Unit => vb (ai σ t now).2.2) (fun _ => xQ x P (ai σ t now)) := by
 have hN : σ.μ.N < 1099511627000 := by have := S.N; omega
 refine aW fun R H h => ?_;obtain ⟨k, g, hR, hg, h0⟩ := b4 h;have hl := hg.1;simp only [fO, hat] at hR;obtain ⟨ha, hobj⟩ := hR;have ho := T.obj (.inl (by omega))
 have hob : k.obj < σ.obs.length := by omega
 obtain ⟨b, hb⟩ : ∃ b, g.rp[k.obj]? = some b := ⟨_, bu (by omega)⟩;refine br x P g σ t k now S T (by omega) h0 fun b1 H1 h1 => ?_;refine ch6 (by omega) ?_;refine aa (bf (by omega)) ?_;refine ag (sA ..) ?_;refine gs ?_;refine ar h1 ae rfl ?_;refine ar h1 ae rfl ?_;refine af h1 (MV P g σ hl t.who k.obj hob S.N) fun _ H2 h2 => ?_;refine bh h2 ae rfl rfl fun H3 h3 => ?_;refine ag (bI ..) ?_;rw [hobj] at h3;exact am (cG (g := g) (σ' := σ.mem (σ.μ.acc t.who 5 (13, (t.obj : Int), 0))) (t' := { t with at' := 7 }) (k := { k with a := 7, obj := t.obj }) (by simp only [ai, hat]) (by simp [fO]) (aD (σ := σ) hg (by simp) rfl) h3.to)
theorem abZ (S : SOk σ) (T : eM σ t) (hat : t.at' = 7) : Sp dj [vp x, vi now] (xP x P σ t) (fun _ : Unit => vb (ai σ t now).2.2) (fun _ => xQ x P (ai σ t now)) := by
 have hN : σ.μ.N < 1099511627000 := by have := S.N; omega
 refine aW fun R H h => ?_;obtain ⟨k, g, hR, hg, h0⟩ := b4 h;have hl := hg.1;simp only [fO, hat] at hR;obtain ⟨ha, hobj⟩ := hR;have ho := T.obj (.inl (by omega))
 have hob : k.obj < σ.obs.length := by omega
 obtain ⟨b, hb⟩ : ∃ b, g.rp[k.obj]? = some b := ⟨_, bu (by omega)⟩;refine br x P g σ t k now S T (by omega) h0 fun b1 H1 h1 => ?_;refine ch6 (by omega) ?_;refine aa (aM (by omega)) ?_;refine ag (sA ..) ?_;refine gs ?_;refine aa (bf (by omega)) ?_;refine ag (BM ..) ?_;refine gs ?_;refine bh h1 ae rfl rfl fun H2 h2 => ?_;refine af h2 (Qj x P g σ t { k with a := 8 } S hl b hob hb) fun _ H3 h3 => ?_;dsimp only at h3;rw [hobj] at h3
 by_cases hw : aL (σ.μ.V (11, (t.obj : Int), 0)) = 2
 ·refine aa (bf (by rw [hobj]; exact hw)) ?_
  refine gs ?_;refine bh h3 ae rfl rfl fun H4 h4 => ?_;refine ag (bI ..) ?_;exact am (cG (g := g) (σ' := jA σ t) (t' := { t with at' := 3, w := σ.μ.V (11, (t.obj : Int), 0) }) (k := { k with a := 3, obj := t.obj, w := σ.μ.V (11, (t.obj : Int), 0) }) (by simp only [ai, hat]; rw [if_pos hw]) (by simp [fO]) (aD (σ := σ) hg (by simp) rfl) h4.to)
 ·refine aa (aM (by rw [hobj]; exact hw)) ?_
  refine gs ?_;refine ag (bI ..) ?_;exact am (cG (g := g) (σ' := jA σ t) (t' := { t with at' := 8, w := σ.μ.V (11, (t.obj : Int), 0) }) (k := { k with a := 8, obj := t.obj, w := σ.μ.V (11, (t.obj : Int), 0) }) (by simp only [ai, hat]; rw [if_neg hw]) (by simp [fO]) (aD (σ := σ) hg (by simp) rfl) h3.to)
theorem ab0 (S : SOk σ) (T : eM σ t) (hat : t.at' = 8) : Sp dj [vp x, vi now] (xP x P σ t) (fun _ : Unit => vb (ai σ t now).2.2) (fun _ => xQ x P (ai σ t now)) := by
 have hN : σ.μ.N < 1099511627000 := by have := S.N; omega
 refine aW fun R H h => ?_;obtain ⟨k, g, hR, hg, h0⟩ := b4 h;have hl := hg.1;simp only [fO, hat] at hR;obtain ⟨ha, hobj, hw0⟩ := hR;have ho := T.obj (.inl (by omega))
 have hob : k.obj < σ.obs.length := by omega
 obtain ⟨b, hb⟩ : ∃ b, g.rp[k.obj]? = some b := ⟨_, bu (by omega)⟩;refine br x P g σ t k now S T (by omega) h0 fun b1 H1 h1 => ?_;refine ch8 (by omega) ?_;refine aa (bf (by omega)) ?_;refine ag (nH ..) ?_;refine gs ?_;refine af h1 (iY x P g σ t k hl b hob hb) fun _ H2 h2 => ?_;refine bn ae ?_;refine aP h2 rfl ?_;refine aG h1 h2 (by rfl) ?_;refine af h2 (l8 (p := P) (μ' := σ.μ.acc t.who 1 (12, (k.obj : Int), 0)) (by simp) hl hob hb (Cp g.m k.obj b (av σ k.obj) σ.μ t.who hN)) fun _ H3 h3 => ?_;refine bh h3 ae rfl rfl fun H4 h4 => ?_;refine ar h4 ae rfl ?_;refine af h4 (mO k.w (by rw [hw0]; exact T.w)) fun _ H5 h5 => ?_;refine aa (v := vu (ay k.w)) rfl ?_;refine aa (v := vi (aL k.w)) rfl ?_;refine aa (v := vb (cg k.w)) rfl ?_;refine ag (Ml ..) ?_;refine af h5 (iY x P g (σ.mem (σ.μ.acc t.who 1 (12, (k.obj : Int), 0))) t { k with h := σ.μ.V (12, (k.obj : Int), 0) } hl b hob hb) fun _ H6 h6 => ?_;refine bn ae ?_;refine aP h6 rfl ?_;refine aG h5 h6 (by rfl) ?_;refine bn ae ?_;refine aP h6 rfl ?_;refine aG h5 h6 (by rfl) ?_;refine af h6 (Hu (p := P) (σ := σ.mem (σ.μ.acc t.who 1 (12, (k.obj : Int), 0))) hl hob hb (Co g.m k.obj b (av σ k.obj) k.w (σ.μ.V (12, (k.obj : Int), 0)) (by rw [hw0]; exact T.w) (S.cells _ hob).2)) fun _ H7 h7 => ?_;rw [hobj, hw0] at h7;rw [hobj, hw0];cases hf : lp t.w (σ.μ.V (12, (t.obj : Int), 0)) (av σ t.obj).length
 ·refine gs ?_
  by_cases hw : aL t.w = 1
  ·refine aa (bf hw) ?_
   refine gs ?_;refine bh h7 ae rfl rfl fun H8 h8 => ?_;refine ag (bI ..) ?_;exact am (cG (g := g) (σ' := gP σ t) (t' := { t with at' := 9 }) (k := { k with a := 9, obj := t.obj, w := t.w, h := σ.μ.V (12, (t.obj : Int), 0) }) (by simp only [ai, hat, il, hf]; rw [if_pos hw]; rfl) (by simp [fO]) (aD (σ := σ) hg (by simp) rfl) h8.to)
  ·refine aa (aM hw) ?_
   refine gs ?_;refine bh h7 ae rfl rfl fun H8 h8 => ?_;refine ag (bI ..) ?_;exact am (cG (g := g) (σ' := gP σ t) (t' := { t with at' := 12 }) (k := { k with a := 12, obj := t.obj, w := t.w, h := σ.μ.V (12, (t.obj : Int), 0) }) (by simp only [ai, hat, il, hf]; rw [if_neg hw]; rfl) (by simp [fO]) (aD (σ := σ) hg (by simp) rfl) h8.to)
 ·refine gs ?_
  refine bh h7 ae rfl rfl fun H8 h8 => ?_;refine ag (bI ..) ?_;exact am (cG (g := g) (σ' := gP σ t) (t' := { t with at' := 15 }) (k := { k with a := 15, obj := t.obj, w := t.w, h := σ.μ.V (12, (t.obj : Int), 0) }) (by simp only [ai, hat, il, hf]; rfl) (by simp [fO]) (aD (σ := σ) hg (by simp) rfl) h8.to)
theorem JH (g : XIds) (k : Xk) (S : SOk σ) (hg : fy g σ) (ha : k.a = 9 ∨ k.a = 13) (b : Nat) (ho : k.obj < σ.obs.length) (hb : g.rp[k.obj]? = some b) (hw0 : k.w < 18446744073709551616) :
 Sp iI [vp x, vi now] (xB x P t k * aw P g σ) (fun _ : Value => .tuple #[]) (fun v => if d5 σ.μ k.obj k.w (aX k.w 0) = true then
  xB x P t { k with q := if k.a = 13 then 1 else 0, a := k.a + 1, code := 0 } * aw P { g with pv := v } ((σ.mem (σ.μ.turn t.who k.obj k.w (aX k.w 0))).note now t.who 0)
  else xB x P t { k with q := if k.a = 13 then 1 else 0, a := if k.a = 13 then 20 else 7 } * aw P g (σ.mem (σ.μ.turn t.who k.obj k.w (aX k.w 0)))) := by
 have hN : σ.μ.N < 1099511627000 := by have := S.N; omega
 have hl := hg.1
 have hturn : σ.μ.N ≤ (σ.μ.turn t.who k.obj k.w (aX k.w 0)).N := by cases aX k.w 0 <;> simp
 have hturn2 : (σ.μ.turn t.who k.obj k.w (aX k.w 0)).N ≤ σ.μ.N + 2 := by cases aX k.w 0 <;> simp
 refine aU (uG _ _) fun R H h => ?_;refine bh h ae rfl rfl fun H1 h1 => ?_;refine ag (pE ..) ?_;refine ar h1 ae rfl ?_
 have main : ∀ (q : Nat) (H2 : AH), q = (if k.a = 13 then 1 else 0) → ac (xB x P t { k with q := q } * (aw P g σ * R)) H2 → wp (eK (vp x) (vi now) H2) fun v' H' => ∃ v : Value, v' = .tuple #[] ∧ ac ((if d5 σ.μ k.obj k.w (aX k.w 0) = true then
  xB x P t { k with q := if k.a = 13 then 1 else 0, a := k.a + 1, code := 0 } * aw P { g with pv := v } ((σ.mem (σ.μ.turn t.who k.obj k.w (aX k.w 0))).note now t.who 0)
  else xB x P t { k with q := if k.a = 13 then 1 else 0, a := if k.a = 13 then 20 else 7 } * aw P g (σ.mem (σ.μ.turn t.who k.obj k.w (aX k.w 0)))) * R) H' := by
  intro q H2 hq h2;refine ag (pF ..) ?_;refine af h2 (iY x P g σ t { k with q := q } hl b ho hb) fun _ H3 h3 => ?_;refine bn ae ?_;refine aP h3 rfl ?_;refine aG h2 h3 (by rfl) ?_;refine bn ae ?_;refine aP h3 rfl ?_;refine aG h2 h3 (by rfl) ?_;refine af h3 (l8 (p := P) (μ' := σ.μ.turn t.who k.obj k.w (aX k.w 0)) hturn hl ho hb (MX g.m k.obj b (av σ k.obj) σ.μ t.who k.w 0 (by omega) hw0 hN)) fun _ H4 h4 => ?_;cases hw : d5 σ.μ k.obj k.w (aX k.w 0)
  ·refine gs ?_
   refine ar h4 ae rfl ?_
   rcases ha with ha | ha
   ·refine aa (bf (show ((k.a : Nat) : Int) = 9 by omega)) ?_
    refine gs ?_;refine bh h4 ae rfl rfl fun H5 h5 => ?_;refine am ⟨.bool true, rfl, ?_⟩;rw [if_neg (by simp)];simp only [hq] at h5;rw [if_neg (by omega)] at h5 ⊢;rw [if_neg (by omega)];exact h5.to
   ·refine aa (aM (show ¬ ((k.a : Nat) : Int) = 9 by omega)) ?_
    refine gs ?_;refine bh h4 ae rfl rfl fun H5 h5 => ?_;refine am ⟨.bool true, rfl, ?_⟩;rw [if_neg (by simp)];simp only [hq] at h5;rw [if_pos ha] at h5 ⊢;rw [if_pos ha];exact h5.to
  ·refine gs ?_
   refine af h4 (zu x P g (σ.mem (σ.μ.turn t.who k.obj k.w (aX k.w 0))) t { k with q := q } (aD (σ := σ) hg hturn rfl) now 0 (by have := S.N; show (σ.μ.turn t.who k.obj k.w (aX k.w 0)).N < _; omega) S.pts) fun v H5 h5 => ?_;refine ar h5 ae rfl ?_;refine aa (aJ (a := ((k.a : Nat) : Int)) (b := 1) (by omega) (by omega)) ?_;rw [show ((k.a : Nat) : Int) + 1 = ((k.a + 1 : Nat) : Int) from by omega];refine bh h5 ae rfl rfl fun H6 h6 => ?_;refine am ⟨v, rfl, ?_⟩;rw [if_pos rfl];simp only [hq] at h6;exact h6.to
 rcases ha with ha | ha
 ·refine aa (aM (by omega)) ?_
  refine gs ?_;exact main 0 H1 (by rw [if_neg (by omega)]) h1.to
 ·refine aa (bf (by omega)) ?_
  refine gs ?_;refine bh h1 ae rfl rfl fun H2 h2 => ?_;exact main 1 H2 (by rw [if_pos ha]) h2.to
theorem ab1 (S : SOk σ) (T : eM σ t) (hat : t.at' = 9) : Sp dj [vp x, vi now] (xP x P σ t) (fun _ : Unit => vb (ai σ t now).2.2) (fun _ => xQ x P (ai σ t now)) := by
 have hN : σ.μ.N < 1099511627000 := by have := S.N; omega
 refine aW fun R H h => ?_;obtain ⟨k, g, hR, hg, h0⟩ := b4 h;have hl := hg.1;simp only [fO, hat] at hR;obtain ⟨ha, hobj, hw0⟩ := hR;have ho := T.obj (.inl (by omega))
 have hob : k.obj < σ.obs.length := by omega
 obtain ⟨b, hb⟩ : ∃ b, g.rp[k.obj]? = some b := ⟨_, bu (by omega)⟩;refine br x P g σ t k now S T (by omega) h0 fun b1 H1 h1 => ?_;refine ch8 (by omega) ?_;refine aa (aM (by omega)) ?_;refine ag (nH ..) ?_;refine gs ?_;refine aa (bf (by omega)) ?_;refine gs ?_;refine ag (sB ..) ?_;refine gs ?_
 have hturn : σ.μ.N ≤ (σ.μ.turn t.who k.obj k.w (aX k.w 0)).N := by cases aX k.w 0 <;> simp
 refine af h1 (JH x P σ t now g k S hg (by omega) b hob hb (by rw [hw0]; exact T.w)) fun v H2 h2 => ?_;refine ag (bI ..) ?_;cases hw : d5 σ.μ t.obj t.w (aX t.w 0)
 ·rw [if_neg (by rw [hobj, hw0, hw]; simp)] at h2
  rw [hobj, hw0, ha, if_neg (by omega), if_neg (by omega)] at h2;exact am (cG (g := g) (σ' := σ.mem (σ.μ.turn t.who t.obj t.w (aX t.w 0))) (t' := { t with at' := 7 }) (k := { k with a := 7, obj := t.obj, w := t.w, q := 0 }) (by simp only [ai, hat, hw]; rfl) (by simp [fO]) (aD (σ := σ) hg (by rw [hobj, hw0] at hturn; exact hturn) rfl) h2.to)
 ·rw [if_pos (by rw [hobj, hw0, hw])] at h2
  rw [hobj, hw0, ha, if_neg (by omega)] at h2;exact am (cG (g := { g with pv := v }) (σ' := (σ.mem (σ.μ.turn t.who t.obj t.w (aX t.w 0))).note now t.who 0) (t' := { t with at' := 10, code := 0 }) (k := { k with a := 10, obj := t.obj, w := t.w, q := 0, code := 0 }) (by simp only [ai, hat, hw]; rfl) (by simp [fO]) (kN (σ := σ) hg (by rw [hobj, hw0] at hturn; exact hturn) rfl) h2.to)
theorem Y8 (S : SOk σ) (T : eM σ t) (hat : t.at' = 13) : Sp dj [vp x, vi now] (xP x P σ t) (fun _ : Unit => vb (ai σ t now).2.2) (fun _ => xQ x P (ai σ t now)) := by
 have hN : σ.μ.N < 1099511627000 := by have := S.N; omega
 refine aW fun R H h => ?_;obtain ⟨k, g, hR, hg, h0⟩ := b4 h;have hl := hg.1;simp only [fO, hat] at hR;obtain ⟨ha, hobj, hw0⟩ := hR;have ho := T.obj (.inl (by omega))
 have hob : k.obj < σ.obs.length := by omega
 obtain ⟨b, hb⟩ : ∃ b, g.rp[k.obj]? = some b := ⟨_, bu (by omega)⟩;refine br x P g σ t k now S T (by omega) h0 fun b1 H1 h1 => ?_;refine ch8 (by omega) ?_;refine aa (aM (by omega)) ?_;refine ag (nH ..) ?_;refine gs ?_;refine aa (aM (by omega)) ?_;refine gs ?_;refine aa (bf (by omega)) ?_;refine ag (sB ..) ?_;refine gs ?_
 have hturn : σ.μ.N ≤ (σ.μ.turn t.who k.obj k.w (aX k.w 0)).N := by cases aX k.w 0 <;> simp
 refine af h1 (JH x P σ t now g k S hg (by omega) b hob hb (by rw [hw0]; exact T.w)) fun v H2 h2 => ?_;refine ag (bI ..) ?_;cases hw : d5 σ.μ t.obj t.w (aX t.w 0)
 ·rw [if_neg (by rw [hobj, hw0, hw]; simp)] at h2
  rw [hobj, hw0, ha, if_pos rfl, if_pos rfl] at h2;exact am (cG (g := g) (σ' := σ.mem (σ.μ.turn t.who t.obj t.w (aX t.w 0))) (t' := { t with at' := 20 }) (k := { k with a := 20, obj := t.obj, w := t.w, q := 1 }) (by simp only [ai, hat, hw]; rfl) (by simp [fO]) (aD (σ := σ) hg (by rw [hobj, hw0] at hturn; exact hturn) rfl) h2.to)
 ·rw [if_pos (by rw [hobj, hw0, hw])] at h2
  rw [hobj, hw0, ha, if_pos rfl] at h2;exact am (cG (g := { g with pv := v }) (σ' := (σ.mem (σ.μ.turn t.who t.obj t.w (aX t.w 0))).note now t.who 0) (t' := { t with at' := 14, code := 0 }) (k := { k with a := 14, obj := t.obj, w := t.w, q := 1, code := 0 }) (by simp only [ai, hat, hw]; rfl) (by simp [fO]) (kN (σ := σ) hg (by rw [hobj, hw0] at hturn; exact hturn) rfl) h2.to)
theorem Y5 (S : SOk σ) (T : eM σ t) (hat : t.at' = 10) : Sp dj [vp x, vi now] (xP x P σ t) (fun _ : Unit => vb (ai σ t now).2.2) (fun _ => xQ x P (ai σ t now)) := by
 have hN : σ.μ.N < 1099511627000 := by have := S.N; omega
 refine aW fun R H h => ?_;obtain ⟨k, g, hR, hg, h0⟩ := b4 h;have hl := hg.1;simp only [fO, hat] at hR;obtain ⟨ha, hobj, hw0, hq, hcode⟩ := hR;have ho := T.obj (.inl (by omega))
 have hob : k.obj < σ.obs.length := by omega
 obtain ⟨b, hb⟩ : ∃ b, g.rp[k.obj]? = some b := ⟨_, bu (by omega)⟩;refine br x P g σ t k now S T (by omega) h0 fun b1 H1 h1 => ?_;refine ac6 (by omega) ?_;refine aa (bf (by omega)) ?_;refine gs ?_;refine ag (sC ..) ?_;refine gs ?_;refine af h1 (iY x P g σ t k hl b hob hb) fun _ H2 h2 => ?_;refine bn ae ?_;refine aP h2 rfl ?_;refine aG h1 h2 (by rfl) ?_;refine af h2 (u1 x P t k (by rw [hw0]; exact T.w)) fun _ H3 h3 => ?_;refine aG h3 h2 (by rfl) ?_;refine aT h3 ?_;refine dw h1 h3 rfl ?_;refine dw h2 h3 rfl ?_;refine af h3 (Ex (p := P) (μ' := σ.μ.acc t.who 6 (16, (k.obj : Int), ((ay k.w % (av σ k.obj).length : Nat) : Int))) (by simp) hl hob hb (Et g.m k.obj b (av σ k.obj) σ.μ t.who (ay k.w) ⟨t.x.flow, t.x.a, t.x.b⟩ (S.cells _ hob) hN)) fun _ H4 h4 => ?_;refine bh h4 ae rfl rfl fun H5 h5 => ?_;refine ar h5 ae rfl ?_;refine aa (aM (by omega)) ?_;refine gs ?_;refine ag (bI ..) ?_;have e1 := zh σ t;rw [hobj, hw0, ← e1] at h5;exact am (cG (g := g) (σ' := fI σ t) (t' := { t with at' := 11 }) (k := { k with a := 11, obj := t.obj, w := t.w }) (by simp only [ai, hat]) (by simp [fO, hcode]) (aD (σ := σ) hg (by simp) (jh σ t)) h5.to)
theorem Y9 (S : SOk σ) (T : eM σ t) (hat : t.at' = 14) : Sp dj [vp x, vi now] (xP x P σ t) (fun _ : Unit => vb (ai σ t now).2.2) (fun _ => xQ x P (ai σ t now)) := by
 have hN : σ.μ.N < 1099511627000 := by have := S.N; omega
 refine aW fun R H h => ?_;obtain ⟨k, g, hR, hg, h0⟩ := b4 h;have hl := hg.1;simp only [fO, hat] at hR;obtain ⟨ha, hobj, hw0, hq, hcode⟩ := hR;have ho := T.obj (.inl (by omega))
 have hob : k.obj < σ.obs.length := by omega
 obtain ⟨b, hb⟩ : ∃ b, g.rp[k.obj]? = some b := ⟨_, bu (by omega)⟩;refine br x P g σ t k now S T (by omega) h0 fun b1 H1 h1 => ?_;refine ac6 (by omega) ?_;refine aa (aM (by omega)) ?_;refine gs ?_;refine aa (bf (by omega)) ?_;refine ag (sC ..) ?_;refine gs ?_;refine af h1 (iY x P g σ t k hl b hob hb) fun _ H2 h2 => ?_;refine bn ae ?_;refine aP h2 rfl ?_;refine aG h1 h2 (by rfl) ?_;refine af h2 (u1 x P t k (by rw [hw0]; exact T.w)) fun _ H3 h3 => ?_;refine aG h3 h2 (by rfl) ?_;refine aT h3 ?_;refine dw h1 h3 rfl ?_;refine dw h2 h3 rfl ?_;refine af h3 (Ex (p := P) (μ' := σ.μ.acc t.who 6 (16, (k.obj : Int), ((ay k.w % (av σ k.obj).length : Nat) : Int))) (by simp) hl hob hb (Et g.m k.obj b (av σ k.obj) σ.μ t.who (ay k.w) ⟨t.x.flow, t.x.a, t.x.b⟩ (S.cells _ hob) hN)) fun _ H4 h4 => ?_;refine bh h4 ae rfl rfl fun H5 h5 => ?_;refine ar h5 ae rfl ?_;refine aa (bf (by omega)) ?_;refine gs ?_;refine bh h5 ae rfl rfl fun H6 h6 => ?_;refine ag (bI ..) ?_;have e1 := zh σ t;rw [hobj, hw0, ← e1] at h6;exact am (cG (g := g) (σ' := fI σ t) (t' := { t with at' := 21 }) (k := { k with a := 21, obj := t.obj, w := t.w }) (by simp only [ai, hat]) (by simp [fO, hcode]) (aD (σ := σ) hg (by simp) (jh σ t)) h6.to)
theorem Y6 (S : SOk σ) (T : eM σ t) (hat : t.at' = 11) : Sp dj [vp x, vi now] (xP x P σ t) (fun _ : Unit => vb (ai σ t now).2.2) (fun _ => xQ x P (ai σ t now)) := by
 have hN : σ.μ.N < 1099511627000 := by have := S.N; omega
 refine aW fun R H h => ?_;obtain ⟨k, g, hR, hg, h0⟩ := b4 h;have hl := hg.1;simp only [fO, hat] at hR;obtain ⟨ha, hobj, hw0, hcode⟩ := hR;have ho := T.obj (.inl (by omega))
 have hob : k.obj < σ.obs.length := by omega
 obtain ⟨b, hb⟩ : ∃ b, g.rp[k.obj]? = some b := ⟨_, bu (by omega)⟩;refine br x P g σ t k now S T (by omega) h0 fun b1 H1 h1 => ?_;refine ac7 (by omega) ?_;refine aa (bf (by omega)) ?_;refine ag (sD ..) ?_;refine gs ?_;refine af h1 (iY x P g σ t k hl b hob hb) fun _ H2 h2 => ?_;refine bn ae ?_;refine aP h2 rfl ?_;refine aG h1 h2 (by rfl) ?_;refine af h2 (u1 x P t k (by rw [hw0]; exact T.w)) fun _ H3 h3 => ?_;refine aG h3 h2 (by rfl) ?_;have hwc := dQ k.w;refine af h3 (l8 (p := P) (μ' := (σ.μ.acc t.who 2 (15, (k.obj : Int), ((ay k.w % (av σ k.obj).length : Nat) : Int))).put (15, (k.obj : Int), ((ay k.w % (av σ k.obj).length : Nat) : Int)) (ay k.w + 1)) (by simp) hl hob hb (Cq g.m k.obj b (av σ k.obj) σ.μ t.who (ay k.w) (by omega) (S.cells _ hob) hN)) fun _ H4 h4 => ?_;rw [hobj, hw0] at h4;exact am (Cj (g := g) (k := k) (σ' := xu σ t) (t' := t) (by simp only [ai, hat]) hcode (aD (σ := σ) hg (by simp) rfl) h4.to)
theorem Y7 (S : SOk σ) (T : eM σ t) (hat : t.at' = 12) : Sp dj [vp x, vi now] (xP x P σ t) (fun _ : Unit => vb (ai σ t now).2.2) (fun _ => xQ x P (ai σ t now)) := by
 have hN : σ.μ.N < 1099511627000 := by have := S.N; omega
 refine aW fun R H h => ?_;obtain ⟨k, g, hR, hg, h0⟩ := b4 h;have hl := hg.1;simp only [fO, hat] at hR;obtain ⟨ha, hobj, hw0⟩ := hR;have ho := T.obj (.inl (by omega))
 have hob : k.obj < σ.obs.length := by omega
 obtain ⟨b, hb⟩ : ∃ b, g.rp[k.obj]? = some b := ⟨_, bu (by omega)⟩;refine br x P g σ t k now S T (by omega) h0 fun b1 H1 h1 => ?_;refine ac7 (by omega) ?_;refine aa (aM (by omega)) ?_;refine ag (sD ..) ?_;refine gs ?_;refine aa (bf (by omega)) ?_;refine ag (BN ..) ?_;refine gs ?_;refine ar h1 ae rfl ?_;refine ar h1 ae rfl ?_;refine af h1 (u6 (p := P) (g := g) (σ := σ) (μ' := σ.μ.cnt t.who (3, 0, 0) 4294967296) (L := σ.μ.N) (by simp) (Ho g.ib g.m σ.c.sh σ.nx σ.μ.N σ.μ t.who hN)) fun _ H2 h2 => ?_;refine bh h2 ae rfl rfl fun H3 h3 => ?_;refine ag (bI ..) ?_;exact am (cG (g := g) (σ' := σ.mem (σ.μ.cnt t.who (3, 0, 0) 4294967296)) (t' := { t with at' := 13 }) (k := { k with a := 13 }) (by simp only [ai, hat]) (by simp [fO, hobj, hw0]) (aD (σ := σ) hg (by simp) rfl) h3.to)
theorem Za (S : SOk σ) (T : eM σ t) (hat : t.at' = 15) : Sp dj [vp x, vi now] (xP x P σ t) (fun _ : Unit => vb (ai σ t now).2.2) (fun _ => xQ x P (ai σ t now)) := by
 have hN : σ.μ.N < 1099511627000 := by have := S.N; omega
 refine aW fun R H h => ?_;obtain ⟨k, g, hR, hg, h0⟩ := b4 h;have hl := hg.1;simp only [fO, hat] at hR;obtain ⟨ha, hobj⟩ := hR;have ho := T.obj (.inl (by omega))
 have hob : k.obj < σ.obs.length := by omega
 obtain ⟨b, hb⟩ : ∃ b, g.rp[k.obj]? = some b := ⟨_, bu (by omega)⟩;refine br x P g σ t k now S T (by omega) h0 fun b1 H1 h1 => ?_;refine UX (by omega) ?_;refine aa (bf (by omega)) ?_;refine gs ?_;refine ag (kV ..) ?_;refine gs ?_;refine l6 ?_;refine aZ (fun r => G1 _ _ H1) ?_;refine ag (qD ..) ?_;refine ar h1 ae rfl ?_;refine ag (qE ..) ?_;refine aa (bf (by omega)) ?_;refine gs ?_;refine ar h1 ae rfl ?_;refine ar h1 ae rfl ?_;refine af h1 (Cn P g σ t.who S.N) fun _ H2 h2 => ?_;refine bh h2 ae rfl rfl fun H3 h3 => ?_;refine bh h3 ae rfl rfl fun H4 h4 => ?_;refine ar h4 ae rfl ?_;refine aa (PT 2 (by omega)) ?_
 by_cases hw : σ.μ.V (2, 0, 0) % 2 = 1
 ·refine aa (bf (show ((σ.μ.V (2, 0, 0) % 2 : Nat) : Int) = 1 by omega)) ?_
  refine gs ?_;refine bh h4 ae rfl rfl fun H5 h5 => ?_;refine ag (iL ..) ?_;exact am (cG (g := g) (σ' := l5 σ t) (t' := { t with at' := 7, q := σ.μ.V (2, 0, 0) }) (k := { k with a := 7, q := σ.μ.V (2, 0, 0) }) (by simp only [ai, hat]; rw [if_pos hw]) (by simp [fO, hobj]) (aD (σ := σ) hg (by simp) rfl) h5.to)
 ·refine aa (aM (show ¬ ((σ.μ.V (2, 0, 0) % 2 : Nat) : Int) = 1 by omega)) ?_
  refine gs ?_;refine ag (iL ..) ?_;exact am (cG (g := g) (σ' := l5 σ t) (t' := { t with at' := 16, q := σ.μ.V (2, 0, 0) }) (k := { k with a := 16, q := σ.μ.V (2, 0, 0) }) (by simp only [ai, hat]; rw [if_neg hw]) (by simp [fO, hobj]) (aD (σ := σ) hg (by simp) rfl) h4.to)
theorem Zb (S : SOk σ) (T : eM σ t) (hat : t.at' = 16) : Sp dj [vp x, vi now] (xP x P σ t) (fun _ : Unit => vb (ai σ t now).2.2) (fun _ => xQ x P (ai σ t now)) := by
 have hN : σ.μ.N < 1099511627000 := by have := S.N; omega
 refine aW fun R H h => ?_;obtain ⟨k, g, hR, hg, h0⟩ := b4 h;have hl := hg.1;simp only [fO, hat] at hR;obtain ⟨ha, hobj, hq⟩ := hR;have ho := T.obj (.inl (by omega))
 have hob : k.obj < σ.obs.length := by omega
 obtain ⟨b, hb⟩ : ∃ b, g.rp[k.obj]? = some b := ⟨_, bu (by omega)⟩;refine br x P g σ t k now S T (by omega) h0 fun b1 H1 h1 => ?_;refine UX (by omega) ?_;refine aa (aM (by omega)) ?_;refine gs ?_;refine aa (bf (by omega)) ?_;refine gs ?_;refine ag (kV ..) ?_;refine gs ?_;refine l6 ?_;refine aZ (fun r => G1 _ _ H1) ?_;refine ag (qD ..) ?_;refine ar h1 ae rfl ?_;refine ag (qE ..) ?_;refine aa (aM (by omega)) ?_;refine gs ?_;refine aa (bf (by omega)) ?_;refine gs ?_;refine bh h1 ae rfl rfl fun H2 h2 => ?_;refine af h2 (Qj x P g σ t { k with a := 17 } S hl b hob hb) fun _ H3 h3 => ?_;dsimp only at h3;rw [hobj] at h3
 by_cases hw : aL (σ.μ.V (11, (t.obj : Int), 0)) = 2
 ·refine aa (bf (by rw [hobj]; exact hw)) ?_
  refine gs ?_;refine bh h3 ae rfl rfl fun H4 h4 => ?_;refine ag (iL ..) ?_;exact am (cG (g := g) (σ' := jA σ t) (t' := { t with at' := 3, w := σ.μ.V (11, (t.obj : Int), 0) }) (k := { k with a := 3, obj := t.obj, w := σ.μ.V (11, (t.obj : Int), 0) }) (by simp only [ai, hat]; rw [if_pos hw]) (by simp [fO]) (aD (σ := σ) hg (by simp) rfl) h4.to)
 ·refine aa (aM (by rw [hobj]; exact hw)) ?_
  refine gs ?_;refine ag (iL ..) ?_;exact am (cG (g := g) (σ' := jA σ t) (t' := { t with at' := 17, w := σ.μ.V (11, (t.obj : Int), 0) }) (k := { k with a := 17, obj := t.obj, w := σ.μ.V (11, (t.obj : Int), 0) }) (by simp only [ai, hat]; rw [if_neg hw]) (by simp [fO, hq]) (aD (σ := σ) hg (by simp) rfl) h3.to)
theorem Zd (S : SOk σ) (T : eM σ t) (hat : t.at' = 17) : Sp dj [vp x, vi now] (xP x P σ t) (fun _ : Unit => vb (ai σ t now).2.2) (fun _ => xQ x P (ai σ t now)) := by
 have hN : σ.μ.N < 1099511627000 := by have := S.N; omega
 refine aW fun R H h => ?_;obtain ⟨k, g, hR, hg, h0⟩ := b4 h;have hl := hg.1;simp only [fO, hat] at hR;obtain ⟨ha, hobj, hw0, hq⟩ := hR;have ho := T.obj (.inl (by omega))
 have hob : k.obj < σ.obs.length := by omega
 obtain ⟨b, hb⟩ : ∃ b, g.rp[k.obj]? = some b := ⟨_, bu (by omega)⟩;refine br x P g σ t k now S T (by omega) h0 fun b1 H1 h1 => ?_;refine UX (by omega) ?_;refine aa (aM (by omega)) ?_;refine gs ?_;refine aa (aM (by omega)) ?_;refine gs ?_;refine aa (bf (by omega)) ?_;refine gs ?_;refine ag (kV ..) ?_;refine gs ?_;refine l6 ?_;refine aZ (fun r => G1 _ _ H1) ?_;refine ag (qD ..) ?_;refine ar h1 ae rfl ?_;refine ag (qE ..) ?_;refine aa (aM (by omega)) ?_;refine gs ?_;refine aa (aM (by omega)) ?_;refine gs ?_;refine aa (bf (by omega)) ?_;refine gs ?_;refine af h1 (iY x P g σ t k hl b hob hb) fun _ H2 h2 => ?_;refine bn ae ?_;refine aP h2 rfl ?_;refine aG h1 h2 (by rfl) ?_;refine af h2 (l8 (p := P) (μ' := σ.μ.acc t.who 1 (12, (k.obj : Int), 0)) (by simp) hl hob hb (Cp g.m k.obj b (av σ k.obj) σ.μ t.who hN)) fun _ H3 h3 => ?_;refine bh h3 ae rfl rfl fun H4 h4 => ?_;refine bh h4 ae rfl rfl fun H5 h5 => ?_;refine bh h5 ae rfl rfl fun H6 h6 => ?_;refine af h6 (iY x P g (σ.mem (σ.μ.acc t.who 1 (12, (k.obj : Int), 0))) t { k with h := σ.μ.V (12, (k.obj : Int), 0), mark := now, a := 18 } hl b hob hb) fun _ H7 h7 => ?_;refine bn ae ?_;refine aP h7 rfl ?_;refine aG h6 h7 (by rfl) ?_;refine bn ae ?_;refine aP h7 rfl ?_;refine aG h6 h7 (by rfl) ?_;refine af h7 (Hu (p := P) (σ := σ.mem (σ.μ.acc t.who 1 (12, (k.obj : Int), 0))) hl hob hb (Co g.m k.obj b (av σ k.obj) k.w (σ.μ.V (12, (k.obj : Int), 0)) (by rw [hw0]; exact T.w) (S.cells _ hob).2)) fun _ H8 h8 => ?_;rw [hobj, hw0] at h8;rw [hobj, hw0];cases hf : lp t.w (σ.μ.V (12, (t.obj : Int), 0)) (av σ t.obj).length
 ·refine gs ?_
  rw [Bool.not_false];refine gs ?_;refine bh h8 ae rfl rfl fun H9 h9 => ?_;refine ag (iL ..) ?_;exact am (cG (g := g) (σ' := gP σ t) (t' := { t with at' := 7 }) (k := { k with a := 7, obj := t.obj, w := t.w, h := σ.μ.V (12, (t.obj : Int), 0), mark := now }) (by simp only [ai, hat, il, hf]; rfl) (by simp [fO]) (aD (σ := σ) hg (by simp) rfl) h9.to)
 ·refine gs ?_
  rw [Bool.not_true];refine gs ?_;refine ag (iL ..) ?_;exact am (cG (g := g) (σ' := gP σ t) (t' := { t with at' := 18, mark := now }) (k := { k with a := 18, obj := t.obj, w := t.w, h := σ.μ.V (12, (t.obj : Int), 0), mark := now }) (by simp only [ai, hat, il, hf]; rfl) (by simp [fO, hq]) (aD (σ := σ) hg (by simp) rfl) h8.to)
theorem Ze (S : SOk σ) (T : eM σ t) (hat : t.at' = 18) : Sp dj [vp x, vi now] (xP x P σ t) (fun _ : Unit => vb (ai σ t now).2.2) (fun _ => xQ x P (ai σ t now)) := by
 have hN : σ.μ.N < 1099511627000 := by have := S.N; omega
 refine aW fun R H h => ?_;obtain ⟨k, g, hR, hg, h0⟩ := b4 h;have hl := hg.1;simp only [fO, hat] at hR;obtain ⟨ha, hobj, hq, hm⟩ := hR;have ho := T.obj (.inl (by omega))
 have hob : k.obj < σ.obs.length := by omega
 obtain ⟨b, hb⟩ : ∃ b, g.rp[k.obj]? = some b := ⟨_, bu (by omega)⟩;refine br x P g σ t k now S T (by omega) h0 fun b1 H1 h1 => ?_;refine UX (by omega) ?_;refine aa (aM (by omega)) ?_;refine gs ?_;refine aa (aM (by omega)) ?_;refine gs ?_;refine aa (aM (by omega)) ?_;refine gs ?_;refine aa (bf (by omega)) ?_;refine ag (kV ..) ?_;refine gs ?_;refine l6 ?_;refine aZ (fun r => G1 _ _ H1) ?_;refine ag (qD ..) ?_;refine ar h1 ae rfl ?_;refine ag (qE ..) ?_;refine aa (aM (by omega)) ?_;refine gs ?_;refine aa (aM (by omega)) ?_;refine gs ?_;refine aa (aM (by omega)) ?_;refine gs ?_;refine aa (bf (by omega)) ?_;refine gs ?_;refine ar h1 ae rfl ?_;refine ar h1 ae rfl ?_;refine af h1 (Cn P g σ t.who S.N) fun _ H2 h2 => ?_;refine bn ae ?_;refine aP h2 rfl ?_;refine aG h1 h2 (by rfl) ?_
 by_cases hw : σ.μ.V (2, 0, 0) = t.q
 ·refine aa (bf (show ((σ.μ.V (2, 0, 0) : Nat) : Int) = (k.q : Int) by omega)) ?_
  refine gs ?_;refine ar h2 ae rfl ?_;rw [hm];refine af h2 (zu x P g (l5 σ t) t k (aD (σ := σ) hg (by simp) rfl) t.mark 9 (by have := S.N; show σ.μ.N + 2 < _; omega) S.pts) fun v H3 h3 => ?_;exact am (Cj (g := { g with pv := v }) (k := { k with code := 9 }) (σ' := (l5 σ t).note t.mark t.who 9) (t' := { t with code := 9 }) (by simp only [ai, hat]; rw [if_pos hw]) rfl (kN (σ := σ) hg (by simp) rfl) h3.to)
 ·refine aa (aM (show ¬ ((σ.μ.V (2, 0, 0) : Nat) : Int) = (k.q : Int) by omega)) ?_
  refine gs ?_;refine bh h2 ae rfl rfl fun H3 h3 => ?_;refine ag (iL ..) ?_;exact am (cG (g := g) (σ' := l5 σ t) (t' := { t with at' := 7 }) (k := { k with a := 7 }) (by simp only [ai, hat]; rw [if_neg hw]) (by simp [fO, hobj]) (aD (σ := σ) hg (by simp) rfl) h3.to)
theorem Zf (S : SOk σ) (T : eM σ t) (hat : t.at' = 20) : Sp dj [vp x, vi now] (xP x P σ t) (fun _ : Unit => vb (ai σ t now).2.2) (fun _ => xQ x P (ai σ t now)) := by
 have hN : σ.μ.N < 1099511627000 := by have := S.N; omega
 refine aW fun R H h => ?_;obtain ⟨k, g, hR, hg, h0⟩ := b4 h;have hl := hg.1;simp only [fO, hat] at hR;obtain ⟨ha, hobj⟩ := hR;have ho := T.obj (.inl (by omega))
 have hob : k.obj < σ.obs.length := by omega
 obtain ⟨b, hb⟩ : ∃ b, g.rp[k.obj]? = some b := ⟨_, bu (by omega)⟩;refine br x P g σ t k now S T (by omega) h0 fun b1 H1 h1 => ?_;refine chw (by omega) ?_;refine l6 ?_;refine aZ (fun r => wI _ _ H1) ?_;refine ar h1 ae rfl ?_;refine ag (j0 ..) ?_;refine ar h1 ae rfl ?_;refine ag (j5 ..) ?_;refine aa (bf (by omega)) ?_;refine gs ?_;refine ar h1 ae rfl ?_;refine ar h1 ae rfl ?_;refine af h1 (u6 (p := P) (g := g) (σ := σ) (μ' := σ.μ.cnt t.who (3, 0, 0) 1) (L := σ.μ.N) (by simp) (Cm g.ib g.m σ.c.sh σ.nx σ.μ.N σ.μ t.who hN)) fun _ H2 h2 => ?_;refine bh h2 ae rfl rfl fun H3 h3 => ?_;refine ag (j4 ..) ?_;exact am (cG (g := g) (σ' := σ.mem (σ.μ.cnt t.who (3, 0, 0) 1)) (t' := { t with at' := 7 }) (k := { k with a := 7 }) (by simp only [ai, hat]) (by simp [fO, hobj]) (aD (σ := σ) hg (by simp) rfl) h3.to)
theorem Zg (S : SOk σ) (T : eM σ t) (hat : t.at' = 21) : Sp dj [vp x, vi now] (xP x P σ t) (fun _ : Unit => vb (ai σ t now).2.2) (fun _ => xQ x P (ai σ t now)) := by
 have hN : σ.μ.N < 1099511627000 := by have := S.N; omega
 refine aW fun R H h => ?_;obtain ⟨k, g, hR, hg, h0⟩ := b4 h;have hl := hg.1;simp only [fO, hat] at hR;obtain ⟨ha, hobj, hw0, hcode⟩ := hR;have ho := T.obj (.inl (by omega))
 have hob : k.obj < σ.obs.length := by omega
 obtain ⟨b, hb⟩ : ∃ b, g.rp[k.obj]? = some b := ⟨_, bu (by omega)⟩;refine br x P g σ t k now S T (by omega) h0 fun b1 H1 h1 => ?_;refine chw (by omega) ?_;refine l6 ?_;refine aZ (fun r => wI _ _ H1) ?_;refine ar h1 ae rfl ?_;refine ag (j0 ..) ?_;refine ar h1 ae rfl ?_;refine ag (j5 ..) ?_;refine aa (aM (by omega)) ?_;refine gs ?_;refine aa (bf (by omega)) ?_;refine gs ?_;refine af h1 (iY x P g σ t k hl b hob hb) fun _ H2 h2 => ?_;refine bn ae ?_;refine aP h2 rfl ?_;refine aG h1 h2 (by rfl) ?_;refine af h2 (u1 x P t k (by rw [hw0]; exact T.w)) fun _ H3 h3 => ?_;refine aG h3 h2 (by rfl) ?_;have hwc := dQ k.w;refine af h3 (l8 (p := P) (μ' := (σ.μ.acc t.who 2 (15, (k.obj : Int), ((ay k.w % (av σ k.obj).length : Nat) : Int))).put (15, (k.obj : Int), ((ay k.w % (av σ k.obj).length : Nat) : Int)) (ay k.w + 1)) (by simp) hl hob hb (Cq g.m k.obj b (av σ k.obj) σ.μ t.who (ay k.w) (by omega) (S.cells _ hob) hN)) fun _ H4 h4 => ?_;refine bh h4 ae rfl rfl fun H5 h5 => ?_;refine ag (j4 ..) ?_;rw [hobj, hw0] at h5;exact am (cG (g := g) (σ' := xu σ t) (t' := { t with at' := 22 }) (k := { k with a := 22, obj := t.obj, w := t.w }) (by simp only [ai, hat]) (by simp [fO, hcode]) (aD (σ := σ) hg (by simp) rfl) h5.to)
theorem Zh (S : SOk σ) (T : eM σ t) (hat : t.at' = 22) : Sp dj [vp x, vi now] (xP x P σ t) (fun _ : Unit => vb (ai σ t now).2.2) (fun _ => xQ x P (ai σ t now)) := by
 have hN : σ.μ.N < 1099511627000 := by have := S.N; omega
 refine aW fun R H h => ?_;obtain ⟨k, g, hR, hg, h0⟩ := b4 h;have hl := hg.1;simp only [fO, hat] at hR;obtain ⟨ha, hobj, hcode⟩ := hR;have ho := T.obj (.inl (by omega))
 have hob : k.obj < σ.obs.length := by omega
 obtain ⟨b, hb⟩ : ∃ b, g.rp[k.obj]? = some b := ⟨_, bu (by omega)⟩;refine br x P g σ t k now S T (by omega) h0 fun b1 H1 h1 => ?_;refine chw (by omega) ?_;refine l6 ?_;refine aZ (fun r => wI _ _ H1) ?_;refine ar h1 ae rfl ?_;refine ag (j0 ..) ?_;refine ar h1 ae rfl ?_;refine ag (j5 ..) ?_;refine aa (aM (by omega)) ?_;refine gs ?_;refine aa (aM (by omega)) ?_;refine gs ?_;refine aa (bf (by omega)) ?_;refine gs ?_;refine ar h1 ae rfl ?_;refine ar h1 ae rfl ?_;refine af h1 (u6 (p := P) (g := g) (σ := σ) (μ' := σ.μ.acc t.who 1 (9, t.s, 0)) (L := σ.μ.N) (by simp) (MU g.ib g.m σ.c.sh σ.nx σ.μ.N σ.μ t.who t.s hN)) fun _ H2 h2 => ?_;refine bh h2 ae rfl rfl fun H3 h3 => ?_;refine bh h3 ae rfl rfl fun H4 h4 => ?_;refine ag (j4 ..) ?_;exact am (cG (g := g) (σ' := σ.mem (σ.μ.acc t.who 1 (9, t.s, 0))) (t' := { t with at' := 23, top := σ.μ.V (9, t.s, 0) }) (k := { k with a := 23, top := σ.μ.V (9, t.s, 0) }) (by simp only [ai, hat]) (by simp [fO, hobj, hcode]) (aD (σ := σ) hg (by simp) rfl) h4.to)
theorem Zi (S : SOk σ) (T : eM σ t) (hat : t.at' = 23) : Sp dj [vp x, vi now] (xP x P σ t) (fun _ : Unit => vb (ai σ t now).2.2) (fun _ => xQ x P (ai σ t now)) := by
 have hN : σ.μ.N < 1099511627000 := by have := S.N; omega
 refine aW fun R H h => ?_;obtain ⟨k, g, hR, hg, h0⟩ := b4 h;have hl := hg.1;simp only [fO, hat] at hR;obtain ⟨ha, hobj, htop, hcode⟩ := hR;have ho := T.obj (.inl (by omega))
 have hob : k.obj < σ.obs.length := by omega
 obtain ⟨b, hb⟩ : ∃ b, g.rp[k.obj]? = some b := ⟨_, bu (by omega)⟩;refine br x P g σ t k now S T (by omega) h0 fun b1 H1 h1 => ?_;refine chw (by omega) ?_;refine l6 ?_;refine aZ (fun r => wI _ _ H1) ?_;refine ar h1 ae rfl ?_;refine ag (j0 ..) ?_;refine ar h1 ae rfl ?_;refine ag (j5 ..) ?_;refine aa (aM (by omega)) ?_;refine gs ?_;refine aa (aM (by omega)) ?_;refine gs ?_;refine aa (aM (by omega)) ?_;refine gs ?_;refine aa (bf (by omega)) ?_;refine gs ?_;refine ar h1 ae rfl ?_;refine ar h1 ae rfl ?_;refine ar h1 ae rfl ?_;refine ar h1 ae rfl ?_;refine af h1 (u6 (p := P) (g := g) (σ := σ) (μ' := σ.μ.acc t.who 6 (14, (k.obj : Int), 0)) (L := σ.μ.N + 1) (by simp) (JF g.ib g.m σ.c.sh σ.nx σ.μ.N σ.μ t.who k.obj k.top (by have := S.N; omega) hN)) fun _ H2 h2 => ?_;refine bh h2 ae rfl rfl fun H3 h3 => ?_;refine ag (j4 ..) ?_;rw [hobj, htop] at h3;exact am (cG (g := g) (σ' := { σ with μ := σ.μ.acc t.who 6 (14, (t.obj : Int), 0), nx := fun k => if k = (t.obj : Int) then some t.top else σ.nx k }) (t' := { t with at' := 24 }) (k := { k with a := 24, obj := t.obj, top := t.top }) (by simp only [ai, hat]) (by simp [fO, hcode]) (aD (σ := σ) hg (by simp) rfl) h3.to)
theorem Zj (S : SOk σ) (T : eM σ t) (hat : t.at' = 24) : Sp dj [vp x, vi now] (xP x P σ t) (fun _ : Unit => vb (ai σ t now).2.2) (fun _ => xQ x P (ai σ t now)) := by
 have hN : σ.μ.N < 1099511627000 := by have := S.N; omega
 refine aW fun R H h => ?_;obtain ⟨k, g, hR, hg, h0⟩ := b4 h;have hl := hg.1;simp only [fO, hat] at hR;obtain ⟨ha, hobj, htop, hcode⟩ := hR;have ho := T.obj (.inl (by omega))
 have hob : k.obj < σ.obs.length := by omega
 obtain ⟨b, hb⟩ : ∃ b, g.rp[k.obj]? = some b := ⟨_, bu (by omega)⟩;refine br x P g σ t k now S T (by omega) h0 fun b1 H1 h1 => ?_;refine chw (by omega) ?_;refine l6 ?_;refine aZ (fun r => wI _ _ H1) ?_;refine ar h1 ae rfl ?_;refine ag (j0 ..) ?_;refine ar h1 ae rfl ?_;refine ag (j5 ..) ?_;refine aa (aM (by omega)) ?_;refine gs ?_;refine aa (aM (by omega)) ?_;refine gs ?_;refine aa (aM (by omega)) ?_;refine gs ?_;refine aa (aM (by omega)) ?_;refine gs ?_;refine aa (bf (by omega)) ?_;refine gs ?_;refine bh h1 ae rfl rfl fun H2 h2 => ?_;refine ar h2 ae rfl ?_;refine ar h2 ae rfl ?_;refine ar h2 ae rfl ?_;refine ar h2 ae rfl ?_;refine af h2 (u6 (p := P) (g := g) (σ := σ) (μ' := σ.μ.swp t.who (9, t.s, 0) k.top (k.obj + 1)) (L := σ.μ.N) (by simp) (JG g.ib g.m σ.c.sh σ.nx σ.μ.N σ.μ t.who t.s k.top k.obj (by have := S.obs; omega) hN)) fun _ H3 h3 => ?_;rw [hobj, htop] at h3;rw [htop]
 by_cases hw : σ.μ.V (9, t.s, 0) = t.top
 ·rw [i4 hw]
  refine gs ?_;refine bh h3 ae rfl rfl fun H4 h4 => ?_;refine ag (j4 ..) ?_;exact am (cG (g := g) (σ' := σ.mem (σ.μ.swp t.who (9, t.s, 0) t.top (t.obj + 1))) (t' := { t with at' := 25 }) (k := { k with a := 25, obj := t.obj, top := t.top }) (by simp only [ai, hat]; rw [if_pos hw]) (by simp [fO, hcode]) (aD (σ := σ) hg (by simp) rfl) h4.to)
 ·rw [iv hw]
  refine gs ?_;refine ag (j4 ..) ?_;exact am (cG (g := g) (σ' := σ.mem (σ.μ.swp t.who (9, t.s, 0) t.top (t.obj + 1))) (t' := { t with at' := 22 }) (k := { k with a := 22, obj := t.obj, top := t.top }) (by simp only [ai, hat]; rw [if_neg hw]) (by simp [fO, hcode]) (aD (σ := σ) hg (by simp) rfl) h3.to)
theorem Zk (S : SOk σ) (T : eM σ t) (hat : t.at' = 25) : Sp dj [vp x, vi now] (xP x P σ t) (fun _ : Unit => vb (ai σ t now).2.2) (fun _ => xQ x P (ai σ t now)) := by
 have hN : σ.μ.N < 1099511627000 := by have := S.N; omega
 refine aW fun R H h => ?_;obtain ⟨k, g, hR, hg, h0⟩ := b4 h;have hl := hg.1;simp only [fO, hat] at hR;obtain ⟨ha, hcode⟩ := hR;refine br x P g σ t k now S T (by omega) h0 fun b1 H1 h1 => ?_;refine chw (by omega) ?_;refine l6 ?_;refine aZ (fun r => wI _ _ H1) ?_;refine ar h1 ae rfl ?_;refine ag (j0 ..) ?_;refine ar h1 ae rfl ?_;refine ag (j5 ..) ?_;refine aa (aM (by omega)) ?_;refine gs ?_;refine aa (aM (by omega)) ?_;refine gs ?_;refine aa (aM (by omega)) ?_;refine gs ?_;refine aa (aM (by omega)) ?_;refine gs ?_;refine aa (aM (by omega)) ?_;refine gs ?_;refine aa (bf (by omega)) ?_;refine gs ?_;refine ar h1 ae rfl ?_;refine ar h1 ae rfl ?_;refine af h1 (u6 (p := P) (g := g) (σ := σ) (μ' := σ.μ.cnt t.who (3, 0, 0) 1) (L := σ.μ.N) (by simp) (Cm g.ib g.m σ.c.sh σ.nx σ.μ.N σ.μ t.who hN)) fun _ H2 h2 => ?_;exact am (Cj (g := g) (k := k) (σ' := σ.mem (σ.μ.cnt t.who (3, 0, 0) 1)) (t' := t) (by simp only [ai, hat]) hcode (aD (σ := σ) hg (by simp) rfl) h2.to)
theorem Y4 {R : SP} {H1 : AH} {b1 : Nat} {sv : Value} (g : XIds) (k : Xk) (S : SOk σ) (T : eM σ t) (hg : fy g σ) (ha : k.a = 2) (hI : k.I = t.i) (hh : k.hit = false) (hi : (t.i : Int) < σ.c.sl)
 (h1 : ac (blk b1 (.cells false [vi t.x.flow, vi t.x.a, vi t.x.b]) * (xB x P t k * (aw P g σ * R))) H1) :
 wp (Mm (vp x) (vi now) (vb false) (vp P) sv (vp b1) (vi k.a) (vb true) H1) fun v' H' => ∃ y : Unit, v' = vb (eL σ t).2.2 ∧ ac (xQ x P (eL σ t) * R) H' := by
 refine ag (mT ..) ?_;refine gs ?_;refine af h1 (Qi x P g σ t k S T hI hi) fun k2 H2 h2 => ?_;rw [ak, ac.pu] at h2;obtain ⟨hX, h2⟩ := h2;obtain ⟨x1, x2, x3, x4, x5, x6, x7, x8⟩ := hX;refine aa (v := vb (aC σ t).found) rfl ?_;refine aa (v := vb (!(aC σ t).found && cT σ (aC σ t))) rfl ?_;cases hf : (aC σ t).found
 ·obtain ⟨y1, y2⟩ := x8 hf
  refine gs ?_;rw [Bool.not_false, Bool.true_and];cases hla : cT σ (aC σ t)
  ·refine gs ?_
   refine ag (bI ..) ?_;exact am (cG (g := g) (k := k2) (σ' := bR σ t) (t' := { aC σ t with at' := 2 }) (by simp only [eL, hf, hla]; rfl) (by simp [fO, x1, ha, y1, y2, hh, hI, aC]) (aD (σ := σ) hg (by simp) rfl) (show ac (xB x P t k2 * (aw P g (bR σ t) * R)) H2 from h2.to))
  ·refine gs ?_
   refine bh h2 ae rfl rfl fun H3 h3 => ?_;refine ag (bI ..) ?_;exact am (cG (g := g) (k := { k2 with a := 3 }) (σ' := bR σ t) (t' := { aC σ t with at' := 3 }) (by simp only [eL, hf, hla]; rfl) (by simp [fO]) (aD (σ := σ) hg (by simp) rfl) (show ac (xB x P t { k2 with a := 3 } * (aw P g (bR σ t) * R)) H3 from h3.to))
 ·obtain ⟨y1, y2⟩ := x7 hf
  refine gs ?_;refine bh h2 ae rfl rfl fun H3 h3 => ?_;refine ag (bI ..) ?_;exact am (cG (g := g) (k := { k2 with a := 6 }) (σ' := bR σ t) (t' := { aC σ t with at' := 6 }) (by simp only [eL, hf]; rfl) (by simp [fO, y2]) (aD (σ := σ) hg (by simp) rfl) (show ac (xB x P t { k2 with a := 6 } * (aw P g (bR σ t) * R)) H3 from h3.to))
theorem abU (S : SOk σ) (T : eM σ t) (hat : t.at' = 2) : Sp dj [vp x, vi now] (xP x P σ t) (fun _ : Unit => vb (ai σ t now).2.2) (fun _ => xQ x P (ai σ t now)) := by
 have hN : σ.μ.N < 1099511627000 := by have := S.N; omega
 refine aW fun R H h => ?_;obtain ⟨k, g, hR, hg, h0⟩ := b4 h;have hl := hg.1;simp only [fO, hat] at hR;obtain ⟨ha, hI, hh⟩ := hR;have hi := T.i (by omega) (by omega)
 have hs : ai σ t now = eL σ t := by simp only [ai, hat, eL]
 rw [hs];refine br x P g σ t k now S T (by omega) h0 fun b1 H1 h1 => ?_;refine ag (jZ ..) ?_;refine aa (bf (by omega)) ?_;exact Y4 x P σ t now g k S T hg ha hI hh hi h1
theorem abW (S : SOk σ) (T : eM σ t) (hat : t.at' = 4) : Sp dj [vp x, vi now] (xP x P σ t) (fun _ : Unit => vb (ai σ t now).2.2) (fun _ => xQ x P (ai σ t now)) := by
 have hN : σ.μ.N < 1099511627000 := by have := S.N; omega
 refine aW fun R H h => ?_;obtain ⟨k, g, hR, hg, h0⟩ := b4 h;have hl := hg.1;simp only [fO, hat] at hR;obtain ⟨ha, hI, hh⟩ := hR;have hi := T.i (by omega) (by omega);refine br x P g σ t k now S T (by omega) h0 fun b1 H1 h1 => ?_;refine ag (jZ ..) ?_;refine aa (aM (by omega)) ?_;refine ag (mT ..) ?_;refine gs ?_;refine aa (aM (by omega)) ?_;refine ag (nF ..) ?_;refine gs ?_;refine aa (bf (by omega)) ?_;refine ag (sy ..) ?_;refine gs ?_;refine af h1 (Qi x P g σ t k S T hI hi) fun k2 H2 h2 => ?_;rw [ak, ac.pu] at h2;obtain ⟨hX, h2⟩ := h2;obtain ⟨x1, x2, x3, x4, x5, x6, x7, x8⟩ := hX;refine aa (v := vb (aC σ t).found) rfl ?_;refine aa (v := vb (!(aC σ t).found && cT σ (aC σ t))) rfl ?_;cases hf : (aC σ t).found
 ·obtain ⟨y1, y2⟩ := x8 hf
  refine gs ?_;rw [Bool.not_false, Bool.true_and];cases hla : cT σ (aC σ t)
  ·refine gs ?_
   refine ag (bI ..) ?_;exact am (cG (g := g) (k := k2) (σ' := bR σ t) (t' := aC σ t) (by simp only [ai, hat, hf, hla]; rfl) (by simp [fO, x1, ha, y1, y2, hh, hI, aC, hat]) (aD (σ := σ) hg (by simp) rfl) (show ac (xB x P t k2 * (aw P g (bR σ t) * R)) H2 from h2.to))
  ·refine gs ?_
   refine af h2 (zu x P g (bR σ t) t k2 (aD (σ := σ) hg (by simp) rfl) now 5 (by have := S.N; show σ.μ.N + 2 < _; omega) S.pts) fun v H3 h3 => ?_;refine bh h3 ae rfl rfl fun H4 h4 => ?_;refine ag (bI ..) ?_;exact am (cG (g := { g with pv := v }) (k := { k2 with a := 5, code := 5 }) (σ' := (bR σ t).note now t.who 5) (t' := { aC σ t with at' := 5, code := 5 }) (by simp only [ai, hat, hf, hla]; rfl) (by simp [fO, hf, y1, hh]) (kN (σ := σ) hg (by simp) rfl) (show ac (xB x P t { k2 with a := 5, code := 5 } * (aw P { g with pv := v } ((bR σ t).note now t.who 5) * R)) H4 from h4.to))
 ·obtain ⟨y1, y2⟩ := x7 hf
  refine gs ?_;refine bh h2 ae rfl rfl fun H3 h3 => ?_;refine ag (bI ..) ?_;exact am (cG (g := g) (k := { k2 with a := 5 }) (σ' := bR σ t) (t' := { aC σ t with at' := 5 }) (by simp only [ai, hat, hf]; rfl) (by simp [fO, hf, y1, y2]) (aD (σ := σ) hg (by simp) rfl) (show ac (xB x P t { k2 with a := 5 } * (aw P g (bR σ t) * R)) H3 from h3.to))
theorem abT (S : SOk σ) (T : eM σ t) (hat : t.at' = 0) : Sp dj [vp x, vi now] (xP x P σ t) (fun _ : Unit => vb (ai σ t now).2.2) (fun _ => xQ x P (ai σ t now)) := by
 have hN : σ.μ.N < 1099511627000 := by have := S.N; omega
 refine aW fun R H h => ?_;obtain ⟨k, g, hR, hg, h0⟩ := b4 h;have hl := hg.1;simp only [fO, hat] at hR;obtain ⟨ha, hI, hh⟩ := hR;have hi := T.i (by omega) (by omega);refine JE x P g σ t k now S T h0 fun b1 H1 h1 => ?_;refine ag (D5 ..) ?_;refine ar h1 ae rfl ?_;refine aa (bf (by omega)) ?_;refine gs ?_
 have fin : ∀ code, dA t.x = some code → wp ((FF ch [vp x, vi now, vi code] H1).bind fun r125 => some ((vb true), r125.2)) fun v' H' => ∃ y : Unit, v' = vb (ai σ t now).2.2 ∧ ac (xQ x P (ai σ t now) * R) H' := by
  intro code hx;refine af h1 (zu x P g σ t k hg now code (by have := S.N; omega) S.pts) fun v H2 h2 => ?_;exact am (Cj (g := { g with pv := v }) (k := { k with code := code }) (σ' := σ.note now t.who code) (t' := { t with code := code }) (by simp only [ai, hat, hx]) rfl (kN (σ := σ) hg (bm _) rfl) h2.to)
 refine ar h1 (ik (cm (cm cj))) rfl ?_
 by_cases ha1 : t.x.a < 1
 ·refine aa (cy ha1) ?_
  refine gs ?_;exact fin 3 (by rw [dA, if_pos (.inl ha1)])
 ·refine aa (bF ha1) ?_
  refine gs ?_;refine ar h1 (ik (cm (cm cj))) rfl ?_;refine gs ?_
  by_cases ha2 : 65536 < t.x.a
  ·refine aa (w6 ha2) ?_
   refine gs ?_;exact fin 3 (by rw [dA, if_pos (.inr ha2)])
  ·refine aa (gO ha2) ?_
   refine gs ?_;refine ar h1 (ik (cm (cm cj))) rfl ?_
   by_cases hf : t.x.flow < 0
   ·refine aa (cy hf) ?_
    refine gs ?_;exact fin 5 (by rw [dA, if_neg (by omega), if_pos (.inl hf)])
   ·refine aa (bF hf) ?_
    refine gs ?_;refine ar h1 (ik (cm (cm cj))) rfl ?_;refine gs ?_
    by_cases hf2 : 1048576 < t.x.flow
    ·refine aa (w6 hf2) ?_
     refine gs ?_;exact fin 5 (by rw [dA, if_neg (by omega), if_pos (.inr hf2)])
    ·refine aa (gO hf2) ?_
     refine gs ?_
     have hx : dA t.x = none := by rw [dA, if_neg (by omega), if_neg (by omega)]
     have hs : ai σ t now = eL σ t := by simp only [ai, hat, hx, eL]
     rw [hs];refine bh h1 ae rfl rfl fun H2 h2 => ?_;refine ag (D6 ..) ?_;refine ar h2 ae rfl ?_;refine ag (jZ ..) ?_;refine aa (bf (by omega)) ?_;exact Y4 x P σ t now g { k with a := 2 } S T hg rfl hI hh hi h2.to
theorem Uh (S : SOk σ) (T : eM σ t) : Sp dj [vp x, vi now] (xP x P σ t) (fun _ : Unit => vb (ai σ t now).2.2) (fun _ => xQ x P (ai σ t now)) := by
 rcases T.ats with hat | hat | hat | hat | hat | hat | hat | hat | hat | hat | hat | hat | hat | hat | hat | hat | hat | hat | hat | hat | hat | hat | hat | hat
 ·exact abT x P σ t now S T hat
 ·exact abU x P σ t now S T hat
 ·exact abV x P σ t now S T hat
 ·exact abW x P σ t now S T hat
 ·exact abX x P σ t now S T hat
 ·exact abY x P σ t now S T hat
 ·exact abZ x P σ t now S T hat
 ·exact ab0 x P σ t now S T hat
 ·exact ab1 x P σ t now S T hat
 ·exact Y5 x P σ t now S T hat
 ·exact Y6 x P σ t now S T hat
 ·exact Y7 x P σ t now S T hat
 ·exact Y8 x P σ t now S T hat
 ·exact Y9 x P σ t now S T hat
 ·exact Za x P σ t now S T hat
 ·exact Zb x P σ t now S T hat
 ·exact Zd x P σ t now S T hat
 ·exact Ze x P σ t now S T hat
 ·exact Zf x P σ t now S T hat
 ·exact Zg x P σ t now S T hat
 ·exact Zh x P σ t now S T hat
 ·exact Zi x P σ t now S T hat
 ·exact Zj x P σ t now S T hat
 ·exact Zk x P σ t now S T hat
end
section
variable {x P : Nat} {g : XIds} {σ σ' : aE} {t t' : Tk} {R : SP} {H : AH} {r : aE × Tk × Bool} {k : Xk}
end
section
variable (x P : Nat) (g : XIds) (σ : aE) (t : Tk) (k : Xk)
variable (now : Int)
end
section
variable (x P : Nat) (σ : aE) (t : Tk) (now : Int)
end
abbrev TP := Nat × Pt
def ltT (a b : TP) : Prop := a.2.step < b.2.step ∨ a.2.step = b.2.step ∧ a.1 < b.1
def Srt (L : List TP) : Prop := L.Pairwise ltT
def Zr (X Y : List TP) : Prop := ∀ x ∈ X, ∀ y ∈ Y, x.1 < y.1
abbrev pl (L : List TP) : List Pt := L.map fun x : TP => x.2
theorem abH : Srt [] := List.Pairwise.nil
inductive Chk (bs : Nat) : List TP → Prop
 | last {X : List TP} (h1 : X.length ≤ bs) (h2 : Srt X) : Chk bs X
 | cons {X L : List TP} (h1 : X.length = bs) (h2 : Srt X) (h3 : Zr X L) (h4 : Chk bs L) : Chk bs (X ++ L)
theorem Chk.nil {bs : Nat} : Chk bs [] := .last (by simp) abH
theorem Chk.split {bs : Nat} {L : List TP} (h : Chk bs L) (hl : bs ≤ L.length) : ∃ X L2, L = X ++ L2 ∧ X.length = bs ∧ Srt X ∧ Zr X L2 ∧ Chk bs L2 := by
 cases h with
 | last h1 h2 => exact ⟨L, [], by simp, by omega, h2, (fun x _ y hy => by cases hy), .nil⟩
 | @cons X L' h1 h2 h3 h4 => exact ⟨X, L', rfl, h1, h2, h3, h4⟩
theorem Zr.left {X X2 Y : List TP} (h : Zr (X ++ X2) Y) : Zr X Y := fun x hx y hy => h x (List.mem_append_left _ hx) y hy
theorem Zr.sub {X X' Y Y' : List TP} (h : Zr X Y) (hx : ∀ x ∈ X', x ∈ X) (hy : ∀ y ∈ Y', y ∈ Y) : Zr X' Y' := fun x h1 y h2 => h x (hx x h1) y (hy y h2)
theorem AM : Sp dW [.slice none 0 0, .slice none 0 0] emp (fun _ : Unit => vb true) (fun _ => emp) := by
 have same : ∀ f : Value, Sp o7 [.slice none 0 0, .slice none 0 0, f] emp (fun _ : Unit => vb true) (fun _ => emp) := by
  intro f;refine aU (Ge _ _ _) fun R H h => ?_;refine Qe ?_;refine Qe ?_;refine aa (IJ rfl) ?_;refine gs ?_;refine ag (xK _ _ _ _ H) ?_;refine ag (xM _ _ _ _ _ H) ?_;refine ag (xN _ _ _ _ _ H) ?_;refine Qe ?_;refine aa (bF (by omega)) ?_;refine gs ?_;refine ag (tC _ H) ?_;refine ag (xL _ H) ?_;exact am ⟨(), rfl, h⟩
 refine aU (mD _ _) fun R H h => ?_;refine af h (same _) fun _ H1 h1 => ?_;exact am ⟨(), rfl, h1.to⟩
theorem W9 (e : Int) : Sp rX [.agg (mU e).toArray, .agg (mU e).toArray] emp (fun _ : Unit => vb true) (fun _ => emp) := by
 refine aU (Ix _ _) fun R H h => ?_;refine aV h fun b1 H1 h1 => ?_;refine aV h1 fun b2 H2 h2 => ?_;refine ar h2 aB rfl ?_;refine ar h2 aB rfl ?_;refine aa (bf rfl) ?_;refine gs ?_;refine ar h2 aB rfl ?_;refine gs ?_;refine ar h2 aB rfl ?_;refine gs ?_;refine aa (bf rfl) ?_;refine gs ?_;refine ar h2 aB rfl ?_;refine gs ?_;refine ar h2 aB rfl ?_;refine gs ?_;refine aa (bf rfl) ?_;refine gs ?_;refine ar h2 aB rfl ?_;refine gs ?_;refine ar h2 aB rfl ?_;refine gs ?_;refine af h2 AM fun _ H3 h3 => ?_;refine gs ?_;exact am ⟨(), rfl, h3.to⟩
section
variable {α : Type}
theorem ac3 (A B : List α) (x : α) : (A ++ x :: B)[A.length]? = some x := by simp
theorem Zy {A B : List α} {x : α} {i : Nat} (h : i = A.length) : (A ++ x :: B)[i]? = some x := by subst h; exact ac3 A B x
theorem at2 {A B C : List α} {x y : α} {j : Nat} (hj : j = A.length + 1 + B.length) : (A ++ x :: (B ++ y :: C))[j]? = some y := by
 have e : A ++ x :: (B ++ y :: C) = (A ++ x :: B) ++ y :: C := by simp
 rw [e];exact Zy (by simp; omega)
end
section
variable {P R : SP} {H : AH} {s : Value} {l : List Pt} {Q : Value → AH → Prop}
end

section
variable (A B : List Pt) (s : Value) (X Y : List TP)
end
section
variable (A B : List Pt) (s : Value) (X Y : List TP) (hX : Srt X) (hY : Srt Y) (hB : Zr X Y) (hb : A.length + X.length + Y.length < 1000000)
include hX hY hB hb
end


theorem ED (s : Value) (l : List Ev) (hl : l.length ≤ 1000000) : Sp XE [s] (ts 5 Ev.cells s l) (fun v : Value => v) (fun v => ts 5 Ev.cells v l * ts 5 Ev.cells s l) := by
 refine aU (ad6 _) fun R H h => ?_
 rcases jO h (enc := Ev.cells) (s := s) with ⟨rfl, rfl, h1⟩ | ⟨b, rfl, h1⟩
 ·refine aa (v := vb true) rfl ?_
  refine gs ?_;exact am ⟨_, rfl, by have := cK 5 Ev.cells (cK 5 Ev.cells h1); exact this.to⟩
 ·refine aa (v := vb false) rfl ?_
  refine gs ?_;refine Qf (cs := []) h rfl fun b2 H2 h2 => ?_;have h3 := zq (e := 5) (enc := Ev.cells) (l := []) h2;refine Cd (s := vs b2 0 5) (l := ([] : List Ev)) (m := l) h3 ?_ (by omega) fun v H4 h4 => ?_
  ·unfold room; simp; omega
  rw [List.nil_append] at h4;exact am ⟨v, rfl, h4.to⟩
theorem LF (m : Nat) (μ : Mu) (hE : μ.E.length ≤ 1000000) : Sp fm [vp m] (bd m μ) (fun v : Value => v) (fun v => ts 5 Ev.cells v μ.E * bd m μ) := by
 refine aW fun R H h => ?_;obtain ⟨⟨c, l, al, es, ck⟩, h1⟩ := ac.ex.1 h;rw [ak, ac.pu] at h1;obtain ⟨hp, h1⟩ := h1;dsimp only at h1;have h2 : ac (blk m (.cells false [.map (some c), l]) * (blk c (.map es ck) * ts 5 Ev.cells l μ.E) * R) H := h1;refine aZ (fun r => tR _ H) ?_;refine ar h2 ae rfl ?_;refine af h2 (ED l μ.E hE) fun v H3 h3 => ?_;refine am ⟨v, rfl, ?_⟩
 have h4 : ac (bd m μ * (ts 5 Ev.cells v μ.E * R)) H3 := by
  refine ac.ex.2 ⟨(c, l, al, es, ck), ?_⟩;rw [ak, ac.pu];refine ⟨hp, ?_⟩;have h5 : ac (blk m (.cells false [.map (some c), l]) * (blk c (.map es ck) * ts 5 Ev.cells l μ.E) * (ts 5 Ev.cells v μ.E * R)) H3 := h3.to;exact h5
 exact h4.to
theorem Ur {p : Nat} {g : PIds} {σ : aE} (hE : σ.μ.E.length ≤ 1000000) : Sp fm [vp g.m] (aK p g σ) (fun v : Value => v) (fun v => ts 5 Ev.cells v σ.μ.E * aK p g σ) := by
 intro R H h;unfold aK at h;obtain ⟨x, H', h1, h2⟩ := LF g.m σ.μ hE _ H (ac.fr (A := bd g.m σ.μ) h);refine ⟨x, H', h1, ?_⟩;unfold aK;exact h2.to
theorem S7 {x : Nat} {g : XIds} {σ : aE} {R : SP} {H : AH} (h : ac (aw x g σ * R) H) : ∃ (kv vv ev : Value) (Z : SP), ac (blk g.m (.cells false [kv, vv, ev]) * (ts 5 Ev.cells ev σ.μ.E * (blk x (.cells false [vi σ.c.sh, vi σ.c.sl, vi σ.c.wk, vi σ.c.wd, vu σ.c.un, vp g.m, vp g.ib, vp g.tb, vp g.po, vp g.co, g.ov, g.rv, g.wv, g.pv]) * (Z * R)))) H ∧
 ∀ {R' : SP} {H' : AH}, ac (blk g.m (.cells false [kv, vv, ev]) * (ts 5 Ev.cells ev σ.μ.E * (blk x (.cells false [vi σ.c.sh, vi σ.c.sl, vi σ.c.wk, vi σ.c.wd, vu σ.c.un, vp g.m, vp g.ib, vp g.tb, vp g.po, vp g.co, g.ov, g.rv, g.wv, g.pv]) * (Z * R')))) H' → ac (aw x g σ * R') H' := by
 unfold aw at h
 have h1 : ac (bi g.m σ.μ * (blk x (.cells false [vi σ.c.sh, vi σ.c.sl, vi σ.c.wk, vi σ.c.wd, vu σ.c.un, vp g.m, vp g.ib, vp g.tb, vp g.po, vp g.co, g.ov, g.rv, g.wv, g.pv]) * ((gc g.ib g.m σ.c.sh σ.nx σ.μ.N * (tab g.tb g.m σ.c.sh.toNat σ.c.sl.toNat *
  (ts 3 qW g.ov (σ.obs.map fun x => x.1) * (ts 1 nQ g.rv g.rp * (ia g.m 0 (g.rp.zip (σ.obs.map fun x => x.2)) * (ts 1 bH g.wv (dN g.ws) * ts 7 Pt.cells g.pv (bq σ.pts))))))) * R))) H := h.to
 obtain ⟨al, h2⟩ := ac.ex.1 h1;rw [ak, ac.pu] at h2;obtain ⟨hp, h2⟩ := h2;obtain ⟨⟨kv, vv, ev⟩, h3⟩ := ac.ex.1 h2;dsimp only at h3
 refine ⟨kv, vv, ev, (ts 3 EN kv al * ts 1 Ib vv al) * (gc g.ib g.m σ.c.sh σ.nx σ.μ.N * (tab g.tb g.m σ.c.sh.toNat σ.c.sl.toNat *
  (ts 3 qW g.ov (σ.obs.map fun x => x.1) * (ts 1 nQ g.rv g.rp * (ia g.m 0 (g.rp.zip (σ.obs.map fun x => x.2)) * (ts 1 bH g.wv (dN g.ws) * ts 7 Pt.cells g.pv (bq σ.pts))))))), h3.to, fun {R' H'} h4 => ?_⟩
 unfold aw
 have h5 : ac (bi g.m σ.μ * (blk x (.cells false [vi σ.c.sh, vi σ.c.sl, vi σ.c.wk, vi σ.c.wd, vu σ.c.un, vp g.m, vp g.ib, vp g.tb, vp g.po, vp g.co, g.ov, g.rv, g.wv, g.pv]) * ((gc g.ib g.m σ.c.sh σ.nx σ.μ.N * (tab g.tb g.m σ.c.sh.toNat σ.c.sl.toNat *
  (ts 3 qW g.ov (σ.obs.map fun x => x.1) * (ts 1 nQ g.rv g.rp * (ia g.m 0 (g.rp.zip (σ.obs.map fun x => x.2)) * (ts 1 bH g.wv (dN g.ws) * ts 7 Pt.cells g.pv (bq σ.pts))))))) * R'))) H' := by
  refine ac.ex.2 ⟨al, ?_⟩;rw [ak, ac.pu];refine ⟨hp, ac.ex.2 ⟨(kv, vv, ev), ?_⟩⟩;dsimp only;exact h4.to
 exact h5.to
theorem YR {w how n : Nat} (h : aX w how = some n) : n < 18446744073709551616 := by
 have := dQ w;unfold aX at h
 split at h
 ·split at h
  ·have := eu h; omega
  ·cases h
 ·split at h
  ·have := eu h; omega
  ·cases h
 ·split at h
  ·have := eu h; omega
  ·cases h
 ·cases h
structure SI (σ : aE) (k : Nat) : Prop where
 c : b5 σ.c = true
 N : σ.μ.N ≤ k
 E : σ.μ.E.length ≤ k
 pts : σ.pts.length ≤ k
 V : ∀ l, σ.μ.V l < 18446744073709551616
 obs : σ.obs.length ≤ k
 cells : ∀ o, o < σ.obs.length → 1 ≤ (av σ o).length ∧ (av σ o).length < 1000
 slot : ∀ s i, σ.μ.V (10, s, i) ≠ 0 → σ.μ.V (10, s, i) % 4294967296 < σ.obs.length
 head : ∀ o, σ.μ.V (12, o, 0) ≤ k
theorem SI.ok {σ : aE} {k : Nat} (h : SI σ k) (hk : k < 300000) : SOk σ :=
 ⟨h.c, by have := h.N; omega, by have := h.pts; omega, h.V, by have := h.obs; omega, h.cells, h.slot⟩
theorem SI.mono {σ : aE} {k k' : Nat} (h : SI σ k) (hk : k ≤ k') : SI σ k' :=
 ⟨h.c, ep h.N hk, ep h.E hk, ep h.pts hk, h.V, ep h.obs (by omega), h.cells, h.slot, fun o => ep (h.head o) hk⟩
theorem SI.acc {σ : aE} {k : Nat} (h : SI σ k) (who kd : Int) (l : bK) : SI (σ.mem (σ.μ.acc who kd l)) (k + 2) :=
 ⟨h.c, by have := h.N; show σ.μ.N + 2 ≤ _; omega, by have := h.E; show (σ.μ.E ++ [_]).length ≤ _; simp; omega, ep h.pts (by omega), h.V, ep h.obs (by omega), h.cells, h.slot, fun o => ep (h.head o) (by omega)⟩
theorem SI.put {σ : aE} {k : Nat} (h : SI σ k) (l : bK) (v : Nat) (hv : v < 18446744073709551616) (h1 : l.1 ≠ 10) (h2 : l.1 ≠ 12 ∨ v ≤ k) : SI (σ.mem (σ.μ.put l v)) k := by
 refine ⟨h.c, h.N, h.E, h.pts, fun x => ?_, h.obs, h.cells, fun s i => ?_, fun o => ?_⟩
 ·show (if x = l then v else σ.μ.V x) < _
  split
  ·exact hv
  ·exact h.V x
 ·show (if (10, s, i) = l then v else σ.μ.V (10, s, i)) ≠ 0 → (if (10, s, i) = l then v else σ.μ.V (10, s, i)) % _ < _
  rw [if_neg (fun e => h1 (by rw [← e]))];exact h.slot s i
 ·show (if (12, o, 0) = l then v else σ.μ.V (12, o, 0)) ≤ _
  split
  ·rename_i e
   rcases h2 with h2 | h2
   ·exact absurd (by rw [← e]) h2
   ·exact h2
  ·exact h.head o
theorem SI.swp {σ : aE} {k : Nat} (h : SI σ k) (who : Int) (l : bK) (was now : Nat) (hv : now < 18446744073709551616) (h1 : l.1 ≠ 10) (h2 : l.1 ≠ 12) : SI (σ.mem (σ.μ.swp who l was now)) (k + 2) := by
 have e : σ.μ.swp who l was now = (if σ.μ.V l = was then (σ.μ.acc who 3 l).put l now else σ.μ.acc who 4 l) := by
  show (⟨_, _, _⟩ : Mu) = _;unfold Mu.swap
  split <;> rfl
 rw [e]
 split
 ·exact (h.acc who 3 l).put l now hv h1 (.inl h2)
 ·exact h.acc who 4 l
theorem SI.turn {σ : aE} {k : Nat} (h : SI σ k) (who : Int) (o w how : Nat) : SI (σ.mem (σ.μ.turn who o w (aX w how))) (k + 2) := by
 cases e : aX w how with
 | none => exact h.mono (by omega)
 | some n => exact h.swp who (11, (o : Int), 0) w n (YR e) (by simp) (by simp)
theorem SI.cnt {σ : aE} {k : Nat} (h : SI σ k) (who : Int) (l : bK) (n : Nat) (h1 : l.1 ≠ 10) (h2 : l.1 ≠ 12) : SI (σ.mem (σ.μ.cnt who l n)) (k + 2) :=
 (h.acc who 3 l).put l _ (Nat.mod_lt _ (by omega)) h1 (.inl h2)
theorem SI.note {σ : aE} {k : Nat} (h : SI σ k) (step who e : Int) : SI (σ.note step who e) (k + 1) :=
 ⟨h.c, ep h.N (by omega), ep h.E (by omega), by have := h.pts; show (σ.pts ++ [_]).length ≤ _; simp; omega, h.V, ep h.obs (by omega), h.cells, h.slot, fun o => ep (h.head o) (by omega)⟩
theorem SI.link {σ : aE} {k : Nat} (h : SI σ k) (who : Int) (l : bK) (nx : Int → Option Nat) : SI { σ with μ := σ.μ.acc who 6 l, nx := nx } (k + 2) := by
 have := h.acc who 6 l;exact ⟨this.c, this.N, this.E, this.pts, this.V, this.obs, this.cells, this.slot, this.head⟩
theorem SI.begin {σ : aE} {k : Nat} (h : SI σ k) (who place : Int) : SI (σ.begin who place) (k + 1) :=
 ⟨h.c, by have := h.N; show σ.μ.N + 1 ≤ _; omega, ep h.E (by omega), ep h.pts (by omega), h.V, ep h.obs (by omega), h.cells, h.slot, fun o => ep (h.head o) (by omega)⟩
theorem SI.lay {σ : aE} {k : Nat} (h : SI σ k) (t : Tk) : SI (fI σ t) (k + 2) := by
 have ha := h.acc t.who 6 (16, (t.obj : Int), ((ay t.w % (av σ t.obj).length : Nat) : Int));rw [zh]
 have hl : (σ.obs.modify t.obj fun q => (q.1, (av σ t.obj).set (ay t.w % (av σ t.obj).length) (⟨t.x.flow, t.x.a, t.x.b⟩ : Pk))).length = σ.obs.length := by simp
 refine ⟨ha.c, ha.N, ha.E, ha.pts, ha.V, by rw [hl]; exact ep h.obs (by omega), fun o ho => ?_, fun s i hs => by show _ < List.length _; rw [hl]; exact h.slot s i hs, ha.head⟩
 have ho' : o < σ.obs.length := by
  have : o < (σ.obs.modify t.obj fun q => (q.1, (av σ t.obj).set (ay t.w % (av σ t.obj).length) (⟨t.x.flow, t.x.a, t.x.b⟩ : Pk))).length := ho
  rwa [hl] at this
 have hc := h.cells o ho';rw [sW ho'] at hc
 have hx : ∀ z : Ob × List Pk, z.2.length = (σ.obs[o]).2.length → 1 ≤ z.2.length ∧ z.2.length < 1000 := fun z hz => by rw [hz]; exact hc
 unfold av;rw [List.getElem?_modify, bu ho'];refine hx (if t.obj = o then ((σ.obs[o]).1, (av σ t.obj).set (ay t.w % (av σ t.obj).length) ⟨t.x.flow, t.x.a, t.x.b⟩) else σ.obs[o]) ?_
 split
 ·rename_i e
  subst e;rw [sW ho', Gj]
 ·rfl
theorem eM.mono {σ σ' : aE} {t : Tk} (T : eM σ t) (hc : σ'.c = σ.c) (ho : σ'.obs.length = σ.obs.length) : eM σ' t :=
 ⟨fun h => by rw [ho]; exact T.obj h, by rw [hc]; exact T.s, by rw [hc]; exact T.i, T.w, T.c5, T.c0, T.ats⟩
abbrev Tk.new (c : gF) (who : Int) (x : Cl) : Tk := ⟨who, x, (x.flow.tmod c.sh + c.sh).tmod c.sh, 0, 0, 0, false, 0, 0, 0, 0, 0⟩
theorem eM.new {σ : aE} (hc : b5 σ.c = true) (who : Int) (x : Cl) : eM σ (Tk.new σ.c who x) := by
 have := bW.1 hc;exact ⟨fun h => by simp at h, rfl, fun _ _ => by simp; omega, by simp, fun h => by simp at h, fun h => by simp at h, .inl rfl⟩
theorem Pj (σ : aE) (t : Tk) : ((fI σ t).obs.map fun q => q.1) = σ.obs.map fun q => q.1 := by
 unfold fI;apply List.ext_getElem?;intro j;simp only [vH, List.getElem?_modify]
 cases σ.obs[j]? with
 | none => rfl
 | some q =>
  show some (if t.obj = j then _ else q).1 = some q.1
  split <;> rfl
structure Kept (σ : aE) (t : Tk) (r : aE × Tk × Bool) (k : Nat) : Prop where
 si : SI r.1 (k + 3)
 c : r.1.c = σ.c
 obs : r.1.obs.length = σ.obs.length
 hd : (r.1.obs.map fun q => q.1) = σ.obs.map fun q => q.1
 pts : r.1.pts.length ≤ σ.pts.length + 1
 who : r.2.1.who = t.who
 x : r.2.1.x = t.x
 ok : r.2.2 = false → eM r.1 r.2.1
theorem Ee {σ : aE} {t : Tk} {k : Nat} (h : SI σ k) (T : eM σ t) (hat : t.at' = 0 ∨ t.at' = 2) : Kept σ t (eL σ t) k := by
 refine ⟨(h.acc _ _ _).mono (by omega), rfl, rfl, rfl, Nat.le_succ _, rfl, rfl, fun _ => ?_⟩;have hi := T.i (by omega) (by omega);refine ⟨fun hh => ?_, T.s, fun h1 h2 => ?_, T.w, fun hh => ?_, fun hh => ?_, ?_⟩
 ·show (aC σ t).obj < σ.obs.length
  have hf : (aC σ t).found = true := by
   cases hf : (aC σ t).found with
   | true => rfl
   | false =>
    have hh' : 6 ≤ (if (aC σ t).found = true then 6 else if cT σ (aC σ t) = true then 3 else 2 : Nat) ∨ (if (aC σ t).found = true then 6 else if cT σ (aC σ t) = true then 3 else 2 : Nat) = 5 ∧ _ := hh;rw [hf, if_neg (by simp)] at hh'
    rcases hh' with q | q
    ·split at q <;> omega
    ·have q := q.1
     split at q <;> omega
  have hf' : tH (σ.μ.V (10, t.s, (t.i : Int))) t.x.flow = true := hf;have e : (aC σ t).obj = σ.μ.V (10, t.s, (t.i : Int)) % 4294967296 := if_pos hf';rw [e];have hv := (of_decide_eq_true hf').1;exact h.slot _ _ hv
 ·have h1 : (if (aC σ t).found = true then 6 else if cT σ (aC σ t) = true then 3 else 2 : Nat) < 5 := h1
  have h2 : (if (aC σ t).found = true then 6 else if cT σ (aC σ t) = true then 3 else 2 : Nat) ≠ 3 := h2
  have hl : ¬ cT σ (aC σ t) = true := by
   intro hl;rw [if_pos hl] at h1 h2
   split at h1
   ·omega
   ·rename_i hn
    rw [if_neg hn] at h2;exact h2 rfl
  have : ¬ (σ.c.sl ≤ ((t.i + 1 : Nat) : Int)) := fun q => hl (i4 q);show ((t.i + 1 : Nat) : Int) < σ.c.sl;omega
 ·have hh : (if (aC σ t).found = true then 6 else if cT σ (aC σ t) = true then 3 else 2 : Nat) = 5 := hh
  split at hh
  ·omega
  ·split at hh <;> omega
 ·have hh : (if (aC σ t).found = true then 6 else if cT σ (aC σ t) = true then 3 else 2 : Nat) = 10 ∨ (if (aC σ t).found = true then 6 else if cT σ (aC σ t) = true then 3 else 2 : Nat) = 11 ∨ (if (aC σ t).found = true then 6 else if cT σ (aC σ t) = true then 3 else 2 : Nat) = 14 ∨ 21 ≤ (if (aC σ t).found = true then 6 else if cT σ (aC σ t) = true then 3 else 2 : Nat) := hh
  split at hh
  ·omega
  ·split at hh <;> omega
 ·show (if (aC σ t).found = true then 6 else if cT σ (aC σ t) = true then 3 else 2 : Nat) = 0 ∨ _
  simp only [eL]
  split
  ·simp
  ·split <;> simp
theorem TV {σ : aE} {t : Tk} {k : Nat} (now : Int) (hk : k < 300000) (h : SI σ k) (T : eM σ t) : Kept σ t (ai σ t now) k := by
 rcases T.ats with hat | hat | hat | hat | hat | hat | hat | hat | hat | hat | hat | hat | hat | hat | hat | hat | hat | hat | hat | hat | hat | hat | hat | hat
 ·-- 0
  cases hx : dA t.x with
  | some e =>
   have hs : ai σ t now = (σ.note now t.who e, { t with code := e }, true) := by simp only [ai, hat, hx]
   rw [hs];exact ⟨(h.note _ _ _).mono (by omega), rfl, rfl, rfl, (by simp [aE.note]), rfl, rfl, fun h => by simp at h⟩
  | none =>
   have hs : ai σ t now = eL σ t := by simp only [ai, hat, hx, eL]
   rw [hs];exact Ee h T (.inl hat)
 ·-- 2
  have hs : ai σ t now = eL σ t := by simp only [ai, hat, eL]
  rw [hs];exact Ee h T (.inr hat)
 ·-- 3
  by_cases hw : σ.μ.V (8, t.s, 0) = 0
  ·have hs : ai σ t now = (σ.mem (σ.μ.swp t.who (8, t.s, 0) 0 1), { t with at' := 4, i := 0 }, false) := by simp only [ai, hat]; rw [if_pos hw]
   rw [hs];exact ⟨(h.swp _ _ _ _ (by omega) (by simp) (by simp)).mono (by omega), rfl, rfl, rfl, Nat.le_succ _, rfl, rfl, fun _ => ⟨fun _ => (by rename_i hh; simp at hh), T.s, (fun _ _ => by have := bW.1 h.c; show ((0 : Nat) : Int) < σ.c.sl; omega), T.w, (fun h => by simp at h), (fun h => by simp at h), (by simp)⟩⟩
  ·have hs : ai σ t now = (σ.mem (σ.μ.swp t.who (8, t.s, 0) 0 1), t, false) := by simp only [ai, hat]; rw [if_neg hw]
   rw [hs];exact ⟨(h.swp _ _ _ _ (by omega) (by simp) (by simp)).mono (by omega), rfl, rfl, rfl, Nat.le_succ _, rfl, rfl, fun _ => T.mono rfl rfl⟩
 ·-- 4
  have hi := T.i (by omega) (by omega)
  cases hf : (aC σ t).found with
  | true =>
   have hs : ai σ t now = (bR σ t, { aC σ t with at' := 5 }, false) := by simp only [ai, hat, hf]; rfl
   rw [hs];have hf' : tH (σ.μ.V (10, t.s, (t.i : Int))) t.x.flow = true := hf;have e : (aC σ t).obj = σ.μ.V (10, t.s, (t.i : Int)) % 4294967296 := if_pos hf'
   have ho : (aC σ t).obj < σ.obs.length := by rw [e]; exact h.slot _ _ (of_decide_eq_true hf').1
   exact ⟨(h.acc _ _ _).mono (by omega), rfl, rfl, rfl, Nat.le_succ _, rfl, rfl, fun _ => ⟨fun _ => ho, T.s, (fun h1 h2 => by simp at h1), T.w, (fun _ h2 => by rw [show (aC σ t).found = false from h2] at hf; cases hf), (fun h => by simp at h), (by simp)⟩⟩
  | false =>
   cases hla : cT σ (aC σ t) with
   | true =>
    have hs : ai σ t now = ((bR σ t).note now t.who 5, { aC σ t with at' := 5, code := 5 }, false) := by simp only [ai, hat, hf, hla]; rfl
    rw [hs];exact ⟨((h.acc _ _ _).note _ _ _).mono (by omega), rfl, rfl, rfl, (by simp [aE.note]), rfl, rfl, fun _ => ⟨fun _ => (by rename_i hh; rw [show (aC σ t).found = false from hf] at hh; simp at hh), T.s, (fun h1 h2 => by simp at h1), T.w, (fun _ _ => rfl), (fun h => by simp at h), (by simp)⟩⟩
   | false =>
    have hs : ai σ t now = (bR σ t, aC σ t, false) := by simp only [ai, hat, hf, hla]; rfl
    rw [hs]
    have hl : ¬ (σ.c.sl ≤ ((t.i + 1 : Nat) : Int)) := fun q => by rw [show cT σ (aC σ t) = true from i4 q] at hla; cases hla
    have ea : (aC σ t).at' = 4 := hat;exact ⟨(h.acc _ _ _).mono (by omega), rfl, rfl, rfl, Nat.le_succ _, rfl, rfl, fun _ => ⟨fun _ => (by rename_i hh; rw [ea] at hh; simp at hh), T.s, (fun _ _ => by show ((t.i + 1 : Nat) : Int) < σ.c.sl; omega), T.w, (fun h => by rw [ea] at h; simp at h), (fun h => by rw [ea] at h; simp at h), (by rw [ea]; simp)⟩⟩
 ·-- 5
  cases hf : t.found with
  | false =>
   have hs : ai σ t now = (σ.mem ((σ.μ.acc t.who 2 (8, t.s, 0)).put (8, t.s, 0) 0), { t with at' := 6 }, true) := by simp only [ai, hat, hf]; rfl
   rw [hs];exact ⟨((h.acc _ _ _).put _ _ (by omega) (by simp) (.inl (by simp))).mono (by omega), rfl, rfl, rfl, Nat.le_succ _, rfl, rfl, fun h => by simp at h⟩
  | true =>
   have hs : ai σ t now = (σ.mem ((σ.μ.acc t.who 2 (8, t.s, 0)).put (8, t.s, 0) 0), { t with at' := 6 }, false) := by simp only [ai, hat, hf]; rfl
   rw [hs];exact ⟨((h.acc _ _ _).put _ _ (by omega) (by simp) (.inl (by simp))).mono (by omega), rfl, rfl, rfl, Nat.le_succ _, rfl, rfl, fun _ => ⟨fun _ => T.obj (.inr ⟨hat, hf⟩), T.s, (fun h1 h2 => by simp at h1), T.w, (fun h => by simp at h), (fun h => by simp at h), (by simp)⟩⟩
 ·-- 6
  have hs : ai σ t now = (σ.mem (σ.μ.acc t.who 5 (13, (t.obj : Int), 0)), { t with at' := 7 }, false) := by simp only [ai, hat]
  rw [hs];exact ⟨(h.acc _ _ _).mono (by omega), rfl, rfl, rfl, Nat.le_succ _, rfl, rfl, fun _ => ⟨fun _ => T.obj (.inl (by omega)), T.s, (fun h1 h2 => by simp at h1), T.w, (fun h => by simp at h), (fun h => by simp at h), (by simp)⟩⟩
 ·-- 7
  by_cases hw : aL (σ.μ.V (11, (t.obj : Int), 0)) = 2
  ·have hs : ai σ t now = (jA σ t, { t with w := σ.μ.V (11, (t.obj : Int), 0), at' := 3 }, false) := by simp only [ai, hat]; rw [if_pos hw]
   rw [hs];exact ⟨(h.acc _ _ _).mono (by omega), rfl, rfl, rfl, Nat.le_succ _, rfl, rfl, fun _ => ⟨fun _ => (by rename_i hh; simp at hh), T.s, (fun _ h2 => by simp at h2), h.V _, (fun h => by simp at h), (fun h => by simp at h), (by simp)⟩⟩
  ·have hs : ai σ t now = (jA σ t, { t with w := σ.μ.V (11, (t.obj : Int), 0), at' := 8 }, false) := by simp only [ai, hat]; rw [if_neg hw]
   rw [hs];exact ⟨(h.acc _ _ _).mono (by omega), rfl, rfl, rfl, Nat.le_succ _, rfl, rfl, fun _ => ⟨fun _ => T.obj (.inl (by omega)), T.s, (fun h1 h2 => by simp at h1), h.V _, (fun h => by simp at h), (fun h => by simp at h), (by simp)⟩⟩
 ·-- 8
  cases hf : il σ t with
  | true =>
   have hs : ai σ t now = (gP σ t, { t with at' := 15 }, false) := by simp only [ai, hat, hf]; rfl
   rw [hs];exact ⟨(h.acc _ _ _).mono (by omega), rfl, rfl, rfl, Nat.le_succ _, rfl, rfl, fun _ => ⟨fun _ => T.obj (.inl (by omega)), T.s, (fun h1 h2 => by simp at h1), T.w, (fun h => by simp at h), (fun h => by simp at h), (by simp)⟩⟩
  | false =>
   by_cases hw : aL t.w = 1
   ·have hs : ai σ t now = (gP σ t, { t with at' := 9 }, false) := by simp only [ai, hat, hf]; rw [if_pos hw]; rfl
    rw [hs];exact ⟨(h.acc _ _ _).mono (by omega), rfl, rfl, rfl, Nat.le_succ _, rfl, rfl, fun _ => ⟨fun _ => T.obj (.inl (by omega)), T.s, (fun h1 h2 => by simp at h1), T.w, (fun h => by simp at h), (fun h => by simp at h), (by simp)⟩⟩
   ·have hs : ai σ t now = (gP σ t, { t with at' := 12 }, false) := by simp only [ai, hat, hf]; rw [if_neg hw]; rfl
    rw [hs];exact ⟨(h.acc _ _ _).mono (by omega), rfl, rfl, rfl, Nat.le_succ _, rfl, rfl, fun _ => ⟨fun _ => T.obj (.inl (by omega)), T.s, (fun h1 h2 => by simp at h1), T.w, (fun h => by simp at h), (fun h => by simp at h), (by simp)⟩⟩
 ·-- 9
  cases hw : d5 σ.μ t.obj t.w (aX t.w 0) with
  | true =>
   have hs : ai σ t now = ((σ.mem (σ.μ.turn t.who t.obj t.w (aX t.w 0))).note now t.who 0, { t with at' := 10, code := 0 }, false) := by simp only [ai, hat, hw]; rfl
   rw [hs];exact ⟨((h.turn _ _ _ _).note _ _ _).mono (by omega), rfl, rfl, rfl, (by simp [aE.note]), rfl, rfl, fun _ => ⟨fun _ => T.obj (.inl (by omega)), T.s, (fun h1 h2 => by simp at h1), T.w, (fun h => by simp at h), (fun _ => rfl), (by simp)⟩⟩
  | false =>
   have hs : ai σ t now = (σ.mem (σ.μ.turn t.who t.obj t.w (aX t.w 0)), { t with at' := 7 }, false) := by simp only [ai, hat, hw]; rfl
   rw [hs];exact ⟨(h.turn _ _ _ _).mono (by omega), rfl, rfl, rfl, Nat.le_succ _, rfl, rfl, fun _ => ⟨fun _ => T.obj (.inl (by omega)), T.s, (fun h1 h2 => by simp at h1), T.w, (fun h => by simp at h), (fun h => by simp at h), (by simp)⟩⟩
 ·-- 10
  have hs : ai σ t now = (fI σ t, { t with at' := 11 }, false) := by simp only [ai, hat]
  rw [hs];exact ⟨(h.lay t).mono (by omega), rfl, jh σ t, Pj σ t, Nat.le_succ _, rfl, rfl, fun _ => (by have := jh σ t; exact ⟨fun _ => (by rw [this]; exact T.obj (.inl (by omega))), T.s, (fun h1 h2 => by simp at h1), T.w, (fun h => by simp at h), (fun _ => T.c0 (by omega)), (by simp)⟩)⟩
 ·-- 11
  have hs : ai σ t now = (xu σ t, t, true) := by simp only [ai, hat]
  rw [hs];exact ⟨((h.acc _ _ _).put _ _ (by have := dQ t.w; omega) (by simp) (.inl (by simp))).mono (by omega), rfl, rfl, rfl, Nat.le_succ _, rfl, rfl, fun h => by simp at h⟩
 ·-- 12
  have hs : ai σ t now = (σ.mem (σ.μ.cnt t.who (3, 0, 0) 4294967296), { t with at' := 13 }, false) := by simp only [ai, hat]
  rw [hs];exact ⟨(h.cnt _ _ _ (by simp) (by simp)).mono (by omega), rfl, rfl, rfl, Nat.le_succ _, rfl, rfl, fun _ => ⟨fun _ => T.obj (.inl (by omega)), T.s, (fun h1 h2 => by simp at h1), T.w, (fun h => by simp at h), (fun h => by simp at h), (by simp)⟩⟩
 ·-- 13
  cases hw : d5 σ.μ t.obj t.w (aX t.w 0) with
  | true =>
   have hs : ai σ t now = ((σ.mem (σ.μ.turn t.who t.obj t.w (aX t.w 0))).note now t.who 0, { t with at' := 14, code := 0 }, false) := by simp only [ai, hat, hw]; rfl
   rw [hs];exact ⟨((h.turn _ _ _ _).note _ _ _).mono (by omega), rfl, rfl, rfl, (by simp [aE.note]), rfl, rfl, fun _ => ⟨fun _ => T.obj (.inl (by omega)), T.s, (fun h1 h2 => by simp at h1), T.w, (fun h => by simp at h), (fun _ => rfl), (by simp)⟩⟩
  | false =>
   have hs : ai σ t now = (σ.mem (σ.μ.turn t.who t.obj t.w (aX t.w 0)), { t with at' := 20 }, false) := by simp only [ai, hat, hw]; rfl
   rw [hs];exact ⟨(h.turn _ _ _ _).mono (by omega), rfl, rfl, rfl, Nat.le_succ _, rfl, rfl, fun _ => ⟨fun _ => T.obj (.inl (by omega)), T.s, (fun h1 h2 => by simp at h1), T.w, (fun h => by simp at h), (fun h => by simp at h), (by simp)⟩⟩
 ·-- 14
  have hs : ai σ t now = (fI σ t, { t with at' := 21 }, false) := by simp only [ai, hat]
  rw [hs];exact ⟨(h.lay t).mono (by omega), rfl, jh σ t, Pj σ t, Nat.le_succ _, rfl, rfl, fun _ => (by have := jh σ t; exact ⟨fun _ => (by rw [this]; exact T.obj (.inl (by omega))), T.s, (fun h1 h2 => by simp at h1), T.w, (fun h => by simp at h), (fun _ => T.c0 (by omega)), (by simp)⟩)⟩
 ·-- 15
  by_cases hw : σ.μ.V (2, 0, 0) % 2 = 1
  ·have hs : ai σ t now = (l5 σ t, { t with q := σ.μ.V (2, 0, 0), at' := 7 }, false) := by simp only [ai, hat]; rw [if_pos hw]
   rw [hs];exact ⟨(h.acc _ _ _).mono (by omega), rfl, rfl, rfl, Nat.le_succ _, rfl, rfl, fun _ => ⟨fun _ => T.obj (.inl (by omega)), T.s, (fun h1 h2 => by simp at h1), T.w, (fun h => by simp at h), (fun h => by simp at h), (by simp)⟩⟩
  ·have hs : ai σ t now = (l5 σ t, { t with q := σ.μ.V (2, 0, 0), at' := 16 }, false) := by simp only [ai, hat]; rw [if_neg hw]
   rw [hs];exact ⟨(h.acc _ _ _).mono (by omega), rfl, rfl, rfl, Nat.le_succ _, rfl, rfl, fun _ => ⟨fun _ => T.obj (.inl (by omega)), T.s, (fun h1 h2 => by simp at h1), T.w, (fun h => by simp at h), (fun h => by simp at h), (by simp)⟩⟩
 ·-- 16
  by_cases hw : aL (σ.μ.V (11, (t.obj : Int), 0)) = 2
  ·have hs : ai σ t now = (jA σ t, { t with w := σ.μ.V (11, (t.obj : Int), 0), at' := 3 }, false) := by simp only [ai, hat]; rw [if_pos hw]
   rw [hs];exact ⟨(h.acc _ _ _).mono (by omega), rfl, rfl, rfl, Nat.le_succ _, rfl, rfl, fun _ => ⟨fun _ => (by rename_i hh; simp at hh), T.s, (fun _ h2 => by simp at h2), h.V _, (fun h => by simp at h), (fun h => by simp at h), (by simp)⟩⟩
  ·have hs : ai σ t now = (jA σ t, { t with w := σ.μ.V (11, (t.obj : Int), 0), at' := 17 }, false) := by simp only [ai, hat]; rw [if_neg hw]
   rw [hs];exact ⟨(h.acc _ _ _).mono (by omega), rfl, rfl, rfl, Nat.le_succ _, rfl, rfl, fun _ => ⟨fun _ => T.obj (.inl (by omega)), T.s, (fun h1 h2 => by simp at h1), h.V _, (fun h => by simp at h), (fun h => by simp at h), (by simp)⟩⟩
 ·-- 17
  cases hf : il σ t with
  | true =>
   have hs : ai σ t now = (gP σ t, { t with at' := 18, mark := now }, false) := by simp only [ai, hat, hf]; rfl
   rw [hs];exact ⟨(h.acc _ _ _).mono (by omega), rfl, rfl, rfl, Nat.le_succ _, rfl, rfl, fun _ => ⟨fun _ => T.obj (.inl (by omega)), T.s, (fun h1 h2 => by simp at h1), T.w, (fun h => by simp at h), (fun h => by simp at h), (by simp)⟩⟩
  | false =>
   have hs : ai σ t now = (gP σ t, { t with at' := 7 }, false) := by simp only [ai, hat, hf]; rfl
   rw [hs];exact ⟨(h.acc _ _ _).mono (by omega), rfl, rfl, rfl, Nat.le_succ _, rfl, rfl, fun _ => ⟨fun _ => T.obj (.inl (by omega)), T.s, (fun h1 h2 => by simp at h1), T.w, (fun h => by simp at h), (fun h => by simp at h), (by simp)⟩⟩
 ·-- 18
  by_cases hw : σ.μ.V (2, 0, 0) = t.q
  ·have hs : ai σ t now = ((l5 σ t).note t.mark t.who 9, { t with code := 9 }, true) := by simp only [ai, hat]; rw [if_pos hw]
   rw [hs];exact ⟨((h.acc _ _ _).note _ _ _).mono (by omega), rfl, rfl, rfl, (by simp [aE.note]), rfl, rfl, fun h => by simp at h⟩
  ·have hs : ai σ t now = (l5 σ t, { t with at' := 7 }, false) := by simp only [ai, hat]; rw [if_neg hw]
   rw [hs];exact ⟨(h.acc _ _ _).mono (by omega), rfl, rfl, rfl, Nat.le_succ _, rfl, rfl, fun _ => ⟨fun _ => T.obj (.inl (by omega)), T.s, (fun h1 h2 => by simp at h1), T.w, (fun h => by simp at h), (fun h => by simp at h), (by simp)⟩⟩
 ·-- 20
  have hs : ai σ t now = (σ.mem (σ.μ.cnt t.who (3, 0, 0) 1), { t with at' := 7 }, false) := by simp only [ai, hat]
  rw [hs];exact ⟨(h.cnt _ _ _ (by simp) (by simp)).mono (by omega), rfl, rfl, rfl, Nat.le_succ _, rfl, rfl, fun _ => ⟨fun _ => T.obj (.inl (by omega)), T.s, (fun h1 h2 => by simp at h1), T.w, (fun h => by simp at h), (fun h => by simp at h), (by simp)⟩⟩
 ·-- 21
  have hs : ai σ t now = (xu σ t, { t with at' := 22 }, false) := by simp only [ai, hat]
  rw [hs];exact ⟨((h.acc _ _ _).put _ _ (by have := dQ t.w; omega) (by simp) (.inl (by simp))).mono (by omega), rfl, rfl, rfl, Nat.le_succ _, rfl, rfl, fun _ => ⟨fun _ => T.obj (.inl (by omega)), T.s, (fun h1 h2 => by simp at h1), T.w, (fun h => by simp at h), (fun _ => T.c0 (by omega)), (by simp)⟩⟩
 ·-- 22
  have hs : ai σ t now = (σ.mem (σ.μ.acc t.who 1 (9, t.s, 0)), { t with top := σ.μ.V (9, t.s, 0), at' := 23 }, false) := by simp only [ai, hat]
  rw [hs];exact ⟨(h.acc _ _ _).mono (by omega), rfl, rfl, rfl, Nat.le_succ _, rfl, rfl, fun _ => ⟨fun _ => T.obj (.inl (by omega)), T.s, (fun h1 h2 => by simp at h1), T.w, (fun h => by simp at h), (fun _ => T.c0 (by omega)), (by simp)⟩⟩
 ·-- 23
  have hs : ai σ t now = ({ σ with μ := σ.μ.acc t.who 6 (14, (t.obj : Int), 0), nx := fun k => if k = (t.obj : Int) then some t.top else σ.nx k }, { t with at' := 24 }, false) := by simp only [ai, hat]
  rw [hs];exact ⟨(h.link _ _ _).mono (by omega), rfl, rfl, rfl, Nat.le_succ _, rfl, rfl, fun _ => ⟨fun _ => T.obj (.inl (by omega)), T.s, (fun h1 h2 => by simp at h1), T.w, (fun h => by simp at h), (fun _ => T.c0 (by omega)), (by simp)⟩⟩
 ·-- 24
  by_cases hw : σ.μ.V (9, t.s, 0) = t.top
  ·have hs : ai σ t now = (σ.mem (σ.μ.swp t.who (9, t.s, 0) t.top (t.obj + 1)), { t with at' := 25 }, false) := by simp only [ai, hat]; rw [if_pos hw]
   rw [hs];exact ⟨(h.swp _ _ _ _ (by have := T.obj (.inl (by omega)); have := h.obs; omega) (by simp) (by simp)).mono (by omega), rfl, rfl, rfl, Nat.le_succ _, rfl, rfl, fun _ => ⟨fun _ => T.obj (.inl (by omega)), T.s, (fun h1 h2 => by simp at h1), T.w, (fun h => by simp at h), (fun _ => T.c0 (by omega)), (by simp)⟩⟩
  ·have hs : ai σ t now = (σ.mem (σ.μ.swp t.who (9, t.s, 0) t.top (t.obj + 1)), { t with at' := 22 }, false) := by simp only [ai, hat]; rw [if_neg hw]
   rw [hs];exact ⟨(h.swp _ _ _ _ (by have := T.obj (.inl (by omega)); have := h.obs; omega) (by simp) (by simp)).mono (by omega), rfl, rfl, rfl, Nat.le_succ _, rfl, rfl, fun _ => ⟨fun _ => T.obj (.inl (by omega)), T.s, (fun h1 h2 => by simp at h1), T.w, (fun h => by simp at h), (fun _ => T.c0 (by omega)), (by simp)⟩⟩
 ·-- 25
  have hs : ai σ t now = (σ.mem (σ.μ.cnt t.who (3, 0, 0) 1), t, true) := by simp only [ai, hat]
  rw [hs];exact ⟨(h.cnt _ _ _ (by simp) (by simp)).mono (by omega), rfl, rfl, rfl, Nat.le_succ _, rfl, rfl, fun h => by simp at h⟩
theorem Ko {α : Type} (F : α → SP) (R : SP) : (ex fun x => F x * R) = ex F * R := by
 apply SP.ext;intro h
 constructor
 ·rintro ⟨x, a, b, hd, rfl, ha, hb⟩
  exact ⟨a, b, hd, rfl, ⟨x, ha⟩, hb⟩
 ·rintro ⟨a, b, hd, rfl, ⟨x, ha⟩, hb⟩
  exact ⟨x, a, b, hd, rfl, ha, hb⟩
def eT (e p : Nat) (rp : List Nat) (t : Tk) : SP := ex fun v : Value => pu (G6 rp t v) * eB e p (SG e (ye t.at')) v t
def xT (x P : Nat) (t : Tk) : SP := ex fun k : Xk => pu (fO t k) * xB x P t k
theorem U7 (e p : Nat) (rp : List Nat) (σ : aE) (t : Tk) : eP e p rp σ t = eT e p rp t * bT p rp σ := by
 unfold eP eT;rw [← Ko]
 congr 1
 funext v
 rw [ak]
theorem afZ (x P : Nat) (σ : aE) (t : Tk) : xP x P σ t = xT x P t * bC P σ := by
 unfold xP xT;rw [← Ko]
 congr 1
 funext v
 rw [ak]
def xU (x P : Nat) (r : aE × Tk × Bool) : SP := ex fun k : Xk => pu (if r.2.2 = true then k.code = r.2.1.code else fO r.2.1 k) * xB x P r.2.1 k
theorem af0 (x P : Nat) (r : aE × Tk × Bool) : xQ x P r = xU x P r * bC P r.1 := by
 unfold xQ xU;rw [← Ko]
 congr 1
 funext v
 rw [ak]
def eU (e p : Nat) (rp : List Nat) (r : aE × Tk × Bool) : SP := if r.2.2 = true then emp else eT e p rp r.2.1
theorem ae3 (e p : Nat) (rp : List Nat) (r : aE × Tk × Bool) : eQ e p rp r = eU e p rp r * bT p rp r.1 := by
 unfold eQ eU
 split
 ·rw [fg]
 ·rw [U7]
theorem af1 {x P : Nat} {r : aE × Tk × Bool} (h : r.2.2 = false) : xU x P r = xT x P r.2.1 := by
 unfold xU xT;simp only [h]
 rfl
theorem ae4 {e p : Nat} {rp : List Nat} {r : aE × Tk × Bool} (h : r.2.2 = false) : eU e p rp r = eT e p rp r.2.1 := by
 unfold eU;rw [if_neg (by rw [h]; simp)]
section
variable (p x : Nat) (rp : List Nat) (σ : aE)
theorem U9 (hc : b5 σ.c = true) (who : Int) (c : Cl) : Sp vN [vp p, vi who, .agg (Cl.cells c).toArray] (bT p rp σ) (fun e : Nat => vp e) (fun e => eT e p rp (Tk.new σ.c who c) * bT p rp σ) := by
 have hr := bW.1 hc;refine aU (Kl _ _ _) fun R H h => ?_;refine aV h fun b H1 h1 => ?_;refine aT h1 ?_;obtain ⟨g, hrp, hg, k1⟩ := gC (p := p) (rp := rp) (σ := σ) (R := blk b (.cells false (Cl.cells c)) * R) (H := H1) h1.to;refine ar k1 ae rfl ?_;refine ar k1 aB rfl ?_;refine af k1 (Uv (p := p) (g := g) (σ := σ) (Jo g.tb g.m σ.c.sh.toNat σ.c.sl.toNat (by omega) c.flow)) fun _ H2 k2 => ?_;refine dw k2 k1 rfl ?_
 have es : vi ((c.flow.tmod (σ.c.sh.toNat : Int) + (σ.c.sh.toNat : Int)).tmod (σ.c.sh.toNat : Int)) = vi (Tk.new σ.c who c).s := by rw [show ((σ.c.sh.toNat : Nat) : Int) = σ.c.sh from by omega]
 rw [es];have h2 := bG (p := p) (rp := rp) (σ := σ) (R := blk b (.cells false (Cl.cells c)) * R) (H := H2) g hrp hg k2.to;refine j7 ?_;refine aV h2 fun e H3 h3 => ?_;refine bh h3 ae rfl rfl fun H4 h4 => ?_;refine am ⟨e, rfl, ?_⟩;rw [← U7];exact HZ (v := .pointer none) (n := kB) (f9 (by simp)) rfl h4.to
theorem I5 (who : Int) (c : Cl) (s : Int) : Sp lZ [vp x, vi who, .agg (Cl.cells c).toArray] emp (fun b : Nat => vp b) (fun b => xT b x (Tk.new σ.c who c)) := by
 refine aU (BF _ _ _) fun R H h => ?_;refine aV h fun b H1 h1 => ?_;refine aT h1 ?_;refine j7 ?_;refine aV h1 fun xb H2 h2 => ?_;refine am ⟨xb, rfl, ?_⟩;refine ac.ex.2 ⟨⟨0, 0, -1, false, 0, 0, 0, 0, 0, 0, 0⟩, ?_⟩;rw [ak, ac.pu];exact ⟨by simp [fO], h2.to⟩
theorem LU (who place : Int) (hN : σ.μ.N < 1000000) : Sp iC [.agg [vp p, vp x].toArray, vi who, vi place] (bT p rp σ * bC x σ) (fun _ : Unit => .tuple #[]) (fun _ => bT p rp (σ.begin who place) * bC x (σ.begin who place)) := by
 refine aU (tL _ _ _) fun R H h => ?_;refine aV (l := [vp p, vp x]) h fun b H1 h1 => ?_;refine ar h1 aB rfl ?_;refine af h1 (ac4 p rp σ who place) fun _ H2 h2 => ?_;refine ar h2 aB rfl ?_;refine af h2 (aeK x σ who place (by omega)) fun _ H3 h3 => ?_;exact am ⟨(), rfl, h3.to⟩
theorem YK (xb : Nat) (r : aE × Tk × Bool) : Sp rZ [vp xb, vb r.2.2] (xU xb x r) (fun _ : Unit => .agg (mU (if r.2.2 = true then r.2.1.code else 0)).toArray) (fun _ => xU xb x r) := by
 refine aW fun R H h => ?_;obtain ⟨k, h1⟩ := ac.ex.1 h;rw [ak, ac.pu] at h1;obtain ⟨hk, h1⟩ := h1;refine aZ (fun r => IB _ _ H) ?_;refine bk h1 fun b H2 h2 => ?_;have back : ∀ {H' : AH}, ac (xB xb x r.2.1 k * R) H' → ac (xU xb x r * R) H' := fun h => ac.ex.2 ⟨k, by rw [ak]; exact ac.pu.2 ⟨hk, h⟩⟩;cases hd : r.2.2
 ·refine gs ?_
  refine j7 ?_;refine fW h2 rfl rfl fun H3 h3 => ?_;refine aT h3 ?_;exact am ⟨(), rfl, back h3.to⟩
 ·refine gs ?_
  rw [hd, if_pos rfl] at hk;refine Jz h2 ae ?_;rw [hk];refine fW h2 rfl rfl fun H3 h3 => ?_;refine aT h3 ?_;exact am ⟨(), rfl, back h3.to⟩
end
theorem adQ (d : Bool) : aj .bool .neq (vb d) (vb d) = some (vb false) := by cases d <;> rfl
theorem aeH {p x pb : Nat} {rp : List Nat} {σ : aE} {P R : SP} {H : AH} {Q : Value → AH → Prop} {k : Value × AH → Value → OV} (h : ac P H) [f : Fr P (blk pb (.cells false [vp p, vp x]) * (bT p rp σ * bC x σ)) R]
 (hk : ∀ H', ac (blk pb (.cells false [vp p, vp x]) * (bT p rp σ * bC x σ) * R) H' → wp (k (vi σ.μ.E.length, H') (vb false)) Q) :
 wp (ed (vb false) false [.f 0] (vp pb) H fun v29 =>
  ed (vb false) false [.n, .f 0] v29 H fun v30 =>
  (gE (vb false) false H (FF fV [v30] H)).bind fun r31 =>
  CE (vb false) false [.f 1] (vp pb) fun v32 =>
  (gB (vb false) false (ap v32 r31.2)).bind fun v33 =>
  bE (ap v32 H) (ap v32 r31.2) <|
  CE (vb false) false [.n, .f 5] v33 fun v34 =>
  (gB (vb false) false (ap v34 r31.2)).bind fun v35 =>
  bE (ap v34 H) (ap v34 r31.2) <|
  CE (vb false) false [.n, .f 2] v35 fun v36 =>
  (gB (vb false) false (ap v36 r31.2)).bind fun v37 =>
  bE (ap v36 H) (ap v36 r31.2) <|
  (tX (yv (vb false)) false (dt v37 some) (some undef)).bind fun v38 =>
  bE (aaR v37) (aaR v37) <|
  (gB (vb false) false (aj .other .neq r31.1 v38)).bind fun v39 =>
  (aH (vb false) (vb true) v39).bind (k r31)) Q := by
 have h0 := ac.fr (A := blk pb (.cells false [vp p, vp x]) * (bT p rp σ * bC x σ)) h;obtain ⟨g, hrp, hg, k1⟩ := gC (p := p) (rp := rp) (σ := σ) (R := bC x σ * (blk pb (.cells false [vp p, vp x]) * R)) (H := H) h0.to;obtain ⟨gx, hgx, l1⟩ := gD (p := x) (σ := σ) (R := aK p g σ * (blk pb (.cells false [vp p, vp x]) * R)) (H := H) k1.to;obtain ⟨kv, vv, ev, Z, m1, back⟩ := S7 (x := x) (g := gx) (σ := σ) (R := aK p g σ * (blk pb (.cells false [vp p, vp x]) * R)) (H := H) l1.to;refine gs ?_;refine ar m1 aB rfl ?_;refine gs ?_;refine ar m1 ae rfl ?_;have bl : Sp fV [vp g.m] (aK p g σ) (fun _ : Unit => vi σ.μ.E.length) (fun _ => aK p g σ) := Us (p := p) (g := g) (σ := σ) (aaX g.m σ.μ);refine zt ?_;refine af m1 bl fun _ H2 m2 => ?_
 have gadff : ∀ {o : List Stp} {y : Value} {kk : Value → OV}, wp (ad o y kk) Q → wp (CE (vb false) false o y kk) Q := fun {o y kk} q => by rw [Gb]; exact q
 refine gadff ?_;refine bn aB ?_;refine nK ?_;refine aP m2 rfl ?_;refine aG m1 m2 (by rfl) ?_;refine gadff ?_;refine bn ae ?_;refine nK ?_;refine aP m2 rfl ?_;refine aG m1 m2 (by rfl) ?_;refine gadff ?_;refine bn ae ?_;refine nK ?_;refine aP m2 rfl ?_;refine aG m1 m2 (by rfl) ?_;refine Cc ?_;refine fC (s := ev) (l := σ.μ.E) m2 ?_;refine T8 ?_;refine nK ?_;refine aa (IJ rfl) ?_;refine aa (GF _ _) ?_;refine hk H2 ?_;have m3 := back (R' := aK p g σ * (blk pb (.cells false [vp p, vp x]) * R)) (H' := H2) m2.to;have m4 := dY (p := x) (σ := σ) (R := aK p g σ * (blk pb (.cells false [vp p, vp x]) * R)) gx hgx m3;have m5 := bG (p := p) (rp := rp) (σ := σ) (R := bC x σ * (blk pb (.cells false [vp p, vp x]) * R)) (H := H2) g hrp hg m4.to;exact m5.to
def CB (f : Value → Value → Bool) : List Value → List Value → Bool
 | [], [] => true
 | x :: xs, y :: ys => f x y && CB f xs ys
 | _, _ => false
def ZI : Nat → Value → Value → Bool
 | _, .bool a, .bool b => a == b
 | _, .int k a, .int k' b => decide (k = k') && decide (a = b)
 | _, .string a, .string b => decide (a = b)
 | _, .pointer a, .pointer b => decide (a = b)
 | _, .slice a n e, .slice a' n' e' => decide (a = a') && decide (n = n') && decide (e = e')
 | _, .map a, .map b => decide (a = b)
 | _, .nilFunc, .nilFunc => true
 | _, .nilIface, .nilIface => true
 | n + 1, .agg xs, .agg ys => CB (ZI n) xs.toList ys.toList
 | n + 1, .tuple xs, .tuple ys => CB (ZI n) xs.toList ys.toList
 | n + 1, .func f xs zs, .func f' ys ws => decide (f = f') && CB (ZI n) xs.toList ys.toList && CB (ZI n) zs.toList ws.toList
 | _, _, _ => false
theorem z7 {f : Value → Value → Bool} (hf : ∀ x y, f x y = true → x = y) : ∀ xs ys, CB f xs ys = true → xs = ys := by
 intro xs
 induction xs with
 | nil => intro ys h; cases ys with | nil => rfl | cons y ys => simp [CB] at h
 | cons x xs ih =>
  intro ys h
  cases ys with
  | nil => simp [CB] at h
  | cons y ys =>
   simp only [CB, Bool.and_eq_true] at h;rw [hf _ _ h.1, ih _ h.2]
theorem Dp : ∀ (n : Nat) (x y : Value), ZI n x y = true → x = y := by
 intro n
 induction n with
 | zero =>
  intro x y h
  cases x <;> cases y <;> simp_all [ZI]
 | succ n ih =>
  have hl := z7 ih;intro x y h
  cases x <;> cases y <;> simp_all [ZI]
  ·exact ⟨Array.toList_inj.1 (hl _ _ h.1.2), Array.toList_inj.1 (hl _ _ h.2)⟩
  ·exact Array.toList_inj.1 (hl _ _ h)
  ·exact Array.toList_inj.1 (hl _ _ h)
def eqO : Option Value → Option Value → Bool
 | none, none => true
 | some x, some y => ZI 4 x y
 | _, _ => false
theorem QQ {x y : Option Value} (h : eqO x y = true) : x = y := by
 cases x <;> cases y <;> simp_all [eqO]
 exact Dp _ _ _ h
section
variable (g d : Nat)
def yQ (b : Nat) : Nat := if b < g then b else b + d
def xt (a : Addr) : Addr := { a with block := yQ g d a.block }
def bj : Value → Value
 | .pointer a => .pointer (a.map (xt g d))
 | .slice a n e => .slice (a.map (xt g d)) n e
 | .map r => .map (r.map (yQ g d))
 | .func fn f c => .func fn (f.map bj) (c.map bj)
 | .iface t v => .iface t (bj v)
 | .agg cs => .agg (cs.map bj)
 | .tuple cs => .tuple (cs.map bj)
 | v => v
end
abbrev fE (g d : Nat) (l : List Value) : List Value := l.map (bj g d)
section
variable {g d : Nat}
theorem PX {a b : Nat} (h : yQ g d a = yQ g d b) : a = b := by unfold yQ at h; split at h <;> split at h <;> omega
@[simp] theorem PY (b : Bool) : (bj g d) (.bool b) = .bool b := by rw [bj] <;> simp
@[simp] theorem wK (k : IntKind) (n : Int) : (bj g d) (.int k n) = .int k n := by rw [bj] <;> simp
@[simp] theorem afP (k : FloatKind) (n : Nat) : (bj g d) (.float k n) = .float k n := by rw [bj] <;> simp
@[simp] theorem ad7 (k : FloatKind) (n m : Nat) : (bj g d) (.complex k n m) = .complex k n m := by rw [bj] <;> simp
@[simp] theorem Eg (b : ByteArray) : (bj g d) (.string b) = .string b := by rw [bj] <;> simp
@[simp] theorem af9 (r : Option Nat) : (bj g d) (.chan r) = .chan r := by rw [bj] <;> simp
@[simp] theorem ad8 : (bj g d) .nilFunc = .nilFunc := by rw [bj] <;> simp
@[simp] theorem acQ : (bj g d) .nilIface = .nilIface := by rw [bj] <;> simp
@[simp] theorem MD (a : Option Addr) : (bj g d) (.pointer a) = .pointer (a.map (xt g d)) := by rw [bj]
@[simp] theorem e9 (a : Option Addr) (n e : Nat) : (bj g d) (.slice a n e) = .slice (a.map (xt g d)) n e := by rw [bj]
@[simp] theorem G8 (r : Option Nat) : (bj g d) (.map r) = .map (r.map (yQ g d)) := by rw [bj]
@[simp] theorem afQ (t : TypeId) (v : Value) : (bj g d) (.iface t v) = .iface t ((bj g d) v) := by rw [bj]
@[simp] theorem agA (fn : Fn) (f c : Array Value) : (bj g d) (.func fn f c) = .func fn (f.map (bj g d)) (c.map (bj g d)) := by rw [bj]
@[simp] theorem My (cs : Array Value) : (bj g d) (.agg cs) = .agg (cs.map (bj g d)) := by rw [bj]
@[simp] theorem Yw (cs : Array Value) : (bj g d) (.tuple cs) = .tuple (cs.map (bj g d)) := by rw [bj]
@[simp] theorem pJ : (bj g d) undef = undef := by simp [undef]
theorem Yq {v : Value} (h : cA v = true) : (bj g d) v = v := by
 unfold cA at h
 split at h <;> first | (simp; done) | cases h
theorem uS {l : List Value} (h : l.all cA = true) : fE g d l = l := by
 induction l with
 | nil => rfl
 | cons x l ih => simp only [List.all_cons, Bool.and_eq_true] at h; simp only [fE, List.map_cons, Yq h.1]; rw [show List.map (bj g d) l = l from ih h.2]
theorem Jf {v : Value} (h : u9 v = true) : (bj g d) v = v := by
 unfold u9 at h
 split at h
 ·rename_i cs
  rw [My]; congr 1; exact Array.toList_inj.1 (by rw [Array.toList_map]; exact uS h)
 ·rename_i cs
  rw [Yw]; congr 1; exact Array.toList_inj.1 (by rw [Array.toList_map]; exact uS h)
 ·exact Yq h
theorem BS (v : Value) : ((bj g d) v).cells = v.cells.map (bj g d) := by
 cases v <;> simp [Value.cells]
theorem TM (v : Value) : ((bj g d) v).cells.toList = fE g d v.cells.toList := by rw [BS, Array.toList_map]
theorem ad9 (v : Value) : Value.oneCell' ((bj g d) v) = Value.oneCell' v := by
 cases v <;> simp [Value.oneCell']
theorem PZ (l : List Value) : (fE g d l).all Value.oneCell' = l.all Value.oneCell' := by
 simp only [fE, List.all_map]; congr 1; funext v; exact ad9 v
theorem G9 (v : Value) : sL ((bj g d) v) = (sL v).map fun a => (yQ g d a.1, a.2) := by
 cases v with
 | pointer a =>
  cases a with
  | none => simp [sL]
  | some a =>
   obtain ⟨b, o, sp⟩ := a
   cases sp <;> simp [sL, xt]
 | _ => simp [sL]
theorem Yv (c a b : Value) : aH ((bj g d) c) ((bj g d) a) ((bj g d) b) = (aH c a b).map (bj g d) := by
 cases c with
 | bool t => cases t <;> simp [aH]
 | _ => simp [aH]
theorem abG (v : Value) : se ((bj g d) v) = (se v).map (bj g d) := by
 cases v with
 | pointer a => cases a <;> simp [se]
 | func fn f c => cases fn <;> simp [se]
 | _ => simp [se]
theorem abB (off : Nat) (v : Value) : CJ off ((bj g d) v) = (CJ off v).map (bj g d) := by
 unfold CJ;rw [G9]
 cases sL v <;> simp [xt]
theorem Yu (n : Option Nat) (off : Nat) (v : Value) : jz n off ((bj g d) v) = (jz n off v).map (bj g d) := by
 cases v with
 | agg cs => cases n <;> simp [jz]
 | _ => simp [jz]
theorem abC (e : Nat) (v i : Value) : mN e ((bj g d) v) ((bj g d) i) = (mN e v i).map (bj g d) := by
 cases v with
 | slice a n k =>
  cases a with
  | none => simp [mN]
  | some a =>
   obtain ⟨b, o, sp⟩ := a
   cases sp with
   | none =>
    cases i with
    | int k i => simp only [e9, wK, dx, xt, mN]; split <;> simp [xt]
    | _ => simp [mN, xt]
   | some sp => simp [mN, xt]
 | _ => simp [mN]
theorem Yt (len e : Nat) (v i : Value) : gA len e ((bj g d) v) ((bj g d) i) = (gA len e v i).map (bj g d) := by
 cases v with
 | pointer a =>
  cases a with
  | none => simp [gA]
  | some a =>
   obtain ⟨b, o, sp⟩ := a
   cases sp with
   | none =>
    cases i with
    | int k i => simp only [MD, wK, dx, xt, gA]; split <;> simp [xt]
    | _ => simp [gA, xt]
   | some sp => simp [gA, xt]
 | _ => simp [gA]
theorem MB (len : Nat) (n : Option Nat) (e : Nat) (v i : Value) : g9 len n e ((bj g d) v) ((bj g d) i) = (g9 len n e v i).map (bj g d) := by
 cases v with
 | agg cs =>
  cases i with
  | int k i =>
   simp only [My, wK, g9]
   split
   ·cases n <;> simp
   ·rfl
  | _ => simp [g9]
 | _ => simp [g9]
theorem MA (v i : Value) : g8 ((bj g d) v) ((bj g d) i) = (g8 v i).map (bj g d) := by
 cases v with
 | string b =>
  cases i with
  | int k i =>
   simp only [Eg, wK, g8]
   split
   ·rw [Option.map_map]; congr 1; funext x; simp
   ·rfl
  | _ => simp [g8]
 | _ => simp [g8]
theorem abD (v : Value) : oc ((bj g d) v) = (oc v).map (bj g d) := by cases v <;> simp [oc]
theorem abE (l : List Value) : eN (fE g d l) = (eN l).map (bj g d) := by
 match l with
 | [] => rfl
 | [x] => simp [fE, eN]
 | [x, y] => cases x <;> cases y <;> simp [fE, eN]
 | x :: y :: z :: l => simp [fE, eN]
theorem abF (l : List Value) : ii (fE g d l) = (ii l).map (bj g d) := by
 match l with
 | [] => rfl
 | [x] => simp [fE, ii]
 | [x, y] => cases x <;> cases y <;> simp [fE, ii]
 | x :: y :: z :: l => simp [fE, ii]
theorem BT : ∀ xs ys : List Value, ba (fE g d xs) (fE g d ys) = ba xs ys := by
 intro xs
 induction xs with
 | nil => intro ys; cases ys <;> simp [fE, ba]
 | cons x xs ih =>
  intro ys
  cases ys with
  | nil => cases x <;> simp [fE, ba]
  | cons y ys =>
   have := ih ys;simp only [fE] at this
   cases x <;> cases y <;> simp [fE, ba, this]
theorem aeA (cl : TCls) (x y : Value) : ny cl ((bj g d) x) ((bj g d) y) = ny cl x y := by
 cases cl with
 | flat n =>
  cases x with
  | agg a =>
   cases y with
   | agg b =>
    simp only [My, ny, Array.size_map, Array.toList_map];rw [show ba (List.map (bj g d) a.toList) (List.map (bj g d) b.toList) = ba a.toList b.toList from BT _ _]
   | _ => simp [ny]
  | _ => cases y <;> simp [ny]
 | bool => cases x <;> cases y <;> simp [ny]
 | ptr => cases x <;> cases y <;> simp [ny] <;> (rename_i a b; cases a <;> cases b <;> simp [ny])
 | slice => cases x <;> cases y <;> simp [ny] <;> (rename_i a _ _ b _ _; cases a <;> cases b <;> simp [ny])
 | map => cases x <;> cases y <;> simp [ny] <;> (rename_i a b; cases a <;> cases b <;> simp [ny])
 | func => cases x <;> cases y <;> simp [ny]
 | other => cases x <;> cases y <;> simp [ny]
theorem aa1 {op : BinOp} {k : IntKind} {a b : Int} : (kX op k a b).map (bj g d) = kX op k a b := by
 cases op <;> simp [kX] <;> (split <;> simp)
theorem S5 {op : BinOp} {k : IntKind} {a b : Int} : (kM op k a b).map (bj g d) = kM op k a b := by
 unfold kM
 split
 ·rfl
 ·cases op <;> simp
theorem aa3 {op : BinOp} {a b : ByteArray} : (XU op a b).map (bj g d) = XU op a b := by
 cases op <;> simp [XU]
theorem Ys (cl : TCls) (op : BinOp) (x y : Value) : DW cl op ((bj g d) x) ((bj g d) y) = (DW cl op x y).map (bj g d) := by
 cases op <;> simp only [DW, aeA, Option.map_map, Option.map_none] <;> (congr 1; funext b; simp)
theorem abA (cl : TCls) (op : BinOp) (x y : Value) : aj cl op ((bj g d) x) ((bj g d) y) = (aj cl op x y).map (bj g d) := by
 have key := Ys (g := g) (d := d) cl op x y
 cases x with
 | int k a =>
  cases y with
  | int k' b => cases op <;> simp only [wK, aj, S5] <;> (split <;> simp [aa1])
  | _ => simpa [aj] using key
 | string a =>
  cases y with
  | string b => simp [aj, aa3]
  | _ => simpa [aj] using key
 | _ => simpa [aj] using key
theorem aeB (op : UnOp) (x : Value) : pr op ((bj g d) x) = (pr op x).map (bj g d) := by cases op <;> cases x <;> simp [pr]
theorem Yr (k : Option IntKind) (x : Value) : bV k ((bj g d) x) = (bV k x).map (bj g d) := by cases k <;> cases x <;> simp [bV]
theorem Jg (v : Value) (i : Nat) : ah ((bj g d) v) i = (ah v i).map (bj g d) := by cases v <;> simp [ah]
theorem BW (v : Value) : lx ((bj g d) v) = lx v := by cases v <;> simp [lx]
end
inductive Tr (α : Type) where
 | lf
 | nd (v : Option α) (l r : Tr α)
section
variable {α : Type}
def Tr.get : Tr α → Nat → Option α
 | .lf, _ => none
 | .nd v l r, i => match i with
  | 0 => v
  | i + 1 => match Nat.beq (i % 2) 0 with
   | true => l.get (i / 2)
   | false => r.get (i / 2)
def Tr.set (x : α) : Nat → Tr α → Nat → Option (Tr α)
 | 0, _, _ => none
 | k + 1, t, i => match i with
  | 0 => match t with
   | .lf => some (.nd (some x) .lf .lf)
   | .nd _ l r => some (.nd (some x) l r)
  | i + 1 => match Nat.beq (i % 2) 0 with
   | true => match t with
    | .lf => (Tr.set x k .lf (i / 2)).map fun l' => .nd none l' .lf
    | .nd v l r => (Tr.set x k l (i / 2)).map fun l' => .nd v l' r
   | false => match t with
    | .lf => (Tr.set x k .lf (i / 2)).map fun r' => .nd none .lf r'
    | .nd v l r => (Tr.set x k r (i / 2)).map fun r' => .nd v l r'
theorem Tr.get_set {x : α} : ∀ (k : Nat) {t t' : Tr α} {i : Nat}, Tr.set x k t i = some t' → ∀ j, t'.get j = if j = i then some x else t.get j := by
 intro k
 induction k with
 | zero => intro t t' i h; cases h
 | succ k ih =>
  intro t t' i h j
  cases i with
  | zero =>
   cases t with
   | lf => simp only [Tr.set] at h; cases h; cases j with
    | zero => rfl
    | succ j => simp only [Tr.get]; split <;> simp [Tr.get]
   | nd v l r => simp only [Tr.set] at h; cases h; cases j with
    | zero => rfl
    | succ j => simp [Tr.get]
  | succ i =>
   simp only [Tr.set] at h
   have beq : ∀ a : Nat, Nat.beq a 0 = (a == 0) := fun a => by cases a <;> simp [Nat.beq]
   have lf : ∀ j, (Tr.lf : Tr α).get j = none := fun j => by cases j <;> rfl
   cases hb : Nat.beq (i % 2) 0 with
   | true =>
    have hi : i % 2 = 0 := by rw [beq] at hb; simpa using hb
    rw [hb] at h;simp only at h
    have key : ∃ v l r l', Tr.set x k l (i / 2) = some l' ∧ t' = .nd v l' r ∧ ∀ j, t.get j = (Tr.nd v l r).get j := by
     cases t with
     | lf => obtain ⟨l', h1, e⟩ := aN.1 h; exact ⟨none, .lf, .lf, l', h1, e.symm, fun j => by rw [lf]; cases j with | zero => rfl | succ j => simp only [Tr.get]; split <;> rfl⟩
     | nd v l r => obtain ⟨l', h1, e⟩ := aN.1 h; exact ⟨v, l, r, l', h1, e.symm, fun j => rfl⟩
    obtain ⟨v, l, r, l', h1, rfl, hg⟩ := key;rw [hg]
    cases j with
    | zero => rfl
    | succ j =>
     simp only [Tr.get]
     cases hj : Nat.beq (j % 2) 0 with
     | true =>
      have hj' : j % 2 = 0 := by rw [beq] at hj; simpa using hj
      simp only;rw [ih h1]
      by_cases e : j / 2 = i / 2
      ·rw [if_pos e, if_pos (by omega)]
      ·rw [if_neg e, if_neg (by omega)]
     | false =>
      have hj' : j % 2 ≠ 0 := by rw [beq] at hj; simpa using hj
      simp only;rw [if_neg (by omega)]
   | false =>
    have hi : i % 2 ≠ 0 := by rw [beq] at hb; simpa using hb
    rw [hb] at h;simp only at h
    have key : ∃ v l r r', Tr.set x k r (i / 2) = some r' ∧ t' = .nd v l r' ∧ ∀ j, t.get j = (Tr.nd v l r).get j := by
     cases t with
     | lf => obtain ⟨l', h1, e⟩ := aN.1 h; exact ⟨none, .lf, .lf, l', h1, e.symm, fun j => by rw [lf]; cases j with | zero => rfl | succ j => simp only [Tr.get]; split <;> rfl⟩
     | nd v l r => obtain ⟨l', h1, e⟩ := aN.1 h; exact ⟨v, l, r, l', h1, e.symm, fun j => rfl⟩
    obtain ⟨v, l, r, l', h1, rfl, hg⟩ := key;rw [hg]
    cases j with
    | zero => rfl
    | succ j =>
     simp only [Tr.get]
     cases hj : Nat.beq (j % 2) 0 with
     | false =>
      have hj' : j % 2 ≠ 0 := by rw [beq] at hj; simpa using hj
      simp only;rw [ih h1]
      by_cases e : j / 2 = i / 2
      ·rw [if_pos e, if_pos (by omega)]
      ·rw [if_neg e, if_neg (by omega)]
     | true =>
      have hj' : j % 2 = 0 := by rw [beq] at hj; simpa using hj
      simp only;rw [if_neg (by omega)]
end
structure EH where
 n : Nat
 t : Tr AObj
def EH.get (E : EH) (b : Nat) : Option AObj := E.t.get b
def EH.set (E : EH) (b : Nat) (o : AObj) : Option EH := (Tr.set o 24 E.t b).map fun t => ⟨E.n, t⟩
def EH.push (E : EH) (o : AObj) : Option EH := (Tr.set o 24 E.t E.n).map fun t => ⟨E.n + 1, t⟩
section
variable (g d : Nat)
def Je (e : MapEntry) : MapEntry := { e with key := bj g d e.key, val := bj g d e.val }
def JL : AObj → AObj
 | .cells ro cs => .cells ro (fE g d cs)
 | .map es c => .map (es.map (Je g d)) c
 | .dead => .dead
structure HR (F : List AObj) (E : EH) (H : AH) : Prop where
 len : F.length = d
 le : g ≤ E.n
 size : H.size = E.n + d
 get : ∀ b, H.get (yQ g d b) = (E.get b).map (JL g d)
 out : ∀ b, E.n ≤ b → E.get b = none
 fr : ∀ b, g ≤ b → b < g + d → H.get b = F[b - g]?
end
section
variable {g d : Nat} {F : List AObj} {E E' : EH} {H : AH}
theorem HR.lt (h : HR g d F E H) {b : Nat} {o : AObj} (hb : E.get b = some o) : b < E.n := by
 rcases Nat.lt_or_ge b E.n with h1 | h1
 ·exact h1
 ·rw [h.out b h1] at hb; cases hb
theorem HR.new (h : HR g d F E H) : H.size = yQ g d E.n := by
 unfold yQ; rw [if_neg (by have := h.le; omega)]; exact h.size
theorem HR.shlt (h : HR g d F E H) {b : Nat} (hb : b < E.n) : yQ g d b < H.size := by
 rw [h.size]; unfold yQ; split <;> omega
theorem HR.set (h : HR g d F E H) {b : Nat} {o : AObj} (hb : b < E.n) (hs : E.set b o = some E') : HR g d F E' (H.set (yQ g d b) (JL g d o)) := by
 obtain ⟨t, ht, rfl⟩ := aN.1 hs;have hg := Tr.get_set 24 ht;refine ⟨h.len, h.le, by rw [AH.size_set]; exact h.size, fun j => ?_, fun j hj => ?_, fun j h1 h2 => ?_⟩
 ·show _ = (t.get j).map _
  rw [hg j, AH.get_set]
  by_cases e : j = b
  ·subst e; rw [if_pos rfl, if_pos rfl, if_pos (h.shlt hb)]; rfl
  ·rw [if_neg (fun x => e (PX x)), if_neg e]; exact h.get j
 ·show t.get j = none
  rw [hg j, if_neg (by have : E.n ≤ j := hj; omega)]; exact h.out j hj
 ·rw [AH.get_set_ne (by unfold yQ; split <;> omega)]; exact h.fr j h1 h2
theorem HR.push (h : HR g d F E H) {o : AObj} (hs : E.push o = some E') : HR g d F E' (H.push (JL g d o)) := by
 obtain ⟨t, ht, rfl⟩ := aN.1 hs;have hg := Tr.get_set 24 ht;have hle := h.le;have hsz := h.size;refine ⟨h.len, by show g ≤ E.n + 1; omega, by rw [AH.size_push, hsz]; show _ = E.n + 1 + d; omega, fun j => ?_, fun j hj => ?_, fun j h1 h2 => ?_⟩
 ·show _ = (t.get j).map _
  rw [hg j, AH.get_push, h.new]
  by_cases e : j = E.n
  ·subst e; rw [if_pos rfl, if_pos rfl]; rfl
  ·rw [if_neg (fun x => e (PX x)), if_neg e]; exact h.get j
 ·show t.get j = none
  have : E.n + 1 ≤ j := hj;rw [hg j, if_neg (by omega)]; exact h.out j (by omega)
 ·rw [AH.get_push_old (by omega)]; exact h.fr j h1 h2
end
section
variable {g d : Nat}
theorem Ef (cs : List Value) (o : Nat) (xs : List Value) : splice (fE g d cs) o (fE g d xs) = fE g d (splice cs o xs) := by
 simp [splice, fE, List.map_take, List.map_drop]
theorem BV (places : Nat → Option (Nat × Nat)) : ∀ (parts : List (Nat × Value)) (zero : List Value), cz places (fE g d zero) (parts.map fun p => (p.1, (bj g d) p.2)) = (cz places zero parts).map (fE g d) := by
 intro parts
 induction parts with
 | nil => intro zero; rfl
 | cons p parts ih =>
  intro zero;obtain ⟨i, v⟩ := p;simp only [List.map_cons, cz]
  cases places i with
  | none => rfl
  | some q =>
   simp only [be];rw [BS, Array.size_map, Array.toList_map, show (fE g d zero).length = zero.length from qK _]
   split
   ·rw [show List.map (bj g d) v.cells.toList = fE g d v.cells.toList from rfl, Ef]; exact ih _
   ·rfl
theorem TN (e : Nat) (x : Value) (lo hi : Option Value) : dM e ((bj g d) x) (lo.map (bj g d)) (hi.map (bj g d)) = (dM e x lo hi).map (bj g d) := by
 cases x with
 | slice a n e' =>
  have key : ∀ L R : Option Int, (L.bind fun l => R.bind fun h =>
   if 0 ≤ l ∧ l ≤ h ∧ h ≤ n then
    match a.map (xt g d) with
    | none => if n = 0 ∧ e' = 0 then some (.slice none 0 0) else none
    | some ⟨b, o, none⟩ => if e' = e ∧ 0 < e then some (.slice (some ⟨b, o + l.toNat * e, none⟩) (h.toNat - l.toNat) e) else none
    | _ => none
   else none : Option Value) = (L.bind fun l => R.bind fun h =>
   if 0 ≤ l ∧ l ≤ h ∧ h ≤ n then
    match a with
    | none => if n = 0 ∧ e' = 0 then some (.slice none 0 0) else none
    | some ⟨b, o, none⟩ => if e' = e ∧ 0 < e then some (.slice (some ⟨b, o + l.toNat * e, none⟩) (h.toNat - l.toNat) e) else none
    | _ => none
   else none : Option Value).map (bj g d) := by
   intro L R
   cases L with
   | none => rfl
   | some l =>
    cases R with
    | none => rfl
    | some r =>
     simp only [be]
     split
     ·cases a with
      | none => simp only [Option.map_none]; split <;> simp
      | some a =>
       obtain ⟨b, o, sp⟩ := a
       cases sp with
       | none => simp only [dx, xt]; split <;> simp [xt]
       | some sp => simp [xt]
     ·rfl
  cases lo with
  | none =>
   cases hi with
   | none => simp only [e9, dM, Option.map_none]; exact key (some 0) (some n)
   | some h => simp only [e9, dM, dx, BW]; exact key (some 0) (lx h)
  | some l =>
   cases hi with
   | none => simp only [e9, dM, dx, BW]; exact key (lx l) (some n)
   | some h => simp only [e9, dM, dx, BW]; exact key (lx l) (lx h)
 | _ => simp [dM]
theorem MC {x hi mx v : Value} (h : hF x hi mx = some v) : hF ((bj g d) x) ((bj g d) hi) ((bj g d) mx) = some ((bj g d) v) := by
 unfold hF at h
 split at h
 ·cases h; simp [hF]
 ·cases h; simp [hF, xt]
 ·cases h
theorem Yo (v : Value) : oX ((bj g d) v) = oX v := by cases v <;> simp [oX]
theorem BU (cl : KCls) (k : Value) : gy cl ((bj g d) k) = gy cl k := by
 cases cl <;> cases k <;> simp [gy]
 rename_i n cs
 congr 2
 funext v; exact Yo v
theorem Yp (cl : KCls) (a b : Value) : jg cl ((bj g d) a) ((bj g d) b) = jg cl a b := by
 cases cl with
 | flat n =>
  cases a <;> cases b <;> simp [jg]
  rename_i x y
  rw [show ba (List.map (bj g d) x.toList) (List.map (bj g d) y.toList) = ba x.toList y.toList from BT _ _]
 | int => cases a <;> cases b <;> simp [jg]
 | string => cases a <;> cases b <;> simp [jg]
theorem sF (cl : KCls) (k : Value) : ∀ (es : List MapEntry) (i : Nat), aR cl ((bj g d) k) (es.map (Je g d)) i = (aR cl k es i).map fun r => r.map fun p => (p.1, (bj g d) p.2) := by
 intro es
 induction es with
 | nil => intro i; rfl
 | cons e es ih =>
  intro i;simp only [List.map_cons, aR, Je, Yp]
  cases jg cl k e.key with
  | none => rfl
  | some b =>
   simp only [be]
   cases b with
   | true => simp
   | false => simp only [Bool.false_eq_true, if_false]; exact ih _
theorem Mz (v : Value) (args : List Value) : cI ((bj g d) v) (fE g d args) = (cI v args).map fun r => (r.1, fE g d r.2) := by
 cases v with
 | func fn f c => cases fn <;> simp [cI, fE]
 | _ => simp [cI]
end
def oA (E : EH) (b : Nat) : Option (List Value) :=
 match E.get b with
 | some (.cells _ cs) => some cs
 | _ => none
def U4 (v : Value) (E : EH) : Option Value := (sL v).bind fun a => (oA E a.1).bind fun cs => cs[a.2]?
def U5 (n : Nat) (v : Value) (E : EH) : Option Value :=
 (sL v).bind fun a => (oA E a.1).bind fun cs => if a.2 + n ≤ cs.length then some (.agg ((cs.drop a.2).take n).toArray) else none
def eSt (n : Nat) (v x : Value) (E : EH) : Option EH :=
 (sL v).bind fun a => match E.get a.1 with
  | some (.cells false cs) => if x.cells.size = n ∧ a.2 + n ≤ cs.length ∧ x.cells.toList.all Value.oneCell' = true then E.set a.1 (.cells false (splice cs a.2 x.cells.toList)) else none
  | _ => none
def adD (cs : List Value) (E : EH) : Option (Value × EH) := (E.push (.cells false cs)).map fun E' => (.pointer (some ⟨E.n, 0, none⟩), E')
def Do (n e : Nat) (cs : List Value) (E : EH) : Option (Value × EH) := (E.push (.cells false cs)).map fun E' => (.slice (some ⟨E.n, 0, none⟩) n e, E')
def Dm (v : Value) (E : EH) : Option Value :=
 match v with
 | .map none => some (.int .i64 0)
 | .map (some b) => match E.get b with
  | some (.map es _) => some (.int .i64 es.length)
  | _ => none
 | _ => none
def QM (e : Nat) (x : Value) (E : EH) : Option (Nat × List Value) :=
 match x with
 | .slice none n _ => if n = 0 then some (0, []) else none
 | .slice (some ⟨b, o, none⟩) m _ => if m = 0 then some (0, []) else (oA E b).bind fun cs => if o + m * e ≤ cs.length then some (m, (cs.drop o).take (m * e)) else none
 | _ => none
def adB (e bytes : Nat) (s x : Value) (E : EH) : Option (Value × EH) :=
 (QM e x E).bind fun r =>
  if r.2.all Value.oneCell' = true ∧ 0 < e then
   match s with
   | .slice none n k => if n = 0 ∧ k = 0 then (if r.1 = 0 then some (.slice none 0 0, E) else if r.1 * bytes ≤ room ∧ r.1 ≤ room then Do r.1 e r.2 E else none) else none
   | .slice (some ⟨b, o, none⟩) n e' =>
    if r.1 = 0 then some (s, E)
    else if e' = 0 then (if n = 0 ∧ r.1 * bytes ≤ room ∧ r.1 ≤ room then Do r.1 e r.2 E else none)
    else match E.get b with
     | some (.cells false cs) =>
      if e' = e ∧ o + n * e ≤ cs.length ∧ (n + r.1) * bytes ≤ room ∧ n + r.1 ≤ room then (E.set b .dead).bind fun E1 => Do (n + r.1) e ((cs.drop o).take (n * e) ++ r.2) E1 else none
     | _ => none
   | _ => none
  else none
def U6 (zero : List Value) (e bytes : Nat) (len cap : Value) (E : EH) : Option (Value × EH) :=
 match len, cap with
 | .int _ l, .int _ c => if 0 ≤ l ∧ l = c ∧ l.toNat * bytes ≤ room ∧ l.toNat ≤ room ∧ 0 < e ∧ zero.length = e then
  Do l.toNat e (List.replicate l.toNat zero).flatten E else none
 | _, _ => none
def vc (v : Value) (E : EH) : Option (List MapEntry × Nat) :=
 match v with
 | .map none => some ([], 0)
 | .map (some b) => match E.get b with
  | some (.map es c) => some (es, c)
  | _ => none
 | _ => none
def yX (fl : KCls) (zero : Value) (m k : Value) (ok : Bool) (E : EH) : Option Value :=
 if gy fl k = true then (vc m E).bind fun es => (aR fl k es.1 0).map fun r => match r with
  | some (_, v) => if ok then .tuple #[v, .bool true] else v
  | none => if ok then .tuple #[zero, .bool false] else zero
 else none
def EM (fl : KCls) (m k x : Value) (E : EH) : Option EH :=
 if gy fl k = true then match m with
 | .map (some b) => match E.get b with
  | some (.map es c) => (aR fl k es 0).bind fun r => match r with
   | some (i, _) => E.set b (.map (es.modify i fun e => { e with key := k, val := x }) c)
   | none => E.set b (.map (es ++ [{ key := k, val := x, born := c }]) (c + 1))
  | _ => none
 | _ => none
 else none
def EF (fl : KCls) (m k : Value) (E : EH) : Option EH :=
 if gy fl k = true then match m with
 | .map (some b) => match E.get b with
  | some (.map es c) => (aR fl k es 0).bind fun r => match r with
   | some (i, _) => E.set b (.map (es.eraseIdx i) c)
   | none => E.set b (.map es c)
  | _ => none
 | _ => none
 else none
def dd (g d : Nat) (F : List AObj) (x : Option (Value × EH)) (y : Option (Value × AH)) : Prop := ∀ v E', x = some (v, E') → ∃ H', y = some (bj g d v, H') ∧ HR g d F E' H'
def Zt (g d : Nat) (F : List AObj) (x : Option EH) (y : Option AH) : Prop := ∀ E', x = some E' → ∃ H', y = some H' ∧ HR g d F E' H'
section
variable {g d : Nat} {F : List AObj} {E E' : EH} {H : AH}
theorem HR.cells (h : HR g d F E H) (b : Nat) : dv H (yQ g d b) = (oA E b).map (fE g d) := by
 unfold dv oA;rw [h.get b]
 cases E.get b with
 | none => rfl
 | some o => cases o <;> rfl
theorem HR.ld1 (h : HR g d F E H) (v : Value) : ap ((bj g d) v) H = (U4 v E).map (bj g d) := by
 unfold ap U4;rw [G9]
 cases sL v with
 | none => rfl
 | some a =>
  simp only [dx, be, h.cells]
  cases oA E a.1 <;> simp [fE]
theorem HR.ldN (h : HR g d F E H) (n : Nat) (v : Value) : ax n ((bj g d) v) H = (U5 n v E).map (bj g d) := by
 unfold ax U5;rw [G9]
 cases sL v with
 | none => rfl
 | some a =>
  simp only [dx, be, h.cells]
  cases oA E a.1 with
  | none => rfl
  | some cs =>
   simp only [dx, be, fE, qK]
   split
   ·simp [List.map_take, List.map_drop]
   ·rfl
theorem HR.st (h : HR g d F E H) (n : Nat) (v x : Value) : Zt g d F (eSt n v x E) (cZ n ((bj g d) v) ((bj g d) x) H) := by
 intro E' he;unfold eSt at he;unfold cZ;rw [G9];obtain ⟨a, ha, he⟩ := az.1 he;rw [ha];simp only [dx, be, h.get]
 split at he
 ·rename_i cs hcs
  split at he
  ·rename_i hc
   rw [hcs];simp only [dx, JL]
   rw [BS, Array.size_map, Array.toList_map, show (fE g d cs).length = cs.length from qK _, show (List.map (bj g d) x.cells.toList).all Value.oneCell' = x.cells.toList.all Value.oneCell' from PZ _, if_pos hc,
    show splice (fE g d cs) a.2 (List.map (bj g d) x.cells.toList) = fE g d (splice cs a.2 x.cells.toList) from Ef _ _ _]
   exact ⟨_, rfl, h.set (h.lt hcs) he⟩
  ·cases he
 ·cases he
theorem HR.new' (h : HR g d F E H) (cs : List Value) : dd g d F (adD cs E) (some (aa2 (fE g d cs) H)) := by
 intro v E' he;obtain ⟨E1, h1, e⟩ := aN.1 he;cases e;exact ⟨H.push (JL g d (.cells false cs)), by simp [aa2, h.new, xt, JL], h.push h1⟩
theorem HR.rowP (h : HR g d F E H) (n e : Nat) (cs : List Value) : dd g d F (Do n e cs E) (some (.slice (some ⟨H.size, 0, none⟩) n e, H.push (.cells false (fE g d cs)))) := by
 intro v E' he;obtain ⟨E1, h1, e⟩ := aN.1 he;cases e;exact ⟨H.push (JL g d (.cells false cs)), by simp [h.new, xt, JL], h.push h1⟩
theorem HR.lenM (h : HR g d F E H) (v : Value) : ly ((bj g d) v) H = (Dm v E).map (bj g d) := by
 cases v with
 | map r =>
  cases r with
  | none => simp [ly, Dm]
  | some b =>
   simp only [G8, dx, ly, Dm, h.get]
   cases E.get b with
   | none => rfl
   | some o => cases o <;> simp [JL]
 | _ => simp [ly, Dm]
theorem HR.row (h : HR g d F E H) (e : Nat) (x : Value) : jI e ((bj g d) x) H = (QM e x E).map fun r => (r.1, fE g d r.2) := by
 cases x with
 | slice a n k =>
  cases a with
  | none => simp only [e9, Option.map_none, jI, QM]; split <;> rfl
  | some a =>
   obtain ⟨b, o, sp⟩ := a
   cases sp with
   | some sp => simp [jI, QM, xt]
   | none =>
    simp only [e9, dx, xt, jI, QM, h.cells]
    split
    ·rfl
    ·cases oA E b with
     | none => rfl
     | some cs =>
      simp only [dx, be, fE, qK]
      split
      ·simp [List.map_take, List.map_drop]
      ·rfl
 | _ => simp [jI, QM]
theorem HR.mapOf (h : HR g d F E H) (v : Value) : iK ((bj g d) v) H = (vc v E).map fun r => (r.1.map (Je g d), r.2) := by
 cases v with
 | map r =>
  cases r with
  | none => simp [iK, vc]
  | some b =>
   simp only [G8, dx, iK, vc, h.get]
   cases E.get b with
   | none => rfl
   | some o => cases o <;> simp [JL]
 | _ => simp [iK, vc]
theorem HR.lookup (h : HR g d F E H) (fl : KCls) {zero : Value} (hz : (bj g d) zero = zero) (m k : Value) (ok : Bool) : b9 fl zero ((bj g d) m) ((bj g d) k) ok H = (yX fl zero m k ok E).map (bj g d) := by
 unfold b9 yX;rw [BU]
 split
 ·rw [h.mapOf]
  cases vc m E with
  | none => rfl
  | some es =>
   simp only [dx, be, sF]
   cases aR fl k es.1 0 with
   | none => rfl
   | some r =>
    cases r with
    | none => cases ok <;> simp [hz]
    | some p => cases ok <;> simp
 ·rfl
theorem HR.update (h : HR g d F E H) (fl : KCls) (m k x : Value) : Zt g d F (EM fl m k x E) (dl fl ((bj g d) m) ((bj g d) k) ((bj g d) x) H) := by
 intro E' he;unfold EM at he
 split at he
 ·rename_i hk
  split at he
  ·rename_i b
   split at he
   ·rename_i es c hb
    obtain ⟨r, hr, he⟩ := az.1 he
    have hg : H.get (yQ g d b) = some (.map (es.map (Je g d)) c) := by rw [h.get, hb]; rfl
    have hf := sF (g := g) (d := d) fl k es 0;rw [hr] at hf;simp only [G8, dx, dl, BU, hk, if_true, hg]
    cases r with
    | some p =>
     have hf : aR fl ((bj g d) k) (es.map (Je g d)) 0 = some (some (p.1, (bj g d) p.2)) := hf;rw [hf];refine ⟨_, rfl, ?_⟩;have := h.set (h.lt hb) he;simp only [JL] at this;show HR g d F E' (H.set (yQ g d b) (.map ((es.map (Je g d)).modify p.1 fun e => { e with key := (bj g d) k, val := (bj g d) x }) c));rw [show (es.map (Je g d)).modify p.1 (fun e => { e with key := (bj g d) k, val := (bj g d) x }) = (es.modify p.1 fun e => { e with key := k, val := x }).map (Je g d) from ?_]
     ·exact this
     ·apply List.ext_getElem?
      intro i;simp only [List.getElem?_modify, vH]
      cases es[i]? with
      | none => rfl
      | some e => simp only [dx, Option.map_map]; split <;> rfl
    | none =>
     have hf : aR fl ((bj g d) k) (es.map (Je g d)) 0 = some none := hf;rw [hf];refine ⟨_, rfl, ?_⟩;have := h.set (h.lt hb) he;simp only [JL, IC, List.map_cons, List.map_nil, Je] at this;exact this
   ·cases he
  ·cases he
 ·cases he
theorem HR.delete (h : HR g d F E H) (fl : KCls) (m k : Value) : Zt g d F (EF fl m k E) (lw fl ((bj g d) m) ((bj g d) k) H) := by
 intro E' he;unfold EF at he
 split at he
 ·rename_i hk
  split at he
  ·rename_i b
   split at he
   ·rename_i es c hb
    obtain ⟨r, hr, he⟩ := az.1 he
    have hg : H.get (yQ g d b) = some (.map (es.map (Je g d)) c) := by rw [h.get, hb]; rfl
    have hf := sF (g := g) (d := d) fl k es 0;rw [hr] at hf;simp only [G8, dx, lw, BU, hk, if_true, hg]
    cases r with
    | some p =>
     have hf : aR fl ((bj g d) k) (es.map (Je g d)) 0 = some (some (p.1, (bj g d) p.2)) := hf;rw [hf];refine ⟨_, rfl, ?_⟩;have := h.set (h.lt hb) he;simp only [JL] at this;show HR g d F E' (H.set (yQ g d b) (.map ((es.map (Je g d)).eraseIdx p.1) c));rw [show (es.map (Je g d)).eraseIdx p.1 = (es.eraseIdx p.1).map (Je g d) from by simp [List.eraseIdx_eq_take_drop_succ, List.map_take, List.map_drop]];exact this
    | none =>
     have hf : aR fl ((bj g d) k) (es.map (Je g d)) 0 = some none := hf;rw [hf];exact ⟨_, rfl, h.set (h.lt hb) he⟩
   ·cases he
  ·cases he
 ·cases he
theorem HR.make (h : HR g d F E H) {zero : List Value} (hz : fE g d zero = zero) (e by' : Nat) (len cap : Value) : dd g d F (U6 zero e by' len cap E) (kL zero e by' ((bj g d) len) ((bj g d) cap) H) := by
 intro v E' he;unfold U6 at he
 split at he
 ·split at he
  ·rename_i k1 l k2 c hc
   obtain ⟨H', h1, h2⟩ := h.rowP _ _ _ v E' he;refine ⟨H', ?_, h2⟩;simp only [wK, kL];rw [if_pos hc, ← h1]
   congr 4
   rw [fE, List.map_flatten, List.map_replicate, show List.map (bj g d) zero = zero from hz]
  ·cases he
 ·cases he
theorem HR.app (h : HR g d F E H) (e by' : Nat) (x y : Value) : dd g d F (adB e by' x y E) (cO e by' ((bj g d) x) ((bj g d) y) H) := by
 intro v E' he;unfold adB at he;unfold cO;rw [h.row];obtain ⟨r, hr, he⟩ := az.1 he;rw [hr];simp only [dx, be];rw [show (fE g d r.2).all Value.oneCell' = r.2.all Value.oneCell' from PZ _]
 split at he
 ·rename_i hc
  rw [if_pos hc]
  split at he
  ·rename_i n k
   simp only [e9, Option.map_none]
   split at he
   ·rename_i h0
    rw [if_pos h0]
    split at he
    ·rename_i h1
     rw [if_pos h1]; cases he; exact ⟨H, by simp, h⟩
    ·rename_i h1
     rw [if_neg h1]
     split at he
     ·rename_i h2
      rw [if_pos h2];exact h.rowP _ _ _ v E' he
     ·cases he
   ·cases he
  ·rename_i _ b o n e' _
   simp only [e9, dx, xt]
   split at he
   ·rename_i h1
    rw [if_pos h1]; cases he; exact ⟨H, by simp [xt], h⟩
   ·rename_i h1
    rw [if_neg h1]
    split at he
    ·rename_i h2
     rw [if_pos h2]
     split at he
     ·rename_i h3
      rw [if_pos h3];exact h.rowP _ _ _ v E' he
     ·cases he
    ·rename_i h2
     rw [if_neg h2]
     split at he
     ·rename_i cs hb
      have hg : H.get (yQ g d b) = some (.cells false (fE g d cs)) := by rw [h.get, hb]; rfl
      rw [hg];simp only;rw [show (fE g d cs).length = cs.length from qK _]
      split at he
      ·rename_i h3
       rw [if_pos h3];obtain ⟨E1, h4, he⟩ := az.1 he;have hs := h.set (h.lt hb) h4;obtain ⟨H', h5, h6⟩ := hs.rowP _ _ _ v E' he;refine ⟨H', ?_, h6⟩;rw [← h5, AH.size_set];simp [JL, fE, List.map_take, List.map_drop]
      ·cases he
     ·cases he
  ·cases he
 ·cases he
end
abbrev TF := Nat → List Value → EH → Option (Value × EH)
def B1 (P : Program) (b : Builtin) (argTypes : Array TypeId) (args : List Value) (E : EH) : Option (Value × EH) :=
 match b, args with
 | .len, [x] => match (argTypes[0]?).bind fun t => P.underlying t with
  | some (.slice _) => match x with | .slice _ _ _ => (oc x).map (·, E) | _ => none
  | some .string => match x with | .string _ => (oc x).map (·, E) | _ => none
  | some (.map _ _) => (Dm x E).map (·, E)
  | _ => none
 | .max, args => (eN args).map (·, E)
 | .min, args => (ii args).map (·, E)
 | .append, [s, x] => (argTypes[0]?).bind fun t => (bQ P t).bind fun el => (bX P el).bind fun e => (d8 P el).bind fun by' => (bp P el).bind fun z =>
  if z.cells.size = e ∧ (argTypes[1]?).bind (fun u => bQ P u) = some el then adB e by' s x E else none
 | .delete, [m, k] => (argTypes[0]?).bind fun t => (bS P t).bind fun kt => (b8 P kt.1).bind fun fl => (EF fl m k E).map fun E' => (.tuple #[], E')
 | _, _ => none
def tRd (P : Program) (ev : Operand → Value) (op : Op) (E : EH) : Option Value :=
 match op with
 | .load t a => (dS P t).bind fun g => match g with
  | some n => U5 n (ev a) E
  | none => U4 (ev a) E
 | .lookup t m k ok => (bS P t).bind fun kt => (b8 P kt.1).bind fun fl => (bp P kt.2).bind fun z => yX fl z (ev m) (ev k) ok E
 | .call c => match c.args.toList.map ev with
  | [x] => match (c.argTypes[0]?).bind fun t => P.underlying t with
   | some (.slice _) => match x with | .slice _ _ _ => oc x | _ => none
   | some .string => match x with | .string _ => oc x | _ => none
   | some (.map _ _) => Dm x E
   | _ => none
  | _ => none
 | _ => none
def uX (P : Program) (call : TF) (ev : Operand → Value) (o : Oper) (E : EH) : Option (Value × EH) :=
 match o.op with
 | .move x => some (ev x, E)
 | .assign x => some (ev x, E)
 | .pick c a b => (aH (ev c) (ev a) (ev b)).map (·, E)
 | .alloc t => (bp P t).bind fun z => adD z.cells.toList E
 | .box _ x => adD (ev x).cells.toList E
 | .build t parts => match P.underlying t with
  | some (.struct fs) => (bp P t).bind fun z => (hM P fs.toList).bind fun ps => (cz (ps[·]?) z.cells.toList (parts.toList.map fun p => (p.1, ev p.2))).map fun cs => (.agg cs.toArray, E)
  | some (.array _ el) => (bp P t).bind fun z => (bX P el).bind fun e => (cz (fun i => some (i * e, e)) z.cells.toList (parts.toList.map fun p => (p.1, ev p.2))).map fun cs => (.agg cs.toArray, E)
  | _ => none
 | .buildSlice t len parts => (bQ P t).bind fun el => (bX P el).bind fun e => (bp P el).bind fun z =>
  if 0 < e ∧ z.cells.size = e ∧ len * e ≤ 2 ^ 24 then
   (cz (fun i => some (i * e, e)) (List.replicate len z.cells.toList).flatten (parts.toList.map fun p => (p.1, ev p.2))).bind fun cs => Do len e cs E
  else none
 | .load t a => (dS P t).bind fun g => match g with
  | some n => (U5 n (ev a) E).map (·, E)
  | none => (U4 (ev a) E).map (·, E)
 | .store t a x => (bX P t).bind fun n => (eSt n (ev a) (ev x) E).map fun E' => (undef, E')
 | .nilCheck x => (se (ev x)).map (·, E)
 | .binOp op t x y _ => (aj (wV P t) op (ev x) (ev y)).map (·, E)
 | .unOp op _ x => (pr op (ev x)).map (·, E)
 | .convert src dst x => match P.underlying src with
  | some _ => (bV (oY P dst) (ev x)).map (·, E)
  | none => none
 | .makeFunc fn first captured => some (.func fn (first.map ev) (captured.map ev), E)
 | .makeMap _ none => (E.push (.map [] 0)).map fun E' => (.map (some E.n), E')
 | .makeSlice t l c => (bQ P t).bind fun el => (bX P el).bind fun e => (d8 P el).bind fun by' => (bp P el).bind fun z => U6 z.cells.toList e by' (ev l) (ev c) E
 | .slice t x lo hi none => (bQ P t).bind fun el => (bX P el).bind fun e => (dM e (ev x) (lo.map ev) (hi.map ev)).map (·, E)
 | .slice t x none (some hi) (some mx) => (bQ P t).bind fun el => (bX P el).bind fun _ => (hF (ev x) (ev hi) (ev mx)).map (·, E)
 | .fieldAddr s x f => (iP P s f).bind fun f => (bX P f.type).bind fun n => if n = 0 then none else (CJ f.offset (ev x)).map (·, E)
 | .field s x f => (iP P s f).bind fun f => (dS P f.type).bind fun n => (jz n f.offset (ev x)).map (·, E)
 | .indexAddr t x i => match P.underlying t with
  | some (.slice el) => (bX P el).bind fun e => (mN e (ev x) (ev i)).map (·, E)
  | some (.array len el) => (bX P el).bind fun e => (gA len e (ev x) (ev i)).map (·, E)
  | _ => none
 | .index t x i => match P.underlying t with
  | some (.array len el) => (bX P el).bind fun e => (dS P el).bind fun n => (g9 len n e (ev x) (ev i)).map (·, E)
  | some .string => (g8 (ev x) (ev i)).map (·, E)
  | _ => none
 | .lookup t m k ok => (bS P t).bind fun kt => (b8 P kt.1).bind fun fl => (bp P kt.2).bind fun z => (yX fl z (ev m) (ev k) ok E).map (·, E)
 | .mapUpdate t m k x => (bS P t).bind fun kt => (b8 P kt.1).bind fun fl => (EM fl (ev m) (ev k) (ev x) E).map fun E' => (undef, E')
 | .extract t i => (ah (ev t) i).map (·, E)
 | .call c => match c.callee with
  | .builtin b => B1 P b c.argTypes (c.args.toList.map ev) E
  | .value f => (cI (ev f) (c.args.toList.map ev)).bind fun fa => call fa.1 fa.2 E
  | _ => none
 | _ => none
section
variable {P : Program} {g d : Nat} {F : List AObj} {E E' : EH} {H : AH}
theorem iN {t : TypeId} {z : Value} (h : bp P t = some z) : (bj g d) z = z ∧ fE g d z.cells.toList = z.cells.toList := by
 obtain ⟨i, _, _, h1, h2⟩ := ci h;exact ⟨Jf h2, uS h1⟩
theorem dd.val (h : HR g d F E H) {x y : Option Value} (e : y = x.map (bj g d)) : dd g d F (x.map (·, E)) (y.map (·, H)) := by
 intro v E' hx;obtain ⟨z, hz, e1⟩ := aN.1 hx;cases e1;rw [e, hz];exact ⟨H, rfl, h⟩
theorem dd.bind {α : Type} {o : Option α} {f : α → Option (Value × EH)} {f' : α → Option (Value × AH)} (h : ∀ a, o = some a → dd g d F (f a) (f' a)) : dd g d F (o.bind f) (o.bind f') := by
 intro v E' hx;obtain ⟨a, ha, hx⟩ := az.1 hx;rw [ha];exact h a ha v E' hx
theorem dd.no {y : Option (Value × AH)} : dd g d F none y := fun v E' h => by cases h
theorem dd.ite {c : Prop} [Decidable c] {x : Option (Value × EH)} {y : Option (Value × AH)} (h : c → dd g d F x y) : dd g d F (if c then x else none) (if c then y else none) := by
 intro v E' hx
 split at hx
 ·rename_i hc; rw [if_pos hc]; exact h hc v E' hx
 ·cases hx
theorem dd.heap {x : Option EH} {y : Option AH} (v : Value) (hv : (bj g d) v = v) (h : Zt g d F x y) : dd g d F (x.map fun E' => (v, E')) (y.map fun H' => (v, H')) := by
 intro v' E' hx;obtain ⟨E1, h1, e⟩ := aN.1 hx;cases e;obtain ⟨H', h2, h3⟩ := h E' h1;exact ⟨H', by rw [h2, hv]; rfl, h3⟩
theorem Kn {ev ev' : Operand → Value} {l : List Operand} (h : ∀ x ∈ l, ev' x = (bj g d) (ev x)) : l.map ev' = fE g d (l.map ev) := by
 rw [fE, List.map_map];exact List.map_congr_left h
theorem HK (h : HR g d F E H) (b : Builtin) (ats : Array TypeId) (args : List Value) : dd g d F (B1 P b ats args E) (b7 P b ats (fE g d args) H) := by
 intro v E' hx;unfold B1 at hx
 split at hx
 ·rename_i x
  simp only [fE, List.map_cons, List.map_nil, b7]
  split at hx
  ·rename_i hu
   rw [hu];simp only
   split at hx
   ·simp only [e9]
    exact dd.val h (by rw [← e9, abD]) v E' hx
   ·cases hx
  ·rename_i hu
   rw [hu];simp only
   split at hx
   ·simp only [Eg]
    exact dd.val h (by simp [oc]) v E' hx
   ·cases hx
  ·rename_i hu
   rw [hu];exact dd.val h (h.lenM _) v E' hx
  ·cases hx
 ·exact dd.val h (abE _) v E' hx
 ·exact dd.val h (abF _) v E' hx
 ·simp only [fE, List.map_cons, List.map_nil, b7]
  exact dd.bind (fun t _ => dd.bind fun el _ => dd.bind fun e _ => dd.bind fun by' _ => dd.bind fun z _ => dd.ite fun _ => h.app _ _ _ _) v E' hx
 ·simp only [fE, List.map_cons, List.map_nil, b7]
  exact dd.bind (fun t _ => dd.bind fun kt _ => dd.bind fun fl _ => dd.heap _ (by simp) (h.delete _ _ _)) v E' hx
 ·cases hx
theorem acP (h : HR g d F E H) {ev ev' : Operand → Value} {op : Op} (hev : ∀ x, x ∈ op.operands.toList → ev' x = (bj g d) (ev x)) : zB P ev' op H = (tRd P ev op E).map (bj g d) := by
 cases op with
 | load t a =>
  simp only [zB, tRd];rw [hev a (by simp [Op.operands])]
  cases dS P t with
  | none => rfl
  | some n => cases n with
   | none => exact h.ld1 _
   | some n => exact h.ldN _ _
 | lookup t m k ok =>
  simp only [zB, tRd];rw [hev m (by simp [Op.operands]), hev k (by simp [Op.operands])]
  cases bS P t with
  | none => rfl
  | some kt =>
   simp only [be]
   cases b8 P kt.1 with
   | none => rfl
   | some fl =>
    simp only [be]
    cases hz : bp P kt.2 with
    | none => rfl
    | some z => exact h.lookup fl (iN hz).1 _ _ _
 | call c =>
  have ha : c.args.toList.map ev' = fE g d (c.args.toList.map ev) := Kn fun x hx => hev x (by simp only [Op.operands, Call.operands, Array.toList_append, List.mem_append]; exact .inr hx);simp only [zB, tRd];rw [ha]
  generalize c.args.toList.map ev = l
  match l with
  | [] => rfl
  | [x] =>
   simp only [fE, List.map_cons, List.map_nil]
   generalize (c.argTypes[0]?).bind (fun t => P.underlying t) = u
   cases u with
   | none => rfl
   | some u => cases u <;> first | rfl | exact h.lenM _ | (cases x <;> simp [oc])
  | x :: y :: l => rfl
 | _ => rfl
def pU (g d : Nat) (F : List AObj) (c : TF) (c' : a7) : Prop := ∀ (E : EH) (H : AH) f args, HR g d F E H → dd g d F (c f args E) (c' f (fE g d args) H)
theorem adT (h : HR g d F E H) {c : TF} {c' : a7} (hc : pU g d F c c') {ev ev' : Operand → Value} {o : Oper} (hev : ∀ x, x ∈ o.op.operands.toList → ev' x = (bj g d) (ev x)) :
 dd g d F (uX P c ev o E) (dp P c' ev' o H) := by
 obtain ⟨dst, op, type, pos, after, guard⟩ := o;simp only at hev
 have fill : ∀ (parts : Array (Nat × Operand)), (∀ x, x ∈ (parts.toList.map (·.2)) → ev' x = (bj g d) (ev x)) → (parts.toList.map fun p => (p.1, ev' p.2)) = (parts.toList.map fun p => (p.1, ev p.2)).map fun p => (p.1, (bj g d) p.2) := by
  intro parts hp;rw [List.map_map];refine List.map_congr_left fun p hpm => ?_;simp only [Function.comp];rw [hp p.2 (List.mem_map_of_mem hpm)]
 have arr : ∀ (l : Array Operand), (∀ x ∈ l.toList, ev' x = (bj g d) (ev x)) → l.map ev' = (l.map ev).map (bj g d) := by
  intro l hl;apply Array.toList_inj.1;rw [Array.toList_map, Array.toList_map, Array.toList_map];exact Kn hl
 cases op
 case move x => intro v E' hx; simp only [uX] at hx; cases hx; exact ⟨H, by simp only [dp]; rw [hev x (by simp [Op.operands])], h⟩
 case assign x => intro v E' hx; simp only [uX] at hx; cases hx; exact ⟨H, by simp only [dp]; rw [hev x (by simp [Op.operands])], h⟩
 case pick k a b =>
  simp only [uX, dp];rw [hev k (by simp [Op.operands]), hev a (by simp [Op.operands]), hev b (by simp [Op.operands])];exact dd.val h (Yv _ _ _)
 case alloc t =>
  intro v E' hx;simp only [uX] at hx;simp only [dp];obtain ⟨z, hz, hx⟩ := az.1 hx;rw [hz];have := h.new' _ v E' hx;rw [(iN hz).2] at this;exact this
 case box t x =>
  simp only [uX, dp];rw [hev x (by simp [Op.operands]), TM];exact h.new' _
 case build t parts =>
  have hp := fill parts fun x hx => hev x (by simpa [Op.operands] using hx);intro v E' hx;simp only [uX] at hx;simp only [dp];rw [hp]
  split at hx
  ·rename_i fs hu
   rw [hu];simp only;obtain ⟨z, hz, hx⟩ := az.1 hx;obtain ⟨ps, hps, hx⟩ := az.1 hx;obtain ⟨cs, hcs, e⟩ := aN.1 hx;cases e;have hf := BV (g := g) (d := d) (ps[·]?) (parts.toList.map fun p => (p.1, ev p.2)) z.cells.toList;rw [(iN hz).2, hcs] at hf;rw [hz, hps];simp only [be];rw [hf];exact ⟨H, by simp, h⟩
  ·rename_i el hu
   rw [hu];simp only;obtain ⟨z, hz, hx⟩ := az.1 hx;obtain ⟨e, he, hx⟩ := az.1 hx;obtain ⟨cs, hcs, e⟩ := aN.1 hx;cases e;have hf := BV (g := g) (d := d) (fun i => some (i * e, e)) (parts.toList.map fun p => (p.1, ev p.2)) z.cells.toList;rw [(iN hz).2, hcs] at hf;rw [hz, he];simp only [be];rw [hf];exact ⟨H, by simp, h⟩
  ·cases hx
 case buildSlice t len parts =>
  have hp := fill parts fun x hx => hev x (by simpa [Op.operands] using hx);simp only [uX, dp];rw [hp];refine dd.bind fun el _ => dd.bind fun e _ => dd.bind fun z hz => dd.ite fun _ => ?_;intro v E' hx;obtain ⟨cs, hcs, hx⟩ := az.1 hx;have hf := BV (g := g) (d := d) (fun i => some (i * e, e)) (parts.toList.map fun p => (p.1, ev p.2)) (List.replicate len z.cells.toList).flatten
  rw [hcs, show fE g d (List.replicate len z.cells.toList).flatten = (List.replicate len z.cells.toList).flatten from by
   rw [fE, List.map_flatten, List.map_replicate, show List.map (bj g d) z.cells.toList = z.cells.toList from (iN hz).2]] at hf
  rw [hf];exact h.rowP _ _ _ v E' hx
 case load t a =>
  simp only [uX, dp];rw [hev a (by simp [Op.operands])];refine dd.bind fun n _ => ?_
  cases n with
  | none => exact dd.val h (h.ld1 _)
  | some n => exact dd.val h (h.ldN _ _)
 case store t a x =>
  simp only [uX, dp];rw [hev a (by simp [Op.operands]), hev x (by simp [Op.operands])];exact dd.bind fun n _ => dd.heap _ pJ (h.st _ _ _)
 case nilCheck x =>
  simp only [uX, dp];rw [hev x (by simp [Op.operands])];exact dd.val h (abG _)
 case binOp op t x y z =>
  simp only [uX, dp];rw [hev x (by simp [Op.operands]), hev y (by simp [Op.operands])];exact dd.val h (abA _ _ _ _)
 case unOp op t x =>
  simp only [uX, dp];rw [hev x (by simp [Op.operands])];exact dd.val h (aeB _ _)
 case convert src dst x =>
  simp only [uX, dp];rw [hev x (by simp [Op.operands])]
  split
  ·rename_i hu; rw [hu]; exact dd.val h (Yr _ _)
  ·exact dd.no
 case makeFunc fn first captured =>
  simp only [uX, dp];rw [arr first fun x hx => hev x (by simp only [Op.operands, Array.toList_append, List.mem_append]; exact .inl hx), arr captured fun x hx => hev x (by simp only [Op.operands, Array.toList_append, List.mem_append]; exact .inr hx)];intro v E' hx; cases hx; exact ⟨H, by simp, h⟩
 case makeMap t r =>
  cases r with
  | none =>
   intro v E' hx;simp only [uX] at hx;simp only [dp];obtain ⟨E1, h1, e⟩ := aN.1 hx;cases e;exact ⟨H.push (JL g d (.map [] 0)), by simp [h.new, JL], h.push h1⟩
  | some r => exact dd.no
 case makeSlice t l k =>
  simp only [uX, dp];rw [hev l (by simp [Op.operands]), hev k (by simp [Op.operands])]
  exact dd.bind fun el _ => dd.bind fun e _ => dd.bind fun by' _ => dd.bind fun z hz => h.make (iN hz).2 _ _ _ _
 case slice t x lo hi mx =>
  have hx := hev x (by simp [Op.operands])
  have ho : ∀ (q : Option Operand), (∀ y ∈ q.toArray.toList, ev' y = (bj g d) (ev y)) → q.map ev' = (q.map ev).map (bj g d) := by
   intro q hq
   cases q with
   | none => rfl
   | some y => simp [hq y (by simp)]
  have hlo : lo.map ev' = (lo.map ev).map (bj g d) := ho lo fun y hy => hev y (by simp only [Op.operands, Array.toList_append, List.mem_append]; exact .inl (.inl (.inr hy)));have hhi : hi.map ev' = (hi.map ev).map (bj g d) := ho hi fun y hy => hev y (by simp only [Op.operands, Array.toList_append, List.mem_append]; exact .inl (.inr hy));have hmx : mx.map ev' = (mx.map ev).map (bj g d) := ho mx fun y hy => hev y (by simp only [Op.operands, Array.toList_append, List.mem_append]; exact .inr hy)
  cases mx with
  | none =>
   simp only [uX, dp];rw [hx, hlo, hhi];exact dd.bind fun el _ => dd.bind fun e _ => dd.val h (TN _ _ _ _)
  | some mx =>
   cases lo with
   | some lo => cases hi <;> exact dd.no
   | none =>
    cases hi with
    | none => exact dd.no
    | some hi =>
     simp only [dx, Option.some.injEq] at hhi hmx;simp only [uX, dp];rw [hx, hhi, hmx];refine dd.bind fun el _ => dd.bind fun e _ => ?_;intro v E' hv;obtain ⟨z, hz, e⟩ := aN.1 hv;cases e;rw [MC hz];exact ⟨H, rfl, h⟩
 case fieldAddr st x f =>
  simp only [uX, dp];rw [hev x (by simp [Op.operands])];refine dd.bind fun f _ => dd.bind fun n _ => ?_
  split
  ·exact dd.no
  ·exact dd.val h (abB _ _)
 case field st x f =>
  simp only [uX, dp];rw [hev x (by simp [Op.operands])];exact dd.bind fun f _ => dd.bind fun n _ => dd.val h (Yu _ _ _)
 case indexAddr t x i =>
  simp only [uX, dp];rw [hev x (by simp [Op.operands]), hev i (by simp [Op.operands])]
  split
  ·rename_i hu; rw [hu]; exact dd.bind fun e _ => dd.val h (abC _ _ _)
  ·rename_i hu; rw [hu]; exact dd.bind fun e _ => dd.val h (Yt _ _ _ _)
  ·exact dd.no
 case index t x i =>
  simp only [uX, dp];rw [hev x (by simp [Op.operands]), hev i (by simp [Op.operands])]
  split
  ·rename_i hu; rw [hu]; exact dd.bind fun e _ => dd.bind fun n _ => dd.val h (MB _ _ _ _ _)
  ·rename_i hu; rw [hu]; exact dd.val h (MA _ _)
  ·exact dd.no
 case lookup t m k ok =>
  simp only [uX, dp];rw [hev m (by simp [Op.operands]), hev k (by simp [Op.operands])];exact dd.bind fun kt _ => dd.bind fun fl _ => dd.bind fun z hz => dd.val h (h.lookup fl (iN hz).1 _ _ _)
 case mapUpdate t m k x =>
  simp only [uX, dp];rw [hev m (by simp [Op.operands]), hev k (by simp [Op.operands]), hev x (by simp [Op.operands])];exact dd.bind fun kt _ => dd.bind fun fl _ => dd.heap _ pJ (h.update _ _ _ _)
 case extract t i =>
  simp only [uX, dp];rw [hev t (by simp [Op.operands])];exact dd.val h (Jg _ _)
 case call k =>
  obtain ⟨callee, args, ats⟩ := k;have ha : args.toList.map ev' = fE g d (args.toList.map ev) := Kn fun x hx => hev x (by simp only [Op.operands, Call.operands, Array.toList_append, List.mem_append]; exact .inr hx)
  cases callee with
  | builtin b =>
   simp only [uX, dp];rw [ha];exact HK h _ _ _
  | value f =>
   simp only [uX, dp];rw [ha, hev f (by simp [Op.operands, Call.operands])];intro v E' hx;obtain ⟨q, hq, hx⟩ := az.1 hx;rw [Mz, hq];exact hc E H _ _ h v E' hx
  | invoke r m => exact dd.no
 all_goals exact dd.no
end
end Go.Proofs.YtghoamdlcjdfjaaGreatDoor.Gst
