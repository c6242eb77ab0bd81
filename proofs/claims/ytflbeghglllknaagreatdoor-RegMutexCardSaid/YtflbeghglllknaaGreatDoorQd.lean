/- Several texts in one. -/
import Derived.Test.YtflbeghglllknaaGreatDoorQc
namespace Go.Proofs.YtflbeghglllknaaGreatDoor.Gst
open Go Go.RowKit
set_option linter.unusedSimpArgs false
set_option linter.unusedVariables false
set_option maxHeartbeats 1000000
set_option synthInstance.maxSize 2000
set_option synthInstance.maxHeartbeats 400000
theorem Ko {o : Nat} {x : Value} {k : Value → OV} {Q : Value → AH → Prop} (h : wp (k undef) Q) : wp (G3 (vb false) true [.n, .f o] x k) Q := h
theorem oz {p : List Stp} {x : Value} {k : Value → OV} {Q : Value → AH → Prop} (h : wp (ad p x k) Q) : wp (G3 (vb true) true p x k) Q := by rw [L7]; exact h
section
variable {m i rp : Nat} {cs : List Pk} {R : SP} {H : AH}
theorem cC (h : ae (cz m i rp cs * R) H) : ∃ cv, ae (blk rp (.cells false [vp m, vi i, cv]) * (ts 3 Pk.cells cv cs * R)) H := by
 obtain ⟨cv, h1⟩ := ae.ex.1 h;exact ⟨cv, h1.to⟩
theorem yL {cv : Value} (h : ae (blk rp (.cells false [vp m, vi i, cv]) * (ts 3 Pk.cells cv cs * R)) H) : ae (cz m i rp cs * R) H :=
 ae.ex.2 ⟨cv, h.to⟩
theorem eS (h : ae (cW m i rp cs * R) H) : ∃ cv, ae (blk rp (.cells false [vp m, vi i, vi cs.length, cv]) * (ts 3 Pk.cells cv cs * R)) H := by
 obtain ⟨cv, h1⟩ := ae.ex.1 h;exact ⟨cv, h1.to⟩
theorem kF {cv : Value} (h : ae (blk rp (.cells false [vp m, vi i, vi cs.length, cv]) * (ts 3 Pk.cells cv cs * R)) H) : ae (cW m i rp cs * R) H :=
 ae.ex.2 ⟨cv, h.to⟩
end
section
variable (m i rp : Nat) (cs : List Pk) (μ : Mu)
theorem wo (kind cell : Int) : Sp dZ [vp rp, vi kind, vi cell] (cz m i rp cs) (fun _ : Unit => eA (kind, (i : Int), cell)) (fun _ => cz m i rp cs) := by
 refine aJ fun R H h => ?_;obtain ⟨cv, h0⟩ := cC h;refine bm (fun r => z7 _ _ _ H) ?_;refine bp h0 fun b H1 h1 => ?_;refine ai h1 ac rfl ?_;refine iW ?_;refine eW h1 rfl rfl fun H2 h2 => ?_;refine aW h2 ?_;exact ap ⟨(), rfl, yL (cv := cv) h2.to⟩
theorem ya (who : Int) (hE : μ.N < 1099511627000) : Sp fC [vp rp, vi who] (cz m i rp cs * bD m μ) (fun _ : Unit => vu (μ.V (11, (i : Int), 0))) (fun _ => cz m i rp cs * bD m (μ.acc who 1 (11, (i : Int), 0))) := by
 refine aJ fun R H h => ?_;obtain ⟨cv, h0⟩ := cC (m := m) (i := i) (rp := rp) (cs := cs) (R := bD m μ * R) (H := H) h.to;refine bm (fun r => wm _ _ H) ?_;refine bA ac ?_;refine aN h0 rfl ?_;refine af h (wo m i rp cs 11 0) fun _ H1 h1 => ?_;obtain ⟨cv1, k1⟩ := cC h1;refine aH k1 h0 (by rfl) ?_;refine af h1 (CB m μ who (11, (i : Int), 0) (by omega)) fun _ H2 h2 => ?_;exact ap ⟨(), rfl, h2.to⟩
theorem Fh (who : Int) (hE : μ.N < 1099511627000) : Sp gQ [vp rp, vi who] (cz m i rp cs * bD m μ) (fun _ : Unit => vu (μ.V (12, (i : Int), 0))) (fun _ => cz m i rp cs * bD m (μ.acc who 1 (12, (i : Int), 0))) := by
 refine aJ fun R H h => ?_;obtain ⟨cv, h0⟩ := cC (m := m) (i := i) (rp := rp) (cs := cs) (R := bD m μ * R) (H := H) h.to;refine bm (fun r => wh _ _ H) ?_;refine bA ac ?_;refine aN h0 rfl ?_;refine af h (wo m i rp cs 12 0) fun _ H1 h1 => ?_;obtain ⟨cv1, k1⟩ := cC h1;refine aH k1 h0 (by rfl) ?_;refine af h1 (CB m μ who (12, (i : Int), 0) (by omega)) fun _ H2 h2 => ?_;exact ap ⟨(), rfl, h2.to⟩
def nY (w h k : Nat) : Bool := decide (h ≤ bk w ∧ k ≤ bk w - h)
theorem Fg (w h : Nat) (hw : w < 18446744073709551616) (hc : cs.length < 1000) : Sp gP [vp rp, vu w, vu h] (cz m i rp cs) (fun _ : Unit => vb (nY w h cs.length)) (fun _ => cz m i rp cs) := by
 refine aJ fun R H hh => ?_;have hl := dS w;refine bm (fun r => wg _ _ _ H) ?_;refine af hh (gC w hw) fun _ H1 h1 => ?_
 by_cases hle : h ≤ bk w
 ·refine aa (uY (by omega)) ?_
  refine gs ?_;refine aa (Em hle (by omega)) ?_;obtain ⟨cv, h2⟩ := cC (m := m) (i := i) (rp := rp) (cs := cs) (R := R) (H := H1) h1.to;refine gs ?_;refine ai h2 ac rfl ?_;refine gs ?_;refine iF (s := cv) (l := cs) h2 ?_;refine gs ?_;refine aa (d5 (by omega) (by omega)) ?_;rw [show ((cs.length : Nat) : Int).toNat = cs.length from u4 _];refine gs ?_
  by_cases hk : cs.length ≤ bk w - h
  ·refine aa (uY (by omega)) ?_
   refine gs ?_;exact ap ⟨(), by rw [nY, fj ⟨hle, hk⟩], h1.to⟩
  ·refine aa (mf (by omega)) ?_
   refine gs ?_;exact ap ⟨(), by rw [nY, ez (fun q => hk q.2)], h1.to⟩
 ·refine aa (mf (by omega)) ?_
  refine gs ?_;exact ap ⟨(), by rw [nY, ez (fun q => hle q.1)], h1.to⟩
abbrev Mu.turn (μ : Mu) (who : Int) (i w : Nat) (o : Option Nat) : Mu := match o with
 | none => μ
 | some n => μ.swp who (11, (i : Int), 0) w n
def turned (μ : Mu) (i w : Nat) (o : Option Nat) : Bool := o.isSome && decide (μ.V (11, (i : Int), 0) = w)
theorem xZ (who : Int) (w fn : Nat) (o : Option Nat) (hf : Sp fn [vu w] emp (fun _ : Unit => Cz o) (fun _ => emp)) (hE : μ.N < 1099511627000) :
 Sp fD [vp rp, vi who, vu w, .func (.func fn) #[] #[]] (cz m i rp cs * bD m μ) (fun _ : Unit => vb (turned μ i w o)) (fun _ => cz m i rp cs * bD m (μ.turn who i w o)) := by
 refine bn (wn _ _ _ _) fun R H h => ?_;refine ah (show (db (.func (.func fn) #[] #[]) [vu w]).bind _ = _ from rfl) ?_;refine af h hf fun _ H1 h1 => ?_
 cases o with
 | none =>
  refine aa (v := vw 0) rfl ?_;refine aa (v := vb false) rfl ?_;refine gs ?_;refine Ko ?_;refine gs ?_;refine wC rfl ?_;refine gs ?_;exact ap ⟨(), rfl, h1.to⟩
 | some n =>
  refine aa (v := vu n) rfl ?_;refine aa (v := vb true) rfl ?_;refine gs ?_;refine oz ?_;obtain ⟨cv, k1⟩ := cC (m := m) (i := i) (rp := rp) (cs := cs) (R := bD m μ * R) (H := H1) h1.to;refine bA ac ?_;refine gs ?_;refine aN k1 rfl ?_;refine gs ?_;refine af h1 (wo m i rp cs 11 0) fun _ H2 h2 => ?_;obtain ⟨cv2, k2⟩ := cC (m := m) (i := i) (rp := rp) (cs := cs) (R := bD m μ * R) (H := H2) h2.to;refine aH k2 k1 (by rfl) ?_;refine gs ?_;refine af h2 (My m μ who (11, (i : Int), 0) w n (by omega)) fun _ H3 h3 => ?_;refine gs ?_;exact ap ⟨(), rfl, h3.to⟩
theorem C7 (who : Int) (w : Nat) (hw : w < 18446744073709551616) (hE : μ.N < 1099511627000) : Sp ge [vp rp, vi who, vu w] (cz m i rp cs * bD m μ) (fun _ : Unit => vb (turned μ i w (aP w 0))) (fun _ => cz m i rp cs * bD m (μ.turn who i w (aP w 0))) := by
 refine bn (t9 _ _ _) fun R H h => ?_;refine af h (xZ m i rp cs μ who w mX (aP w 0) (Uo w hw) hE) fun _ H1 h1 => ?_;exact ap ⟨(), rfl, h1.to⟩
theorem TS (who : Int) (w : Nat) (hw : w < 18446744073709551616) (hE : μ.N < 1099511627000) : Sp jQ [vp rp, vi who, vu w] (cz m i rp cs * bD m μ) (fun _ : Unit => vb (turned μ i w (aP w 1))) (fun _ => cz m i rp cs * bD m (μ.turn who i w (aP w 1))) := by
 refine bn (wi _ _ _) fun R H h => ?_;refine af h (xZ m i rp cs μ who w mY (aP w 1) (Uq w hw) hE) fun _ H1 h1 => ?_;exact ap ⟨(), rfl, h1.to⟩
theorem TT (who : Int) (w : Nat) (hw : w < 18446744073709551616) (hE : μ.N < 1099511627000) : Sp jR [vp rp, vi who, vu w] (cz m i rp cs * bD m μ) (fun _ : Unit => vb (turned μ i w (aP w 2))) (fun _ => cz m i rp cs * bD m (μ.turn who i w (aP w 2))) := by
 refine bn (wl _ _ _) fun R H h => ?_;refine af h (xZ m i rp cs μ who w mZ (aP w 2) (Ur w hw) hE) fun _ H1 h1 => ?_;exact ap ⟨(), rfl, h1.to⟩
end
section
variable (m i rp : Nat) (cs : List Pk) (μ : Mu)
theorem Nz (who : Int) (hE : μ.N < 1099511627000) : Sp kM [vp rp, vi who] (cW m i rp cs * bI m μ) (fun _ : Unit => vu (μ.V (11, (i : Int), 0))) (fun _ => cW m i rp cs * bI m (μ.acc who 1 (11, (i : Int), 0))) := by
 refine aJ fun R H h => ?_;obtain ⟨cv, h0⟩ := eS (m := m) (i := i) (rp := rp) (cs := cs) (R := bI m μ * R) (H := H) h.to;refine bm (fun r => xJ _ _ H) ?_;refine bA ac ?_;refine aN h0 rfl ?_;refine ai h0 ac rfl ?_;refine af h0 (dz 11 (i : Int) 0) fun _ H1 h1 => ?_;refine aH h1 h0 (by rfl) ?_;refine af h1 (qW m μ who (11, (i : Int), 0) (by omega)) fun _ H2 h2 => ?_;exact ap ⟨(), rfl, (kF (m := m) (i := i) (rp := rp) (cs := cs) (cv := cv) (R := bI m (μ.acc who 1 (11, (i : Int), 0)) * R) h2.to).to⟩
theorem DE (who : Int) (hE : μ.N < 1099511627000) : Sp iz [vp rp, vi who] (cW m i rp cs * bI m μ) (fun _ : Unit => vu (μ.V (12, (i : Int), 0))) (fun _ => cW m i rp cs * bI m (μ.acc who 1 (12, (i : Int), 0))) := by
 refine aJ fun R H h => ?_;obtain ⟨cv, h0⟩ := eS (m := m) (i := i) (rp := rp) (cs := cs) (R := bI m μ * R) (H := H) h.to;refine bm (fun r => xG _ _ H) ?_;refine bA ac ?_;refine aN h0 rfl ?_;refine ai h0 ac rfl ?_;refine af h0 (dz 12 (i : Int) 0) fun _ H1 h1 => ?_;refine aH h1 h0 (by rfl) ?_;refine af h1 (qW m μ who (12, (i : Int), 0) (by omega)) fun _ H2 h2 => ?_;exact ap ⟨(), rfl, (kF (m := m) (i := i) (rp := rp) (cs := cs) (cv := cv) (R := bI m (μ.acc who 1 (12, (i : Int), 0)) * R) h2.to).to⟩
theorem DD (w h : Nat) (hw : w < 18446744073709551616) (hc : cs.length < 1000) : Sp iy [vp rp, vu w, vu h] (cW m i rp cs) (fun _ : Unit => vb (nY w h cs.length)) (fun _ => cW m i rp cs) := by
 refine aJ fun R H hh => ?_;have hl := dS w;refine bm (fun r => xF _ _ _ H) ?_;refine af hh (ol w hw) fun _ H1 h1 => ?_;refine aa (v := vu (bk w)) rfl ?_;refine aa (v := vi (bv w)) rfl ?_;refine aa (v := vb (dM w)) rfl ?_
 by_cases hle : h ≤ bk w
 ·refine aa (uY (by omega)) ?_
  refine gs ?_;refine aa (Em hle (by omega)) ?_;obtain ⟨cv, h2⟩ := eS (m := m) (i := i) (rp := rp) (cs := cs) (R := R) (H := H1) h1.to;refine gs ?_;refine ai h2 ac rfl ?_;refine gs ?_;refine aa (d5 (by omega) (by omega)) ?_;rw [show ((cs.length : Nat) : Int).toNat = cs.length from u4 _];refine gs ?_
  by_cases hk : cs.length ≤ bk w - h
  ·refine aa (uY (by omega)) ?_
   refine gs ?_;exact ap ⟨(), by rw [nY, fj ⟨hle, hk⟩], h1.to⟩
  ·refine aa (mf (by omega)) ?_
   refine gs ?_;exact ap ⟨(), by rw [nY, ez (fun q => hk q.2)], h1.to⟩
 ·refine aa (mf (by omega)) ?_
  refine gs ?_;exact ap ⟨(), by rw [nY, ez (fun q => hle q.1)], h1.to⟩
theorem ug (who : Int) (w how : Nat) (hh : how < 3) (hw : w < 18446744073709551616) (hE : μ.N < 1099511627000) :
 Sp f0 [vp rp, vi who, vu w, vi (how : Int)] (cW m i rp cs * bI m μ) (fun _ : Unit => vb (turned μ i w (aP w how))) (fun _ => cW m i rp cs * bI m (μ.turn who i w (aP w how))) := by
 refine bn (xI _ _ _ _) fun R H h => ?_;refine af h (MG w how hw hh) fun _ H1 h1 => ?_
 generalize aP w how = o at h1 ⊢
 cases o with
 | none =>
  refine aa (v := vw 0) rfl ?_;refine aa (v := vb false) rfl ?_;refine gs ?_;refine Ko ?_;refine gs ?_;refine wC rfl ?_;refine gs ?_;exact ap ⟨(), rfl, h1.to⟩
 | some n =>
  refine aa (v := vu n) rfl ?_;refine aa (v := vb true) rfl ?_;refine gs ?_;refine oz ?_;obtain ⟨cv, k1⟩ := eS (m := m) (i := i) (rp := rp) (cs := cs) (R := bI m μ * R) (H := H1) h1.to;refine bA ac ?_;refine gs ?_;refine aN k1 rfl ?_;refine gs ?_;refine ai k1 ac rfl ?_;refine gs ?_;refine af k1 (dz 11 (i : Int) 0) fun _ H2 k2 => ?_;refine aH k2 k1 (by rfl) ?_;refine gs ?_;refine af k2 (CO m μ who (11, (i : Int), 0) w n (by omega)) fun _ H3 k3 => ?_;refine gs ?_;refine ap ⟨(), rfl, ?_⟩;have h3 := kF (m := m) (i := i) (rp := rp) (cs := cs) (cv := cv) (R := bI m (μ.swp who (11, (i : Int), 0) w n) * R) (H := H3) k3.to;exact h3.to
end
section
variable (m i rp : Nat) (cs : List Pk) (μ : Mu)
theorem Ff (n : Nat) (h0 : 1 ≤ cs.length ∧ cs.length < 1000) : Sp di [vp rp, vu n] (cz m i rp cs) (fun _ : Unit => vi ((n % cs.length : Nat) : Int)) (fun _ => cz m i rp cs) := by
 have hlt : n % cs.length < cs.length := Nat.mod_lt _ (by omega);refine aJ fun R H h => ?_;obtain ⟨cv, k⟩ := cC h;refine bm (fun r => nk _ _ H) ?_;refine ai k ac rfl ?_;refine jW (s := cv) (l := cs) k ?_;refine aa (d5 (by omega) (by omega)) ?_;rw [show ((cs.length : Nat) : Int).toNat = cs.length from u4 _];refine aa (jD (by omega)) ?_;refine aa (i3 (by omega)) ?_;exact ap ⟨(), rfl, h⟩
theorem Ny (n : Nat) (h0 : 1 ≤ cs.length ∧ cs.length < 1000) : Sp ei [vp rp, vu n] (cW m i rp cs) (fun _ : Unit => vi ((n % cs.length : Nat) : Int)) (fun _ => cW m i rp cs) := by
 have hlt : n % cs.length < cs.length := Nat.mod_lt _ (by omega);refine aJ fun R H h => ?_;obtain ⟨cv, k⟩ := eS h;refine bm (fun r => oo _ _ H) ?_;refine ai k ac rfl ?_;refine aa (d5 (by omega) (by omega)) ?_;rw [show ((cs.length : Nat) : Int).toNat = cs.length from u4 _];refine aa (jD (by omega)) ?_;refine aa (i3 (by omega)) ?_;exact ap ⟨(), rfl, h⟩
theorem Fi (who : Int) (n : Nat) (hn : n < 18446744073709551615) (h0 : 1 ≤ cs.length ∧ cs.length < 1000) (hE : μ.N < 1099511627000) :
 Sp gR [vp rp, vi who, vu n] (cz m i rp cs * bD m μ) (fun _ : Unit => .tuple #[]) (fun _ => cz m i rp cs * bD m ((μ.acc who 2 (15, (i : Int), ((n % cs.length : Nat) : Int))).put (15, (i : Int), ((n % cs.length : Nat) : Int)) (n + 1))) := by
 refine aJ fun R H h => ?_;obtain ⟨cv, k0⟩ := cC (m := m) (i := i) (rp := rp) (cs := cs) (R := bD m μ * R) (H := H) h.to;refine bm (fun r => wj _ _ _ H) ?_;refine bA ac ?_;refine aN k0 rfl ?_;refine af h (Ff m i rp cs n h0) fun _ H1 h1 => ?_;obtain ⟨cv1, k1⟩ := cC h1;refine aH k1 k0 (by rfl) ?_;refine af h1 (wo m i rp cs 15 ((n % cs.length : Nat) : Int)) fun _ H2 h2 => ?_;obtain ⟨cv2, k2⟩ := cC h2;refine aH k2 k0 (by rfl) ?_;refine aa (f3 (b := 1) (by omega)) ?_;refine af h2 (AG m μ who (15, (i : Int), ((n % cs.length : Nat) : Int)) (n + 1) (by omega)) fun _ H3 h3 => ?_;exact ap ⟨(), rfl, h3.to⟩
theorem DF (who : Int) (n : Nat) (hn : n < 18446744073709551615) (h0 : 1 ≤ cs.length ∧ cs.length < 1000) (hE : μ.N < 1099511627000) :
 Sp iA [vp rp, vi who, vu n] (cW m i rp cs * bI m μ) (fun _ : Unit => .tuple #[]) (fun _ => cW m i rp cs * bI m ((μ.acc who 2 (15, (i : Int), ((n % cs.length : Nat) : Int))).put (15, (i : Int), ((n % cs.length : Nat) : Int)) (n + 1))) := by
 refine aJ fun R H h => ?_;obtain ⟨cv, k0⟩ := eS (m := m) (i := i) (rp := rp) (cs := cs) (R := bI m μ * R) (H := H) h.to;refine bm (fun r => xH _ _ _ H) ?_;refine bA ac ?_;refine aN k0 rfl ?_;refine bA ac ?_;refine aN k0 rfl ?_;refine af h (Ny m i rp cs n h0) fun _ H1 h1 => ?_;obtain ⟨cv1, k1⟩ := eS h1;refine aH k1 k0 (by rfl) ?_;refine aH k1 k0 (by rfl) ?_;refine af h1 (dz 15 (i : Int) ((n % cs.length : Nat) : Int)) fun _ H2 h2 => ?_;obtain ⟨cv2, k2⟩ := eS (m := m) (i := i) (rp := rp) (cs := cs) (R := bI m μ * R) (H := H2) h2.to;refine aH k2 k0 (by rfl) ?_;refine aa (f3 (b := 1) (by omega)) ?_;refine af h2 (sa m μ who (15, (i : Int), ((n % cs.length : Nat) : Int)) (n + 1) (by omega)) fun _ H3 h3 => ?_;exact ap ⟨(), rfl, h3.to⟩
theorem YH (who : Int) (n : Nat) (x : Pk) (h0 : 1 ≤ cs.length ∧ cs.length < 1000) (hE : μ.N < 1099511627000) :
 Sp kN [vp rp, vi who, vu n, .agg (Pk.cells x).toArray] (cz m i rp cs * bD m μ) (fun _ : Unit => .tuple #[]) (fun _ => cz m i rp (cs.set (n % cs.length) x) * bD m (μ.acc who 6 (16, (i : Int), ((n % cs.length : Nat) : Int)))) := by
 have hlt : n % cs.length < cs.length := Nat.mod_lt _ (by omega);refine bn (xY _ _ _ _) fun R H h => ?_;refine be h fun b H1 h1 => ?_;obtain ⟨cv, k1⟩ := cC (m := m) (i := i) (rp := rp) (cs := cs) (R := bD m μ * (blk b (.cells false (Pk.cells x)) * R)) (H := H1) h1.to;refine bA ac ?_;refine aN k1 rfl ?_;refine af h1 (Ff m i rp cs n h0) fun _ H2 h2 => ?_;obtain ⟨cv2, k2⟩ := cC h2;refine aH k2 k1 (by rfl) ?_;refine af h2 (wo m i rp cs 16 ((n % cs.length : Nat) : Int)) fun _ H3 h3 => ?_;obtain ⟨cv3, k3⟩ := cC h3;refine aH k3 k1 (by rfl) ?_;refine af h3 ((rY m μ who (16, (i : Int), ((n % cs.length : Nat) : Int)) (by omega)).imp fun _ R H h => jb (N' := μ.N + 2) (by simp) h) fun _ H4 h4 => ?_;obtain ⟨cv4, k4⟩ := cC (m := m) (i := i) (rp := rp) (cs := cs) (R := bD m (μ.acc who 6 (16, (i : Int), ((n % cs.length : Nat) : Int))) * (blk b (.cells false (Pk.cells x)) * R)) (H := H4) h4.to;refine bA ac ?_;refine aN k4 rfl ?_
 -- a cell is told once more, of the same ring
 have again : ∀ {k : Value × AH → OV} {Q : Value → AH → Prop}, (∀ H5, ae (blk rp (.cells false [vp m, vi i, cv4]) * (ts 3 Pk.cells cv4 cs * (bD m (μ.acc who 6 (16, (i : Int), ((n % cs.length : Nat) : Int))) * (blk b (.cells false (Pk.cells x)) * R)))) H5 → wp (k (vi ((n % cs.length : Nat) : Int), H5)) Q) → wp ((FF di [vp rp, vu n] H4).bind k) Q := by
  intro k Q hk
  have cell4 : Sp di [vp rp, vu n] (blk rp (.cells false [vp m, vi i, cv4]) * ts 3 Pk.cells cv4 cs) (fun _ : Unit => vi ((n % cs.length : Nat) : Int)) (fun _ => blk rp (.cells false [vp m, vi i, cv4]) * ts 3 Pk.cells cv4 cs) := by
   refine bn (nk _ _) fun R H h => ?_;refine ai h ac rfl ?_;refine jW (s := cv4) (l := cs) h ?_;refine aa (d5 (by omega) (by omega)) ?_;rw [show ((cs.length : Nat) : Int).toNat = cs.length from u4 _];refine aa (jD (by omega)) ?_;refine aa (i3 (by omega)) ?_;exact ap ⟨(), rfl, h⟩
  exact af k4 cell4 fun _ H5 h5 => hk H5 h5.to
 refine again fun H5 k5 => ?_;refine aH k5 k4 (by rfl) ?_;refine aW k5 ?_;refine dQ k4 k5 rfl ?_;refine Ku (s := cv4) (l := cs) (i := n % cs.length) x k5 hlt (.inl ⟨rfl, rfl⟩) rfl (by omega) rfl rfl fun H6 k6 => ?_;refine ap ⟨(), rfl, ?_⟩;have h6 := yL (m := m) (i := i) (rp := rp) (cs := cs.set (n % cs.length) x) (cv := cv4) (R := bD m (μ.acc who 6 (16, (i : Int), ((n % cs.length : Nat) : Int))) * R) (H := H6) k6.to;exact h6.to
end
theorem wu (k a : Int) : Sp bB [vi k, vi a] emp (fun _ : Unit => eA (k, a, 0)) (fun _ => emp) := by
 refine bn (w7 _ _) fun R H h => ?_;refine bp h fun b H1 h1 => ?_;refine iW ?_;refine eW h1 rfl rfl fun H2 h2 => ?_;refine aW h2 ?_;exact ap ⟨(), rfl, h2.to⟩
abbrev Mu.cnt (μ : Mu) (who : Int) (at' : cZ) (n : Nat) : Mu := (μ.acc who 3 at').put at' ((μ.V at' + n) % 18446744073709551616)
section
variable (ib m nm : Nat) (c : iX) (nx : Int → Option Nat) (μ : Mu) (who : Int)
theorem Js (hE : μ.N < 1099511627000) : Sp hZ [vp ib, vi who] (lh ib m nm c nx * bD m μ) (fun _ : Unit => .tuple #[]) (fun _ => lh ib m nm c nx * bD m (μ.cnt who (3, 0, 0) 4294967296)) := by
 refine bn (qq _ _) fun R H h => ?_;unfold lh at h ⊢;refine bA ac ?_;refine aN h rfl ?_;refine af h (wu 3 0) fun _ H1 h1 => ?_;refine aH h1 h (by rfl) ?_;refine af h1 (X9 m μ who (3, 0, 0) 4294967296 (by omega)) fun _ H2 h2 => ?_;exact ap ⟨(), rfl, h2.to⟩
theorem EQ (hE : μ.N < 1099511627000) : Sp gb [vp ib, vi who] (lh ib m nm c nx * bD m μ) (fun _ : Unit => .tuple #[]) (fun _ => lh ib m nm c nx * bD m (μ.cnt who (3, 0, 0) 1)) := by
 refine bn (th _ _) fun R H h => ?_;unfold lh at h ⊢;refine bA ac ?_;refine aN h rfl ?_;refine af h (wu 3 0) fun _ H1 h1 => ?_;refine aH h1 h (by rfl) ?_;refine af h1 (X9 m μ who (3, 0, 0) 1 (by omega)) fun _ H2 h2 => ?_;exact ap ⟨(), rfl, h2.to⟩
theorem SY (s : Int) (hE : μ.N < 1099511627000) : Sp jc [vp ib, vi who, vi s] (lh ib m nm c nx * bD m μ) (fun _ : Unit => vu (μ.V (9, s, 0))) (fun _ => lh ib m nm c nx * bD m (μ.acc who 1 (9, s, 0))) := by
 refine bn (ti _ _ _) fun R H h => ?_;unfold lh at h ⊢;refine bA ac ?_;refine aN h rfl ?_;refine ai h ac rfl ?_;refine ah (show (db (.func (.func bB) #[vi 9] #[]) [vi s]).bind _ = _ from rfl) ?_;refine af h (wu 9 s) fun _ H1 h1 => ?_;refine aH h1 h (by rfl) ?_;refine af h1 (CB m μ who (9, s, 0) (by omega)) fun _ H2 h2 => ?_;exact ap ⟨(), rfl, h2.to⟩
theorem Ma (s : Int) (top obj : Nat) (ho : obj < 4294967296) (hE : μ.N < 1099511627000) : Sp iJ [vp ib, vi who, vi s, vu top, vi obj] (lh ib m nm c nx * bD m μ) (fun _ : Unit => vb (decide (μ.V (9, s, 0) = top))) (fun _ => lh ib m nm c nx * bD m (μ.swp who (9, s, 0) top (obj + 1))) := by
 refine bn (sk _ _ _ _ _) fun R H h => ?_;unfold lh at h ⊢;refine bA ac ?_;refine aN h rfl ?_;refine ai h ac rfl ?_;refine ah (show (db (.func (.func bB) #[vi 9] #[]) [vi s]).bind _ = _ from rfl) ?_;refine af h (wu 9 s) fun _ H1 h1 => ?_;refine aH h1 h (by rfl) ?_;refine aa (d5 (by omega) (by omega)) ?_;rw [show ((obj : Nat) : Int).toNat = obj from u4 _];refine aa (f3 (b := 1) (by omega)) ?_;refine af h1 (My m μ who (9, s, 0) top (obj + 1) (by omega)) fun _ H2 h2 => ?_;exact ap ⟨(), rfl, h2.to⟩
theorem L8 (obj : Int) (next : Nat) (hE : μ.N < 1099511627000) : Sp iI [vp ib, vi who, vi obj, vu next] (lh ib m nm c nx * bD m μ) (fun _ : Unit => .tuple #[]) (fun _ => lh ib m nm c (fun k => if k = obj then some next else nx k) * bD m (μ.acc who 6 (14, obj, 0))) := by
 refine bn (sj _ _ _ _) fun R H h => ?_;unfold lh at h ⊢;refine bA ac ?_;refine aN h rfl ?_;refine ai h ac rfl ?_;refine ah (show (db (.func (.func bB) #[vi 14] #[]) [vi obj]).bind _ = _ from rfl) ?_;refine af h (wu 14 obj) fun _ H1 h1 => ?_;refine aH h1 h (by rfl) ?_;refine af h1 ((rY m μ who (14, obj, 0) (by omega)).imp fun _ R H h => jb (N' := μ.N + 2) (by simp) h) fun _ H2 h2 => ?_;refine ai h2 ac rfl ?_;refine Zj (ek := KE) obj (vu next) h2 fun H3 h3 => ?_;refine ap ⟨(), rfl, ?_⟩
 have e : (fun k => ((if k = obj then some next else nx k) : Option Nat).map fun n => vu n) = fun x => if x = obj then some (vu next) else (nx x).map fun n => vu n := by
  funext k
  split <;> rfl
 rw [e];exact h3.to
end
section
variable (ib m : Nat) (sh : Int) (nx : Int → Option Nat) (L : Nat) (μ : Mu) (who : Int)
theorem Iq (hE : μ.N < 1099511627000) : Sp jg [vp ib, vi who] (gG ib m sh nx L * bI m μ) (fun _ : Unit => .tuple #[]) (fun _ => gG ib m sh nx L * bI m (μ.cnt who (3, 0, 0) 4294967296)) := by
 refine aJ fun R H h => ?_;obtain ⟨kv, nv, ns, hn, h0⟩ := n3 (ib := ib) (m := m) (sh := sh) (nx := nx) (L := L) (R := bI m μ * R) (H := H) h.to;refine bm (fun r => tK _ _ H) ?_;refine bA ac ?_;refine aN h0 rfl ?_;refine af h0 (dz 3 0 0) fun _ H1 h1 => ?_;refine aH h1 h0 (by rfl) ?_;refine af h1 (HH m μ who (3, 0, 0) 4294967296 (by omega)) fun _ H2 h2 => ?_;have h3 := iH (ib := ib) (m := m) (sh := sh) (nx := nx) (L := L) (kv := kv) (nv := nv) (ns := ns) (R := bI m (μ.cnt who (3, 0, 0) 4294967296) * R) (H := H2) hn h2.to;exact ap ⟨(), rfl, h3.to⟩
theorem DB (hE : μ.N < 1099511627000) : Sp ix [vp ib, vi who] (gG ib m sh nx L * bI m μ) (fun _ : Unit => .tuple #[]) (fun _ => gG ib m sh nx L * bI m (μ.cnt who (3, 0, 0) 1)) := by
 refine aJ fun R H h => ?_;obtain ⟨kv, nv, ns, hn, h0⟩ := n3 (ib := ib) (m := m) (sh := sh) (nx := nx) (L := L) (R := bI m μ * R) (H := H) h.to;refine bm (fun r => xz _ _ H) ?_;refine bA ac ?_;refine aN h0 rfl ?_;refine af h0 (dz 3 0 0) fun _ H1 h1 => ?_;refine aH h1 h0 (by rfl) ?_;refine af h1 (HH m μ who (3, 0, 0) 1 (by omega)) fun _ H2 h2 => ?_;have h3 := iH (ib := ib) (m := m) (sh := sh) (nx := nx) (L := L) (kv := kv) (nv := nv) (ns := ns) (R := bI m (μ.cnt who (3, 0, 0) 1) * R) (H := H2) hn h2.to;exact ap ⟨(), rfl, h3.to⟩
theorem Nw (s : Int) (hE : μ.N < 1099511627000) : Sp kK [vp ib, vi who, vi s] (gG ib m sh nx L * bI m μ) (fun _ : Unit => vu (μ.V (9, s, 0))) (fun _ => gG ib m sh nx L * bI m (μ.acc who 1 (9, s, 0))) := by
 refine aJ fun R H h => ?_;obtain ⟨kv, nv, ns, hn, h0⟩ := n3 (ib := ib) (m := m) (sh := sh) (nx := nx) (L := L) (R := bI m μ * R) (H := H) h.to;refine bm (fun r => xA _ _ _ H) ?_;refine bA ac ?_;refine aN h0 rfl ?_;refine af h0 (dz 9 s 0) fun _ H1 h1 => ?_;refine aH h1 h0 (by rfl) ?_;refine af h1 (qW m μ who (9, s, 0) (by omega)) fun _ H2 h2 => ?_;have h3 := iH (ib := ib) (m := m) (sh := sh) (nx := nx) (L := L) (kv := kv) (nv := nv) (ns := ns) (R := bI m (μ.acc who 1 (9, s, 0)) * R) (H := H2) hn h2.to;exact ap ⟨(), rfl, h3.to⟩
theorem Ky (s : Int) (top obj : Nat) (ho : obj < 4294967296) (hE : μ.N < 1099511627000) : Sp jN [vp ib, vi who, vi s, vu top, vi obj] (gG ib m sh nx L * bI m μ) (fun _ : Unit => vb (decide (μ.V (9, s, 0) = top))) (fun _ => gG ib m sh nx L * bI m (μ.swp who (9, s, 0) top (obj + 1))) := by
 refine aJ fun R H h => ?_;obtain ⟨kv, nv, ns, hn, h0⟩ := n3 (ib := ib) (m := m) (sh := sh) (nx := nx) (L := L) (R := bI m μ * R) (H := H) h.to;refine bm (fun r => vS _ _ _ _ _ H) ?_;refine bA ac ?_;refine aN h0 rfl ?_;refine af h0 (dz 9 s 0) fun _ H1 h1 => ?_;refine aH h1 h0 (by rfl) ?_;refine aa (d5 (by omega) (by omega)) ?_;rw [show ((obj : Nat) : Int).toNat = obj from u4 _];refine aa (f3 (b := 1) (by omega)) ?_;refine af h1 (CO m μ who (9, s, 0) top (obj + 1) (by omega)) fun _ H2 h2 => ?_;have h3 := iH (ib := ib) (m := m) (sh := sh) (nx := nx) (L := L) (kv := kv) (nv := nv) (ns := ns) (R := bI m (μ.swp who (9, s, 0) top (obj + 1)) * R) (H := H2) hn h2.to;exact ap ⟨(), rfl, h3.to⟩
end
theorem AN (a : Int) {n : Int} (h : 1 ≤ n) : -n < a.tmod n ∧ a.tmod n < n := by
 have e := Int.natAbs_tmod a n;have : a.natAbs % n.natAbs < n.natAbs := Nat.mod_lt _ (by omega);omega
section
variable (t m p e : Nat) (σ : aY)
theorem yQ (sh sl : Nat) (hs : 1 ≤ sh ∧ sh ≤ 4) (flow : Int) : Sp ff [vp t, vi flow] (tab t m sh sl) (fun _ : Unit => vi ((flow.tmod sh + sh).tmod sh)) (fun _ => tab t m sh sl) := by
 refine bn (re _ _) fun R H h => ?_;unfold tab at h ⊢;have q := AN flow (n := sh) (by omega);refine ai h ac rfl ?_;refine aa (jV (by omega)) ?_;refine ai h ac rfl ?_;refine aa (aR (by omega) (by omega)) ?_;refine ai h ac rfl ?_;refine aa (jV (by omega)) ?_;exact ap ⟨(), rfl, h⟩
theorem abI (μ : Mu) : Sp j3 [vp m] (bD m μ) (fun _ : Unit => vi μ.E.length) (fun _ => bD m μ) := by
 refine aJ fun R H h => ?_;obtain ⟨⟨c, l, al, es, ck⟩, h1⟩ := ae.ex.1 h;rw [aj, ae.pu] at h1;obtain ⟨hp, h1⟩ := h1;dsimp only at h1;have h2 : ae (blk m (.cells false [.map (some c), l]) * (blk c (.map es ck) * ts 5 Ev.cells l μ.E) * R) H := h1;refine bm (fun r => Cv _ H) ?_;refine ai h2 ac rfl ?_;refine rn (s := l) (l := μ.E) h2 ?_;exact ap ⟨(), rfl, h⟩
theorem uz (r : Value) (x : Int) : Sp lE [r, vi x] emp (fun _ : Unit => .tuple #[.agg (gW x).toArray, vb true]) (fun _ => emp) := by
 refine bn (Lc _ _) fun R H h => ?_;refine bp h fun b H1 h1 => ?_;refine iW ?_;refine eW h1 rfl rfl fun H2 h2 => ?_;refine aW h2 ?_;exact ap ⟨(), rfl, h2.to⟩
def fg (x : Cl) : Option Int := if x.a < 1 ∨ 65536 < x.a then some 3 else if x.flow < 0 ∨ 1048576 < x.flow then some 5 else none
end
structure Tk where
 who : Int
 x : Cl
 s : Int
 at' : Nat
 i : Nat
 obj : Nat
 found : Bool
 w : Nat
 q : Nat
 mark : Int
 top : Nat
 code : Int
abbrev aY.mem (σ : aY) (μ : Mu) : aY := { σ with μ := μ }
def qp (v : Nat) (flow : Int) : Bool := decide (v ≠ 0 ∧ ((v / 4294967296 : Nat) : Int) - 1 = flow)
def aO (σ : aY) (t : Tk) : Tk :=
 let v := σ.μ.V (10, t.s, (t.i : Int))
 { t with i := t.i + 1, found := qp v t.x.flow, obj := if qp v t.x.flow = true then v % 4294967296 else t.obj }
abbrev aV (σ : aY) (t : Tk) : aY := σ.mem (σ.μ.acc t.who 1 (10, t.s, (t.i : Int)))
def cr (σ : aY) (t : Tk) : Bool := decide (σ.c.sl ≤ (t.i : Int))
def aA (σ : aY) (o : Nat) : List Pk := ((σ.obs[o]?).map (·.2)).getD []
def tr (σ : aY) (t : Tk) : aY :=
 let n := (aA σ t.obj).length
 let k := bk t.w % n
 { σ with μ := σ.μ.acc t.who 6 (16, (t.obj : Int), (k : Int)), obs := σ.obs.modify t.obj fun p => (p.1, p.2.set k ⟨t.x.flow, t.x.a, t.x.b⟩) }
abbrev yO (σ : aY) (t : Tk) : aY :=
 let n := (aA σ t.obj).length
 let k := bk t.w % n
 σ.mem ((σ.μ.acc t.who 2 (15, (t.obj : Int), (k : Int))).put (15, (t.obj : Int), (k : Int)) (bk t.w + 1))
abbrev cY (σ : aY) (t : Tk) : aY := σ.mem (σ.μ.acc t.who 1 (11, (t.obj : Int), 0))
abbrev i8 (σ : aY) (t : Tk) : aY := σ.mem (σ.μ.acc t.who 1 (12, (t.obj : Int), 0))
def mQ (σ : aY) (t : Tk) : Bool := nY t.w (σ.μ.V (12, (t.obj : Int), 0)) (aA σ t.obj).length
abbrev ed (σ : aY) (t : Tk) : aY := σ.mem (σ.μ.acc t.who 1 (2, 0, 0))
def am (σ : aY) (t : Tk) (now : Int) : aY × Tk × Bool :=
 let scan (σ : aY) (t : Tk) : aY × Tk × Bool :=
  let t1 := aO σ t
  (aV σ t, { t1 with at' := if t1.found = true then 6 else if cr σ t1 = true then 3 else 2 }, false)
 match t.at' with
 | 0 => match fg t.x with
  | some e => (σ.note now t.who e, { t with code := e }, true)
  | none => scan σ t
 | 2 => scan σ t
 | 3 => let l : cZ := (8, t.s, 0)
  (σ.mem (σ.μ.swp t.who l 0 1), (if σ.μ.V l = 0 then { t with at' := 4, i := 0 } else t), false)
 | 4 => let t1 := aO σ t
  if t1.found = true then (aV σ t, { t1 with at' := 5 }, false)
  else if cr σ t1 = true then ((aV σ t).note now t.who 5, { t1 with at' := 5, code := 5 }, false)
  else (aV σ t, t1, false)
 | 5 => let l : cZ := (8, t.s, 0)
  (σ.mem ((σ.μ.acc t.who 2 l).put l 0), { t with at' := 6 }, !t.found)
 | 6 => (σ.mem (σ.μ.acc t.who 5 (13, (t.obj : Int), 0)), { t with at' := 7 }, false)
 | 7 => let w := σ.μ.V (11, (t.obj : Int), 0)
  (cY σ t, { t with w := w, at' := if bv w = 2 then 3 else 8 }, false)
 | 8 => (i8 σ t, { t with at' := if mQ σ t = true then 15 else if bv t.w = 1 then 9 else 12 }, false)
 | 9 => let o := aP t.w 0
  let σ1 := σ.mem (σ.μ.turn t.who t.obj t.w o)
  if turned σ.μ t.obj t.w o = true then (σ1.note now t.who 0, { t with at' := 10, code := 0 }, false) else (σ1, { t with at' := 7 }, false)
 | 10 => (tr σ t, { t with at' := 11 }, false)
 | 11 => (yO σ t, t, true)
 | 12 => (σ.mem (σ.μ.cnt t.who (3, 0, 0) 4294967296), { t with at' := 13 }, false)
 | 13 => let o := aP t.w 0
  let σ1 := σ.mem (σ.μ.turn t.who t.obj t.w o)
  if turned σ.μ t.obj t.w o = true then (σ1.note now t.who 0, { t with at' := 14, code := 0 }, false) else (σ1, { t with at' := 20 }, false)
 | 14 => (tr σ t, { t with at' := 21 }, false)
 | 15 => let q := σ.μ.V (2, 0, 0)
  (ed σ t, { t with q := q, at' := if q % 2 = 1 then 7 else 16 }, false)
 | 16 => let w := σ.μ.V (11, (t.obj : Int), 0)
  (cY σ t, { t with w := w, at' := if bv w = 2 then 3 else 17 }, false)
 | 17 => (i8 σ t, (if mQ σ t = true then { t with at' := 18, mark := now } else { t with at' := 7 }), false)
 | 18 => if σ.μ.V (2, 0, 0) = t.q then ((ed σ t).note t.mark t.who 9, { t with code := 9 }, true) else (ed σ t, { t with at' := 7 }, false)
 | 20 => (σ.mem (σ.μ.cnt t.who (3, 0, 0) 1), { t with at' := 7 }, false)
 | 21 => (yO σ t, { t with at' := 22 }, false)
 | 22 => (σ.mem (σ.μ.acc t.who 1 (9, t.s, 0)), { t with top := σ.μ.V (9, t.s, 0), at' := 23 }, false)
 | 23 => ({ σ with μ := σ.μ.acc t.who 6 (14, (t.obj : Int), 0), nx := fun k => if k = (t.obj : Int) then some t.top else σ.nx k }, { t with at' := 24 }, false)
 | 24 => let l : cZ := (9, t.s, 0)
  (σ.mem (σ.μ.swp t.who l t.top (t.obj + 1)), { t with at' := if σ.μ.V l = t.top then 25 else 22 }, false)
 | _ => (σ.mem (σ.μ.cnt t.who (3, 0, 0) 1), t, true)
def aX (p : Nat) (rp : List Nat) (σ : aY) : SP := ex fun g : PIds => pu (g.rp = rp ∧ rp.length = σ.obs.length) * az p g σ
theorem dt {p : Nat} {rp : List Nat} {σ : aY} {R : SP} {H : AH} (h : ae (aX p rp σ * R) H) : ∃ g : PIds, g.rp = rp ∧ rp.length = σ.obs.length ∧ ae (az p g σ * R) H := by
 obtain ⟨g, h1⟩ := ae.ex.1 h;rw [aj, ae.pu] at h1;exact ⟨g, h1.1.1, h1.1.2, h1.2⟩
theorem bz {p : Nat} {rp : List Nat} {σ : aY} {R : SP} {H : AH} (g : PIds) (h1 : g.rp = rp) (h2 : rp.length = σ.obs.length) (h : ae (az p g σ * R) H) : ae (aX p rp σ * R) H :=
 ae.ex.2 ⟨g, by rw [aj]; exact ae.pu.2 ⟨⟨h1, h2⟩, h⟩⟩
theorem Yb {p : Nat} {σ : aY} {R : SP} {H : AH} (h : ae (f7 p σ * R) H) : ∃ rp, ae (aX p rp σ * R) H := by
 obtain ⟨g, hg, h1⟩ := nb h;exact ⟨g.rp, bz g rfl hg h1⟩
theorem HZ (m : Nat) : ∀ {ps : List (Nat × List Pk)} {i j : Nat} (h : i < ps.length), ∃ R, mF m j ps = cz m (j + i) (ps[i]).1 (ps[i]).2 * R ∧ ∀ q : Nat × List Pk, mF m j (ps.set i q) = cz m (j + i) q.1 q.2 * R := by
 intro ps
 induction ps with
 | nil => intro i j h; simp at h
 | cons p ps ih =>
  intro i j h
  cases i with
  | zero => exact ⟨mF m (j + 1) ps, rfl, fun q => rfl⟩
  | succ i =>
   obtain ⟨R, e1, e2⟩ := ih (i := i) (j := j + 1) (by simpa using h);refine ⟨cz m j p.1 p.2 * R, ?_, fun q => ?_⟩
   ·show cz m j p.1 p.2 * mF m (j + 1) ps = _
    rw [e1, ch, show j + 1 + i = j + (i + 1) from by omega]; rfl
   ·show cz m j p.1 p.2 * mF m (j + 1) (ps.set i q) = _
    rw [e2, ch, show j + 1 + i = j + (i + 1) from by omega]
theorem Ia (m : Nat) : ∀ {ps : List (Nat × List Pk)} {i j : Nat} (h : i < ps.length), ∃ R, jr m j ps = cW m (j + i) (ps[i]).1 (ps[i]).2 * R ∧ ∀ q : Nat × List Pk, jr m j (ps.set i q) = cW m (j + i) q.1 q.2 * R := by
 intro ps
 induction ps with
 | nil => intro i j h; simp at h
 | cons p ps ih =>
  intro i j h
  cases i with
  | zero => exact ⟨jr m (j + 1) ps, rfl, fun q => rfl⟩
  | succ i =>
   obtain ⟨R, e1, e2⟩ := ih (i := i) (j := j + 1) (by simpa using h);refine ⟨cW m j p.1 p.2 * R, ?_, fun q => ?_⟩
   ·show cW m j p.1 p.2 * jr m (j + 1) ps = _
    rw [e1, ch, show j + 1 + i = j + (i + 1) from by omega]; rfl
   ·show cW m j p.1 p.2 * jr m (j + 1) (ps.set i q) = _
    rw [e2, ch, show j + 1 + i = j + (i + 1) from by omega]
def ZH (ns : List (Int × Nat)) (obj : Int) : Int := match ns.findIdx? fun p => p.1 == obj with
 | some i => i
 | none => -1
theorem ID {ns : List (Int × Nat)} {obj : Int} {i : Nat} (h : ∀ j, j < i → ∀ p, ns[j]? = some p → p.1 ≠ obj) :
 (∀ (hi : i < ns.length), ns[i].1 = obj → ZH ns obj = i) ∧ (ns.length ≤ i → ZH ns obj = -1) := by
 constructor
 ·intro hi e
  unfold ZH
  have : ns.findIdx? (fun p => p.1 == obj) = some i := by
   rw [List.findIdx?_eq_some_iff_getElem];refine ⟨hi, by simpa using e, fun j hj => ?_⟩;have := h j hj ns[j] (by rw [cA])
   simpa using this
  rw [this]
 ·intro hi
  unfold ZH
  have : ns.findIdx? (fun p => p.1 == obj) = none := by
   rw [List.findIdx?_eq_none_iff];intro p hp;obtain ⟨j, hj, rfl⟩ := List.getElem_of_mem hp;have := h j (by omega) ns[j] (by rw [cA])
   simpa using this
  rw [this]
theorem Uu (ib m : Nat) (sh : Int) (kv nv : Value) (ns : List (Int × Nat)) (hn : ns.length < 1000000) (obj : Int) :
 Sp mn [vp ib, vi obj] (blk ib (.cells false [vp m, vi sh, kv, nv]) * ts 1 fp kv (ns.map (·.1))) (fun _ : Unit => vi (ZH ns obj)) (fun _ => blk ib (.cells false [vp m, vi sh, kv, nv]) * ts 1 fp kv (ns.map (·.1))) := by
 refine bn (zM _ _) fun R H h => ?_;refine ah (tL _ _ _ H) ?_;refine ah (tN _ _ _ _ H) ?_;have loop : ∀ (d i : Nat), i + d = ns.length → (∀ j, j < i → ∀ p, ns[j]? = some p → p.1 ≠ obj) →
  wp (iC (vp ib) (vi obj) (vi 0) (vi i) H) fun v' H' => ∃ x : Unit, v' = vi (ZH ns obj) ∧ ae (blk ib (.cells false [vp m, vi sh, kv, nv]) * ts 1 fp kv (ns.map (·.1)) * R) H' := by
  intro d
  induction d with
  | zero =>
   intro i hi hj;refine ah (my _ _ _ _ H) ?_;refine ai h ac rfl ?_;refine rn (s := kv) h ?_;rw [sn];refine aa (bW (by omega)) ?_;refine gs ?_;refine ah (qR _ H) ?_;refine ah (tM _ H) ?_;exact ap ⟨(), by rw [(ID hj).2 (by omega)], h⟩
  | succ d ih =>
   intro i hi hj
   have hil : i < ns.length := by omega
   refine ah (my _ _ _ _ H) ?_;refine ai h ac rfl ?_;refine rn (s := kv) h ?_;rw [sn];refine aa (cP (by omega)) ?_;refine gs ?_;refine ah (tO _ _ _ _ H) ?_;refine ai h ac rfl ?_;refine kQ (s := kv) (enc := fp) (l := ns.map fun p : Int × Nat => p.1) (v := vi ns[i].1) h (i := i) (by simpa using hil) (by simp [fp]) ?_
   by_cases e : ns[i].1 = obj
   ·refine aa (ba e) ?_
    refine gs ?_;exact ap ⟨(), by rw [(ID hj).1 hil e], h⟩
   ·refine aa (aC e) ?_
    refine gs ?_;refine ah (tP _ _ _ _ H) ?_;refine aa (aR (by omega) (by omega)) ?_;refine ih (i + 1) (by omega) fun j hj2 p hp => ?_
    rcases Nat.lt_succ_iff_lt_or_eq.1 hj2 with h1 | rfl
    ·exact hj j h1 p hp
    ·rw [cA hil] at hp
     obtain rfl := e7 hp;exact e
 exact loop ns.length 0 (by omega) (fun j hj => by omega)
theorem UQ {ns : List (Int × Nat)} {obj : Int} (h : ns.findIdx? (fun p => p.1 == obj) = none) : ZH ns obj = -1 := by unfold ZH; rw [h]
theorem UR {ns : List (Int × Nat)} {obj : Int} {i : Nat} (h : ns.findIdx? (fun p => p.1 == obj) = some i) : ZH ns obj = i := by unfold ZH; rw [h]
theorem S9 {ns : List (Int × Nat)} {obj : Int} (h : ns.findIdx? (fun p => p.1 == obj) = none) (n : Nat) (k : Int) : DV (ns ++ [(obj, n)]) k = if k = obj then some n else DV ns k := by
 have hn : ns.find? (fun p => p.1 == obj) = none := by
  rw [List.find?_eq_none];rw [List.findIdx?_eq_none_iff] at h;intro p hp;have := h p hp
  simpa using this
 unfold DV;rw [List.find?_append]
 by_cases e : k = obj
 ·subst e
  rw [hn, if_pos rfl];simp
 ·rw [if_neg e]
  have : ([(obj, n)] : List (Int × Nat)).find? (fun p => p.1 == k) = none := by
   rw [List.find?_eq_none];intro p hp
   obtain rfl : p = (obj, n) := by simpa using hp
   simpa using fun q => e q.symm
  rw [this]
  cases ns.find? (fun p => p.1 == k) <;> rfl
theorem XU (obj : Int) (n : Nat) (k : Int) : ∀ {ns : List (Int × Nat)} {i : Nat}, ns.findIdx? (fun p => p.1 == obj) = some i → DV (ns.set i (obj, n)) k = if k = obj then some n else DV ns k := by
 intro ns
 induction ns with
 | nil => intro i h; simp at h
 | cons p ns ih =>
  intro i h;rw [List.findIdx?_cons] at h
  by_cases e : p.1 = obj
  ·rw [if_pos (by simpa using e)] at h
   obtain rfl := e7 h;simp only [List.set_cons_zero, DV, List.find?_cons]
   by_cases e2 : k = obj
   ·subst e2; simp
   ·have h1 : ((obj == k) : Bool) = false := by simpa using fun q => e2 q.symm
    have h2 : ((p.1 == k) : Bool) = false := by rw [e]; exact h1
    simp [h1, h2, e2]
  ·rw [if_neg (by simpa using e)] at h
   obtain ⟨j, hj, rfl⟩ := bf.1 h;have := ih hj;simp only [List.set_cons_succ, DV, List.find?_cons] at this ⊢
   by_cases e2 : p.1 = k
   ·have h1 : ((p.1 == k) : Bool) = true := by simpa using e2
    simp only [h1];rw [if_neg (fun q => e (e2.trans q))]
   ·have h1 : ((p.1 == k) : Bool) = false := by simpa using e2
    simp only [h1];exact this
theorem Kx (ib m : Nat) (sh : Int) (nx : Int → Option Nat) (L : Nat) (μ : Mu) (who obj : Int) (next : Nat) (hL : L < 900000) (hE : μ.N < 1099511627000) :
 Sp jM [vp ib, vi who, vi obj, vu next] (gG ib m sh nx L * bI m μ) (fun _ : Unit => .tuple #[]) (fun _ => gG ib m sh (fun k => if k = obj then some next else nx k) (L + 1) * bI m (μ.acc who 6 (14, obj, 0))) := by
 refine aJ fun R H h => ?_;obtain ⟨kv, nv, ns, ⟨hn, hl⟩, h0⟩ := n3 (ib := ib) (m := m) (sh := sh) (nx := nx) (L := L) (R := bI m μ * R) (H := H) h.to;refine bm (fun r => vR _ _ _ _ H) ?_;refine bA ac ?_;refine aN h0 rfl ?_;refine af h0 (dz 14 obj 0) fun _ H1 h1 => ?_;refine aH h1 h0 (by rfl) ?_;refine af h1 ((Uv m μ who 6 (14, obj, 0) (by omega)).imp fun _ R H h => vq (N' := μ.N + 2) (by simp) h) fun _ H2 h2 => ?_;refine af h2 (Uu ib m sh kv nv ns (by omega) obj) fun _ H3 h3 => ?_
 cases hf : ns.findIdx? (fun p => p.1 == obj) with
 | none =>
  rw [UQ hf];refine aa (cP (by omega)) ?_;refine gs ?_;refine ai h3 ac rfl ?_;refine KI h3 fun b0 H4 h4 => ?_;refine ig (s := kv) (l := ns.map fun p : Int × Nat => p.1) (obj : Int) h4 rfl ?_ (by omega) fun a c H5 h5 => ?_
  ·unfold dc; simp only [sn]; omega
  refine bA ac ?_;refine aN h5 rfl ?_;refine aH h4 h5 (by rfl) ?_;refine KI h5 fun b1 H6 h6 => ?_;refine ig (s := nv) (l := ns.map fun p : Int × Nat => p.2) (next : Nat) h6 rfl ?_ (by omega) fun a2 c2 H7 h7 => ?_
  ·unfold dc; simp only [sn]; omega
  refine bg h7 ac rfl rfl fun H8 h8 => ?_;refine bg h8 ac rfl rfl fun H9 h9 => ?_
  have e1 : (ns ++ [(obj, next)]).map (fun p : Int × Nat => p.1) = (ns.map fun p : Int × Nat => p.1) ++ [obj] := by rw [Hc]; rfl
  have e2 : (ns ++ [(obj, next)]).map (fun p : Int × Nat => p.2) = (ns.map fun p : Int × Nat => p.2) ++ [next] := by rw [Hc]; rfl
  refine ap ⟨(), rfl, ?_⟩;have h10 := iH (ib := ib) (m := m) (sh := sh) (nx := fun k => if k = obj then some next else nx k) (L := L + 1) (kv := .slice a ((ns.map fun p : Int × Nat => p.1).length + 1) c) (nv := .slice a2 ((ns.map fun p : Int × Nat => p.2).length + 1) c2) (ns := ns ++ [(obj, next)])
   (R := bI m (μ.acc who 6 (14, obj, 0)) * R) (H := H9) ⟨fun k => by rw [S9 hf, hn], by simp; omega⟩ (by rw [e1, e2]; exact h9.to)
  exact h10.to
 | some i =>
  rw [UR hf];have hi := (List.findIdx?_eq_some_iff_getElem.1 hf);obtain ⟨hil, hk, _⟩ := hi;refine aa (bW (by omega)) ?_;refine gs ?_;refine ai h3 ac rfl ?_;refine Ku (s := nv) (l := ns.map fun p : Int × Nat => p.2) (i := i) (next : Nat) h3 (by simpa using hil) (.inl ⟨rfl, rfl⟩) rfl (by omega) rfl (by simp [Lo, splice]) fun H4 h4 => ?_
  have e1 : (ns.set i (obj, next)).map (fun p : Int × Nat => p.1) = ns.map fun p : Int × Nat => p.1 := by
   rw [List.map_set];apply List.ext_getElem?;intro j;rw [List.getElem?_set]
   split
   ·rename_i e
    subst e
    have hk : ns[i].1 = obj := by simpa using hk
    simp [hil, hk]
   ·rfl
  have e2 : (ns.set i (obj, next)).map (fun p : Int × Nat => p.2) = (ns.map fun p : Int × Nat => p.2).set i next := by rw [List.map_set]
  refine ap ⟨(), rfl, ?_⟩;have h10 := iH (ib := ib) (m := m) (sh := sh) (nx := fun k => if k = obj then some next else nx k) (L := L + 1) (kv := kv) (nv := nv) (ns := ns.set i (obj, next))
   (R := bI m (μ.acc who 6 (14, obj, 0)) * R) (H := H4) ⟨fun k => by rw [XU obj next k hf, hn], by rw [Mb]; omega⟩ (by rw [e1, e2]; exact h4.to)
  exact h10.to
theorem uv {σ : aY} {o : Nat} (ho : o < σ.obs.length) : aA σ o = (σ.obs[o]).2 := by
 unfold aA;rw [cA ho]; rfl
theorem yG (p : Nat) (g : PIds) (σ : aY) (o b : Nat) (hl : g.rp.length = σ.obs.length) (ho : o < σ.obs.length) (hb : g.rp[o]? = some b) :
 ∃ R, az p g σ = cz g.m o b (aA σ o) * bD g.m σ.μ * R ∧ ∀ μ' cs', az p g { σ with μ := μ', obs := σ.obs.modify o fun q => (q.1, cs') } = cz g.m o b cs' * bD g.m μ' * R := by
 have hz : o < (g.rp.zip (σ.obs.map fun x => x.2)).length := by simp; omega
 obtain ⟨R, e1, e2⟩ := HZ g.m (ps := g.rp.zip (σ.obs.map fun x => x.2)) (j := 0) hz
 have hrp : g.rp[o]'(by omega) = b := by
  rw [cA (by omega)] at hb;exact e7 hb
 have e3 : (g.rp.zip (σ.obs.map fun x => x.2))[o] = (b, aA σ o) := by
  rw [List.getElem_zip, uv ho, List.getElem_map, hrp]
 rw [e3] at e1;rw [Nat.zero_add] at e1 e2
 refine ⟨blk p (.cells false [vp g.m, vp g.ib, vp g.tb, vp g.po, vp g.co, vi σ.c.sh, vi σ.c.sl, vi σ.c.wk, vi σ.c.wd, vu σ.c.un, g.ov, .map (some g.pm), g.pv]) * (lh g.ib g.m g.nm σ.c σ.nx * (tab g.tb g.m σ.c.sh.toNat σ.c.sl.toNat * (ts 4 I1 g.ov ((σ.obs.map fun x => x.1).zip g.rp) * (R *
  (UA KE g.pm (fun k => (σ.places k).map fun n => vi n) * ts 7 Pt.cells g.pv σ.pts))))), ?_, fun μ' cs' => ?_⟩
 ·unfold az
  rw [e1]
  ac_rfl
 ·unfold az
  dsimp only
  have e4 : (σ.obs.modify o fun q => (q.1, cs')).map (fun x => x.1) = σ.obs.map fun x => x.1 := by
   apply List.ext_getElem?;intro j;simp only [xj, List.getElem?_modify]
   cases σ.obs[j]? with
   | none => rfl
   | some q => simp only [e6]; split <;> rfl
  have e5 : g.rp.zip ((σ.obs.modify o fun q => (q.1, cs')).map fun x => x.2) = (g.rp.zip (σ.obs.map fun x => x.2)).set o (b, cs') := by
   apply List.ext_getElem?;intro j;rw [List.getElem?_set]
   by_cases hj : o = j
   ·subst hj
    rw [if_pos rfl, if_pos hz];exact List.getElem?_zip_eq_some.2 ⟨hb, by simp [List.getElem?_modify, cA ho]⟩
   ·rw [if_neg hj]
    have : (List.map (fun x => x.2) (σ.obs.modify o fun q => (q.1, cs')))[j]? = (σ.obs.map fun x => x.2)[j]? := by
     simp only [xj, List.getElem?_modify]
     cases σ.obs[j]? with
     | none => rfl
     | some q => show some (if o = j then (q.1, cs') else q).2 = some q.2; rw [if_neg hj]
    simp only [List.zip, List.getElem?_zipWith, this]
  rw [e4, e5, e2]
  ac_rfl
theorem Cy {σ : aY} {o : Nat} (ho : o < σ.obs.length) : (σ.obs.modify o fun q => (q.1, aA σ o)) = σ.obs := by
 apply List.ext_getElem?;intro j;rw [List.getElem?_modify]
 cases hj : σ.obs[j]? with
 | none => rfl
 | some q =>
  show some (if o = j then _ else _) = some q
  by_cases e : o = j
  ·subst e
   rw [if_pos rfl];unfold aA;rw [hj]; rfl
  ·rw [if_neg e]
section
variable {f : Nat} {args : List Value} {v : Unit → Value} {p : Nat} {g : PIds} {σ : aY} {o b : Nat}
theorem UD {μ' : Mu} {cs' : List Pk} (hl : g.rp.length = σ.obs.length) (ho : o < σ.obs.length) (hb : g.rp[o]? = some b)
 (s : Sp f args (cz g.m o b (aA σ o) * bD g.m σ.μ) v (fun _ => cz g.m o b cs' * bD g.m μ')) :
 Sp f args (az p g σ) v (fun _ => az p g { σ with μ := μ', obs := σ.obs.modify o fun q => (q.1, cs') }) := by
 obtain ⟨R', e1, e2⟩ := yG p g σ o b hl ho hb;intro R H h;rw [e1, aj] at h;obtain ⟨x, H', h1, h2⟩ := s _ _ h;exact ⟨x, H', h1, by rw [e2, aj]; exact h2⟩
theorem iZ {μ' : Mu} (hl : g.rp.length = σ.obs.length) (ho : o < σ.obs.length) (hb : g.rp[o]? = some b)
 (s : Sp f args (cz g.m o b (aA σ o) * bD g.m σ.μ) v (fun _ => cz g.m o b (aA σ o) * bD g.m μ')) :
 Sp f args (az p g σ) v (fun _ => az p g (σ.mem μ')) := by
 have := UD (p := p) hl ho hb s;rw [Cy ho] at this;exact this
theorem NC (hl : g.rp.length = σ.obs.length) (ho : o < σ.obs.length) (hb : g.rp[o]? = some b)
 (s : Sp f args (cz g.m o b (aA σ o)) v (fun _ => cz g.m o b (aA σ o))) :
 Sp f args (az p g σ) v (fun _ => az p g σ) := by
 obtain ⟨R', e1, _⟩ := yG p g σ o b hl ho hb;intro R H h;rw [e1, aj, aj] at h;obtain ⟨x, H', h1, h2⟩ := s _ _ h;exact ⟨x, H', h1, by rw [e1, aj, aj]; exact h2⟩
theorem ui {μ' : Mu} (s : Sp f args (tab g.tb g.m σ.c.sh.toNat σ.c.sl.toNat * bD g.m σ.μ) v (fun _ => tab g.tb g.m σ.c.sh.toNat σ.c.sl.toNat * bD g.m μ')) :
 Sp f args (az p g σ) v (fun _ => az p g (σ.mem μ')) := by
 intro R H h;unfold az at h;obtain ⟨x, H', h1, h2⟩ := s _ H (ae.fr (A := tab g.tb g.m σ.c.sh.toNat σ.c.sl.toNat * bD g.m σ.μ) h);refine ⟨x, H', h1, ?_⟩;unfold az;exact h2.to
theorem FE (s : Sp f args (tab g.tb g.m σ.c.sh.toNat σ.c.sl.toNat) v (fun _ => tab g.tb g.m σ.c.sh.toNat σ.c.sl.toNat)) :
 Sp f args (az p g σ) v (fun _ => az p g σ) := by
 intro R H h;unfold az at h;obtain ⟨x, H', h1, h2⟩ := s _ H (ae.fr (A := tab g.tb g.m σ.c.sh.toNat σ.c.sl.toNat) h);refine ⟨x, H', h1, ?_⟩;unfold az;exact h2.to
theorem NB {μ' : Mu} (s : Sp f args (bD g.m σ.μ) v (fun _ => bD g.m μ')) : Sp f args (az p g σ) v (fun _ => az p g (σ.mem μ')) := by
 intro R H h;unfold az at h;obtain ⟨x, H', h1, h2⟩ := s _ H (ae.fr (A := bD g.m σ.μ) h);refine ⟨x, H', h1, ?_⟩;unfold az;exact h2.to
theorem Ee {μ' : Mu} {nx' : Int → Option Nat} (s : Sp f args (lh g.ib g.m g.nm σ.c σ.nx * bD g.m σ.μ) v (fun _ => lh g.ib g.m g.nm σ.c nx' * bD g.m μ')) :
 Sp f args (az p g σ) v (fun _ => az p g { σ with μ := μ', nx := nx' }) := by
 intro R H h;unfold az at h;obtain ⟨x, H', h1, h2⟩ := s _ H (ae.fr (A := lh g.ib g.m g.nm σ.c σ.nx * bD g.m σ.μ) h);refine ⟨x, H', h1, ?_⟩;unfold az;exact h2.to
end
instance af0 (p : Nat) (g : PIds) (σ : aY) : Hs (az p g σ) p (.cells false [vp g.m, vp g.ib, vp g.tb, vp g.po, vp g.co, vi σ.c.sh, vi σ.c.sl, vi σ.c.wk, vi σ.c.wd, vu σ.c.un, g.ov, .map (some g.pm), g.pv]) := ⟨by
 intro H h;unfold az at h
 exact h.left.get⟩
theorem mG {P P0 R : SP} {H : AH} {b fn : Nat} {args : List Value} {c : Int} {d : Bool} {Q0 : Unit → SP} {Q : Value → AH → Prop} (h : ae P H)
 (s : Sp fn args P0 (fun _ : Unit => .tuple #[.agg (gW c).toArray, vb d]) Q0) [fr : Fr P (P0 * blk b (.cells false [vi 0, .slice none 0 0, vi 0, vw 0])) R]
 (hk : ∀ H', ae (Q0 () * R) H' → Q (.tuple #[.agg (gW c).toArray, vb d]) H') :
 wp ((FF fn args H).bind fun r2 => (ag r2.1 0).bind fun v3 => (ag r2.1 1).bind fun v4 => (cB 4 (vp b) v3 r2.2).bind fun H5 => (ay 4 (vp b) H5).bind fun v6 => some (Value.tuple #[v6, v4], H5)) Q := by
 have h0 : ae (P0 * (blk b (.cells false [vi 0, .slice none 0 0, vi 0, vw 0]) * R)) H := by
  have := ae.fr (A := P0 * blk b (.cells false [vi 0, .slice none 0 0, vi 0, vw 0])) h;rw [aj] at this;exact this
 refine af h0 s fun _ H1 h1 => ?_;refine aa (v := .agg (gW c).toArray) rfl ?_;refine aa (v := vb d) rfl ?_;refine eW h1 rfl rfl fun H2 h2 => ?_;refine aW h2 ?_;exact ap (hk H2 h2.to)
abbrev eY (e n : Nat) : Value := .func (.func n) #[vp e] #[]
abbrev eB (e p : Nat) (nx rv : Value) (t : Tk) : SP :=
 blk e (.cells false [vp p, vi t.who, vi t.x.op, vi t.x.flow, vi t.x.a, vi t.x.b, vi t.s, nx, vi t.i, vi t.obj, vb t.found, rv, vu t.w, vu t.q, vi t.mark, vu t.top])
def zC : Nat → Nat
 | 0 => mi | 2 => jJ | 3 => dg | 4 => eE | 5 => eF | 6 => gL | 7 => cf | 8 => lF
 | 9 => jI | 10 => oc | 11 => lJ | 12 => jH | 13 => lK | 14 => lD | 15 => od | 16 => ft
 | 17 => fq | 18 => f4 | 20 => lC | 21 => jK | 22 => dJ | 23 => lG | 24 => lI | _ => oa
def Ib (rp : List Nat) (t : Tk) (v : Value) : Prop := 7 ≤ t.at' → ∃ b, rp[t.obj]? = some b ∧ v = vp b
def eP (e p : Nat) (rp : List Nat) (σ : aY) (t : Tk) : SP := ex fun v : Value => pu (Ib rp t v) * (eB e p (eY e (zC t.at')) v t * aX p rp σ)
def eQ (e p : Nat) (rp : List Nat) (r : aY × Tk × Bool) : SP := if r.2.2 = true then aX p rp r.1 else eP e p rp r.1 r.2.1
abbrev bX (r : aY × Tk × Bool) : Value := .tuple #[.agg (gW (if r.2.2 = true then r.2.1.code else 0)).toArray, vb r.2.2]
theorem N0 {e p : Nat} {rp : List Nat} {σ : aY} {t : Tk} {R : SP} {H : AH} (h : ae (eP e p rp σ t * R) H) : ∃ v, Ib rp t v ∧ ae (eB e p (eY e (zC t.at')) v t * (aX p rp σ * R)) H := by
 obtain ⟨v, h1⟩ := ae.ex.1 h;rw [aj, ae.pu] at h1;exact ⟨v, h1.1, h1.2.to⟩
theorem I0 {e p : Nat} {rp : List Nat} {σ : aY} {t : Tk} {R : SP} {H : AH} {v : Value} {n : Nat} (hv : Ib rp t v) (hn : zC t.at' = n) (h : ae (eB e p (eY e n) v t * (aX p rp σ * R)) H) : ae (eP e p rp σ t * R) H := by
 subst hn;exact ae.ex.2 ⟨v, by rw [aj]; exact ae.pu.2 ⟨hv, h.to⟩⟩
section
variable (e p : Nat)
theorem aeE (nx rv : Value) (n : Nat) (t : Tk) : Sp bH [vp e, eY e n] (eB e p nx rv t) (fun _ : Unit => .tuple #[.agg (gW 0).toArray, vb false]) (fun _ => eB e p (eY e n) rv t) := by
 refine bn (Vf _ _) fun R H h => ?_;refine bp h fun b H1 h1 => ?_;refine bg h1 ac rfl rfl fun H2 h2 => ?_;refine iW ?_;refine eW h2 rfl rfl fun H3 h3 => ?_;refine aW h3 ?_;exact ap ⟨(), rfl, h3.to⟩
theorem adM (rp : List Nat) (σ : aY) (step who code : Int) (hp : σ.pts.length < 1000000) : Sp fQ [vp p, vi step, vi who, .agg (gW code).toArray] (aX p rp σ) (fun _ : Unit => .tuple #[]) (fun _ => aX p rp (σ.note step who code)) := by
 refine aJ fun R H h => ?_;obtain ⟨g, hrp, hg, h0⟩ := dt h;unfold az at h0;refine bm (fun r => sr _ _ _ _ H) ?_;refine be h0 fun b1 H1 h1 => ?_;refine bA ac ?_;refine aN h1 rfl ?_;refine bA ac ?_;refine aN h1 rfl ?_;refine QH (ek := KE) who h1 ?_;refine aW h1 ?_;refine af h1 (DX code) fun _ H2 h2 => ?_;refine aH h2 h1 rfl ?_;refine aH h2 h1 rfl ?_;refine Zi who h2 h1 ?_
 have ev : (((σ.places who).map fun n => vi n).getD (vi 0)) = vi ((σ.places who).getD 0) := by cases σ.places who <;> rfl
 rw [ev];refine iW ?_;refine KI h2 fun b0 H3 h3 => ?_;refine ig (⟨step, who, (σ.places who).getD 0, code⟩ : Pt) h3 rfl ?_ (by omega) fun a cc H4 h4 => ?_
 ·unfold dc; omega
 refine bg h4 ac rfl rfl fun H5 h5 => ?_;refine ap ⟨(), rfl, ?_⟩;refine bz { g with pv := .slice a (σ.pts.length + 1) cc } hrp hg ?_;unfold az aY.note;exact h5.to
theorem uA (rp : List Nat) (σ : aY) (nx rv : Value) (t : Tk) (now code : Int) (hp : σ.pts.length < 1000000) :
 Sp lH [vp e, vi now, vi code] (eB e p nx rv t * aX p rp σ) (fun _ : Unit => .tuple #[]) (fun _ => eB e p nx rv t * aX p rp (σ.note now t.who code)) := by
 refine bn (Li _ _ _) fun R H h => ?_;refine ai h ac rfl ?_;refine ai h ac rfl ?_;refine iW ?_;refine af h (adM p rp σ now t.who code hp) fun _ H1 h1 => ?_;exact ap ⟨(), rfl, h1.to⟩
theorem yp (rp : List Nat) (σ : aY) (nx rv : Value) (t : Tk) (now code : Int) (hp : σ.pts.length < 1000000) :
 Sp iU [vp e, vi now, vi code] (eB e p nx rv t * aX p rp σ) (fun _ : Unit => .tuple #[.agg (gW code).toArray, vb true]) (fun _ => eB e p nx rv t * aX p rp (σ.note now t.who code)) := by
 refine bn (FR _ _ _) fun R H h => ?_;refine bp h fun b H1 h1 => ?_;refine af h1 (uA e p rp σ nx rv t now code hp) fun _ H2 h2 => ?_;exact mG h2 (uz (vp e) code) fun H3 h3 => ⟨(), rfl, h3.to⟩
end
theorem ab9 {α : Type} {P : SP} {H : AH} {e n g i : Nat} {enc : α → List Value} {l : List α} {s : Value} {Q : Value → AH → Prop} {k : Value → OV} {kk : IntKind} {cs : List Value} (h : ae P H) [r : Rd P s e enc l] [E : Enc enc e] (hi : i < l.length) (hg : g + n ≤ e)
 (hc : ((enc l[i]).drop g).take n = cs) (hk : wp (k (.agg cs.toArray)) Q) : wp (ldN n [.i e (.int kk (i : Int)), .f g] s H k) Q := by
 subst hc;obtain ⟨b, o, ro, row, rfl, h2, h3, h4⟩ := xS (s := s) (enc := enc) (l := l) h hi;unfold ldN;rw [KP hi, ZO];have hm : (i + 1) * e ≤ l.length * e := Nat.mul_le_mul_right _ (by omega);rw [Nat.add_mul] at hm
 have : ay n (oy b (o + i * e + g)) H = some (.agg (((enc l[i]).drop g).take n).toArray) := by
  simp only [ay, sq, dL, bG, h2];rw [if_pos (by omega)]
  congr 3
  rw [← Ay E.len l i hi, ← h4, List.drop_take, List.drop_take, List.drop_take, List.drop_drop, List.drop_drop, List.take_take, List.take_take, Nat.min_eq_left (by omega), Nat.min_eq_left (by omega), Nat.add_assoc]
 show wp ((ay n (oy b (o + i * e + g)) H).bind k) Q;rw [this]; exact hk
structure SOk (σ : aY) : Prop where
 c : cJ σ.c = true
 N : σ.μ.N < 800000
 pts : σ.pts.length < 900000
 V : ∀ l, σ.μ.V l < 18446744073709551616
 obs : σ.obs.length < 900000
 cells : ∀ o, o < σ.obs.length → 1 ≤ (aA σ o).length ∧ (aA σ o).length < 1000
 slot : ∀ s i, σ.μ.V (10, s, i) ≠ 0 → σ.μ.V (10, s, i) % 4294967296 < σ.obs.length
structure gX (σ : aY) (t : Tk) : Prop where
 obj : 6 ≤ t.at' ∨ t.at' = 5 ∧ t.found = true → t.obj < σ.obs.length
 s : t.s = (t.x.flow.tmod σ.c.sh + σ.c.sh).tmod σ.c.sh
 i : t.at' < 5 → t.at' ≠ 3 → (t.i : Int) < σ.c.sl
 w : t.w < 18446744073709551616
 c5 : t.at' = 5 → t.found = false → t.code = 5
 c0 : t.at' = 10 ∨ t.at' = 11 ∨ t.at' = 14 ∨ 21 ≤ t.at' → t.code = 0
 ats : t.at' = 0 ∨ t.at' = 2 ∨ t.at' = 3 ∨ t.at' = 4 ∨ t.at' = 5 ∨ t.at' = 6 ∨ t.at' = 7 ∨ t.at' = 8 ∨ t.at' = 9 ∨ t.at' = 10 ∨ t.at' = 11 ∨ t.at' = 12 ∨ t.at' = 13 ∨ t.at' = 14 ∨ t.at' = 15 ∨ t.at' = 16 ∨ t.at' = 17 ∨ t.at' = 18 ∨ t.at' = 20 ∨ t.at' = 21 ∨ t.at' = 22 ∨ t.at' = 23 ∨ t.at' = 24 ∨ t.at' = 25
section
variable (e p : Nat) (rp : List Nat) (g : PIds) (σ : aY) (nx rv : Value) (t : Tk) (now : Int)
theorem yH (hl : g.rp.length = σ.obs.length) (o : Nat) (ho : o < σ.obs.length) : Sp fR [vp p, vi o] (az p g σ) (fun _ : Unit => vb true) (fun _ => az p g σ) := by
 have hz : ((σ.obs.map fun x => x.1).zip g.rp).length = σ.obs.length := by simp [hl]
 refine aJ fun R H h => ?_;have h0 := h;unfold az at h0;refine bm (fun r => sw _ _ H) ?_;refine aa (uY (by omega)) ?_;refine gs ?_;refine ai h ac rfl ?_;refine gs ?_;refine iF (s := g.ov) h0 ?_;rw [hz];refine gs ?_;refine aa (cP (by omega)) ?_;refine gs ?_;exact ap ⟨(), rfl, h⟩
theorem qO (hl : g.rp.length = σ.obs.length) (o b : Nat) (ho : o < σ.obs.length) (hb : g.rp[o]? = some b) : Sp dV [vp p, vi o] (az p g σ) (fun _ : Unit => vp b) (fun _ => az p g σ) := by
 have hz : ((σ.obs.map fun x => x.1).zip g.rp).length = σ.obs.length := by simp [hl]
 refine bn (ss _ _) fun R H h => ?_;refine af h (yH p g σ hl o ho) fun _ H1 h1 => ?_;refine gs ?_;rw [Bool.not_true];refine gs ?_;refine ai h1 ac rfl ?_;have h2 := h1;unfold az at h2
 have hb' : g.rp[o]'(by omega) = b := by rw [cA (by omega)] at hb; exact e7 hb
 refine rm (v := vp b) (enc := I1) (l := (σ.obs.map fun x : Ob × List Pk => x.1).zip g.rp) h2 (by omega) (by omega) ?_ ?_
 ·show some (vp ((σ.obs.map fun x => x.1).zip g.rp)[o].2) = _
  rw [List.getElem_zip, hb']
 exact ap ⟨(), rfl, h1.to⟩
theorem MC (hl : g.rp.length = σ.obs.length) (who : Int) (o : Nat) (ho : o < σ.obs.length) (hN : σ.μ.N < 800000) : Sp jf [vp p, vi who, vi o] (az p g σ) (fun v : Value => v) (fun _ => az p g (σ.mem (σ.μ.acc who 5 (13, (o : Int), 0)))) := by
 have hz : ((σ.obs.map fun x => x.1).zip g.rp).length = σ.obs.length := by simp [hl]
 refine bn (tH _ _ _) fun R H h => ?_;refine bp h fun b H1 h1 => ?_;refine af h1 (yH p g σ hl o ho) fun _ H2 h2 => ?_;refine gs ?_;rw [Bool.not_true];refine gs ?_;refine ai h2 ac rfl ?_;refine iW ?_;refine af h2 (NB (p := p) (g := g) (σ := σ) ((XK g.m σ.μ who (13, (o : Int), 0) (by omega)).imp fun _ R H h => jb (N' := σ.μ.N + 2) (by simp) h)) fun _ H3 h3 => ?_;refine ai h3 ac rfl ?_;have h4 := h3;unfold az at h4;refine ab9 (enc := I1) (l := (σ.obs.map fun x : Ob × List Pk => x.1).zip g.rp) h4 (by omega) (by omega) (show _ = [_, _, _] from rfl) ?_;refine eW h3 rfl rfl fun H5 h5 => ?_;refine aW h5 ?_;exact ap ⟨_, rfl, h5.to⟩
theorem o3 (who : Int) (hN : σ.μ.N < 800000) : Sp dw [vp p, vi who] (az p g σ) (fun _ : Unit => vu (σ.μ.V (2, 0, 0))) (fun _ => az p g (σ.mem (σ.μ.acc who 1 (2, 0, 0)))) := by
 refine bn (tI _ _) fun R H h => ?_;refine ai h ac rfl ?_;refine iW ?_;refine af h (NB (p := p) (g := g) (σ := σ) (CB g.m σ.μ who (2, 0, 0) (by omega))) fun _ H1 h1 => ?_;exact ap ⟨(), rfl, h1.to⟩
theorem JI (who : Int) (hN : σ.μ.N < 800000) : Sp dW [vp p, vi who] (az p g σ) (fun _ : Unit => .tuple #[]) (fun _ => az p g (σ.mem (σ.μ.cnt who (2, 0, 0) 1))) := by
 refine bn (su _ _) fun R H h => ?_;refine ai h ac rfl ?_;refine iW ?_;refine af h (NB (p := p) (g := g) (σ := σ) (X9 g.m σ.μ who (2, 0, 0) 1 (by omega))) fun _ H1 h1 => ?_;exact ap ⟨(), rfl, h1.to⟩
theorem C8 (b : Bool) (h : qp (σ.μ.V (10, t.s, (t.i : Int))) t.x.flow = b) : aO σ t = { t with i := t.i + 1, found := b, obj := if b = true then σ.μ.V (10, t.s, (t.i : Int)) % 4294967296 else t.obj } := by
 subst h
 rfl
theorem N2 (S : SOk σ) (hi : (t.i : Int) < σ.c.sl) : Sp vx [vp e] (eB e p nx rv t * az p g σ) (fun _ : Unit => vb (cr σ (aO σ t))) (fun _ => eB e p nx rv (aO σ t) * az p g (aV σ t)) := by
 have hc := bF.1 S.c;refine bn (Rb _) fun R H h => ?_;refine ai h ac rfl ?_;refine ai h ac rfl ?_;refine ai h ac rfl ?_;refine ai h ac rfl ?_;refine ai h ac rfl ?_;refine af h (ui (p := p) (g := g) (σ := σ) (yR g.tb g.m σ.c.sh.toNat σ.c.sl.toNat σ.μ t.who t.s t.i (by have := S.N; omega) (S.V _))) fun _ H1 h1 => ?_
 have fin : ∀ (t1 : Tk) (H' : AH), t1.i = t.i + 1 → ae (eB e p nx rv t1 * (az p g (aV σ t) * R)) H' → wp (rI (vp e) (vb false) H') fun v' H' => ∃ _x : Unit, v' = vb (cr σ t1) ∧ ae (eB e p nx rv t1 * az p g (aV σ t) * R) H' := by
  intro t1 H' hi1 h';refine ah (FQ _ _ H') ?_;refine bA ac ?_;refine aN h' rfl ?_;refine ai h' ac rfl ?_;refine ai h' ac rfl ?_;refine af h' (FE (p := p) (g := g) (σ := aV σ t) (yS g.tb g.m σ.c.sh.toNat σ.c.sl.toNat)) fun _ H2 h2 => ?_;refine aH h2 h' (by rfl) ?_;refine aa (v := vb (cr σ t1)) ?_ ?_
  ·rw [rC]
   congr 3
   apply propext;omega
  exact ap ⟨(), rfl, h2.to⟩
 by_cases hv : σ.μ.V (10, t.s, (t.i : Int)) = 0
 ·have e1 : g8 (σ.μ.V (10, t.s, (t.i : Int))) = .tuple #[vi 0, vi 0, vb false] := by rw [g8, if_pos hv]
  rw [e1];refine aa (v := vi 0) rfl ?_;refine aa (v := vi 0) rfl ?_;refine aa (v := vb false) rfl ?_;refine ai h1 ac rfl ?_;refine aa (aR (by omega) (by omega)) ?_;rw [show ((t.i : Nat) : Int) + 1 = ((t.i + 1 : Nat) : Int) from by omega];refine bg h1 ac rfl rfl fun H2 h2 => ?_;refine ah (uw _ _ _ _ _ H2) ?_;refine gs ?_;refine bg h2 ac rfl rfl fun H3 h3 => ?_;refine ai h3 ac rfl ?_;refine gs ?_
  have e2 : aO σ t = { t with i := t.i + 1, found := false } := by
   have : qp (σ.μ.V (10, t.s, (t.i : Int))) t.x.flow = false := by simp [qp, hv]
   exact (C8 σ t _ this).trans rfl
  rw [e2];exact fin _ H3 rfl h3.to
 ·have e1 : g8 (σ.μ.V (10, t.s, (t.i : Int))) = .tuple #[vi ((σ.μ.V (10, t.s, (t.i : Int)) / 4294967296 : Nat) - 1), vi (σ.μ.V (10, t.s, (t.i : Int)) % 4294967296 : Nat), vb true] := by rw [g8, if_neg hv]
  rw [e1];refine aa (v := vi ((σ.μ.V (10, t.s, (t.i : Int)) / 4294967296 : Nat) - 1)) rfl ?_;refine aa (v := vi (σ.μ.V (10, t.s, (t.i : Int)) % 4294967296 : Nat)) rfl ?_;refine aa (v := vb true) rfl ?_;refine ai h1 ac rfl ?_;refine aa (aR (by omega) (by omega)) ?_;rw [show ((t.i : Nat) : Int) + 1 = ((t.i + 1 : Nat) : Int) from by omega];refine bg h1 ac rfl rfl fun H2 h2 => ?_;refine ah (uw _ _ _ _ _ H2) ?_;refine gs ?_;refine ai h2 (b7 (aL (aL aZ))) rfl ?_
  by_cases hf : ((σ.μ.V (10, t.s, (t.i : Int)) / 4294967296 : Nat) : Int) - 1 = t.x.flow
  ·refine lw ?_
   refine aa (ba hf) ?_;refine gs ?_;refine bg h2 ac rfl rfl fun H3 h3 => ?_;refine ai h3 ac rfl ?_;refine gs ?_;refine bg h3 ac rfl rfl fun H4 h4 => ?_
   have e2 : aO σ t = { t with i := t.i + 1, found := true, obj := σ.μ.V (10, t.s, (t.i : Int)) % 4294967296 } := by
    have : qp (σ.μ.V (10, t.s, (t.i : Int))) t.x.flow = true := fj ⟨hv, hf⟩;exact (C8 σ t _ this).trans rfl
   rw [e2];exact fin _ H4 rfl h4.to
  ·refine lw ?_
   refine aa (aC hf) ?_;refine gs ?_;refine bg h2 ac rfl rfl fun H3 h3 => ?_;refine ai h3 ac rfl ?_;refine gs ?_
   have e2 : aO σ t = { t with i := t.i + 1, found := false } := by
    have : qp (σ.μ.V (10, t.s, (t.i : Int))) t.x.flow = false := ez fun q => hf q.2;exact (C8 σ t _ this).trans rfl
   rw [e2];exact fin _ H3 rfl h3.to
end
theorem iD {rp : List Nat} {t : Tk} {v : Value} (h : t.at' < 7) : Ib rp t v := fun h' => by omega
theorem cM {rp : List Nat} {t : Tk} {b : Nat} (h : rp[t.obj]? = some b) : Ib rp t (vp b) := fun _ => ⟨b, h, rfl⟩
section
variable {e p : Nat} {rp : List Nat} {g : PIds} {σ σ' : aY} {t t' : Tk} {R P : SP} {H : AH} {r : aY × Tk × Bool} {v : Value} {n : Nat} {c : Int}
theorem dI (h : ae (eP e p rp σ t * R) H) : ∃ (nx rv : Value) (g : PIds), Ib rp t rv ∧ g.rp = rp ∧ rp.length = σ.obs.length ∧ nx = eY e (zC t.at') ∧ ae (eB e p nx rv t * (az p g σ * R)) H := by
 obtain ⟨rv, h1, h2⟩ := N0 h;obtain ⟨g, h3, h4, h5⟩ := dt (p := p) (rp := rp) (σ := σ) (R := eB e p (eY e (zC t.at')) rv t * R) (H := H) h2.to;exact ⟨_, rv, g, h1, h3, h4, rfl, h5.to⟩
theorem FU (hr : r = (σ', t', false)) (hv : Ib rp t' v) (hn : zC t'.at' = n) (h : ae (eB e p (eY e n) v t' * (aX p rp σ' * R)) H) :
 ∃ x : Unit, (.tuple #[.agg (gW 0).toArray, vb false]) = bX r ∧ ae (eQ e p rp r * R) H := by
 subst hr;exact ⟨(), rfl, I0 hv hn h⟩
theorem dN (hr : r = (σ', t', false)) (hv : Ib g.rp t' v) (hn : zC t'.at' = n) (hl : g.rp.length = σ'.obs.length) (h : ae (eB e p (eY e n) v t' * (az p g σ' * R)) H) :
 ∃ x : Unit, (.tuple #[.agg (gW 0).toArray, vb false]) = bX r ∧ ae (eQ e p g.rp r * R) H := by
 refine FU hr hv hn ?_;have h1 := bz (p := p) (rp := g.rp) (σ := σ') (R := eB e p (eY e n) v t' * R) g rfl hl h.to;exact h1.to
theorem Bw (hr : r = (σ', t', true)) (hc : t'.code = c) (h : ae (aX p rp σ' * R) H) :
 ∃ x : Unit, (.tuple #[.agg (gW c).toArray, vb true]) = bX r ∧ ae (eQ e p rp r * R) H := by
 subst hr;subst hc;exact ⟨(), rfl, h⟩
theorem gA (nx rv : Value) (t' : Tk) (n : Nat) {b : Nat} {Q : Value → AH → Prop} (h : ae P H) [fr : Fr P (eB e p nx rv t' * blk b (.cells false [vi 0, .slice none 0 0, vi 0, vw 0])) R]
 (hk : ∀ H', ae (eB e p (eY e n) rv t' * R) H' → Q (.tuple #[.agg (gW 0).toArray, vb false]) H') :
 wp ((FF bH [vp e, eY e n] H).bind fun r2 => (ag r2.1 0).bind fun v3 => (ag r2.1 1).bind fun v4 => (cB 4 (vp b) v3 r2.2).bind fun H5 => (ay 4 (vp b) H5).bind fun v6 => some (Value.tuple #[v6, v4], H5)) Q :=
 mG h (aeE e p nx rv n t') hk
end
section
variable (e p : Nat) (rp : List Nat) (σ : aY) (t : Tk) (now : Int)
theorem T6 (S : SOk σ) (T : gX σ t) (hat : t.at' = 3) : Sp dg [vp e, vi now] (eP e p rp σ t) (fun _ : Unit => bX (am σ t now)) (fun _ => eQ e p rp (am σ t now)) := by
 have hN : σ.μ.N < 1099511627000 := by have := S.N; omega
 refine aJ fun R H h => ?_;obtain ⟨nx, rv, g, hv, rfl, hl, _, h0⟩ := dI h;refine bm (fun r => Lg _ _ H) ?_;refine bp h0 fun b1 H1 h1 => ?_;refine ai h1 ac rfl ?_;refine ai h1 ac rfl ?_;refine ai h1 ac rfl ?_;refine ai h1 ac rfl ?_;refine af h1 (ui (p := p) (g := g) (σ := σ) (uc g.tb g.m σ.c.sh.toNat σ.c.sl.toNat σ.μ t.who t.s hN)) fun _ H2 h2 => ?_
 by_cases hw : σ.μ.V (8, t.s, 0) = 0
 ·rw [fj hw]
  refine gs ?_;rw [Bool.not_true];refine gs ?_;refine bg h2 ac rfl rfl fun H3 h3 => ?_;refine gA (e := e) (p := p) nx rv { t with at' := 4, i := 0 } eE h3 fun H9 h9 => ?_;exact dN (σ' := σ.mem (σ.μ.swp t.who (8, t.s, 0) 0 1)) (t' := { t with at' := 4, i := 0 }) (v := rv) (n := eE) (by simp only [am, hat]; rw [if_pos hw]) (iD (by simp)) rfl hl h9.to
 ·rw [ez hw]
  refine gs ?_;rw [Bool.not_false];refine gs ?_;refine gA (e := e) (p := p) nx rv t dg h2 fun H9 h9 => ?_;exact dN (σ' := σ.mem (σ.μ.swp t.who (8, t.s, 0) 0 1)) (t' := t) (v := rv) (n := dg) (by simp only [am, hat]; rw [if_neg hw]) (iD (by omega)) (by rw [hat]; rfl) hl h9.to
theorem Kc (S : SOk σ) (T : gX σ t) (hat : t.at' = 5) : Sp eF [vp e, vi now] (eP e p rp σ t) (fun _ : Unit => bX (am σ t now)) (fun _ => eQ e p rp (am σ t now)) := by
 have hN : σ.μ.N < 1099511627000 := by have := S.N; omega
 refine aJ fun R H h => ?_;obtain ⟨nx, rv, g, hv, rfl, hl, _, h0⟩ := dI h;refine bm (fun r => FT _ _ H) ?_;refine bp h0 fun b1 H1 h1 => ?_;refine ai h1 ac rfl ?_;refine ai h1 ac rfl ?_;refine ai h1 ac rfl ?_;refine ai h1 ac rfl ?_;refine af h1 (ui (p := p) (g := g) (σ := σ) (wA g.tb g.m σ.c.sh.toNat σ.c.sl.toNat σ.μ t.who t.s hN)) fun _ H2 h2 => ?_;refine ai h2 ac rfl ?_;cases hf : t.found
 ·refine gs ?_
  rw [Bool.not_false];refine gs ?_;refine mG h2 (uz (vp e) 5) fun H9 h9 => ?_;exact Bw (σ' := σ.mem ((σ.μ.acc t.who 2 (8, t.s, 0)).put (8, t.s, 0) 0)) (t' := { t with at' := 6 }) (by simp only [am, hat, hf]; rfl) (T.c5 hat hf) (bz (p := p) (rp := g.rp) (R := R) g rfl hl h9.to)
 ·refine gs ?_
  rw [Bool.not_true];refine gs ?_;refine gA (e := e) (p := p) nx rv { t with at' := 6 } gL h2 fun H9 h9 => ?_;exact dN (σ' := σ.mem ((σ.μ.acc t.who 2 (8, t.s, 0)).put (8, t.s, 0) 0)) (t' := { t with at' := 6 }) (v := rv) (n := gL) (by simp only [am, hat, hf]; rfl) (iD (by simp)) rfl hl h9.to
theorem T7 (S : SOk σ) (T : gX σ t) (hat : t.at' = 6) : Sp gL [vp e, vi now] (eP e p rp σ t) (fun _ : Unit => bX (am σ t now)) (fun _ => eQ e p rp (am σ t now)) := by
 have hN : σ.μ.N < 1099511627000 := by have := S.N; omega
 refine aJ fun R H h => ?_;obtain ⟨nx, rv, g, hv, rfl, hl, _, h0⟩ := dI h;have ho := T.obj (.inl (by omega));obtain ⟨b, hb⟩ : ∃ b, g.rp[t.obj]? = some b := ⟨_, cA (by omega)⟩;refine bm (fun r => Lh _ _ H) ?_;refine bp h0 fun b1 H1 h1 => ?_;refine ai h1 ac rfl ?_;refine ai h1 ac rfl ?_;refine ai h1 ac rfl ?_;refine af h1 (MC p g σ hl t.who t.obj ho S.N) fun _ H2 h2 => ?_;refine ai h2 ac rfl ?_;refine ai h2 ac rfl ?_;refine af h2 (qO p g (σ.mem (σ.μ.acc t.who 5 (13, (t.obj : Int), 0))) hl t.obj b ho hb) fun _ H3 h3 => ?_;refine bg h3 ac rfl rfl fun H4 h4 => ?_;refine gA (e := e) (p := p) nx (vp b) { t with at' := 7 } cf h4 fun H9 h9 => ?_;exact dN (σ' := σ.mem (σ.μ.acc t.who 5 (13, (t.obj : Int), 0))) (t' := { t with at' := 7 }) (v := (vp b)) (n := cf) (by simp only [am, hat]) (cM hb) rfl hl h9.to
theorem Ub (S : SOk σ) (T : gX σ t) (hat : t.at' = 7) : Sp cf [vp e, vi now] (eP e p rp σ t) (fun _ : Unit => bX (am σ t now)) (fun _ => eQ e p rp (am σ t now)) := by
 have hN : σ.μ.N < 1099511627000 := by have := S.N; omega
 refine aJ fun R H h => ?_;obtain ⟨nx, rv, g, hv, rfl, hl, _, h0⟩ := dI h;obtain ⟨b, hb, rfl⟩ := hv (by omega);have ho := T.obj (.inl (by omega));refine bm (fun r => Ln _ _ H) ?_;refine bp h0 fun b1 H1 h1 => ?_;refine ai h1 ac rfl ?_;refine ai h1 ac rfl ?_;refine af h1 (iZ (p := p) hl ho hb (ya g.m t.obj b (aA σ t.obj) σ.μ t.who hN)) fun _ H2 h2 => ?_;refine bg h2 ac rfl rfl fun H3 h3 => ?_;refine ai h3 ac rfl ?_;refine af h3 (iN _ (S.V _)) fun _ H4 h4 => ?_
 by_cases hw : bv (σ.μ.V (11, (t.obj : Int), 0)) = 2
 ·refine aa (ba hw) ?_
  refine gs ?_;refine gA (e := e) (p := p) nx (vp b) { t with w := σ.μ.V (11, (t.obj : Int), 0), at' := 3 } dg h4 fun H9 h9 => ?_;exact dN (σ' := cY σ t) (t' := { t with w := σ.μ.V (11, (t.obj : Int), 0), at' := 3 }) (v := (vp b)) (n := dg) (by simp only [am, hat]; rw [if_pos hw]) (iD (by simp)) rfl hl h9.to
 ·refine aa (aC hw) ?_
  refine gs ?_;refine gA (e := e) (p := p) nx (vp b) { t with w := σ.μ.V (11, (t.obj : Int), 0), at' := 8 } lF h4 fun H9 h9 => ?_;exact dN (σ' := cY σ t) (t' := { t with w := σ.μ.V (11, (t.obj : Int), 0), at' := 8 }) (v := (vp b)) (n := lF) (by simp only [am, hat]; rw [if_neg hw]) (cM hb) rfl hl h9.to
theorem Dh (S : SOk σ) (T : gX σ t) (hat : t.at' = 16) : Sp ft [vp e, vi now] (eP e p rp σ t) (fun _ : Unit => bX (am σ t now)) (fun _ => eQ e p rp (am σ t now)) := by
 have hN : σ.μ.N < 1099511627000 := by have := S.N; omega
 refine aJ fun R H h => ?_;obtain ⟨nx, rv, g, hv, rfl, hl, _, h0⟩ := dI h;obtain ⟨b, hb, rfl⟩ := hv (by omega);have ho := T.obj (.inl (by omega));refine bm (fun r => y9 _ _ H) ?_;refine bp h0 fun b1 H1 h1 => ?_;refine ai h1 ac rfl ?_;refine ai h1 ac rfl ?_;refine af h1 (iZ (p := p) hl ho hb (ya g.m t.obj b (aA σ t.obj) σ.μ t.who hN)) fun _ H2 h2 => ?_;refine bg h2 ac rfl rfl fun H3 h3 => ?_;refine ai h3 ac rfl ?_;refine af h3 (iN _ (S.V _)) fun _ H4 h4 => ?_
 by_cases hw : bv (σ.μ.V (11, (t.obj : Int), 0)) = 2
 ·refine aa (ba hw) ?_
  refine gs ?_;refine gA (e := e) (p := p) nx (vp b) { t with w := σ.μ.V (11, (t.obj : Int), 0), at' := 3 } dg h4 fun H9 h9 => ?_;exact dN (σ' := cY σ t) (t' := { t with w := σ.μ.V (11, (t.obj : Int), 0), at' := 3 }) (v := (vp b)) (n := dg) (by simp only [am, hat]; rw [if_pos hw]) (iD (by simp)) rfl hl h9.to
 ·refine aa (aC hw) ?_
  refine gs ?_;refine gA (e := e) (p := p) nx (vp b) { t with w := σ.μ.V (11, (t.obj : Int), 0), at' := 17 } fq h4 fun H9 h9 => ?_;exact dN (σ' := cY σ t) (t' := { t with w := σ.μ.V (11, (t.obj : Int), 0), at' := 17 }) (v := (vp b)) (n := fq) (by simp only [am, hat]; rw [if_neg hw]) (cM hb) rfl hl h9.to
theorem T3 (S : SOk σ) (T : gX σ t) (hat : t.at' = 8) : Sp lF [vp e, vi now] (eP e p rp σ t) (fun _ : Unit => bX (am σ t now)) (fun _ => eQ e p rp (am σ t now)) := by
 have hN : σ.μ.N < 1099511627000 := by have := S.N; omega
 refine aJ fun R H h => ?_;obtain ⟨nx, rv, g, hv, rfl, hl, _, h0⟩ := dI h;obtain ⟨b, hb, rfl⟩ := hv (by omega);have ho := T.obj (.inl (by omega));refine bm (fun r => Ld _ _ H) ?_;refine bp h0 fun b1 H1 h1 => ?_;refine ai h1 ac rfl ?_;refine ai h1 ac rfl ?_;refine af h1 (iZ (p := p) hl ho hb (Fh g.m t.obj b (aA σ t.obj) σ.μ t.who hN)) fun _ H2 h2 => ?_;refine ah (DJ _ _ _ _ H2) ?_;refine ai h2 ac rfl ?_;refine ai h2 ac rfl ?_;refine af h2 (NC (p := p) (σ := i8 σ t) hl ho hb (Fg g.m t.obj b (aA σ t.obj) t.w (σ.μ.V (12, (t.obj : Int), 0)) T.w (S.cells _ ho).2)) fun _ H3 h3 => ?_;cases hf : nY t.w (σ.μ.V (12, (t.obj : Int), 0)) (aA σ t.obj).length
 ·refine gs ?_
  refine ai h3 ac rfl ?_;refine af h3 (iN _ T.w) fun _ H4 h4 => ?_
  by_cases hw : bv t.w = 1
  ·refine aa (ba hw) ?_
   refine gs ?_;refine gA (e := e) (p := p) nx (vp b) { t with at' := 9 } jI h4 fun H9 h9 => ?_;exact dN (σ' := i8 σ t) (t' := { t with at' := 9 }) (v := (vp b)) (n := jI) (by simp only [am, hat, mQ, hf]; rw [if_pos hw]; rfl) (cM hb) rfl hl h9.to
  ·refine aa (aC hw) ?_
   refine gs ?_;refine ah (DK _ _ _ H4) ?_;refine gA (e := e) (p := p) nx (vp b) { t with at' := 12 } jH h4 fun H9 h9 => ?_;exact dN (σ' := i8 σ t) (t' := { t with at' := 12 }) (v := (vp b)) (n := jH) (by simp only [am, hat, mQ, hf]; rw [if_neg hw]; rfl) (cM hb) rfl hl h9.to
 ·refine gs ?_
  refine gA (e := e) (p := p) nx (vp b) { t with at' := 15 } od h3 fun H9 h9 => ?_;exact dN (σ' := i8 σ t) (t' := { t with at' := 15 }) (v := (vp b)) (n := od) (by simp only [am, hat, mQ, hf]; rfl) (cM hb) rfl hl h9.to
theorem Nm (S : SOk σ) (T : gX σ t) (hat : t.at' = 9) : Sp jI [vp e, vi now] (eP e p rp σ t) (fun _ : Unit => bX (am σ t now)) (fun _ => eQ e p rp (am σ t now)) := by
 have hN : σ.μ.N < 1099511627000 := by have := S.N; omega
 refine aJ fun R H h => ?_;obtain ⟨nx, rv, g, hv, rfl, hl, _, h0⟩ := dI h;obtain ⟨b, hb, rfl⟩ := hv (by omega);have ho := T.obj (.inl (by omega));refine bm (fun r => IX _ _ H) ?_;refine bp h0 fun b1 H1 h1 => ?_;refine ai h1 ac rfl ?_;refine ai h1 ac rfl ?_;refine ai h1 ac rfl ?_;refine af h1 (iZ (p := p) hl ho hb (C7 g.m t.obj b (aA σ t.obj) σ.μ t.who t.w T.w hN)) fun _ H2 h2 => ?_;cases hw : turned σ.μ t.obj t.w (aP t.w 0)
 ·refine gs ?_
  rw [Bool.not_false];refine gs ?_;refine gA (e := e) (p := p) nx (vp b) { t with at' := 7 } cf h2 fun H9 h9 => ?_;exact dN (σ' := σ.mem (σ.μ.turn t.who t.obj t.w (aP t.w 0))) (t' := { t with at' := 7 }) (v := (vp b)) (n := cf) (by simp only [am, hat, hw]; rfl) (cM hb) rfl hl h9.to
 ·refine gs ?_
  rw [Bool.not_true];refine gs ?_;have k2 := bz (p := p) (rp := g.rp) (σ := σ.mem (σ.μ.turn t.who t.obj t.w (aP t.w 0))) (R := eB e p nx (vp b) t * (blk b1 (.cells false [vi 0, .slice none 0 0, vi 0, vw 0]) * R)) g rfl hl h2.to;refine af k2 (uA e p g.rp (σ.mem (σ.μ.turn t.who t.obj t.w (aP t.w 0))) nx (vp b) t now 0 (by have := S.pts; show σ.pts.length < _; omega)) fun _ H3 h3 => ?_;refine gA (e := e) (p := p) nx (vp b) { t with at' := 10, code := 0 } oc h3 fun H9 h9 => ?_;exact FU (σ' := (σ.mem (σ.μ.turn t.who t.obj t.w (aP t.w 0))).note now t.who 0) (t' := { t with at' := 10, code := 0 }) (v := (vp b)) (n := oc) (by simp only [am, hat, hw]; rfl) (cM hb) rfl h9.to
theorem Ua (S : SOk σ) (T : gX σ t) (hat : t.at' = 13) : Sp lK [vp e, vi now] (eP e p rp σ t) (fun _ : Unit => bX (am σ t now)) (fun _ => eQ e p rp (am σ t now)) := by
 have hN : σ.μ.N < 1099511627000 := by have := S.N; omega
 refine aJ fun R H h => ?_;obtain ⟨nx, rv, g, hv, rfl, hl, _, h0⟩ := dI h;obtain ⟨b, hb, rfl⟩ := hv (by omega);have ho := T.obj (.inl (by omega));refine bm (fun r => Lm _ _ H) ?_;refine bp h0 fun b1 H1 h1 => ?_;refine ai h1 ac rfl ?_;refine ai h1 ac rfl ?_;refine ai h1 ac rfl ?_;refine af h1 (iZ (p := p) hl ho hb (C7 g.m t.obj b (aA σ t.obj) σ.μ t.who t.w T.w hN)) fun _ H2 h2 => ?_;cases hw : turned σ.μ t.obj t.w (aP t.w 0)
 ·refine gs ?_
  rw [Bool.not_false];refine gs ?_;refine gA (e := e) (p := p) nx (vp b) { t with at' := 20 } lC h2 fun H9 h9 => ?_;exact dN (σ' := σ.mem (σ.μ.turn t.who t.obj t.w (aP t.w 0))) (t' := { t with at' := 20 }) (v := (vp b)) (n := lC) (by simp only [am, hat, hw]; rfl) (cM hb) rfl hl h9.to
 ·refine gs ?_
  rw [Bool.not_true];refine gs ?_;have k2 := bz (p := p) (rp := g.rp) (σ := σ.mem (σ.μ.turn t.who t.obj t.w (aP t.w 0))) (R := eB e p nx (vp b) t * (blk b1 (.cells false [vi 0, .slice none 0 0, vi 0, vw 0]) * R)) g rfl hl h2.to;refine af k2 (uA e p g.rp (σ.mem (σ.μ.turn t.who t.obj t.w (aP t.w 0))) nx (vp b) t now 0 (by have := S.pts; show σ.pts.length < _; omega)) fun _ H3 h3 => ?_;refine gA (e := e) (p := p) nx (vp b) { t with at' := 14, code := 0 } lD h3 fun H9 h9 => ?_;exact FU (σ' := (σ.mem (σ.μ.turn t.who t.obj t.w (aP t.w 0))).note now t.who 0) (t' := { t with at' := 14, code := 0 }) (v := (vp b)) (n := lD) (by simp only [am, hat, hw]; rfl) (cM hb) rfl h9.to
theorem Az (σ : aY) (t : Tk) : tr σ t = { σ with μ := σ.μ.acc t.who 6 (16, (t.obj : Int), ((bk t.w % (aA σ t.obj).length : Nat) : Int)), obs := σ.obs.modify t.obj fun q => (q.1, (aA σ t.obj).set (bk t.w % (aA σ t.obj).length) ⟨t.x.flow, t.x.a, t.x.b⟩) } := by
 have eo : (σ.obs.modify t.obj fun q => (q.1, q.2.set (bk t.w % (aA σ t.obj).length) (⟨t.x.flow, t.x.a, t.x.b⟩ : Pk))) = σ.obs.modify t.obj fun q => (q.1, (aA σ t.obj).set (bk t.w % (aA σ t.obj).length) ⟨t.x.flow, t.x.a, t.x.b⟩) := by
  apply List.ext_getElem?;intro j;rw [List.getElem?_modify, List.getElem?_modify]
  cases hj : σ.obs[j]? with
  | none => rfl
  | some q =>
   show some (if t.obj = j then _ else q) = some (if t.obj = j then _ else q)
   by_cases e : t.obj = j
   ·subst e
    rw [if_pos rfl, if_pos rfl];unfold aA;rw [hj]; rfl
   ·rw [if_neg e, if_neg e]
 exact congrArg (fun o => ({ σ with μ := σ.μ.acc t.who 6 (16, (t.obj : Int), ((bk t.w % (aA σ t.obj).length : Nat) : Int)), obs := o } : aY)) eo
theorem N3 (S : SOk σ) (T : gX σ t) (nx : Value) (g : PIds) (b : Nat) (hl : g.rp.length = σ.obs.length) (ho : t.obj < σ.obs.length) (hb : g.rp[t.obj]? = some b) :
 Sp vy [vp e] (eB e p nx (vp b) t * az p g σ) (fun _ : Unit => .tuple #[]) (fun _ => eB e p nx (vp b) t * az p g (tr σ t)) := by
 have hN : σ.μ.N < 1099511627000 := by have := S.N; omega
 refine bn (Rc _) fun R H h => ?_;refine bA ac ?_;refine aN h rfl ?_;refine bA ac ?_;refine aN h rfl ?_;refine ai h ac rfl ?_;refine af h (gC t.w T.w) fun _ H1 h1 => ?_;refine aH h1 h (by rfl) ?_;refine aH h1 h (by rfl) ?_;refine bA (b7 (aL (aL aZ))) ?_;refine aN h1 rfl ?_;refine aH h h1 (by rfl) ?_;refine bA (b7 (aL (aL aZ))) ?_;refine aN h1 rfl ?_;refine aH h h1 (by rfl) ?_;refine bA (b7 (aL (aL aZ))) ?_;refine aN h1 rfl ?_;refine aH h h1 (by rfl) ?_;refine iW ?_;refine af h1 (UD (p := p) hl ho hb (YH g.m t.obj b (aA σ t.obj) σ.μ t.who (bk t.w) ⟨t.x.flow, t.x.a, t.x.b⟩ (S.cells _ ho) hN)) fun _ H2 h2 => ?_;refine ap ⟨(), rfl, ?_⟩;rw [Az];exact h2.to
theorem ja (σ : aY) (t : Tk) : (tr σ t).obs.length = σ.obs.length := by unfold tr; simp
theorem YX (S : SOk σ) (T : gX σ t) (hat : t.at' = 10) : Sp oc [vp e, vi now] (eP e p rp σ t) (fun _ : Unit => bX (am σ t now)) (fun _ => eQ e p rp (am σ t now)) := by
 have hN : σ.μ.N < 1099511627000 := by have := S.N; omega
 refine aJ fun R H h => ?_;obtain ⟨nx, rv, g, hv, rfl, hl, _, h0⟩ := dI h;obtain ⟨b, hb, rfl⟩ := hv (by omega);have ho := T.obj (.inl (by omega));refine bm (fun r => Re _ _ H) ?_;refine bp h0 fun b1 H1 h1 => ?_;refine af h1 (N3 e p σ t S T nx g b hl ho hb) fun _ H2 h2 => ?_;refine gA (e := e) (p := p) nx (vp b) { t with at' := 11 } lJ h2 fun H9 h9 => ?_;exact dN (σ' := tr σ t) (t' := { t with at' := 11 }) (v := (vp b)) (n := lJ) (by simp only [am, hat]) (cM hb) rfl (by rw [ja]; exact hl) h9.to
theorem T0 (S : SOk σ) (T : gX σ t) (hat : t.at' = 14) : Sp lD [vp e, vi now] (eP e p rp σ t) (fun _ : Unit => bX (am σ t now)) (fun _ => eQ e p rp (am σ t now)) := by
 have hN : σ.μ.N < 1099511627000 := by have := S.N; omega
 refine aJ fun R H h => ?_;obtain ⟨nx, rv, g, hv, rfl, hl, _, h0⟩ := dI h;obtain ⟨b, hb, rfl⟩ := hv (by omega);have ho := T.obj (.inl (by omega));refine bm (fun r => Lb _ _ H) ?_;refine bp h0 fun b1 H1 h1 => ?_;refine af h1 (N3 e p σ t S T nx g b hl ho hb) fun _ H2 h2 => ?_;refine gA (e := e) (p := p) nx (vp b) { t with at' := 21 } jK h2 fun H9 h9 => ?_;exact dN (σ' := tr σ t) (t' := { t with at' := 21 }) (v := (vp b)) (n := jK) (by simp only [am, hat]) (cM hb) rfl (by rw [ja]; exact hl) h9.to
theorem T9 (S : SOk σ) (T : gX σ t) (hat : t.at' = 11) : Sp lJ [vp e, vi now] (eP e p rp σ t) (fun _ : Unit => bX (am σ t now)) (fun _ => eQ e p rp (am σ t now)) := by
 have hN : σ.μ.N < 1099511627000 := by have := S.N; omega
 refine aJ fun R H h => ?_;obtain ⟨nx, rv, g, hv, rfl, hl, _, h0⟩ := dI h;obtain ⟨b, hb, rfl⟩ := hv (by omega);have ho := T.obj (.inl (by omega));refine bm (fun r => Ll _ _ H) ?_;refine bp h0 fun b1 H1 h1 => ?_;refine bA ac ?_;refine aN h1 rfl ?_;refine bA ac ?_;refine aN h1 rfl ?_;refine ai h1 ac rfl ?_;refine af h1 (gC t.w T.w) fun _ H2 h2 => ?_;refine aH h2 h1 (by rfl) ?_;refine aH h2 h1 (by rfl) ?_;have hwc := dS t.w;refine af h2 (iZ (p := p) hl ho hb (Fi g.m t.obj b (aA σ t.obj) σ.μ t.who (bk t.w) (by omega) (S.cells _ ho) hN)) fun _ H3 h3 => ?_;refine mG h3 (uz (vp e) 0) fun H9 h9 => ?_;exact Bw (σ' := yO σ t) (t' := t) (by simp only [am, hat]) (T.c0 (by omega)) (bz (p := p) (rp := g.rp) (R := R) g rfl hl h9.to)
theorem No (S : SOk σ) (T : gX σ t) (hat : t.at' = 21) : Sp jK [vp e, vi now] (eP e p rp σ t) (fun _ : Unit => bX (am σ t now)) (fun _ => eQ e p rp (am σ t now)) := by
 have hN : σ.μ.N < 1099511627000 := by have := S.N; omega
 refine aJ fun R H h => ?_;obtain ⟨nx, rv, g, hv, rfl, hl, _, h0⟩ := dI h;obtain ⟨b, hb, rfl⟩ := hv (by omega);have ho := T.obj (.inl (by omega));refine bm (fun r => IZ _ _ H) ?_;refine bp h0 fun b1 H1 h1 => ?_;refine bA ac ?_;refine aN h1 rfl ?_;refine bA ac ?_;refine aN h1 rfl ?_;refine ai h1 ac rfl ?_;refine af h1 (gC t.w T.w) fun _ H2 h2 => ?_;refine aH h2 h1 (by rfl) ?_;refine aH h2 h1 (by rfl) ?_;have hwc := dS t.w;refine af h2 (iZ (p := p) hl ho hb (Fi g.m t.obj b (aA σ t.obj) σ.μ t.who (bk t.w) (by omega) (S.cells _ ho) hN)) fun _ H3 h3 => ?_;refine gA (e := e) (p := p) nx (vp b) { t with at' := 22 } dJ h3 fun H9 h9 => ?_;exact dN (σ' := yO σ t) (t' := { t with at' := 22 }) (v := (vp b)) (n := dJ) (by simp only [am, hat]) (cM hb) rfl hl h9.to
theorem Nl (S : SOk σ) (T : gX σ t) (hat : t.at' = 12) : Sp jH [vp e, vi now] (eP e p rp σ t) (fun _ : Unit => bX (am σ t now)) (fun _ => eQ e p rp (am σ t now)) := by
 have hN : σ.μ.N < 1099511627000 := by have := S.N; omega
 refine aJ fun R H h => ?_;obtain ⟨nx, rv, g, hv, rfl, hl, _, h0⟩ := dI h;obtain ⟨b, hb, rfl⟩ := hv (by omega);have ho := T.obj (.inl (by omega));refine bm (fun r => IW _ _ H) ?_;refine bp h0 fun b1 H1 h1 => ?_;refine ai h1 ac rfl ?_;refine ai h1 ac rfl ?_;refine ai h1 ac rfl ?_;refine af h1 (Ee (p := p) (g := g) (σ := σ) (Js g.ib g.m g.nm σ.c σ.nx σ.μ t.who hN)) fun _ H2 h2 => ?_;refine gA (e := e) (p := p) nx (vp b) { t with at' := 13 } lK h2 fun H9 h9 => ?_;exact dN (σ' := σ.mem (σ.μ.cnt t.who (3, 0, 0) 4294967296)) (t' := { t with at' := 13 }) (v := (vp b)) (n := lK) (by simp only [am, hat]) (cM hb) rfl hl h9.to
theorem TY (S : SOk σ) (T : gX σ t) (hat : t.at' = 20) : Sp lC [vp e, vi now] (eP e p rp σ t) (fun _ : Unit => bX (am σ t now)) (fun _ => eQ e p rp (am σ t now)) := by
 have hN : σ.μ.N < 1099511627000 := by have := S.N; omega
 refine aJ fun R H h => ?_;obtain ⟨nx, rv, g, hv, rfl, hl, _, h0⟩ := dI h;obtain ⟨b, hb, rfl⟩ := hv (by omega);have ho := T.obj (.inl (by omega));refine bm (fun r => La _ _ H) ?_;refine bp h0 fun b1 H1 h1 => ?_;refine ai h1 ac rfl ?_;refine ai h1 ac rfl ?_;refine ai h1 ac rfl ?_;refine af h1 (Ee (p := p) (g := g) (σ := σ) (EQ g.ib g.m g.nm σ.c σ.nx σ.μ t.who hN)) fun _ H2 h2 => ?_;refine gA (e := e) (p := p) nx (vp b) { t with at' := 7 } cf h2 fun H9 h9 => ?_;exact dN (σ' := σ.mem (σ.μ.cnt t.who (3, 0, 0) 1)) (t' := { t with at' := 7 }) (v := (vp b)) (n := cf) (by simp only [am, hat]) (cM hb) rfl hl h9.to
theorem YW (S : SOk σ) (T : gX σ t) (hat : t.at' = 25) : Sp oa [vp e, vi now] (eP e p rp σ t) (fun _ : Unit => bX (am σ t now)) (fun _ => eQ e p rp (am σ t now)) := by
 have hN : σ.μ.N < 1099511627000 := by have := S.N; omega
 refine aJ fun R H h => ?_;obtain ⟨nx, rv, g, hv, rfl, hl, _, h0⟩ := dI h;obtain ⟨b, hb, rfl⟩ := hv (by omega);have ho := T.obj (.inl (by omega));refine bm (fun r => Ra _ _ H) ?_;refine bp h0 fun b1 H1 h1 => ?_;refine ai h1 ac rfl ?_;refine ai h1 ac rfl ?_;refine ai h1 ac rfl ?_;refine af h1 (Ee (p := p) (g := g) (σ := σ) (EQ g.ib g.m g.nm σ.c σ.nx σ.μ t.who hN)) fun _ H2 h2 => ?_;refine mG h2 (uz (vp e) 0) fun H9 h9 => ?_;exact Bw (σ' := σ.mem (σ.μ.cnt t.who (3, 0, 0) 1)) (t' := t) (by simp only [am, hat]) (T.c0 (by omega)) (bz (p := p) (rp := g.rp) (R := R) g rfl hl h9.to)
theorem Ig (S : SOk σ) (T : gX σ t) (hat : t.at' = 22) : Sp dJ [vp e, vi now] (eP e p rp σ t) (fun _ : Unit => bX (am σ t now)) (fun _ => eQ e p rp (am σ t now)) := by
 have hN : σ.μ.N < 1099511627000 := by have := S.N; omega
 refine aJ fun R H h => ?_;obtain ⟨nx, rv, g, hv, rfl, hl, _, h0⟩ := dI h;obtain ⟨b, hb, rfl⟩ := hv (by omega);have ho := T.obj (.inl (by omega));refine bm (fun r => DN _ _ H) ?_;refine bp h0 fun b1 H1 h1 => ?_;refine ai h1 ac rfl ?_;refine ai h1 ac rfl ?_;refine ai h1 ac rfl ?_;refine ai h1 ac rfl ?_;refine af h1 (Ee (p := p) (g := g) (σ := σ) (SY g.ib g.m g.nm σ.c σ.nx σ.μ t.who t.s hN)) fun _ H2 h2 => ?_;refine bg h2 ac rfl rfl fun H3 h3 => ?_;refine gA (e := e) (p := p) nx (vp b) { t with top := σ.μ.V (9, t.s, 0), at' := 23 } lG h3 fun H9 h9 => ?_;exact dN (σ' := σ.mem (σ.μ.acc t.who 1 (9, t.s, 0))) (t' := { t with top := σ.μ.V (9, t.s, 0), at' := 23 }) (v := (vp b)) (n := lG) (by simp only [am, hat]) (cM hb) rfl hl h9.to
theorem T5 (S : SOk σ) (T : gX σ t) (hat : t.at' = 23) : Sp lG [vp e, vi now] (eP e p rp σ t) (fun _ : Unit => bX (am σ t now)) (fun _ => eQ e p rp (am σ t now)) := by
 have hN : σ.μ.N < 1099511627000 := by have := S.N; omega
 refine aJ fun R H h => ?_;obtain ⟨nx, rv, g, hv, rfl, hl, _, h0⟩ := dI h;obtain ⟨b, hb, rfl⟩ := hv (by omega);have ho := T.obj (.inl (by omega));refine bm (fun r => Le _ _ H) ?_;refine bp h0 fun b1 H1 h1 => ?_;refine ai h1 ac rfl ?_;refine ai h1 ac rfl ?_;refine ai h1 ac rfl ?_;refine ai h1 ac rfl ?_;refine ai h1 ac rfl ?_;refine af h1 (Ee (p := p) (g := g) (σ := σ) (L8 g.ib g.m g.nm σ.c σ.nx σ.μ t.who t.obj t.top hN)) fun _ H2 h2 => ?_;refine gA (e := e) (p := p) nx (vp b) { t with at' := 24 } lI h2 fun H9 h9 => ?_;exact dN (σ' := { σ with μ := σ.μ.acc t.who 6 (14, (t.obj : Int), 0), nx := fun k => if k = (t.obj : Int) then some t.top else σ.nx k }) (t' := { t with at' := 24 }) (v := (vp b)) (n := lI) (by simp only [am, hat]) (cM hb) rfl hl h9.to
theorem T8 (S : SOk σ) (T : gX σ t) (hat : t.at' = 24) : Sp lI [vp e, vi now] (eP e p rp σ t) (fun _ : Unit => bX (am σ t now)) (fun _ => eQ e p rp (am σ t now)) := by
 have hN : σ.μ.N < 1099511627000 := by have := S.N; omega
 refine aJ fun R H h => ?_;obtain ⟨nx, rv, g, hv, rfl, hl, _, h0⟩ := dI h;obtain ⟨b, hb, rfl⟩ := hv (by omega);have ho := T.obj (.inl (by omega));refine bm (fun r => Lj _ _ H) ?_;refine bp h0 fun b1 H1 h1 => ?_;refine ai h1 ac rfl ?_;refine ai h1 ac rfl ?_;refine ai h1 ac rfl ?_;refine ai h1 ac rfl ?_;refine ai h1 ac rfl ?_;refine ai h1 ac rfl ?_;refine af h1 (Ee (p := p) (g := g) (σ := σ) (Ma g.ib g.m g.nm σ.c σ.nx σ.μ t.who t.s t.top t.obj (by have := S.obs; omega) hN)) fun _ H2 h2 => ?_
 by_cases hw : σ.μ.V (9, t.s, 0) = t.top
 ·rw [fj hw]
  refine gs ?_;rw [Bool.not_true];refine gs ?_;refine gA (e := e) (p := p) nx (vp b) { t with at' := 25 } oa h2 fun H9 h9 => ?_;exact dN (σ' := σ.mem (σ.μ.swp t.who (9, t.s, 0) t.top (t.obj + 1))) (t' := { t with at' := 25 }) (v := (vp b)) (n := oa) (by simp only [am, hat]; rw [if_pos hw]) (cM hb) rfl hl h9.to
 ·rw [ez hw]
  refine gs ?_;rw [Bool.not_false];refine gs ?_;refine gA (e := e) (p := p) nx (vp b) { t with at' := 22 } dJ h2 fun H9 h9 => ?_;exact dN (σ' := σ.mem (σ.μ.swp t.who (9, t.s, 0) t.top (t.obj + 1))) (t' := { t with at' := 22 }) (v := (vp b)) (n := dJ) (by simp only [am, hat]; rw [if_neg hw]) (cM hb) rfl hl h9.to
theorem YY (S : SOk σ) (T : gX σ t) (hat : t.at' = 15) : Sp od [vp e, vi now] (eP e p rp σ t) (fun _ : Unit => bX (am σ t now)) (fun _ => eQ e p rp (am σ t now)) := by
 have hN : σ.μ.N < 1099511627000 := by have := S.N; omega
 refine aJ fun R H h => ?_;obtain ⟨nx, rv, g, hv, rfl, hl, _, h0⟩ := dI h;obtain ⟨b, hb, rfl⟩ := hv (by omega);have ho := T.obj (.inl (by omega));refine bm (fun r => Rg _ _ H) ?_;refine bp h0 fun b1 H1 h1 => ?_;refine ai h1 ac rfl ?_;refine ai h1 ac rfl ?_;refine af h1 (o3 p g σ t.who S.N) fun _ H2 h2 => ?_;refine bg h2 ac rfl rfl fun H3 h3 => ?_;refine ai h3 ac rfl ?_;refine aa (Fe 2 (by omega)) ?_
 by_cases hw : σ.μ.V (2, 0, 0) % 2 = 1
 ·refine aa (ba (show ((σ.μ.V (2, 0, 0) % 2 : Nat) : Int) = 1 by omega)) ?_
  refine gs ?_;refine gA (e := e) (p := p) nx (vp b) { t with q := σ.μ.V (2, 0, 0), at' := 7 } cf h3 fun H9 h9 => ?_;exact dN (σ' := ed σ t) (t' := { t with q := σ.μ.V (2, 0, 0), at' := 7 }) (v := (vp b)) (n := cf) (by simp only [am, hat]; rw [if_pos hw]) (cM hb) rfl hl h9.to
 ·refine aa (aC (show ¬ ((σ.μ.V (2, 0, 0) % 2 : Nat) : Int) = 1 by omega)) ?_
  refine gs ?_;refine gA (e := e) (p := p) nx (vp b) { t with q := σ.μ.V (2, 0, 0), at' := 16 } ft h3 fun H9 h9 => ?_;exact dN (σ' := ed σ t) (t' := { t with q := σ.μ.V (2, 0, 0), at' := 16 }) (v := (vp b)) (n := ft) (by simp only [am, hat]; rw [if_neg hw]) (cM hb) rfl hl h9.to
theorem Dg (S : SOk σ) (T : gX σ t) (hat : t.at' = 17) : Sp fq [vp e, vi now] (eP e p rp σ t) (fun _ : Unit => bX (am σ t now)) (fun _ => eQ e p rp (am σ t now)) := by
 have hN : σ.μ.N < 1099511627000 := by have := S.N; omega
 refine aJ fun R H h => ?_;obtain ⟨nx, rv, g, hv, rfl, hl, _, h0⟩ := dI h;obtain ⟨b, hb, rfl⟩ := hv (by omega);have ho := T.obj (.inl (by omega));refine bm (fun r => y6 _ _ H) ?_;refine bp h0 fun b1 H1 h1 => ?_;refine bA ac ?_;refine aN h1 rfl ?_;refine bA ac ?_;refine aN h1 rfl ?_;refine ai h1 ac rfl ?_;refine ai h1 ac rfl ?_;refine af h1 (iZ (p := p) hl ho hb (Fh g.m t.obj b (aA σ t.obj) σ.μ t.who hN)) fun _ H2 h2 => ?_;refine aH h2 h1 (by rfl) ?_;refine aH h2 h1 (by rfl) ?_;refine af h2 (NC (p := p) (σ := i8 σ t) hl ho hb (Fg g.m t.obj b (aA σ t.obj) t.w (σ.μ.V (12, (t.obj : Int), 0)) T.w (S.cells _ ho).2)) fun _ H3 h3 => ?_;cases hf : nY t.w (σ.μ.V (12, (t.obj : Int), 0)) (aA σ t.obj).length
 ·refine gs ?_
  rw [Bool.not_false];refine gs ?_;refine gA (e := e) (p := p) nx (vp b) { t with at' := 7 } cf h3 fun H9 h9 => ?_;exact dN (σ' := i8 σ t) (t' := { t with at' := 7 }) (v := (vp b)) (n := cf) (by simp only [am, hat, mQ, hf]; rfl) (cM hb) rfl hl h9.to
 ·refine gs ?_
  rw [Bool.not_true];refine gs ?_;refine bg h3 ac rfl rfl fun H4 h4 => ?_;refine gA (e := e) (p := p) nx (vp b) { t with at' := 18, mark := now } f4 h4 fun H9 h9 => ?_;exact dN (σ' := i8 σ t) (t' := { t with at' := 18, mark := now }) (v := (vp b)) (n := f4) (by simp only [am, hat, mQ, hf]; rfl) (cM hb) rfl hl h9.to
theorem D7 (S : SOk σ) (T : gX σ t) (hat : t.at' = 18) : Sp f4 [vp e, vi now] (eP e p rp σ t) (fun _ : Unit => bX (am σ t now)) (fun _ => eQ e p rp (am σ t now)) := by
 have hN : σ.μ.N < 1099511627000 := by have := S.N; omega
 refine aJ fun R H h => ?_;obtain ⟨nx, rv, g, hv, rfl, hl, _, h0⟩ := dI h;obtain ⟨b, hb, rfl⟩ := hv (by omega);have ho := T.obj (.inl (by omega));refine bm (fun r => Bv _ _ H) ?_;refine bp h0 fun b1 H1 h1 => ?_;refine ai h1 ac rfl ?_;refine ai h1 ac rfl ?_;refine af h1 (o3 p g σ t.who S.N) fun _ H2 h2 => ?_;refine bA ac ?_;refine aN h2 rfl ?_;refine aH h1 h2 (by rfl) ?_
 by_cases hw : σ.μ.V (2, 0, 0) = t.q
 ·refine aa (sR (show ((σ.μ.V (2, 0, 0) : Nat) : Int) = (t.q : Int) by omega)) ?_
  refine gs ?_;refine ai h2 ac rfl ?_;have k2 := bz (p := p) (rp := g.rp) (σ := ed σ t) (R := eB e p nx (vp b) t * (blk b1 (.cells false [vi 0, .slice none 0 0, vi 0, vw 0]) * R)) g rfl hl h2.to;refine mG k2 (yp e p g.rp (ed σ t) nx (vp b) t t.mark 9 (by have := S.pts; show σ.pts.length < _; omega)) fun H9 h9 => ?_;exact Bw (σ' := (ed σ t).note t.mark t.who 9) (t' := { t with code := 9 }) (by simp only [am, hat]; rw [if_pos hw]) rfl h9.to
 ·refine aa (JC (show ¬ ((σ.μ.V (2, 0, 0) : Nat) : Int) = (t.q : Int) by omega)) ?_
  refine gs ?_;refine gA (e := e) (p := p) nx (vp b) { t with at' := 7 } cf h2 fun H9 h9 => ?_;exact dN (σ' := ed σ t) (t' := { t with at' := 7 }) (v := (vp b)) (n := cf) (by simp only [am, hat]; rw [if_neg hw]) (cM hb) rfl hl h9.to
def gi (σ : aY) (t : Tk) : aY × Tk × Bool :=
 (aV σ t, { aO σ t with at' := if (aO σ t).found = true then 6 else if cr σ (aO σ t) = true then 3 else 2 }, false)
theorem Fs (S : SOk σ) (T : gX σ t) (hat : t.at' = 0 ∨ t.at' = 2) : Sp jJ [vp e, vi now] (eP e p rp σ t) (fun _ : Unit => bX (gi σ t)) (fun _ => eQ e p rp (gi σ t)) := by
 have hN : σ.μ.N < 1099511627000 := by have := S.N; omega
 refine aJ fun R H h => ?_;obtain ⟨nx, rv, g, hv, rfl, hl, _, h0⟩ := dI h;have hi := T.i (by omega) (by omega);refine bm (fun r => Lk _ _ H) ?_;refine bp h0 fun b1 H1 h1 => ?_;refine af h1 (N2 e p g σ nx rv t S hi) fun _ H2 h2 => ?_;refine ah (DL _ _ _ _ H2) ?_;refine ai h2 ac rfl ?_;cases hf : (aO σ t).found
 ·refine gs ?_
  cases hla : cr σ (aO σ t)
  ·refine gs ?_
   refine ah (DM _ _ _ H2) ?_;refine gA (e := e) (p := p) nx rv { aO σ t with at' := 2 } jJ h2 fun H9 h9 => ?_;exact dN (σ' := aV σ t) (t' := { aO σ t with at' := 2 }) (v := rv) (n := jJ) (by simp only [gi, hf, hla]; rfl) (iD (by simp)) rfl hl h9.to
  ·refine gs ?_
   refine gA (e := e) (p := p) nx rv { aO σ t with at' := 3 } dg h2 fun H9 h9 => ?_;exact dN (σ' := aV σ t) (t' := { aO σ t with at' := 3 }) (v := rv) (n := dg) (by simp only [gi, hf, hla]; rfl) (iD (by simp)) rfl hl h9.to
 ·refine gs ?_
  refine gA (e := e) (p := p) nx rv { aO σ t with at' := 6 } gL h2 fun H9 h9 => ?_;exact dN (σ' := aV σ t) (t' := { aO σ t with at' := 6 }) (v := rv) (n := gL) (by simp only [gi, hf]; rfl) (iD (by simp)) rfl hl h9.to
theorem Kb (S : SOk σ) (T : gX σ t) (hat : t.at' = 4) : Sp eE [vp e, vi now] (eP e p rp σ t) (fun _ : Unit => bX (am σ t now)) (fun _ => eQ e p rp (am σ t now)) := by
 have hN : σ.μ.N < 1099511627000 := by have := S.N; omega
 refine aJ fun R H h => ?_;obtain ⟨nx, rv, g, hv, rfl, hl, _, h0⟩ := dI h;have hi := T.i (by omega) (by omega);refine bm (fun r => FS _ _ H) ?_;refine bp h0 fun b1 H1 h1 => ?_;refine af h1 (N2 e p g σ nx rv t S hi) fun _ H2 h2 => ?_;refine ah (y7 _ _ _ _ _ H2) ?_;refine ai h2 ac rfl ?_;cases hf : (aO σ t).found
 ·refine gs ?_
  cases hla : cr σ (aO σ t)
  ·refine gs ?_
   refine ah (y8 _ _ _ H2) ?_;refine gA (e := e) (p := p) nx rv (aO σ t) eE h2 fun H9 h9 => ?_;exact dN (σ' := aV σ t) (t' := (aO σ t)) (v := rv) (n := eE) (by simp only [am, hat, hf, hla]; rfl) (iD (show t.at' < 7 by omega)) (by show zC t.at' = _; rw [hat]; rfl) hl h9.to
  ·refine gs ?_
   have k2 := bz (p := p) (rp := g.rp) (σ := aV σ t) (R := eB e p nx rv (aO σ t) * (blk b1 (.cells false [vi 0, .slice none 0 0, vi 0, vw 0]) * R)) g rfl hl h2.to;refine af k2 (uA e p g.rp (aV σ t) nx rv (aO σ t) now 5 (by have := S.pts; show σ.pts.length < _; omega)) fun _ H3 h3 => ?_;refine gA (e := e) (p := p) nx rv { aO σ t with at' := 5, code := 5 } eF h3 fun H9 h9 => ?_;exact FU (σ' := (aV σ t).note now (aO σ t).who 5) (t' := { aO σ t with at' := 5, code := 5 }) (v := rv) (n := eF) (by simp only [am, hat, hf, hla]; rfl) (iD (by simp)) rfl h9.to
 ·refine gs ?_
  refine gA (e := e) (p := p) nx rv { aO σ t with at' := 5 } eF h2 fun H9 h9 => ?_;exact dN (σ' := aV σ t) (t' := { aO σ t with at' := 5 }) (v := rv) (n := eF) (by simp only [am, hat, hf]; rfl) (iD (by simp)) rfl hl h9.to
theorem Nn (S : SOk σ) (T : gX σ t) (hat : t.at' = 0) : Sp mi [vp e, vi now] (eP e p rp σ t) (fun _ : Unit => bX (am σ t now)) (fun _ => eQ e p rp (am σ t now)) := by
 have hN : σ.μ.N < 1099511627000 := by have := S.N; omega
 refine bn (IY _ _) fun R H h => ?_;refine bp h fun b H1 h1 => ?_;refine ah (Bp _ _ _ _ H1) ?_;obtain ⟨nx, rv, g, hv, rfl, hl, _, k1⟩ := dI (e := e) (p := p) (rp := rp) (σ := σ) (t := t) (R := blk b (.cells false [vi 0, .slice none 0 0, vi 0, vw 0]) * R) (H := H1) h1.to
 have fin : ∀ code, fg t.x = some code → wp ((FF iU [vp e, vi now, vi code] H1).bind fun r25 =>
  (ag r25.1 0).bind fun v26 =>
  (ag r25.1 1).bind fun v27 =>
  (cB 4 (vp b) v26 r25.2).bind fun H28 =>
  (ay 4 (vp b) H28).bind fun v29 => some (Value.tuple #[v29, v27], H28)) fun v' H' => ∃ x_1 : Unit, v' = bX (am σ t now) ∧ ae (eQ e p g.rp (am σ t now) * R) H' := by
  intro code hx;have k2 := bz (p := p) (rp := g.rp) (σ := σ) (R := eB e p nx rv t * (blk b (.cells false [vi 0, .slice none 0 0, vi 0, vw 0]) * R)) g rfl hl k1.to;refine mG k2 (yp e p g.rp σ nx rv t now code (by have := S.pts; omega)) fun H9 h9 => ?_;exact Bw (σ' := σ.note now t.who code) (t' := { t with code := code }) (by simp only [am, hat, hx]) rfl h9.to
 have scan : fg t.x = none → wp (pZ (vp e) (vi now) (vp b) (vb false) H1) fun v' H' => ∃ x_1 : Unit, v' = bX (am σ t now) ∧ ae (eQ e p g.rp (am σ t now) * R) H' := by
  intro hx
  have hs : am σ t now = gi σ t := by simp only [am, hat, hx, gi]
  rw [hs];refine ah (Bq _ _ _ _ H1) ?_;exact mG h1 (Fs e p g.rp σ t now S T (.inl hat)) fun H9 h9 => ⟨(), rfl, h9.to⟩
 refine ai k1 (b7 (aL (aL aZ))) rfl ?_
 by_cases ha : t.x.a < 1
 ·refine aa (cP ha) ?_
  refine gs ?_;exact fin 3 (by rw [fg, if_pos (.inl ha)])
 ·refine aa (bW ha) ?_
  refine gs ?_;refine ai k1 (b7 (aL (aL aZ))) rfl ?_;refine gs ?_
  by_cases ha2 : 65536 < t.x.a
  ·refine aa (nZ ha2) ?_
   refine gs ?_;exact fin 3 (by rw [fg, if_pos (.inr ha2)])
  ·refine aa (g6 ha2) ?_
   refine gs ?_;refine ai k1 (b7 (aL (aL aZ))) rfl ?_
   by_cases hf : t.x.flow < 0
   ·refine aa (cP hf) ?_
    refine gs ?_;exact fin 5 (by rw [fg, if_neg (by omega), if_pos (.inl hf)])
   ·refine aa (bW hf) ?_
    refine gs ?_;refine ai k1 (b7 (aL (aL aZ))) rfl ?_;refine gs ?_
    by_cases hf2 : 1048576 < t.x.flow
    ·refine aa (nZ hf2) ?_
     refine gs ?_;exact fin 5 (by rw [fg, if_neg (by omega), if_pos (.inr hf2)])
    ·refine aa (g6 hf2) ?_
     refine gs ?_;exact scan (by rw [fg, if_neg (by omega), if_neg (by omega)])
theorem Vl (S : SOk σ) (T : gX σ t) : Sp xo [vp e, vi now] (eP e p rp σ t) (fun _ : Unit => bX (am σ t now)) (fun _ => eQ e p rp (am σ t now)) := by
 refine bn (K9 _ _) fun R H h => ?_;refine bp h fun b H1 h1 => ?_;obtain ⟨rv, hv, k1⟩ := N0 (e := e) (p := p) (rp := rp) (σ := σ) (t := t) (R := blk b (.cells false [vi 0, .slice none 0 0, vi 0, vw 0]) * R) (H := H1) h1.to;refine ai k1 ac rfl ?_;refine ah (show (db (.func (.func (zC t.at')) #[vp e] #[]) [vi now]).bind _ = _ from rfl) ?_
 have hs : Sp (zC t.at') [vp e, vi now] (eP e p rp σ t) (fun _ : Unit => bX (am σ t now)) (fun _ => eQ e p rp (am σ t now)) := by
  rcases T.ats with hat | hat | hat | hat | hat | hat | hat | hat | hat | hat | hat | hat | hat | hat | hat | hat | hat | hat | hat | hat | hat | hat | hat | hat <;> rw [show zC t.at' = _ from by rw [hat]]
  ·exact Nn e p rp σ t now S T hat
  ·have h := Fs e p rp σ t now S T (.inr hat)
   have hs : am σ t now = gi σ t := by simp only [am, hat, gi]
   rw [hs]; exact h
  ·exact T6 e p rp σ t now S T hat
  ·exact Kb e p rp σ t now S T hat
  ·exact Kc e p rp σ t now S T hat
  ·exact T7 e p rp σ t now S T hat
  ·exact Ub e p rp σ t now S T hat
  ·exact T3 e p rp σ t now S T hat
  ·exact Nm e p rp σ t now S T hat
  ·exact YX e p rp σ t now S T hat
  ·exact T9 e p rp σ t now S T hat
  ·exact Nl e p rp σ t now S T hat
  ·exact Ua e p rp σ t now S T hat
  ·exact T0 e p rp σ t now S T hat
  ·exact YY e p rp σ t now S T hat
  ·exact Dh e p rp σ t now S T hat
  ·exact Dg e p rp σ t now S T hat
  ·exact D7 e p rp σ t now S T hat
  ·exact TY e p rp σ t now S T hat
  ·exact No e p rp σ t now S T hat
  ·exact Ig e p rp σ t now S T hat
  ·exact T5 e p rp σ t now S T hat
  ·exact T8 e p rp σ t now S T hat
  ·exact YW e p rp σ t now S T hat
 exact mG h1 hs fun H9 h9 => ⟨(), rfl, h9.to⟩
end
theorem Ui {a b : Nat} {x : Value} {k : Value → OV} {Q : Value → AH → Prop} (h : wp (k undef) Q) : wp (G3 (vb false) true [.n, .f a, .f b] x k) Q := h
theorem Xw {P P2 : SP} {H H2 : AH} {ro ro2 : Bool} {b o : Nat} {cs cs2 : List Value} (h : ae P H) (h2 : ae P2 H2) [i : Hs P b (.cells ro cs)] [i2 : Hs P2 b (.cells ro2 cs2)] (e : cs[o]? = cs2[o]?) : aq (oy b o) H = aq (oy b o) H2 := by
 simp only [aq, sq, dL, bG, i.get h, i2.get h2];exact e
def qM (x : Cl) : Prop := x.flow < 0 ∨ 1048576 < x.flow
instance (x : Cl) : Decidable (qM x) := inferInstanceAs (Decidable (_ ∨ _))
def sA (x : Cl) : Option Int :=
 if x.op = 1 then (if qM x then some 1 else if x.a < 1 ∨ 65536 < x.a then some 4 else if x.b < 1 ∨ 8 < x.b then some 1 else none)
 else if qM x then some 5 else none
def aB (σ : aY) (t : Tk) : Tk :=
 let v := σ.μ.V (10, t.s, (t.i : Int))
 { t with i := if qp v t.x.flow = true then t.i else t.i + 1, found := qp v t.x.flow, obj := if qp v t.x.flow = true then v % 4294967296 else t.obj, mark := if v = 0 ∧ t.mark < 0 then (t.i : Int) else t.mark }
abbrev kS (σ : aY) (t : Tk) : aY := σ.mem (σ.μ.swp t.who (8, t.s, 0) 0 1)
abbrev iE (σ : aY) (t : Tk) : aY := σ.mem ((σ.μ.acc t.who 2 (8, t.s, 0)).put (8, t.s, 0) 0)
def eZ (σ : aY) (t : Tk) : aY × Tk × Bool := (kS σ t, { t with at' := if σ.μ.V (8, t.s, 0) = 0 then 3 else 2 }, false)
abbrev XV (σ : aY) (t : Tk) : Ob := ⟨t.x.flow, t.x.b, max (σ.c.un / t.x.a.toNat) 1⟩
def zY (σ : aY) (t : Tk) (now : Int) : aY × Tk × Bool :=
 match t.at' with
 | 4 => (σ.make t.who (XV σ t), { t with obj := σ.obs.length, at' := 5 }, false)
 | 5 => ((σ.mem ((σ.μ.acc t.who 2 (10, t.s, t.mark)).put (10, t.s, t.mark) (dG t.x.flow t.obj))).note now t.who 0, { t with at' := 6, code := 0 }, false)
 | _ => (iE σ t, t, true)
def fN (σ : aY) (t : Tk) (now : Int) : aY × Tk × Bool :=
 match t.at' with
 | 4 => let w := σ.μ.V (11, (t.obj : Int), 0)
  (cY σ t, { t with w := w, at' := if bv w = 0 then 8 else 5 }, false)
 | 5 => let q := σ.μ.V (2, 0, 0)
  (ed σ t, { t with q := q, at' := if q % 2 = 1 then 4 else 6 }, false)
 | 6 => let w := σ.μ.V (11, (t.obj : Int), 0)
  (cY σ t, { t with w := w, mark := now, at' := if bv w = 0 then 8 else 7 }, false)
 | 7 => if σ.μ.V (2, 0, 0) = t.q then ((ed σ t).note t.mark t.who 8, { t with at' := 10, code := 8 }, false) else (ed σ t, { t with at' := 4 }, false)
 | 8 => let o := aP t.w 2
  let σ1 := σ.mem (σ.μ.turn t.who t.obj t.w o)
  if turned σ.μ t.obj t.w o = true then (σ1.note now t.who 0, { t with at' := 9, code := 0 }, false) else (σ1, { t with at' := 4 }, false)
 | 9 => (σ.mem ((σ.μ.acc t.who 2 (10, t.s, (t.i : Int))).put (10, t.s, (t.i : Int)) 0), { t with at' := 10 }, false)
 | _ => (iE σ t, t, true)
def ax (σ : aY) (t : Tk) (now : Int) : aY × Tk × Bool :=
 match t.at' with
 | 0 => match sA t.x with
  | some e => (σ.note now t.who e, { t with code := e }, true)
  | none => eZ σ t
 | 2 => eZ σ t
 | 3 => let t1 := aB σ t
  if t1.found = true then (if t.x.op = 1 then ((aV σ t).note now t.who 6, { t1 with at' := 6, code := 6 }, false) else (aV σ t, { t1 with at' := 4 }, false))
  else if cr σ t1 = true then
   (if t.x.op = 1 then (if t1.mark < 0 then ((aV σ t).note now t.who 7, { t1 with at' := 6, code := 7 }, false) else (aV σ t, { t1 with at' := 4 }, false))
   else ((aV σ t).note now t.who 5, { t1 with at' := 10, code := 5 }, false))
  else (aV σ t, t1, false)
 | _ => if t.x.op = 1 then zY σ t now else fN σ t now
structure lz (σ : aY) (t : Tk) : Prop where
 s : t.s = (t.x.flow.tmod σ.c.sh + σ.c.sh).tmod σ.c.sh
 i : t.at' < 4 → (t.i : Int) < σ.c.sl
 x : t.at' ≠ 0 → sA t.x = none
 ats : t.at' = 0 ∨ t.at' = 2 ∨ t.at' = 3 ∨ 4 ≤ t.at' ∧ t.at' < 7 ∨ t.x.op ≠ 1 ∧ 7 ≤ t.at' ∧ t.at' < 11
 mark : t.at' = 4 ∨ t.at' = 5 → t.x.op = 1 → 0 ≤ t.mark
 obj : t.at' = 5 ∧ t.x.op = 1 ∨ 4 ≤ t.at' ∧ t.at' < 10 ∧ t.x.op ≠ 1 → t.obj < σ.obs.length
 w : t.w < 18446744073709551616
structure Ek where
 I : Nat
 free : Int
 at' : Int
 obj : Nat
 rv : Value
 w : Nat
 q : Nat
 nw : Int
 told : Int
abbrev rB (e p : Nat) (nx : Value) (t : Tk) (k : Ek) : SP :=
 blk e (.cells false [vp p, vi t.who, vi t.x.op, vi t.x.flow, vi t.x.a, vi t.x.b, vi t.s, nx, vi k.I, vi k.free, vi k.at', vi k.obj, k.rv, vu k.w, vu k.q, vi k.nw, vi k.told])
def fJ (t : Tk) : Nat := if t.x.op = 1 then
    (match t.at' with | 0 => fB | 2 => cG | 3 => bN | 4 => dr | 5 => eR | _ => aK)
 else match t.at' with | 0 => en | 2 => cS | 3 => b8 | 4 => bq | 5 => dO | 6 => ci | 7 => cu | 8 => ca | 9 => dD | _ => aK
def ZL (rp : List Nat) (t : Tk) (k : Ek) : Prop :=
 (t.at' < 4 → k.I = t.i ∧ k.free = t.mark) ∧ (t.x.op = 1 → (t.at' = 4 ∨ t.at' = 5 → k.free = t.mark) ∧ (t.at' = 5 → k.obj = t.obj) ∧ (t.at' = 6 → k.told = t.code)) ∧
 (t.x.op ≠ 1 → (4 ≤ t.at' → t.at' < 10 → k.at' = t.i ∧ ∃ b, rp[t.obj]? = some b ∧ k.rv = vp b) ∧ (t.at' = 6 ∨ t.at' = 7 → k.q = t.q) ∧ (t.at' = 7 → k.nw = t.mark) ∧ (t.at' = 8 → k.w = t.w) ∧ (t.at' = 9 ∨ t.at' = 10 → k.told = t.code))
def rT (e p : Nat) (rp : List Nat) (t : Tk) : SP := ex fun k : Ek => pu (ZL rp t k) * rB e p (eY e (fJ t)) t k
def rU (e p : Nat) (rp : List Nat) (r : aY × Tk × Bool) : SP := if r.2.2 = true then emp else rT e p rp r.2.1
def rQ (e p : Nat) (rp : List Nat) (r : aY × Tk × Bool) (rp' : List Nat) : SP := pu (rp <+: rp') * (rU e p rp' r * aX p rp' r.1)
section
variable {e p : Nat} {rp : List Nat} {g : PIds} {σ σ' : aY} {t t' : Tk} {R P : SP} {H : AH} {r : aY × Tk × Bool} {v : Value} {n : Nat} {c : Int} {k : Ek}
theorem ie (h : ae (rT e p rp t * aX p rp σ * R) H) : ∃ (k : Ek) (g : PIds), ZL rp t k ∧ g.rp = rp ∧ rp.length = σ.obs.length ∧ ae (rB e p (eY e (fJ t)) t k * (az p g σ * R)) H := by
 unfold rT at h;rw [aj] at h;obtain ⟨k, h1⟩ := ae.ex.1 h;rw [aj, ae.pu] at h1;obtain ⟨g, h3, h4, h5⟩ := dt (p := p) (rp := rp) (σ := σ) (R := rB e p (eY e (fJ t)) t k * R) (H := H) h1.2.to;exact ⟨k, g, h1.1, h3, h4, h5.to⟩
theorem gh (hr : r = (σ', t', false)) (hk : ZL g.rp t' k) (hn : fJ t' = n) (hl : g.rp.length = σ'.obs.length) (hp : rp <+: g.rp) (h : ae (rB e p (eY e n) t' k * (az p g σ' * R)) H) :
 ∃ x : List Nat, (.tuple #[.agg (gW 0).toArray, vb false]) = bX r ∧ ae (rQ e p rp r x * R) H := by
 subst hr hn;refine ⟨g.rp, rfl, ?_⟩;unfold rQ;rw [aj];refine ae.pu.2 ⟨hp, ?_⟩;have h1 := bz (p := p) (rp := g.rp) (σ := σ') (R := rB e p (eY e (fJ t')) t' k * R) g rfl hl h.to;rw [show rU e p g.rp (σ', t', false) = rT e p g.rp t' from by unfold rU; rw [if_neg (by simp)]];unfold rT;rw [aj];refine ae.ex.2 ⟨k, ?_⟩;rw [aj];exact ae.pu.2 ⟨hk, h1.to⟩
theorem Yp (hr : r = (σ', t', true)) (hc : t'.code = c) (hl : g.rp.length = σ'.obs.length) (hp : rp <+: g.rp) (h : ae (az p g σ' * R) H) :
 ∃ x : List Nat, (.tuple #[.agg (gW c).toArray, vb true]) = bX r ∧ ae (rQ e p rp r x * R) H := by
 subst hr hc;refine ⟨g.rp, rfl, ?_⟩;unfold rQ;rw [aj];refine ae.pu.2 ⟨hp, ?_⟩;have h1 := bz (p := p) (rp := g.rp) (σ := σ') (R := R) g rfl hl h.to;rw [show rU e p g.rp (σ', t', true) = emp from by unfold rU; rw [if_pos rfl], gF];exact h1
theorem gj (nx : Value) (t' : Tk) (k : Ek) (n : Nat) {b : Nat} {Q : Value → AH → Prop} (h : ae P H) [fr : Fr P (rB e p nx t' k * blk b (.cells false [vi 0, .slice none 0 0, vi 0, vw 0])) R]
 (hk : ∀ H', ae (rB e p (eY e n) t' k * R) H' → Q (.tuple #[.agg (gW 0).toArray, vb false]) H') :
 wp ((FF bd [vp e, eY e n] H).bind fun r2 => (ag r2.1 0).bind fun v3 => (ag r2.1 1).bind fun v4 => (cB 4 (vp b) v3 r2.2).bind fun H5 => (ay 4 (vp b) H5).bind fun v6 => some (Value.tuple #[v6, v4], H5)) Q := by
 have on : Sp bd [vp e, eY e n] (rB e p nx t' k) (fun _ : Unit => .tuple #[.agg (gW 0).toArray, vb false]) (fun _ => rB e p (eY e n) t' k) := by
  refine bn (D3 _ _) fun R H h => ?_;refine bp h fun b H1 h1 => ?_;refine bg h1 ac rfl rfl fun H2 h2 => ?_;refine iW ?_;refine eW h2 rfl rfl fun H3 h3 => ?_;refine aW h3 ?_;exact ap ⟨(), rfl, h3.to⟩
 exact mG h on hk
end
section
variable (e p : Nat) (rp : List Nat) (g : PIds) (σ : aY) (t : Tk) (k : Ek) (nx : Value) (now : Int)
theorem mE (code : Int) (hp : σ.pts.length < 1000000) (hl : g.rp.length = σ.obs.length) : Sp cT [vp e, vi now, vi code] (rB e p nx t k * az p g σ) (fun _ : PIds => .tuple #[]) (fun g' => pu (g'.rp = g.rp) * (rB e p nx t { k with told := code } * az p g' (σ.note now t.who code))) := by
 refine bn (z5 _ _ _) fun R H h => ?_;refine bg h ac rfl rfl fun H0 h0 => ?_;refine ai h0 ac rfl ?_;refine ai h0 ac rfl ?_;refine iW ?_;have h1 := bz (p := p) (rp := g.rp) (σ := σ) (R := rB e p nx t { k with told := code } * R) g rfl hl h0.to;refine af h1 (adM p g.rp σ now t.who code hp) fun _ H2 h2 => ?_;obtain ⟨g', hg', _, h3⟩ := dt (p := p) (rp := g.rp) (σ := σ.note now t.who code) (R := rB e p nx t { k with told := code } * R) (H := H2) h2.to;refine ap ⟨g', rfl, ?_⟩;rw [aj];exact ae.pu.2 ⟨hg', h3.to⟩
theorem Kh (u : Nat) (w : Int) (hu : 1 ≤ u ∧ u ≤ 4611686018427387904) (hw : 1 ≤ w ∧ w ≤ 65536) : Sp nJ [vu u, vi w] emp (fun _ : Unit => .tuple #[vu (max (u / w.toNat) 1), vb true]) (fun _ => emp) := by
 refine bn (Dm _ _) fun R H h => ?_;refine aa (bW (by omega)) ?_;refine gs ?_;refine aa (g6 ?_) ?_
 ·omega
 refine gs ?_;refine aa (bW ?_) ?_
 ·omega
 refine gs ?_;refine aa (g6 ?_) ?_
 ·omega
 refine gs ?_;refine aa (d5 (by omega) (by omega)) ?_;refine aa (wJ (by omega) (by omega)) ?_;refine aa (adH (b := 1)) ?_;exact ap ⟨(), rfl, ae.to (by assumption)⟩
theorem agI (who : Int) (o : Ob) (hE : σ.μ.N < 1099511627000) (ho : σ.obs.length < 1000000) (hg : g.rp.length = σ.obs.length) : Sp dU [vp p, vi who, .agg (#[vi o.flow, vi o.most, vu o.r] : Array Value)] (az p g σ) (fun _ : PIds => vi σ.obs.length) (fun g' => pu (g.rp <+: g'.rp ∧ g'.rp.length = σ.obs.length + 1) * az p g' (σ.make who o)) := by
 have hz : ((σ.obs.map fun x => x.1).zip g.rp).length = σ.obs.length := by simp [hg]
 refine aJ fun R H h0 => ?_;unfold az at h0;refine bm (fun r => kX _ _ _ H) ?_;refine be (l := [vi o.flow, vi o.most, vu o.r]) h0 fun ob H1 h1 => ?_;refine ai h1 ac rfl ?_;refine rn (s := g.ov) h1 ?_;rw [hz];refine ai h1 ac rfl ?_;refine iW ?_;refine af h1 ((rY g.m σ.μ who (13, σ.obs.length, 0) (by omega)).imp fun _ R H h => jb (N' := σ.μ.N + 2) (by simp) h) fun _ H2 h2 => ?_;refine bA ac ?_;refine aN h2 rfl ?_;refine aW h2 ?_;refine ai h2 ac rfl ?_;refine ai h2 aD rfl ?_;refine af h2 (J2 g.m σ.obs.length o.most) fun rb H3 h3 => ?_;refine aH h3 h2 rfl ?_;refine dQ h3 h2 rfl ?_;refine iW ?_;refine KI h3 fun b0 H4 h4 => ?_;refine ig ((o, rb) : Ob × Nat) h4 rfl ?_ (by omega) fun a cc H5 h5 => ?_
 ·unfold dc; omega
 refine bg h5 ac rfl rfl fun H6 h6 => ?_;refine ap ⟨{ g with ov := .slice a (((σ.obs.map fun x => x.1).zip g.rp).length + 1) cc, rp := g.rp ++ [rb] }, rfl, ?_⟩;rw [aj];refine ae.pu.2 ⟨⟨List.prefix_append _ _, by simp [hg]⟩, ?_⟩;unfold az aY.make;dsimp only
 have e1 : ((σ.obs ++ [(o, List.replicate (eb o.most) It)]).map fun x => x.1).zip (g.rp ++ [rb]) = ((σ.obs.map fun x => x.1).zip g.rp) ++ [(o, rb)] := by
  rw [Hc, List.zip_append (by simp [hg])]
  rfl
 have e2 : (g.rp ++ [rb]).zip ((σ.obs ++ [(o, List.replicate (eb o.most) It)]).map fun x => x.2) = (g.rp.zip (σ.obs.map fun x => x.2)) ++ [(rb, List.replicate (eb o.most) It)] := by
  rw [Hc, List.zip_append (by simp [hg])]
  rfl
 have e3 : 0 + (g.rp.zip (σ.obs.map fun x => x.2)).length = σ.obs.length := by simp [hg]
 rw [e1, e2, yM, e3];exact h6.to
theorem Ql (S : SOk σ) (hi : (t.i : Int) < σ.c.sl) (hI : k.I = t.i) (hfr : k.free = t.mark) :
 Sp j6 [vp e] (rB e p nx t k * az p g σ) (fun _ : Unit => .tuple #[vb (aB σ t).found, vb (decide (σ.c.sl ≤ ((t.i + 1 : Nat) : Int)))])
  (fun _ => rB e p nx t { k with I := t.i + 1, free := (aB σ t).mark, at' := t.i, obj := σ.μ.V (10, t.s, (t.i : Int)) % 4294967296 } * az p g (aV σ t)) := by
 have hc := bF.1 S.c;refine bn (CZ _) fun R H h => ?_;refine ai h ac rfl ?_;refine ai h ac rfl ?_;refine ai h ac rfl ?_;refine ai h ac rfl ?_;refine ai h ac rfl ?_;rw [hI];refine af h (ui (p := p) (g := g) (σ := σ) (yR g.tb g.m σ.c.sh.toNat σ.c.sl.toNat σ.μ t.who t.s t.i (by have := S.N; omega) (S.V _))) fun _ H1 h1 => ?_;obtain ⟨v, hv⟩ : ∃ v, v = σ.μ.V (10, t.s, (t.i : Int)) := ⟨_, rfl⟩;rw [← hv];have fin : ∀ (y2 y3 fl : Value) (is : Bool) (k1 : Ek) (H' : AH), k1.I = t.i → (is = true → fl = vi ((v / 4294967296 : Nat) - 1)) → (aB σ t).found = (is && decide (((v / 4294967296 : Nat) : Int) - 1 = t.x.flow)) →
  { k1 with I := t.i + 1, at' := t.i, obj := v % 4294967296 } = { k with I := t.i + 1, free := (aB σ t).mark, at' := t.i, obj := v % 4294967296 } →
  ae (rB e p nx t k1 * (az p g (aV σ t) * R)) H' → wp (jq (vp e) y2 y3 fl (vi ((v % 4294967296 : Nat) : Int)) (vb is) H') fun v' H' => ∃ _x : Unit, v' = .tuple #[vb (aB σ t).found, vb (decide (σ.c.sl ≤ ((t.i + 1 : Nat) : Int)))] ∧
   ae (rB e p nx t { k with I := t.i + 1, free := (aB σ t).mark, at' := t.i, obj := v % 4294967296 } * az p g (aV σ t) * R) H' := by
  intro y2 y3 fl is k1 H' hi1 hfl hfd hke h';refine ah (wb ..) ?_;refine ai h' ac rfl ?_;rw [hi1];refine bg h' ac rfl rfl fun H2 h2 => ?_;refine bg h2 ac rfl rfl fun H3 h3 => ?_;refine ai h3 ac rfl ?_;rw [hi1];refine aa (aR (by omega) (by omega)) ?_;rw [show ((t.i : Nat) : Int) + 1 = ((t.i + 1 : Nat) : Int) from by omega];refine bg h3 ac rfl rfl fun H4 h4 => ?_
  have h5 : ae (rB e p nx t { k with I := t.i + 1, free := (aB σ t).mark, at' := t.i, obj := v % 4294967296 } * (az p g (aV σ t) * R)) H4 := by
   rw [← hke];exact h4.to
  have tail : ∀ (b : Bool) (x10 : Value) (H4 : AH), (aB σ t).found = b → ae (rB e p nx t { k with I := t.i + 1, free := (aB σ t).mark, at' := t.i, obj := v % 4294967296 } * (az p g (aV σ t) * R)) H4 → (∀ H8, ae (rB e p nx t { k with I := t.i + 1, free := (aB σ t).mark, at' := t.i, obj := v % 4294967296 } * (az p g (aV σ t) * R)) H8 → aq x10 H8 = aq x10 H4) → wp (ad [.n, .f 8] (vp e) fun v14 =>
   (aq v14 H4).bind fun v15 =>
   ld [.n, .f 0] (vp e) H4 fun v16 =>
   ld [.n, .f 2] v16 H4 fun v17 =>
   (FF dF [v17] H4).bind fun r18 =>
   bS (aq x10 r18.2) (aq x10 H4) <|
   bS (aq v14 r18.2) (aq v14 H4) <|
   (ak .other .geq v15 r18.1).bind fun v19 =>
   some (Value.tuple #[vb b, v19], r18.2)) fun v' H' => ∃ _x : Unit, v' = .tuple #[vb (aB σ t).found, vb (decide (σ.c.sl ≤ ((t.i + 1 : Nat) : Int)))] ∧
   ae (rB e p nx t { k with I := t.i + 1, free := (aB σ t).mark, at' := t.i, obj := v % 4294967296 } * az p g (aV σ t) * R) H' := by
   intro b x10 H4 hb h5 hx;refine bA ac ?_;refine aN h5 rfl ?_;refine ai h5 ac rfl ?_;refine ai h5 ac rfl ?_;refine af h5 (FE (p := p) (g := g) (σ := aV σ t) (yS g.tb g.m σ.c.sh.toNat σ.c.sl.toNat)) fun _ H6 h6 => ?_;refine wC (hx H6 h6.to) ?_;refine aH h6 h5 (by rfl) ?_;refine aa (v := vb (decide (σ.c.sl ≤ ((t.i + 1 : Nat) : Int)))) ?_ ?_
   ·show ak _ .geq (vi ((t.i + 1 : Nat) : Int)) _ = _
    rw [rC]
    congr 3
    apply propext;omega
   exact ap ⟨(), by rw [hb], h6.to⟩
  cases is with
  | false =>
   refine gs ?_;refine Ui ?_;refine gs ?_;exact tail false _ H4 (by rw [hfd]; rfl) h5 (fun _ _ => rfl)
  | true =>
   rw [hfl rfl];refine gs ?_;refine oz ?_;refine bA (b7 (aL (aL aZ))) ?_;refine gs ?_;refine aN h5 rfl ?_;refine gs ?_
   by_cases hf : ((v / 4294967296 : Nat) : Int) - 1 = t.x.flow
   ·refine aa (ba hf) ?_
    refine gs ?_;exact tail true _ H4 (by rw [hfd, fj hf]; rfl) h5 (fun H8 h8 => Xw h8 h5 rfl)
   ·refine aa (aC hf) ?_
    refine gs ?_;exact tail false _ H4 (by rw [hfd, ez hf]; rfl) h5 (fun H8 h8 => Xw h8 h5 rfl)
 by_cases hv0 : v = 0
 ·have e1 : g8 v = .tuple #[vi 0, vi 0, vb false] := by rw [g8, if_pos hv0]
  rw [e1];refine aa (v := vi 0) rfl ?_;refine aa (v := vi 0) rfl ?_;refine aa (v := vb false) rfl ?_;refine ah (nh ..) ?_;refine gs ?_;rw [Bool.not_false];refine gs ?_;refine ai h1 ac rfl ?_;refine gs ?_
  have hfd : (aB σ t).found = (false && decide (((v / 4294967296 : Nat) : Int) - 1 = t.x.flow)) := by
   show qp (σ.μ.V (10, t.s, (t.i : Int))) t.x.flow = _;rw [← hv, hv0]
   rfl
  have e0 : vi (0 : Int) = vi ((v % 4294967296 : Nat) : Int) := by rw [hv0]; rfl
  by_cases hm : k.free < 0
  ·refine aa (cP hm) ?_
   refine gs ?_;refine ai h1 ac rfl ?_;refine bg h1 ac rfl rfl fun H2 h2 => ?_
   have em : (aB σ t).mark = t.i := by
    show (if σ.μ.V (10, t.s, (t.i : Int)) = 0 ∧ t.mark < 0 then (t.i : Int) else t.mark) = _;rw [if_pos ⟨by rw [← hv, hv0], by rw [← hfr]; exact hm⟩]
   rw [e0];refine fin _ _ _ false { k with free := t.i } H2 hI (fun h => by cases h) hfd (by rw [em]) ?_;rw [← hI];exact h2.to
  ·refine aa (bW hm) ?_
   refine gs ?_
   have em : (aB σ t).mark = k.free := by
    show (if σ.μ.V (10, t.s, (t.i : Int)) = 0 ∧ t.mark < 0 then (t.i : Int) else t.mark) = _;rw [if_neg (fun h => hm (by rw [hfr]; exact h.2)), hfr]
   rw [e0];exact fin _ _ _ false k H1 hI (fun h => by cases h) hfd (by rw [em]) h1.to
 ·have e1 : g8 v = .tuple #[vi ((v / 4294967296 : Nat) - 1), vi (v % 4294967296 : Nat), vb true] := by rw [g8, if_neg hv0]
  rw [e1];refine aa (v := vi ((v / 4294967296 : Nat) - 1)) rfl ?_;refine aa (v := vi (v % 4294967296 : Nat)) rfl ?_;refine aa (v := vb true) rfl ?_;refine ah (nh ..) ?_;refine gs ?_;rw [Bool.not_true];refine gs ?_
  have hfd : (aB σ t).found = (true && decide (((v / 4294967296 : Nat) : Int) - 1 = t.x.flow)) := by
   show qp (σ.μ.V (10, t.s, (t.i : Int))) t.x.flow = _;rw [← hv];simp [qp, hv0]
  have em : (aB σ t).mark = k.free := by
   show (if σ.μ.V (10, t.s, (t.i : Int)) = 0 ∧ t.mark < 0 then (t.i : Int) else t.mark) = _;rw [if_neg (fun h => hv0 (hv.trans h.1)), hfr]
  exact fin _ _ _ true k H1 hI (fun _ => rfl) hfd (by rw [em]) h1.to
end
theorem s5 {rp : List Nat} {t : Tk} {k : Ek} (ha : t.at' < 4) (h : k.I = t.i ∧ k.free = t.mark) : ZL rp t k :=
 ⟨fun _ => h, fun _ => ⟨fun h => by omega, fun h => by omega, fun h => by omega⟩, fun _ => ⟨fun h _ => by omega, fun h => by omega, fun h => by omega, fun h => by omega, fun h => by omega⟩⟩
theorem Iv {rp : List Nat} {t : Tk} {k : Ek} (ho : t.x.op = 1) (ha : 4 ≤ t.at') (h4 : t.at' = 4 ∨ t.at' = 5 → k.free = t.mark) (h5 : t.at' = 5 → k.obj = t.obj) (h6 : t.at' = 6 → k.told = t.code) : ZL rp t k :=
 ⟨fun h => by omega, fun _ => ⟨h4, h5, h6⟩, fun h => absurd ho h⟩
theorem sE {rp : List Nat} {t : Tk} {k : Ek} {b : Nat} (ho : t.x.op ≠ 1) (ha : 4 ≤ t.at') (h1 : k.at' = t.i) (h2 : rp[t.obj]? = some b) (h3 : k.rv = vp b) (hq : t.at' = 6 ∨ t.at' = 7 → k.q = t.q) (hn : t.at' = 7 → k.nw = t.mark) (hw : t.at' = 8 → k.w = t.w) (hb : t.at' < 10) (ht : t.at' = 9 → k.told = t.code) : ZL rp t k :=
 ⟨fun h => by omega, fun h => absurd h ho, fun _ => ⟨fun _ _ => ⟨h1, b, h2, h3⟩, hq, hn, hw, fun h => ht (by omega)⟩⟩
theorem UF {rp : List Nat} {t : Tk} {k : Ek} (ho : t.x.op ≠ 1) (ha : t.at' = 10) (h : k.told = t.code) : ZL rp t k :=
 ⟨fun h => by omega, fun h => absurd h ho, fun _ => ⟨fun _ _ => by omega, fun h => by omega, fun h => by omega, fun h => by omega, fun _ => h⟩⟩
section
variable (e p : Nat) (rp : List Nat) (σ : aY) (t : Tk) (now : Int)
theorem Fd (S : SOk σ) (T : lz σ t) (ho : t.x.op = 1) (hat : t.at' < 4) : Sp cG [vp e, vi now] (rT e p rp t * aX p rp σ) (fun _ : List Nat => bX (eZ σ t)) (fun x => rQ e p rp (eZ σ t) x) := by
 have hN : σ.μ.N < 1099511627000 := by have := S.N; omega
 refine aJ fun R H h => ?_;obtain ⟨k, g, hk, rfl, hl, h0⟩ := ie h;refine bm (fun r => xW _ _ H) ?_;refine bp h0 fun b1 H1 h1 => ?_;refine ai h1 ac rfl ?_;refine ai h1 ac rfl ?_;refine ai h1 ac rfl ?_;refine ai h1 ac rfl ?_;refine af h1 (ui (p := p) (g := g) (σ := σ) (uc g.tb g.m σ.c.sh.toNat σ.c.sl.toNat σ.μ t.who t.s hN)) fun _ H2 h2 => ?_
 by_cases hw : σ.μ.V (8, t.s, 0) = 0
 ·rw [fj hw]
  refine gs ?_;rw [Bool.not_true];refine gs ?_;refine gj (e := e) (p := p) (eY e (fJ t)) t (k) bN h2 fun H9 h9 => ?_;exact gh (g := g) (σ' := kS σ t) (t' := { t with at' := 3 }) (k := k) (n := bN) (by unfold eZ; rw [if_pos hw]) (s5 (by simp) (hk.1 hat)) (by simp [fJ, aB, ho]) hl (kz _) (show ae (rB e p (eY e bN) t (k) * (az p g (kS σ t) * R)) H9 from h9.to)
 ·rw [ez hw]
  refine gs ?_;rw [Bool.not_false];refine gs ?_;refine gj (e := e) (p := p) (eY e (fJ t)) t (k) cG h2 fun H9 h9 => ?_;exact gh (g := g) (σ' := kS σ t) (t' := { t with at' := 2 }) (k := k) (n := cG) (by unfold eZ; rw [if_neg hw]) (s5 (by simp) (hk.1 hat)) (by simp [fJ, aB, ho]) hl (kz _) (show ae (rB e p (eY e cG) t (k) * (az p g (kS σ t) * R)) H9 from h9.to)
theorem JY (S : SOk σ) (T : lz σ t) (ho : t.x.op ≠ 1) (hat : t.at' < 4) : Sp cS [vp e, vi now] (rT e p rp t * aX p rp σ) (fun _ : List Nat => bX (eZ σ t)) (fun x => rQ e p rp (eZ σ t) x) := by
 have hN : σ.μ.N < 1099511627000 := by have := S.N; omega
 refine aJ fun R H h => ?_;obtain ⟨k, g, hk, rfl, hl, h0⟩ := ie h;refine bm (fun r => z2 _ _ H) ?_;refine bp h0 fun b1 H1 h1 => ?_;refine ai h1 ac rfl ?_;refine ai h1 ac rfl ?_;refine ai h1 ac rfl ?_;refine ai h1 ac rfl ?_;refine af h1 (ui (p := p) (g := g) (σ := σ) (uc g.tb g.m σ.c.sh.toNat σ.c.sl.toNat σ.μ t.who t.s hN)) fun _ H2 h2 => ?_
 by_cases hw : σ.μ.V (8, t.s, 0) = 0
 ·rw [fj hw]
  refine gs ?_;rw [Bool.not_true];refine gs ?_;refine gj (e := e) (p := p) (eY e (fJ t)) t (k) b8 h2 fun H9 h9 => ?_;exact gh (g := g) (σ' := kS σ t) (t' := { t with at' := 3 }) (k := k) (n := b8) (by unfold eZ; rw [if_pos hw]) (s5 (by simp) (hk.1 hat)) (by simp [fJ, aB, ho]) hl (kz _) (show ae (rB e p (eY e b8) t (k) * (az p g (kS σ t) * R)) H9 from h9.to)
 ·rw [ez hw]
  refine gs ?_;rw [Bool.not_false];refine gs ?_;refine gj (e := e) (p := p) (eY e (fJ t)) t (k) cS h2 fun H9 h9 => ?_;exact gh (g := g) (σ' := kS σ t) (t' := { t with at' := 2 }) (k := k) (n := cS) (by unfold eZ; rw [if_neg hw]) (s5 (by simp) (hk.1 hat)) (by simp [fJ, aB, ho]) hl (kz _) (show ae (rB e p (eY e cS) t (k) * (az p g (kS σ t) * R)) H9 from h9.to)
theorem yJ (g : PIds) (k : Ek) (nx : Value) : Sp gc [vp e] (rB e p nx t k) (fun _ : Unit => vb (decide (qM t.x))) (fun _ => rB e p nx t k) := by
 refine bn (t8 _) fun R H h => ?_;refine ai h (b7 (aL (aL aZ))) rfl ?_
 by_cases hf : t.x.flow < 0
 ·rw [show decide (qM t.x) = true from fj (.inl hf)]
  refine aa (cP hf) ?_;refine gs ?_;exact ap ⟨(), rfl, h⟩
 ·refine aa (bW hf) ?_
  refine gs ?_;refine ai h (b7 (aL (aL aZ))) rfl ?_;refine gs ?_
  by_cases hf2 : 1048576 < t.x.flow
  ·rw [show decide (qM t.x) = true from fj (.inr hf2)]
   refine aa (nZ hf2) ?_;refine gs ?_;exact ap ⟨(), rfl, h⟩
  ·rw [show decide (qM t.x) = false from ez (fun h => h.elim hf hf2)]
   refine aa (g6 hf2) ?_;refine gs ?_;exact ap ⟨(), rfl, h⟩
theorem MZ (g : PIds) (k : Ek) (nx : Value) (code : Int) (hp : σ.pts.length < 1000000) (hl : g.rp.length = σ.obs.length) : Sp dh [vp e, vi now, vi code] (rB e p nx t k * az p g σ) (fun _ : Unit => .tuple #[.agg (gW code).toArray, vb true]) (fun _ => ex fun g' : PIds => pu (g'.rp = g.rp) * az p g' (σ.note now t.who code)) := by
 refine bn (wc _ _ _) fun R H h => ?_;refine bp h fun b H1 h1 => ?_;refine af h1 (mE e p g σ t k nx now code hp hl) fun g' H2 h2 => ?_;rw [aj, ae.pu] at h2;obtain ⟨hg', h2⟩ := h2;refine iW ?_;refine eW h2 rfl rfl fun H4 h4 => ?_;refine aW h4 ?_;refine ap ⟨(), rfl, ae.ex.2 ⟨g', ?_⟩⟩;rw [aj];exact ae.pu.2 ⟨hg', h4.to⟩
theorem lQ {R : SP} {H : AH} {g : PIds} {k : Ek} {nx : Value} {b : Nat} (code : Int) (S : SOk σ) (hl : g.rp.length = σ.obs.length) (hx : sA t.x = some code) (h : ae (rB e p nx t k * (az p g σ * (blk b (.cells false [vi 0, .slice none 0 0, vi 0, vw 0]) * R))) H) (hat : t.at' = 0) :
 wp ((FF dh [vp e, vi now, vi code] H).bind fun r2 => (ag r2.1 0).bind fun v3 => (ag r2.1 1).bind fun v4 => (cB 4 (vp b) v3 r2.2).bind fun H5 => (ay 4 (vp b) H5).bind fun v6 => some (Value.tuple #[v6, v4], H5)) fun v' H' => ∃ x : List Nat, v' = bX (ax σ t now) ∧ ae (rQ e p g.rp (ax σ t now) x * R) H' := by
 refine mG h (MZ e p σ t now g k nx code (by have := S.pts; omega) hl) fun H9 h9 => ?_;obtain ⟨g', h1⟩ := ae.ex.1 h9;rw [aj, ae.pu] at h1
 have hs : ax σ t now = (σ.note now t.who code, { t with code := code }, true) := by simp only [ax, hat, hx]
 have := Yp (e := e) (p := p) (rp := g.rp) (g := g') (r := ax σ t now) (σ' := σ.note now t.who code) (t' := { t with code := code }) (R := R) (H := H9) hs rfl (by rw [h1.1]; exact hl) (by rw [h1.1]; exact kz _) h1.2.to;exact this
theorem mD {x : Cl} (ho : x.op = 1) : sA x = if qM x then some 1 else if x.a < 1 ∨ 65536 < x.a then some 4 else if x.b < 1 ∨ 8 < x.b then some 1 else none := if_pos ho
theorem CX {x : Cl} (ho : x.op ≠ 1) : sA x = if qM x then some 5 else none := if_neg ho
theorem v8 {k : Ek} {g : PIds} {R : SP} {H : AH} (hk : ZL g.rp t k) (hl : g.rp.length = σ.obs.length) (h : ae (rB e p (eY e (fJ t)) t k * (az p g σ * R)) H) : ae (rT e p g.rp t * aX p g.rp σ * R) H := by
 have h1 := bz (p := p) (rp := g.rp) (σ := σ) (R := rB e p (eY e (fJ t)) t k * R) g rfl hl h.to;unfold rT;rw [aj];refine ae.ex.2 ⟨k, ?_⟩;rw [aj];exact ae.pu.2 ⟨hk, h1.to⟩
theorem Ik {e p : Nat} {rp : List Nat} {r : aY × Tk × Bool} {P0 R : SP} {H : AH} {b fn : Nat} {args : List Value} (h : ae (P0 * (blk b (.cells false [vi 0, .slice none 0 0, vi 0, vw 0]) * R)) H)
 (s : Sp fn args P0 (fun _ : List Nat => bX r) (fun x => rQ e p rp r x)) :
 wp ((FF fn args H).bind fun r2 => (ag r2.1 0).bind fun v3 => (ag r2.1 1).bind fun v4 => (cB 4 (vp b) v3 r2.2).bind fun H5 => (ay 4 (vp b) H5).bind fun v6 => some (Value.tuple #[v6, v4], H5)) fun v' H' => ∃ x : List Nat, v' = bX r ∧ ae (rQ e p rp r x * R) H' := by
 refine af h s fun y H2 h2 => ?_;refine aa (v := .agg (gW (if r.2.2 = true then r.2.1.code else 0)).toArray) rfl ?_;refine aa (v := vb r.2.2) rfl ?_;refine eW h2 rfl rfl fun H3 h3 => ?_;refine aW h3 ?_;exact ap ⟨y, rfl, h3.to⟩
theorem Yz (S : SOk σ) (T : lz σ t) (ho : t.x.op = 1) (hat : t.at' = 0) : Sp fB [vp e, vi now] (rT e p rp t * aX p rp σ) (fun _ : List Nat => bX (ax σ t now)) (fun x => rQ e p rp (ax σ t now) x) := by
 refine aJ fun R H h => ?_;obtain ⟨k, g, hk, rfl, hl, h0⟩ := ie h;refine bm (fun r => z0 _ _ H) ?_;refine bp h0 fun b1 H1 h1 => ?_;refine ah (t4 ..) ?_;refine af h1 (yJ e p t g k (eY e (fJ t))) fun _ H2 h2 => ?_
 by_cases hf : qM t.x
 ·rw [fj hf]
  refine gs ?_;exact lQ e p σ t now (k := k) (nx := eY e (fJ t)) 1 S hl (by rw [mD ho, if_pos hf]) h2.to hat
 rw [ez hf];refine gs ?_;refine ai h2 (b7 (aL (aL aZ))) rfl ?_
 have bad : (t.x.a < 1 ∨ 65536 < t.x.a) → sA t.x = some 4 := fun h => by rw [mD ho, if_neg hf, if_pos h]
 by_cases ha : t.x.a < 1
 ·refine aa (cP ha) ?_
  refine gs ?_;exact lQ e p σ t now (k := k) (nx := eY e (fJ t)) 4 S hl (bad (.inl ha)) h2.to hat
 refine aa (bW ha) ?_;refine gs ?_;refine ai h2 (b7 (aL (aL aZ))) rfl ?_;refine gs ?_
 by_cases ha2 : 65536 < t.x.a
 ·refine aa (nZ ha2) ?_
  refine gs ?_;exact lQ e p σ t now (k := k) (nx := eY e (fJ t)) 4 S hl (bad (.inr ha2)) h2.to hat
 refine aa (g6 ha2) ?_;refine gs ?_;refine ai h2 (b7 (aL (aL aZ))) rfl ?_
 have bad2 : (t.x.b < 1 ∨ 8 < t.x.b) → sA t.x = some 1 := fun h => by rw [mD ho, if_neg hf, if_neg (by omega), if_pos h]
 by_cases hb : t.x.b < 1
 ·refine aa (cP hb) ?_
  refine gs ?_;exact lQ e p σ t now (k := k) (nx := eY e (fJ t)) 1 S hl (bad2 (.inl hb)) h2.to hat
 refine aa (bW hb) ?_;refine gs ?_;refine ai h2 (b7 (aL (aL aZ))) rfl ?_;refine gs ?_
 by_cases hb2 : 8 < t.x.b
 ·refine aa (nZ hb2) ?_
  refine gs ?_;exact lQ e p σ t now (k := k) (nx := eY e (fJ t)) 1 S hl (bad2 (.inr hb2)) h2.to hat
 refine aa (g6 hb2) ?_;refine gs ?_;refine ah (t5 ..) ?_
 have hx : sA t.x = none := by rw [mD ho, if_neg hf, if_neg (by omega), if_neg (by omega)]
 have hs : ax σ t now = eZ σ t := by simp only [ax, hat, hx]
 have h3 : ae (rT e p g.rp t * aX p g.rp σ * (blk b1 (.cells false [vi 0, .slice none 0 0, vi 0, vw 0]) * R)) H2 := v8 e p σ t hk hl h2.to;rw [hs];exact Ik h3 (Fd e p g.rp σ t now S T ho (by omega))
theorem TK (S : SOk σ) (T : lz σ t) (ho : t.x.op ≠ 1) (hat : t.at' = 0) : Sp en [vp e, vi now] (rT e p rp t * aX p rp σ) (fun _ : List Nat => bX (ax σ t now)) (fun x => rQ e p rp (ax σ t now) x) := by
 refine aJ fun R H h => ?_;obtain ⟨k, g, hk, rfl, hl, h0⟩ := ie h;refine bm (fun r => xX _ _ H) ?_;refine bp h0 fun b1 H1 h1 => ?_;refine af h1 (yJ e p t g k (eY e (fJ t))) fun _ H2 h2 => ?_
 by_cases hf : qM t.x
 ·rw [fj hf]
  refine gs ?_;exact lQ e p σ t now (k := k) (nx := eY e (fJ t)) 5 S hl (by rw [CX ho, if_pos hf]) h2.to hat
 rw [ez hf];refine gs ?_
 have hx : sA t.x = none := by rw [CX ho, if_neg hf]
 have hs : ax σ t now = eZ σ t := by simp only [ax, hat, hx]
 have h3 : ae (rT e p g.rp t * aX p g.rp σ * (blk b1 (.cells false [vi 0, .slice none 0 0, vi 0, vw 0]) * R)) H2 := v8 e p σ t hk hl h2.to;rw [hs];exact Ik h3 (JY e p g.rp σ t now S T ho (by omega))
theorem M0 (S : SOk σ) (T : lz σ t) (ho : t.x.op = 1) (hat : t.at' = 3) : Sp bN [vp e, vi now] (rT e p rp t * aX p rp σ) (fun _ : List Nat => bX (ax σ t now)) (fun x => rQ e p rp (ax σ t now) x) := by
 have hN : σ.μ.N < 1099511627000 := by have := S.N; omega
 refine aJ fun R H h => ?_;obtain ⟨k, g, hk, rfl, hl, h0⟩ := ie h;refine bm (fun r => we _ _ H) ?_;refine bp h0 fun b1 H1 h1 => ?_;have hi := T.i (by omega);obtain ⟨hI, hfr⟩ := hk.1 (by omega);refine af h1 (Ql e p g σ t k (eY e (fJ t)) S hi hI hfr) fun _ H2 h2 => ?_;obtain ⟨k2, hk2⟩ : ∃ k2 : Ek, k2 = { k with I := t.i + 1, free := (aB σ t).mark, at' := t.i, obj := σ.μ.V (10, t.s, (t.i : Int)) % 4294967296 } := ⟨_, rfl⟩;rw [← hk2] at h2;refine aa (v := vb (aB σ t).found) rfl ?_;refine aa (v := vb (decide (σ.c.sl ≤ ((t.i + 1 : Nat) : Int)))) rfl ?_;refine ah (qZ ..) ?_
 cases hfd : (aB σ t).found with
 | true =>
  refine gs ?_;refine af h2 (mE e p g (aV σ t) t k2 (eY e (fJ t)) now 6 (by have := S.pts; show σ.pts.length < _; omega) hl) fun g' H3 h3 => ?_;rw [aj, ae.pu] at h3;obtain ⟨hg', h3⟩ := h3;refine gj (e := e) (p := p) (eY e (fJ t)) t ({ k2 with told := 6 }) aK h3 fun H9 h9 => ?_;exact gh (g := g') (σ' := (aV σ t).note now t.who 6) (t' := { aB σ t with at' := 6, code := 6 }) (k := { k2 with told := 6 }) (n := aK) (by simp only [ax, hat]; rw [if_pos hfd, if_pos ho]) (Iv ho (by simp) (by simp) (by simp) (by simp)) (by simp [fJ, aB, ho]) (by rw [hg']; exact hl) (by rw [hg']; exact kz _) (show ae (rB e p (eY e aK) t ({ k2 with told := 6 }) * (az p g' ((aV σ t).note now t.who 6) * R)) H9 from h9.to)
 | false =>
  refine gs ?_
  have hli : (aB σ t).i = t.i + 1 := by
   show (if (aB σ t).found = true then t.i else t.i + 1) = _;rw [if_neg (by rw [hfd]; simp)]
  have hla : cr σ (aB σ t) = decide (σ.c.sl ≤ ((t.i + 1 : Nat) : Int)) := by unfold cr; rw [hli]
  have nf : ¬ (aB σ t).found = true := by rw [hfd]; simp
  by_cases hL : σ.c.sl ≤ ((t.i + 1 : Nat) : Int)
  ·have hla' : cr σ (aB σ t) = true := hla.trans (fj hL)
   rw [fj hL];refine gs ?_;refine ai h2 ac (show _ = some (vi (aB σ t).mark) from by rw [hk2]; rfl) ?_;refine gs ?_
   by_cases hm : (aB σ t).mark < 0
   ·refine aa (cP hm) ?_
    refine gs ?_;refine af h2 (mE e p g (aV σ t) t k2 (eY e (fJ t)) now 7 (by have := S.pts; show σ.pts.length < _; omega) hl) fun g' H3 h3 => ?_;rw [aj, ae.pu] at h3;obtain ⟨hg', h3⟩ := h3;refine gj (e := e) (p := p) (eY e (fJ t)) t ({ k2 with told := 7 }) aK h3 fun H9 h9 => ?_;exact gh (g := g') (σ' := (aV σ t).note now t.who 7) (t' := { aB σ t with at' := 6, code := 7 }) (k := { k2 with told := 7 }) (n := aK) (by simp only [ax, hat]; rw [if_neg nf, if_pos hla', if_pos ho, if_pos hm]) (Iv ho (by simp) (by simp) (by simp) (by simp)) (by simp [fJ, aB, ho]) (by rw [hg']; exact hl) (by rw [hg']; exact kz _) (show ae (rB e p (eY e aK) t ({ k2 with told := 7 }) * (az p g' ((aV σ t).note now t.who 7) * R)) H9 from h9.to)
   ·refine aa (bW hm) ?_
    refine gs ?_;refine gj (e := e) (p := p) (eY e (fJ t)) t (k2) dr h2 fun H9 h9 => ?_;exact gh (g := g) (σ' := aV σ t) (t' := { aB σ t with at' := 4 }) (k := k2) (n := dr) (by simp only [ax, hat]; rw [if_neg nf, if_pos hla', if_pos ho, if_neg hm]) (Iv ho (by simp) (fun _ => by rw [hk2]) (by simp) (by simp)) (by simp [fJ, aB, ho]) hl (kz _) (show ae (rB e p (eY e dr) t (k2) * (az p g (aV σ t) * R)) H9 from h9.to)
  ·have hla' : ¬ cr σ (aB σ t) = true := by rw [hla, ez hL]; simp
   rw [ez hL];refine gs ?_;refine ah (q7 ..) ?_;refine gj (e := e) (p := p) (eY e (fJ t)) t (k2) bN h2 fun H9 h9 => ?_;exact gh (g := g) (σ' := aV σ t) (t' := aB σ t) (k := k2) (n := bN) (by simp only [ax, hat]; rw [if_neg nf, if_neg hla']) (s5 (by show t.at' < 4; omega) ⟨by rw [hk2, hli], by rw [hk2]⟩) (by show fJ (aB σ t) = _; unfold fJ; rw [if_pos (show (aB σ t).x.op = 1 from ho), show (aB σ t).at' = 3 from hat]; rfl) hl (kz _) (show ae (rB e p (eY e bN) t (k2) * (az p g (aV σ t) * R)) H9 from h9.to)
theorem YA (S : SOk σ) (T : lz σ t) (ho : t.x.op ≠ 1) (hat : t.at' = 3) : Sp b8 [vp e, vi now] (rT e p rp t * aX p rp σ) (fun _ : List Nat => bX (ax σ t now)) (fun x => rQ e p rp (ax σ t now) x) := by
 have hN : σ.μ.N < 1099511627000 := by have := S.N; omega
 refine aJ fun R H h => ?_;obtain ⟨k, g, hk, rfl, hl, h0⟩ := ie h;refine bm (fun r => z1 _ _ H) ?_;refine bp h0 fun b1 H1 h1 => ?_;have hi := T.i (by omega);obtain ⟨hI, hfr⟩ := hk.1 (by omega);refine af h1 (Ql e p g σ t k (eY e (fJ t)) S hi hI hfr) fun _ H2 h2 => ?_;obtain ⟨k2, hk2⟩ : ∃ k2 : Ek, k2 = { k with I := t.i + 1, free := (aB σ t).mark, at' := t.i, obj := σ.μ.V (10, t.s, (t.i : Int)) % 4294967296 } := ⟨_, rfl⟩;rw [← hk2] at h2;refine aa (v := vb (aB σ t).found) rfl ?_;refine aa (v := vb (decide (σ.c.sl ≤ ((t.i + 1 : Nat) : Int)))) rfl ?_;refine ah (t6 ..) ?_
 cases hfd : (aB σ t).found with
 | true =>
  refine gs ?_
  have hob : (aB σ t).obj = σ.μ.V (10, t.s, (t.i : Int)) % 4294967296 := by
   show (if (aB σ t).found = true then σ.μ.V (10, t.s, (t.i : Int)) % 4294967296 else t.obj) = _;rw [if_pos hfd]
  have hi2 : (aB σ t).i = t.i := by
   show (if (aB σ t).found = true then t.i else t.i + 1) = _;rw [if_pos hfd]
  have ho2 : (aB σ t).obj < σ.obs.length := by
   rw [hob];refine S.slot t.s t.i fun h0 => ?_;have : qp (σ.μ.V (10, t.s, (t.i : Int))) t.x.flow = true := hfd;rw [h0] at this;cases this
  obtain ⟨b, hb⟩ : ∃ b, g.rp[(aB σ t).obj]? = some b := ⟨_, cA (by omega)⟩;refine ai h2 ac rfl ?_;refine ai h2 ac (show _ = some (vi ((aB σ t).obj : Int)) from by rw [hk2, hob]; rfl) ?_;refine af h2 (qO p g (aV σ t) hl (aB σ t).obj b ho2 hb) fun _ H3 h3 => ?_;refine bg h3 ac rfl rfl fun H4 h4 => ?_;refine gj (e := e) (p := p) (eY e (fJ t)) t ({ k2 with rv := vp b }) bq h4 fun H9 h9 => ?_;exact gh (g := g) (σ' := aV σ t) (t' := { aB σ t with at' := 4 }) (k := { k2 with rv := vp b }) (n := bq) (by simp only [ax, hat]; rw [if_pos hfd, if_neg ho]) (sE (b := b) ho (by simp) (show k2.at' = ((aB σ t).i : Int) from by rw [hk2, hi2]) hb rfl (by simp) (by simp) (by simp) (by simp) (by simp)) (by simp [fJ, aB, ho]) hl (kz _) (show ae (rB e p (eY e bq) t ({ k2 with rv := vp b }) * (az p g (aV σ t) * R)) H9 from h9.to)
 | false =>
  refine gs ?_
  have hli : (aB σ t).i = t.i + 1 := by
   show (if (aB σ t).found = true then t.i else t.i + 1) = _;rw [if_neg (by rw [hfd]; simp)]
  have hla : cr σ (aB σ t) = decide (σ.c.sl ≤ ((t.i + 1 : Nat) : Int)) := by unfold cr; rw [hli]
  have nf : ¬ (aB σ t).found = true := by rw [hfd]; simp
  by_cases hL : σ.c.sl ≤ ((t.i + 1 : Nat) : Int)
  ·have hla' : cr σ (aB σ t) = true := hla.trans (fj hL)
   rw [fj hL];refine gs ?_;refine af h2 (mE e p g (aV σ t) t k2 (eY e (fJ t)) now 5 (by have := S.pts; show σ.pts.length < _; omega) hl) fun g' H3 h3 => ?_;rw [aj, ae.pu] at h3;obtain ⟨hg', h3⟩ := h3;refine gj (e := e) (p := p) (eY e (fJ t)) t ({ k2 with told := 5 }) aK h3 fun H9 h9 => ?_;exact gh (g := g') (σ' := (aV σ t).note now t.who 5) (t' := { aB σ t with at' := 10, code := 5 }) (k := { k2 with told := 5 }) (n := aK) (by simp only [ax, hat]; rw [if_neg nf, if_pos hla', if_neg ho]) (UF ho rfl rfl) (by simp [fJ, aB, ho]) (by rw [hg']; exact hl) (by rw [hg']; exact kz _) (show ae (rB e p (eY e aK) t ({ k2 with told := 5 }) * (az p g' ((aV σ t).note now t.who 5) * R)) H9 from h9.to)
  ·have hla' : ¬ cr σ (aB σ t) = true := by rw [hla, ez hL]; simp
   rw [ez hL];refine gs ?_;refine ah (t7 ..) ?_;refine gj (e := e) (p := p) (eY e (fJ t)) t (k2) b8 h2 fun H9 h9 => ?_;exact gh (g := g) (σ' := aV σ t) (t' := aB σ t) (k := k2) (n := b8) (by simp only [ax, hat]; rw [if_neg nf, if_neg hla']) (s5 (by show t.at' < 4; omega) ⟨by rw [hk2, hli], by rw [hk2]⟩) (by show fJ (aB σ t) = _; unfold fJ; rw [if_neg (show ¬ (aB σ t).x.op = 1 from ho), show (aB σ t).at' = 3 from hat]; rfl) hl (kz _) (show ae (rB e p (eY e b8) t (k2) * (az p g (aV σ t) * R)) H9 from h9.to)
theorem lr (ho : t.x.op = 1) (ha : 4 ≤ t.at') : ax σ t now = zY σ t now := by
 unfold ax
 split
 ·omega
 ·omega
 ·omega
 ·rw [if_pos ho]
theorem bM (ho : t.x.op ≠ 1) (ha : 4 ≤ t.at') : ax σ t now = fN σ t now := by
 unfold ax
 split
 ·omega
 ·omega
 ·omega
 ·rw [if_neg ho]
theorem wa {x : Cl} (h : sA x = none) : (0 ≤ x.flow ∧ x.flow ≤ 1048576) ∧ (x.op = 1 → (1 ≤ x.a ∧ x.a ≤ 65536) ∧ 1 ≤ x.b ∧ x.b ≤ 8) := by
 by_cases ho : x.op = 1
 ·rw [mD ho] at h
  by_cases hf : qM x
  ·rw [if_pos hf] at h; cases h
  rw [if_neg hf] at h
  by_cases ha : x.a < 1 ∨ 65536 < x.a
  ·rw [if_pos ha] at h; cases h
  rw [if_neg ha] at h
  by_cases hb : x.b < 1 ∨ 8 < x.b
  ·rw [if_pos hb] at h; cases h
  unfold qM at hf;omega
 ·rw [CX ho] at h
  by_cases hf : qM x
  ·rw [if_pos hf] at h; cases h
  unfold qM at hf;omega
theorem YB (S : SOk σ) (T : lz σ t) (ho : t.x.op = 1) (hat : t.at' = 4) : Sp dr [vp e, vi now] (rT e p rp t * aX p rp σ) (fun _ : List Nat => bX (ax σ t now)) (fun x => rQ e p rp (ax σ t now) x) := by
 have hN : σ.μ.N < 1099511627000 := by have := S.N; omega
 refine aJ fun R H h => ?_;obtain ⟨k, g, hk, rfl, hl, h0⟩ := ie h;refine bm (fun r => z3 _ _ H) ?_;refine bp h0 fun b1 H1 h1 => ?_;have hx := wa (T.x (by omega));have hc := bF.1 S.c
 have hst : ax σ t now = (σ.make t.who (XV σ t), { t with obj := σ.obs.length, at' := 5 }, false) := by rw [lr σ t now ho (by omega)]; simp only [zY, hat]
 refine ai h1 ac rfl ?_;refine ai h1 (b7 (aL (aL aZ))) rfl ?_;refine ai h1 (b7 (aL (aL aZ))) rfl ?_;refine af h1 (Kh σ.c.un t.x.a (by omega) (hx.2 ho).1) fun _ H2 h2 => ?_;refine aa (v := vu (max (σ.c.un / t.x.a.toNat) 1)) rfl ?_;refine aa (v := vb true) rfl ?_;refine ai h2 ac rfl ?_;refine ai h2 ac rfl ?_;refine ai h2 (b7 (aL (aL aZ))) rfl ?_;refine ai h2 (b7 (aL (aL aZ))) rfl ?_;refine iW ?_;refine af h2 (agI p g σ t.who (XV σ t) hN (by have := S.obs; omega) hl) fun g' H3 h3 => ?_;rw [aj, ae.pu] at h3;obtain ⟨⟨hpre, hl'⟩, h3⟩ := h3;refine bg h3 ac rfl rfl fun H4 h4 => ?_;refine gj (e := e) (p := p) (eY e (fJ t)) ({ t with obj := σ.obs.length, at' := 5 }) ({ k with obj := σ.obs.length }) eR h4 fun H9 h9 => ?_;exact gh (g := g') (σ' := σ.make t.who (XV σ t)) (t' := { t with obj := σ.obs.length, at' := 5 }) (k := { k with obj := σ.obs.length }) (n := eR) hst (Iv ho (by simp) (fun _ => (hk.2.1 ho).1 (.inl hat)) (by simp) (by simp)) (by simp [fJ, aB, ho]) (by rw [hl']; simp) hpre h9.to
theorem abT (S : SOk σ) (T : lz σ t) (ho : t.x.op = 1) (hat : t.at' = 5) : Sp eR [vp e, vi now] (rT e p rp t * aX p rp σ) (fun _ : List Nat => bX (ax σ t now)) (fun x => rQ e p rp (ax σ t now) x) := by
 have hN : σ.μ.N < 1099511627000 := by have := S.N; omega
 refine aJ fun R H h => ?_;obtain ⟨k, g, hk, rfl, hl, h0⟩ := ie h;refine bm (fun r => C1 _ _ H) ?_;refine bp h0 fun b1 H1 h1 => ?_;have hx := wa (T.x (by omega));have hob := T.obj (.inl ⟨hat, ho⟩);have hso := S.obs;have hfm := (hk.2.1 ho).1 (.inr hat);have hko := (hk.2.1 ho).2.1 hat
 have hst : ax σ t now = ((σ.mem ((σ.μ.acc t.who 2 (10, t.s, t.mark)).put (10, t.s, t.mark) (dG t.x.flow t.obj))).note now t.who 0, { t with at' := 6, code := 0 }, false) := by rw [lr σ t now ho (by omega)]; simp only [zY, hat]
 refine ai h1 ac rfl ?_;refine ai h1 ac rfl ?_;refine ai h1 ac rfl ?_;refine ai h1 ac rfl ?_;refine ai h1 ac rfl ?_;refine ai h1 (b7 (aL (aL aZ))) rfl ?_;refine ai h1 ac rfl ?_;rw [hfm, hko];refine af h1 (ui (p := p) (g := g) (σ := σ) (Fv g.tb g.m σ.c.sh.toNat σ.c.sl.toNat σ.μ t.who t.s t.mark t.x.flow t.obj hN hx.1 (by omega))) fun _ H2 h2 => ?_;refine af h2 (mE e p g (σ.mem ((σ.μ.acc t.who 2 (10, t.s, t.mark)).put (10, t.s, t.mark) (dG t.x.flow t.obj))) t k (eY e (fJ t)) now 0 (by have := S.pts; show σ.pts.length < _; omega) hl) fun g' H3 h3 => ?_;rw [aj, ae.pu] at h3;obtain ⟨hg', h3⟩ := h3;refine gj (e := e) (p := p) (eY e (fJ t)) ({ t with at' := 6, code := 0 }) ({ k with told := 0 }) aK h3 fun H9 h9 => ?_;exact gh (g := g') (σ' := (σ.mem ((σ.μ.acc t.who 2 (10, t.s, t.mark)).put (10, t.s, t.mark) (dG t.x.flow t.obj))).note now t.who 0) (t' := { t with at' := 6, code := 0 }) (k := { k with told := 0 }) (n := aK) hst (Iv ho (by simp) (by simp) (by simp) (by simp)) (by simp [fJ, aB, ho]) (by rw [hg']; exact hl) (by rw [hg']; exact kz _) h9.to
theorem Qm (S : SOk σ) (T : lz σ t) (hat : t.at' = if t.x.op = 1 then 6 else 10) : Sp aK [vp e, vi now] (rT e p rp t * aX p rp σ) (fun _ : List Nat => bX (ax σ t now)) (fun x => rQ e p rp (ax σ t now) x) := by
 have hN : σ.μ.N < 1099511627000 := by have := S.N; omega
 refine aJ fun R H h => ?_;obtain ⟨k, g, hk, rfl, hl, h0⟩ := ie h;refine bm (fun r => C0 _ _ H) ?_;refine bp h0 fun b1 H1 h1 => ?_
 have hst : ax σ t now = (iE σ t, t, true) := by
  by_cases ho : t.x.op = 1
  ·rw [if_pos ho] at hat
   rw [lr σ t now ho (by omega)]; simp only [zY, hat]
  ·rw [if_neg ho] at hat
   rw [bM σ t now ho (by omega)]; simp only [fN, hat]
 have hto : k.told = t.code := by
  by_cases ho : t.x.op = 1
  ·rw [if_pos ho] at hat
   exact (hk.2.1 ho).2.2 hat
  ·rw [if_neg ho] at hat
   exact (hk.2.2 ho).2.2.2.2 (.inr hat)
 refine ai h1 ac rfl ?_;refine ai h1 ac rfl ?_;refine ai h1 ac rfl ?_;refine ai h1 ac rfl ?_;refine af h1 (ui (p := p) (g := g) (σ := σ) (wA g.tb g.m σ.c.sh.toNat σ.c.sl.toNat σ.μ t.who t.s hN)) fun _ H2 h2 => ?_;refine ai h2 ac rfl ?_;rw [hto];refine iW ?_;refine eW h2 rfl rfl fun H3 h3 => ?_;refine aW h3 ?_;exact ap (Yp (g := g) (σ' := iE σ t) (t' := t) hst rfl hl (kz _) h3.to)
theorem Qn (g : PIds) (k : Ek) (nx : Value) (S : SOk σ) (hl : g.rp.length = σ.obs.length) (b : Nat) (hob : t.obj < σ.obs.length) (hb : g.rp[t.obj]? = some b) (hrv : k.rv = vp b) :
 Sp j7 [vp e] (rB e p nx t k * az p g σ) (fun _ : Unit => vb (decide (bv (σ.μ.V (11, (t.obj : Int), 0)) = 0))) (fun _ => rB e p nx t { k with w := σ.μ.V (11, (t.obj : Int), 0) } * az p g (cY σ t)) := by
 have hN : σ.μ.N < 1099511627000 := by have := S.N; omega
 refine bn (C3 _) fun R H h => ?_;refine ai (v := vp b) h ac (by rw [← hrv]; rfl) ?_;refine ai h ac rfl ?_;refine af h (iZ (p := p) hl hob hb (ya g.m t.obj b (aA σ t.obj) σ.μ t.who hN)) fun _ H2 h2 => ?_;refine bg h2 ac rfl rfl fun H3 h3 => ?_;refine ai h3 ac rfl ?_;refine af h3 (iN _ (S.V _)) fun _ H4 h4 => ?_
 by_cases hw : bv (σ.μ.V (11, (t.obj : Int), 0)) = 0
 ·rw [fj hw]
  refine aa (ba hw) ?_;exact ap ⟨(), rfl, h4.to⟩
 ·rw [ez hw]
  refine aa (aC hw) ?_;exact ap ⟨(), rfl, h4.to⟩
theorem YF (S : SOk σ) (T : lz σ t) (ho : t.x.op ≠ 1) (hat : t.at' = 4) : Sp bq [vp e, vi now] (rT e p rp t * aX p rp σ) (fun _ : List Nat => bX (ax σ t now)) (fun x => rQ e p rp (ax σ t now) x) := by
 have hN : σ.μ.N < 1099511627000 := by have := S.N; omega
 refine aJ fun R H h => ?_;obtain ⟨k, g, hk, rfl, hl, h0⟩ := ie h;obtain ⟨hki, b, hb, hrv⟩ := (hk.2.2 ho).1 (by omega) (by omega);have hob := T.obj (.inr ⟨by omega, by omega, ho⟩);refine bm (fun r => z6 _ _ H) ?_;refine bp h0 fun b1 H1 h1 => ?_;refine af h1 (Qn e p σ t g k (eY e (fJ t)) S hl b hob hb hrv) fun _ H2 h2 => ?_
 by_cases hw : bv (σ.μ.V (11, (t.obj : Int), 0)) = 0
 ·rw [fj hw]
  refine gs ?_;refine gj (e := e) (p := p) (eY e (fJ t)) t ({ k with w := σ.μ.V (11, (t.obj : Int), 0) }) ca h2 fun H9 h9 => ?_;exact gh (g := g) (σ' := cY σ t) (t' := { t with w := σ.μ.V (11, (t.obj : Int), 0), at' := 8 }) (k := { k with w := σ.μ.V (11, (t.obj : Int), 0) }) (n := ca) (by rw [bM σ t now ho (by omega)]; simp only [fN, hat]; rw [if_pos hw]) (sE (b := b) ho (by simp) hki hb hrv (by simp) (by simp) (fun _ => rfl) (by simp) (by simp)) (by simp [fJ, aB, ho]) hl (kz _) (show ae (rB e p (eY e ca) t ({ k with w := σ.μ.V (11, (t.obj : Int), 0) }) * (az p g (cY σ t) * R)) H9 from h9.to)
 ·rw [ez hw]
  refine gs ?_;refine gj (e := e) (p := p) (eY e (fJ t)) t ({ k with w := σ.μ.V (11, (t.obj : Int), 0) }) dO h2 fun H9 h9 => ?_;exact gh (g := g) (σ' := cY σ t) (t' := { t with w := σ.μ.V (11, (t.obj : Int), 0), at' := 5 }) (k := { k with w := σ.μ.V (11, (t.obj : Int), 0) }) (n := dO) (by rw [bM σ t now ho (by omega)]; simp only [fN, hat]; rw [if_neg hw]) (sE (b := b) ho (by simp) hki hb hrv (by simp) (by simp) (by simp) (by simp) (by simp)) (by simp [fJ, aB, ho]) hl (kz _) (show ae (rB e p (eY e dO) t ({ k with w := σ.μ.V (11, (t.obj : Int), 0) }) * (az p g (cY σ t) * R)) H9 from h9.to)
theorem D4 (S : SOk σ) (T : lz σ t) (ho : t.x.op ≠ 1) (hat : t.at' = 6) : Sp ci [vp e, vi now] (rT e p rp t * aX p rp σ) (fun _ : List Nat => bX (ax σ t now)) (fun x => rQ e p rp (ax σ t now) x) := by
 have hN : σ.μ.N < 1099511627000 := by have := S.N; omega
 refine aJ fun R H h => ?_;obtain ⟨k, g, hk, rfl, hl, h0⟩ := ie h;obtain ⟨hki, b, hb, hrv⟩ := (hk.2.2 ho).1 (by omega) (by omega);have hob := T.obj (.inr ⟨by omega, by omega, ho⟩);refine bm (fun r => q8 _ _ H) ?_;refine bp h0 fun b1 H1 h1 => ?_;have hkq := (hk.2.2 ho).2.1 (.inl hat);refine af h1 (Qn e p σ t g k (eY e (fJ t)) S hl b hob hb hrv) fun _ H2 h2 => ?_
 by_cases hw : bv (σ.μ.V (11, (t.obj : Int), 0)) = 0
 ·rw [fj hw]
  refine gs ?_;refine gj (e := e) (p := p) (eY e (fJ t)) t ({ k with w := σ.μ.V (11, (t.obj : Int), 0) }) ca h2 fun H9 h9 => ?_;exact gh (g := g) (σ' := cY σ t) (t' := { t with w := σ.μ.V (11, (t.obj : Int), 0), mark := now, at' := 8 }) (k := { k with w := σ.μ.V (11, (t.obj : Int), 0) }) (n := ca) (by rw [bM σ t now ho (by omega)]; simp only [fN, hat]; rw [if_pos hw]) (sE (b := b) ho (by simp) hki hb hrv (by simp) (by simp) (fun _ => rfl) (by simp) (by simp)) (by simp [fJ, aB, ho]) hl (kz _) (show ae (rB e p (eY e ca) t ({ k with w := σ.μ.V (11, (t.obj : Int), 0) }) * (az p g (cY σ t) * R)) H9 from h9.to)
 ·rw [ez hw]
  refine gs ?_;refine bg h2 ac rfl rfl fun H3 h3 => ?_;refine gj (e := e) (p := p) (eY e (fJ t)) t ({ k with w := σ.μ.V (11, (t.obj : Int), 0), nw := now }) cu h3 fun H9 h9 => ?_;exact gh (g := g) (σ' := cY σ t) (t' := { t with w := σ.μ.V (11, (t.obj : Int), 0), mark := now, at' := 7 }) (k := { k with w := σ.μ.V (11, (t.obj : Int), 0), nw := now }) (n := cu) (by rw [bM σ t now ho (by omega)]; simp only [fN, hat]; rw [if_neg hw]) (sE (b := b) ho (by simp) hki hb hrv (fun _ => hkq) (fun _ => rfl) (by simp) (by simp) (by simp)) (by simp [fJ, aB, ho]) hl (kz _) (show ae (rB e p (eY e cu) t ({ k with w := σ.μ.V (11, (t.obj : Int), 0), nw := now }) * (az p g (cY σ t) * R)) H9 from h9.to)
theorem abU (S : SOk σ) (T : lz σ t) (ho : t.x.op ≠ 1) (hat : t.at' = 5) : Sp dO [vp e, vi now] (rT e p rp t * aX p rp σ) (fun _ : List Nat => bX (ax σ t now)) (fun x => rQ e p rp (ax σ t now) x) := by
 have hN : σ.μ.N < 1099511627000 := by have := S.N; omega
 refine aJ fun R H h => ?_;obtain ⟨k, g, hk, rfl, hl, h0⟩ := ie h;obtain ⟨hki, b, hb, hrv⟩ := (hk.2.2 ho).1 (by omega) (by omega);have hob := T.obj (.inr ⟨by omega, by omega, ho⟩);refine bm (fun r => C4 _ _ H) ?_;refine bp h0 fun b1 H1 h1 => ?_;refine ai h1 ac rfl ?_;refine ai h1 ac rfl ?_;refine af h1 (o3 p g σ t.who S.N) fun _ H2 h2 => ?_;refine bg h2 ac rfl rfl fun H3 h3 => ?_;refine ai h3 ac rfl ?_;refine aa (Fe 2 (by omega)) ?_
 by_cases hq : σ.μ.V (2, 0, 0) % 2 = 1
 ·refine aa (ba (show ((σ.μ.V (2, 0, 0) % 2 : Nat) : Int) = 1 by omega)) ?_
  refine gs ?_;refine gj (e := e) (p := p) (eY e (fJ t)) t ({ k with q := σ.μ.V (2, 0, 0) }) bq h3 fun H9 h9 => ?_;exact gh (g := g) (σ' := ed σ t) (t' := { t with q := σ.μ.V (2, 0, 0), at' := 4 }) (k := { k with q := σ.μ.V (2, 0, 0) }) (n := bq) (by rw [bM σ t now ho (by omega)]; simp only [fN, hat]; rw [if_pos hq]) (sE (b := b) ho (by simp) hki hb hrv (by simp) (by simp) (by simp) (by simp) (by simp)) (by simp [fJ, aB, ho]) hl (kz _) (show ae (rB e p (eY e bq) t ({ k with q := σ.μ.V (2, 0, 0) }) * (az p g (ed σ t) * R)) H9 from h9.to)
 ·refine aa (aC (show ¬ ((σ.μ.V (2, 0, 0) % 2 : Nat) : Int) = 1 by omega)) ?_
  refine gs ?_;refine gj (e := e) (p := p) (eY e (fJ t)) t ({ k with q := σ.μ.V (2, 0, 0) }) ci h3 fun H9 h9 => ?_;exact gh (g := g) (σ' := ed σ t) (t' := { t with q := σ.μ.V (2, 0, 0), at' := 6 }) (k := { k with q := σ.μ.V (2, 0, 0) }) (n := ci) (by rw [bM σ t now ho (by omega)]; simp only [fN, hat]; rw [if_neg hq]) (sE (b := b) ho (by simp) hki hb hrv (fun _ => rfl) (by simp) (by simp) (by simp) (by simp)) (by simp [fJ, aB, ho]) hl (kz _) (show ae (rB e p (eY e ci) t ({ k with q := σ.μ.V (2, 0, 0) }) * (az p g (ed σ t) * R)) H9 from h9.to)
theorem HY (S : SOk σ) (T : lz σ t) (ho : t.x.op ≠ 1) (hat : t.at' = 7) : Sp cu [vp e, vi now] (rT e p rp t * aX p rp σ) (fun _ : List Nat => bX (ax σ t now)) (fun x => rQ e p rp (ax σ t now) x) := by
 have hN : σ.μ.N < 1099511627000 := by have := S.N; omega
 refine aJ fun R H h => ?_;obtain ⟨k, g, hk, rfl, hl, h0⟩ := ie h;obtain ⟨hki, b, hb, hrv⟩ := (hk.2.2 ho).1 (by omega) (by omega);have hob := T.obj (.inr ⟨by omega, by omega, ho⟩);refine bm (fun r => sB _ _ H) ?_;refine bp h0 fun b1 H1 h1 => ?_;have hkq := (hk.2.2 ho).2.1 (.inr hat);have hkn := (hk.2.2 ho).2.2.1 hat;refine ai h1 ac rfl ?_;refine ai h1 ac rfl ?_;refine af h1 (o3 p g σ t.who S.N) fun _ H2 h2 => ?_;refine bA ac ?_;refine aN h2 rfl ?_;refine aH h1 h2 (by rfl) ?_;rw [hkq]
 by_cases hq : σ.μ.V (2, 0, 0) = t.q
 ·refine aa (sR (show ((σ.μ.V (2, 0, 0) : Nat) : Int) = (t.q : Int) by omega)) ?_
  refine gs ?_;refine ai h2 ac rfl ?_;rw [hkn];refine af h2 (mE e p g (ed σ t) t k (eY e (fJ t)) t.mark 8 (by have := S.pts; show σ.pts.length < _; omega) hl) fun g' H3 h3 => ?_;rw [aj, ae.pu] at h3;obtain ⟨hg', h3⟩ := h3;refine gj (e := e) (p := p) (eY e (fJ t)) t ({ k with told := 8 }) aK h3 fun H9 h9 => ?_;exact gh (g := g') (σ' := (ed σ t).note t.mark t.who 8) (t' := { t with at' := 10, code := 8 }) (k := { k with told := 8 }) (n := aK) (by rw [bM σ t now ho (by omega)]; simp only [fN, hat]; rw [if_pos hq]) (UF ho rfl rfl) (by simp [fJ, aB, ho]) (by rw [hg']; exact hl) (by rw [hg']; exact kz _) (show ae (rB e p (eY e aK) t ({ k with told := 8 }) * (az p g' ((ed σ t).note t.mark t.who 8) * R)) H9 from h9.to)
 ·refine aa (JC (show ¬ ((σ.μ.V (2, 0, 0) : Nat) : Int) = (t.q : Int) by omega)) ?_
  refine gs ?_;refine gj (e := e) (p := p) (eY e (fJ t)) t (k) bq h2 fun H9 h9 => ?_;exact gh (g := g) (σ' := ed σ t) (t' := { t with at' := 4 }) (k := k) (n := bq) (by rw [bM σ t now ho (by omega)]; simp only [fN, hat]; rw [if_neg hq]) (sE (b := b) ho (by simp) hki hb hrv (by simp) (by simp) (by simp) (by simp) (by simp)) (by simp [fJ, aB, ho]) hl (kz _) (show ae (rB e p (eY e bq) t (k) * (az p g (ed σ t) * R)) H9 from h9.to)
theorem YD (S : SOk σ) (T : lz σ t) (ho : t.x.op ≠ 1) (hat : t.at' = 8) : Sp ca [vp e, vi now] (rT e p rp t * aX p rp σ) (fun _ : List Nat => bX (ax σ t now)) (fun x => rQ e p rp (ax σ t now) x) := by
 have hN : σ.μ.N < 1099511627000 := by have := S.N; omega
 refine aJ fun R H h => ?_;obtain ⟨k, g, hk, rfl, hl, h0⟩ := ie h;obtain ⟨hki, b, hb, hrv⟩ := (hk.2.2 ho).1 (by omega) (by omega);have hob := T.obj (.inr ⟨by omega, by omega, ho⟩);refine bm (fun r => z4 _ _ H) ?_;refine bp h0 fun b1 H1 h1 => ?_;have hkw := (hk.2.2 ho).2.2.2.1 hat;refine ai h1 ac rfl ?_;refine ai h1 ac rfl ?_;refine ai h1 ac rfl ?_;rw [hkw, hrv];refine af h1 (iZ (p := p) hl hob hb (TT g.m t.obj b (aA σ t.obj) σ.μ t.who t.w T.w hN)) fun _ H2 h2 => ?_;cases hw : turned σ.μ t.obj t.w (aP t.w 2)
 ·refine gs ?_
  rw [Bool.not_false];refine gs ?_;refine gj (e := e) (p := p) (eY e (fJ t)) t (k) bq h2 fun H9 h9 => ?_;exact gh (g := g) (σ' := σ.mem (σ.μ.turn t.who t.obj t.w (aP t.w 2))) (t' := { t with at' := 4 }) (k := k) (n := bq) (by rw [bM σ t now ho (by omega)]; simp only [fN, hat]; rw [if_neg (by rw [hw]; simp)]) (sE (b := b) ho (by simp) hki hb hrv (by simp) (by simp) (by simp) (by simp) (by simp)) (by simp [fJ, aB, ho]) hl (kz _) (show ae (rB e p (eY e bq) t (k) * (az p g (σ.mem (σ.μ.turn t.who t.obj t.w (aP t.w 2))) * R)) H9 from h9.to)
 ·refine gs ?_
  rw [Bool.not_true];refine gs ?_;refine af h2 (mE e p g (σ.mem (σ.μ.turn t.who t.obj t.w (aP t.w 2))) t k (eY e (fJ t)) now 0 (by have := S.pts; show σ.pts.length < _; omega) hl) fun g' H3 h3 => ?_;rw [aj, ae.pu] at h3;obtain ⟨hg', h3⟩ := h3;refine gj (e := e) (p := p) (eY e (fJ t)) ({ t with at' := 9, code := 0 }) ({ k with told := 0 }) dD h3 fun H9 h9 => ?_;exact gh (g := g') (σ' := (σ.mem (σ.μ.turn t.who t.obj t.w (aP t.w 2))).note now t.who 0) (t' := { t with at' := 9, code := 0 }) (k := { k with told := 0 }) (n := dD) (by rw [bM σ t now ho (by omega)]; simp only [fN, hat]; rw [if_pos hw]) (sE (b := b) ho (by simp) hki (by rw [hg']; exact hb) hrv (by simp) (by simp) (by simp) (by simp) (fun _ => rfl)) (by simp [fJ, aB, ho]) (by rw [hg']; exact hl) (by rw [hg']; exact kz _) h9.to
theorem TJ (S : SOk σ) (T : lz σ t) (ho : t.x.op ≠ 1) (hat : t.at' = 9) : Sp dD [vp e, vi now] (rT e p rp t * aX p rp σ) (fun _ : List Nat => bX (ax σ t now)) (fun x => rQ e p rp (ax σ t now) x) := by
 have hN : σ.μ.N < 1099511627000 := by have := S.N; omega
 refine aJ fun R H h => ?_;obtain ⟨k, g, hk, rfl, hl, h0⟩ := ie h;obtain ⟨hki, b, hb, hrv⟩ := (hk.2.2 ho).1 (by omega) (by omega);have hob := T.obj (.inr ⟨by omega, by omega, ho⟩);refine bm (fun r => xV _ _ H) ?_;refine bp h0 fun b1 H1 h1 => ?_;refine ai h1 ac rfl ?_;refine ai h1 ac rfl ?_;refine ai h1 ac rfl ?_;refine ai h1 ac rfl ?_;refine ai h1 ac rfl ?_;rw [hki];refine af h1 (ui (p := p) (g := g) (σ := σ) (Kg g.tb g.m σ.c.sh.toNat σ.c.sl.toNat σ.μ t.who t.s t.i hN)) fun _ H2 h2 => ?_;refine gj (e := e) (p := p) (eY e (fJ t)) ({ t with at' := 10 }) k aK h2 fun H9 h9 => ?_;exact gh (g := g) (σ' := σ.mem ((σ.μ.acc t.who 2 (10, t.s, (t.i : Int))).put (10, t.s, (t.i : Int)) 0)) (t' := { t with at' := 10 }) (k := k) (n := aK) (by rw [bM σ t now ho (by omega)]; simp only [fN, hat]) (UF ho rfl ((hk.2.2 ho).2.2.2.2 (.inl hat))) (by simp [fJ, aB, ho]) hl (kz _) h9.to
theorem YE (S : SOk σ) (T : lz σ t) : Sp mu [vp e, vi now] (rT e p rp t * aX p rp σ) (fun _ : List Nat => bX (ax σ t now)) (fun x => rQ e p rp (ax σ t now) x) := by
 refine bn (zZ _ _) fun R H h => ?_;refine bp h fun b H1 h1 => ?_;obtain ⟨k, g, hk, rfl, hl, k1⟩ := ie (e := e) (p := p) (rp := rp) (σ := σ) (t := t) (R := blk b (.cells false [vi 0, .slice none 0 0, vi 0, vw 0]) * R) (H := H1) h1.to;refine ai k1 ac rfl ?_;refine ah (show (db (.func (.func (fJ t)) #[vp e] #[]) [vi now]).bind _ = _ from rfl) ?_
 have hs : Sp (fJ t) [vp e, vi now] (rT e p g.rp t * aX p g.rp σ) (fun _ : List Nat => bX (ax σ t now)) (fun x => rQ e p g.rp (ax σ t now) x) := by
  have s2 : t.at' = 2 → ax σ t now = eZ σ t := fun hat => by simp only [ax, hat]
  by_cases ho : t.x.op = 1
  ·have nf : ∀ n, t.at' = n → fJ t = (match n with | 0 => fB | 2 => cG | 3 => bN | 4 => dr | 5 => eR | _ => aK) := fun n h => by subst h; exact if_pos ho
   rcases T.ats with hat | hat | hat | hat | hat
   ·rw [nf _ hat]; exact Yz e p g.rp σ t now S T ho hat
   ·rw [nf _ hat, s2 hat]; exact Fd e p g.rp σ t now S T ho (by omega)
   ·rw [nf _ hat]; exact M0 e p g.rp σ t now S T ho hat
   ·by_cases h4 : t.at' = 4
    ·rw [nf _ h4]; exact YB e p g.rp σ t now S T ho h4
    by_cases h5 : t.at' = 5
    ·rw [nf _ h5]; exact abT e p g.rp σ t now S T ho h5
    have h6 : t.at' = 6 := by omega
    rw [nf _ h6]; exact Qm e p g.rp σ t now S T (by rw [if_pos ho]; exact h6)
   ·exact absurd ho hat.1
  ·have nf : ∀ n, t.at' = n → fJ t = (match n with | 0 => en | 2 => cS | 3 => b8 | 4 => bq | 5 => dO | 6 => ci | 7 => cu | 8 => ca | 9 => dD | _ => aK) := fun n h => by subst h; exact if_neg ho
   rcases T.ats with hat | hat | hat | hat | hat
   ·rw [nf _ hat]; exact TK e p g.rp σ t now S T ho hat
   ·rw [nf _ hat, s2 hat]; exact JY e p g.rp σ t now S T ho (by omega)
   ·rw [nf _ hat]; exact YA e p g.rp σ t now S T ho hat
   ·by_cases h4 : t.at' = 4
    ·rw [nf _ h4]; exact YF e p g.rp σ t now S T ho h4
    by_cases h5 : t.at' = 5
    ·rw [nf _ h5]; exact abU e p g.rp σ t now S T ho h5
    have h6 : t.at' = 6 := by omega
    rw [nf _ h6]; exact D4 e p g.rp σ t now S T ho h6
   ·by_cases h7 : t.at' = 7
    ·rw [nf _ h7]; exact HY e p g.rp σ t now S T ho h7
    by_cases h8 : t.at' = 8
    ·rw [nf _ h8]; exact YD e p g.rp σ t now S T ho h8
    by_cases h9 : t.at' = 9
    ·rw [nf _ h9]; exact TJ e p g.rp σ t now S T ho h9
    have h10 : t.at' = 10 := by omega
    rw [nf _ h10]; exact Qm e p g.rp σ t now S T (by rw [if_neg ho]; exact h10)
 exact Ik (v8 e p σ t (R := blk b (.cells false [vi 0, .slice none 0 0, vi 0, vw 0]) * R) hk hl k1) hs
abbrev Tk.newR (c : iX) (who : Int) (x : Cl) : Tk := ⟨who, x, (x.flow.tmod c.sh + c.sh).tmod c.sh, 0, 0, 0, false, 0, 0, -1, 0, 0⟩
theorem YC (hc : cJ σ.c = true) (who : Int) (c : Cl) : Sp xr [vp p, vi who, .agg (Cl.cells c).toArray] (aX p rp σ) (fun e : Nat => vp e) (fun e => rT e p rp (Tk.newR σ.c who c) * aX p rp σ) := by
 have hr := bF.1 hc;refine bn (MY _ _ _) fun R H h => ?_;refine be h fun b H1 h1 => ?_;refine aW h1 ?_;obtain ⟨g, rfl, hg, k1⟩ := dt (p := p) (rp := rp) (σ := σ) (R := blk b (.cells false (Cl.cells c)) * R) (H := H1) h1.to;refine ai k1 ac rfl ?_;refine ai k1 aD rfl ?_;refine af k1 (FE (p := p) (g := g) (σ := σ) (yQ g.tb g.m σ.c.sh.toNat σ.c.sl.toNat (by omega) c.flow)) fun _ H2 h2 => ?_;refine dQ h2 k1 rfl ?_
 have es : vi ((c.flow.tmod (σ.c.sh.toNat : Int) + (σ.c.sh.toNat : Int)).tmod (σ.c.sh.toNat : Int)) = vi (Tk.newR σ.c who c).s := by rw [show ((σ.c.sh.toNat : Nat) : Int) = σ.c.sh from by omega]
 rw [es];refine iW ?_;refine be h2 fun e H3 h3 => ?_;refine bg h3 ac rfl rfl fun H4 h4 => ?_;refine ah (D0 ..) ?_;refine ai h4 aD rfl ?_;have lt : ZL g.rp (Tk.newR σ.c who c) ⟨0, -1, 0, 0, .pointer none, 0, 0, 0, 0⟩ := s5 (by simp) ⟨rfl, rfl⟩
 by_cases ho : c.op = 1
 ·refine aa (ba ho) ?_
  refine gs ?_;refine bg h4 ac rfl rfl fun H5 h5 => ?_;refine ah (sW ..) ?_;refine ap ⟨e, rfl, v8 e p σ _ lt hg ?_⟩;rw [show fJ (Tk.newR σ.c who c) = fB from if_pos ho];exact h5.to
 ·refine aa (aC ho) ?_
  refine gs ?_;refine ah (sW ..) ?_;refine ap ⟨e, rfl, v8 e p σ _ lt hg ?_⟩;rw [show fJ (Tk.newR σ.c who c) = en from if_neg ho];exact h4.to
end
theorem oZ (p : Nat) (g : XIds) (σ : aY) (o b : Nat) (hl : g.rp.length = σ.obs.length) (ho : o < σ.obs.length) (hb : g.rp[o]? = some b) :
 ∃ R, (∀ N, σ.μ.N = N → ar p g σ = cW g.m o b (aA σ o) * bI g.m σ.μ * (gG g.ib g.m σ.c.sh σ.nx N * R)) ∧ ∀ μ' cs', ar p g { σ with μ := μ', obs := σ.obs.modify o fun q => (q.1, cs') } = cW g.m o b cs' * bI g.m μ' * (gG g.ib g.m σ.c.sh σ.nx μ'.N * R) := by
 have hz : o < (g.rp.zip (σ.obs.map fun x => x.2)).length := by simp; omega
 obtain ⟨R, e1, e2⟩ := Ia g.m (ps := g.rp.zip (σ.obs.map fun x => x.2)) (j := 0) hz
 have hrp : g.rp[o]'(by omega) = b := by
  rw [cA (by omega)] at hb;exact e7 hb
 have e3 : (g.rp.zip (σ.obs.map fun x => x.2))[o] = (b, aA σ o) := by
  rw [List.getElem_zip, uv ho, List.getElem_map, hrp]
 rw [e3] at e1;rw [Nat.zero_add] at e1 e2
 refine ⟨blk p (.cells false [vi σ.c.sh, vi σ.c.sl, vi σ.c.wk, vi σ.c.wd, vu σ.c.un, vp g.m, vp g.ib, vp g.tb, vp g.po, vp g.co, g.ov, g.rv, g.wv, g.pv]) * (tab g.tb g.m σ.c.sh.toNat σ.c.sl.toNat * (ts 3 sI g.ov (σ.obs.map fun x => x.1) * (ts 1 mL g.rv g.rp * (R *
  (ts 1 fp g.wv (fF g.ws) * ts 7 Pt.cells g.pv (bU σ.pts)))))), fun N hN => ?_, fun μ' cs' => ?_⟩
 ·subst hN
  unfold ar;rw [e1]
  ac_rfl
 ·unfold ar
  dsimp only
  have e4 : (σ.obs.modify o fun q => (q.1, cs')).map (fun x => x.1) = σ.obs.map fun x => x.1 := by
   apply List.ext_getElem?;intro j;simp only [xj, List.getElem?_modify]
   cases σ.obs[j]? with
   | none => rfl
   | some q => simp only [e6]; split <;> rfl
  have e5 : g.rp.zip ((σ.obs.modify o fun q => (q.1, cs')).map fun x => x.2) = (g.rp.zip (σ.obs.map fun x => x.2)).set o (b, cs') := by
   apply List.ext_getElem?;intro j;rw [List.getElem?_set]
   by_cases hj : o = j
   ·subst hj
    rw [if_pos rfl, if_pos hz];exact List.getElem?_zip_eq_some.2 ⟨hb, by simp [List.getElem?_modify, cA ho]⟩
   ·rw [if_neg hj]
    have : (List.map (fun x => x.2) (σ.obs.modify o fun q => (q.1, cs')))[j]? = (σ.obs.map fun x => x.2)[j]? := by
     simp only [xj, List.getElem?_modify]
     cases σ.obs[j]? with
     | none => rfl
     | some q => show some (if o = j then (q.1, cs') else q).2 = some q.2; rw [if_neg hj]
    simp only [List.zip, List.getElem?_zipWith, this]
  rw [e4, e5, e2]
  ac_rfl
section
variable {f : Nat} {args : List Value} {v : Unit → Value} {p : Nat} {g : XIds} {σ : aY} {o b : Nat}
theorem FH {μ' : Mu} {cs' : List Pk} (hN : σ.μ.N ≤ μ'.N) (hl : g.rp.length = σ.obs.length) (ho : o < σ.obs.length) (hb : g.rp[o]? = some b)
 (s : Sp f args (cW g.m o b (aA σ o) * bI g.m σ.μ) v (fun _ => cW g.m o b cs' * bI g.m μ')) :
 Sp f args (ar p g σ) v (fun _ => ar p g { σ with μ := μ', obs := σ.obs.modify o fun q => (q.1, cs') }) := by
 obtain ⟨R', e1, e2⟩ := oZ p g σ o b hl ho hb;intro R H h;rw [e1 _ rfl, aj] at h;obtain ⟨x, H', h1, h2⟩ := s _ _ h;refine ⟨x, H', h1, ?_⟩;rw [e2, aj];have h3 := mR hN (ae.fr (A := gG g.ib g.m σ.c.sh σ.nx σ.μ.N) h2);exact h3.to
theorem kg {μ' : Mu} (hN : σ.μ.N ≤ μ'.N) (hl : g.rp.length = σ.obs.length) (ho : o < σ.obs.length) (hb : g.rp[o]? = some b)
 (s : Sp f args (cW g.m o b (aA σ o) * bI g.m σ.μ) v (fun _ => cW g.m o b (aA σ o) * bI g.m μ')) :
 Sp f args (ar p g σ) v (fun _ => ar p g (σ.mem μ')) := by
 have := FH (p := p) hN hl ho hb s;rw [Cy ho] at this;exact this
theorem Ix (hl : g.rp.length = σ.obs.length) (ho : o < σ.obs.length) (hb : g.rp[o]? = some b)
 (s : Sp f args (cW g.m o b (aA σ o)) v (fun _ => cW g.m o b (aA σ o))) :
 Sp f args (ar p g σ) v (fun _ => ar p g σ) := by
 obtain ⟨R', e1, _⟩ := oZ p g σ o b hl ho hb;intro R H h;rw [e1 _ rfl, aj, aj] at h;obtain ⟨x, H', h1, h2⟩ := s _ _ h;exact ⟨x, H', h1, by rw [e1 _ rfl, aj, aj]; exact h2⟩
theorem oB {μ' : Mu} (hN : σ.μ.N ≤ μ'.N) (s : Sp f args (tab g.tb g.m σ.c.sh.toNat σ.c.sl.toNat * bI g.m σ.μ) v (fun _ => tab g.tb g.m σ.c.sh.toNat σ.c.sl.toNat * bI g.m μ')) :
 Sp f args (ar p g σ) v (fun _ => ar p g (σ.mem μ')) := by
 intro R H h;unfold ar at h;obtain ⟨x, H', h1, h2⟩ := s _ H (ae.fr (A := tab g.tb g.m σ.c.sh.toNat σ.c.sl.toNat * bI g.m σ.μ) h);refine ⟨x, H', h1, ?_⟩;unfold ar;have h3 := mR hN (ae.fr (A := gG g.ib g.m σ.c.sh σ.nx σ.μ.N) h2);exact h3.to
theorem Ab (s : Sp f args (tab g.tb g.m σ.c.sh.toNat σ.c.sl.toNat) v (fun _ => tab g.tb g.m σ.c.sh.toNat σ.c.sl.toNat)) :
 Sp f args (ar p g σ) v (fun _ => ar p g σ) := by
 intro R H h;unfold ar at h;obtain ⟨x, H', h1, h2⟩ := s _ H (ae.fr (A := tab g.tb g.m σ.c.sh.toNat σ.c.sl.toNat) h);refine ⟨x, H', h1, ?_⟩;unfold ar;exact h2.to
theorem KL {μ' : Mu} (hN : σ.μ.N ≤ μ'.N) (s : Sp f args (bI g.m σ.μ) v (fun _ => bI g.m μ')) : Sp f args (ar p g σ) v (fun _ => ar p g (σ.mem μ')) := by
 intro R H h;unfold ar at h;obtain ⟨x, H', h1, h2⟩ := s _ H (ae.fr (A := bI g.m σ.μ) h);refine ⟨x, H', h1, ?_⟩;unfold ar;have h3 := mR hN (ae.fr (A := gG g.ib g.m σ.c.sh σ.nx σ.μ.N) h2);exact h3.to
theorem wI {μ' : Mu} {nx' : Int → Option Nat} {L : Nat} (hL : L ≤ μ'.N) (s : Sp f args (gG g.ib g.m σ.c.sh σ.nx σ.μ.N * bI g.m σ.μ) v (fun _ => gG g.ib g.m σ.c.sh nx' L * bI g.m μ')) :
 Sp f args (ar p g σ) v (fun _ => ar p g { σ with μ := μ', nx := nx' }) := by
 intro R H h;unfold ar at h;obtain ⟨x, H', h1, h2⟩ := s _ H (ae.fr (A := gG g.ib g.m σ.c.sh σ.nx σ.μ.N * bI g.m σ.μ) h);refine ⟨x, H', h1, ?_⟩;unfold ar;have h3 := mR hL (ae.fr (A := gG g.ib g.m σ.c.sh nx' L) h2);exact h3.to
end
instance aeY (p : Nat) (g : XIds) (σ : aY) : Hs (ar p g σ) p (.cells false [vi σ.c.sh, vi σ.c.sl, vi σ.c.wk, vi σ.c.wd, vu σ.c.un, vp g.m, vp g.ib, vp g.tb, vp g.po, vp g.co, g.ov, g.rv, g.wv, g.pv]) := ⟨by
 intro H h;unfold ar at h
 exact h.left.get⟩
theorem FC (m i rp : Nat) (cs : List Pk) (μ : Mu) (who : Int) (n : Nat) (x : Pk) (h0 : 1 ≤ cs.length ∧ cs.length < 1000) (hE : μ.N < 1099511627000) :
 Sp mt [vp rp, vi who, vu n, .agg (Pk.cells x).toArray] (cW m i rp cs * bI m μ) (fun _ : Unit => .tuple #[]) (fun _ => cW m i rp (cs.set (n % cs.length) x) * bI m (μ.acc who 6 (16, (i : Int), ((n % cs.length : Nat) : Int)))) := by
 have hlt : n % cs.length < cs.length := Nat.mod_lt _ (by omega);refine bn (zV _ _ _ _) fun R H h => ?_;refine be h fun b H1 h1 => ?_;obtain ⟨cv, k1⟩ := eS (m := m) (i := i) (rp := rp) (cs := cs) (R := bI m μ * (blk b (.cells false (Pk.cells x)) * R)) (H := H1) h1.to;refine bA ac ?_;refine aN k1 rfl ?_;refine bA ac ?_;refine aN k1 rfl ?_
 have cell : ∀ cv, Sp ei [vp rp, vu n] (blk rp (.cells false [vp m, vi i, vi cs.length, cv])) (fun _ : Unit => vi ((n % cs.length : Nat) : Int)) (fun _ => blk rp (.cells false [vp m, vi i, vi cs.length, cv])) := by
  intro cv;refine bn (oo _ _) fun R H h => ?_;refine ai h ac rfl ?_;refine aa (d5 (by omega) (by omega)) ?_;rw [show ((cs.length : Nat) : Int).toNat = cs.length from u4 _];refine aa (jD (by omega)) ?_;refine aa (i3 (by omega)) ?_;exact ap ⟨(), rfl, h⟩
 refine af k1 (cell cv) fun _ H2 k2 => ?_;refine aH k2 k1 (by rfl) ?_;refine aH k2 k1 (by rfl) ?_;refine af k2 (dz 16 (i : Int) ((n % cs.length : Nat) : Int)) fun _ H3 k3 => ?_;refine aH k3 k1 (by rfl) ?_;refine af k3 ((Uv m μ who 6 (16, (i : Int), ((n % cs.length : Nat) : Int)) (by omega)).imp fun _ R H h => vq (N' := μ.N + 2) (by simp) h) fun _ H4 k4 => ?_;refine bA ac ?_;refine aN k4 rfl ?_;refine af k4 (cell cv) fun _ H5 k5 => ?_;refine aH k5 k4 (by rfl) ?_;refine aW k5 ?_;refine dQ k4 k5 rfl ?_;refine Ku (s := cv) (l := cs) (i := n % cs.length) x k5 hlt (.inl ⟨rfl, rfl⟩) rfl (by omega) rfl rfl fun H6 k6 => ?_;refine ap ⟨(), rfl, ?_⟩;have el : (cs.set (n % cs.length) x).length = cs.length := Mb;have h6 := kF (m := m) (i := i) (rp := rp) (cs := cs.set (n % cs.length) x) (cv := cv) (R := bI m (μ.acc who 6 (16, (i : Int), ((n % cs.length : Nat) : Int))) * R) (H := H6) (by rw [el]; exact k6.to);exact h6.to
section
variable (p : Nat) (g : XIds) (σ : aY)
theorem Nx (hl : g.rp.length = σ.obs.length) (who : Int) (o : Nat) (ho : o < σ.obs.length) (hN : σ.μ.N < 800000) : Sp kL [vp p, vi who, vi o] (ar p g σ) (fun v : Value => v) (fun _ => ar p g (σ.mem (σ.μ.acc who 5 (13, (o : Int), 0)))) := by
 refine bn (xD _ _ _) fun R H h => ?_;refine bp h fun b H1 h1 => ?_;refine aa (bW (by omega)) ?_;refine gs ?_;refine ai h1 ac rfl ?_;refine gs ?_;have h2 := h1;unfold ar at h2;refine iF (s := g.ov) (enc := sI) (l := σ.obs.map fun x : Ob × List Pk => x.1) h2 ?_;rw [sn];refine gs ?_;refine aa (mf (by omega)) ?_;refine gs ?_;refine bA ac ?_;refine aN h1 rfl ?_;refine af h1 (dz 13 (o : Int) 0) fun _ H3 h3 => ?_;refine aH h3 h1 (by rfl) ?_;refine af h3 (KL (p := p) (g := g) (σ := σ) (μ' := σ.μ.acc who 5 (13, (o : Int), 0)) (by simp) ((Uv g.m σ.μ who 5 (13, (o : Int), 0) (by omega)).imp fun _ R H h => vq (N' := σ.μ.N + 2) (by simp) h)) fun _ H4 h4 => ?_;refine ai h4 ac rfl ?_;have h5 := h4;unfold ar at h5;refine Nu (enc := sI) (l := σ.obs.map fun x : Ob × List Pk => x.1) h5 (by rw [sn]; exact ho) ?_;refine eW h4 rfl rfl fun H6 h6 => ?_;refine aW h6 ?_;exact ap ⟨_, rfl, h6.to⟩
theorem pa (who : Int) (hN : σ.μ.N < 800000) : Sp eg [vp p, vi who] (ar p g σ) (fun _ : Unit => vu (σ.μ.V (2, 0, 0))) (fun _ => ar p g (σ.mem (σ.μ.acc who 1 (2, 0, 0)))) := by
 refine bn (xE _ _) fun R H h => ?_;refine bA ac ?_;refine aN h rfl ?_;refine af h (dz 2 0 0) fun _ H1 h1 => ?_;refine aH h1 h (by rfl) ?_;refine af h1 (KL (p := p) (g := g) (σ := σ) (μ' := σ.μ.acc who 1 (2, 0, 0)) (by simp) (qW g.m σ.μ who (2, 0, 0) (by omega))) fun _ H2 h2 => ?_;exact ap ⟨(), rfl, h2.to⟩
theorem Kz (who : Int) (hN : σ.μ.N < 800000) : Sp fy [vp p, vi who] (ar p g σ) (fun _ : Unit => .tuple #[]) (fun _ => ar p g (σ.mem (σ.μ.cnt who (2, 0, 0) 1))) := by
 refine bn (vU _ _) fun R H h => ?_;refine bA ac ?_;refine aN h rfl ?_;refine af h (dz 2 0 0) fun _ H1 h1 => ?_;refine aH h1 h (by rfl) ?_;refine af h1 (KL (p := p) (g := g) (σ := σ) (μ' := σ.μ.cnt who (2, 0, 0) 1) (by simp) (HH g.m σ.μ who (2, 0, 0) 1 (by omega))) fun _ H2 h2 => ?_;exact ap ⟨(), rfl, h2.to⟩
theorem ly (t m sh sl : Nat) (hs : 1 ≤ sh ∧ sh ≤ 4) (flow : Int) : Sp eG [vp t, vi flow] (tab t m sh sl) (fun _ : Unit => vi ((flow.tmod sh + sh).tmod sh)) (fun _ => tab t m sh sl) := by
 have q := AN flow (n := sh) (by omega);refine bn (tS _ _) fun R H h => ?_;unfold tab at h ⊢;refine ai h ac rfl ?_;refine aa (jV (by omega)) ?_;refine ah (pS _ _ _ H) ?_
 by_cases hn : flow.tmod sh < 0
 ·refine aa (cP hn) ?_
  refine gs ?_;refine ai h ac rfl ?_;refine aa (aR (by omega) (by omega)) ?_;refine ah (jA _ _ H) ?_;refine ap ⟨(), ?_, h⟩;have : (flow.tmod sh + sh).tmod sh = flow.tmod sh + sh := Int.tmod_eq_of_lt (by omega) (by omega);rw [this]
 ·refine aa (bW hn) ?_
  refine gs ?_;refine ah (jA _ _ H) ?_;refine ap ⟨(), ?_, h⟩
  have : (flow.tmod sh + sh).tmod sh = flow.tmod sh := by
   rw [Xq (by omega), Int.add_emod_right];exact Int.emod_eq_of_lt (by omega) (by omega)
  rw [this]
end
theorem vF (w pl k : Int) : ∀ ws : List (Int × Int), gS (ws ++ [(w, pl)]) k = if k = w then pl else gS ws k := by
 intro ws
 induction ws with
 | nil =>
  simp only [List.nil_append, gS, List.any_nil]
  by_cases e : k = w
  ·subst e; simp
  ·have : ¬ w = k := fun q => e q.symm
   simp [e, this]
 | cons p ws ih =>
  simp only [List.cons_append, gS, ih, List.any_append, List.any_cons, List.any_nil, Bool.or_false]
  by_cases e : k = w
  ·subst e; simp
  ·have h1 : ((w == k) : Bool) = false := by simpa using fun q => e q.symm
   rw [h1, Bool.or_false];simp only [if_neg e]
theorem Hv (ws : List (Int × Int)) (k : Int) (j : Nat) (hj : j < ws.length) : gS (ws.take (j + 1)) k = if k = ws[j].1 then ws[j].2 else gS (ws.take j) k := by
 rw [List.take_succ_eq_append_getElem hj];exact vF ws[j].1 ws[j].2 k (ws.take j)
theorem oX (ws : List (Int × Int)) : (fF ws).length = 2 * ws.length := by
 unfold fF
 induction ws with
 | nil => rfl
 | cons p ws ih => rw [List.flatMap_cons, vm, ih]; simp; omega
theorem Th : ∀ (ws : List (Int × Int)) (j : Nat) (hj : j < ws.length), (fF ws)[2 * j]? = some ws[j].1 ∧ (fF ws)[2 * j + 1]? = some ws[j].2 := by
 intro ws
 induction ws with
 | nil => intro j hj; simp at hj
 | cons p ws ih =>
  intro j hj
  cases j with
  | zero => exact ⟨rfl, rfl⟩
  | succ j =>
   have h := ih j (by simpa using hj);have e : fF (p :: ws) = p.1 :: p.2 :: fF ws := rfl;rw [e, show 2 * (j + 1) = 2 * j + 2 from by omega];exact h
theorem Xs (x : Pt) : ∀ (l : List Pt) (k : Nat), k ≤ l.length → (∀ j p, k ≤ j → l[j]? = some p → x.step < p.step) → (∀ p, 0 < k → l[k - 1]? = some p → p.step ≤ x.step) → u5 x l = l.take k ++ x :: l.drop k := by
 intro l
 induction l with
 | nil => intro k hk _ _; simp at hk; subst hk; rfl
 | cons y l ih =>
  intro k hk h1 h2
  cases k with
  | zero =>
   have hy := h1 0 y (bJ _) rfl
   have hno : ¬ (y.step ≤ x.step ∨ (l.any fun z => decide (z.step ≤ x.step)) = true) := by
    rintro (h | h)
    ·omega
    ·obtain ⟨z, hz, hzs⟩ := List.any_eq_true.1 h
     obtain ⟨j, hj⟩ := List.mem_iff_getElem?.1 hz;have := h1 (j + 1) z (by omega) (by simpa using hj)
     have hzs : z.step ≤ x.step := by simpa using hzs
     omega
   rw [u5, if_neg hno]
   rfl
  | succ k =>
   have hyes : y.step ≤ x.step ∨ (l.any fun z => decide (z.step ≤ x.step)) = true := by
    cases k with
    | zero => exact .inl (h2 y (by omega) rfl)
    | succ k =>
     right
     have hkl : k < l.length := by simp at hk; omega
     rw [List.any_eq_true];refine ⟨l[k], S4 hkl, ?_⟩;have := h2 l[k] (by omega) (by simp [hkl])
     simpa using this
   rw [u5, if_pos hyes, ih k (by simpa using hk) (fun j p hj hp => h1 (j + 1) p (by omega) (by simpa using hp)) (fun p hk0 hp => h2 p (by omega) (by
    rw [show k + 1 - 1 = (k - 1) + 1 from by omega]; simpa using hp))]
   rfl
theorem IO (l : List Pt) (x : Pt) : bU (l ++ [x]) = u5 x (bU l) := by
 unfold bU;rw [List.foldl_append]; rfl
theorem SZ (x : Pt) : ∀ l : List Pt, (u5 x l).length = l.length + 1 := by
 intro l
 induction l with
 | nil => rfl
 | cons y l ih => rw [u5]; split <;> simp [ih]
theorem KY (l : List Pt) : (bU l).length = l.length := by
 have : ∀ (l acc : List Pt), (l.foldl (fun acc x => u5 x acc) acc).length = acc.length + l.length := by
  intro l
  induction l with
  | nil => intro acc; rfl
  | cons x l ih => intro acc; rw [List.foldl_cons, ih, SZ]; simp; omega
 have h := this l []
 simpa [bU] using h
theorem ZP (e b : Nat) (he : 0 < e) (H : AH) : e8 e b (.slice none 0 0) (.slice none 0 0) H = some (.slice none 0 0, H) := by
 unfold e8
 have : ln e (.slice none 0 0) H = some (0, []) := by simp [ln]
 rw [this];simp [he]
theorem Y8 {α : Type} {P R : SP} {H : AH} {e : Nat} {enc : α → List Value} {l : List α} {s : Value} (h : ae P H) [f : Ts P s α e enc l R] : s.cells.toList = [s] ∧ [s].all Value.oneCell' = true := by
 rcases o9 h (enc := enc) (s := s) with ⟨rfl, _, _⟩ | ⟨bb, rfl, _⟩ <;> exact ⟨rfl, rfl⟩
theorem Kk {α : Type} {P R : SP} {H : AH} {e : Nat} {enc : α → List Value} {l : List α} {s : Value} {lo hi : Option Value} {a b : Nat} (h : ae P H) [f : Ts P s α e enc l R] [E : Enc enc e] (hlo : (lo = none ∧ a = 0) ∨ ∃ k, lo = some (.int k (a : Int)))
 (hhi : (hi = none ∧ b = l.length) ∨ ∃ k, hi = some (.int k (b : Int))) (h1 : a ≤ b) (h2 : b ≤ l.length) : ∃ s', fE e s lo hi = some s' ∧ Rd P s' e enc ((l.take b).drop a) := by
 haveI : Rd P s e enc l := by rw [f.eq]; infer_instance
 by_cases h0 : 0 < l.length
 ·exact Yx h hlo hhi h1 h2 h0
 ·have hl : l = [] := List.eq_nil_of_length_eq_zero (by omega)
  subst hl
  have hb0 : b = 0 := by simpa using h2
  subst hb0
  have ha0 : a = 0 := by omega
  subst ha0;have hpos := E.pos
  have rd0 : ∀ s', (∃ a c, s' = .slice a 0 c ∧ (a = none → c = 0) ∧ (∀ x, a = some x → ∃ b o, x = ⟨b, o, none⟩)) → Rd P s' e enc (([] : List α).take 0 |>.drop 0) := by
   rintro s' ⟨a, c, rfl, q1, q2⟩
   exact ⟨fun {H'} _ => ⟨by simp, .inl ⟨a, c, rfl, rfl, q1, q2⟩⟩⟩
  rcases o9 h (enc := enc) (s := s) with ⟨rfl, _, _⟩ | ⟨bb, rfl, _⟩
  ·refine ⟨.slice none 0 0, ?_, rd0 _ ⟨none, 0, rfl, fun _ => rfl, fun x hx => (by cases hx)⟩⟩
   rcases hlo with ⟨rfl, _⟩ | ⟨k1, rfl⟩ <;> rcases hhi with ⟨rfl, _⟩ | ⟨k2, rfl⟩ <;> simp [fE, m8]
  ·refine ⟨.slice (some ⟨bb, 0, none⟩) 0 e, ?_, rd0 _ ⟨some ⟨bb, 0, none⟩, e, rfl, fun h => (by cases h), fun x hx => ⟨bb, 0, (e7 hx).symm⟩⟩⟩
   rcases hlo with ⟨rfl, _⟩ | ⟨k1, rfl⟩ <;> rcases hhi with ⟨rfl, _⟩ | ⟨k2, rfl⟩ <;> simp [fE, m8, hpos]
abbrev aY.begin (σ : aY) (who place : Int) : aY := { σ with places := fun k => if k = who then some place else σ.places k, μ := { σ.μ with N := σ.μ.N + 1 } }
theorem ad6 (p : Nat) (rp : List Nat) (σ : aY) (who place : Int) : Sp ia [vp p, vi who, vi place] (aX p rp σ) (fun _ : Unit => .tuple #[]) (fun _ => aX p rp (σ.begin who place)) := by
 refine aJ fun R H h => ?_;obtain ⟨g, hrp, hg, h0⟩ := dt h;unfold az at h0;refine bm (fun r => qN _ _ _ H) ?_;refine ai h0 ac rfl ?_;refine Zj (ek := KE) who (vi place) h0 fun H1 h1 => ?_;refine ap ⟨(), rfl, ?_⟩;refine bz g hrp hg ?_;unfold az;dsimp only
 have e : (fun k => ((if k = who then some place else σ.places k) : Option Int).map fun n => vi n) = fun x => if x = who then some (vi place) else (σ.places x).map fun n => vi n := by
  funext k
  split <;> rfl
 rw [e];have h2 := jb (V := σ.μ.V) (E := σ.μ.E) (N := σ.μ.N) (N' := σ.μ.N + 1) (by omega) (ae.fr (A := bD g.m σ.μ) h1);exact h2.to
theorem afL (p : Nat) (σ : aY) (who place : Int) (hN : σ.μ.N < 1000000000) : Sp jh [vp p, vi who, vi place] (aI p σ) (fun _ : Unit => .tuple #[]) (fun _ => aI p (σ.begin who place)) := by
 refine aJ fun R H h => ?_;obtain ⟨g, ⟨hg1, hg2, hg3⟩, h0⟩ := dP h;unfold ar at h0;refine bm (fun r => tQ _ _ _ H) ?_;refine ai h0 ac rfl ?_;refine QG (cs := [vi who, vi place]) h0 rfl fun b H1 h1 => ?_;have h2 := AO (e := 1) (enc := fp) (l := [who, place]) h1;refine Ij (s := g.wv) (l := fF g.ws) (m := [who, place]) h2 ?_ (by omega) fun v H2 h3 => ?_
 ·rw [oX]; unfold dc; simp; omega
 have hc := Y8 (s := v) (enc := fp) (l := fF g.ws ++ [who, place]) h3
 haveI : uj v [v] := ⟨hc.1⟩
 dsimp only;refine bg h3 ac rfl hc.2 fun H3 h4 => ?_;refine ap ⟨(), rfl, ?_⟩
 have e2 : fF (g.ws ++ [(who, place)]) = fF g.ws ++ [who, place] := by simp [fF]
 refine cH { g with wv := v, ws := g.ws ++ [(who, place)] } ⟨hg1, fun k => ?_, by simp; omega⟩ ?_
 ·show gS (g.ws ++ [(who, place)]) k = _
  rw [vF, hg2];show _ = ((if k = who then some place else σ.places k)).getD 0
  split <;> rfl
 unfold ar;dsimp only;rw [e2];have h5 := vq (V := σ.μ.V) (E := σ.μ.E) (N := σ.μ.N) (N' := σ.μ.N + 1) (by omega) (ae.fr (A := bI g.m σ.μ) h4);have h6 := mR (L' := σ.μ.N + 1) (by omega) (ae.fr (A := gG g.ib g.m σ.c.sh σ.nx σ.μ.N) h5);exact h6.to
theorem ag0 (p : Nat) (g : XIds) (σ : aY) (step who code : Int) (hpl : gS g.ws who = (σ.places who).getD 0) (hw : g.ws.length < 1000000000) (hp : σ.pts.length < 900000) :
 Sp XN [vp p, vi step, vi who, .agg (gW code).toArray] (ar p g σ) (fun _ : Value => .tuple #[]) (fun v => ar p { g with pv := v } (σ.note step who code)) := by
 refine bn (ae3 _ _ _ _) fun R H h => ?_;refine be h fun rb H1 h1 => ?_;refine ah (TD _ _ _ _ _ H1) ?_;refine ah (MP _ _ _ _ _ _ H1) ?_;have place : ∀ (d j : Nat), j + d = g.ws.length → wp (MM (vp p) (vi step) (vi who) (vp rb) (vi (gS g.ws who)) H1) (fun v' H' => ∃ x : Value, v' = .tuple #[] ∧ ae (ar p { g with pv := x } (σ.note step who code) * R) H') →
  wp (AK (vp p) (vi step) (vi who) (vp rb) (vi (gS (g.ws.take j) who)) (vi ((2 * j : Nat) : Int)) H1) (fun v' H' => ∃ x : Value, v' = .tuple #[] ∧ ae (ar p { g with pv := x } (σ.note step who code) * R) H') := by
  have h2 := h1;unfold ar at h2;intro d
  induction d with
  | zero =>
   intro j hj hk;refine ah (CS _ _ _ _ _ _ H1) ?_;refine ai h1 ac rfl ?_;refine jW (s := g.wv) (l := fF g.ws) h2 ?_;rw [oX];refine aa (bW (by omega)) ?_;refine gs ?_;refine ah (HN _ _ _ _ _ H1) ?_;rw [List.take_of_length_le (by omega)];exact hk
  | succ d ih =>
   intro j hj hk
   have hjl : j < g.ws.length := by omega
   obtain ⟨a1, a2⟩ := Th g.ws j hjl;have hlen := oX g.ws;refine ah (CS _ _ _ _ _ _ H1) ?_;refine ai h1 ac rfl ?_;refine jW (s := g.wv) (l := fF g.ws) h2 ?_;rw [oX];refine aa (cP (by omega)) ?_;refine gs ?_;refine ah (MQ _ _ _ _ _ _ H1) ?_;refine ai h1 ac rfl ?_;refine kQ (s := g.wv) (l := fF g.ws) (i := 2 * j) (v := vi g.ws[j].1) h2 (by omega) ?_ ?_
   ·rw [cA (by omega)] at a1
    rw [e7 a1]; rfl
   have next : ∀ pl : Int, gS (g.ws.take (j + 1)) who = pl → wp (AL (vp p) (vi step) (vi who) (vp rb) (vi pl) (vi ((2 * j : Nat) : Int)) H1) (fun v' H' => ∃ x : Value, v' = .tuple #[] ∧ ae (ar p { g with pv := x } (σ.note step who code) * R) H') := by
    intro pl hpl2;refine ah (MR _ _ _ _ _ _ H1) ?_;refine aa (aR (by omega) (by omega)) ?_;have := ih (j + 1) (by omega) hk;rw [hpl2] at this;rw [show ((2 * j : Nat) : Int) + 2 = ((2 * (j + 1) : Nat) : Int) from by omega];exact this
   have ht := Hv g.ws who j hjl
   by_cases hwho : g.ws[j].1 = who
   ·refine aa (ba hwho) ?_
    refine gs ?_;refine ai h1 ac rfl ?_;refine aa (aR (by omega) (by omega)) ?_;rw [show ((2 * j : Nat) : Int) + 1 = ((2 * j + 1 : Nat) : Int) from by omega];refine kQ (s := g.wv) (l := fF g.ws) (i := 2 * j + 1) (v := vi g.ws[j].2) h2 (by omega) ?_ ?_
    ·rw [cA (by omega)] at a2
     rw [e7 a2]; rfl
    exact next _ (by rw [ht, if_pos hwho.symm])
   ·refine aa (aC hwho) ?_
    refine gs ?_;exact next _ (by rw [ht, if_neg (fun q => hwho q.symm)])
 refine place g.ws.length 0 (by omega) ?_;rw [hpl];refine ah (TE _ _ _ _ _ H1) ?_;refine ai h1 aD rfl ?_;refine ah (show ((e8 3 24 (.slice none 0 0) (.slice none 0 0) H1).bind _) = _ from by rw [ZP 3 24 (by omega)]) ?_;refine bg h1 aD rfl rfl fun H2 h2 => ?_;refine ai h2 ac rfl ?_;have h2u := h2;unfold ar at h2u;have hlen := KY σ.pts;refine jW (s := g.pv) (l := bU σ.pts) h2u ?_;refine ah (TG _ _ _ _ _ _ H2) ?_
 -- behind all that are not behind it
 have put : ∀ k, k ≤ (bU σ.pts).length → (∀ j p, k ≤ j → (bU σ.pts)[j]? = some p → step < p.step) → (∀ p, 0 < k → (bU σ.pts)[k - 1]? = some p → p.step ≤ step) →
  wp (MO (vp p) (vi step) (vi who) (vp rb) (vi ((σ.places who).getD 0)) (vi (k : Int)) H2) (fun v' H' => ∃ x : Value, v' = .tuple #[] ∧ ae (ar p { g with pv := x } (σ.note step who code) * R) H') := by
  intro k hk ha hb;have hins := Xs ⟨step, who, (σ.places who).getD 0, code⟩ (bU σ.pts) k hk ha hb;refine ah (TH _ _ _ _ _ _ H2) ?_;refine ai h2 ac rfl ?_;have q1 : ae (ts 7 Pt.cells g.pv (bU σ.pts)) H2 := h2u.to;obtain ⟨s1, e1, r1⟩ := Kk (s := g.pv) (l := bU σ.pts) (lo := none) (hi := some (vi (k : Int))) (a := 0) (b := k) q1 (.inl ⟨rfl, rfl⟩) (.inr ⟨_, rfl⟩) (Nat.zero_le _) hk;refine aa e1 ?_;have h3 := ee 7 Pt.cells h2u;refine Ij (s := .slice none 0 0) (l := ([] : List Pt)) (m := ((bU σ.pts).take k).drop 0) h3 ?_ (by omega) fun v3 H3 h4 => ?_
  ·unfold dc; simp only [List.length_drop, List.length_take, List.length_nil]; omega
  rw [List.nil_append, List.drop_zero] at h4;refine aW h4 ?_;refine iW ?_;refine KI h4 fun b0 H5 h5 => ?_;refine ig (s := v3) (l := (bU σ.pts).take k) (⟨step, who, (σ.places who).getD 0, code⟩ : Pt) h5 rfl ?_ (by omega) fun a cc H6 h6 => ?_
  ·unfold dc; simp only [List.length_take]; omega
  refine ai h6 ac rfl ?_;have q2 : ae (ts 7 Pt.cells g.pv (bU σ.pts)) H6 := h6.to;obtain ⟨s2, e2, r2⟩ := Kk (s := g.pv) (l := bU σ.pts) (lo := some (vi (k : Int))) (hi := none) (a := k) (b := (bU σ.pts).length) q2 (.inr ⟨_, rfl⟩) (.inl ⟨rfl, rfl⟩) hk (bJ _);refine aa e2 ?_;refine Ij (s := .slice a (((bU σ.pts).take k).length + 1) cc) (l := (bU σ.pts).take k ++ [(⟨step, who, (σ.places who).getD 0, code⟩ : Pt)]) (m := ((bU σ.pts).take (bU σ.pts).length).drop k) h6 ?_ (by omega) fun v4 H7 h7 => ?_
  ·unfold dc; simp only [List.length_drop, List.length_take, vm, List.length_cons, List.length_nil]; omega
  have hc := Y8 (s := v4) (enc := Pt.cells) (l := ((bU σ.pts).take k ++ [(⟨step, who, (σ.places who).getD 0, code⟩ : Pt)]) ++ ((bU σ.pts).take (bU σ.pts).length).drop k) h7
  haveI : uj v4 [v4] := ⟨hc.1⟩
  dsimp only;refine bg h7 ac rfl hc.2 fun H8 h8 => ?_;refine ap ⟨v4, rfl, ?_⟩
  have e3 : bU (σ.note step who code).pts = ((bU σ.pts).take k ++ [(⟨step, who, (σ.places who).getD 0, code⟩ : Pt)]) ++ ((bU σ.pts).take (bU σ.pts).length).drop k := by
   show bU (σ.pts ++ [_]) = _;rw [IO, hins, List.take_length];simp
  unfold ar;dsimp only;rw [e3];exact h8.to
 have down : ∀ (k : Nat), k ≤ (bU σ.pts).length → (∀ j p, k ≤ j → (bU σ.pts)[j]? = some p → step < p.step) →
  wp (AJ (vp p) (vi step) (vi who) (vp rb) (vi ((σ.places who).getD 0)) (vi (k : Int)) H2) (fun v' H' => ∃ x : Value, v' = .tuple #[] ∧ ae (ar p { g with pv := x } (σ.note step who code) * R) H') := by
  intro k
  induction k with
  | zero =>
   intro hk ha;refine ah (CR _ _ _ _ _ _ H2) ?_;refine aa (g6 (by omega)) ?_;refine gs ?_;refine ah (v5 _ _ _ _ _ _ H2) ?_;exact put 0 hk ha (fun p h => absurd h (by omega))
  | succ k ih =>
   intro hk ha
   have hkl : k < (bU σ.pts).length := by omega
   refine ah (CR _ _ _ _ _ _ H2) ?_;refine aa (nZ (by omega)) ?_;refine gs ?_;refine ai h2 ac rfl ?_;refine gs ?_;refine aa (nN (by omega) (by omega)) ?_;rw [show ((k + 1 : Nat) : Int) - 1 = (k : Int) from by omega];refine gs ?_;refine rm (s := g.pv) (l := bU σ.pts) (v := vi ((bU σ.pts)[k]).step) h2u hkl (by omega) rfl ?_;refine gs ?_
   by_cases hs : step < ((bU σ.pts)[k]).step
   ·refine aa (nZ hs) ?_
    refine gs ?_;refine ah (MN _ _ _ _ _ _ H2) ?_;refine aa (nN (by omega) (by omega)) ?_;rw [show ((k + 1 : Nat) : Int) - 1 = (k : Int) from by omega];refine ih (by omega) fun j p hj hp => ?_
    by_cases e : j = k
    ·subst e
     rw [cA hkl] at hp;rw [← e7 hp]; exact hs
    ·exact ha j p (by omega) hp
   ·refine aa (g6 hs) ?_
    refine gs ?_;refine ah (v5 _ _ _ _ _ _ H2) ?_;refine put (k + 1) hk ha fun p _ hp => ?_;rw [show k + 1 - 1 = k from by omega, cA hkl] at hp;rw [← e7 hp]; omega
 exact down (bU σ.pts).length (bJ _) fun j p hj hp => by
  rw [List.getElem?_eq_none hj] at hp; cases hp
structure Xk where
 a : Nat
 I : Nat
 free : Int
 hit : Bool
 obj : Nat
 w : Nat
 h : Nat
 q : Nat
 top : Nat
 mark : Int
 code : Int
abbrev xB (x P : Nat) (t : Tk) (k : Xk) : SP :=
 blk x (.cells false [vp P, vi t.who, vi t.x.op, vi t.x.flow, vi t.x.a, vi t.x.b, vi k.a, vi k.I, vi k.free, vb k.hit, vi k.obj, vu k.w, vu k.h, vu k.q, vw 0, vu k.top, vi k.mark, vi k.code, .slice none 0 0, vi 0, vw 0,
  vi 0, vi 0, .slice none 0 0, vw 0, vw 0, vi 0, vi 0, vi 0, vb false, vi 0, .slice none 0 0, vi 0, vw 0])
def ii (t : Tk) (k : Xk) : Prop := k.a = t.at' ∧ match t.at' with
 | 0 => k.I = t.i ∧ k.hit = false
 | 2 => k.I = t.i ∧ k.hit = false
 | 4 => k.I = t.i ∧ k.hit = false
 | 5 => k.hit = t.found ∧ (t.found = true → k.obj = t.obj) ∧ (t.found = false → k.code = t.code)
 | 6 => k.obj = t.obj
 | 7 => k.obj = t.obj
 | 8 => k.obj = t.obj ∧ k.w = t.w
 | 9 => k.obj = t.obj ∧ k.w = t.w
 | 10 => k.obj = t.obj ∧ k.w = t.w ∧ k.q = 0 ∧ k.code = t.code
 | 11 => k.obj = t.obj ∧ k.w = t.w ∧ k.code = t.code
 | 12 => k.obj = t.obj ∧ k.w = t.w
 | 13 => k.obj = t.obj ∧ k.w = t.w
 | 14 => k.obj = t.obj ∧ k.w = t.w ∧ k.q = 1 ∧ k.code = t.code
 | 15 => k.obj = t.obj
 | 16 => k.obj = t.obj ∧ k.q = t.q
 | 17 => k.obj = t.obj ∧ k.w = t.w ∧ k.q = t.q
 | 18 => k.obj = t.obj ∧ k.q = t.q ∧ k.mark = t.mark
 | 20 => k.obj = t.obj
 | 21 => k.obj = t.obj ∧ k.w = t.w ∧ k.code = t.code
 | 22 => k.obj = t.obj ∧ k.code = t.code
 | 23 => k.obj = t.obj ∧ k.top = t.top ∧ k.code = t.code
 | 24 => k.obj = t.obj ∧ k.top = t.top ∧ k.code = t.code
 | 25 => k.code = t.code
 | _ => True
def xP (x P : Nat) (σ : aY) (t : Tk) : SP := ex fun k : Xk => pu (ii t k) * (xB x P t k * aI P σ)
def xQ (x P : Nat) (r : aY × Tk × Bool) : SP := ex fun k : Xk => pu (if r.2.2 = true then k.code = r.2.1.code else ii r.2.1 k) * (xB x P r.2.1 k * aI P r.1)
section
variable {x P : Nat} {g : XIds} {σ σ' : aY} {t t' : Tk} {R : SP} {H : AH} {r : aY × Tk × Bool} {k : Xk}
theorem cN (h : ae (xP x P σ t * R) H) : ∃ (k : Xk) (g : XIds), ii t k ∧ eK g σ ∧ ae (xB x P t k * (ar P g σ * R)) H := by
 obtain ⟨k, h1⟩ := ae.ex.1 h;rw [aj, ae.pu] at h1;obtain ⟨g, h2, h3⟩ := dP (p := P) (σ := σ) (R := xB x P t k * R) (H := H) h1.2.to;exact ⟨k, g, h1.1, h2, h3.to⟩
theorem du (hr : r = (σ', t', false)) (hR : ii t' k) (hg : eK g σ') (h : ae (xB x P t' k * (ar P g σ' * R)) H) : ∃ y : Unit, (vb false : Value) = vb r.2.2 ∧ ae (xQ x P r * R) H := by
 subst hr;refine ⟨(), rfl, ae.ex.2 ⟨k, ?_⟩⟩;rw [aj, ae.pu];have h1 := cH (p := P) (σ := σ') (R := xB x P t' k * R) g hg h.to;exact ⟨hR, h1.to⟩
theorem DA (hr : r = (σ', t', true)) (hc : k.code = t'.code) (hg : eK g σ') (h : ae (xB x P t' k * (ar P g σ' * R)) H) : ∃ y : Unit, (vb true : Value) = vb r.2.2 ∧ ae (xQ x P r * R) H := by
 subst hr;refine ⟨(), rfl, ae.ex.2 ⟨k, ?_⟩⟩;rw [aj, ae.pu];have h1 := cH (p := P) (σ := σ') (R := xB x P t' k * R) g hg h.to;exact ⟨hc, h1.to⟩
theorem dE {c : iX} {μ' : Mu} {obs' : List (Ob × List Pk)} {nx' : Int → Option Nat} {pts' : List Pt} {pv : Value} (h : eK g σ) (hN : σ.μ.N ≤ μ'.N) (ho : obs'.length = σ.obs.length) : eK { g with pv := pv } ⟨c, μ', obs', nx', σ.places, pts'⟩ :=
 ⟨h.1.trans ho.symm, h.2.1, d8 h.2.2 hN⟩
theorem aw {c : iX} {μ' : Mu} {obs' : List (Ob × List Pk)} {nx' : Int → Option Nat} {pts' : List Pt} (h : eK g σ) (hN : σ.μ.N ≤ μ'.N) (ho : obs'.length = σ.obs.length) : eK g ⟨c, μ', obs', nx', σ.places, pts'⟩ :=
 ⟨h.1.trans ho.symm, h.2.1, d8 h.2.2 hN⟩
end
section
variable (x P : Nat) (g : XIds) (σ : aY) (t : Tk) (k : Xk)
theorem jx (hl : g.rp.length = σ.obs.length) (b : Nat) (ho : k.obj < σ.obs.length) (hb : g.rp[k.obj]? = some b) : Sp bT [vp x] (xB x P t k * ar P g σ) (fun _ : Unit => vp b) (fun _ => xB x P t k * ar P g σ) := by
 refine bn (xM _) fun R H h => ?_;refine ai h ac rfl ?_;refine ai h ac rfl ?_;refine ai h ac rfl ?_;have h2 := h;unfold ar at h2;refine kQ (s := g.rv) (l := g.rp) (v := vp b) h2 (by omega) ?_ ?_
 ·rw [cA (by omega)] at hb
  rw [e7 hb]
 exact ap ⟨(), rfl, h⟩
theorem wF (hw : k.w < 18446744073709551616) : Sp fA [vp x] (xB x P t k) (fun _ : Unit => vu (bk k.w)) (fun _ => xB x P t k) := by
 refine bn (vY _) fun R H h => ?_;refine ai h ac rfl ?_;refine af h (ol k.w hw) fun _ H1 h1 => ?_;refine aa (v := vu (bk k.w)) rfl ?_;refine aa (v := vi (bv k.w)) rfl ?_;refine aa (v := vb (dM k.w)) rfl ?_;exact ap ⟨(), rfl, h1.to⟩
theorem AQ (S : SOk σ) (hl : g.rp.length = σ.obs.length) (b : Nat) (ho : k.obj < σ.obs.length) (hb : g.rp[k.obj]? = some b) :
 Sp ej [vp x] (xB x P t k * ar P g σ) (fun _ : Unit => vi (bv (σ.μ.V (11, (k.obj : Int), 0)))) (fun _ => xB x P t { k with w := σ.μ.V (11, (k.obj : Int), 0) } * ar P g (σ.mem (σ.μ.acc t.who 1 (11, (k.obj : Int), 0)))) := by
 have hN : σ.μ.N < 1099511627000 := by have := S.N; omega
 refine bn (xO _) fun R H h => ?_;refine af h (jx x P g σ t k hl b ho hb) fun _ H1 h1 => ?_;refine bA ac ?_;refine aN h1 rfl ?_;refine aH h h1 (by rfl) ?_;refine af h1 (kg (p := P) (μ' := σ.μ.acc t.who 1 (11, (k.obj : Int), 0)) (by simp) hl ho hb (Nz g.m k.obj b (aA σ k.obj) σ.μ t.who hN)) fun _ H2 h2 => ?_;refine bg h2 ac rfl rfl fun H3 h3 => ?_;refine ai h3 ac rfl ?_;refine af h3 (ol _ (S.V _)) fun _ H4 h4 => ?_;refine aa (v := vu (bk (σ.μ.V (11, (k.obj : Int), 0)))) rfl ?_;refine aa (v := vi (bv (σ.μ.V (11, (k.obj : Int), 0)))) rfl ?_;refine aa (v := vb (dM (σ.μ.V (11, (k.obj : Int), 0)))) rfl ?_;exact ap ⟨(), rfl, h4.to⟩
theorem jw (hg : eK g σ) (now e : Int) (hN : σ.μ.N < 1000000000) (hp : σ.pts.length < 900000) :
 Sp bC [vp x, vi now, vi e] (xB x P t k * ar P g σ) (fun _ : Value => .tuple #[]) (fun v => xB x P t { k with code := e } * ar P { g with pv := v } (σ.note now t.who e)) := by
 refine bn (xL _ _ _) fun R H h => ?_;refine iW ?_;refine bg h ac rfl rfl fun H1 h1 => ?_;refine ai h1 ac rfl ?_;refine ai h1 ac rfl ?_;refine QD h1 ac ?_;refine af h1 (ag0 P g σ now t.who e (hg.2.1 _) (by have := hg.2.2; omega) hp) fun v H2 h2 => ?_;exact ap ⟨v, rfl, h2.to⟩
def yi (t1 : Tk) (k k' : Xk) : Prop := k'.a = k.a ∧ k'.w = k.w ∧ k'.q = k.q ∧ k'.top = k.top ∧ k'.mark = k.mark ∧ k'.code = k.code ∧ (t1.found = true → k'.hit = true ∧ k'.obj = t1.obj) ∧ (t1.found = false → k'.hit = k.hit ∧ k'.I = k.I + 1)
theorem QL (S : SOk σ) (T : gX σ t) (hI : k.I = t.i) (hi : (t.i : Int) < σ.c.sl) :
 Sp Cx [vp x] (xB x P t k * ar P g σ) (fun _ : Xk => .tuple #[vb (aO σ t).found, vb (!(aO σ t).found && cr σ (aO σ t))]) (fun k' => pu (yi (aO σ t) k k') * (xB x P t k' * ar P g (aV σ t))) := by
 have hN : σ.μ.N < 1099511627000 := by have := S.N; omega
 have hc := bF.1 S.c;refine bn (Yt _) fun R H h => ?_;refine bA ac ?_;refine aN h rfl ?_;refine bA ac ?_;refine aN h rfl ?_;refine bA ac ?_;refine aN h rfl ?_;refine ai h ac rfl ?_;refine ai h ac rfl ?_;refine ai h (b7 (aL (aL aZ))) rfl ?_;refine af h (Ab (p := P) (g := g) (σ := σ) (ly g.tb g.m σ.c.sh.toNat σ.c.sl.toNat (by omega) t.x.flow)) fun _ H1 h1 => ?_;refine aH h1 h (by rfl) ?_;refine aH h1 h (by rfl) ?_;refine aH h1 h (by rfl) ?_
 have es : vi ((t.x.flow.tmod (σ.c.sh.toNat : Int) + (σ.c.sh.toNat : Int)).tmod (σ.c.sh.toNat : Int)) = vi t.s := by rw [T.s, show ((σ.c.sh.toNat : Nat) : Int) = σ.c.sh from by omega]
 rw [es];refine bA ac ?_;refine aN h1 rfl ?_;refine aH h h1 (by rfl) ?_;rw [hI]
 have ek : k = { k with I := t.i } := by rw [← hI]
 rw [ek] at h1;refine af h1 (oB (p := P) (g := g) (σ := σ) (μ' := σ.μ.acc t.who 1 (10, t.s, (t.i : Int))) (by simp) (E4 g.tb g.m σ.c.sh.toNat σ.c.sl.toNat σ.μ t.who t.s t.i hN (S.V _))) fun _ H2 h2 => ?_;have tail : ∀ (k' : Xk) (H' : AH), yi { aO σ t with found := false } { k with I := t.i } { k' with I := t.i + 1 } → k'.I = t.i → (aO σ t).found = false → ae (xB x P t k' * (ar P g (aV σ t) * R)) H' →
  wp (CW (vp x) (vb false) (vb false) H') fun v' H' => ∃ k' : Xk, v' = .tuple #[vb (aO σ t).found, vb (!(aO σ t).found && cr σ (aO σ t))] ∧ ae (pu (yi (aO σ t) k k') * (xB x P t k' * ar P g (aV σ t)) * R) H' := by
  intro k' H' hX hI' hf h';refine ah (Fb ..) ?_;refine ai h' ac rfl ?_;rw [hI'];refine aa (aR (by omega) (by omega)) ?_;rw [show ((t.i : Nat) : Int) + 1 = ((t.i + 1 : Nat) : Int) from by omega];refine bg h' ac rfl rfl fun H3 h3 => ?_;refine ai h3 ac rfl ?_;refine ai h3 ac rfl ?_;refine ai h3 ac rfl ?_;have h4 := h3;unfold ar tab at h4;refine ai h4 ac rfl ?_;refine aa (v := vb (cr σ (aO σ t))) ?_ ?_
  ·rw [rC]
   congr 3
   show ((σ.c.sl.toNat : Int) ≤ _) = (σ.c.sl ≤ ((t.i + 1 : Nat) : Int));apply propext;omega
  refine ap ⟨{ k' with I := t.i + 1 }, by rw [hf]; rfl, ?_⟩;rw [aj, ae.pu];refine ⟨?_, h3.to⟩
  have e0 : aO σ t = { aO σ t with found := false } := by rw [← hf]
  rw [e0]
  simpa [yi, hI] using hX
 by_cases hv : σ.μ.V (10, t.s, (t.i : Int)) = 0
 ·have e1 : g8 (σ.μ.V (10, t.s, (t.i : Int))) = .tuple #[vi 0, vi 0, vb false] := by rw [g8, if_pos hv]
  have hf : (aO σ t).found = false := ez fun q => q.1 hv;rw [e1];refine aa (v := vi 0) rfl ?_;refine aa (v := vi 0) rfl ?_;refine aa (v := vb false) rfl ?_;refine gs ?_;refine ah (se ..) ?_;refine gs ?_;rw [Bool.not_false];refine gs ?_;refine ai h2 ac rfl ?_
  by_cases hfr : k.free < 0
  ·refine lw ?_
   refine aa (cP hfr) ?_;refine gs ?_;refine ai h2 ac rfl ?_;refine bg h2 ac rfl rfl fun H3 h3 => ?_;exact tail { k with I := t.i, free := t.i } H3 (by simp [yi]) rfl hf h3.to
  ·refine lw ?_
   refine aa (bW hfr) ?_;refine gs ?_;exact tail { k with I := t.i } H2 (by simp [yi]) rfl hf h2.to
 ·have e1 : g8 (σ.μ.V (10, t.s, (t.i : Int))) = .tuple #[vi ((σ.μ.V (10, t.s, (t.i : Int)) / 4294967296 : Nat) - 1), vi (σ.μ.V (10, t.s, (t.i : Int)) % 4294967296 : Nat), vb true] := by rw [g8, if_neg hv]
  rw [e1];refine aa (v := vi ((σ.μ.V (10, t.s, (t.i : Int)) / 4294967296 : Nat) - 1)) rfl ?_;refine aa (v := vi (σ.μ.V (10, t.s, (t.i : Int)) % 4294967296 : Nat)) rfl ?_;refine aa (v := vb true) rfl ?_;refine gs ?_;refine ai h2 (b7 (aL (aL aZ))) rfl ?_;refine lw ?_
  by_cases hf : ((σ.μ.V (10, t.s, (t.i : Int)) / 4294967296 : Nat) : Int) - 1 = t.x.flow
  ·have hfo : (aO σ t).found = true := fj ⟨hv, hf⟩
   have hob : (aO σ t).obj = σ.μ.V (10, t.s, (t.i : Int)) % 4294967296 := if_pos hfo;refine aa (ba hf) ?_;refine gs ?_;refine bg h2 ac rfl rfl fun H3 h3 => ?_;refine bg h3 ac rfl rfl fun H4 h4 => ?_;refine ap ⟨{ k with I := t.i, hit := true, obj := σ.μ.V (10, t.s, (t.i : Int)) % 4294967296 }, by rw [hfo]; rfl, ?_⟩;rw [aj, ae.pu];exact ⟨by simp [yi, hfo, hob], h4.to⟩
  ·have hfo : (aO σ t).found = false := ez fun q => hf q.2
   refine aa (aC hf) ?_;refine gs ?_;refine ah (se ..) ?_;refine gs ?_;rw [Bool.not_true];refine gs ?_;exact tail { k with I := t.i } H2 (by simp [yi]) rfl hfo h2.to
theorem Kw {R : SP} {H : AH} {Q : Value → AH → Prop} (now : Int) (S : SOk σ) (T : gX σ t) (h : ae (xB x P t k * (ar P g σ * R)) H)
 (hk : ∀ b H', ae (blk b (.cells false [vi t.x.flow, vi t.x.a, vi t.x.b]) * (xB x P t k * (ar P g σ * R))) H' → wp (MS (vp x) (vi now) (vb false) (vp P) (vi t.s) (vp b) H') Q) :
 wp (FF eH [vp x, vi now] H) Q := by
 have hc := bF.1 S.c;refine bm (fun r => ae4 _ _ H) ?_;refine bA ac ?_;refine aN h rfl ?_;refine ai h ac rfl ?_;refine ai h ac rfl ?_;refine ai h (b7 (aL (aL aZ))) rfl ?_;refine af h (Ab (p := P) (g := g) (σ := σ) (ly g.tb g.m σ.c.sh.toNat σ.c.sl.toNat (by omega) t.x.flow)) fun _ H1 h1 => ?_;refine aH h1 h (by rfl) ?_
 have es : vi ((t.x.flow.tmod (σ.c.sh.toNat : Int) + (σ.c.sh.toNat : Int)).tmod (σ.c.sh.toNat : Int)) = vi t.s := by rw [T.s, show ((σ.c.sh.toNat : Nat) : Int) = σ.c.sh from by omega]
 rw [es];refine ai h1 (b7 (aL (aL aZ))) rfl ?_;refine ai h1 (b7 (aL (aL aZ))) rfl ?_;refine ai h1 (b7 (aL (aL aZ))) rfl ?_;refine iW ?_;refine bp h1 fun b H2 h2 => ?_;refine eW h2 rfl rfl fun H3 h3 => ?_;exact hk b H3 h3.to
theorem bV {R : SP} {H : AH} {Q : Value → AH → Prop} (now : Int) (S : SOk σ) (T : gX σ t) (ha : k.a ≠ 0) (h : ae (xB x P t k * (ar P g σ * R)) H)
 (hk : ∀ b H', ae (blk b (.cells false [vi t.x.flow, vi t.x.a, vi t.x.b]) * (xB x P t k * (ar P g σ * R))) H' → wp (o6 (vp x) (vi now) (vb false) (vp P) (vi t.s) (vp b) (vi k.a) H') Q) :
 wp (FF eH [vp x, vi now] H) Q := by
 refine Kw x P g σ t k now S T h fun b H1 h1 => ?_;refine ah (E9 ..) ?_;refine ai h1 ac rfl ?_;refine aa (aC (by omega)) ?_;refine gs ?_;refine ah (Fa ..) ?_;refine ai h1 ac rfl ?_;exact hk b H1 h1
end
theorem nK {f : Nat} {args : List Value} {H : AH} {Q : Value → AH → Prop} (h : wp (FF f args H) Q) : wp ((FF f args H).bind fun r => some (r.1, r.2)) Q := by
 obtain ⟨v, H', e, q⟩ := h;rw [e]; exact ⟨v, H', rfl, q⟩
section
variable (x P : Nat) (σ : aY) (t : Tk) (now : Int)
theorem ch6 {x0 x1 x4 x5 x6 x7 : Value} {a : Nat} {H : AH} {Q : Value → AH → Prop} (h : a ≠ 2 ∧ a ≠ 3 ∧ a ≠ 4 ∧ a ≠ 5) (hk : wp ((ak .other .eql (vi (a : Int)) (vi 6)).bind fun v => HO x0 x1 x4 x5 x6 x7 (vi (a : Int)) v H) Q) : wp (o6 x0 x1 x4 x5 x6 x7 (vi (a : Int)) H) Q := by
 refine ah (lL ..) ?_;refine aa (aC (by omega)) ?_;refine ah (ox ..) ?_;refine gs ?_;refine aa (aC (by omega)) ?_;refine ah (o5 ..) ?_;refine gs ?_;refine aa (aC (by omega)) ?_;refine ah (tV ..) ?_;refine gs ?_;refine aa (aC (by omega)) ?_;refine ah (CT ..) ?_;refine gs ?_;exact hk
theorem ch8 {x0 x1 x4 x5 x6 x7 : Value} {a : Nat} {H : AH} {Q : Value → AH → Prop} (h : a ≠ 2 ∧ a ≠ 3 ∧ a ≠ 4 ∧ a ≠ 5 ∧ a ≠ 6 ∧ a ≠ 7) (hk : wp ((ak .other .eql (vi (a : Int)) (vi 8)).bind fun v => HP x0 x1 x4 x5 x6 x7 (vi (a : Int)) v H) Q) : wp (o6 x0 x1 x4 x5 x6 x7 (vi (a : Int)) H) Q := by
 refine ch6 (by omega) ?_;refine aa (aC (by omega)) ?_;refine ah (tW ..) ?_;refine gs ?_;refine aa (aC (by omega)) ?_;refine ah (CU ..) ?_;refine gs ?_;exact hk
theorem ad8 {x0 x1 x4 x5 x6 x7 : Value} {a : Nat} {H : AH} {Q : Value → AH → Prop} (h : a ≠ 2 ∧ a ≠ 3 ∧ a ≠ 4 ∧ a ≠ 5 ∧ a ≠ 6 ∧ a ≠ 7 ∧ a ≠ 8 ∧ a ≠ 9 ∧ a ≠ 13) (hk : wp ((ak .other .eql (vi (a : Int)) (vi 10)).bind fun v98 => au v98 (v7 x0 x1 x4 x5 x6 x7 (vi (a : Int)) v98 H) ((ak .other .eql (vi (a : Int)) (vi 14)).bind fun v99 => v7 x0 x1 x4 x5 x6 x7 (vi (a : Int)) v99 H)) Q) : wp (o6 x0 x1 x4 x5 x6 x7 (vi (a : Int)) H) Q := by
 refine ch8 (by omega) ?_;refine aa (aC (by omega)) ?_;refine ah (o7 ..) ?_;refine gs ?_;refine aa (aC (by omega)) ?_;refine gs ?_;refine aa (aC (by omega)) ?_;refine ah (tX ..) ?_;refine gs ?_;exact hk
theorem ad9 {x0 x1 x4 x5 x6 x7 : Value} {a : Nat} {H : AH} {Q : Value → AH → Prop} (h : a ≠ 2 ∧ a ≠ 3 ∧ a ≠ 4 ∧ a ≠ 5 ∧ a ≠ 6 ∧ a ≠ 7 ∧ a ≠ 8 ∧ a ≠ 9 ∧ a ≠ 10 ∧ a ≠ 13 ∧ a ≠ 14) (hk : wp ((ak .other .eql (vi (a : Int)) (vi 11)).bind fun v => HS x0 x1 x4 x5 x6 (vi (a : Int)) v H) Q) : wp (o6 x0 x1 x4 x5 x6 x7 (vi (a : Int)) H) Q := by
 refine ad8 (by omega) ?_;refine aa (aC (by omega)) ?_;refine gs ?_;refine aa (aC (by omega)) ?_;refine ah (tY ..) ?_;refine gs ?_;exact hk
theorem U8 {x0 x1 x4 x5 x6 x7 : Value} {a : Nat} {H : AH} {Q : Value → AH → Prop} (h : a ≠ 2 ∧ a ≠ 3 ∧ a ≠ 4 ∧ a ≠ 5 ∧ a ≠ 6 ∧ a ≠ 7 ∧ a ≠ 8 ∧ a ≠ 9 ∧ a ≠ 10 ∧ a ≠ 11 ∧ a ≠ 12 ∧ a ≠ 13 ∧ a ≠ 14) (hk : wp ((ak .other .eql (vi (a : Int)) (vi 15)).bind fun v92 => au v92 (lq x0 x1 x4 x6 v92 H) ((ak .other .eql (vi (a : Int)) (vi 16)).bind fun v93 => au v93 (lq x0 x1 x4 x6 v93 H) ((ak .other .eql (vi (a : Int)) (vi 17)).bind fun v94 => au v94 (lq x0 x1 x4 x6 v94 H) ((ak .other .eql (vi (a : Int)) (vi 18)).bind fun v95 => lq x0 x1 x4 x6 v95 H)))) Q) : wp (o6 x0 x1 x4 x5 x6 x7 (vi (a : Int)) H) Q := by
 refine ad9 (by omega) ?_;refine aa (aC (by omega)) ?_;refine ah (tZ ..) ?_;refine gs ?_;refine aa (aC (by omega)) ?_;refine ah (CV ..) ?_;refine gs ?_;exact hk
theorem chw {x0 x1 x4 x5 x6 x7 : Value} {a : Nat} {H : AH} {Q : Value → AH → Prop} (h : a ≠ 2 ∧ a ≠ 3 ∧ a ≠ 4 ∧ a ≠ 5 ∧ a ≠ 6 ∧ a ≠ 7 ∧ a ≠ 8 ∧ a ≠ 9 ∧ a ≠ 10 ∧ a ≠ 11 ∧ a ≠ 12 ∧ a ≠ 13 ∧ a ≠ 14 ∧ a ≠ 15 ∧ a ≠ 16 ∧ a ≠ 17 ∧ a ≠ 18) (hk : wp ((FF XO [x0, x6] H).bind fun r91 => some (r91.1, r91.2)) Q) : wp (o6 x0 x1 x4 x5 x6 x7 (vi (a : Int)) H) Q := by
 refine U8 (by omega) ?_;refine aa (aC (by omega)) ?_;refine gs ?_;refine aa (aC (by omega)) ?_;refine gs ?_;refine aa (aC (by omega)) ?_;refine gs ?_;refine aa (aC (by omega)) ?_;refine ah (mC ..) ?_;refine gs ?_;exact hk
theorem acG (S : SOk σ) (T : gX σ t) (hat : t.at' = 3) : Sp eH [vp x, vi now] (xP x P σ t) (fun _ : Unit => vb (am σ t now).2.2) (fun _ => xQ x P (am σ t now)) := by
 have hN : σ.μ.N < 1099511627000 := by have := S.N; omega
 refine aJ fun R H h => ?_;obtain ⟨k, g, hR, hg, h0⟩ := cN h;have hl := hg.1;simp only [ii, hat] at hR;obtain ⟨ha, _⟩ := hR;refine bV x P g σ t k now S T (by omega) h0 fun b1 H1 h1 => ?_;refine ah (lL ..) ?_;refine aa (aC (by omega)) ?_;refine ah (ox ..) ?_;refine gs ?_;refine aa (ba (by omega)) ?_;refine ah (o5 ..) ?_;refine gs ?_;refine ai h1 ac rfl ?_;refine ai h1 ac rfl ?_;refine af h1 (oB (p := P) (g := g) (σ := σ) (μ' := σ.μ.swp t.who (8, t.s, 0) 0 1) (by simp) (JR g.tb g.m σ.c.sh.toNat σ.c.sl.toNat σ.μ t.who t.s hN)) fun _ H2 h2 => ?_
 by_cases hw : σ.μ.V (8, t.s, 0) = 0
 ·rw [fj hw]
  refine gs ?_;refine bg h2 ac rfl rfl fun H3 h3 => ?_;refine bg h3 ac rfl rfl fun H4 h4 => ?_;refine bg h4 ac rfl rfl fun H5 h5 => ?_;refine ah (cn ..) ?_;exact ap (du (g := g) (σ' := σ.mem (σ.μ.swp t.who (8, t.s, 0) 0 1)) (t' := { t with at' := 4, i := 0 }) (k := { k with a := 4, I := 0, hit := false }) (by simp only [am, hat]; rw [if_pos hw]) (by simp [ii]) (aw (σ := σ) hg (by simp) rfl) h5.to)
 ·rw [ez hw]
  refine gs ?_;refine ah (cn ..) ?_;exact ap (du (g := g) (σ' := σ.mem (σ.μ.swp t.who (8, t.s, 0) 0 1)) (t' := t) (k := k) (by simp only [am, hat]; rw [if_neg hw]) (by simp only [ii, hat]; exact ⟨ha, trivial⟩) (aw (σ := σ) hg (by simp) rfl) h2.to)
theorem acI (S : SOk σ) (T : gX σ t) (hat : t.at' = 5) : Sp eH [vp x, vi now] (xP x P σ t) (fun _ : Unit => vb (am σ t now).2.2) (fun _ => xQ x P (am σ t now)) := by
 have hN : σ.μ.N < 1099511627000 := by have := S.N; omega
 refine aJ fun R H h => ?_;obtain ⟨k, g, hR, hg, h0⟩ := cN h;have hl := hg.1;simp only [ii, hat] at hR;obtain ⟨ha, hhit, hobj, hcode⟩ := hR;refine bV x P g σ t k now S T (by omega) h0 fun b1 H1 h1 => ?_;refine ah (lL ..) ?_;refine aa (aC (by omega)) ?_;refine ah (ox ..) ?_;refine gs ?_;refine aa (aC (by omega)) ?_;refine ah (o5 ..) ?_;refine gs ?_;refine aa (aC (by omega)) ?_;refine ah (tV ..) ?_;refine gs ?_;refine aa (ba (by omega)) ?_;refine ah (CT ..) ?_;refine gs ?_;refine ai h1 ac rfl ?_;refine ai h1 ac rfl ?_;refine af h1 (oB (p := P) (g := g) (σ := σ) (μ' := (σ.μ.acc t.who 2 (8, t.s, 0)).put (8, t.s, 0) 0) (by simp) (tU g.tb g.m σ.c.sh.toNat σ.c.sl.toNat σ.μ t.who t.s hN)) fun _ H2 h2 => ?_;refine ai h2 ac rfl ?_;cases hf : t.found
 ·rw [hf] at hhit
  rw [hhit];refine gs ?_;rw [Bool.not_false];refine gs ?_;exact ap (DA (g := g) (k := k) (σ' := σ.mem ((σ.μ.acc t.who 2 (8, t.s, 0)).put (8, t.s, 0) 0)) (t' := { t with at' := 6 }) (by simp only [am, hat, hf]; rfl) (hcode hf) (aw (σ := σ) hg (by simp) rfl) h2.to)
 ·rw [hf] at hhit
  rw [hhit];refine gs ?_;rw [Bool.not_true];refine gs ?_;refine bg h2 ac rfl rfl fun H3 h3 => ?_;refine ah (cn ..) ?_;exact ap (du (g := g) (σ' := σ.mem ((σ.μ.acc t.who 2 (8, t.s, 0)).put (8, t.s, 0) 0)) (t' := { t with at' := 6 }) (k := { k with a := 6 }) (by simp only [am, hat, hf]; rfl) (by simp [ii, hobj hf]) (aw (σ := σ) hg (by simp) rfl) h3.to)
theorem acJ (S : SOk σ) (T : gX σ t) (hat : t.at' = 6) : Sp eH [vp x, vi now] (xP x P σ t) (fun _ : Unit => vb (am σ t now).2.2) (fun _ => xQ x P (am σ t now)) := by
 have hN : σ.μ.N < 1099511627000 := by have := S.N; omega
 refine aJ fun R H h => ?_;obtain ⟨k, g, hR, hg, h0⟩ := cN h;have hl := hg.1;simp only [ii, hat] at hR;obtain ⟨ha, hobj⟩ := hR;have ho := T.obj (.inl (by omega))
 have hob : k.obj < σ.obs.length := by omega
 obtain ⟨b, hb⟩ : ∃ b, g.rp[k.obj]? = some b := ⟨_, cA (by omega)⟩;refine bV x P g σ t k now S T (by omega) h0 fun b1 H1 h1 => ?_;refine ch6 (by omega) ?_;refine aa (ba (by omega)) ?_;refine ah (tW ..) ?_;refine gs ?_;refine ai h1 ac rfl ?_;refine ai h1 ac rfl ?_;refine af h1 (Nx P g σ hl t.who k.obj hob S.N) fun _ H2 h2 => ?_;refine bg h2 ac rfl rfl fun H3 h3 => ?_;refine ah (cn ..) ?_;rw [hobj] at h3;exact ap (du (g := g) (σ' := σ.mem (σ.μ.acc t.who 5 (13, (t.obj : Int), 0))) (t' := { t with at' := 7 }) (k := { k with a := 7, obj := t.obj }) (by simp only [am, hat]) (by simp [ii]) (aw (σ := σ) hg (by simp) rfl) h3.to)
theorem acK (S : SOk σ) (T : gX σ t) (hat : t.at' = 7) : Sp eH [vp x, vi now] (xP x P σ t) (fun _ : Unit => vb (am σ t now).2.2) (fun _ => xQ x P (am σ t now)) := by
 have hN : σ.μ.N < 1099511627000 := by have := S.N; omega
 refine aJ fun R H h => ?_;obtain ⟨k, g, hR, hg, h0⟩ := cN h;have hl := hg.1;simp only [ii, hat] at hR;obtain ⟨ha, hobj⟩ := hR;have ho := T.obj (.inl (by omega))
 have hob : k.obj < σ.obs.length := by omega
 obtain ⟨b, hb⟩ : ∃ b, g.rp[k.obj]? = some b := ⟨_, cA (by omega)⟩;refine bV x P g σ t k now S T (by omega) h0 fun b1 H1 h1 => ?_;refine ch6 (by omega) ?_;refine aa (aC (by omega)) ?_;refine ah (tW ..) ?_;refine gs ?_;refine aa (ba (by omega)) ?_;refine ah (CU ..) ?_;refine gs ?_;refine bg h1 ac rfl rfl fun H2 h2 => ?_;refine af h2 (AQ x P g σ t { k with a := 8 } S hl b hob hb) fun _ H3 h3 => ?_;dsimp only at h3;rw [hobj] at h3
 by_cases hw : bv (σ.μ.V (11, (t.obj : Int), 0)) = 2
 ·refine aa (ba (by rw [hobj]; exact hw)) ?_
  refine gs ?_;refine bg h3 ac rfl rfl fun H4 h4 => ?_;refine ah (cn ..) ?_;exact ap (du (g := g) (σ' := cY σ t) (t' := { t with at' := 3, w := σ.μ.V (11, (t.obj : Int), 0) }) (k := { k with a := 3, obj := t.obj, w := σ.μ.V (11, (t.obj : Int), 0) }) (by simp only [am, hat]; rw [if_pos hw]) (by simp [ii]) (aw (σ := σ) hg (by simp) rfl) h4.to)
 ·refine aa (aC (by rw [hobj]; exact hw)) ?_
  refine gs ?_;refine ah (cn ..) ?_;exact ap (du (g := g) (σ' := cY σ t) (t' := { t with at' := 8, w := σ.μ.V (11, (t.obj : Int), 0) }) (k := { k with a := 8, obj := t.obj, w := σ.μ.V (11, (t.obj : Int), 0) }) (by simp only [am, hat]; rw [if_neg hw]) (by simp [ii]) (aw (σ := σ) hg (by simp) rfl) h3.to)
theorem acL (S : SOk σ) (T : gX σ t) (hat : t.at' = 8) : Sp eH [vp x, vi now] (xP x P σ t) (fun _ : Unit => vb (am σ t now).2.2) (fun _ => xQ x P (am σ t now)) := by
 have hN : σ.μ.N < 1099511627000 := by have := S.N; omega
 refine aJ fun R H h => ?_;obtain ⟨k, g, hR, hg, h0⟩ := cN h;have hl := hg.1;simp only [ii, hat] at hR;obtain ⟨ha, hobj, hw0⟩ := hR;have ho := T.obj (.inl (by omega))
 have hob : k.obj < σ.obs.length := by omega
 obtain ⟨b, hb⟩ : ∃ b, g.rp[k.obj]? = some b := ⟨_, cA (by omega)⟩;refine bV x P g σ t k now S T (by omega) h0 fun b1 H1 h1 => ?_;refine ch8 (by omega) ?_;refine aa (ba (by omega)) ?_;refine ah (o7 ..) ?_;refine gs ?_;refine af h1 (jx x P g σ t k hl b hob hb) fun _ H2 h2 => ?_;refine bA ac ?_;refine aN h2 rfl ?_;refine aH h1 h2 (by rfl) ?_;refine af h2 (kg (p := P) (μ' := σ.μ.acc t.who 1 (12, (k.obj : Int), 0)) (by simp) hl hob hb (DE g.m k.obj b (aA σ k.obj) σ.μ t.who hN)) fun _ H3 h3 => ?_;refine bg h3 ac rfl rfl fun H4 h4 => ?_;refine ai h4 ac rfl ?_;refine af h4 (ol k.w (by rw [hw0]; exact T.w)) fun _ H5 h5 => ?_;refine aa (v := vu (bk k.w)) rfl ?_;refine aa (v := vi (bv k.w)) rfl ?_;refine aa (v := vb (dM k.w)) rfl ?_;refine ah (MU ..) ?_;refine af h5 (jx x P g (σ.mem (σ.μ.acc t.who 1 (12, (k.obj : Int), 0))) t { k with h := σ.μ.V (12, (k.obj : Int), 0) } hl b hob hb) fun _ H6 h6 => ?_;refine bA ac ?_;refine aN h6 rfl ?_;refine aH h5 h6 (by rfl) ?_;refine bA ac ?_;refine aN h6 rfl ?_;refine aH h5 h6 (by rfl) ?_;refine af h6 (Ix (p := P) (σ := σ.mem (σ.μ.acc t.who 1 (12, (k.obj : Int), 0))) hl hob hb (DD g.m k.obj b (aA σ k.obj) k.w (σ.μ.V (12, (k.obj : Int), 0)) (by rw [hw0]; exact T.w) (S.cells _ hob).2)) fun _ H7 h7 => ?_;rw [hobj, hw0] at h7;rw [hobj, hw0];cases hf : nY t.w (σ.μ.V (12, (t.obj : Int), 0)) (aA σ t.obj).length
 ·refine gs ?_
  by_cases hw : bv t.w = 1
  ·refine aa (ba hw) ?_
   refine gs ?_;refine bg h7 ac rfl rfl fun H8 h8 => ?_;refine ah (cn ..) ?_;exact ap (du (g := g) (σ' := i8 σ t) (t' := { t with at' := 9 }) (k := { k with a := 9, obj := t.obj, w := t.w, h := σ.μ.V (12, (t.obj : Int), 0) }) (by simp only [am, hat, mQ, hf]; rw [if_pos hw]; rfl) (by simp [ii]) (aw (σ := σ) hg (by simp) rfl) h8.to)
  ·refine aa (aC hw) ?_
   refine gs ?_;refine bg h7 ac rfl rfl fun H8 h8 => ?_;refine ah (cn ..) ?_;exact ap (du (g := g) (σ' := i8 σ t) (t' := { t with at' := 12 }) (k := { k with a := 12, obj := t.obj, w := t.w, h := σ.μ.V (12, (t.obj : Int), 0) }) (by simp only [am, hat, mQ, hf]; rw [if_neg hw]; rfl) (by simp [ii]) (aw (σ := σ) hg (by simp) rfl) h8.to)
 ·refine gs ?_
  refine bg h7 ac rfl rfl fun H8 h8 => ?_;refine ah (cn ..) ?_;exact ap (du (g := g) (σ' := i8 σ t) (t' := { t with at' := 15 }) (k := { k with a := 15, obj := t.obj, w := t.w, h := σ.μ.V (12, (t.obj : Int), 0) }) (by simp only [am, hat, mQ, hf]; rfl) (by simp [ii]) (aw (σ := σ) hg (by simp) rfl) h8.to)
theorem KB (g : XIds) (k : Xk) (S : SOk σ) (hg : eK g σ) (ha : k.a = 9 ∨ k.a = 13) (b : Nat) (ho : k.obj < σ.obs.length) (hb : g.rp[k.obj]? = some b) (hw0 : k.w < 18446744073709551616) :
 Sp jP [vp x, vi now] (xB x P t k * ar P g σ) (fun _ : Value => .tuple #[]) (fun v => if turned σ.μ k.obj k.w (aP k.w 0) = true then
  xB x P t { k with q := if k.a = 13 then 1 else 0, a := k.a + 1, code := 0 } * ar P { g with pv := v } ((σ.mem (σ.μ.turn t.who k.obj k.w (aP k.w 0))).note now t.who 0)
  else xB x P t { k with q := if k.a = 13 then 1 else 0, a := if k.a = 13 then 20 else 7 } * ar P g (σ.mem (σ.μ.turn t.who k.obj k.w (aP k.w 0)))) := by
 have hN : σ.μ.N < 1099511627000 := by have := S.N; omega
 have hl := hg.1
 have hturn : σ.μ.N ≤ (σ.μ.turn t.who k.obj k.w (aP k.w 0)).N := by cases aP k.w 0 <;> simp
 have hturn2 : (σ.μ.turn t.who k.obj k.w (aP k.w 0)).N ≤ σ.μ.N + 2 := by cases aP k.w 0 <;> simp
 refine bn (vX _ _) fun R H h => ?_;refine bg h ac rfl rfl fun H1 h1 => ?_;refine ah (qT ..) ?_;refine ai h1 ac rfl ?_
 have main : ∀ (q : Nat) (H2 : AH), q = (if k.a = 13 then 1 else 0) → ae (xB x P t { k with q := q } * (ar P g σ * R)) H2 → wp (gg (vp x) (vi now) H2) fun v' H' => ∃ v : Value, v' = .tuple #[] ∧ ae ((if turned σ.μ k.obj k.w (aP k.w 0) = true then
  xB x P t { k with q := if k.a = 13 then 1 else 0, a := k.a + 1, code := 0 } * ar P { g with pv := v } ((σ.mem (σ.μ.turn t.who k.obj k.w (aP k.w 0))).note now t.who 0)
  else xB x P t { k with q := if k.a = 13 then 1 else 0, a := if k.a = 13 then 20 else 7 } * ar P g (σ.mem (σ.μ.turn t.who k.obj k.w (aP k.w 0)))) * R) H' := by
  intro q H2 hq h2;refine ah (qU ..) ?_;refine af h2 (jx x P g σ t { k with q := q } hl b ho hb) fun _ H3 h3 => ?_;refine bA ac ?_;refine aN h3 rfl ?_;refine aH h2 h3 (by rfl) ?_;refine bA ac ?_;refine aN h3 rfl ?_;refine aH h2 h3 (by rfl) ?_;refine af h3 (kg (p := P) (μ' := σ.μ.turn t.who k.obj k.w (aP k.w 0)) hturn hl ho hb (ug g.m k.obj b (aA σ k.obj) σ.μ t.who k.w 0 (by omega) hw0 hN)) fun _ H4 h4 => ?_;cases hw : turned σ.μ k.obj k.w (aP k.w 0)
  ·refine gs ?_
   refine ai h4 ac rfl ?_
   rcases ha with ha | ha
   ·refine aa (ba (show ((k.a : Nat) : Int) = 9 by omega)) ?_
    refine gs ?_;refine bg h4 ac rfl rfl fun H5 h5 => ?_;refine ap ⟨.bool true, rfl, ?_⟩;rw [if_neg (by simp)];simp only [hq] at h5;rw [if_neg (by omega)] at h5 ⊢;rw [if_neg (by omega)];exact h5.to
   ·refine aa (aC (show ¬ ((k.a : Nat) : Int) = 9 by omega)) ?_
    refine gs ?_;refine bg h4 ac rfl rfl fun H5 h5 => ?_;refine ap ⟨.bool true, rfl, ?_⟩;rw [if_neg (by simp)];simp only [hq] at h5;rw [if_pos ha] at h5 ⊢;rw [if_pos ha];exact h5.to
  ·refine gs ?_
   refine af h4 (jw x P g (σ.mem (σ.μ.turn t.who k.obj k.w (aP k.w 0))) t { k with q := q } (aw (σ := σ) hg hturn rfl) now 0 (by have := S.N; show (σ.μ.turn t.who k.obj k.w (aP k.w 0)).N < _; omega) S.pts) fun v H5 h5 => ?_;refine ai h5 ac rfl ?_;refine aa (aR (a := ((k.a : Nat) : Int)) (b := 1) (by omega) (by omega)) ?_;rw [show ((k.a : Nat) : Int) + 1 = ((k.a + 1 : Nat) : Int) from by omega];refine bg h5 ac rfl rfl fun H6 h6 => ?_;refine ap ⟨v, rfl, ?_⟩;rw [if_pos rfl];simp only [hq] at h6;exact h6.to
 rcases ha with ha | ha
 ·refine aa (aC (by omega)) ?_
  refine gs ?_;exact main 0 H1 (by rw [if_neg (by omega)]) h1.to
 ·refine aa (ba (by omega)) ?_
  refine gs ?_;refine bg h1 ac rfl rfl fun H2 h2 => ?_;exact main 1 H2 (by rw [if_pos ha]) h2.to
theorem acM (S : SOk σ) (T : gX σ t) (hat : t.at' = 9) : Sp eH [vp x, vi now] (xP x P σ t) (fun _ : Unit => vb (am σ t now).2.2) (fun _ => xQ x P (am σ t now)) := by
 have hN : σ.μ.N < 1099511627000 := by have := S.N; omega
 refine aJ fun R H h => ?_;obtain ⟨k, g, hR, hg, h0⟩ := cN h;have hl := hg.1;simp only [ii, hat] at hR;obtain ⟨ha, hobj, hw0⟩ := hR;have ho := T.obj (.inl (by omega))
 have hob : k.obj < σ.obs.length := by omega
 obtain ⟨b, hb⟩ : ∃ b, g.rp[k.obj]? = some b := ⟨_, cA (by omega)⟩;refine bV x P g σ t k now S T (by omega) h0 fun b1 H1 h1 => ?_;refine ch8 (by omega) ?_;refine aa (aC (by omega)) ?_;refine ah (o7 ..) ?_;refine gs ?_;refine aa (ba (by omega)) ?_;refine gs ?_;refine ah (tX ..) ?_;refine gs ?_
 have hturn : σ.μ.N ≤ (σ.μ.turn t.who k.obj k.w (aP k.w 0)).N := by cases aP k.w 0 <;> simp
 refine af h1 (KB x P σ t now g k S hg (by omega) b hob hb (by rw [hw0]; exact T.w)) fun v H2 h2 => ?_;refine ah (cn ..) ?_;cases hw : turned σ.μ t.obj t.w (aP t.w 0)
 ·rw [if_neg (by rw [hobj, hw0, hw]; simp)] at h2
  rw [hobj, hw0, ha, if_neg (by omega), if_neg (by omega)] at h2;exact ap (du (g := g) (σ' := σ.mem (σ.μ.turn t.who t.obj t.w (aP t.w 0))) (t' := { t with at' := 7 }) (k := { k with a := 7, obj := t.obj, w := t.w, q := 0 }) (by simp only [am, hat, hw]; rfl) (by simp [ii]) (aw (σ := σ) hg (by rw [hobj, hw0] at hturn; exact hturn) rfl) h2.to)
 ·rw [if_pos (by rw [hobj, hw0, hw])] at h2
  rw [hobj, hw0, ha, if_neg (by omega)] at h2;exact ap (du (g := { g with pv := v }) (σ' := (σ.mem (σ.μ.turn t.who t.obj t.w (aP t.w 0))).note now t.who 0) (t' := { t with at' := 10, code := 0 }) (k := { k with a := 10, obj := t.obj, w := t.w, q := 0, code := 0 }) (by simp only [am, hat, hw]; rfl) (by simp [ii]) (dE (σ := σ) hg (by rw [hobj, hw0] at hturn; exact hturn) rfl) h2.to)
theorem Zs (S : SOk σ) (T : gX σ t) (hat : t.at' = 13) : Sp eH [vp x, vi now] (xP x P σ t) (fun _ : Unit => vb (am σ t now).2.2) (fun _ => xQ x P (am σ t now)) := by
 have hN : σ.μ.N < 1099511627000 := by have := S.N; omega
 refine aJ fun R H h => ?_;obtain ⟨k, g, hR, hg, h0⟩ := cN h;have hl := hg.1;simp only [ii, hat] at hR;obtain ⟨ha, hobj, hw0⟩ := hR;have ho := T.obj (.inl (by omega))
 have hob : k.obj < σ.obs.length := by omega
 obtain ⟨b, hb⟩ : ∃ b, g.rp[k.obj]? = some b := ⟨_, cA (by omega)⟩;refine bV x P g σ t k now S T (by omega) h0 fun b1 H1 h1 => ?_;refine ch8 (by omega) ?_;refine aa (aC (by omega)) ?_;refine ah (o7 ..) ?_;refine gs ?_;refine aa (aC (by omega)) ?_;refine gs ?_;refine aa (ba (by omega)) ?_;refine ah (tX ..) ?_;refine gs ?_
 have hturn : σ.μ.N ≤ (σ.μ.turn t.who k.obj k.w (aP k.w 0)).N := by cases aP k.w 0 <;> simp
 refine af h1 (KB x P σ t now g k S hg (by omega) b hob hb (by rw [hw0]; exact T.w)) fun v H2 h2 => ?_;refine ah (cn ..) ?_;cases hw : turned σ.μ t.obj t.w (aP t.w 0)
 ·rw [if_neg (by rw [hobj, hw0, hw]; simp)] at h2
  rw [hobj, hw0, ha, if_pos rfl, if_pos rfl] at h2;exact ap (du (g := g) (σ' := σ.mem (σ.μ.turn t.who t.obj t.w (aP t.w 0))) (t' := { t with at' := 20 }) (k := { k with a := 20, obj := t.obj, w := t.w, q := 1 }) (by simp only [am, hat, hw]; rfl) (by simp [ii]) (aw (σ := σ) hg (by rw [hobj, hw0] at hturn; exact hturn) rfl) h2.to)
 ·rw [if_pos (by rw [hobj, hw0, hw])] at h2
  rw [hobj, hw0, ha, if_pos rfl] at h2;exact ap (du (g := { g with pv := v }) (σ' := (σ.mem (σ.μ.turn t.who t.obj t.w (aP t.w 0))).note now t.who 0) (t' := { t with at' := 14, code := 0 }) (k := { k with a := 14, obj := t.obj, w := t.w, q := 1, code := 0 }) (by simp only [am, hat, hw]; rfl) (by simp [ii]) (dE (σ := σ) hg (by rw [hobj, hw0] at hturn; exact hturn) rfl) h2.to)
theorem Zp (S : SOk σ) (T : gX σ t) (hat : t.at' = 10) : Sp eH [vp x, vi now] (xP x P σ t) (fun _ : Unit => vb (am σ t now).2.2) (fun _ => xQ x P (am σ t now)) := by
 have hN : σ.μ.N < 1099511627000 := by have := S.N; omega
 refine aJ fun R H h => ?_;obtain ⟨k, g, hR, hg, h0⟩ := cN h;have hl := hg.1;simp only [ii, hat] at hR;obtain ⟨ha, hobj, hw0, hq, hcode⟩ := hR;have ho := T.obj (.inl (by omega))
 have hob : k.obj < σ.obs.length := by omega
 obtain ⟨b, hb⟩ : ∃ b, g.rp[k.obj]? = some b := ⟨_, cA (by omega)⟩;refine bV x P g σ t k now S T (by omega) h0 fun b1 H1 h1 => ?_;refine ad8 (by omega) ?_;refine aa (ba (by omega)) ?_;refine gs ?_;refine ah (tY ..) ?_;refine gs ?_;refine af h1 (jx x P g σ t k hl b hob hb) fun _ H2 h2 => ?_;refine bA ac ?_;refine aN h2 rfl ?_;refine aH h1 h2 (by rfl) ?_;refine af h2 (wF x P t k (by rw [hw0]; exact T.w)) fun _ H3 h3 => ?_;refine aH h3 h2 (by rfl) ?_;refine aW h3 ?_;refine dQ h1 h3 rfl ?_;refine dQ h2 h3 rfl ?_;refine af h3 (FH (p := P) (μ' := σ.μ.acc t.who 6 (16, (k.obj : Int), ((bk k.w % (aA σ k.obj).length : Nat) : Int))) (by simp) hl hob hb (FC g.m k.obj b (aA σ k.obj) σ.μ t.who (bk k.w) ⟨t.x.flow, t.x.a, t.x.b⟩ (S.cells _ hob) hN)) fun _ H4 h4 => ?_;refine bg h4 ac rfl rfl fun H5 h5 => ?_;refine ai h5 ac rfl ?_;refine aa (aC (by omega)) ?_;refine gs ?_;refine ah (cn ..) ?_;have e1 := Az σ t;rw [hobj, hw0, ← e1] at h5;exact ap (du (g := g) (σ' := tr σ t) (t' := { t with at' := 11 }) (k := { k with a := 11, obj := t.obj, w := t.w }) (by simp only [am, hat]) (by simp [ii, hcode]) (aw (σ := σ) hg (by simp) (ja σ t)) h5.to)
theorem Zt (S : SOk σ) (T : gX σ t) (hat : t.at' = 14) : Sp eH [vp x, vi now] (xP x P σ t) (fun _ : Unit => vb (am σ t now).2.2) (fun _ => xQ x P (am σ t now)) := by
 have hN : σ.μ.N < 1099511627000 := by have := S.N; omega
 refine aJ fun R H h => ?_;obtain ⟨k, g, hR, hg, h0⟩ := cN h;have hl := hg.1;simp only [ii, hat] at hR;obtain ⟨ha, hobj, hw0, hq, hcode⟩ := hR;have ho := T.obj (.inl (by omega))
 have hob : k.obj < σ.obs.length := by omega
 obtain ⟨b, hb⟩ : ∃ b, g.rp[k.obj]? = some b := ⟨_, cA (by omega)⟩;refine bV x P g σ t k now S T (by omega) h0 fun b1 H1 h1 => ?_;refine ad8 (by omega) ?_;refine aa (aC (by omega)) ?_;refine gs ?_;refine aa (ba (by omega)) ?_;refine ah (tY ..) ?_;refine gs ?_;refine af h1 (jx x P g σ t k hl b hob hb) fun _ H2 h2 => ?_;refine bA ac ?_;refine aN h2 rfl ?_;refine aH h1 h2 (by rfl) ?_;refine af h2 (wF x P t k (by rw [hw0]; exact T.w)) fun _ H3 h3 => ?_;refine aH h3 h2 (by rfl) ?_;refine aW h3 ?_;refine dQ h1 h3 rfl ?_;refine dQ h2 h3 rfl ?_;refine af h3 (FH (p := P) (μ' := σ.μ.acc t.who 6 (16, (k.obj : Int), ((bk k.w % (aA σ k.obj).length : Nat) : Int))) (by simp) hl hob hb (FC g.m k.obj b (aA σ k.obj) σ.μ t.who (bk k.w) ⟨t.x.flow, t.x.a, t.x.b⟩ (S.cells _ hob) hN)) fun _ H4 h4 => ?_;refine bg h4 ac rfl rfl fun H5 h5 => ?_;refine ai h5 ac rfl ?_;refine aa (ba (by omega)) ?_;refine gs ?_;refine bg h5 ac rfl rfl fun H6 h6 => ?_;refine ah (cn ..) ?_;have e1 := Az σ t;rw [hobj, hw0, ← e1] at h6;exact ap (du (g := g) (σ' := tr σ t) (t' := { t with at' := 21 }) (k := { k with a := 21, obj := t.obj, w := t.w }) (by simp only [am, hat]) (by simp [ii, hcode]) (aw (σ := σ) hg (by simp) (ja σ t)) h6.to)
theorem Zq (S : SOk σ) (T : gX σ t) (hat : t.at' = 11) : Sp eH [vp x, vi now] (xP x P σ t) (fun _ : Unit => vb (am σ t now).2.2) (fun _ => xQ x P (am σ t now)) := by
 have hN : σ.μ.N < 1099511627000 := by have := S.N; omega
 refine aJ fun R H h => ?_;obtain ⟨k, g, hR, hg, h0⟩ := cN h;have hl := hg.1;simp only [ii, hat] at hR;obtain ⟨ha, hobj, hw0, hcode⟩ := hR;have ho := T.obj (.inl (by omega))
 have hob : k.obj < σ.obs.length := by omega
 obtain ⟨b, hb⟩ : ∃ b, g.rp[k.obj]? = some b := ⟨_, cA (by omega)⟩;refine bV x P g σ t k now S T (by omega) h0 fun b1 H1 h1 => ?_;refine ad9 (by omega) ?_;refine aa (ba (by omega)) ?_;refine ah (tZ ..) ?_;refine gs ?_;refine af h1 (jx x P g σ t k hl b hob hb) fun _ H2 h2 => ?_;refine bA ac ?_;refine aN h2 rfl ?_;refine aH h1 h2 (by rfl) ?_;refine af h2 (wF x P t k (by rw [hw0]; exact T.w)) fun _ H3 h3 => ?_;refine aH h3 h2 (by rfl) ?_;have hwc := dS k.w;refine af h3 (kg (p := P) (μ' := (σ.μ.acc t.who 2 (15, (k.obj : Int), ((bk k.w % (aA σ k.obj).length : Nat) : Int))).put (15, (k.obj : Int), ((bk k.w % (aA σ k.obj).length : Nat) : Int)) (bk k.w + 1)) (by simp) hl hob hb (DF g.m k.obj b (aA σ k.obj) σ.μ t.who (bk k.w) (by omega) (S.cells _ hob) hN)) fun _ H4 h4 => ?_;rw [hobj, hw0] at h4;exact ap (DA (g := g) (k := k) (σ' := yO σ t) (t' := t) (by simp only [am, hat]) hcode (aw (σ := σ) hg (by simp) rfl) h4.to)
theorem Zr (S : SOk σ) (T : gX σ t) (hat : t.at' = 12) : Sp eH [vp x, vi now] (xP x P σ t) (fun _ : Unit => vb (am σ t now).2.2) (fun _ => xQ x P (am σ t now)) := by
 have hN : σ.μ.N < 1099511627000 := by have := S.N; omega
 refine aJ fun R H h => ?_;obtain ⟨k, g, hR, hg, h0⟩ := cN h;have hl := hg.1;simp only [ii, hat] at hR;obtain ⟨ha, hobj, hw0⟩ := hR;have ho := T.obj (.inl (by omega))
 have hob : k.obj < σ.obs.length := by omega
 obtain ⟨b, hb⟩ : ∃ b, g.rp[k.obj]? = some b := ⟨_, cA (by omega)⟩;refine bV x P g σ t k now S T (by omega) h0 fun b1 H1 h1 => ?_;refine ad9 (by omega) ?_;refine aa (aC (by omega)) ?_;refine ah (tZ ..) ?_;refine gs ?_;refine aa (ba (by omega)) ?_;refine ah (CV ..) ?_;refine gs ?_;refine ai h1 ac rfl ?_;refine ai h1 ac rfl ?_;refine af h1 (wI (p := P) (g := g) (σ := σ) (μ' := σ.μ.cnt t.who (3, 0, 0) 4294967296) (L := σ.μ.N) (by simp) (Iq g.ib g.m σ.c.sh σ.nx σ.μ.N σ.μ t.who hN)) fun _ H2 h2 => ?_;refine bg h2 ac rfl rfl fun H3 h3 => ?_;refine ah (cn ..) ?_;exact ap (du (g := g) (σ' := σ.mem (σ.μ.cnt t.who (3, 0, 0) 4294967296)) (t' := { t with at' := 13 }) (k := { k with a := 13 }) (by simp only [am, hat]) (by simp [ii, hobj, hw0]) (aw (σ := σ) hg (by simp) rfl) h3.to)
theorem Zu (S : SOk σ) (T : gX σ t) (hat : t.at' = 15) : Sp eH [vp x, vi now] (xP x P σ t) (fun _ : Unit => vb (am σ t now).2.2) (fun _ => xQ x P (am σ t now)) := by
 have hN : σ.μ.N < 1099511627000 := by have := S.N; omega
 refine aJ fun R H h => ?_;obtain ⟨k, g, hR, hg, h0⟩ := cN h;have hl := hg.1;simp only [ii, hat] at hR;obtain ⟨ha, hobj⟩ := hR;have ho := T.obj (.inl (by omega))
 have hob : k.obj < σ.obs.length := by omega
 obtain ⟨b, hb⟩ : ∃ b, g.rp[k.obj]? = some b := ⟨_, cA (by omega)⟩;refine bV x P g σ t k now S T (by omega) h0 fun b1 H1 h1 => ?_;refine U8 (by omega) ?_;refine aa (ba (by omega)) ?_;refine gs ?_;refine ah (mC ..) ?_;refine gs ?_;refine nK ?_;refine bm (fun r => HT _ _ H1) ?_;refine ah (sc ..) ?_;refine ai h1 ac rfl ?_;refine ah (sd ..) ?_;refine aa (ba (by omega)) ?_;refine gs ?_;refine ai h1 ac rfl ?_;refine ai h1 ac rfl ?_;refine af h1 (pa P g σ t.who S.N) fun _ H2 h2 => ?_;refine bg h2 ac rfl rfl fun H3 h3 => ?_;refine bg h3 ac rfl rfl fun H4 h4 => ?_;refine ai h4 ac rfl ?_;refine aa (Fe 2 (by omega)) ?_
 by_cases hw : σ.μ.V (2, 0, 0) % 2 = 1
 ·refine aa (ba (show ((σ.μ.V (2, 0, 0) % 2 : Nat) : Int) = 1 by omega)) ?_
  refine gs ?_;refine bg h4 ac rfl rfl fun H5 h5 => ?_;refine ah (jU ..) ?_;exact ap (du (g := g) (σ' := ed σ t) (t' := { t with at' := 7, q := σ.μ.V (2, 0, 0) }) (k := { k with a := 7, q := σ.μ.V (2, 0, 0) }) (by simp only [am, hat]; rw [if_pos hw]) (by simp [ii, hobj]) (aw (σ := σ) hg (by simp) rfl) h5.to)
 ·refine aa (aC (show ¬ ((σ.μ.V (2, 0, 0) % 2 : Nat) : Int) = 1 by omega)) ?_
  refine gs ?_;refine ah (jU ..) ?_;exact ap (du (g := g) (σ' := ed σ t) (t' := { t with at' := 16, q := σ.μ.V (2, 0, 0) }) (k := { k with a := 16, q := σ.μ.V (2, 0, 0) }) (by simp only [am, hat]; rw [if_neg hw]) (by simp [ii, hobj]) (aw (σ := σ) hg (by simp) rfl) h4.to)
theorem Zv (S : SOk σ) (T : gX σ t) (hat : t.at' = 16) : Sp eH [vp x, vi now] (xP x P σ t) (fun _ : Unit => vb (am σ t now).2.2) (fun _ => xQ x P (am σ t now)) := by
 have hN : σ.μ.N < 1099511627000 := by have := S.N; omega
 refine aJ fun R H h => ?_;obtain ⟨k, g, hR, hg, h0⟩ := cN h;have hl := hg.1;simp only [ii, hat] at hR;obtain ⟨ha, hobj, hq⟩ := hR;have ho := T.obj (.inl (by omega))
 have hob : k.obj < σ.obs.length := by omega
 obtain ⟨b, hb⟩ : ∃ b, g.rp[k.obj]? = some b := ⟨_, cA (by omega)⟩;refine bV x P g σ t k now S T (by omega) h0 fun b1 H1 h1 => ?_;refine U8 (by omega) ?_;refine aa (aC (by omega)) ?_;refine gs ?_;refine aa (ba (by omega)) ?_;refine gs ?_;refine ah (mC ..) ?_;refine gs ?_;refine nK ?_;refine bm (fun r => HT _ _ H1) ?_;refine ah (sc ..) ?_;refine ai h1 ac rfl ?_;refine ah (sd ..) ?_;refine aa (aC (by omega)) ?_;refine gs ?_;refine aa (ba (by omega)) ?_;refine gs ?_;refine bg h1 ac rfl rfl fun H2 h2 => ?_;refine af h2 (AQ x P g σ t { k with a := 17 } S hl b hob hb) fun _ H3 h3 => ?_;dsimp only at h3;rw [hobj] at h3
 by_cases hw : bv (σ.μ.V (11, (t.obj : Int), 0)) = 2
 ·refine aa (ba (by rw [hobj]; exact hw)) ?_
  refine gs ?_;refine bg h3 ac rfl rfl fun H4 h4 => ?_;refine ah (jU ..) ?_;exact ap (du (g := g) (σ' := cY σ t) (t' := { t with at' := 3, w := σ.μ.V (11, (t.obj : Int), 0) }) (k := { k with a := 3, obj := t.obj, w := σ.μ.V (11, (t.obj : Int), 0) }) (by simp only [am, hat]; rw [if_pos hw]) (by simp [ii]) (aw (σ := σ) hg (by simp) rfl) h4.to)
 ·refine aa (aC (by rw [hobj]; exact hw)) ?_
  refine gs ?_;refine ah (jU ..) ?_;exact ap (du (g := g) (σ' := cY σ t) (t' := { t with at' := 17, w := σ.μ.V (11, (t.obj : Int), 0) }) (k := { k with a := 17, obj := t.obj, w := σ.μ.V (11, (t.obj : Int), 0) }) (by simp only [am, hat]; rw [if_neg hw]) (by simp [ii, hq]) (aw (σ := σ) hg (by simp) rfl) h3.to)
theorem Zw (S : SOk σ) (T : gX σ t) (hat : t.at' = 17) : Sp eH [vp x, vi now] (xP x P σ t) (fun _ : Unit => vb (am σ t now).2.2) (fun _ => xQ x P (am σ t now)) := by
 have hN : σ.μ.N < 1099511627000 := by have := S.N; omega
 refine aJ fun R H h => ?_;obtain ⟨k, g, hR, hg, h0⟩ := cN h;have hl := hg.1;simp only [ii, hat] at hR;obtain ⟨ha, hobj, hw0, hq⟩ := hR;have ho := T.obj (.inl (by omega))
 have hob : k.obj < σ.obs.length := by omega
 obtain ⟨b, hb⟩ : ∃ b, g.rp[k.obj]? = some b := ⟨_, cA (by omega)⟩;refine bV x P g σ t k now S T (by omega) h0 fun b1 H1 h1 => ?_;refine U8 (by omega) ?_;refine aa (aC (by omega)) ?_;refine gs ?_;refine aa (aC (by omega)) ?_;refine gs ?_;refine aa (ba (by omega)) ?_;refine gs ?_;refine ah (mC ..) ?_;refine gs ?_;refine nK ?_;refine bm (fun r => HT _ _ H1) ?_;refine ah (sc ..) ?_;refine ai h1 ac rfl ?_;refine ah (sd ..) ?_;refine aa (aC (by omega)) ?_;refine gs ?_;refine aa (aC (by omega)) ?_;refine gs ?_;refine aa (ba (by omega)) ?_;refine gs ?_;refine af h1 (jx x P g σ t k hl b hob hb) fun _ H2 h2 => ?_;refine bA ac ?_;refine aN h2 rfl ?_;refine aH h1 h2 (by rfl) ?_;refine af h2 (kg (p := P) (μ' := σ.μ.acc t.who 1 (12, (k.obj : Int), 0)) (by simp) hl hob hb (DE g.m k.obj b (aA σ k.obj) σ.μ t.who hN)) fun _ H3 h3 => ?_;refine bg h3 ac rfl rfl fun H4 h4 => ?_;refine bg h4 ac rfl rfl fun H5 h5 => ?_;refine bg h5 ac rfl rfl fun H6 h6 => ?_;refine af h6 (jx x P g (σ.mem (σ.μ.acc t.who 1 (12, (k.obj : Int), 0))) t { k with h := σ.μ.V (12, (k.obj : Int), 0), mark := now, a := 18 } hl b hob hb) fun _ H7 h7 => ?_;refine bA ac ?_;refine aN h7 rfl ?_;refine aH h6 h7 (by rfl) ?_;refine bA ac ?_;refine aN h7 rfl ?_;refine aH h6 h7 (by rfl) ?_;refine af h7 (Ix (p := P) (σ := σ.mem (σ.μ.acc t.who 1 (12, (k.obj : Int), 0))) hl hob hb (DD g.m k.obj b (aA σ k.obj) k.w (σ.μ.V (12, (k.obj : Int), 0)) (by rw [hw0]; exact T.w) (S.cells _ hob).2)) fun _ H8 h8 => ?_;rw [hobj, hw0] at h8;rw [hobj, hw0];cases hf : nY t.w (σ.μ.V (12, (t.obj : Int), 0)) (aA σ t.obj).length
 ·refine gs ?_
  rw [Bool.not_false];refine gs ?_;refine bg h8 ac rfl rfl fun H9 h9 => ?_;refine ah (jU ..) ?_;exact ap (du (g := g) (σ' := i8 σ t) (t' := { t with at' := 7 }) (k := { k with a := 7, obj := t.obj, w := t.w, h := σ.μ.V (12, (t.obj : Int), 0), mark := now }) (by simp only [am, hat, mQ, hf]; rfl) (by simp [ii]) (aw (σ := σ) hg (by simp) rfl) h9.to)
 ·refine gs ?_
  rw [Bool.not_true];refine gs ?_;refine ah (jU ..) ?_;exact ap (du (g := g) (σ' := i8 σ t) (t' := { t with at' := 18, mark := now }) (k := { k with a := 18, obj := t.obj, w := t.w, h := σ.μ.V (12, (t.obj : Int), 0), mark := now }) (by simp only [am, hat, mQ, hf]; rfl) (by simp [ii, hq]) (aw (σ := σ) hg (by simp) rfl) h8.to)
theorem Zx (S : SOk σ) (T : gX σ t) (hat : t.at' = 18) : Sp eH [vp x, vi now] (xP x P σ t) (fun _ : Unit => vb (am σ t now).2.2) (fun _ => xQ x P (am σ t now)) := by
 have hN : σ.μ.N < 1099511627000 := by have := S.N; omega
 refine aJ fun R H h => ?_;obtain ⟨k, g, hR, hg, h0⟩ := cN h;have hl := hg.1;simp only [ii, hat] at hR;obtain ⟨ha, hobj, hq, hm⟩ := hR;have ho := T.obj (.inl (by omega))
 have hob : k.obj < σ.obs.length := by omega
 obtain ⟨b, hb⟩ : ∃ b, g.rp[k.obj]? = some b := ⟨_, cA (by omega)⟩;refine bV x P g σ t k now S T (by omega) h0 fun b1 H1 h1 => ?_;refine U8 (by omega) ?_;refine aa (aC (by omega)) ?_;refine gs ?_;refine aa (aC (by omega)) ?_;refine gs ?_;refine aa (aC (by omega)) ?_;refine gs ?_;refine aa (ba (by omega)) ?_;refine ah (mC ..) ?_;refine gs ?_;refine nK ?_;refine bm (fun r => HT _ _ H1) ?_;refine ah (sc ..) ?_;refine ai h1 ac rfl ?_;refine ah (sd ..) ?_;refine aa (aC (by omega)) ?_;refine gs ?_;refine aa (aC (by omega)) ?_;refine gs ?_;refine aa (aC (by omega)) ?_;refine gs ?_;refine aa (ba (by omega)) ?_;refine gs ?_;refine ai h1 ac rfl ?_;refine ai h1 ac rfl ?_;refine af h1 (pa P g σ t.who S.N) fun _ H2 h2 => ?_;refine bA ac ?_;refine aN h2 rfl ?_;refine aH h1 h2 (by rfl) ?_
 by_cases hw : σ.μ.V (2, 0, 0) = t.q
 ·refine aa (ba (show ((σ.μ.V (2, 0, 0) : Nat) : Int) = (k.q : Int) by omega)) ?_
  refine gs ?_;refine ai h2 ac rfl ?_;rw [hm];refine af h2 (jw x P g (ed σ t) t k (aw (σ := σ) hg (by simp) rfl) t.mark 9 (by have := S.N; show σ.μ.N + 2 < _; omega) S.pts) fun v H3 h3 => ?_;exact ap (DA (g := { g with pv := v }) (k := { k with code := 9 }) (σ' := (ed σ t).note t.mark t.who 9) (t' := { t with code := 9 }) (by simp only [am, hat]; rw [if_pos hw]) rfl (dE (σ := σ) hg (by simp) rfl) h3.to)
 ·refine aa (aC (show ¬ ((σ.μ.V (2, 0, 0) : Nat) : Int) = (k.q : Int) by omega)) ?_
  refine gs ?_;refine bg h2 ac rfl rfl fun H3 h3 => ?_;refine ah (jU ..) ?_;exact ap (du (g := g) (σ' := ed σ t) (t' := { t with at' := 7 }) (k := { k with a := 7 }) (by simp only [am, hat]; rw [if_neg hw]) (by simp [ii, hobj]) (aw (σ := σ) hg (by simp) rfl) h3.to)
theorem Zy (S : SOk σ) (T : gX σ t) (hat : t.at' = 20) : Sp eH [vp x, vi now] (xP x P σ t) (fun _ : Unit => vb (am σ t now).2.2) (fun _ => xQ x P (am σ t now)) := by
 have hN : σ.μ.N < 1099511627000 := by have := S.N; omega
 refine aJ fun R H h => ?_;obtain ⟨k, g, hR, hg, h0⟩ := cN h;have hl := hg.1;simp only [ii, hat] at hR;obtain ⟨ha, hobj⟩ := hR;have ho := T.obj (.inl (by omega))
 have hob : k.obj < σ.obs.length := by omega
 obtain ⟨b, hb⟩ : ∃ b, g.rp[k.obj]? = some b := ⟨_, cA (by omega)⟩;refine bV x P g σ t k now S T (by omega) h0 fun b1 H1 h1 => ?_;refine chw (by omega) ?_;refine nK ?_;refine bm (fun r => xR _ _ H1) ?_;refine ai h1 ac rfl ?_;refine ah (lM ..) ?_;refine ai h1 ac rfl ?_;refine ah (lO ..) ?_;refine aa (ba (by omega)) ?_;refine gs ?_;refine ai h1 ac rfl ?_;refine ai h1 ac rfl ?_;refine af h1 (wI (p := P) (g := g) (σ := σ) (μ' := σ.μ.cnt t.who (3, 0, 0) 1) (L := σ.μ.N) (by simp) (DB g.ib g.m σ.c.sh σ.nx σ.μ.N σ.μ t.who hN)) fun _ H2 h2 => ?_;refine bg h2 ac rfl rfl fun H3 h3 => ?_;refine ah (lN ..) ?_;exact ap (du (g := g) (σ' := σ.mem (σ.μ.cnt t.who (3, 0, 0) 1)) (t' := { t with at' := 7 }) (k := { k with a := 7 }) (by simp only [am, hat]) (by simp [ii, hobj]) (aw (σ := σ) hg (by simp) rfl) h3.to)
theorem Zz (S : SOk σ) (T : gX σ t) (hat : t.at' = 21) : Sp eH [vp x, vi now] (xP x P σ t) (fun _ : Unit => vb (am σ t now).2.2) (fun _ => xQ x P (am σ t now)) := by
 have hN : σ.μ.N < 1099511627000 := by have := S.N; omega
 refine aJ fun R H h => ?_;obtain ⟨k, g, hR, hg, h0⟩ := cN h;have hl := hg.1;simp only [ii, hat] at hR;obtain ⟨ha, hobj, hw0, hcode⟩ := hR;have ho := T.obj (.inl (by omega))
 have hob : k.obj < σ.obs.length := by omega
 obtain ⟨b, hb⟩ : ∃ b, g.rp[k.obj]? = some b := ⟨_, cA (by omega)⟩;refine bV x P g σ t k now S T (by omega) h0 fun b1 H1 h1 => ?_;refine chw (by omega) ?_;refine nK ?_;refine bm (fun r => xR _ _ H1) ?_;refine ai h1 ac rfl ?_;refine ah (lM ..) ?_;refine ai h1 ac rfl ?_;refine ah (lO ..) ?_;refine aa (aC (by omega)) ?_;refine gs ?_;refine aa (ba (by omega)) ?_;refine gs ?_;refine af h1 (jx x P g σ t k hl b hob hb) fun _ H2 h2 => ?_;refine bA ac ?_;refine aN h2 rfl ?_;refine aH h1 h2 (by rfl) ?_;refine af h2 (wF x P t k (by rw [hw0]; exact T.w)) fun _ H3 h3 => ?_;refine aH h3 h2 (by rfl) ?_;have hwc := dS k.w;refine af h3 (kg (p := P) (μ' := (σ.μ.acc t.who 2 (15, (k.obj : Int), ((bk k.w % (aA σ k.obj).length : Nat) : Int))).put (15, (k.obj : Int), ((bk k.w % (aA σ k.obj).length : Nat) : Int)) (bk k.w + 1)) (by simp) hl hob hb (DF g.m k.obj b (aA σ k.obj) σ.μ t.who (bk k.w) (by omega) (S.cells _ hob) hN)) fun _ H4 h4 => ?_;refine bg h4 ac rfl rfl fun H5 h5 => ?_;refine ah (lN ..) ?_;rw [hobj, hw0] at h5;exact ap (du (g := g) (σ' := yO σ t) (t' := { t with at' := 22 }) (k := { k with a := 22, obj := t.obj, w := t.w }) (by simp only [am, hat]) (by simp [ii, hcode]) (aw (σ := σ) hg (by simp) rfl) h5.to)
theorem ZA (S : SOk σ) (T : gX σ t) (hat : t.at' = 22) : Sp eH [vp x, vi now] (xP x P σ t) (fun _ : Unit => vb (am σ t now).2.2) (fun _ => xQ x P (am σ t now)) := by
 have hN : σ.μ.N < 1099511627000 := by have := S.N; omega
 refine aJ fun R H h => ?_;obtain ⟨k, g, hR, hg, h0⟩ := cN h;have hl := hg.1;simp only [ii, hat] at hR;obtain ⟨ha, hobj, hcode⟩ := hR;have ho := T.obj (.inl (by omega))
 have hob : k.obj < σ.obs.length := by omega
 obtain ⟨b, hb⟩ : ∃ b, g.rp[k.obj]? = some b := ⟨_, cA (by omega)⟩;refine bV x P g σ t k now S T (by omega) h0 fun b1 H1 h1 => ?_;refine chw (by omega) ?_;refine nK ?_;refine bm (fun r => xR _ _ H1) ?_;refine ai h1 ac rfl ?_;refine ah (lM ..) ?_;refine ai h1 ac rfl ?_;refine ah (lO ..) ?_;refine aa (aC (by omega)) ?_;refine gs ?_;refine aa (aC (by omega)) ?_;refine gs ?_;refine aa (ba (by omega)) ?_;refine gs ?_;refine ai h1 ac rfl ?_;refine ai h1 ac rfl ?_;refine af h1 (wI (p := P) (g := g) (σ := σ) (μ' := σ.μ.acc t.who 1 (9, t.s, 0)) (L := σ.μ.N) (by simp) (Nw g.ib g.m σ.c.sh σ.nx σ.μ.N σ.μ t.who t.s hN)) fun _ H2 h2 => ?_;refine bg h2 ac rfl rfl fun H3 h3 => ?_;refine bg h3 ac rfl rfl fun H4 h4 => ?_;refine ah (lN ..) ?_;exact ap (du (g := g) (σ' := σ.mem (σ.μ.acc t.who 1 (9, t.s, 0))) (t' := { t with at' := 23, top := σ.μ.V (9, t.s, 0) }) (k := { k with a := 23, top := σ.μ.V (9, t.s, 0) }) (by simp only [am, hat]) (by simp [ii, hobj, hcode]) (aw (σ := σ) hg (by simp) rfl) h4.to)
theorem ZB (S : SOk σ) (T : gX σ t) (hat : t.at' = 23) : Sp eH [vp x, vi now] (xP x P σ t) (fun _ : Unit => vb (am σ t now).2.2) (fun _ => xQ x P (am σ t now)) := by
 have hN : σ.μ.N < 1099511627000 := by have := S.N; omega
 refine aJ fun R H h => ?_;obtain ⟨k, g, hR, hg, h0⟩ := cN h;have hl := hg.1;simp only [ii, hat] at hR;obtain ⟨ha, hobj, htop, hcode⟩ := hR;have ho := T.obj (.inl (by omega))
 have hob : k.obj < σ.obs.length := by omega
 obtain ⟨b, hb⟩ : ∃ b, g.rp[k.obj]? = some b := ⟨_, cA (by omega)⟩;refine bV x P g σ t k now S T (by omega) h0 fun b1 H1 h1 => ?_;refine chw (by omega) ?_;refine nK ?_;refine bm (fun r => xR _ _ H1) ?_;refine ai h1 ac rfl ?_;refine ah (lM ..) ?_;refine ai h1 ac rfl ?_;refine ah (lO ..) ?_;refine aa (aC (by omega)) ?_;refine gs ?_;refine aa (aC (by omega)) ?_;refine gs ?_;refine aa (aC (by omega)) ?_;refine gs ?_;refine aa (ba (by omega)) ?_;refine gs ?_;refine ai h1 ac rfl ?_;refine ai h1 ac rfl ?_;refine ai h1 ac rfl ?_;refine ai h1 ac rfl ?_;refine af h1 (wI (p := P) (g := g) (σ := σ) (μ' := σ.μ.acc t.who 6 (14, (k.obj : Int), 0)) (L := σ.μ.N + 1) (by simp) (Kx g.ib g.m σ.c.sh σ.nx σ.μ.N σ.μ t.who k.obj k.top (by have := S.N; omega) hN)) fun _ H2 h2 => ?_;refine bg h2 ac rfl rfl fun H3 h3 => ?_;refine ah (lN ..) ?_;rw [hobj, htop] at h3;exact ap (du (g := g) (σ' := { σ with μ := σ.μ.acc t.who 6 (14, (t.obj : Int), 0), nx := fun k => if k = (t.obj : Int) then some t.top else σ.nx k }) (t' := { t with at' := 24 }) (k := { k with a := 24, obj := t.obj, top := t.top }) (by simp only [am, hat]) (by simp [ii, hcode]) (aw (σ := σ) hg (by simp) rfl) h3.to)
theorem ZC (S : SOk σ) (T : gX σ t) (hat : t.at' = 24) : Sp eH [vp x, vi now] (xP x P σ t) (fun _ : Unit => vb (am σ t now).2.2) (fun _ => xQ x P (am σ t now)) := by
 have hN : σ.μ.N < 1099511627000 := by have := S.N; omega
 refine aJ fun R H h => ?_;obtain ⟨k, g, hR, hg, h0⟩ := cN h;have hl := hg.1;simp only [ii, hat] at hR;obtain ⟨ha, hobj, htop, hcode⟩ := hR;have ho := T.obj (.inl (by omega))
 have hob : k.obj < σ.obs.length := by omega
 obtain ⟨b, hb⟩ : ∃ b, g.rp[k.obj]? = some b := ⟨_, cA (by omega)⟩;refine bV x P g σ t k now S T (by omega) h0 fun b1 H1 h1 => ?_;refine chw (by omega) ?_;refine nK ?_;refine bm (fun r => xR _ _ H1) ?_;refine ai h1 ac rfl ?_;refine ah (lM ..) ?_;refine ai h1 ac rfl ?_;refine ah (lO ..) ?_;refine aa (aC (by omega)) ?_;refine gs ?_;refine aa (aC (by omega)) ?_;refine gs ?_;refine aa (aC (by omega)) ?_;refine gs ?_;refine aa (aC (by omega)) ?_;refine gs ?_;refine aa (ba (by omega)) ?_;refine gs ?_;refine bg h1 ac rfl rfl fun H2 h2 => ?_;refine ai h2 ac rfl ?_;refine ai h2 ac rfl ?_;refine ai h2 ac rfl ?_;refine ai h2 ac rfl ?_;refine af h2 (wI (p := P) (g := g) (σ := σ) (μ' := σ.μ.swp t.who (9, t.s, 0) k.top (k.obj + 1)) (L := σ.μ.N) (by simp) (Ky g.ib g.m σ.c.sh σ.nx σ.μ.N σ.μ t.who t.s k.top k.obj (by have := S.obs; omega) hN)) fun _ H3 h3 => ?_;rw [hobj, htop] at h3;rw [htop]
 by_cases hw : σ.μ.V (9, t.s, 0) = t.top
 ·rw [fj hw]
  refine gs ?_;refine bg h3 ac rfl rfl fun H4 h4 => ?_;refine ah (lN ..) ?_;exact ap (du (g := g) (σ' := σ.mem (σ.μ.swp t.who (9, t.s, 0) t.top (t.obj + 1))) (t' := { t with at' := 25 }) (k := { k with a := 25, obj := t.obj, top := t.top }) (by simp only [am, hat]; rw [if_pos hw]) (by simp [ii, hcode]) (aw (σ := σ) hg (by simp) rfl) h4.to)
 ·rw [ez hw]
  refine gs ?_;refine ah (lN ..) ?_;exact ap (du (g := g) (σ' := σ.mem (σ.μ.swp t.who (9, t.s, 0) t.top (t.obj + 1))) (t' := { t with at' := 22 }) (k := { k with a := 22, obj := t.obj, top := t.top }) (by simp only [am, hat]; rw [if_neg hw]) (by simp [ii, hcode]) (aw (σ := σ) hg (by simp) rfl) h3.to)
theorem ZD (S : SOk σ) (T : gX σ t) (hat : t.at' = 25) : Sp eH [vp x, vi now] (xP x P σ t) (fun _ : Unit => vb (am σ t now).2.2) (fun _ => xQ x P (am σ t now)) := by
 have hN : σ.μ.N < 1099511627000 := by have := S.N; omega
 refine aJ fun R H h => ?_;obtain ⟨k, g, hR, hg, h0⟩ := cN h;have hl := hg.1;simp only [ii, hat] at hR;obtain ⟨ha, hcode⟩ := hR;refine bV x P g σ t k now S T (by omega) h0 fun b1 H1 h1 => ?_;refine chw (by omega) ?_;refine nK ?_;refine bm (fun r => xR _ _ H1) ?_;refine ai h1 ac rfl ?_;refine ah (lM ..) ?_;refine ai h1 ac rfl ?_;refine ah (lO ..) ?_;refine aa (aC (by omega)) ?_;refine gs ?_;refine aa (aC (by omega)) ?_;refine gs ?_;refine aa (aC (by omega)) ?_;refine gs ?_;refine aa (aC (by omega)) ?_;refine gs ?_;refine aa (aC (by omega)) ?_;refine gs ?_;refine aa (ba (by omega)) ?_;refine gs ?_;refine ai h1 ac rfl ?_;refine ai h1 ac rfl ?_;refine af h1 (wI (p := P) (g := g) (σ := σ) (μ' := σ.μ.cnt t.who (3, 0, 0) 1) (L := σ.μ.N) (by simp) (DB g.ib g.m σ.c.sh σ.nx σ.μ.N σ.μ t.who hN)) fun _ H2 h2 => ?_;exact ap (DA (g := g) (k := k) (σ' := σ.mem (σ.μ.cnt t.who (3, 0, 0) 1)) (t' := t) (by simp only [am, hat]) hcode (aw (σ := σ) hg (by simp) rfl) h2.to)
theorem Zo {R : SP} {H1 : AH} {b1 : Nat} {sv : Value} (g : XIds) (k : Xk) (S : SOk σ) (T : gX σ t) (hg : eK g σ) (ha : k.a = 2) (hI : k.I = t.i) (hh : k.hit = false) (hi : (t.i : Int) < σ.c.sl)
 (h1 : ae (blk b1 (.cells false [vi t.x.flow, vi t.x.a, vi t.x.b]) * (xB x P t k * (ar P g σ * R))) H1) :
 wp (MV (vp x) (vi now) (vb false) (vp P) sv (vp b1) (vi k.a) (vb true) H1) fun v' H' => ∃ y : Unit, v' = vb (gi σ t).2.2 ∧ ae (xQ x P (gi σ t) * R) H' := by
 refine ah (ox ..) ?_;refine gs ?_;refine af h1 (QL x P g σ t k S T hI hi) fun k2 H2 h2 => ?_;rw [aj, ae.pu] at h2;obtain ⟨hX, h2⟩ := h2;obtain ⟨x1, x2, x3, x4, x5, x6, x7, x8⟩ := hX;refine aa (v := vb (aO σ t).found) rfl ?_;refine aa (v := vb (!(aO σ t).found && cr σ (aO σ t))) rfl ?_;cases hf : (aO σ t).found
 ·obtain ⟨y1, y2⟩ := x8 hf
  refine gs ?_;rw [Bool.not_false, Bool.true_and];cases hla : cr σ (aO σ t)
  ·refine gs ?_
   refine ah (cn ..) ?_;exact ap (du (g := g) (k := k2) (σ' := aV σ t) (t' := { aO σ t with at' := 2 }) (by simp only [gi, hf, hla]; rfl) (by simp [ii, x1, ha, y1, y2, hh, hI, aO]) (aw (σ := σ) hg (by simp) rfl) (show ae (xB x P t k2 * (ar P g (aV σ t) * R)) H2 from h2.to))
  ·refine gs ?_
   refine bg h2 ac rfl rfl fun H3 h3 => ?_;refine ah (cn ..) ?_;exact ap (du (g := g) (k := { k2 with a := 3 }) (σ' := aV σ t) (t' := { aO σ t with at' := 3 }) (by simp only [gi, hf, hla]; rfl) (by simp [ii]) (aw (σ := σ) hg (by simp) rfl) (show ae (xB x P t { k2 with a := 3 } * (ar P g (aV σ t) * R)) H3 from h3.to))
 ·obtain ⟨y1, y2⟩ := x7 hf
  refine gs ?_;refine bg h2 ac rfl rfl fun H3 h3 => ?_;refine ah (cn ..) ?_;exact ap (du (g := g) (k := { k2 with a := 6 }) (σ' := aV σ t) (t' := { aO σ t with at' := 6 }) (by simp only [gi, hf]; rfl) (by simp [ii, y2]) (aw (σ := σ) hg (by simp) rfl) (show ae (xB x P t { k2 with a := 6 } * (ar P g (aV σ t) * R)) H3 from h3.to))
theorem acF (S : SOk σ) (T : gX σ t) (hat : t.at' = 2) : Sp eH [vp x, vi now] (xP x P σ t) (fun _ : Unit => vb (am σ t now).2.2) (fun _ => xQ x P (am σ t now)) := by
 have hN : σ.μ.N < 1099511627000 := by have := S.N; omega
 refine aJ fun R H h => ?_;obtain ⟨k, g, hR, hg, h0⟩ := cN h;have hl := hg.1;simp only [ii, hat] at hR;obtain ⟨ha, hI, hh⟩ := hR;have hi := T.i (by omega) (by omega)
 have hs : am σ t now = gi σ t := by simp only [am, hat, gi]
 rw [hs];refine bV x P g σ t k now S T (by omega) h0 fun b1 H1 h1 => ?_;refine ah (lL ..) ?_;refine aa (ba (by omega)) ?_;exact Zo x P σ t now g k S T hg ha hI hh hi h1
theorem acH (S : SOk σ) (T : gX σ t) (hat : t.at' = 4) : Sp eH [vp x, vi now] (xP x P σ t) (fun _ : Unit => vb (am σ t now).2.2) (fun _ => xQ x P (am σ t now)) := by
 have hN : σ.μ.N < 1099511627000 := by have := S.N; omega
 refine aJ fun R H h => ?_;obtain ⟨k, g, hR, hg, h0⟩ := cN h;have hl := hg.1;simp only [ii, hat] at hR;obtain ⟨ha, hI, hh⟩ := hR;have hi := T.i (by omega) (by omega);refine bV x P g σ t k now S T (by omega) h0 fun b1 H1 h1 => ?_;refine ah (lL ..) ?_;refine aa (aC (by omega)) ?_;refine ah (ox ..) ?_;refine gs ?_;refine aa (aC (by omega)) ?_;refine ah (o5 ..) ?_;refine gs ?_;refine aa (ba (by omega)) ?_;refine ah (tV ..) ?_;refine gs ?_;refine af h1 (QL x P g σ t k S T hI hi) fun k2 H2 h2 => ?_;rw [aj, ae.pu] at h2;obtain ⟨hX, h2⟩ := h2;obtain ⟨x1, x2, x3, x4, x5, x6, x7, x8⟩ := hX;refine aa (v := vb (aO σ t).found) rfl ?_;refine aa (v := vb (!(aO σ t).found && cr σ (aO σ t))) rfl ?_;cases hf : (aO σ t).found
 ·obtain ⟨y1, y2⟩ := x8 hf
  refine gs ?_;rw [Bool.not_false, Bool.true_and];cases hla : cr σ (aO σ t)
  ·refine gs ?_
   refine ah (cn ..) ?_;exact ap (du (g := g) (k := k2) (σ' := aV σ t) (t' := aO σ t) (by simp only [am, hat, hf, hla]; rfl) (by simp [ii, x1, ha, y1, y2, hh, hI, aO, hat]) (aw (σ := σ) hg (by simp) rfl) (show ae (xB x P t k2 * (ar P g (aV σ t) * R)) H2 from h2.to))
  ·refine gs ?_
   refine af h2 (jw x P g (aV σ t) t k2 (aw (σ := σ) hg (by simp) rfl) now 5 (by have := S.N; show σ.μ.N + 2 < _; omega) S.pts) fun v H3 h3 => ?_;refine bg h3 ac rfl rfl fun H4 h4 => ?_;refine ah (cn ..) ?_;exact ap (du (g := { g with pv := v }) (k := { k2 with a := 5, code := 5 }) (σ' := (aV σ t).note now t.who 5) (t' := { aO σ t with at' := 5, code := 5 }) (by simp only [am, hat, hf, hla]; rfl) (by simp [ii, hf, y1, hh]) (dE (σ := σ) hg (by simp) rfl) (show ae (xB x P t { k2 with a := 5, code := 5 } * (ar P { g with pv := v } ((aV σ t).note now t.who 5) * R)) H4 from h4.to))
 ·obtain ⟨y1, y2⟩ := x7 hf
  refine gs ?_;refine bg h2 ac rfl rfl fun H3 h3 => ?_;refine ah (cn ..) ?_;exact ap (du (g := g) (k := { k2 with a := 5 }) (σ' := aV σ t) (t' := { aO σ t with at' := 5 }) (by simp only [am, hat, hf]; rfl) (by simp [ii, hf, y1, y2]) (aw (σ := σ) hg (by simp) rfl) (show ae (xB x P t { k2 with a := 5 } * (ar P g (aV σ t) * R)) H3 from h3.to))
theorem acE (S : SOk σ) (T : gX σ t) (hat : t.at' = 0) : Sp eH [vp x, vi now] (xP x P σ t) (fun _ : Unit => vb (am σ t now).2.2) (fun _ => xQ x P (am σ t now)) := by
 have hN : σ.μ.N < 1099511627000 := by have := S.N; omega
 refine aJ fun R H h => ?_;obtain ⟨k, g, hR, hg, h0⟩ := cN h;have hl := hg.1;simp only [ii, hat] at hR;obtain ⟨ha, hI, hh⟩ := hR;have hi := T.i (by omega) (by omega);refine Kw x P g σ t k now S T h0 fun b1 H1 h1 => ?_;refine ah (E9 ..) ?_;refine ai h1 ac rfl ?_;refine aa (ba (by omega)) ?_;refine gs ?_
 have fin : ∀ code, fg t.x = some code → wp ((FF bC [vp x, vi now, vi code] H1).bind fun r125 => some ((vb true), r125.2)) fun v' H' => ∃ y : Unit, v' = vb (am σ t now).2.2 ∧ ae (xQ x P (am σ t now) * R) H' := by
  intro code hx;refine af h1 (jw x P g σ t k hg now code (by have := S.N; omega) S.pts) fun v H2 h2 => ?_;exact ap (DA (g := { g with pv := v }) (k := { k with code := code }) (σ' := σ.note now t.who code) (t' := { t with code := code }) (by simp only [am, hat, hx]) rfl (dE (σ := σ) hg (bJ _) rfl) h2.to)
 refine ai h1 (b7 (aL (aL aZ))) rfl ?_
 by_cases ha1 : t.x.a < 1
 ·refine aa (cP ha1) ?_
  refine gs ?_;exact fin 3 (by rw [fg, if_pos (.inl ha1)])
 ·refine aa (bW ha1) ?_
  refine gs ?_;refine ai h1 (b7 (aL (aL aZ))) rfl ?_;refine gs ?_
  by_cases ha2 : 65536 < t.x.a
  ·refine aa (nZ ha2) ?_
   refine gs ?_;exact fin 3 (by rw [fg, if_pos (.inr ha2)])
  ·refine aa (g6 ha2) ?_
   refine gs ?_;refine ai h1 (b7 (aL (aL aZ))) rfl ?_
   by_cases hf : t.x.flow < 0
   ·refine aa (cP hf) ?_
    refine gs ?_;exact fin 5 (by rw [fg, if_neg (by omega), if_pos (.inl hf)])
   ·refine aa (bW hf) ?_
    refine gs ?_;refine ai h1 (b7 (aL (aL aZ))) rfl ?_;refine gs ?_
    by_cases hf2 : 1048576 < t.x.flow
    ·refine aa (nZ hf2) ?_
     refine gs ?_;exact fin 5 (by rw [fg, if_neg (by omega), if_pos (.inr hf2)])
    ·refine aa (g6 hf2) ?_
     refine gs ?_
     have hx : fg t.x = none := by rw [fg, if_neg (by omega), if_neg (by omega)]
     have hs : am σ t now = gi σ t := by simp only [am, hat, hx, gi]
     rw [hs];refine bg h1 ac rfl rfl fun H2 h2 => ?_;refine ah (Fa ..) ?_;refine ai h2 ac rfl ?_;refine ah (lL ..) ?_;refine aa (ba (by omega)) ?_;exact Zo x P σ t now g { k with a := 2 } S T hg rfl hI hh hi h2.to
theorem Ut (S : SOk σ) (T : gX σ t) : Sp eH [vp x, vi now] (xP x P σ t) (fun _ : Unit => vb (am σ t now).2.2) (fun _ => xQ x P (am σ t now)) := by
 rcases T.ats with hat | hat | hat | hat | hat | hat | hat | hat | hat | hat | hat | hat | hat | hat | hat | hat | hat | hat | hat | hat | hat | hat | hat | hat
 ·exact acE x P σ t now S T hat
 ·exact acF x P σ t now S T hat
 ·exact acG x P σ t now S T hat
 ·exact acH x P σ t now S T hat
 ·exact acI x P σ t now S T hat
 ·exact acJ x P σ t now S T hat
 ·exact acK x P σ t now S T hat
 ·exact acL x P σ t now S T hat
 ·exact acM x P σ t now S T hat
 ·exact Zp x P σ t now S T hat
 ·exact Zq x P σ t now S T hat
 ·exact Zr x P σ t now S T hat
 ·exact Zs x P σ t now S T hat
 ·exact Zt x P σ t now S T hat
 ·exact Zu x P σ t now S T hat
 ·exact Zv x P σ t now S T hat
 ·exact Zw x P σ t now S T hat
 ·exact Zx x P σ t now S T hat
 ·exact Zy x P σ t now S T hat
 ·exact Zz x P σ t now S T hat
 ·exact ZA x P σ t now S T hat
 ·exact ZB x P σ t now S T hat
 ·exact ZC x P σ t now S T hat
 ·exact ZD x P σ t now S T hat
end
end Go.Proofs.YtflbeghglllknaaGreatDoor.Gst
