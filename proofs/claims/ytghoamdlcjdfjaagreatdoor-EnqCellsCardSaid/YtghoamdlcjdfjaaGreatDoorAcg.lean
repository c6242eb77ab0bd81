/- Several texts in one. -/
import Derived.Test.YtghoamdlcjdfjaaGreatDoorAcf
namespace Go.Proofs.YtghoamdlcjdfjaaGreatDoor.Gst
open Go Go.RowKit
set_option linter.unusedSimpArgs false
set_option linter.unusedVariables false
set_option linter.unusedSectionVars false
set_option maxHeartbeats 1000000
set_option maxRecDepth 100000
set_option synthInstance.maxSize 2000
set_option synthInstance.maxHeartbeats 400000
theorem af5 {ws : List Wk} {w : Nat} {q : Nat × Nat × Tk} {r : az × Tk × Bool} (hwl : w < ws.length) : eO (ws.set w (if r.2.2 = true then none else some (q.1, q.2.1, r.2.1))) = i9 (eO ws) w r := funext fun k => by
 rw [Aj hwl];unfold i9
 by_cases e : k = w
 ·rw [if_pos e, if_pos e]; split <;> rfl
 ·rw [if_neg e, if_neg e]
theorem ac2 {c : gf} : ∀ k, ∀ z : b7, z.1 ≠ 10 → (az.made c k).μ.V z = 0 := by
 intro k
 induction k with
 | zero => exact fun _ _ => rfl
 | succ k ih =>
  intro z hz;unfold az.made
  split
  ·show (if z = (10, _, _) then _ else (az.made c k).μ.V z) = 0
   rw [if_neg (fun e => hz (by rw [e]))];exact ih z hz
  ·exact ih z hz
def hdL : List Nat → Nat
 | [] => 0
 | o :: _ => o + 1
def chn (nx : Int → Option Nat) : List Nat → Prop
 | [] => True
 | o :: l => nx (o : Int) = some (hdL l) ∧ chn nx l
theorem chn.mono {nx nx' : Int → Option Nat} : ∀ {l : List Nat}, chn nx l → (∀ o ∈ l, nx' (o : Int) = nx (o : Int)) → chn nx' l := by
 intro l
 induction l with
 | nil => exact fun _ _ => trivial
 | cons o l ih => exact fun h e => ⟨(e o (List.mem_cons_self ..)).trans h.1, ih h.2 fun o' ho => e o' (List.mem_cons_of_mem _ ho)⟩
def tB (t : Tk) : Prop := t.at' = 14 ∨ 21 ≤ t.at' ∧ t.at' < 25
def xV (t : Tk) : Nat := if t.at' = 13 ∨ t.at' = 14 ∨ 20 ≤ t.at' ∧ t.at' ≤ 25 then 1 else 0
def Lq (r : az × Tk × Bool) : Nat := if r.2.2 = true then 0 else xV r.2.1
def qX (tk : Nat → Option Tk) (w : Nat) : Nat := match tk w with
 | some t => xV t
 | none => 0
def aP (σ : az) (o : Nat) : Int := ((σ.obs[o]?).map fun q => q.1.flow).getD (-1)
structure TW (σ : az) (t : Tk) : Prop where
 obj : 6 ≤ t.at' ∨ t.at' = 5 ∧ t.found = true → t.obj < σ.obs.length ∧ (aP σ t.obj).tmod σ.c.sh = t.s
 rest : t.at' = 12 ∨ t.at' = 13 → aS t.w ≠ 1
 one : t.at' = 9 → aS t.w = 1
abbrev Ej : Nat := 4294967296
structure WI (i : Nat) (σ : az) (tk : Nat → Option Tk) (ls : Int → List Nat) : Prop where
 so : ∀ s i, σ.μ.V (10, s, i) ≠ 0 → σ.μ.V (10, s, i) % Ej < σ.obs.length ∧ (aP σ (σ.μ.V (10, s, i) % Ej)).tmod σ.c.sh = s
 tw : ∀ w t, w < 4 → tk w = some t → TW σ t
 wz : ∀ o : Nat, σ.μ.V (11, (o : Int), 0) = 0 ∨ aS (σ.μ.V (11, (o : Int), 0)) = 1
 ch : ∀ s, chn σ.nx (ls s) ∧ σ.μ.V (9, s, 0) = hdL (ls s)
 nd : ∀ s, (ls s).Nodup
 mem : ∀ s o, o ∈ ls s → o < σ.obs.length ∧ σ.μ.V (11, (o : Int), 0) ≠ 0 ∧ (aP σ o).tmod σ.c.sh = s
 all : ∀ o : Nat, o < σ.obs.length → σ.μ.V (11, (o : Int), 0) ≠ 0 → o ∈ ls ((aP σ o).tmod σ.c.sh) ∨ ∃ w t, w < 4 ∧ tk w = some t ∧ tB t ∧ t.obj = o
 lk : ∀ w t, w < 4 → tk w = some t → tB t → σ.μ.V (11, (t.obj : Int), 0) ≠ 0 ∧ t.obj ∉ ls t.s ∧ (t.at' = 24 → σ.nx (t.obj : Int) = some t.top)
 lk2 : ∀ w w' t t', w < 4 → w' < 4 → w ≠ w' → tk w = some t → tk w' = some t' → tB t → tB t' → t.obj ≠ t'.obj
 fl : ∀ o, o < σ.obs.length → 0 ≤ aP σ o
 sec : ∃ b, σ.μ.V (3, 0, 0) = (b + S4 (qX tk)) * Ej + b ∧ b + S4 (qX tk) ≤ i
section
variable {i : Nat} {σ : az} {tk : Nat → Option Tk} {ls ls' : Int → List Nat} {w : Nat} {t : Tk} {r : az × Tk × Bool}
theorem n4 : i9 tk w r w = if r.2.2 = true then none else some r.2.1 := if_pos rfl
theorem gI {t' : Tk} (h : i9 tk w r w = some t') : r.2.2 = false ∧ r.2.1 = t' := by
 rw [n4] at h;cases hd : r.2.2
 ·rw [hd, if_neg (by simp)] at h
  exact ⟨rfl, fi h⟩
 ·rw [hd, if_pos rfl] at h; cases h
theorem X9 (hw : w < 4) (ht : tk w = some t) : S4 (qX (i9 tk w r)) + xV t = S4 (qX tk) + Lq r := by
 have e1 : qX (i9 tk w r) w = Lq r := by
  unfold qX Lq;rw [n4]
  cases r.2.2 <;> rfl
 have e2 : qX tk w = xV t := by unfold qX; rw [ht]
 have := Ao hw (f := qX tk) (f' := qX (i9 tk w r)) (fun u _ hu => by unfold qX i9; rw [if_neg hu]);omega
theorem WI.gen (M : WI i σ tk ls) (hw : w < 4) (ht : tk w = some t) (hc : r.1.c = σ.c) (hob : ∀ o, aP r.1 o = aP σ o) (hol : r.1.obs.length = σ.obs.length)
 (h10 : ∀ s k, r.1.μ.V (10, s, k) = σ.μ.V (10, s, k)) (hwz : ∀ o : Nat, r.1.μ.V (11, (o : Int), 0) = 0 ∨ aS (r.1.μ.V (11, (o : Int), 0)) = 1)
 (h11 : ∀ o : Nat, σ.μ.V (11, (o : Int), 0) ≠ 0 → r.1.μ.V (11, (o : Int), 0) ≠ 0)
 (h11' : ∀ o : Nat, r.1.μ.V (11, (o : Int), 0) ≠ 0 → σ.μ.V (11, (o : Int), 0) ≠ 0 ∨ r.2.2 = false ∧ tB r.2.1 ∧ r.2.1.obj = o)
 (hch : ∀ s, chn r.1.nx (ls' s) ∧ r.1.μ.V (9, s, 0) = hdL (ls' s)) (hnd : ∀ s, (ls' s).Nodup)
 (hmem : ∀ s o, o ∈ ls' s → o ∈ ls s ∨ o = t.obj ∧ s = t.s ∧ tB t) (hsub : ∀ s o, o ∈ ls s → o ∈ ls' s)
 (hlt : tB t → (r.2.2 = false ∧ tB r.2.1 ∧ r.2.1.obj = t.obj) ∨ t.obj ∈ ls' t.s)
 (hl : r.2.2 = false → tB r.2.1 → r.1.μ.V (11, (r.2.1.obj : Int), 0) ≠ 0 ∧ r.2.1.obj ∉ ls' r.2.1.s ∧ (r.2.1.at' = 24 → r.1.nx (r.2.1.obj : Int) = some r.2.1.top) ∧ ∀ w' t', w' < 4 → w' ≠ w → tk w' = some t' → tB t' → t'.obj ≠ r.2.1.obj)
 (hlo : ∀ w' t', w' < 4 → w' ≠ w → tk w' = some t' → tB t' → t'.obj ∉ ls' t'.s ∧ r.1.nx (t'.obj : Int) = σ.nx (t'.obj : Int))
 (htk : r.2.2 = false → TW r.1 r.2.1)
 (hsec : ∀ b N, σ.μ.V (3, 0, 0) = (b + N) * Ej + b → b + N ≤ i → xV t ≤ N → ∃ b', r.1.μ.V (3, 0, 0) = (b' + (N - xV t + Lq r)) * Ej + b' ∧ b' + (N - xV t + Lq r) ≤ i + 1) :
 WI (i + 1) r.1 (i9 tk w r) ls' := by
 have hne : ∀ {u}, u ≠ w → i9 tk w r u = tk u := fun hu => if_neg hu;refine ⟨fun s k h => ?_, fun w' t' hw' gF => ?_, hwz, hch, hnd, fun s o ho => ?_, fun o ho hv => ?_, fun w' t' hw' gF hl' => ?_, fun w1 w2 t1 t2 h1 h2 hn e1 e2 l1 l2 => ?_, fun o ho => by rw [hob]; exact M.fl o (by rw [← hol]; exact ho), ?_⟩
 ·rw [h10] at h ⊢
  rw [hob, hol, hc];exact M.so s k h
 ·by_cases e : w' = w
  ·subst e
   obtain ⟨h1, h2⟩ := gI gF;subst h2;exact htk h1
  ·rw [hne e] at gF
   have T := M.tw w' t' hw' gF;exact ⟨fun h => by rw [hob, hol, hc]; exact T.obj h, T.rest, T.one⟩
 ·rw [hob, hol, hc]
  rcases hmem s o ho with h | ⟨h1, h2, h3⟩
  ·obtain ⟨a, b, c⟩ := M.mem s o h
   exact ⟨a, h11 o b, c⟩
  ·subst h1 h2
   have T := (M.tw w t hw ht).obj (.inl (by rcases h3 with h3 | h3 <;> omega))
   exact ⟨T.1, h11 _ (M.lk w t hw ht h3).1, T.2⟩
 ·rw [hol] at ho
  rw [hob, hc]
  rcases h11' o hv with h | ⟨h1, h2, h3⟩
  ·rcases M.all o ho h with h | ⟨w', t', a, b, c, d⟩
   ·exact .inl (hsub _ _ h)
   ·by_cases e : w' = w
    ·subst e
     rw [ht] at b;cases b
     rcases hlt c with ⟨q1, q2, q3⟩ | q
     ·exact .inr ⟨w', r.2.1, a, by rw [n4, q1, if_neg (by simp)], q2, by rw [q3]; exact d⟩
     ·have T := (M.tw w' t hw ht).obj (.inl (by rcases c with c | c <;> omega))
      rw [d] at q T;rw [T.2];exact .inl q
    ·exact .inr ⟨w', t', a, by rw [hne e]; exact b, c, d⟩
  ·exact .inr ⟨w, r.2.1, hw, by rw [n4, h1, if_neg (by simp)], h2, h3⟩
 ·by_cases e : w' = w
  ·subst e
   obtain ⟨h1, h2⟩ := gI gF;subst h2;obtain ⟨a, b, c, _⟩ := hl h1 hl';exact ⟨a, b, c⟩
  ·rw [hne e] at gF
   obtain ⟨a, b, c⟩ := M.lk w' t' hw' gF hl';obtain ⟨d1, d2⟩ := hlo w' t' hw' e gF hl';exact ⟨h11 _ a, d1, fun h => d2.trans (c h)⟩
 ·by_cases a1 : w1 = w
  ·subst a1
   obtain ⟨q1, q2⟩ := gI e1;subst q2;rw [hne (fun q => hn q.symm)] at e2;exact fun q => (hl q1 l1).2.2.2 w2 t2 h2 (fun q => hn q.symm) e2 l2 q.symm
  ·rw [hne a1] at e1
   by_cases a2 : w2 = w
   ·subst a2
    obtain ⟨q1, q2⟩ := gI e2;subst q2;exact (hl q1 l2).2.2.2 w1 t1 h1 a1 e1 l1
   ·rw [hne a2] at e2
    exact M.lk2 w1 w2 t1 t2 h1 h2 hn e1 e2 l1 l2
 ·obtain ⟨b, hb1, hb2⟩ := M.sec
  have h1 := X9 (r := r) hw ht
  have h2 : xV t ≤ S4 (qX tk) := by
   have := uh (qX tk) hw
   have e : qX tk w = xV t := by unfold qX; rw [ht]
   omega
  obtain ⟨b', c1, c2⟩ := hsec b _ hb1 hb2 h2
  have e : S4 (qX (i9 tk w r)) = S4 (qX tk) - xV t + Lq r := by omega
  rw [e];exact ⟨b', c1, c2⟩
theorem WI.same (M : WI i σ tk ls) (hw : w < 4) (ht : tk w = some t) (hc : r.1.c = σ.c) (hob : ∀ o, aP r.1 o = aP σ o) (hol : r.1.obs.length = σ.obs.length) (h10 : ∀ s k, r.1.μ.V (10, s, k) = σ.μ.V (10, s, k)) (h11 : ∀ o : Nat, r.1.μ.V (11, (o : Int), 0) = σ.μ.V (11, (o : Int), 0))
 (h9 : ∀ s, r.1.μ.V (9, s, 0) = σ.μ.V (9, s, 0)) (hnx : r.1.nx = σ.nx) (hl : tB t → r.2.2 = false ∧ tB r.2.1) (hl2 : r.2.2 = false → tB r.2.1 → tB t ∧ r.2.1.obj = t.obj ∧ r.2.1.s = t.s ∧ r.2.1.at' ≠ 24)
 (htk : r.2.2 = false → TW σ r.2.1)
 (hsec : ∀ b N, σ.μ.V (3, 0, 0) = (b + N) * Ej + b → b + N ≤ i → xV t ≤ N → ∃ b', r.1.μ.V (3, 0, 0) = (b' + (N - xV t + Lq r)) * Ej + b' ∧ b' + (N - xV t + Lq r) ≤ i + 1) : WI (i + 1) r.1 (i9 tk w r) ls :=
 M.gen hw ht hc hob hol h10 (fun o => by rw [h11]; exact M.wz o) (fun o h => by rw [h11]; exact h) (fun o h => .inl (by rw [← h11]; exact h)) (fun s => by rw [hnx, h9]; exact M.ch s) M.nd (fun s o h => .inl h) (fun s o h => h)
  (fun h => by
   obtain ⟨a, b⟩ := hl h;obtain ⟨_, c, _⟩ := hl2 a b
   exact .inl ⟨a, b, c⟩)
  (fun h1 h2 => by
   obtain ⟨a, b, c, d⟩ := hl2 h1 h2;obtain ⟨e, f, _⟩ := M.lk w t hw ht a;rw [b, c, h11]
   exact ⟨e, f, fun q => absurd q d, fun w' t' hw' hn gF hl' q => M.lk2 w' w t' t hw' hw hn gF ht hl' a q⟩)
  (fun w' t' hw' hn gF hl' => ⟨(M.lk w' t' hw' gF hl').2.1, by rw [hnx]⟩)
  (fun h => by
   have T := htk h
   exact ⟨fun q => by rw [hob, hol, hc]; exact T.obj q, T.rest, T.one⟩) hsec
end
section
variable {i : Nat} {σ : az} {tk : Nat → Option Tk} {ls : Int → List Nat} {w : Nat} {t t' : Tk} {r : az × Tk × Bool}
theorem Ce {σ' : az} (h : σ'.obs = σ.obs) : ∀ o, aP σ' o = aP σ o := fun o => by unfold aP; rw [h]
theorem acM (o : Nat) : aP (g7 σ t) o = aP σ o := by
 unfold aP g7;dsimp only;rw [List.getElem?_modify]
 split
 ·rename_i h
  subst h
  cases σ.obs[t.obj]? <;> simp
 ·cases σ.obs[o]? <;> simp
theorem ai1 : (g7 σ t).obs.length = σ.obs.length := by unfold g7; simp
end


section
variable (m i rp : Nat) (cs : List Pk) (μ : Mu)
theorem C6 (who : Int) (n : Nat) (hn : n < 18446744073709551615) (h0 : 1 ≤ cs.length ∧ cs.length < 1000) (hE : μ.N < 1099511627000) :
 Sp fD [vp rp, vi who, vu n] (bW m i rp cs * bh m μ) (fun _ : Unit => vb (decide (μ.V (15, (i : Int), ((n % cs.length : Nat) : Int)) = n + 1))) (fun _ => bW m i rp cs * bh m (μ.acc who 1 (15, (i : Int), ((n % cs.length : Nat) : Int)))) := by
 refine aZ fun R H h => ?_;obtain ⟨cv, k0⟩ := bi (m := m) (i := i) (rp := rp) (cs := cs) (R := bh m μ * R) (H := H) h.to;refine bf (fun r => t7 _ _ _ H) ?_;refine bp ae ?_;refine aL k0 rfl ?_;refine ag h (r7 m i rp cs n h0) fun _ H1 h1 => ?_;obtain ⟨cv1, k1⟩ := bi h1;refine aI k1 k0 (by rfl) ?_;refine ag h1 (oU m i rp cs 15 ((n % cs.length : Nat) : Int)) fun _ H2 h2 => ?_;obtain ⟨cv2, k2⟩ := bi h2;refine aI k2 k0 (by rfl) ?_;refine ag h2 (xr m μ who (15, (i : Int), ((n % cs.length : Nat) : Int)) (by omega)) fun _ H3 h3 => ?_;refine aa (dt (b := 1) (by omega)) ?_
 by_cases hv : μ.V (15, (i : Int), ((n % cs.length : Nat) : Int)) = n + 1
 ·refine aa (bF (by omega)) ?_
  exact aq ⟨(), by rw [iy hv], h3.to⟩
 ·refine aa (aQ (by omega)) ?_
  exact aq ⟨(), by rw [gU hv], h3.to⟩
theorem aeU (who : Int) (n : Nat) (h0 : 1 ≤ cs.length ∧ cs.length < 1000) (hE : μ.N < 1099511627000) :
 Sp km [vp rp, vi who, vu n] (bW m i rp cs * bh m μ) (fun _ : Unit => .agg (Pk.cells (cs[n % cs.length]'(Nat.mod_lt _ (by omega)))).toArray) (fun _ => bW m i rp cs * bh m (μ.acc who 5 (16, (i : Int), ((n % cs.length : Nat) : Int)))) := by
 have hlt : n % cs.length < cs.length := Nat.mod_lt _ (by omega);refine aX (xO _ _ _) fun R H h => ?_;refine bm h fun b H1 h1 => ?_;obtain ⟨cv, k1⟩ := bi (m := m) (i := i) (rp := rp) (cs := cs) (R := bh m μ * (blk b (.cells false [vi 0, vi 0, vi 0]) * R)) (H := H1) h1.to;refine bp ae ?_;refine aL k1 rfl ?_;refine ag h1 (r7 m i rp cs n h0) fun _ H2 h2 => ?_;obtain ⟨cv2, k2⟩ := bi h2;refine aI k2 k1 (by rfl) ?_;refine ag h2 (oU m i rp cs 16 ((n % cs.length : Nat) : Int)) fun _ H3 h3 => ?_;obtain ⟨cv3, k3⟩ := bi h3;refine aI k3 k1 (by rfl) ?_;refine ag h3 ((Cy m μ who (16, (i : Int), ((n % cs.length : Nat) : Int)) (by omega)).imp fun _ R H h => iI (N' := μ.N + 2) (by simp) h) fun _ H4 h4 => ?_;obtain ⟨cv4, k4⟩ := bi (m := m) (i := i) (rp := rp) (cs := cs) (R := bh m (μ.acc who 5 (16, (i : Int), ((n % cs.length : Nat) : Int))) * (blk b (.cells false [vi 0, vi 0, vi 0]) * R)) (H := H4) h4.to;refine bp ae ?_;refine aL k4 rfl ?_
 have again : ∀ {k : Value × AH → OV} {Q : Value → AH → Prop}, (∀ H5, ac (blk rp (.cells false [vp m, vi i, cv4]) * (ts 3 Pk.cells cv4 cs * (bh m (μ.acc who 5 (16, (i : Int), ((n % cs.length : Nat) : Int))) * (blk b (.cells false [vi 0, vi 0, vi 0]) * R)))) H5 → wp (k (vi ((n % cs.length : Nat) : Int), H5)) Q) → wp ((FF bx [vp rp, vu n] H4).bind k) Q := by
  intro k Q hk
  have cell4 : Sp bx [vp rp, vu n] (blk rp (.cells false [vp m, vi i, cv4]) * ts 3 Pk.cells cv4 cs) (fun _ : Unit => vi ((n % cs.length : Nat) : Int)) (fun _ => blk rp (.cells false [vp m, vi i, cv4]) * ts 3 Pk.cells cv4 cs) := by
   refine aX (iX _ _) fun R H h => ?_;refine av h ae rfl ?_;refine fq (s := cv4) (l := cs) h ?_;refine aa (cP (by omega) (by omega)) ?_;rw [show ((cs.length : Nat) : Int).toNat = cs.length from nK _];refine aa (ip (by omega)) ?_;refine aa (fV (by omega)) ?_;exact aq ⟨(), rfl, h⟩
  exact ag k4 cell4 fun _ H5 h5 => hk H5 h5.to
 refine again fun H5 k5 => ?_;refine aI k5 k4 rfl ?_;refine yf (s := cv4) (l := cs) k5 hlt ?_;refine fm k5 rfl rfl fun H6 k6 => ?_;refine a7 k6 ?_;exact aq ⟨(), rfl, ((qU (cv := cv4) (m := m) (i := i) (rp := rp) (cs := cs) (R := bh m (μ.acc who 5 (16, (i : Int), ((n % cs.length : Nat) : Int))) * R) (H := H6) k6.to)).to⟩
end
theorem OG {p : Nat} {g : PIds} {σ : az} (hl : g.rp.length = σ.obs.length) : Sp hZ [vp p] (aJ p g σ) (fun _ : Unit => vi σ.obs.length) (fun _ => aJ p g σ) := by
 have hz : ((σ.obs.map fun x => x.1).zip g.rp).length = σ.obs.length := by simp [hl]
 refine aX (ss _) fun R H h => ?_;have h2 := h;unfold aJ at h2;refine av h2 ae rfl ?_;refine fq (enc := Bb) (l := (σ.obs.map fun x : Ob × List Pk => x.1).zip g.rp) h2 ?_;rw [hz];exact aq ⟨(), rfl, h⟩
section
variable {ib m nm : Nat} {c : gf} {nx : Int → Option Nat} {μ : Mu} {who : Int}
end
section
variable {p : Nat} {g : PIds} {σ : az}
theorem OF (hl : g.rp.length = σ.obs.length) (who : Int) (o : Nat) (ho : o < σ.obs.length) (hN : σ.μ.N < 800000) : Sp dD [vp p, vi who, vi o] (aJ p g σ) (fun _ : Unit => .agg (#[vi (σ.obs[o]).1.flow, vi (σ.obs[o]).1.most, vu (σ.obs[o]).1.r] : Array Value)) (fun _ => aJ p g (σ.mem (σ.μ.acc who 5 (13, (o : Int), 0)))) := by
 have hz : ((σ.obs.map fun x => x.1).zip g.rp).length = σ.obs.length := by simp [hl]
 refine aX (lU _ _ _) fun R H h => ?_;refine bm h fun b H1 h1 => ?_;refine ag h1 (qK p g σ hl o ho) fun _ H2 h2 => ?_;refine gs ?_;rw [Bool.not_true];refine gs ?_;refine av h2 ae rfl ?_;refine kP ?_;refine ag h2 (Qb (p := p) (g := g) (σ := σ) ((Cy g.m σ.μ who (13, (o : Int), 0) (by omega)).imp fun _ R H h => iI (N' := σ.μ.N + 2) (by simp) h)) fun _ H3 h3 => ?_;refine av h3 ae rfl ?_;have h4 := h3;unfold aJ at h4
 have ez : (Bb ((σ.obs.map fun x : Ob × List Pk => x.1).zip g.rp)[o]).take 3 = [vi (σ.obs[o]).1.flow, vi (σ.obs[o]).1.most, vu (σ.obs[o]).1.r] := by
  rw [List.getElem_zip, List.getElem_map]
  rfl
 refine Un (enc := Bb) (l := (σ.obs.map fun x : Ob × List Pk => x.1).zip g.rp) h4 (by omega) (by omega) ez ?_;refine fm h3 rfl rfl fun H5 h5 => ?_;refine a7 h5 ?_;exact aq ⟨(), rfl, h5.to⟩
end
abbrev apE (b : Bool) : List Value := [vb b]
instance : Enc apE 1 := ⟨fun _ => rfl, fun _ => rfl, by omega⟩
structure Prb (σ σ1 : az) (s K : Nat) : Prop where
 c : σ1.c = σ.c
 obs : σ1.obs = σ.obs
 nx : σ1.nx = σ.nx
 w : ∀ o : Nat, σ1.μ.V (11, (o : Int), 0) = σ.μ.V (11, (o : Int), 0)
 l : ∀ s' : Nat, s ≤ s' → σ1.μ.V (9, (s' : Int), 0) = σ.μ.V (9, (s' : Int), 0)
 N : σ1.μ.N ≤ K
theorem Prb.acc {σ σ1 : az} {s K : Nat} (h : Prb σ σ1 s K) (who kd : Int) (l : b7) : Prb σ (σ1.mem (σ1.μ.acc who kd l)) s (K + 2) :=
 ⟨h.c, h.obs, h.nx, h.w, h.l, by have := h.N; show σ1.μ.N + 2 ≤ _; omega⟩
theorem Prb.mono {σ σ1 : az} {s s' K K' : Nat} (h : Prb σ σ1 s K) (hs : s ≤ s') (hK : K ≤ K') : Prb σ σ1 s' K' :=
 ⟨h.c, h.obs, h.nx, h.w, fun k hk => h.l k (by omega), dZ h.N hK⟩
structure LsR (σ : az) (ls : Int → List Nat) : Prop where
 ch : ∀ s, chn σ.nx (ls s) ∧ σ.μ.V (9, s, 0) = hdL (ls s)
 nd : ∀ s, (ls s).Nodup
 mem : ∀ s o, o ∈ ls s → o < σ.obs.length ∧ σ.μ.V (11, (o : Int), 0) ≠ 0 ∧ (aP σ o).tmod σ.c.sh = s
 all : ∀ o : Nat, o < σ.obs.length → σ.μ.V (11, (o : Int), 0) ≠ 0 → o ∈ ls ((aP σ o).tmod σ.c.sh)
 fl : ∀ o, o < σ.obs.length → 0 ≤ aP σ o
theorem WE {σ : az} {o : Nat} (h : o < σ.obs.length) : aP σ o = (σ.obs[o]).1.flow := by unfold aP; rw [br h]; rfl
def fJ (LL : List (ja × List Cl)) (x : Pt) : Cl := ((LL[x.who.toNat]?).bind fun L => L.2[x.place.toNat]?).getD ⟨0, -2, 0, 0⟩
def zi (x : Pt) : Bool := decide (x.e = 0)
def j4 (LL : List (ja × List Cl)) (f : Int) (l : List Pt) : List Pt := l.filter fun x => zi x && decide ((fJ LL x).flow = f)
def I6 (x : Cl) : Pk := ⟨x.flow, x.a, x.b⟩
def pend (t : Tk) : Prop := t.at' = 10 ∨ t.at' = 11 ∨ t.at' = 14 ∨ t.at' = 21
structure CT (LL : List (ja × List Cl)) (σ : az) (t : Tk) : Prop where
 fl : 6 ≤ t.at' ∨ t.at' = 5 ∧ t.found = true → t.obj < σ.obs.length ∧ aP σ t.obj = t.x.flow
 mine : pend t → ax t.w < ax (σ.μ.V (11, (t.obj : Int), 0)) ∧ ((j4 LL (aP σ t.obj) σ.pts)[ax t.w]?).map (fJ LL) = some t.x
 laid : t.at' = 11 ∨ t.at' = 21 → (am σ t.obj)[ax t.w]? = some (I6 t.x)
structure CI (LL : List (ja × List Cl)) (now : Nat) (σ : az) (tk : Nat → Option Tk) : Prop where
 pt : ∀ x ∈ σ.pts, ∃ w a : Nat, ∃ L, w < 4 ∧ x.who = w ∧ x.place = a ∧ LL[w]? = some L ∧ a < L.2.length
 asc : (σ.pts.filter zi).Pairwise fun a b => a.step < b.step
 lt : ∀ x ∈ σ.pts, x.e = 0 → x.step < (now : Int)
 inj : ∀ k k', k < σ.obs.length → k' < σ.obs.length → aP σ k = aP σ k' → k = k'
 so : ∀ s i, σ.μ.V (10, s, i) ≠ 0 → σ.μ.V (10, s, i) % Ej < σ.obs.length ∧ aP σ (σ.μ.V (10, s, i) % Ej) = ((σ.μ.V (10, s, i) / Ej : Nat) : Int) - 1
 cur : ∀ w t, w < 4 → tk w = some t → t.who = w ∧ ∃ a : Nat, ∃ L, σ.places (w : Int) = some (a : Int) ∧ LL[w]? = some L ∧ L.2[a]? = some t.x
 ct : ∀ w t, w < 4 → tk w = some t → CT LL σ t
 cnt : ∀ k, k < σ.obs.length → (j4 LL (aP σ k) σ.pts).length = ax (σ.μ.V (11, (k : Int), 0))
 cel : ∀ k, k < σ.obs.length → ∀ j, j < ax (σ.μ.V (11, (k : Int), 0)) →
  (σ.μ.V (15, (k : Int), (j : Int)) = j + 1 ∧ (am σ k)[j]? = ((j4 LL (aP σ k) σ.pts)[j]?).map fun x => I6 (fJ LL x)) ∨ ∃ w t, w < 4 ∧ tk w = some t ∧ t.obj = k ∧ ax t.w = j ∧ pend t
 zer : ∀ k, k < σ.obs.length → ∀ j, ax (σ.μ.V (11, (k : Int), 0)) ≤ j → σ.μ.V (15, (k : Int), (j : Int)) = 0
 le : ∀ k, k < σ.obs.length → ax (σ.μ.V (11, (k : Int), 0)) ≤ fh σ k
section
variable {LL : List (ja × List Cl)} {now now' : Nat} {σ : az} {tk : Nat → Option Tk} {w : Nat} {t : Tk} {r : az × Tk × Bool}
theorem adO {f : Int} {l : List Pt} {y : Pt} (h : y.e ≠ 0) : j4 LL f (l ++ [y]) = j4 LL f l := by
 unfold j4;rw [List.filter_append];have : zi y = false := gU h;simp [this]
theorem amD {l : List Pt} {y : Pt} (h : y.e ≠ 0) : (l ++ [y]).filter zi = l.filter zi := by
 rw [List.filter_append];have : zi y = false := gU h;simp [this]
theorem SZ {f : Int} {l : List Pt} {y : Pt} (h : y.e = 0) (hf : (fJ LL y).flow = f) : j4 LL f (l ++ [y]) = j4 LL f l ++ [y] := by
 unfold j4;rw [List.filter_append];have : zi y = true := iy h;simp [this, hf]
theorem Fc {f : Int} {l : List Pt} {y : Pt} (hf : (fJ LL y).flow ≠ f) : j4 LL f (l ++ [y]) = j4 LL f l := by
 unfold j4;rw [List.filter_append];simp [hf]
theorem CI.same (M : CI LL now σ tk) (hw : w < 4) (ht : tk w = some t) (hn : now ≤ now') (hob : r.1.obs = σ.obs) (hpl : r.1.places = σ.places)
 (hpts : r.1.pts = σ.pts ∨ ∃ st e, r.1.pts = σ.pts ++ [⟨st, t.who, (σ.places t.who).getD 0, e⟩] ∧ e ≠ 0)
 (h11 : ∀ o : Nat, r.1.μ.V (11, (o : Int), 0) = σ.μ.V (11, (o : Int), 0)) (h15 : ∀ k j : Int, r.1.μ.V (15, k, j) = σ.μ.V (15, k, j)) (h10 : ∀ s i, r.1.μ.V (10, s, i) = σ.μ.V (10, s, i))
 (hnp : ¬ pend t) (hnp' : r.2.2 = false → ¬ pend r.2.1) (htk : r.2.2 = false → r.2.1.who = t.who ∧ r.2.1.x = t.x ∧ (6 ≤ r.2.1.at' ∨ r.2.1.at' = 5 ∧ r.2.1.found = true → r.2.1.obj < σ.obs.length ∧ aP σ r.2.1.obj = t.x.flow)) : CI LL now' r.1 (i9 tk w r) := by
 have hne : ∀ {u}, u ≠ w → i9 tk w r u = tk u := fun hu => if_neg hu;have hf : ∀ o, aP r.1 o = aP σ o := Ce hob
 have hce : ∀ o, am r.1 o = am σ o := fun o => by unfold am; rw [hob]
 have hok : ∀ f, j4 LL f r.1.pts = j4 LL f σ.pts := fun f => by
  rcases hpts with h | ⟨st, e, h, he⟩
  ·rw [h]
  ·rw [h]; exact adO he
 have hokP : r.1.pts.filter zi = σ.pts.filter zi := by
  rcases hpts with h | ⟨st, e, h, he⟩
  ·rw [h]
  ·rw [h]; exact amD he
 obtain ⟨c1, a, L, c2, c3, c4⟩ := M.cur w t hw ht;refine ⟨fun y hy => ?_, by rw [hokP]; exact M.asc, fun y hy he => ?_, fun k k' h1 h2 h3 => M.inj k k' (by rw [← hob]; exact h1) (by rw [← hob]; exact h2) (by rw [← hf, ← hf]; exact h3), fun s i h => ?_, fun w' t' hw' gF => ?_, fun w' t' hw' gF => ?_, fun k hk => ?_, fun k hk j hj => ?_, fun k hk j hj => ?_, fun k hk => ?_⟩
 ·rcases hpts with h | ⟨st, e, h, he⟩
  ·rw [h] at hy; exact M.pt y hy
  ·rw [h] at hy
   rcases List.mem_append.1 hy with hy | hy
   ·exact M.pt y hy
   ·rw [List.mem_singleton] at hy
    subst hy;refine ⟨w, a, L, hw, c1, ?_, c3, (qw.1 c4).1⟩;show (σ.places t.who).getD 0 = _;rw [c1, c2]; rfl
 ·rcases hpts with h | ⟨st, e, h, he2⟩
  ·rw [h] at hy
   have := M.lt y hy he;omega
  ·rw [h] at hy
   rcases List.mem_append.1 hy with hy | hy
   ·have := M.lt y hy he
    omega
   ·rw [List.mem_singleton] at hy
    subst hy;exact absurd he he2
 ·rw [h10] at h ⊢
  rw [hob, hf];exact M.so s i h
 ·rw [hpl]
  by_cases e : w' = w
  ·subst e
   obtain ⟨h1, h2⟩ := gI gF;subst h2;obtain ⟨q1, q2, _⟩ := htk h1;rw [q1, q2];exact ⟨c1, a, L, c2, c3, c4⟩
  ·rw [hne e] at gF
   exact M.cur w' t' hw' gF
 ·by_cases e : w' = w
  ·subst e
   obtain ⟨h1, h2⟩ := gI gF;subst h2;obtain ⟨q1, q2, q3⟩ := htk h1;refine ⟨fun h => by rw [hob, hf, q2]; exact q3 h, fun h => absurd h (hnp' h1), fun h => absurd ?_ (hnp' h1)⟩
   rcases h with h | h
   ·exact .inr (.inl h)
   ·exact .inr (.inr (.inr h))
  ·rw [hne e] at gF
   have T := M.ct w' t' hw' gF;exact ⟨fun h => by rw [hob, hf]; exact T.fl h, fun h => by rw [h11, hf, hok]; exact T.mine h, fun h => by rw [hce]; exact T.laid h⟩
 ·rw [hf, hok, h11]; exact M.cnt k (by rw [← hob]; exact hk)
 ·rw [h11] at hj
  rw [h15, hce, hf, hok]
  rcases M.cel k (by rw [← hob]; exact hk) j hj with h | ⟨w', t', a1, a2, a3, a4, a5⟩
  ·exact .inl h
  ·refine .inr ⟨w', t', a1, ?_, a3, a4, a5⟩
   rw [hne (fun e => by subst e; rw [ht] at a2; cases a2; exact hnp a5)];exact a2
 ·rw [h15]
  exact M.zer k (by rw [← hob]; exact hk) j (by rw [← h11]; exact hj)
 ·rw [h11]
  have : fh r.1 k = fh σ k := kH hob k;rw [this];exact M.le k (by rw [← hob]; exact hk)
theorem Mr {st : Int} {e : Int} {a : Nat} {L : ja × List Cl} {x : Cl} (h1 : t.who = w) (h2 : σ.places (w : Int) = some (a : Int)) (h3 : LL[w]? = some L) (h4 : L.2[a]? = some x) : fJ LL ⟨st, t.who, (σ.places t.who).getD 0, e⟩ = x := by
 unfold fJ;dsimp only;rw [h1, h2];show ((LL[((w : Int)).toNat]?).bind fun L => L.2[((a : Int)).toNat]?).getD _ = _;rw [nK, nK, h3];show (L.2[a]?).getD _ = _;rw [h4]; rfl
theorem CI.claim (M : CI LL now σ tk) (hw : w < 4) (ht : tk w = some t) {m : Nat} (hm : ax m = ax t.w + 1) (hv : σ.μ.V (11, (t.obj : Int), 0) = t.w) (h6 : 6 ≤ t.at') (hnp : ¬ pend t) (hrm : ax t.w < fh σ t.obj) (hob : r.1.obs = σ.obs) (hpl : r.1.places = σ.places)
 (hpts : r.1.pts = σ.pts ++ [⟨(now : Int), t.who, (σ.places t.who).getD 0, 0⟩]) (h11 : ∀ o : Nat, r.1.μ.V (11, (o : Int), 0) = if o = t.obj then m else σ.μ.V (11, (o : Int), 0)) (h15 : ∀ k j : Int, r.1.μ.V (15, k, j) = σ.μ.V (15, k, j)) (h10 : ∀ s i, r.1.μ.V (10, s, i) = σ.μ.V (10, s, i))
 (hd : r.2.2 = false) (hr : r.2.1.who = t.who ∧ r.2.1.x = t.x ∧ r.2.1.obj = t.obj ∧ r.2.1.w = t.w) (ha : r.2.1.at' = 10 ∨ r.2.1.at' = 14) : CI LL (now + 1) r.1 (i9 tk w r) := by
 have hne : ∀ {u}, u ≠ w → i9 tk w r u = tk u := fun hu => if_neg hu;have hf : ∀ o, aP r.1 o = aP σ o := Ce hob
 have hce : ∀ o, am r.1 o = am σ o := fun o => by unfold am; rw [hob]
 have hlo : ∀ o, fh r.1 o = fh σ o := kH hob;obtain ⟨r1, r2, r3, r4⟩ := hr;obtain ⟨c1, a, L, c2, c3, c4⟩ := M.cur w t hw ht;have cc := Mr (st := (now : Int)) (e := 0) c1 c2 c3 c4;obtain ⟨y, hy⟩ : ∃ y : Pt, y = ⟨(now : Int), t.who, (σ.places t.who).getD 0, 0⟩ := ⟨_, rfl⟩;rw [← hy] at hpts cc
 have ye : y.e = 0 := by rw [hy]
 have T := M.ct w t hw ht;obtain ⟨To, Tf⟩ := T.fl (.inl h6)
 have hokT : j4 LL (aP σ t.obj) r.1.pts = j4 LL (aP σ t.obj) σ.pts ++ [y] := by rw [hpts]; exact SZ ye (by rw [cc]; exact Tf.symm)
 have hokN : ∀ k, k < σ.obs.length → k ≠ t.obj → j4 LL (aP σ k) r.1.pts = j4 LL (aP σ k) σ.pts := fun k hk hkn => by
  rw [hpts];refine Fc fun e => hkn (M.inj k t.obj hk To ?_);rw [← e, cc, Tf]
 have hlenT := M.cnt t.obj To;rw [hv] at hlenT
 have e11 : r.1.μ.V (11, (t.obj : Int), 0) = m := by rw [h11, if_pos rfl]
 have old : ∀ {k j : Nat}, k < σ.obs.length → j < (j4 LL (aP σ k) σ.pts).length → (j4 LL (aP σ k) r.1.pts)[j]? = (j4 LL (aP σ k) σ.pts)[j]? := fun {k j} hk hj => by
  by_cases e : k = t.obj
  ·rw [e] at hj ⊢
   rw [hokT, List.getElem?_append_left hj]
  ·rw [hokN k hk e]
 refine ⟨fun z hz => ?_, ?_, fun z hz he => ?_, fun k k' h1 h2 h3 => M.inj k k' (by rw [← hob]; exact h1) (by rw [← hob]; exact h2) (by rw [← hf, ← hf]; exact h3), fun s i h => ?_, fun w' t' hw' gF => ?_, fun w' t' hw' gF => ?_, fun k hk => ?_, fun k hk j hj => ?_, fun k hk j hj => ?_, fun k hk => ?_⟩
 ·rw [hpts] at hz
  rcases List.mem_append.1 hz with hz | hz
  ·exact M.pt z hz
  ·rw [List.mem_singleton] at hz
   subst hz;rw [hy];refine ⟨w, a, L, hw, c1, ?_, c3, (qw.1 c4).1⟩;show (σ.places t.who).getD 0 = _;rw [c1, c2]; rfl
 ·rw [hpts, List.filter_append]
  have e1 : [y].filter zi = [y] := by simp [zi, ye]
  rw [e1];refine List.pairwise_append.2 ⟨M.asc, List.pairwise_singleton _ _, fun a1 ha1 b1 hb1 => ?_⟩;rw [List.mem_singleton] at hb1;subst hb1;obtain ⟨q1, q2⟩ := List.mem_filter.1 ha1;have := M.lt a1 q1 (of_decide_eq_true q2);rw [hy];exact this
 ·rw [hpts] at hz
  rcases List.mem_append.1 hz with hz | hz
  ·have := M.lt z hz he
   omega
  ·rw [List.mem_singleton] at hz
   subst hz;rw [hy];show (now : Int) < ((now + 1 : Nat) : Int);omega
 ·rw [h10] at h ⊢
  rw [hob, hf];exact M.so s i h
 ·rw [hpl]
  by_cases e : w' = w
  ·subst e
   obtain ⟨h1, h2⟩ := gI gF;subst h2;rw [r1, r2];exact ⟨c1, a, L, c2, c3, c4⟩
  ·rw [hne e] at gF
   exact M.cur w' t' hw' gF
 ·by_cases e : w' = w
  ·subst e
   obtain ⟨h1, h2⟩ := gI gF;subst h2;refine ⟨fun _ => by rw [hob, hf, r2, r3]; exact ⟨To, Tf⟩, fun _ => ?_, fun h => by omega⟩;rw [r3, r4, hf, e11, hokT, r2];refine ⟨by omega, ?_⟩;rw [List.getElem?_append_right (by omega), show ax t.w - (j4 LL (aP σ t.obj) σ.pts).length = 0 from by omega];show some (fJ LL y) = _;rw [cc]
  ·rw [hne e] at gF
   have T' := M.ct w' t' hw' gF;refine ⟨fun h => by rw [hob, hf]; exact T'.fl h, fun h => ?_, fun h => by rw [hce]; exact T'.laid h⟩;obtain ⟨q1, q2⟩ := T'.mine h
   have q0 := (T'.fl (.inl (by rcases h with h | h | h | h <;> omega))).1
   have q3 := M.cnt t'.obj q0;rw [hf, old q0 (by omega)];refine ⟨?_, q2⟩;rw [h11]
   split
   ·rename_i e2
    rw [e2, hv] at q1;omega
   ·exact q1
 ·rw [hob] at hk
  rw [hf]
  by_cases e : k = t.obj
  ·rw [e, hokT, e11, dh, List.length_singleton]
   omega
  ·rw [hokN k hk e, h11, if_neg e]
   exact M.cnt k hk
 ·rw [hob] at hk
  have keep : j < ax (σ.μ.V (11, (k : Int), 0)) → (r.1.μ.V (15, (k : Int), (j : Int)) = j + 1 ∧ (am r.1 k)[j]? = ((j4 LL (aP r.1 k) r.1.pts)[j]?).map fun x => I6 (fJ LL x)) ∨ ∃ w' t', w' < 4 ∧ i9 tk w r w' = some t' ∧ t'.obj = k ∧ ax t'.w = j ∧ pend t' := fun hj2 => by
   rw [h15, hce, hf, old hk (by rw [M.cnt k hk]; exact hj2)]
   rcases M.cel k hk j hj2 with h | ⟨w', t', a1, a2, a3, a4, a5⟩
   ·exact .inl h
   ·refine .inr ⟨w', t', a1, ?_, a3, a4, a5⟩
    rw [hne (fun e => by subst e; rw [ht] at a2; cases a2; exact hnp a5)];exact a2
  by_cases e : k = t.obj
  ·subst e
   rw [e11, hm] at hj
   by_cases hj2 : j < ax t.w
   ·exact keep (by rw [hv]; exact hj2)
   ·refine .inr ⟨w, r.2.1, hw, by rw [n4, hd, if_neg (by simp)], r3, by rw [r4]; omega, ?_⟩
    rcases ha with h | h
    ·exact .inl h
    ·exact .inr (.inr (.inl h))
  ·rw [h11, if_neg e] at hj
   exact keep hj
 ·rw [hob] at hk
  rw [h15];refine M.zer k hk j ?_;rw [h11] at hj
  split at hj
  ·rename_i e
   rw [e, hv]; omega
  ·exact hj
 ·rw [hob] at hk
  rw [hlo, h11]
  split
  ·rename_i e
   rw [e, hm]; omega
  ·exact M.le k hk
end
section
variable {LL : List (ja × List Cl)} {now now' : Nat} {σ : az} {tk : Nat → Option Tk} {w : Nat} {t t' : Tk} {r : az × Tk × Bool}
theorem E6 (o : Nat) : am (g7 σ t) o = if o = t.obj then (am σ o).set (ax t.w % (am σ o).length) (I6 t.x) else am σ o := by
 unfold g7 am;dsimp only;rw [List.getElem?_modify]
 by_cases h : t.obj = o
 ·subst h
  rw [if_pos rfl]
  cases σ.obs[t.obj]? with
  | none => simp
  | some q => simp [I6]
 ·rw [if_neg (fun e => h e.symm)]
  cases σ.obs[o]? with
  | none => rfl
  | some q => simp [h]
theorem CI.put (M : CI LL now σ tk) (hw : w < 4) (ht : tk w = some t) (hn : now ≤ now') (hpn : pend t) (hof : ∀ o, aP r.1 o = aP σ o) (hol : r.1.obs.length = σ.obs.length) (hlo : ∀ o, fh r.1 o = fh σ o) (hpl : r.1.places = σ.places) (hpts : r.1.pts = σ.pts)
 (h11 : ∀ o : Nat, r.1.μ.V (11, (o : Int), 0) = σ.μ.V (11, (o : Int), 0)) (h10 : ∀ s i, r.1.μ.V (10, s, i) = σ.μ.V (10, s, i))
 (h15 : ∀ k j : Nat, r.1.μ.V (15, (k : Int), (j : Int)) = σ.μ.V (15, (k : Int), (j : Int)) ∨ k = t.obj ∧ j = ax t.w ∧ r.1.μ.V (15, (k : Int), (j : Int)) = j + 1)
 (hce : ∀ k j : Nat, (am r.1 k)[j]? = (am σ k)[j]? ∨ k = t.obj ∧ j = ax t.w ∧ (am r.1 k)[j]? = some (I6 t.x))
 (hx : r.2.1.who = t.who ∧ r.2.1.x = t.x ∧ r.2.1.obj = t.obj ∧ r.2.1.w = t.w)
 (hgo : r.2.2 = false → pend r.2.1 → (r.2.1.at' = 11 ∨ r.2.1.at' = 21) ∧ (am r.1 t.obj)[ax t.w]? = some (I6 t.x))
 (hdone : (r.2.2 = true ∨ ¬ pend r.2.1) → r.1.μ.V (15, (t.obj : Int), ((ax t.w : Nat) : Int)) = ax t.w + 1 ∧ (am r.1 t.obj)[ax t.w]? = some (I6 t.x)) : CI LL now' r.1 (i9 tk w r) := by
 have hne : ∀ {u}, u ≠ w → i9 tk w r u = tk u := fun hu => if_neg hu;obtain ⟨r1, r2, r3, r4⟩ := hx;obtain ⟨c1, a, L, c2, c3, c4⟩ := M.cur w t hw ht;have T := M.ct w t hw ht
 obtain ⟨To, Tf⟩ := T.fl (.inl (by rcases hpn with h | h | h | h <;> omega))
 obtain ⟨Tm1, Tm2⟩ := T.mine hpn
 -- what a cell has, is a packet of a point
 have good : ∀ k, k < σ.obs.length → ∀ j x, ((j4 LL (aP σ k) σ.pts)[j]?).map (fJ LL) = some x → (am σ k)[j]? = some (I6 x) → (am r.1 k)[j]? = some (I6 x) := fun k hk j x h1 h2 => by
  rcases hce k j with h | ⟨e1, e2, h⟩
  ·rw [h]; exact h2
  ·subst e1 e2
   rw [Tm2] at h1;rw [h, fi h1]
 refine ⟨by rw [hpts]; exact M.pt, by rw [hpts]; exact M.asc, fun z hz he => ?_, fun k k' h1 h2 h3 => M.inj k k' (by rw [← hol]; exact h1) (by rw [← hol]; exact h2) (by rw [← hof, ← hof]; exact h3), fun s i h => ?_, fun w' t' hw' gF => ?_, fun w' t' hw' gF => ?_, fun k hk => ?_, fun k hk j hj => ?_, fun k hk j hj => ?_, fun k hk => ?_⟩
 ·rw [hpts] at hz
  have := M.lt z hz he;omega
 ·rw [h10] at h ⊢
  rw [hol, hof];exact M.so s i h
 ·rw [hpl]
  by_cases e : w' = w
  ·subst e
   obtain ⟨h1, h2⟩ := gI gF;subst h2;rw [r1, r2];exact ⟨c1, a, L, c2, c3, c4⟩
  ·rw [hne e] at gF
   exact M.cur w' t' hw' gF
 ·by_cases e : w' = w
  ·subst e
   obtain ⟨h1, h2⟩ := gI gF;subst h2;refine ⟨fun _ => by rw [hol, hof, r2, r3]; exact ⟨To, Tf⟩, fun _ => by rw [r3, r4, hof, h11, hpts, r2]; exact ⟨Tm1, Tm2⟩, fun h => ?_⟩;rw [r3, r4, r2];refine (hgo h1 ?_).2
   rcases h with h | h
   ·exact .inr (.inl h)
   ·exact .inr (.inr (.inr h))
  ·rw [hne e] at gF
   have T' := M.ct w' t' hw' gF;refine ⟨fun h => by rw [hol, hof]; exact T'.fl h, fun h => by rw [h11, hof, hpts]; exact T'.mine h, fun h => ?_⟩
   have hp : pend t' := by
    rcases h with h | h
    ·exact .inr (.inl h)
    ·exact .inr (.inr (.inr h))
   have q0 := (T'.fl (.inl (by omega))).1;exact good _ q0 _ _ (T'.mine hp).2 (T'.laid h)
 ·rw [hof, hpts, h11]; exact M.cnt k (by rw [← hol]; exact hk)
 ·rw [hol] at hk
  rw [h11] at hj
  have hjl : j < (j4 LL (aP σ k) σ.pts).length := by rw [M.cnt k hk]; exact hj
  rcases M.cel k hk j hj with ⟨h1, h2⟩ | ⟨w', t', a1, a2, a3, a4, a5⟩
  ·left
   constructor
   ·rcases h15 k j with h | ⟨_, _, h⟩
    ·rw [h]; exact h1
    ·exact h
   ·rw [hof, hpts]
    rw [br hjl] at h2 ⊢;exact good k hk j _ (by rw [br hjl]; rfl) h2
  ·by_cases e : w' = w
   ·subst e
    rw [ht] at a2;cases a2;subst a3 a4
    by_cases hq : r.2.2 = false ∧ pend r.2.1
    ·exact .inr ⟨w', r.2.1, a1, by rw [n4, hq.1, if_neg (by simp)], r3, by rw [r4], hq.2⟩
    ·left
     obtain ⟨d1, d2⟩ := hdone (by
      cases hd : r.2.2
      ·exact .inr fun q => hq ⟨hd, q⟩
      ·exact .inl rfl)
     refine ⟨d1, ?_⟩;rw [hof, hpts, d2]
     have : ((j4 LL (aP σ t.obj) σ.pts)[ax t.w]?).map (fun x => I6 (fJ LL x)) = (((j4 LL (aP σ t.obj) σ.pts)[ax t.w]?).map (fJ LL)).map I6 := by rw [Option.map_map]; rfl
     rw [this, Tm2]
     rfl
   ·exact .inr ⟨w', t', a1, by rw [hne e]; exact a2, a3, a4, a5⟩
 ·rw [hol] at hk
  rw [h11] at hj
  rcases h15 k j with h | ⟨e1, e2, _⟩
  ·rw [h]; exact M.zer k hk j hj
  ·subst e1 e2
   omega
 ·rw [hlo, h11]
  exact M.le k (by rw [← hol]; exact hk)
theorem np (h : t.at' ≠ 10 ∧ t.at' ≠ 11 ∧ t.at' ≠ 14 ∧ t.at' ≠ 21) : ¬ pend t := fun q => by rcases q with q | q | q | q <;> omega
theorem de (M : CI LL now σ tk) (hw : w < 4) (ht : tk w = some t) (hob : r.1.obs = σ.obs) (hpl : r.1.places = σ.places) (hpts : r.1.pts = σ.pts ∨ ∃ st e, r.1.pts = σ.pts ++ [⟨st, t.who, (σ.places t.who).getD 0, e⟩] ∧ e ≠ 0)
 (hV : r.1.μ.V = σ.μ.V ∨ ∃ l v, r.1.μ.V = (fun z => if z = l then v else σ.μ.V z) ∧ l.1 ≠ 11 ∧ l.1 ≠ 15 ∧ l.1 ≠ 10) (hnp : ¬ pend t) (hnp' : r.2.2 = false → ¬ pend r.2.1)
 (htk : r.2.2 = false → r.2.1.who = t.who ∧ r.2.1.x = t.x ∧ (6 ≤ r.2.1.at' ∨ r.2.1.at' = 5 ∧ r.2.1.found = true → r.2.1.obj < σ.obs.length ∧ aP σ r.2.1.obj = t.x.flow)) : CI LL (now + 1) r.1 (i9 tk w r) := by
 have key : ∀ z : b7, z.1 = 11 ∨ z.1 = 15 ∨ z.1 = 10 → r.1.μ.V z = σ.μ.V z := by
  intro z hz
  rcases hV with h | ⟨l, v, h, h1, h2, h3⟩
  ·rw [h]
  ·rw [h]
   refine wu ?_;omega
 exact M.same hw ht (by omega) hob hpl hpts (fun o => key _ (.inl rfl)) (fun k j => key _ (.inr (.inl rfl))) (fun s i => key _ (.inr (.inr rfl))) hnp hnp' htk
theorem X8 (h : (aD σ t).found = true) : ((σ.μ.V (10, t.s, (t.i : Int)) / Ej : Nat) : Int) - 1 = t.x.flow := by
 have h2 : tn (σ.μ.V (10, t.s, (t.i : Int))) t.x.flow = true := h;exact (of_decide_eq_true h2).2
theorem us (M : CI LL now σ tk) (hw : w < 4) (ht : tk w = some t) (r : az × Tk × Bool) (a1 : Nat) (cc : Int) (hlt : t.at' < 5) (h1 : a1 < 5 ∨ (a1 = 5 ∨ a1 = 6) ∧ (aD σ t).found = true ∨ a1 = 5 ∧ (aD σ t).found = false) (hμ : r.1.μ = (b6 σ t).μ) (hob : r.1.obs = σ.obs) (hpl : r.1.places = σ.places) (hpts : r.1.pts = σ.pts ∨ ∃ st e, r.1.pts = σ.pts ++ [⟨st, t.who, (σ.places t.who).getD 0, e⟩] ∧ e ≠ 0) (he : r.2.1 = { aD σ t with at' := a1, code := cc }) : CI LL (now + 1) r.1 (i9 tk w r) := by
 have ea : r.2.1.at' = a1 := by rw [he]
 have ef : r.2.1.found = (aD σ t).found := by rw [he]
 refine de M hw ht hob hpl hpts (.inl (by rw [hμ])) (np (by omega)) (fun _ => np (by omega)) fun _ => ⟨by rw [he]; rfl, by rw [he]; rfl, fun q => ?_⟩
 have hf : (aD σ t).found = true := by
  rcases h1 with h | ⟨h, hf⟩ | ⟨h, hf⟩
  ·omega
  ·exact hf
  ·rcases q with q | ⟨_, q⟩
   ·omega
   ·rw [ef] at q; exact q
 obtain ⟨q1, q2⟩ := afI hf;obtain ⟨s1, s2⟩ := M.so t.s t.i q1
 have eo : r.2.1.obj = σ.μ.V (10, t.s, (t.i : Int)) % Ej := by rw [he]; exact q2
 rw [eo];exact ⟨s1, s2.trans (X8 hf)⟩
theorem QC (M : CI LL now σ tk) (hw : w < 4) (ht : tk w = some t) (hrm : ax t.w < fh σ t.obj) (a0 a1 af : Nat) (hat : t.at' = a0) (h9 : a0 = 9 ∧ a1 = 10 ∧ af = 7 ∨ a0 = 13 ∧ a1 = 14 ∧ af = 20) (c : Int) :
 CI LL (now + 1) (if cY σ.μ t.obj t.w (aR t.w 0) = true then ((σ.mem (σ.μ.turn t.who t.obj t.w (aR t.w 0))).note now t.who 0, ({ t with at' := a1, code := c } : Tk), false) else (σ.mem (σ.μ.turn t.who t.obj t.w (aR t.w 0)), { t with at' := af }, false)).1
  (i9 tk w (if cY σ.μ t.obj t.w (aR t.w 0) = true then ((σ.mem (σ.μ.turn t.who t.obj t.w (aR t.w 0))).note now t.who 0, ({ t with at' := a1, code := c } : Tk), false) else (σ.mem (σ.μ.turn t.who t.obj t.w (aR t.w 0)), { t with at' := af }, false))) := by
 have T := M.ct w t hw ht;have To := T.fl (.inl (by omega))
 by_cases hv : σ.μ.V (11, (t.obj : Int), 0) = t.w ∧ (aR t.w 0).isSome = true
 ·obtain ⟨hv, hs⟩ := hv
  obtain ⟨m, em⟩ := Option.isSome_iff_exists.1 hs;obtain ⟨m1, m2, m3, m4⟩ := agF em;rw [em, DC, if_pos (iy hv)];obtain ⟨r, hr⟩ : ∃ r : az × Tk × Bool, r = ((σ.mem (σ.μ.turn t.who t.obj t.w (some m))).note now t.who 0, { t with at' := a1, code := c }, false) := ⟨_, rfl⟩;rw [← hr]
  have hV : ∀ z, r.1.μ.V z = if z = (11, (t.obj : Int), 0) then m else σ.μ.V z := fun z => by
   rw [hr];show (σ.μ.swp t.who (11, (t.obj : Int), 0) t.w m).V z = _;rw [px, if_pos hv]
  refine M.claim hw ht m3 hv (by omega) (np (by omega)) hrm (by rw [hr]) (by rw [hr]) (by rw [hr]) (fun o => ?_) (fun k j => by rw [hV]; exact if_neg (by simp)) (fun s i => by rw [hV]; exact if_neg (by simp)) (by rw [hr]) (by rw [hr]; exact ⟨rfl, rfl, rfl, rfl⟩) (by rw [hr]; show a1 = 10 ∨ a1 = 14; omega);rw [hV]
  by_cases e : o = t.obj
  ·rw [if_pos (by rw [e]), if_pos e]
  ·rw [if_neg (fun h => e (by injection h with _ h; injection h with h _; omega)), if_neg e]
 ·have hf : cY σ.μ t.obj t.w (aR t.w 0) = false := by
   unfold cY
   by_cases h : σ.μ.V (11, (t.obj : Int), 0) = t.w
   ·have : (aR t.w 0).isSome = false := by
     cases e : (aR t.w 0).isSome
     ·rfl
     ·exact absurd ⟨h, e⟩ hv
    rw [this]; rfl
   ·rw [gU h, Bool.and_false]
  rw [hf, if_neg (by simp)]
  have V : (σ.μ.turn t.who t.obj t.w (aR t.w 0)).V = σ.μ.V := by
   cases e : aR t.w 0 with
   | none => rfl
   | some m =>
    show (σ.μ.swp t.who (11, (t.obj : Int), 0) t.w m).V = _;rw [px, if_neg (fun h => hv ⟨h, by rw [e]; rfl⟩)]
  exact de M hw ht rfl rfl (.inl rfl) (.inl V) (np (by omega)) (fun _ => np (by dsimp only; omega)) fun _ => ⟨rfl, rfl, fun _ => To⟩
theorem Zh (M : CI LL now σ tk) (hw : w < 4) (ht : tk w = some t) (a1 : Nat) (h9 : t.at' = 10 ∧ a1 = 11 ∨ t.at' = 14 ∧ a1 = 21) : CI LL (now + 1) (g7 σ t) (i9 tk w (g7 σ t, { t with at' := a1 }, false)) := by
 have hp : pend t := by rcases h9 with ⟨h, _⟩ | ⟨h, _⟩; exact .inl h; exact .inr (.inr (.inl h))
 have T := M.ct w t hw ht;have hrm : ax t.w < fh σ t.obj := Nat.lt_of_lt_of_le (T.mine hp).1 (M.le _ (T.fl (.inl (by omega))).1);have hk : ax t.w % (am σ t.obj).length = ax t.w := Nat.mod_eq_of_lt hrm
 have hc : ∀ k j : Nat, (am (g7 σ t) k)[j]? = (am σ k)[j]? ∨ k = t.obj ∧ j = ax t.w ∧ (am (g7 σ t) k)[j]? = some (I6 t.x) := fun k j => by
  rw [E6]
  by_cases e : k = t.obj
  ·subst e
   rw [if_pos rfl, hk]
   by_cases e2 : j = ax t.w
   ·subst e2
    exact .inr ⟨rfl, rfl, List.getElem?_set_self hrm⟩
   ·rw [List.getElem?_set_ne (fun h => e2 h.symm)]
    exact .inl rfl
  ·rw [if_neg e]
   exact .inl rfl
 have hself : (am (g7 σ t) t.obj)[ax t.w]? = some (I6 t.x) := by
  rw [E6, if_pos rfl, hk];exact List.getElem?_set_self hrm
 have hp2 : pend { t with at' := a1 } := by rcases h9 with ⟨_, h⟩ | ⟨_, h⟩; exact .inr (.inl h); exact .inr (.inr (.inr h))
 exact M.put (r := (g7 σ t, { t with at' := a1 }, false)) hw ht (by omega) hp acM ai1 xd rfl rfl (fun _ => rfl) (fun _ _ => rfl) (fun _ _ => .inl rfl) hc ⟨rfl, rfl, rfl, rfl⟩ (fun _ _ => ⟨by dsimp only; omega, hself⟩) (fun h => by
  rcases h with h | h
  ·cases h
  ·exact absurd hp2 h)
theorem QB (M : CI LL now σ tk) (hw : w < 4) (ht : tk w = some t) (h9 : t.at' = 11 ∨ t.at' = 21) (b : Bool) (t2 : Tk) (hx : t2.who = t.who ∧ t2.x = t.x ∧ t2.obj = t.obj ∧ t2.w = t.w) (hd : b = true ∨ t2.at' = 22) : CI LL (now + 1) (kC σ t) (i9 tk w (kC σ t, t2, b)) := by
 have T := M.ct w t hw ht
 have hp : pend t := by rcases h9 with h | h; exact .inr (.inl h); exact .inr (.inr (.inr h))
 have To := (T.fl (.inl (by omega))).1;have hrm : ax t.w < fh σ t.obj := Nat.lt_of_lt_of_le (T.mine hp).1 (M.le _ To);have hk : ax t.w % (am σ t.obj).length = ax t.w := Nat.mod_eq_of_lt hrm
 have hV : ∀ z, (kC σ t).μ.V z = if z = (15, (t.obj : Int), ((ax t.w : Nat) : Int)) then ax t.w + 1 else σ.μ.V z := fun z => by
  show (if z = (15, (t.obj : Int), ((ax t.w % (am σ t.obj).length : Nat) : Int)) then ax t.w + 1 else σ.μ.V z) = _;rw [hk]
 have no : b = false → ¬ pend t2 := fun h => by
  rcases hd with h2 | h2
  ·rw [h2] at h; cases h
  ·exact np (by omega)
 exact M.put (r := (kC σ t, t2, b)) hw ht (by omega) hp (Ce rfl) rfl (fun _ => rfl) rfl rfl (fun o => by rw [show (kC σ t, t2, b).1.μ.V (11, (o : Int), 0) = _ from hV _]; exact if_neg (by simp)) (fun s i => by rw [show (kC σ t, t2, b).1.μ.V (10, s, i) = _ from hV _]; exact if_neg (by simp))
  (fun k j => by
   rw [show (kC σ t, t2, b).1.μ.V (15, (k : Int), (j : Int)) = _ from hV _]
   by_cases e : ((15 : Int), (k : Int), (j : Int)) = (15, (t.obj : Int), ((ax t.w : Nat) : Int))
   ·rw [if_pos e]
    injection e with _ e
    injection e with e1 e2
    have e1 : k = t.obj := by omega
    have e2 : j = ax t.w := by omega
    exact .inr ⟨e1, e2, by rw [e2]⟩
   ·rw [if_neg e]; exact .inl rfl)
  (fun _ _ => .inl rfl) hx (fun h1 h2 => absurd h2 (no h1)) (fun _ => ⟨by rw [show (kC σ t, t2, b).1.μ.V (15, (t.obj : Int), ((ax t.w : Nat) : Int)) = _ from hV _]; exact if_pos rfl, T.laid h9⟩)
theorem afX (M : CI LL now σ tk) (hw : w < 4) (ht : tk w = some t) (hrm : t.at' = 9 ∨ t.at' = 13 → ax t.w < fh σ t.obj) : CI LL (now + 1) (ai σ t now).1 (i9 tk w (ai σ t now)) := by
 have T := M.ct w t hw ht
 have kp : ∀ {t2 : Tk}, t2.obj = t.obj → 6 ≤ t.at' ∨ t.at' = 5 ∧ t.found = true → (6 ≤ t2.at' ∨ t2.at' = 5 ∧ t2.found = true → t2.obj < σ.obs.length ∧ aP σ t2.obj = t.x.flow) := fun e h _ => by rw [e]; exact T.fl h
 unfold ai;dsimp only
 split
 ·rename_i hat
  split
  ·rename_i e he
   have hz : e ≠ 0 := by
    unfold dI at he
    split at he
    ·cases he; omega
    ·split at he
     ·cases he; omega
     ·cases he
   exact de M hw ht rfl rfl (.inr ⟨_, _, rfl, hz⟩) (.inl rfl) (np (by omega)) (fun h => by cases h) (fun h => by cases h)
  ·refine us M hw ht _ (if (aD σ t).found = true then 6 else if cR σ (aD σ t) = true then 3 else 2) t.code (by omega) ?_ rfl rfl rfl (.inl rfl) rfl
   cases hf : (aD σ t).found
   ·left; simp only [Bool.false_eq_true, if_false]; split <;> omega
   ·exact .inr (.inl ⟨.inr (by simp), rfl⟩)
 ·rename_i hat
  refine us M hw ht _ (if (aD σ t).found = true then 6 else if cR σ (aD σ t) = true then 3 else 2) t.code (by omega) ?_ rfl rfl rfl (.inl rfl) rfl;cases hf : (aD σ t).found
  ·left; simp only [Bool.false_eq_true, if_false]; split <;> omega
  ·exact .inr (.inl ⟨.inr (by simp), rfl⟩)
 ·rename_i hat
  have hV : (σ.μ.swp t.who (8, t.s, 0) 0 1).V = σ.μ.V ∨ ∃ l v, (σ.μ.swp t.who (8, t.s, 0) 0 1).V = (fun z => if z = l then v else σ.μ.V z) ∧ l.1 ≠ 11 ∧ l.1 ≠ 15 ∧ l.1 ≠ 10 := by
   rw [px]
   split
   ·exact .inr ⟨(8, t.s, 0), 1, rfl, by simp, by simp, by simp⟩
   ·exact .inl rfl
  by_cases h0 : σ.μ.V (8, t.s, 0) = 0
  ·rw [if_pos h0]
   exact de M hw ht rfl rfl (.inl rfl) hV (np (by omega)) (fun _ => np (by simp)) fun _ => ⟨rfl, rfl, fun q => by simp at q⟩
  ·rw [if_neg h0]
   exact de M hw ht rfl rfl (.inl rfl) hV (np (by omega)) (fun _ => np (t := t) (by omega)) fun _ => ⟨rfl, rfl, T.fl⟩
 ·rename_i hat
  split
  ·rename_i hf
   exact us M hw ht _ 5 t.code (by omega) (.inr (.inl ⟨.inl rfl, hf⟩)) rfl rfl rfl (.inl rfl) rfl
  ·rename_i hf
   split
   ·exact us M hw ht _ 5 5 (by omega) (.inr (.inr ⟨rfl, by simpa using hf⟩)) rfl rfl rfl (.inr ⟨_, _, rfl, by omega⟩) rfl
   ·exact us M hw ht _ 4 t.code (by omega) (.inl (by omega)) rfl rfl rfl (.inl rfl) (by rw [show (aD σ t) = { aD σ t with at' := (aD σ t).at', code := (aD σ t).code } from rfl, show (aD σ t).at' = 4 from hat]; rfl)
 ·rename_i hat
  have hV : ((σ.μ.acc t.who 2 (8, t.s, 0)).put (8, t.s, 0) 0).V = σ.μ.V ∨ ∃ l v, ((σ.μ.acc t.who 2 (8, t.s, 0)).put (8, t.s, 0) 0).V = (fun z => if z = l then v else σ.μ.V z) ∧ l.1 ≠ 11 ∧ l.1 ≠ 15 ∧ l.1 ≠ 10 := .inr ⟨(8, t.s, 0), 0, rfl, by simp, by simp, by simp⟩;cases hf : t.found
  ·exact de M hw ht rfl rfl (.inl rfl) hV (np (by omega)) (fun h => by cases h) (fun h => by cases h)
  ·exact de M hw ht rfl rfl (.inl rfl) hV (np (by omega)) (fun _ => np (by simp)) fun _ => ⟨rfl, rfl, fun _ => T.fl (.inr ⟨hat, hf⟩)⟩
 ·rename_i hat
  exact de M hw ht rfl rfl (.inl rfl) (.inl rfl) (np (by omega)) (fun _ => np (by simp)) fun _ => ⟨rfl, rfl, kp rfl (by omega)⟩
 ·rename_i hat
  by_cases h2 : aS (σ.μ.V (11, (t.obj : Int), 0)) = 2
  ·rw [if_pos h2]
   exact de M hw ht rfl rfl (.inl rfl) (.inl rfl) (np (by omega)) (fun _ => np (by simp)) fun _ => ⟨rfl, rfl, kp rfl (by omega)⟩
  ·rw [if_neg h2]
   exact de M hw ht rfl rfl (.inl rfl) (.inl rfl) (np (by omega)) (fun _ => np (by simp)) fun _ => ⟨rfl, rfl, kp rfl (by omega)⟩
 ·rename_i hat
  refine de M hw ht rfl rfl (.inl rfl) (.inl rfl) (np (by omega)) (fun _ => np ?_) fun _ => ⟨rfl, rfl, kp rfl (by omega)⟩;dsimp only
  split
  ·omega
  ·split <;> omega
 ·rename_i hat
  exact QC M hw ht (hrm (by omega)) 9 10 7 hat (.inl ⟨rfl, rfl, rfl⟩) 0
 ·rename_i hat
  exact Zh M hw ht 11 (.inl ⟨hat, rfl⟩)
 ·rename_i hat
  exact QB M hw ht (.inl hat) true t ⟨rfl, rfl, rfl, rfl⟩ (.inl rfl)
 ·rename_i hat
  exact de M hw ht rfl rfl (.inl rfl) (.inr ⟨_, _, rfl, by simp, by simp, by simp⟩) (np (by omega)) (fun _ => np (by simp)) fun _ => ⟨rfl, rfl, kp rfl (by omega)⟩
 ·rename_i hat
  exact QC M hw ht (hrm (by omega)) 13 14 20 hat (.inr ⟨rfl, rfl, rfl⟩) 0
 ·rename_i hat
  exact Zh M hw ht 21 (.inr ⟨hat, rfl⟩)
 ·rename_i hat
  refine de M hw ht rfl rfl (.inl rfl) (.inl rfl) (np (by omega)) (fun _ => np ?_) fun _ => ⟨rfl, rfl, kp rfl (by omega)⟩;dsimp only
  split <;> omega
 ·rename_i hat
  refine de M hw ht rfl rfl (.inl rfl) (.inl rfl) (np (by omega)) (fun _ => np ?_) fun _ => ⟨rfl, rfl, kp rfl (by omega)⟩;dsimp only
  split <;> omega
 ·rename_i hat
  split
  ·exact de M hw ht rfl rfl (.inl rfl) (.inl rfl) (np (by omega)) (fun _ => np (by simp)) fun _ => ⟨rfl, rfl, kp rfl (by omega)⟩
  ·exact de M hw ht rfl rfl (.inl rfl) (.inl rfl) (np (by omega)) (fun _ => np (by simp)) fun _ => ⟨rfl, rfl, kp rfl (by omega)⟩
 ·rename_i hat
  split
  ·exact de M hw ht rfl rfl (.inr ⟨_, _, rfl, by omega⟩) (.inl rfl) (np (by omega)) (fun h => by cases h) (fun h => by cases h)
  ·exact de M hw ht rfl rfl (.inl rfl) (.inl rfl) (np (by omega)) (fun _ => np (by simp)) fun _ => ⟨rfl, rfl, kp rfl (by omega)⟩
 ·rename_i hat
  exact de M hw ht rfl rfl (.inl rfl) (.inr ⟨_, _, rfl, by simp, by simp, by simp⟩) (np (by omega)) (fun _ => np (by simp)) fun _ => ⟨rfl, rfl, kp rfl (by omega)⟩
 ·rename_i hat
  exact QB M hw ht (.inr hat) false _ ⟨rfl, rfl, rfl, rfl⟩ (.inr rfl)
 ·rename_i hat
  exact de M hw ht rfl rfl (.inl rfl) (.inl rfl) (np (by omega)) (fun _ => np (by simp)) fun _ => ⟨rfl, rfl, kp rfl (by omega)⟩
 ·rename_i hat
  exact de M hw ht rfl rfl (.inl rfl) (.inl rfl) (np (by omega)) (fun _ => np (by simp)) fun _ => ⟨rfl, rfl, kp rfl (by omega)⟩
 ·rename_i hat
  refine de M hw ht rfl rfl (.inl rfl) ?_ (np (by omega)) (fun _ => np ?_) fun _ => ⟨rfl, rfl, kp rfl (by omega)⟩
  ·show (σ.μ.swp t.who (9, t.s, 0) t.top (t.obj + 1)).V = _ ∨ ∃ l v, (σ.μ.swp t.who (9, t.s, 0) t.top (t.obj + 1)).V = _ ∧ _
   rw [px]
   split
   ·exact .inr ⟨(9, t.s, 0), t.obj + 1, rfl, by simp, by simp, by simp⟩
   ·exact .inl rfl
  ·dsimp only
   split <;> omega
 ·have q10 : t.at' ≠ 10 := by assumption
  have q11 : t.at' ≠ 11 := by assumption
  have q14 : t.at' ≠ 14 := by assumption
  have q21 : t.at' ≠ 21 := by assumption
  exact de M hw ht rfl rfl (.inl rfl) (.inr ⟨_, _, rfl, by simp, by simp, by simp⟩) (np ⟨q10, q11, q14, q21⟩) (fun h => by cases h) (fun h => by cases h)
end
theorem CI.begin {LL : List (ja × List Cl)} {now : Nat} {σ : az} {ws : List Wk} {w e xk a : Nat} {L : ja × List Cl} (M : CI LL now σ (eO ws)) (hl : ws.length = 4) (hw : ws[w]? = some none) (hLw : LL[w]? = some L) (hal : a < L.2.length) :
 CI LL now (σ.begin w a) (eO (ws.set w (some (e, xk, Tk.new σ.c w L.2[a])))) := by
 have hwl := LV hw
 have h0 : eO ws w = none := by unfold eO; rw [hw]
 have tkE : ∀ k, eO (ws.set w (some (e, xk, Tk.new σ.c w L.2[a]))) k = if k = w then some (Tk.new σ.c w L.2[a]) else eO ws k := fun k => by rw [Aj hwl]; rfl
 have a0 : (Tk.new σ.c w L.2[a]).at' = 0 := rfl;refine ⟨M.pt, M.asc, M.lt, M.inj, M.so, fun w' t' hw' gF => ?_, fun w' t' hw' gF => ?_, M.cnt, fun k hk j hj => ?_, M.zer, M.le⟩
 ·rw [tkE] at gF
  show t'.who = w' ∧ ∃ a' : Nat, ∃ L', (if (w' : Int) = (w : Int) then some (a : Int) else σ.places (w' : Int)) = some (a' : Int) ∧ _ ∧ _
  by_cases q : w' = w
  ·subst q
   rw [if_pos rfl] at gF;cases gF;exact ⟨rfl, a, L, if_pos rfl, hLw, br hal⟩
  ·rw [if_neg q] at gF
   rw [if_neg (by omega)];exact M.cur w' t' hw' gF
 ·rw [tkE] at gF
  by_cases q : w' = w
  ·rw [if_pos q] at gF
   cases gF
   exact ⟨fun h => by rw [a0] at h; omega, fun h => by rcases h with h | h | h | h <;> rw [a0] at h <;> omega, fun h => by rw [a0] at h; omega⟩
  ·rw [if_neg q] at gF
   have T := M.ct w' t' hw' gF;exact ⟨T.fl, T.mine, T.laid⟩
 ·rcases M.cel k hk j hj with h | ⟨w', t', a1, a2, a3, a4, a5⟩
  ·exact .inl h
  ·refine .inr ⟨w', t', a1, ?_, a3, a4, a5⟩
   rw [tkE, if_neg (fun q => by rw [q, h0] at a2; cases a2)];exact a2
theorem CI.mono {LL : List (ja × List Cl)} {now now' : Nat} {σ : az} {tk : Nat → Option Tk} (M : CI LL now σ tk) (h : now ≤ now') : CI LL now' σ tk :=
 ⟨M.pt, M.asc, fun x hx he => by have := M.lt x hx he; omega, M.inj, M.so, M.cur, M.ct, M.cnt, M.cel, M.zer, M.le⟩
theorem WS {c : gf} : ∀ n, (∀ o, o < (az.made c n).obs.length → aP (az.made c n) o < n) ∧ (∀ k k', k < (az.made c n).obs.length → k' < (az.made c n).obs.length → aP (az.made c n) k = aP (az.made c n) k' → k = k') ∧
 (n ≤ 16 → ∀ s i, (az.made c n).μ.V (10, s, i) ≠ 0 → (az.made c n).μ.V (10, s, i) % Ej < (az.made c n).obs.length ∧ aP (az.made c n) ((az.made c n).μ.V (10, s, i) % Ej) = (((az.made c n).μ.V (10, s, i) / Ej : Nat) : Int) - 1) ∧ (az.made c n).pts = [] := by
 intro n
 induction n with
 | zero => exact ⟨(fun o h => by cases h), (fun k k' h => by cases h), fun _ s i h => absurd rfl h, rfl⟩
 | succ n ih =>
  obtain ⟨i1, i2, i3, i4⟩ := ih;have hm := xf c n;unfold az.made
  split
  ·have hlen : ((az.made c n).lay (n : Int) (1 + (n : Int)) (2 + (n : Int).tmod 2)).obs.length = (az.made c n).obs.length + 1 := by simp [az.lay, az.make]
   have hf : ∀ o, o < (az.made c n).obs.length → aP ((az.made c n).lay (n : Int) (1 + (n : Int)) (2 + (n : Int).tmod 2)) o = aP (az.made c n) o := fun o ho => by
    unfold aP;show ((((az.made c n).obs ++ [_])[o]?).map _).getD (-1) = _;rw [List.getElem?_append_left ho]
   have hf2 : aP ((az.made c n).lay (n : Int) (1 + (n : Int)) (2 + (n : Int).tmod 2)) (az.made c n).obs.length = n := by
    unfold aP;show ((((az.made c n).obs ++ [_])[(az.made c n).obs.length]?).map _).getD (-1) = _;rw [List.getElem?_append_right (bj _), Nat.sub_self]
    rfl
   have all : ∀ o, o < (az.made c n).obs.length + 1 → (o < (az.made c n).obs.length ∧ aP ((az.made c n).lay (n : Int) (1 + (n : Int)) (2 + (n : Int).tmod 2)) o = aP (az.made c n) o ∧ aP (az.made c n) o < n) ∨ (o = (az.made c n).obs.length ∧ aP ((az.made c n).lay (n : Int) (1 + (n : Int)) (2 + (n : Int).tmod 2)) o = n) := fun o ho => by
    by_cases e : o < (az.made c n).obs.length
    ·exact .inl ⟨e, hf o e, i1 o e⟩
    ·have e2 : o = (az.made c n).obs.length := by omega
     exact .inr ⟨e2, by rw [e2]; exact hf2⟩
   rw [hlen];refine ⟨fun o ho => ?_, fun k k' hk hk' he => ?_, fun hn s i => ?_, i4⟩
   ·rcases all o ho with ⟨_, h1, h2⟩ | ⟨_, h1⟩ <;> rw [h1] <;> omega
   ·rcases all k hk with ⟨a1, a2, a3⟩ | ⟨a1, a2⟩ <;> rcases all k' hk' with ⟨b1, b2, b3⟩ | ⟨b1, b2⟩
    ·exact i2 k k' a1 b1 (by rw [← a2, ← b2]; exact he)
    ·omega
    ·omega
    ·omega
   ·show (if ((10 : Int), s, i) = (10, ((n : Nat) : Int).tmod (az.made c n).c.sh, ((n : Nat) : Int).tdiv (az.made c n).c.sh) then dJ n (az.made c n).obs.length else (az.made c n).μ.V (10, s, i)) ≠ 0 →
     (if ((10 : Int), s, i) = (10, ((n : Nat) : Int).tmod (az.made c n).c.sh, ((n : Nat) : Int).tdiv (az.made c n).c.sh) then dJ n (az.made c n).obs.length else (az.made c n).μ.V (10, s, i)) % Ej < _ ∧
     aP _ ((if ((10 : Int), s, i) = (10, ((n : Nat) : Int).tmod (az.made c n).c.sh, ((n : Nat) : Int).tdiv (az.made c n).c.sh) then dJ n (az.made c n).obs.length else (az.made c n).μ.V (10, s, i)) % Ej) =
     (((if ((10 : Int), s, i) = (10, ((n : Nat) : Int).tmod (az.made c n).c.sh, ((n : Nat) : Int).tdiv (az.made c n).c.sh) then dJ n (az.made c n).obs.length else (az.made c n).μ.V (10, s, i)) / Ej : Nat) : Int) - 1
    by_cases e : ((10 : Int), s, i) = (10, ((n : Nat) : Int).tmod (az.made c n).c.sh, ((n : Nat) : Int).tdiv (az.made c n).c.sh)
    ·rw [if_pos e, xZ (by omega), hf2]
     intro _;refine ⟨by omega, ?_⟩
     have : dJ (n : Int) (az.made c n).obs.length / Ej = n + 1 := by
      unfold dJ;simp only [Ej];omega
     rw [this];omega
    ·rw [if_neg e]
     intro h;obtain ⟨h1, h2⟩ := i3 (by omega) s i h;exact ⟨by omega, by rw [hf _ h1]; exact h2⟩
  ·exact ⟨fun o ho => by have := i1 o ho; omega, i2, fun hn => i3 (by omega), i4⟩
theorem CI.start {c : gf} {LL : List (ja × List Cl)} (n : Nat) (hn : n ≤ 16) : CI LL 0 (az.made c n) (eO [none, none, none, none]) := by
 obtain ⟨i1, i2, i3, i4⟩ := WS (c := c) n
 have none4 : ∀ w, w < 4 → eO [none, none, none, none] w = none := fun w hw => by
  have : w = 0 ∨ w = 1 ∨ w = 2 ∨ w = 3 := by omega
  rcases this with rfl | rfl | rfl | rfl <;> rfl
 have z : ∀ k : Nat, ax ((az.made c n).μ.V (11, (k : Int), 0)) = 0 := fun k => by rw [ac2 n (11, (k : Int), 0) (by simp)]; decide
 refine ⟨(fun x hx => by rw [i4] at hx; cases hx), by rw [i4]; exact List.Pairwise.nil, (fun x hx => by rw [i4] at hx; cases hx), i2, i3 hn, (fun w t hw ht => by rw [none4 w hw] at ht; cases ht), (fun w t hw ht => by rw [none4 w hw] at ht; cases ht), fun k _ => by rw [i4, z]; rfl, fun k _ j hj => by rw [z] at hj; omega, fun k _ j _ => ac2 n (15, (k : Int), (j : Int)) (by simp), fun k _ => by rw [z]; omega⟩
structure CeR (LL : List (ja × List Cl)) (σ : az) : Prop where
 pt : ∀ x ∈ σ.pts, ∃ w a : Nat, ∃ L, w < 4 ∧ x.who = w ∧ x.place = a ∧ LL[w]? = some L ∧ a < L.2.length
 asc : (σ.pts.filter zi).Pairwise fun a b => a.step < b.step
 inj : ∀ k k', k < σ.obs.length → k' < σ.obs.length → aP σ k = aP σ k' → k = k'
 cel : ∀ k, k < σ.obs.length → ∀ (j : Nat) (x : Pt), (j4 LL (aP σ k) σ.pts)[j]? = some x → σ.μ.V (15, (k : Int), (j : Int)) = j + 1 ∧ (am σ k)[j]? = some (I6 (fJ LL x))
 zer : ∀ k, k < σ.obs.length → ∀ j : Nat, (j4 LL (aP σ k) σ.pts).length ≤ j → σ.μ.V (15, (k : Int), (j : Int)) = 0
 le : ∀ k, k < σ.obs.length → (j4 LL (aP σ k) σ.pts).length ≤ fh σ k
theorem CI.ended {LL : List (ja × List Cl)} {now : Nat} {σ : az} {tk : Nat → Option Tk} (M : CI LL now σ tk) (h : ∀ w, w < 4 → tk w = none) : CeR LL σ := by
 refine ⟨M.pt, M.asc, M.inj, fun k hk j x hx => ?_, fun k hk j hj => M.zer k hk j (by rw [← M.cnt k hk]; exact hj), fun k hk => by rw [M.cnt k hk]; exact M.le k hk⟩
 have hj : j < ax (σ.μ.V (11, (k : Int), 0)) := by rw [← M.cnt k hk]; exact (qw.1 hx).1
 rcases M.cel k hk j hj with ⟨h1, h2⟩ | ⟨w, t, a1, a2, _⟩
 ·rw [hx] at h2
  exact ⟨h1, h2⟩
 ·rw [h w a1] at a2; cases a2
theorem UN {l : List Pt} (h : (l.filter zi).Pairwise fun a b => a.step < b.step) : (aY l).filter zi = l.filter zi := by
 obtain ⟨Z, h1, h2, h3⟩ := oa l;have e1 : jH (Z.filter fun x => zi x.2) := List.Pairwise.filter _ h1;have e2 : (Z.filter fun x => zi x.2).Perm ((mY 0 l).filter fun x => zi x.2) := h2.filter _
 have pf : ∀ X : List TP, pl (X.filter fun x => zi x.2) = (pl X).filter zi := fun X => by
  induction X with
  | nil => rfl
  | cons y X ih =>
   show pl ((y :: X).filter _) = (y.2 :: pl X).filter zi;rw [List.filter_cons, List.filter_cons]
   split
   ·show y.2 :: pl _ = _
    rw [ih]
   ·exact ih
 have e3 : jH ((mY 0 l).filter fun x => zi x.2) := by
  have q : ((pl ((mY 0 l).filter fun x => zi x.2))).Pairwise fun a b => a.step < b.step := by rw [pf, rU]; exact h
  have q2 := List.pairwise_map.1 q;exact q2.imp fun h => .inl h
 have e4 := Dl _ _ e1 e3 e2;rw [← h3, ← pf, e4, pf, rU]
theorem adP (LL : List (ja × List Cl)) (f : Int) (l : List Pt) : j4 LL f l = (l.filter zi).filter fun x => decide ((fJ LL x).flow = f) := by
 unfold j4;rw [List.filter_filter]
 congr 1
 funext x
 exact Bool.and_comm _ _
theorem adQ {LL : List (ja × List Cl)} {f : Int} {l : List Pt} (h : (l.filter zi).Pairwise fun a b => a.step < b.step) : j4 LL f (aY l) = j4 LL f l := by
 rw [adP, adP, UN h]
theorem Mn {l : List Pt} {x : Pt} (h : x ∈ aY l) : x ∈ l := by
 obtain ⟨Z, h1, h2, h3⟩ := oa l;rw [← h3] at h;obtain ⟨y, hy, rfl⟩ := List.mem_map.1 h;have := h2.mem_iff.1 hy;rw [← rU l 0];exact List.mem_map.2 ⟨y, this, rfl⟩
def CJ (c0 : gf) (LL : List (ja × List Cl)) (i n : Nat) (σ : az) (ws : List Wk) (ats : List Nat) : Prop := LJ c0 LL 365 i σ ws ats ∧ ws.length = 4 ∧ ats.length = 4 ∧ σ.obs.length ≤ 4 ∧ CI LL n σ (eO ws)
section
variable {c0 : gf} {LL : List (ja × List Cl)} {i n : Nat} {σ : az} {ws : List Wk} {ats : List Nat}
theorem CJ.begin (M : CJ c0 LL i n σ ws ats) {w e xk a : Nat} {L : ja × List Cl} (hLw : LL[w]? = some L) (haw : ats[w]? = some a) (hal : a < L.2.length) (hw : ws[w]? = some none) :
 CJ c0 LL i n (σ.begin w a) (ws.set w (some (e, xk, Tk.new σ.c w L.2[a]))) (ats.set w (a + 1)) := by
 obtain ⟨m2, m3, m4, m5, m6⟩ := M;exact ⟨m2.begin hLw haw hal m3 hw, by rw [xa]; exact m3, by rw [xa]; exact m4, m5, m6.begin m3 hw hLw hal⟩
theorem CJ.step (M : CJ c0 LL i n σ ws ats) {w K : Nat} {q : Nat × Nat × Tk} (hp : 300 ≤ i → w = i % 4) (S : SI σ K) (hw : ws[w]? = some (some q)) (T : fe σ q.2.2) :
 CJ c0 LL (i + 1) (n + 1) (ai σ q.2.2 n).1 (ws.set w (if (ai σ q.2.2 n).2.2 = true then none else some (q.1, q.2.1, (ai σ q.2.2 n).2.1))) ats := by
 obtain ⟨m2, m3, m4, m5, m6⟩ := M;have hwl := LV hw
 have h0 : eO ws w = some q.2.2 := by unfold eO; rw [hw]
 have m7 := afX m6 (by omega) h0 (fun h => (m2.tf w _ (by omega) h0).rm (by omega));refine ⟨m2.step n hp S m3 hw T, by rw [xa]; exact m3, m4, by rw [Yd]; exact m5, ?_⟩;rw [af5 hwl];exact m7
theorem CJ.skip (M : CJ c0 LL i n σ ws ats) {w a : Nat} {L : ja × List Cl} (hp : 300 ≤ i → w = i % 4) (hLw : LL[w]? = some L) (haw : ats[w]? = some a) (hal : L.2.length ≤ a) (hw : ws[w]? = some none) : CJ c0 LL (i + 1) n σ ws ats := by
 obtain ⟨m2, m3, m4, m5, m6⟩ := M;exact ⟨m2.skip hp hLw haw hal m3 hw, m3, m4, m5, m6⟩
end
theorem Kh (x : Pk) : aj (.flat 3) .neq (.agg (Pk.cells x).toArray) (.agg (Pk.cells x).toArray) = some (vb false) := by
 show (oN (.flat 3) (.agg #[vi x.flow, vi x.len, vi x.mark]) (.agg #[vi x.flow, vi x.len, vi x.mark])).map (fun b => Value.bool !b) = _;simp only [oN];rw [if_pos ⟨rfl, rfl⟩];simp [bq]
theorem Pd (m i rp : Nat) (cs : List Pk) : Sp jB [vp rp] (bW m i rp cs) (fun _ : Unit => vi cs.length) (fun _ => bW m i rp cs) := by
 refine aZ fun R H h => ?_;obtain ⟨cv, h0⟩ := bi h;refine bf (fun r => vW _ H) ?_;refine av h0 ae rfl ?_;refine fq (s := cv) (l := cs) h0 ?_;exact aq ⟨(), rfl, h⟩
structure Prc (σ σ1 : az) (K : Nat) : Prop where
 c : σ1.c = σ.c
 obs : σ1.obs = σ.obs
 v : σ1.μ.V = σ.μ.V
 N : σ1.μ.N ≤ K
theorem Prc.acc {σ σ1 : az} {K : Nat} (h : Prc σ σ1 K) (who kd : Int) (l : b7) : Prc σ (σ1.mem (σ1.μ.acc who kd l)) (K + 2) :=
 ⟨h.c, h.obs, h.v, by have := h.N; show σ1.μ.N + 2 ≤ _; omega⟩
section
variable (p x : Nat) (rp : List Nat)
theorem Ms {pb nb lb : Nat} {pv : Value} {g : PIds} {σ : az} {LL : List (ja × List Cl)} {R : SP} (hg : g.rp.length = σ.obs.length) (hN : σ.μ.N ≤ 30000) (hP : σ.pts.length ≤ 29000) (hob : σ.obs.length ≤ 4) (hcs : ∀ o, o < σ.obs.length → 1 ≤ (am σ o).length ∧ (am σ o).length < 1000) (hLL : LL.length = 4) (hQ : ∀ q ∈ LL, q.2.length ≤ 100) (CR : CeR LL σ) (x6 : Value) :
 ∀ (H : AH), ac (ts 1 pD (vs nb σ.obs.length 1) (List.replicate σ.obs.length 0) * (ts 7 Pt.cells pv (aY σ.pts) * (aJ p g σ * (blk pb (.cells false [vp p, vp x]) * (ts 1 dy (vs lb 4 1) (a9 LL) * (bZ LL * R)))))) H →
  wp (j9 x6 (vp pb) (vs lb 4 1) (vs nb σ.obs.length 1) pv H) fun v' _ => v' = vb true := by
 intro H h
 have hhl : (a9 LL).length = 4 := by simp [a9, hLL]
 obtain ⟨L, hL⟩ : ∃ L, L = aY σ.pts := ⟨_, rfl⟩;rw [← hL] at h
 have hLl : L.length = σ.pts.length := by
  obtain ⟨Z, h1, h2, h3⟩ := oa σ.pts;rw [hL, ← h3];have := h2.length_eq;simp only [pl, pJ];rw [this];have e := congrArg List.length (rU σ.pts 0)
  simpa [pl] using e
 have hok : ∀ f, j4 LL f L = j4 LL f σ.pts := fun f => by rw [hL]; exact adQ CR.asc
 refine ah (tr ..) ?_;refine ah (sc ..) ?_
 -- at last
 have last : ∀ (d k : Nat) (nsl : List Nat) (σ1 : az) (K : Nat) (H : AH), k + d = σ.obs.length → Prc σ σ1 K → K + 10 * d ≤ 780000 → nsl.length = σ.obs.length → (∀ o (ho : o < nsl.length), nsl[o] = (j4 LL (aP σ o) σ.pts).length) →
  ac (ts 1 pD (vs nb σ.obs.length 1) nsl * (ts 7 Pt.cells pv L * (aJ p g σ1 * (blk pb (.cells false [vp p, vp x]) * (ts 1 dy (vs lb 4 1) (a9 LL) * (bZ LL * R)))))) H → wp (gK x6 (vp pb) (vs nb σ.obs.length 1) (vi (k : Int)) H) fun v' _ => v' = vb true := by
  intro d
  induction d with
  | zero =>
   intro k nsl σ1 K H hk P hK hl hb h;refine ah (lI ..) ?_;refine fq (s := vs nb σ.obs.length 1) (l := nsl) h ?_;refine aa (bu (by omega)) ?_;refine gs ?_;refine ah (qt ..) ?_;refine ah (tu ..) ?_;exact aq rfl
  | succ d ih =>
   intro k nsl σ1 K H hk P hK hl hb h
   have hkl : k < nsl.length := by omega
   have hko : k < σ1.obs.length := by rw [P.obs]; omega
   have hg1 : g.rp.length = σ1.obs.length := by rw [P.obs]; exact hg
   have hce : am σ1 k = am σ k := by unfold am; rw [P.obs]
   have hck := hcs k (by omega);have hle := CR.le k (by omega);have hN1 := P.N;obtain ⟨rb, hrb⟩ : ∃ b, g.rp[k]? = some b := ⟨_, br (by omega)⟩
   have hnk : nsl[k] ≤ (am σ k).length := by rw [hb k hkl]; exact hle
   refine ah (lI ..) ?_;refine fq (s := vs nb σ.obs.length 1) (l := nsl) h ?_;refine aa (bO (by omega)) ?_;refine gs ?_;refine ah (tx ..) ?_;refine av h aE rfl ?_;refine ag h (qM p g σ1 hg1 k rb hko hrb) fun _ H1 h1 => ?_;refine aa (lW _) ?_;refine aa (v := vp rb) rfl ?_;refine aa (v := vs nb σ.obs.length 1) rfl ?_;refine aa (v := vi (k : Int)) rfl ?_;refine i7 ?_;refine fp (s := vs nb σ.obs.length 1) (l := nsl) (i := k) (v := vu nsl[k]) h1 hkl rfl ?_;refine mI ?_;refine ag h1 (iA (p := p) (g := g) (σ := σ1) (o := k) (b := rb) hg1 hko hrb (C6 g.m k rb (am σ1 k) σ1.μ 0 nsl[k] (by omega) (by rw [hce]; exact hck) (by omega))) fun _ H2 h2 => ?_
   have ns : decide (σ1.μ.V (15, (k : Int), ((nsl[k] % (am σ1 k).length : Nat) : Int)) = nsl[k] + 1) = false := by
    refine gU fun e => ?_;rw [P.v, hce] at e
    by_cases q : nsl[k] < (am σ k).length
    ·rw [Nat.mod_eq_of_lt q, CR.zer k (by omega) nsl[k] (by rw [hb k hkl]; omega)] at e
     omega
    ·have q2 : nsl[k] = (am σ k).length := by omega
     rw [q2, Nat.mod_self] at e
     have q3 : 0 < (j4 LL (aP σ k) σ.pts).length := by rw [← hb k hkl]; omega
     have := (CR.cel k (by omega) 0 _ (br q3)).1;rw [this] at e;omega
   rw [ns];refine aa (kq _ _) ?_;refine aa (v := vs nb σ.obs.length 1) rfl ?_;refine aa (v := vi (k : Int)) rfl ?_;rw [qn];refine anA (s := vs nb σ.obs.length 1) (enc := pD) (l := nsl) (i := k) (v := vu nsl[k]) h2 hkl rfl fun a ha => ?_;refine cZ ?_;refine aa (ha h2) ?_;refine aa (v := vp rb) rfl ?_;refine mI ?_;refine ag h2 (FY (p := p) (g := g) (σ := σ1.mem (σ1.μ.acc 0 1 (15, (k : Int), ((nsl[k] % (am σ1 k).length : Nat) : Int)))) (o := k) (b := rb) hg1 hko hrb (Pd g.m k rb (am σ1 k))) fun _ H3 h3 => ?_;refine DE ((ha h3).trans (ha h2).symm) ?_;refine cZ ?_;rw [hce];refine aa (cP (by omega) (by omega)) ?_;rw [show (((am σ k).length : Nat) : Int).toNat = (am σ k).length from nK _];refine cZ ?_;refine aa (gh (by omega)) ?_;refine aa (kq _ _) ?_;refine gs ?_;refine ah (tz ..) ?_;refine aa (aB (by omega) (by omega)) ?_;rw [show ((k : Nat) : Int) + 1 = ((k + 1 : Nat) : Int) from by omega];exact ih (k + 1) nsl _ (K + 2) H3 (by omega) (P.acc 0 1 (15, (k : Int), ((nsl[k] % (am σ1 k).length : Nat) : Int))) (by omega) hl hb h3.to
 -- point by point
 have points : ∀ (rest done : List Pt) (nsl : List Nat) (σ1 : az) (K : Nat) (H : AH), L = done ++ rest → Prc σ σ1 K → K ≤ 30000 + 24 * done.length → nsl.length = σ.obs.length → (∀ o (ho : o < nsl.length), nsl[o] = (j4 LL (aP σ o) done).length) →
  ac (ts 1 pD (vs nb σ.obs.length 1) nsl * (ts 7 Pt.cells pv L * (aJ p g σ1 * (blk pb (.cells false [vp p, vp x]) * (ts 1 dy (vs lb 4 1) (a9 LL) * (bZ LL * R)))))) H → wp (fW x6 (vp pb) (vs lb 4 1) (vs nb σ.obs.length 1) pv (vi (done.length : Int)) H) fun v' _ => v' = vb true := by
  intro rest
  induction rest with
  | nil =>
   intro done nsl σ1 K H hd P hK hl hb h;rw [List.append_nil] at hd
   have hdl : done.length = L.length := by rw [hd]
   refine ah (kw ..) ?_;refine fq (s := pv) (l := L) h ?_;refine aa (bu (by omega)) ?_;refine gs ?_;refine ah (pF ..) ?_;refine ah (tt ..) ?_;refine ah (tv ..) ?_;exact last σ.obs.length 0 nsl σ1 K H (by omega) P (by omega) hl (fun o ho => by rw [hb o ho, ← hd, hok]) h
  | cons y rest ih =>
   intro done nsl σ1 K H hd P hK hl hb h
   have hdl : done.length < L.length := by rw [hd]; simp
   have hy : L[done.length] = y := by
    have e : L[done.length]? = some y := by rw [hd]; simp
    rw [br hdl] at e;exact fi e
   have hym : y ∈ σ.pts := Mn (by rw [← hL, hd]; simp);obtain ⟨w, a, Lw, hw, hwho, hplace, hLw, hal⟩ := CR.pt y hym
   have hwl : w < LL.length := by omega
   have hLw2 : LL[w] = Lw := by rw [br hwl] at hLw; exact fi hLw
   have hQw := hQ Lw (by rw [← hLw2]; exact Ku hwl)
   have hcall : fJ LL y = Lw.2[a] := by
    unfold fJ;rw [hwho, hplace, nK, nK, hLw];show (Lw.2[a]?).getD _ = _;rw [br hal]; rfl
   have next : ∀ (nsl : List Nat) (σ1 : az) (K : Nat) (H : AH), Prc σ σ1 K → K ≤ 30000 + 24 * (done.length + 1) → nsl.length = σ.obs.length → (∀ o (ho : o < nsl.length), nsl[o] = (j4 LL (aP σ o) (done ++ [y])).length) →
    ac (ts 1 pD (vs nb σ.obs.length 1) nsl * (ts 7 Pt.cells pv L * (aJ p g σ1 * (blk pb (.cells false [vp p, vp x]) * (ts 1 dy (vs lb 4 1) (a9 LL) * (bZ LL * R)))))) H → wp (fX x6 (vp pb) (vs lb 4 1) (vs nb σ.obs.length 1) pv (vi (done.length : Int)) H) fun v' _ => v' = vb true := by
    intro nsl σ1 K H P hK hl hb h;refine ah (se ..) ?_;refine aa (aB (by omega) (by omega)) ?_
    have el : ((done.length : Nat) : Int) + 1 = (((done ++ [y]).length : Nat) : Int) := by simp
    rw [el];exact ih (done ++ [y]) nsl σ1 K H (by rw [hd, List.append_assoc]; rfl) P (by rw [dh, List.length_singleton]; exact hK) hl hb h
   refine ah (kw ..) ?_;refine fq (s := pv) (l := L) h ?_;refine aa (bO (by omega)) ?_;refine gs ?_;refine ah (sd ..) ?_;obtain ⟨c, hc⟩ : ∃ c, c = Lw.2[a] := ⟨_, rfl⟩;rw [← hc] at hcall;obtain ⟨yst, ywho, ypl, ye⟩ := y;have hwho : ywho = (w : Int) := hwho;have hplace : ypl = (a : Int) := hplace;subst hwho hplace;refine yf (s := pv) (l := L) h hdl ?_;rw [hy];refine bm h fun yb H1 h1 => ?_;refine fm h1 rfl rfl fun H2 h2 => ?_;refine av (v := vi (w : Int)) h2 aE rfl ?_;refine aa (bu (by omega)) ?_;refine i7 ?_;refine av (v := vi (w : Int)) h2 aE rfl ?_;refine cZ ?_;refine aa (gh (by omega)) ?_;refine aa (kq _ _) ?_;refine i7 ?_;refine av (v := vi (a : Int)) h2 aE rfl ?_;refine cZ ?_;refine aa (bu (by omega)) ?_;refine aa (kq _ _) ?_;refine i7 ?_;refine av (v := vi (a : Int)) h2 aE rfl ?_;refine aa (v := vs lb 4 1) rfl ?_;refine i7 ?_;refine av (v := vi (w : Int)) h2 aE rfl ?_;refine i7 ?_;refine fp (s := vs lb 4 1) (l := a9 LL) (i := w) (v := FP LL[w].1) h2 (by omega) (by simp [a9]) ?_
   haveI := xe (LL := LL) (i := w) hwl
   have hLw3 : LL[w].2 = Lw.2 := by rw [hLw2]
   refine gs ?_;refine ge (s := FP LL[w].1) (l := LL[w].2) h2 ?_;refine cZ ?_;refine aa (nH (by rw [hLw3]; omega)) ?_;refine aa (kq _ _) ?_;refine gs ?_;refine av (v := vi ye) h2 (cm (cm cn)) rfl ?_
   by_cases hye : ye = 0
   case neg =>
    refine aa (SY hye) ?_;refine gs ?_;refine ah (pG ..) ?_;refine next nsl σ1 K H2 P (by omega) hl (fun o ho => ?_) h2.to;rw [hb o ho, adO hye]
   subst hye;refine aa (yC rfl) ?_;refine gs ?_;refine av (v := vi (w : Int)) h2 aE rfl ?_;refine fp (s := vs lb 4 1) (l := a9 LL) (i := w) (v := FP LL[w].1) h2 (by omega) (by simp [a9]) ?_;refine av (v := vi (a : Int)) h2 aE rfl ?_;refine yf (s := FP LL[w].1) (l := LL[w].2) (i := a) h2 (by rw [hLw3]; exact hal) ?_
   have ecall : (LL[w].2)[a]'(by rw [hLw3]; exact hal) = c := by rw [hc]; simp only [hLw3]
   rw [ecall];refine bm h2 fun cb H3 h3 => ?_;refine fm h3 rfl rfl fun H4 h4 => ?_;refine ah (sg ..) ?_
   -- object by object
   have objs : ∀ (d k : Nat) (nsl : List Nat) (σ2 : az) (K2 : Nat) (H : AH), k + d = σ.obs.length → Prc σ σ2 K2 → K2 ≤ 30000 + 24 * done.length + 6 * k → nsl.length = σ.obs.length → (∀ o (ho : o < nsl.length), nsl[o] = if o < k then (j4 LL (aP σ o) (done ++ [⟨yst, (w : Int), (a : Int), 0⟩])).length else (j4 LL (aP σ o) done).length) →
    ac (blk cb (.cells false (Cl.cells c)) * (ts 1 pD (vs nb σ.obs.length 1) nsl * (ts 7 Pt.cells pv L * (aJ p g σ2 * (blk pb (.cells false [vp p, vp x]) * (ts 1 dy (vs lb 4 1) (a9 LL) * (bZ LL * R))))))) H →
    wp (fY x6 (vp pb) (vs lb 4 1) (vs nb σ.obs.length 1) pv (vi (done.length : Int)) (vp cb) (vi (k : Int)) H) fun v' _ => v' = vb true := by
    intro d
    induction d with
    | zero =>
     intro k nsl σ2 K2 H hk P2 hK2 hl2 hb2 h;refine ah (ky ..) ?_;refine fq (s := vs nb σ.obs.length 1) (l := nsl) h ?_;refine aa (bu (by omega)) ?_;refine gs ?_;refine ah (pH ..) ?_;exact next nsl σ2 K2 H P2 (by omega) hl2 (fun o ho => by rw [hb2 o ho, if_pos (by omega)]) h.to
    | succ d ihd =>
     intro k nsl σ2 K2 H hk P2 hK2 hl2 hb2 h
     have hkl : k < nsl.length := by omega
     have hko : k < σ2.obs.length := by rw [P2.obs]; omega
     have hg2 : g.rp.length = σ2.obs.length := by rw [P2.obs]; exact hg
     have hce : am σ2 k = am σ k := by unfold am; rw [P2.obs]
     have hck := hcs k (by omega);have hN2 := P2.N
     have hnk : nsl[k] = (j4 LL (aP σ k) done).length := by rw [hb2 k hkl, if_neg (by omega)]
     have after : ∀ (nsl' : List Nat) (σ3 : az) (K3 : Nat) (H : AH), Prc σ σ3 K3 → K3 ≤ K2 + 6 → nsl'.length = σ.obs.length → (∀ o (ho : o < nsl'.length), nsl'[o] = if o < k + 1 then (j4 LL (aP σ o) (done ++ [⟨yst, (w : Int), (a : Int), 0⟩])).length else (j4 LL (aP σ o) done).length) →
      ac (blk cb (.cells false (Cl.cells c)) * (ts 1 pD (vs nb σ.obs.length 1) nsl' * (ts 7 Pt.cells pv L * (aJ p g σ3 * (blk pb (.cells false [vp p, vp x]) * (ts 1 dy (vs lb 4 1) (a9 LL) * (bZ LL * R))))))) H →
      wp (fZ x6 (vp pb) (vs lb 4 1) (vs nb σ.obs.length 1) pv (vi (done.length : Int)) (vp cb) (vi (k : Int)) H) fun v' _ => v' = vb true := by
      intro nsl' σ3 K3 H P3 hK3 hl3 hb3 h;refine ah (sk ..) ?_;refine aa (aB (by omega) (by omega)) ?_;rw [show ((k : Nat) : Int) + 1 = ((k + 1 : Nat) : Int) from by omega];exact ihd (k + 1) nsl' σ3 K3 H (by omega) P3 (by omega) hl3 hb3 h
     refine ah (ky ..) ?_;refine fq (s := vs nb σ.obs.length 1) (l := nsl) h ?_;refine aa (bO (by omega)) ?_;refine gs ?_;refine ah (sj ..) ?_;refine av h aE rfl ?_;refine ag h (OF (p := p) (g := g) (σ := σ2) hg2 0 k hko (by omega)) fun _ H5 h5 => ?_
     have ef : (σ2.obs[k]).1.flow = aP σ k := by rw [WE (by omega)]; simp only [P2.obs]
     rw [ef];refine aa (v := vi (aP σ k)) rfl ?_;refine bp aE ?_;refine aL (v := vi c.flow) h5 rfl ?_;refine aI h h5 (by rfl) ?_
     by_cases hfl : aP σ k = c.flow
     case neg =>
      refine aa (SY hfl) ?_;refine gs ?_;refine ah (pI ..) ?_;refine after nsl _ (K2 + 2) H5 (P2.acc 0 5 (13, (k : Int), 0)) (by omega) hl2 (fun o ho => ?_) h5.to;rw [hb2 o ho]
      by_cases e : o = k
      ·subst e
       rw [if_neg (by omega), if_pos (by omega), Fc (by rw [hcall]; exact fun q => hfl q.symm)]
      ·by_cases e2 : o < k
       ·rw [if_pos e2, if_pos (by omega)]
       ·rw [if_neg e2, if_neg (by omega)]
     refine aa (yC hfl) ?_;refine gs ?_
     have hfy : (fJ LL ⟨yst, (w : Int), (a : Int), 0⟩).flow = aP σ k := by rw [hcall, hfl]
     have okd : j4 LL (aP σ k) (done ++ [⟨yst, (w : Int), (a : Int), 0⟩]) = j4 LL (aP σ k) done ++ [⟨yst, (w : Int), (a : Int), 0⟩] := SZ rfl hfy
     have okp : j4 LL (aP σ k) σ.pts = j4 LL (aP σ k) done ++ ([⟨yst, (w : Int), (a : Int), 0⟩] ++ j4 LL (aP σ k) rest) := by
      rw [← hok, hd, ← List.append_assoc, ← okd];unfold j4;rw [← List.filter_append, List.append_assoc]
      rfl
     have hjx : (j4 LL (aP σ k) σ.pts)[nsl[k]]? = some ⟨yst, (w : Int), (a : Int), 0⟩ := by
      rw [okp, hnk, List.getElem?_append_right (bj _), Nat.sub_self]
      rfl
     obtain ⟨v15, vcell⟩ := CR.cel k (by omega) nsl[k] _ hjx;have hjl : nsl[k] < (am σ k).length := Nat.lt_of_lt_of_le (qw.1 hjx).1 (CR.le k (by omega))
     have hmod : nsl[k] % (am σ2 k).length = nsl[k] := by rw [hce]; exact Nat.mod_eq_of_lt hjl
     obtain ⟨rb, hrb⟩ : ∃ b, g.rp[k]? = some b := ⟨_, br (by omega)⟩;refine av h5 aE rfl ?_;refine ag h5 (qM p g (σ2.mem (σ2.μ.acc 0 5 (13, (k : Int), 0))) hg2 k rb hko hrb) fun _ H6 h6 => ?_;refine aa (lW _) ?_;refine aa (v := vp rb) rfl ?_;refine aa (v := vs nb σ.obs.length 1) rfl ?_;refine aa (v := vi (k : Int)) rfl ?_;refine i7 ?_;refine fp (s := vs nb σ.obs.length 1) (l := nsl) (i := k) (v := vu nsl[k]) h6 hkl rfl ?_;refine mI ?_;refine ag h6 (iA (p := p) (g := g) (σ := σ2.mem (σ2.μ.acc 0 5 (13, (k : Int), 0))) (o := k) (b := rb) hg2 hko hrb (C6 g.m k rb (am σ2 k) (σ2.μ.acc 0 5 (13, (k : Int), 0)) 0 nsl[k] (by omega) (by rw [hce]; exact hck) (by show σ2.μ.N + 2 < _; omega))) fun _ H7 h7 => ?_
     have sh : decide ((σ2.μ.acc 0 5 (13, (k : Int), 0)).V (15, (k : Int), ((nsl[k] % (am σ2 k).length : Nat) : Int)) = nsl[k] + 1) = true := by
      refine iy ?_;rw [hmod];show σ2.μ.V (15, (k : Int), (nsl[k] : Int)) = _;rw [P2.v];exact v15
     rw [sh];refine cZ ?_;refine aa oW ?_;rw [Bool.not_true];refine aa (kq _ _) ?_;refine aa (v := vp rb) rfl ?_;refine aa (v := vs nb σ.obs.length 1) rfl ?_;refine aa (v := vi (k : Int)) rfl ?_;refine i7 ?_;refine fp (s := vs nb σ.obs.length 1) (l := nsl) (i := k) (v := vu nsl[k]) h7 hkl rfl ?_;refine mI ?_;obtain ⟨μ3, hμ3⟩ : ∃ μ3, μ3 = (σ2.μ.acc 0 5 (13, (k : Int), 0)).acc 0 1 (15, (k : Int), ((nsl[k] % (am σ2 k).length : Nat) : Int)) := ⟨_, rfl⟩
     have hμN : μ3.N = σ2.μ.N + 4 := by rw [hμ3]
     refine ag h7 (iA (p := p) (g := g) (σ := (σ2.mem (σ2.μ.acc 0 5 (13, (k : Int), 0))).mem ((σ2.μ.acc 0 5 (13, (k : Int), 0)).acc 0 1 (15, (k : Int), ((nsl[k] % (am σ2 k).length : Nat) : Int)))) (o := k) (b := rb) hg2 hko hrb (aeU g.m k rb (am σ2 k) ((σ2.μ.acc 0 5 (13, (k : Int), 0)).acc 0 1 (15, (k : Int), ((nsl[k] % (am σ2 k).length : Nat) : Int))) 0 nsl[k] (by rw [hce]; exact hck) (by rw [← hμ3, hμN]; omega))) fun _ H8 h8 => ?_
     have ecell : (am σ2 k)[nsl[k] % (am σ2 k).length]'(Nat.mod_lt _ (by rw [hce]; omega)) = I6 c := by
      have e : (am σ2 k)[nsl[k] % (am σ2 k).length]? = some (I6 c) := by rw [hmod, hce, vcell, hcall]
      exact (qw.1 e).2
     rw [ecell];rw [qn];refine bp aE ?_;refine cZ ?_;refine aL (v := vi c.flow) h8 rfl ?_;refine aI h7 h8 (by rfl) ?_;rw [qn];refine bp aE ?_;refine cZ ?_;refine aL (v := vi c.a) h8 rfl ?_;refine aI h7 h8 (by rfl) ?_;rw [qn];refine bp aE ?_;refine cZ ?_;refine aL (v := vi c.b) h8 rfl ?_;refine aI h7 h8 (by rfl) ?_;refine aa (v := .agg (Pk.cells (I6 c)).toArray) rfl ?_;refine cZ ?_;refine aa (Kh _) ?_;refine aa (kq _ _) ?_;refine gs ?_;refine fp (s := vs nb σ.obs.length 1) (l := nsl) (i := k) (v := vu nsl[k]) h8 hkl rfl ?_;refine aa (dt (b := 1) (by omega)) ?_;refine DH (s := vs nb σ.obs.length 1) (l := nsl) (i := k) (nsl[k] + 1 : Nat) h8 hkl (.inl ⟨rfl, rfl⟩) rfl (by omega) rfl rfl fun H9 h9 => ?_;refine after (nsl.set k (nsl[k] + 1)) _ (K2 + 6) H9 (((P2.acc 0 5 (13, (k : Int), 0)).acc 0 1 (15, (k : Int), ((nsl[k] % (am σ2 k).length : Nat) : Int))).acc 0 5 (16, (k : Int), ((nsl[k] % (am σ2 k).length : Nat) : Int))) (by omega) (by rw [xa]; exact hl2) (fun o ho => ?_) h9.to;rw [List.getElem_set]
     by_cases e : k = o
     ·subst e
      rw [if_pos rfl, if_pos (by omega), okd, dh, List.length_singleton, hnk]
     ·rw [if_neg e, hb2 o (by rw [xa] at ho; exact ho)]
      by_cases e2 : o < k
      ·rw [if_pos e2, if_pos (by omega)]
      ·rw [if_neg e2, if_neg (by omega)]
   exact objs σ.obs.length 0 nsl σ1 K H4 (by omega) P (by omega) hl (fun o ho => by rw [hb o ho, if_neg (by omega)]) h4.to
 exact points L [] (List.replicate σ.obs.length 0) σ 30000 H rfl ⟨rfl, rfl, rfl, hN⟩ (by omega) (by simp) (fun o ho => by rw [List.getElem_replicate]; rfl) h
end
theorem Zt {H0 : AH} (hT : H0.get 0 = some (.cells true tabC)) (c : gf) (s : Value) (L : List Cl) [hR : Rd (WB H0) s 4 Cl.cells L] (s3 : Value) (l3 : List Int) [hR3 : Rd (WB H0) s3 1 dO l3] :
 ∃ H', FF iL [.agg (gf.cells c).toArray, s, s3] H0 = some (vb true, H') := by
 have key : wp (FF iL [.agg (gf.cells c).toArray, s, s3] H0) fun v' _ => v' = vb true := by
  haveI := YY hT
  refine bf (fun r => y5 _ _ _ H0) ?_;refine a8 (l := gf.cells c) (WC H0) fun b1 H1 h1 => ?_;refine a7 h1 ?_;refine ag h1 (acV c 4 (by omega)) fun q H3 h3 => ?_;obtain ⟨p, x, c'⟩ := q;dsimp only at h3 ⊢;rw [ar, ac.pu] at h3;obtain ⟨hc, h3⟩ := h3;refine aa (v := .agg [vp p, vp x].toArray) rfl ?_;refine aa (v := vb true) rfl ?_;refine bm h3 fun pb H4 h4 => ?_;refine fm h4 rfl rfl fun H5 h5 => ?_;refine amC (s := s) (L := L) 20 (by omega) h5 fun lb LL H6 hL hOf h6 => ?_;refine ajW h6 fun H7 h7 => ?_;refine gs ?_;rw [Bool.not_true];refine gs ?_;rw [Bool.not_true];refine gs ?_;refine a7 h7 ?_;have M := ac3 c' hc 4 (by omega);obtain ⟨rp, h8⟩ := ad9 (p := p) (σ := az.made c' 4) (R := blk pb (.cells false [vp p, vp x]) * (bQ x (az.made c' 4) * (ts 1 dy (vs lb 4 1) (a9 LL) * (bZ LL * (blk b1 (.cells false (gf.cells c)) * WB H0))))) (H := H7) h7.to;refine Xg (s := s3) (l := l3) 9 300 (by omega) (by omega) h8 fun pv o H9 ho hov h9 => ?_;refine en h9 h7 rfl ?_;refine OB p x rp (az.made c' 4) 16 M.si (bj _) lb LL hL pv o 2400 (by omega) (CJ c' LL) ⟨LJ.start hc (by omega) hL hOf, rfl, rfl, (xf c' 4).2.2, CI.start 4 (by omega)⟩
   (fun i σ ws ats w q now K hi hp hK S _ _ hw T M => M.step (fun h => hp (by omega)) S hw T)
   (fun i now σ ws ats w e xk L a hLw haw hal _ _ _ hw M => M.begin hLw haw hal hw)
   (fun i now σ ws ats w L a hp hLw haw hal _ hw M => M.skip (fun h => hp (by omega)) hLw haw hal hw) h9 fun b now' σ' ws' ats' H10 S' hI hAll h10 => ?_
  obtain ⟨m2, m3, m4, m5, m6⟩ := hI;have hall := m2.ended m3 m4;have hb : b = true := hAll.2 hall;subst hb
  have hnone : ∀ w, w < 4 → eO ws' w = none := fun w hw => by unfold eO; rw [(hall w hw).1]
  have CR := m6.ended hnone;have hN := S'.N;have hpts := S'.pts;refine aa (v := vb true) rfl ?_;refine aa (v := vb true) rfl ?_;refine aa oW ?_;rw [Bool.not_true];refine aa (v := vb true) rfl ?_;refine cZ ?_;refine aa oW ?_;rw [Bool.not_true];refine aa (kq _ _) ?_;refine gs ?_;refine av h10 aE rfl ?_;obtain ⟨g, hrp, hg, h12⟩ := eE (p := p) (rp := rp) (σ := σ') (ac.fr h10);refine ag h12 (OG (p := p) (g := g) (σ := σ') (by rw [hrp]; exact hg)) fun _ H15 h15 => ?_;refine DF (n := σ'.obs.length) (enc := pD) 0 h15 rfl (by unfold room; omega) (by omega) fun nb H16 h16 => ?_;refine av h16 aE rfl ?_;have h17 := bG (p := p) (rp := rp) (σ := σ') (R := ts 1 pD (vs nb σ'.obs.length 1) (List.replicate σ'.obs.length 0) * (blk pb (.cells false [vp p, vp x]) * (ts 1 dy (vs lb 4 1) (a9 LL) * (bZ LL * WB H0)))) (H := H16) g hrp hg h16.to;refine ag h17 (OL p rp σ' (by omega)) fun pv2 H18 h18 => ?_;obtain ⟨g2, hrp2, hg2, h19⟩ := eE (p := p) (rp := rp) (σ := σ') (R := ts 7 Pt.cells pv2 (aY σ'.pts) * (ts 1 pD (vs nb σ'.obs.length 1) (List.replicate σ'.obs.length 0) * (blk pb (.cells false [vp p, vp x]) * (ts 1 dy (vs lb 4 1) (a9 LL) * (bZ LL * WB H0))))) (H := H18) h18.to;refine Ms p x (g := g2) (σ := σ') (LL := LL) (R := WB H0) (by rw [hrp2]; exact hg2) (by omega) (by omega) m5 (fun o ho => S'.cells o ho) hL (fun q hq => ?_) CR (vb false) H18 (show ac (ts 1 pD (vs nb σ'.obs.length 1) (List.replicate σ'.obs.length 0) * (ts 7 Pt.cells pv2 (aY σ'.pts) * (aJ p g2 σ' * (blk pb (.cells false [vp p, vp x]) * (ts 1 dy (vs lb 4 1) (a9 LL) * (bZ LL * WB H0)))))) H18 from h19.to);obtain ⟨k, hk, e⟩ := List.getElem_of_mem hq;have := (hOf k q (by rw [br hk, e])).1;omega
 obtain ⟨v, H', e, rfl⟩ := key;exact ⟨H', e⟩
theorem enqCells_args {H0 : AH} (hT : H0.get 0 = some (.cells true tabC)) {xc : CfgTy.I} {cc : List Value} (hc : Abs H0 CfgTy xc cc) {l : List ClTy.I} {v : Value} (hl : Abs H0 (.slice ClTy) l [v]) {l3 : List Int} {v3 : Value} (hl3 : Abs H0 (.slice (.int .i64)) l3 [v3]) :
 ∃ H', FF iL [.agg cc.toArray, v, v3] H0 = some (vb true, H') := by
 obtain ⟨c, rfl⟩ := ahL hc
 haveI := Mg hl
 haveI := UF hl3
 exact Zt hT c v (l.map af6) v3 l3
end Go.Proofs.YtghoamdlcjdfjaaGreatDoor.Gst
