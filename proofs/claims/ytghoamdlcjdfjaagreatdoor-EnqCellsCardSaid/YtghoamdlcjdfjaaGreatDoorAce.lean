/- Several texts in one. -/
import Derived.Test.YtghoamdlcjdfjaaGreatDoorAcd
namespace Go.Proofs.YtghoamdlcjdfjaaGreatDoor.Gst
open Go Go.RowKit
set_option linter.unusedSimpArgs false
set_option linter.unusedVariables false
set_option maxHeartbeats 1000000
set_option synthInstance.maxSize 2000
set_option synthInstance.maxHeartbeats 400000
theorem ks {cl : TCls} {a b : Int} (h : b ≠ 0) : aj cl .rem (vi a) (vi b) = some (vi (a.tmod b)) := by
 simp only [aj, l7, if_true];rw [if_neg h]
theorem aoA {a b : Nat} : ig [vu a, vu b] = some (vu (max a b)) := by
 simp only [ig]
 congr 2
 split <;> omega
abbrev sJ (x : Ob) : List Value := [vi x.flow, vi x.most, vu x.r]
instance : Enc sJ 3 := ⟨fun _ => rfl, fun _ => rfl, by omega⟩
abbrev pD (n : Nat) : List Value := [vu n]
instance : Enc pD 1 := ⟨fun _ => rfl, fun _ => rfl, by omega⟩
def gb : List (Int × Int) → Int → Int
 | [], _ => 0
 | p :: ps, who => if (ps.any fun q => q.1 == who) = true then gb ps who else if p.1 = who then p.2 else 0
def ed (l : List (Int × Int)) : List Int := l.flatMap fun p => [p.1, p.2]
def D5 (l : List (Int × Nat)) (k : Int) : Option Nat := (l.find? fun p => p.1 == k).map (·.2)
def sN (x : Pt) : List Pt → List Pt
 | [] => [x]
 | y :: l => if y.step ≤ x.step ∨ (l.any fun z => decide (z.step ≤ x.step)) = true then y :: sN x l else x :: y :: l
def aY (l : List Pt) : List Pt := l.foldl (fun acc x => sN x acc) []
def cE (m i rp : Nat) (cs : List Pk) : SP := ex fun cv : Value => blk rp (.cells false [vp m, vi i, vi cs.length, cv]) * ts 3 Pk.cells cv cs
def iY (m : Nat) : Nat → List (Nat × List Pk) → SP
 | _, [] => emp
 | i, p :: ps => cE m i p.1 p.2 * iY m (i + 1) ps
theorem Ld (m : Nat) : ∀ (ps : List (Nat × List Pk)) (i : Nat) (q : Nat × List Pk), iY m i (ps ++ [q]) = iY m i ps * cE m (i + ps.length) q.1 q.2 := by
 intro ps
 induction ps with
 | nil => intro i q; show cE m i q.1 q.2 * emp = emp * cE m (i + 0) q.1 q.2; rw [eN, jI]; rfl
 | cons p ps ih =>
  intro i q;show cE m i p.1 p.2 * iY m (i + 1) (ps ++ [q]) = cE m i p.1 p.2 * iY m (i + 1) ps * _;rw [ih, ar, List.length_cons, show i + 1 + ps.length = i + (ps.length + 1) from by omega]
def gZ (ib m : Nat) (sh : Int) (nx : Int → Option Nat) (L : Nat) : SP := ex fun g : Value × Value × List (Int × Nat) =>
 pu ((∀ k, D5 g.2.2 k = nx k) ∧ g.2.2.length ≤ L) * (blk ib (.cells false [vp m, vi sh, g.1, g.2.1]) * (ts 1 dO g.1 (g.2.2.map (·.1)) * ts 1 pD g.2.1 (g.2.2.map (·.2))))
theorem nL {ib m : Nat} {sh : Int} {nx : Int → Option Nat} {L : Nat} {R : SP} {H : AH} (h : ac (gZ ib m sh nx L * R) H) :
 ∃ (kv nv : Value) (ns : List (Int × Nat)), ((∀ k, D5 ns k = nx k) ∧ ns.length ≤ L) ∧ ac (blk ib (.cells false [vp m, vi sh, kv, nv]) * (ts 1 dO kv (ns.map (·.1)) * (ts 1 pD nv (ns.map (·.2)) * R))) H := by
 obtain ⟨⟨kv, nv, ns⟩, h1⟩ := ac.ex.1 h;rw [ar, ac.pu] at h1;exact ⟨kv, nv, ns, h1.1, h1.2.to⟩
theorem g6 {ib m : Nat} {sh : Int} {nx : Int → Option Nat} {L : Nat} {R : SP} {H : AH} {kv nv : Value} {ns : List (Int × Nat)} (hn : (∀ k, D5 ns k = nx k) ∧ ns.length ≤ L)
 (h : ac (blk ib (.cells false [vp m, vi sh, kv, nv]) * (ts 1 dO kv (ns.map (·.1)) * (ts 1 pD nv (ns.map (·.2)) * R))) H) : ac (gZ ib m sh nx L * R) H := by
 refine ac.ex.2 ⟨(kv, nv, ns), ?_⟩;rw [ar, ac.pu];exact ⟨hn, h.to⟩
theorem oK {ib m : Nat} {sh : Int} {nx : Int → Option Nat} {L L' : Nat} {R : SP} {H : AH} (hL : L ≤ L') (h : ac (gZ ib m sh nx L * R) H) : ac (gZ ib m sh nx L' * R) H := by
 obtain ⟨g, h1⟩ := ac.ex.1 h;rw [ar, ac.pu] at h1;exact ac.ex.2 ⟨g, by rw [ar]; exact ac.pu.2 ⟨⟨h1.1.1, dZ h1.1.2 hL⟩, h1.2⟩⟩
structure XIds where
 m : Nat
 ib : Nat
 tb : Nat
 po : Nat
 co : Nat
 ov : Value
 rv : Value
 rp : List Nat
 wv : Value
 ws : List (Int × Int)
 pv : Value
def ay (x : Nat) (g : XIds) (σ : az) : SP :=
 blk x (.cells false [vi σ.c.sh, vi σ.c.sl, vi σ.c.wk, vi σ.c.wd, vu σ.c.un, vp g.m, vp g.ib, vp g.tb, vp g.po, vp g.co, g.ov, g.rv, g.wv, g.pv]) *
 (bz g.m σ.μ * (gZ g.ib g.m σ.c.sh σ.nx σ.μ.N * (tab g.tb g.m σ.c.sh.toNat σ.c.sl.toNat *
 (ts 3 sJ g.ov (σ.obs.map fun x => x.1) * (ts 1 o8 g.rv g.rp * (iY g.m 0 (g.rp.zip (σ.obs.map fun x => x.2)) * (ts 1 dO g.wv (ed g.ws) * ts 7 Pt.cells g.pv (aY σ.pts))))))))
def ga (g : XIds) (σ : az) : Prop := g.rp.length = σ.obs.length ∧ (∀ k, gb g.ws k = (σ.places k).getD 0) ∧ g.ws.length ≤ σ.μ.N
def bQ (x : Nat) (σ : az) : SP := ex fun g : XIds => pu (ga g σ) * ay x g σ
theorem iw {p : Nat} {σ : az} {R : SP} {H : AH} (h : ac (bQ p σ * R) H) : ∃ g : XIds, ga g σ ∧ ac (ay p g σ * R) H := by
 obtain ⟨g, h1⟩ := ac.ex.1 h;rw [ar, ac.pu] at h1;exact ⟨g, h1⟩
theorem eK {p : Nat} {σ : az} {R : SP} {H : AH} (g : XIds) (hl : ga g σ) (h : ac (ay p g σ * R) H) : ac (bQ p σ * R) H :=
 ac.ex.2 ⟨g, by rw [ar]; exact ac.pu.2 ⟨hl, h⟩⟩
theorem Ii (m : Nat) (c : gf) (hc : ci c = true) : Sp lO [vp m, vi c.sh] emp (fun b : Nat => vp b) (fun b => blk b (.cells false [vp m, vi c.sh, .slice none 0 0, .slice none 0 0])) := by
 have hc := bV.1 hc;refine aX (zx _ _) fun R H h => ?_;refine aa (kz) ?_;refine aa (kA) ?_;rw [show min (max c.sh 1) 4 = c.sh from by omega];refine kP ?_;refine a8 h fun b H3 h3 => ?_;exact aq ⟨b, rfl, h3.to⟩
theorem Ik (m : Nat) (c : gf) (hc : ci c = true) : Sp lQ [vp m, vi c.sh, vi c.sl] emp (fun b : Nat => vp b) (fun b => tab b m c.sh.toNat c.sl.toNat) := by
 have hc := bV.1 hc;refine aX (zz _ _ _) fun R H h => ?_;refine aa (kz) ?_;refine aa (kA) ?_;refine aa (kz) ?_;refine aa (kA) ?_;rw [show min (max c.sh 1) 4 = ((c.sh.toNat : Nat) : Int) from by omega, show min (max c.sl 1) 4 = ((c.sl.toNat : Nat) : Int) from by omega];refine kP ?_;refine a8 h fun b H3 h3 => ?_;exact aq ⟨b, rfl, by unfold tab; exact h3.to⟩
theorem K5 (m : Nat) (w : Int) : Sp mV [vp m, vi w] emp (fun b : Nat => vp b) (fun _ => emp) := by
 refine aX (CO _ _) fun R H h => ?_;refine aa (kz) ?_;refine aa (kA) ?_;refine kP ?_;refine a8 h fun b H3 h3 => ?_;exact aq ⟨b, rfl, h3.to⟩
theorem Xl (w : Int) : Sp qE [vi w] emp (fun x : Int => vi x) (fun _ => emp) := by
 refine aX (If _) fun R H h => ?_;refine aa (kz) ?_;refine aa (kA) ?_;exact aq ⟨_, rfl, h⟩
theorem Ig (n w : Int) : Sp adD [vi n, vi w] emp (fun b : Nat => vp b) (fun _ => emp) := by
 refine aX (amO _ _) fun R H h => ?_;refine kP ?_;refine a8 h fun q H2 h2 => ?_;refine ah (Xq _ _ _ _ H2) ?_;refine ah (Xs _ _ _ _ _ H2) ?_;obtain ⟨k, hk⟩ : ∃ k : Nat, min (max n 1) 16 = k := ⟨(min (max n 1) 16).toNat, by omega⟩
 have hk16 : k ≤ 16 := by omega
 have loop : ∀ (d i : Nat) (nv : Value) (m : List Nat) (H : AH), i + d = k → m.length = i → ac (blk q (.cells false [nv]) * ts 1 o8 nv m * R) H → wp (Im (vi n) (vi w) (.pointer none) (vp q) (vi i) H) fun v' H' => ∃ b : Nat, v' = vp b ∧ ac (emp * R) H' := by
  intro d
  induction d with
  | zero =>
   intro i nv m H hi hm h;refine ah (Fj _ _ _ _ _ H) ?_;refine aa (kz) ?_;refine aa (kA) ?_;refine aa (bu (by omega)) ?_;refine gs ?_;refine ah (K8 _ _ H) ?_;refine ah (Xr _ _ H) ?_;exact aq ⟨q, rfl, h.to⟩
  | succ d ih =>
   intro i nv m H hi hm h;refine ah (Fj _ _ _ _ _ H) ?_;refine aa (kz) ?_;refine aa (kA) ?_;refine aa (bO (by omega)) ?_;refine gs ?_;refine ah (Xt _ _ _ _ _ H) ?_;refine bp ae ?_;refine aL h rfl ?_;refine ag h (Xl w) fun x H3 h3 => ?_;refine aI h3 h rfl ?_;refine kP ?_;refine a8 h3 fun sb H3b h3b => ?_;refine L8 h3b fun b0 H4 h4 => ?_;refine gu (sb : Nat) h4 rfl ?_ (by omega) fun a c H5 h5 => ?_
   ·unfold room; omega
   refine bw h5 ae rfl rfl fun H6 h6 => ?_;refine ah (Xu _ _ _ _ _ H6) ?_;refine aa (aB (by omega) (by omega)) ?_;exact ih (i + 1) (.slice a (m.length + 1) c) (m ++ [sb]) H6 (by omega) (by simp; omega) h6.to
 refine loop k 0 (.slice none 0 0) [] H2 (by omega) rfl ?_;have h3 := dr 1 o8 h2;exact h3.to
theorem K4 (c : gf) : Sp mU [.agg (gf.cells c).toArray] emp (fun b : Nat => vp b) (fun _ => emp) := by
 refine aX (CN _) fun R H h => ?_;refine a8 h fun cb H1 h1 => ?_;refine av h1 aE rfl ?_;refine av h1 aE rfl ?_;refine ag h1 (Ig c.sh c.wd) fun q H2 h2 => ?_;refine kP ?_;refine a8 h2 fun b H5 h5 => ?_;exact aq ⟨b, rfl, h5.to⟩
theorem ac8 {b : Nat} {R : SP} {H : AH} (h : ac (blk b (.cells false [.slice none 0 0, .slice none 0 0, .slice none 0 0]) * R) H) : ac (bz b ⟨fun _ => 0, [], 0⟩ * R) H := by
 refine ac.ex.2 ⟨[], ?_⟩;rw [ar, ac.pu];refine ⟨⟨fun _ => rfl, bj _⟩, ac.ex.2 ⟨(.slice none 0 0, .slice none 0 0, .slice none 0 0), ?_⟩⟩;have h1 := dr 3 Gc (dr 1 JC (dr 5 Ev.cells h));exact h1.to
theorem Ij (c : gf) (hc : ci c = true) : Sp lP [.agg (gf.cells c).toArray] emp (fun b : Nat => vp b) (fun b => bQ b (az.new c)) := by
 refine aX (zy _) fun R H h => ?_;refine a8 h fun cb H1 h1 => ?_;refine kP ?_;refine a8 h1 fun m H2 h2 => ?_;refine a7 h2 ?_;refine av h2 aE rfl ?_;refine ag h2 (Ii m c hc) fun ib H3 h3 => ?_;refine en h3 h2 rfl ?_;refine bp aE ?_;refine aL h3 rfl ?_;refine aI h2 h3 rfl ?_;refine bp aE ?_;refine aL h3 rfl ?_;refine aI h2 h3 rfl ?_;refine ag h3 (Ik m c hc) fun tb H4 h4 => ?_;refine en h4 h2 rfl ?_;refine bp aE ?_;refine aL h4 rfl ?_;refine aI h2 h4 rfl ?_;refine aI h3 h4 rfl ?_;refine ag h4 (K5 m c.wk) fun pb H5 h5 => ?_;refine en h5 h2 rfl ?_;refine a7 h5 ?_;refine en h2 h5 rfl ?_;refine en h3 h5 rfl ?_;refine en h4 h5 rfl ?_;refine ag h5 (K4 c) fun kb H6 h6 => ?_;refine en h6 h2 rfl ?_;refine kP ?_;refine a8 h6 fun b H7 h7 => ?_;refine aq ⟨b, rfl, ?_⟩;refine eK ⟨m, ib, tb, pb, kb, .slice none 0 0, .slice none 0 0, [], .slice none 0 0, [], .slice none 0 0⟩ ⟨rfl, fun _ => rfl, bj _⟩ ?_;have h8 := ac8 (b := m) (R := blk b (.cells false [vi c.sh, vi c.sl, vi c.wk, vi c.wd, vu c.un, vp m, vp ib, vp tb, vp pb, vp kb, .slice none 0 0, .slice none 0 0, .slice none 0 0, .slice none 0 0]) * (tab tb m c.sh.toNat c.sl.toNat * (blk ib (.cells false [vp m, vi c.sh, .slice none 0 0, .slice none 0 0]) * R))) (ac.to h7);have h8a := dr 1 dO (dr 1 pD h8);have h8b := g6 (ib := ib) (m := m) (sh := c.sh) (nx := fun _ => none) (L := 0) (kv := .slice none 0 0) (nv := .slice none 0 0) (ns := []) (R := bz m ⟨fun _ => 0, [], 0⟩ * (blk b (.cells false [vi c.sh, vi c.sl, vi c.wk, vi c.wd, vu c.un, vp m, vp ib, vp tb, vp pb, vp kb, .slice none 0 0, .slice none 0 0, .slice none 0 0, .slice none 0 0]) * (tab tb m c.sh.toNat c.sl.toNat * R))) (H := H7) ⟨fun _ => rfl, bj _⟩ (show ac (blk ib (.cells false [vp m, vi c.sh, .slice none 0 0, .slice none 0 0]) * (ts 1 dO (.slice none 0 0) [] * (ts 1 pD (.slice none 0 0) [] * (bz m ⟨fun _ => 0, [], 0⟩ * (blk b (.cells false [vi c.sh, vi c.sl, vi c.wk, vi c.wd, vu c.un, vp m, vp ib, vp tb, vp pb, vp kb, .slice none 0 0, .slice none 0 0, .slice none 0 0, .slice none 0 0]) * (tab tb m c.sh.toNat c.sl.toNat * R)))))) H7 from h8a.to);have h9 := dr 3 sJ (dr 1 o8 (dr 1 dO (dr 7 Pt.cells h8b)));unfold ay
 show ac (blk b (.cells false [vi c.sh, vi c.sl, vi c.wk, vi c.wd, vu c.un, vp m, vp ib, vp tb, vp pb, vp kb, .slice none 0 0, .slice none 0 0, .slice none 0 0, .slice none 0 0]) * (bz m ⟨fun _ => 0, [], 0⟩ * (gZ ib m c.sh (fun _ => none) 0 * (tab tb m c.sh.toNat c.sl.toNat *
  (ts 3 sJ (.slice none 0 0) [] * (ts 1 o8 (.slice none 0 0) [] * (emp * (ts 1 dO (.slice none 0 0) [] * ts 7 Pt.cells (.slice none 0 0) [])))))))  * R) H7
 exact h9.to
theorem OM {cl : TCls} {a b : Int} (h : b ≠ 0) (h0 : -9223372036854775808 ≤ a.tdiv b) (h1 : a.tdiv b < 9223372036854775808) : aj cl .quo (vi a) (vi b) = some (vi (a.tdiv b)) := by
 simp only [aj, l7, if_true];rw [if_neg h, n6 h0 h1]
theorem vj {m : Nat} {V : b7 → Nat} {E : List Ev} {N N' : Nat} {R : SP} {H : AH} (hN : N ≤ N') (h : ac (bz m ⟨V, E, N⟩ * R) H) : ac (bz m ⟨V, E, N'⟩ * R) H := by
 obtain ⟨al, h1⟩ := ac.ex.1 h;rw [ar, ac.pu] at h1;exact ac.ex.2 ⟨al, by rw [ar]; exact ac.pu.2 ⟨⟨h1.1.1, dZ h1.1.2 hN⟩, h1.2⟩⟩
def dJ (flow : Int) (obj : Nat) : Nat := (flow + 1).toNat * 4294967296 + obj
section
variable (t m : Nat) (sh sl : Nat) (μ : Mu) (who s i flow : Int) (obj : Nat)
theorem Ys (hE : μ.N < 1099511627000) (hf : 0 ≤ flow ∧ flow ≤ 1048576) (ho : obj < 4294967296) :
 Sp iQ [vp t, vi who, vi s, vi i, vi flow, vi obj] (tab t m sh sl * bh m μ) (fun _ : Unit => vb true) (fun _ => tab t m sh sl * bh m ((μ.acc who 2 (10, s, i)).put (10, s, i) (dJ flow obj))) := by
 refine aX (ua _ _ _ _ _ _) fun R H h => ?_;unfold tab at h ⊢;refine aa (bu (by omega)) ?_;refine gs ?_;refine aa (gh ?_) ?_
 ·omega
 refine gs ?_;refine aa (bu ?_) ?_
 ·omega
 refine gs ?_;refine aa (nH ?_) ?_
 ·omega
 refine gs ?_;refine bp ae ?_;refine aL h rfl ?_;refine ag h (Dt s i) fun _ H1 h1 => ?_;refine aI h1 h rfl ?_;refine aa (aB (by omega) (by omega)) ?_;refine aa (cP (by omega) (by omega)) ?_
 have hn : (flow + 1).toNat ≤ 1048577 := by omega
 have e1 : aj .other .shl (vu (flow + 1).toNat) (vw 32) = some (vu ((flow + 1).toNat * 4294967296)) := by
  have := Ep (cl := .other) (a := (flow + 1).toNat) (k := .u64) (n := 32) (by omega);simp only [Nat.reducePow] at this;rw [Nat.mod_eq_of_lt (by omega)] at this;exact this
 refine aa (e1) ?_;refine aa (cP (by omega) (by omega)) ?_;rw [show ((obj : Nat) : Int).toNat = obj from nK obj]
 have e2 : aj .other .or (vu ((flow + 1).toNat * 4294967296)) (vu obj) = some (vu (dJ flow obj)) := by
  rw [Y5 (by omega) (by omega)]
  congr 3
  have := Nat.two_pow_add_eq_or_of_lt (i := 32) (b := obj) (by simp only [Nat.reducePow]; omega) (flow + 1).toNat;simp only [Nat.reducePow] at this;rw [dJ, Nat.mul_comm, ← this]
 refine aa (e2) ?_;refine ag h1 (HY m μ who (10, s, i) (dJ flow obj) (by omega)) fun _ H2 h2 => ?_;exact aq ⟨(), rfl, h2.to⟩
theorem ajG (hE : μ.N < 1099511627000) (hf : 0 ≤ flow ∧ flow ≤ 1048576) (ho : obj < 4294967296) :
 Sp kj [vp t, vi who, vi s, vi i, vi flow, vi obj] (tab t m sh sl * bz m μ) (fun _ : Unit => vb true) (fun _ => tab t m sh sl * bz m ((μ.acc who 2 (10, s, i)).put (10, s, i) (dJ flow obj))) := by
 refine aX (xI _ _ _ _ _ _) fun R H h => ?_;unfold tab at h ⊢;refine aa (bu (by omega)) ?_;refine gs ?_;refine aa (gh ?_) ?_
 ·omega
 refine gs ?_;refine aa (bu ?_) ?_
 ·omega
 refine gs ?_;refine aa (cP (by omega) (by omega)) ?_;rw [show ((obj : Nat) : Int).toNat = obj from nK obj];refine gs ?_;refine aa (nH ?_) ?_
 ·omega
 refine gs ?_;refine bp ae ?_;refine aL h rfl ?_;refine ag h (dH 10 s i) fun _ H1 h1 => ?_;refine aI h1 h rfl ?_;refine aa (aB (by omega) (by omega)) ?_;refine aa (cP (by omega) (by omega)) ?_
 have hn : (flow + 1).toNat ≤ 1048577 := by omega
 refine aa (aoB) ?_;rw [Nat.mod_eq_of_lt (by omega)];refine aa (cP (by omega) (by omega)) ?_;rw [show ((obj : Nat) : Int).toNat = obj from nK obj];refine aa (dt (by omega)) ?_;refine ag h1 (xM m μ who (10, s, i) (dJ flow obj) (by omega)) fun _ H2 h2 => ?_;exact aq ⟨(), rfl, h2.to⟩
end
section
variable (p : Nat) (σ : az)
theorem XF (m i : Nat) (most : Int) : Sp mW [vp m, vi i, vi most] emp (fun b : Nat => vp b) (fun b => cE m i b (List.replicate (eH most) OH)) := by
 obtain ⟨q1, q2, q3⟩ := rT most;refine aX (CP _ _ _) fun R H h => ?_;refine aa (kz) ?_;refine aa (kA) ?_;rw [← q3];refine DF (enc := Pk.cells) OH h rfl (by unfold room; omega) (by omega) fun cb H1 h1 => ?_;refine kP ?_;refine a8 h1 fun b H2 h2 => ?_;refine aq ⟨b, rfl, ?_⟩;unfold cE;refine ac.ex.2 ⟨vs cb (eH most) 3, ?_⟩;rw [List.length_replicate];exact h2.to
theorem an9 (who : Int) (o : Ob) (hE : σ.μ.N < 1099511627000) (ho : σ.obs.length < 1000000) : Sp jx [vp p, vi who, .agg [vi o.flow, vi o.most, vu o.r].toArray] (bQ p σ) (fun _ : Unit => vi σ.obs.length) (fun _ => bQ p (σ.make who o)) := by
 refine aZ fun R H h => ?_;obtain ⟨g, ⟨hg, hg2⟩, h0⟩ := iw h;unfold ay at h0;refine bf (fun r => vN _ _ _ H) ?_;refine a8 (l := [vi o.flow, vi o.most, vu o.r]) h0 fun ob H1 h1 => ?_;refine av h1 ae rfl ?_;refine oX (s := g.ov) h1 ?_;rw [pJ];refine bp ae ?_;refine aL h1 rfl ?_;refine ag h1 (dH 13 σ.obs.length 0) fun _ H2 h2 => ?_;refine aI h2 h1 rfl ?_;refine ag h2 ((YE g.m σ.μ who 6 (13, σ.obs.length, 0) (by omega)).imp fun _ R H h => vj (N' := σ.μ.N + 2) (by simp) h) fun _ H3 h3 => ?_;refine av h3 ae rfl ?_;refine a7 h3 ?_;refine L8 h3 fun b0 H4 h4 => ?_;refine gu (o : Ob) h4 rfl ?_ (by omega) fun a cc H5 h5 => ?_
 ·unfold room; simp only [pJ]; omega
 refine bp ae ?_;refine aL h5 rfl ?_;refine aI h4 h5 rfl ?_;refine bp ae ?_;refine aL h5 rfl ?_;refine aI h4 h5 rfl ?_;refine bp aE ?_;refine aL h5 rfl ?_;refine aI h4 h5 rfl ?_;refine ag h5 (XF g.m σ.obs.length o.most) fun rb H6 h6 => ?_;refine aI h6 h5 rfl ?_;refine L8 h6 fun b1 H7 h7 => ?_;refine gu (rb : Nat) h7 rfl ?_ (by omega) fun a2 c2 H8 h8 => ?_
 ·unfold room; omega
 refine bw h8 ae rfl rfl fun H9 h9 => ?_;refine bw h9 ae rfl rfl fun H10 h10 => ?_;refine aq ⟨(), rfl, ?_⟩;refine eK { g with ov := .slice a ((σ.obs.map fun x => x.1).length + 1) cc, rv := .slice a2 (g.rp.length + 1) c2, rp := g.rp ++ [rb] } ⟨by simp [az.make, hg], hg2.1, dZ hg2.2 (by simp [az.make])⟩ ?_;unfold ay az.make;dsimp only
 have e2 : (g.rp ++ [rb]).zip ((σ.obs ++ [(o, List.replicate (eH o.most) OH)]).map fun x => x.2) = (g.rp.zip (σ.obs.map fun x => x.2)) ++ [(rb, List.replicate (eH o.most) OH)] := by
  rw [Kv, List.zip_append (by simp [hg])]
  rfl
 have e1 : (σ.obs ++ [(o, List.replicate (eH o.most) OH)]).map (fun x => x.1) = (σ.obs.map fun x => x.1) ++ [o] := by rw [Kv]; rfl
 have e3 : 0 + (g.rp.zip (σ.obs.map fun x => x.2)).length = σ.obs.length := by simp [hg]
 rw [e1, e2, Ld, e3];dsimp only;have h11 := oK (L' := σ.μ.N + 2) (by omega) (ac.fr (A := gZ g.ib g.m σ.c.sh σ.nx σ.μ.N) h10);exact h11.to
theorem KZ (u : Nat) (w : Int) (hu : 1 ≤ u ∧ u ≤ 4611686018427387904) (hw : 1 ≤ w ∧ w ≤ 65536) : Sp mT [vu u, vi w] emp (fun _ : Unit => .tuple #[vu (max (u / w.toNat) 1), vb true]) (fun _ => emp) := by
 refine aX (CF _ _) fun R H h => ?_;refine aa (bu (by omega)) ?_;refine gs ?_;refine aa (gh ?_) ?_
 ·omega
 refine gs ?_;refine aa (bu ?_) ?_
 ·omega
 refine gs ?_;refine aa (gh ?_) ?_
 ·omega
 refine gs ?_;refine aa (cP (by omega) (by omega)) ?_;refine aa (Eo (by omega) (by omega)) ?_;refine aa (aoA (b := 1)) ?_;exact aq ⟨(), rfl, h.to⟩
abbrev az.lay (σ : az) (f w most : Int) : az :=
 { σ.make 0 ⟨f, most, max (σ.c.un / w.toNat) 1⟩ with
  μ := ((σ.make 0 ⟨f, most, max (σ.c.un / w.toNat) 1⟩).μ.acc 0 2 (10, f.tmod σ.c.sh, f.tdiv σ.c.sh)).put (10, f.tmod σ.c.sh, f.tdiv σ.c.sh) (dJ f σ.obs.length) }
theorem ai0 (x : Nat) (f w most : Int) (hc : ci σ.c = true) (hE : σ.μ.N < 1099511620000) (ho : σ.obs.length < 1000000) (hf : 0 ≤ f ∧ f ≤ 1048576) (hw : 1 ≤ w ∧ w ≤ 65536) :
 Sp lL [.agg [vp p, vp x].toArray, vi f, vi w, vi most] (fj p σ * bQ x σ) (fun _ : Unit => vb true) (fun _ => fj p (σ.lay f w most) * bQ x (σ.lay f w most)) := by
 have hr := bV.1 hc;have q0 : 0 ≤ f.tdiv σ.c.sh := Int.tdiv_nonneg hf.1 (by omega);have q1 : f.tdiv σ.c.sh ≤ f := Int.tdiv_le_self _ hf.1;refine aX (y6 _ _ _ _) fun R H h => ?_;refine a8 (l := [vp p, vp x]) h fun b H1 h1 => ?_;refine av h1 aE rfl ?_;obtain ⟨g, hg, k1⟩ := iw (p := x) (σ := σ) (R := blk b (.cells false [vp p, vp x]) * (fj p σ * R)) (H := H1) h1.to;unfold ay at k1;refine Uh k1 ae ?_;refine bm h1 fun b2 H2 h2 => ?_;refine fm h2 rfl rfl fun H3 h3 => ?_;refine av h3 aE rfl ?_;refine ag h3 (KZ σ.c.un w ⟨by omega, by omega⟩ hw) fun _ H4 h4 => ?_;refine aa (v := vu (max (σ.c.un / w.toNat) 1)) rfl ?_;refine aa (v := vb true) rfl ?_;refine kP ?_;refine bm h4 fun b3 H5 h5 => ?_;refine fm h5 rfl rfl fun H6 h6 => ?_;refine av h6 aE rfl ?_;refine a7 h6 ?_;refine ag h6 (OC p σ 0 ⟨f, most, max (σ.c.un / w.toNat) 1⟩ (by omega) ho) fun _ H7 h7 => ?_;refine bp aE ?_;refine aL h7 rfl ?_;refine aI h6 h7 rfl ?_;refine a7 h7 ?_;refine en h6 h7 rfl ?_;refine ag h7 (an9 x σ 0 ⟨f, most, max (σ.c.un / w.toNat) 1⟩ (by omega) ho) fun _ H8 h8 => ?_;refine aa (bF rfl) ?_;refine gs ?_;refine av h8 aE rfl ?_;obtain ⟨gp, hgp, k8⟩ := mA (p := p) (σ := σ.make 0 ⟨f, most, max (σ.c.un / w.toNat) 1⟩) (R := blk b (.cells false [vp p, vp x]) * (blk b2 (.cells false (gf.cells σ.c)) * (bQ x (σ.make 0 ⟨f, most, max (σ.c.un / w.toNat) 1⟩) * R))) (H := H8) h8.to;unfold aJ at k8;refine gs ?_;refine av k8 ae rfl ?_;refine gs ?_;refine av k8 aE rfl ?_;refine gs ?_;refine aa (ks (by omega)) ?_;refine gs ?_;refine av k8 aE rfl ?_;refine gs ?_;refine aa (OM (by omega) (by omega) (by omega)) ?_;refine gs ?_;refine ag k8 (Ys gp.tb gp.m σ.c.sh.toNat σ.c.sl.toNat (σ.make 0 ⟨f, most, max (σ.c.un / w.toNat) 1⟩).μ 0 (f.tmod σ.c.sh) (f.tdiv σ.c.sh) f σ.obs.length (by simp [az.make]; omega) hf (by omega)) fun _ H9 k9 => ?_
 have h9 : ac (fj p (σ.lay f w most) * (blk b (.cells false [vp p, vp x]) * (blk b2 (.cells false (gf.cells σ.c)) * (bQ x (σ.make 0 ⟨f, most, max (σ.c.un / w.toNat) 1⟩) * R)))) H9 := by
  refine oP gp hgp ?_;unfold aJ;exact k9.to
 refine gs ?_;refine av h9 aE rfl ?_;obtain ⟨gx, hgx, l9⟩ := iw (p := x) (σ := σ.make 0 ⟨f, most, max (σ.c.un / w.toNat) 1⟩) (R := blk b (.cells false [vp p, vp x]) * (blk b2 (.cells false (gf.cells σ.c)) * (fj p (σ.lay f w most) * R))) (H := H9) h9.to;unfold ay at l9;refine gs ?_;refine av l9 ae rfl ?_;refine gs ?_;refine av l9 aE rfl ?_;refine gs ?_;refine aa (ks (by omega)) ?_;refine gs ?_;refine av l9 aE rfl ?_;refine gs ?_;refine aa (OM (by omega) (by omega) (by omega)) ?_;refine gs ?_;refine ag l9 (ajG gx.tb gx.m σ.c.sh.toNat σ.c.sl.toNat (σ.make 0 ⟨f, most, max (σ.c.un / w.toNat) 1⟩).μ 0 (f.tmod σ.c.sh) (f.tdiv σ.c.sh) f σ.obs.length (by simp [az.make]; omega) hf (by omega)) fun _ H10 l10 => ?_
 have h10 : ac (bQ x (σ.lay f w most) * (blk b (.cells false [vp p, vp x]) * (blk b2 (.cells false (gf.cells σ.c)) * (fj p (σ.lay f w most) * R)))) H10 := by
  refine eK gx ⟨hgx.1, hgx.2.1, dZ hgx.2.2 (by simp [az.lay, az.make])⟩ ?_;unfold ay;have l11 := oK (L' := σ.μ.N + 2 + 2) (by omega) (ac.fr (A := gZ gx.ib gx.m σ.c.sh σ.nx (σ.μ.N + 2)) l10);exact l11.to
 refine gs ?_;exact aq ⟨(), rfl, h10.to⟩
end
def az.made (c : gf) : Nat → az
 | 0 => az.new c
 | f + 1 => if (f : Int).tdiv c.sh < c.sl then (az.made c f).lay f (1 + f) (2 + (f : Int).tmod 2) else az.made c f
theorem xf (c : gf) : ∀ n, (az.made c n).c = c ∧ (az.made c n).μ.N ≤ 4 * n ∧ (az.made c n).obs.length ≤ n := by
 intro n
 induction n with
 | zero => exact ⟨rfl, bj _, bj _⟩
 | succ n ih =>
  obtain ⟨h1, h2, h3⟩ := ih;unfold az.made
  split
  ·refine ⟨h1, ?_, ?_⟩
   ·simp [az.lay, az.make]; omega
   ·simp [az.lay, az.make]; omega
  ·exact ⟨h1, by omega, by omega⟩
theorem lW (b : Nat) : aj .ptr .eql (vp b) (.pointer none) = some (vb false) := rfl
theorem acV (c0 : gf) (n : Nat) (hn : n ≤ 16) : Sp tG [.agg (gf.cells c0).toArray, vi n] emp (fun g : Nat × Nat × gf => .tuple #[.agg [vp g.1, vp g.2.1].toArray, vb true])
 (fun g => pu (ci g.2.2 = true) * (fj g.1 (az.made g.2.2 n) * bQ g.2.1 (az.made g.2.2 n))) := by
 refine aX (Ks _ _) fun R H h => ?_;refine a8 h fun b H1 h1 => ?_;refine bm h1 fun b2 H2 h2 => ?_;refine a7 h2 ?_;refine ag h2 (KS c0) fun c H3 h3 => ?_;rw [ac.pu] at h3;obtain ⟨hc, h3⟩ := h3;refine fm h3 rfl rfl fun H4 h4 => ?_;refine a7 h4 ?_;refine ag h4 (OD c hc) fun p H5 h5 => ?_;refine aa (v := vp p) rfl ?_;refine aa (v := vi 0) rfl ?_;refine aa (yC rfl) ?_;refine gs ?_;refine aa (lW _) ?_;refine gs ?_;obtain ⟨g, hg, k5⟩ := mA (p := p) (σ := az.new c) (R := blk b2 (.cells false [.pointer none, .pointer none]) * (blk b (.cells false (gf.cells c)) * R)) (H := H5) h5.to;unfold aJ at k5;refine av k5 ae rfl ?_;refine gs ?_;refine aa (lW _) ?_;refine gs ?_;refine av k5 ae rfl ?_;refine gs ?_;refine aa (lW _) ?_;refine gs ?_;refine av k5 ae rfl ?_;refine gs ?_;refine aa (lW _) ?_;refine gs ?_;refine av k5 ae rfl ?_;refine gs ?_;refine aa (lW _) ?_;refine gs ?_;refine av k5 ae rfl ?_;refine gs ?_;refine aa (lW _) ?_;refine gs ?_;refine a7 h5 ?_;refine ag h5 (Ij c hc) fun x H6 h6 => ?_;refine kP ?_;refine bm h6 fun b3 H7 h7 => ?_;refine fm h7 rfl rfl fun H8 h8 => ?_;refine ah (Ci _ _ _ _ _ H8) ?_;refine ah (Ck _ _ _ _ _ _ H8) ?_;have hr := bV.1 hc;have loop : ∀ (d i : Nat) (H : AH), i + d = n → ac (blk b3 (.cells false [vp p, vp x]) * (blk b2 (.cells false [.pointer none, .pointer none]) * (blk b (.cells false (gf.cells c)) * (fj p (az.made c i) * (bQ x (az.made c i) * R))))) H →
  wp (mp (vi n) (vp b) (vp b2) (vb false) (vp b3) (vi i) H) fun v' H' => ∃ g : Nat × Nat × gf, v' = .tuple #[.agg [vp g.1, vp g.2.1].toArray, vb true] ∧ ac (pu (ci g.2.2 = true) * (fj g.1 (az.made g.2.2 n) * bQ g.2.1 (az.made g.2.2 n)) * R) H' := by
  intro d
  induction d with
  | zero =>
   intro i H hi h;refine ah (qu _ _ _ _ _ _ H) ?_;refine aa (bu (by omega)) ?_;refine gs ?_;refine ah (w4 _ _ _ H) ?_;refine ah (Cj _ _ _ H) ?_;refine a7 h ?_;refine fm h rfl rfl fun H2 h2 => ?_;refine a7 h2 ?_;refine aq ⟨(p, x, c), rfl, ?_⟩;rw [ar, ac.pu]
   have e : i = n := by omega
   subst e;exact ⟨hc, h2.to⟩
  | succ d ih =>
   intro i H hi h;obtain ⟨m1, m2, m3⟩ := xf c i;have q0 : 0 ≤ (i : Int).tdiv c.sh := Int.tdiv_nonneg (by omega) (by omega);have q1 : (i : Int).tdiv c.sh ≤ i := Int.tdiv_le_self _ (by omega);have t0 : 0 ≤ (i : Int).tmod 2 := Int.tmod_nonneg _ (by omega);have t1 : (i : Int).tmod 2 < 2 := Int.tmod_lt_of_pos _ (by omega);have next : ∀ {H : AH}, ac (blk b3 (.cells false [vp p, vp x]) * (blk b2 (.cells false [.pointer none, .pointer none]) * (blk b (.cells false (gf.cells c)) * (fj p (az.made c (i + 1)) * (bQ x (az.made c (i + 1)) * R))))) H →
    wp (qv (vi n) (vp b) (vp b2) (vb false) (vp b3) (vi i) H) fun v' H' => ∃ g : Nat × Nat × gf, v' = .tuple #[.agg [vp g.1, vp g.2.1].toArray, vb true] ∧ ac (pu (ci g.2.2 = true) * (fj g.1 (az.made g.2.2 n) * bQ g.2.1 (az.made g.2.2 n)) * R) H' := by
    intro H h;refine ah (Cn _ _ _ _ _ _ H) ?_;refine aa (aB (by omega) (by omega)) ?_;exact ih (i + 1) H (by omega) h
   refine ah (qu _ _ _ _ _ _ H) ?_;refine aa (bO (by omega)) ?_;refine gs ?_;refine ah (Cm _ _ _ _ _ _ H) ?_;refine av h aE rfl ?_;refine aa (OM (by omega) (by omega) (by omega)) ?_;refine av h aE rfl ?_
   by_cases hf : (i : Int).tdiv c.sh < c.sl
   ·have e : az.made c (i + 1) = (az.made c i).lay i (1 + i) (2 + (i : Int).tmod 2) := by show (if _ then _ else _) = _; rw [if_pos hf]
    rw [e] at next;refine aa (bO hf) ?_;refine gs ?_;refine a7 h ?_;refine gs ?_;refine aa (aB (by omega) (by omega)) ?_;refine gs ?_;refine aa (ks (by omega)) ?_;refine gs ?_;refine aa (aB (by omega) (by omega)) ?_;refine gs ?_;refine ag h (ai0 p (az.made c i) x i (1 + i) (2 + (i : Int).tmod 2) (by rw [m1]; exact hc) (by omega) (by omega) (by omega) (by omega)) fun _ H2 h2 => ?_;refine gs ?_;rw [Bool.not_true];refine gs ?_;exact next h2.to
   ·have e : az.made c (i + 1) = az.made c i := by show (if _ then _ else _) = _; rw [if_neg hf]
    rw [e] at next;refine aa (bu hf) ?_;refine gs ?_;exact next h
 exact loop n 0 H8 (by omega) (show ac (blk b3 (.cells false [vp p, vp x]) * (blk b2 (.cells false [.pointer none, .pointer none]) * (blk b (.cells false (gf.cells c)) * (fj p (az.new c) * (bQ x (az.new c) * R))))) H8 from h8.to)
theorem LP {o : Nat} {x : Value} {k : Value → OV} {Q : Value → AH → Prop} (h : wp (k undef) Q) : wp (yX (vb false) true [.n, .f o] x k) Q := h
theorem LQ {p : List Stp} {x : Value} {k : Value → OV} {Q : Value → AH → Prop} (h : wp (ad p x k) Q) : wp (yX (vb true) true p x k) Q := by rw [qn]; exact h
section
variable {m i rp : Nat} {cs : List Pk} {R : SP} {H : AH}
theorem bi (h : ac (bW m i rp cs * R) H) : ∃ cv, ac (blk rp (.cells false [vp m, vi i, cv]) * (ts 3 Pk.cells cv cs * R)) H := by
 obtain ⟨cv, h1⟩ := ac.ex.1 h;exact ⟨cv, h1.to⟩
theorem qU {cv : Value} (h : ac (blk rp (.cells false [vp m, vi i, cv]) * (ts 3 Pk.cells cv cs * R)) H) : ac (bW m i rp cs * R) H :=
 ac.ex.2 ⟨cv, h.to⟩
theorem eM (h : ac (cE m i rp cs * R) H) : ∃ cv, ac (blk rp (.cells false [vp m, vi i, vi cs.length, cv]) * (ts 3 Pk.cells cv cs * R)) H := by
 obtain ⟨cv, h1⟩ := ac.ex.1 h;exact ⟨cv, h1.to⟩
theorem mD {cv : Value} (h : ac (blk rp (.cells false [vp m, vi i, vi cs.length, cv]) * (ts 3 Pk.cells cv cs * R)) H) : ac (cE m i rp cs * R) H :=
 ac.ex.2 ⟨cv, h.to⟩
end
section
variable (m i rp : Nat) (cs : List Pk) (μ : Mu)
theorem oU (kind cell : Int) : Sp cr [vp rp, vi kind, vi cell] (bW m i rp cs) (fun _ : Unit => dM (kind, (i : Int), cell)) (fun _ => bW m i rp cs) := by
 refine aZ fun R H h => ?_;obtain ⟨cv, h0⟩ := bi h;refine bf (fun r => zC _ _ _ H) ?_;refine bm h0 fun b H1 h1 => ?_;refine av h1 ae rfl ?_;refine kP ?_;refine fm h1 rfl rfl fun H2 h2 => ?_;refine a7 h2 ?_;exact aq ⟨(), rfl, qU (cv := cv) h2.to⟩
theorem Fv (who : Int) (hE : μ.N < 1099511627000) : Sp f7 [vp rp, vi who] (bW m i rp cs * bh m μ) (fun _ : Unit => vu (μ.V (11, (i : Int), 0))) (fun _ => bW m i rp cs * bh m (μ.acc who 1 (11, (i : Int), 0))) := by
 refine aZ fun R H h => ?_;obtain ⟨cv, h0⟩ := bi (m := m) (i := i) (rp := rp) (cs := cs) (R := bh m μ * R) (H := H) h.to;refine bf (fun r => vY _ _ H) ?_;refine bp ae ?_;refine aL h0 rfl ?_;refine ag h (oU m i rp cs 11 0) fun _ H1 h1 => ?_;obtain ⟨cv1, k1⟩ := bi h1;refine aI k1 h0 (by rfl) ?_;refine ag h1 (xr m μ who (11, (i : Int), 0) (by omega)) fun _ H2 h2 => ?_;exact aq ⟨(), rfl, h2.to⟩
theorem Ft (who : Int) (hE : μ.N < 1099511627000) : Sp f5 [vp rp, vi who] (bW m i rp cs * bh m μ) (fun _ : Unit => vu (μ.V (12, (i : Int), 0))) (fun _ => bW m i rp cs * bh m (μ.acc who 1 (12, (i : Int), 0))) := by
 refine aZ fun R H h => ?_;obtain ⟨cv, h0⟩ := bi (m := m) (i := i) (rp := rp) (cs := cs) (R := bh m μ * R) (H := H) h.to;refine bf (fun r => vV _ _ H) ?_;refine bp ae ?_;refine aL h0 rfl ?_;refine ag h (oU m i rp cs 12 0) fun _ H1 h1 => ?_;obtain ⟨cv1, k1⟩ := bi h1;refine aI k1 h0 (by rfl) ?_;refine ag h1 (xr m μ who (12, (i : Int), 0) (by omega)) fun _ H2 h2 => ?_;exact aq ⟨(), rfl, h2.to⟩
def mn (w h k : Nat) : Bool := decide (h ≤ ax w ∧ k ≤ ax w - h)
theorem Fs (w h : Nat) (hw : w < 18446744073709551616) (hc : cs.length < 1000) : Sp f4 [vp rp, vu w, vu h] (bW m i rp cs) (fun _ : Unit => vb (mn w h cs.length)) (fun _ => bW m i rp cs) := by
 refine aZ fun R H hh => ?_;have hl := ej w;refine bf (fun r => vU _ _ _ H) ?_;refine ag hh (jF w hw) fun _ H1 h1 => ?_
 by_cases hle : h ≤ ax w
 ·refine aa (yw (by omega)) ?_
  refine gs ?_;refine aa (Er hle (by omega)) ?_;obtain ⟨cv, h2⟩ := bi (m := m) (i := i) (rp := rp) (cs := cs) (R := R) (H := H1) h1.to;refine gs ?_;refine av h2 ae rfl ?_;refine gs ?_;refine ge (s := cv) (l := cs) h2 ?_;refine gs ?_;refine aa (cP (by omega) (by omega)) ?_;rw [show ((cs.length : Nat) : Int).toNat = cs.length from nK _];refine gs ?_
  by_cases hk : cs.length ≤ ax w - h
  ·refine aa (yw (by omega)) ?_
   refine gs ?_;exact aq ⟨(), by rw [mn, iy ⟨hle, hk⟩], h1.to⟩
  ·refine aa (nH (by omega)) ?_
   refine gs ?_;exact aq ⟨(), by rw [mn, gU (fun q => hk q.2)], h1.to⟩
 ·refine aa (nH (by omega)) ?_
  refine gs ?_;exact aq ⟨(), by rw [mn, gU (fun q => hle q.1)], h1.to⟩
abbrev Mu.turn (μ : Mu) (who : Int) (i w : Nat) (o : Option Nat) : Mu := match o with
 | none => μ
 | some n => μ.swp who (11, (i : Int), 0) w n
def cY (μ : Mu) (i w : Nat) (o : Option Nat) : Bool := o.isSome && decide (μ.V (11, (i : Int), 0) = w)
theorem XG (who : Int) (w fn : Nat) (o : Option Nat) (hf : Sp fn [vu w] emp (fun _ : Unit => On o) (fun _ => emp)) (hE : μ.N < 1099511627000) :
 Sp jC [vp rp, vi who, vu w, .func (.func fn) #[] #[]] (bW m i rp cs * bh m μ) (fun _ : Unit => vb (cY μ i w o)) (fun _ => bW m i rp cs * bh m (μ.turn who i w o)) := by
 refine aX (vZ _ _ _ _) fun R H h => ?_;refine ah (show (b5 (.func (.func fn) #[] #[]) [vu w]).bind _ = _ from rfl) ?_;refine ag h hf fun _ H1 h1 => ?_
 cases o with
 | none =>
  refine aa (v := vw 0) rfl ?_;refine aa (v := vb false) rfl ?_;refine gs ?_;refine LP ?_;refine gs ?_;refine DE rfl ?_;refine gs ?_;exact aq ⟨(), rfl, h1.to⟩
 | some n =>
  refine aa (v := vu n) rfl ?_;refine aa (v := vb true) rfl ?_;refine gs ?_;refine LQ ?_;obtain ⟨cv, k1⟩ := bi (m := m) (i := i) (rp := rp) (cs := cs) (R := bh m μ * R) (H := H1) h1.to;refine bp ae ?_;refine gs ?_;refine aL k1 rfl ?_;refine gs ?_;refine ag h1 (oU m i rp cs 11 0) fun _ H2 h2 => ?_;obtain ⟨cv2, k2⟩ := bi (m := m) (i := i) (rp := rp) (cs := cs) (R := bh m μ * R) (H := H2) h2.to;refine aI k2 k1 (by rfl) ?_;refine gs ?_;refine ag h2 (Oz m μ who (11, (i : Int), 0) w n (by omega)) fun _ H3 h3 => ?_;refine gs ?_;exact aq ⟨(), rfl, h3.to⟩
theorem C5 (who : Int) (w : Nat) (hw : w < 18446744073709551616) (hE : μ.N < 1099511627000) : Sp fC [vp rp, vi who, vu w] (bW m i rp cs * bh m μ) (fun _ : Unit => vb (cY μ i w (aR w 0))) (fun _ => bW m i rp cs * bh m (μ.turn who i w (aR w 0))) := by
 refine aX (t6 _ _ _) fun R H h => ?_;refine ag h (XG m i rp cs μ who w mv (aR w 0) (Yz w hw) hE) fun _ H1 h1 => ?_;exact aq ⟨(), rfl, h1.to⟩
end
section
variable (m i rp : Nat) (cs : List Pk) (μ : Mu)
theorem Qa (who : Int) (hE : μ.N < 1099511627000) : Sp kg [vp rp, vi who] (cE m i rp cs * bz m μ) (fun _ : Unit => vu (μ.V (11, (i : Int), 0))) (fun _ => cE m i rp cs * bz m (μ.acc who 1 (11, (i : Int), 0))) := by
 refine aZ fun R H h => ?_;obtain ⟨cv, h0⟩ := eM (m := m) (i := i) (rp := rp) (cs := cs) (R := bz m μ * R) (H := H) h.to;refine bf (fun r => xH _ _ H) ?_;refine bp ae ?_;refine aL h0 rfl ?_;refine av h0 ae rfl ?_;refine ag h0 (dH 11 (i : Int) 0) fun _ H1 h1 => ?_;refine aI h1 h0 (by rfl) ?_;refine ag h1 (qS m μ who (11, (i : Int), 0) (by omega)) fun _ H2 h2 => ?_;exact aq ⟨(), rfl, (mD (m := m) (i := i) (rp := rp) (cs := cs) (cv := cv) (R := bz m (μ.acc who 1 (11, (i : Int), 0)) * R) h2.to).to⟩
theorem DO (who : Int) (hE : μ.N < 1099511627000) : Sp gP [vp rp, vi who] (cE m i rp cs * bz m μ) (fun _ : Unit => vu (μ.V (12, (i : Int), 0))) (fun _ => cE m i rp cs * bz m (μ.acc who 1 (12, (i : Int), 0))) := by
 refine aZ fun R H h => ?_;obtain ⟨cv, h0⟩ := eM (m := m) (i := i) (rp := rp) (cs := cs) (R := bz m μ * R) (H := H) h.to;refine bf (fun r => xE _ _ H) ?_;refine bp ae ?_;refine aL h0 rfl ?_;refine av h0 ae rfl ?_;refine ag h0 (dH 12 (i : Int) 0) fun _ H1 h1 => ?_;refine aI h1 h0 (by rfl) ?_;refine ag h1 (qS m μ who (12, (i : Int), 0) (by omega)) fun _ H2 h2 => ?_;exact aq ⟨(), rfl, (mD (m := m) (i := i) (rp := rp) (cs := cs) (cv := cv) (R := bz m (μ.acc who 1 (12, (i : Int), 0)) * R) h2.to).to⟩
theorem DN (w h : Nat) (hw : w < 18446744073709551616) (hc : cs.length < 1000) : Sp gO [vp rp, vu w, vu h] (cE m i rp cs) (fun _ : Unit => vb (mn w h cs.length)) (fun _ => cE m i rp cs) := by
 refine aZ fun R H hh => ?_;have hl := ej w;refine bf (fun r => xD _ _ _ H) ?_;refine ag hh (nY w hw) fun _ H1 h1 => ?_;refine aa (v := vu (ax w)) rfl ?_;refine aa (v := vi (aS w)) rfl ?_;refine aa (v := vb (cB w)) rfl ?_
 by_cases hle : h ≤ ax w
 ·refine aa (yw (by omega)) ?_
  refine gs ?_;refine aa (Er hle (by omega)) ?_;obtain ⟨cv, h2⟩ := eM (m := m) (i := i) (rp := rp) (cs := cs) (R := R) (H := H1) h1.to;refine gs ?_;refine av h2 ae rfl ?_;refine gs ?_;refine aa (cP (by omega) (by omega)) ?_;rw [show ((cs.length : Nat) : Int).toNat = cs.length from nK _];refine gs ?_
  by_cases hk : cs.length ≤ ax w - h
  ·refine aa (yw (by omega)) ?_
   refine gs ?_;exact aq ⟨(), by rw [mn, iy ⟨hle, hk⟩], h1.to⟩
  ·refine aa (nH (by omega)) ?_
   refine gs ?_;exact aq ⟨(), by rw [mn, gU (fun q => hk q.2)], h1.to⟩
 ·refine aa (nH (by omega)) ?_
  refine gs ?_;exact aq ⟨(), by rw [mn, gU (fun q => hle q.1)], h1.to⟩
theorem P9 (who : Int) (w how : Nat) (hh : how < 3) (hw : w < 18446744073709551616) (hE : μ.N < 1099511627000) :
 Sp kf [vp rp, vi who, vu w, vi (how : Int)] (cE m i rp cs * bz m μ) (fun _ : Unit => vb (cY μ i w (aR w how))) (fun _ => cE m i rp cs * bz m (μ.turn who i w (aR w how))) := by
 refine aX (xG _ _ _ _) fun R H h => ?_;refine ag h (OO w how hw hh) fun _ H1 h1 => ?_
 generalize aR w how = o at h1 ⊢
 cases o with
 | none =>
  refine aa (v := vw 0) rfl ?_;refine aa (v := vb false) rfl ?_;refine gs ?_;refine LP ?_;refine gs ?_;refine DE rfl ?_;refine gs ?_;exact aq ⟨(), rfl, h1.to⟩
 | some n =>
  refine aa (v := vu n) rfl ?_;refine aa (v := vb true) rfl ?_;refine gs ?_;refine LQ ?_;obtain ⟨cv, k1⟩ := eM (m := m) (i := i) (rp := rp) (cs := cs) (R := bz m μ * R) (H := H1) h1.to;refine bp ae ?_;refine gs ?_;refine aL k1 rfl ?_;refine gs ?_;refine av k1 ae rfl ?_;refine gs ?_;refine ag k1 (dH 11 (i : Int) 0) fun _ H2 k2 => ?_;refine aI k2 k1 (by rfl) ?_;refine gs ?_;refine ag k2 (CV m μ who (11, (i : Int), 0) w n (by omega)) fun _ H3 k3 => ?_;refine gs ?_;refine aq ⟨(), rfl, ?_⟩;have h3 := mD (m := m) (i := i) (rp := rp) (cs := cs) (cv := cv) (R := bz m (μ.swp who (11, (i : Int), 0) w n) * R) (H := H3) k3.to;exact h3.to
end
section
variable (m i rp : Nat) (cs : List Pk) (μ : Mu)
theorem r7 (n : Nat) (h0 : 1 ≤ cs.length ∧ cs.length < 1000) : Sp bx [vp rp, vu n] (bW m i rp cs) (fun _ : Unit => vi ((n % cs.length : Nat) : Int)) (fun _ => bW m i rp cs) := by
 have hlt : n % cs.length < cs.length := Nat.mod_lt _ (by omega);refine aZ fun R H h => ?_;obtain ⟨cv, k⟩ := bi h;refine bf (fun r => iX _ _ H) ?_;refine av k ae rfl ?_;refine fq (s := cv) (l := cs) k ?_;refine aa (cP (by omega) (by omega)) ?_;rw [show ((cs.length : Nat) : Int).toNat = cs.length from nK _];refine aa (ip (by omega)) ?_;refine aa (fV (by omega)) ?_;exact aq ⟨(), rfl, h⟩
theorem P8 (n : Nat) (h0 : 1 ≤ cs.length ∧ cs.length < 1000) : Sp dw [vp rp, vu n] (cE m i rp cs) (fun _ : Unit => vi ((n % cs.length : Nat) : Int)) (fun _ => cE m i rp cs) := by
 have hlt : n % cs.length < cs.length := Nat.mod_lt _ (by omega);refine aZ fun R H h => ?_;obtain ⟨cv, k⟩ := eM h;refine bf (fun r => nZ _ _ H) ?_;refine av k ae rfl ?_;refine aa (cP (by omega) (by omega)) ?_;rw [show ((cs.length : Nat) : Int).toNat = cs.length from nK _];refine aa (ip (by omega)) ?_;refine aa (fV (by omega)) ?_;exact aq ⟨(), rfl, h⟩
theorem Fu (who : Int) (n : Nat) (hn : n < 18446744073709551615) (h0 : 1 ≤ cs.length ∧ cs.length < 1000) (hE : μ.N < 1099511627000) :
 Sp f6 [vp rp, vi who, vu n] (bW m i rp cs * bh m μ) (fun _ : Unit => .tuple #[]) (fun _ => bW m i rp cs * bh m ((μ.acc who 2 (15, (i : Int), ((n % cs.length : Nat) : Int))).put (15, (i : Int), ((n % cs.length : Nat) : Int)) (n + 1))) := by
 refine aZ fun R H h => ?_;obtain ⟨cv, k0⟩ := bi (m := m) (i := i) (rp := rp) (cs := cs) (R := bh m μ * R) (H := H) h.to;refine bf (fun r => vX _ _ _ H) ?_;refine bp ae ?_;refine aL k0 rfl ?_;refine ag h (r7 m i rp cs n h0) fun _ H1 h1 => ?_;obtain ⟨cv1, k1⟩ := bi h1;refine aI k1 k0 (by rfl) ?_;refine ag h1 (oU m i rp cs 15 ((n % cs.length : Nat) : Int)) fun _ H2 h2 => ?_;obtain ⟨cv2, k2⟩ := bi h2;refine aI k2 k0 (by rfl) ?_;refine aa (dt (b := 1) (by omega)) ?_;refine ag h2 (HY m μ who (15, (i : Int), ((n % cs.length : Nat) : Int)) (n + 1) (by omega)) fun _ H3 h3 => ?_;exact aq ⟨(), rfl, h3.to⟩
theorem DP (who : Int) (n : Nat) (hn : n < 18446744073709551615) (h0 : 1 ≤ cs.length ∧ cs.length < 1000) (hE : μ.N < 1099511627000) :
 Sp gQ [vp rp, vi who, vu n] (cE m i rp cs * bz m μ) (fun _ : Unit => .tuple #[]) (fun _ => cE m i rp cs * bz m ((μ.acc who 2 (15, (i : Int), ((n % cs.length : Nat) : Int))).put (15, (i : Int), ((n % cs.length : Nat) : Int)) (n + 1))) := by
 refine aZ fun R H h => ?_;obtain ⟨cv, k0⟩ := eM (m := m) (i := i) (rp := rp) (cs := cs) (R := bz m μ * R) (H := H) h.to;refine bf (fun r => xF _ _ _ H) ?_;refine bp ae ?_;refine aL k0 rfl ?_;refine bp ae ?_;refine aL k0 rfl ?_;refine ag h (P8 m i rp cs n h0) fun _ H1 h1 => ?_;obtain ⟨cv1, k1⟩ := eM h1;refine aI k1 k0 (by rfl) ?_;refine aI k1 k0 (by rfl) ?_;refine ag h1 (dH 15 (i : Int) ((n % cs.length : Nat) : Int)) fun _ H2 h2 => ?_;obtain ⟨cv2, k2⟩ := eM (m := m) (i := i) (rp := rp) (cs := cs) (R := bz m μ * R) (H := H2) h2.to;refine aI k2 k0 (by rfl) ?_;refine aa (dt (b := 1) (by omega)) ?_;refine ag h2 (xM m μ who (15, (i : Int), ((n % cs.length : Nat) : Int)) (n + 1) (by omega)) fun _ H3 h3 => ?_;exact aq ⟨(), rfl, h3.to⟩
theorem aeW (who : Int) (n : Nat) (x : Pk) (h0 : 1 ≤ cs.length ∧ cs.length < 1000) (hE : μ.N < 1099511627000) :
 Sp ko [vp rp, vi who, vu n, .agg (Pk.cells x).toArray] (bW m i rp cs * bh m μ) (fun _ : Unit => .tuple #[]) (fun _ => bW m i rp (cs.set (n % cs.length) x) * bh m (μ.acc who 6 (16, (i : Int), ((n % cs.length : Nat) : Int)))) := by
 have hlt : n % cs.length < cs.length := Nat.mod_lt _ (by omega);refine aX (xR _ _ _ _) fun R H h => ?_;refine a8 h fun b H1 h1 => ?_;obtain ⟨cv, k1⟩ := bi (m := m) (i := i) (rp := rp) (cs := cs) (R := bh m μ * (blk b (.cells false (Pk.cells x)) * R)) (H := H1) h1.to;refine bp ae ?_;refine aL k1 rfl ?_;refine ag h1 (r7 m i rp cs n h0) fun _ H2 h2 => ?_;obtain ⟨cv2, k2⟩ := bi h2;refine aI k2 k1 (by rfl) ?_;refine ag h2 (oU m i rp cs 16 ((n % cs.length : Nat) : Int)) fun _ H3 h3 => ?_;obtain ⟨cv3, k3⟩ := bi h3;refine aI k3 k1 (by rfl) ?_;refine ag h3 ((xj m μ who (16, (i : Int), ((n % cs.length : Nat) : Int)) (by omega)).imp fun _ R H h => iI (N' := μ.N + 2) (by simp) h) fun _ H4 h4 => ?_;obtain ⟨cv4, k4⟩ := bi (m := m) (i := i) (rp := rp) (cs := cs) (R := bh m (μ.acc who 6 (16, (i : Int), ((n % cs.length : Nat) : Int))) * (blk b (.cells false (Pk.cells x)) * R)) (H := H4) h4.to;refine bp ae ?_;refine aL k4 rfl ?_
 -- a cell is told once more, of the same ring
 have again : ∀ {k : Value × AH → OV} {Q : Value → AH → Prop}, (∀ H5, ac (blk rp (.cells false [vp m, vi i, cv4]) * (ts 3 Pk.cells cv4 cs * (bh m (μ.acc who 6 (16, (i : Int), ((n % cs.length : Nat) : Int))) * (blk b (.cells false (Pk.cells x)) * R)))) H5 → wp (k (vi ((n % cs.length : Nat) : Int), H5)) Q) → wp ((FF bx [vp rp, vu n] H4).bind k) Q := by
  intro k Q hk
  have cell4 : Sp bx [vp rp, vu n] (blk rp (.cells false [vp m, vi i, cv4]) * ts 3 Pk.cells cv4 cs) (fun _ : Unit => vi ((n % cs.length : Nat) : Int)) (fun _ => blk rp (.cells false [vp m, vi i, cv4]) * ts 3 Pk.cells cv4 cs) := by
   refine aX (iX _ _) fun R H h => ?_;refine av h ae rfl ?_;refine fq (s := cv4) (l := cs) h ?_;refine aa (cP (by omega) (by omega)) ?_;rw [show ((cs.length : Nat) : Int).toNat = cs.length from nK _];refine aa (ip (by omega)) ?_;refine aa (fV (by omega)) ?_;exact aq ⟨(), rfl, h⟩
  exact ag k4 cell4 fun _ H5 h5 => hk H5 h5.to
 refine again fun H5 k5 => ?_;refine aI k5 k4 (by rfl) ?_;refine a7 k5 ?_;refine en k4 k5 rfl ?_;refine DH (s := cv4) (l := cs) (i := n % cs.length) x k5 hlt (.inl ⟨rfl, rfl⟩) rfl (by omega) rfl rfl fun H6 k6 => ?_;refine aq ⟨(), rfl, ?_⟩;have h6 := qU (m := m) (i := i) (rp := rp) (cs := cs.set (n % cs.length) x) (cv := cv4) (R := bh m (μ.acc who 6 (16, (i : Int), ((n % cs.length : Nat) : Int))) * R) (H := H6) k6.to;exact h6.to
end
theorem wh (k a : Int) : Sp be [vi k, vi a] emp (fun _ : Unit => dM (k, a, 0)) (fun _ => emp) := by
 refine aX (wY _ _) fun R H h => ?_;refine bm h fun b H1 h1 => ?_;refine kP ?_;refine fm h1 rfl rfl fun H2 h2 => ?_;refine a7 h2 ?_;exact aq ⟨(), rfl, h2.to⟩
abbrev Mu.cnt (μ : Mu) (who : Int) (at' : b7) (n : Nat) : Mu := (μ.acc who 3 at').put at' ((μ.V at' + n) % 18446744073709551616)
section
variable (ib m nm : Nat) (c : gf) (nx : Int → Option Nat) (μ : Mu) (who : Int)
theorem Kq (hE : μ.N < 1099511627000) : Sp gm [vp ib, vi who] (kG ib m nm c nx * bh m μ) (fun _ : Unit => .tuple #[]) (fun _ => kG ib m nm c nx * bh m (μ.cnt who (3, 0, 0) 4294967296)) := by
 refine aX (qp _ _) fun R H h => ?_;unfold kG at h ⊢;refine bp ae ?_;refine aL h rfl ?_;refine ag h (wh 3 0) fun _ H1 h1 => ?_;refine aI h1 h (by rfl) ?_;refine ag h1 (ak4 m μ who (3, 0, 0) 4294967296 (by omega)) fun _ H2 h2 => ?_;exact aq ⟨(), rfl, h2.to⟩
theorem EX (hE : μ.N < 1099511627000) : Sp fy [vp ib, vi who] (kG ib m nm c nx * bh m μ) (fun _ : Unit => .tuple #[]) (fun _ => kG ib m nm c nx * bh m (μ.cnt who (3, 0, 0) 1)) := by
 refine aX (tp _ _) fun R H h => ?_;unfold kG at h ⊢;refine bp ae ?_;refine aL h rfl ?_;refine ag h (wh 3 0) fun _ H1 h1 => ?_;refine aI h1 h (by rfl) ?_;refine ag h1 (ak4 m μ who (3, 0, 0) 1 (by omega)) fun _ H2 h2 => ?_;exact aq ⟨(), rfl, h2.to⟩
theorem WJ (s : Int) (hE : μ.N < 1099511627000) : Sp iK [vp ib, vi who, vi s] (kG ib m nm c nx * bh m μ) (fun _ : Unit => vu (μ.V (9, s, 0))) (fun _ => kG ib m nm c nx * bh m (μ.acc who 1 (9, s, 0))) := by
 refine aX (tq _ _ _) fun R H h => ?_;unfold kG at h ⊢;refine bp ae ?_;refine aL h rfl ?_;refine av h ae rfl ?_;refine ah (show (b5 (.func (.func be) #[vi 9] #[]) [vi s]).bind _ = _ from rfl) ?_;refine ag h (wh 9 s) fun _ H1 h1 => ?_;refine aI h1 h (by rfl) ?_;refine ag h1 (xr m μ who (9, s, 0) (by omega)) fun _ H2 h2 => ?_;exact aq ⟨(), rfl, h2.to⟩
theorem N2 (s : Int) (top obj : Nat) (ho : obj < 4294967296) (hE : μ.N < 1099511627000) : Sp g9 [vp ib, vi who, vi s, vu top, vi obj] (kG ib m nm c nx * bh m μ) (fun _ : Unit => vb (decide (μ.V (9, s, 0) = top))) (fun _ => kG ib m nm c nx * bh m (μ.swp who (9, s, 0) top (obj + 1))) := by
 refine aX (sa _ _ _ _ _) fun R H h => ?_;unfold kG at h ⊢;refine bp ae ?_;refine aL h rfl ?_;refine av h ae rfl ?_;refine ah (show (b5 (.func (.func be) #[vi 9] #[]) [vi s]).bind _ = _ from rfl) ?_;refine ag h (wh 9 s) fun _ H1 h1 => ?_;refine aI h1 h (by rfl) ?_;refine aa (cP (by omega) (by omega)) ?_;rw [show ((obj : Nat) : Int).toNat = obj from nK _];refine aa (dt (b := 1) (by omega)) ?_;refine ag h1 (Oz m μ who (9, s, 0) top (obj + 1) (by omega)) fun _ H2 h2 => ?_;exact aq ⟨(), rfl, h2.to⟩
theorem NZ (obj : Int) (next : Nat) (hE : μ.N < 1099511627000) : Sp g8 [vp ib, vi who, vi obj, vu next] (kG ib m nm c nx * bh m μ) (fun _ : Unit => .tuple #[]) (fun _ => kG ib m nm c (fun k => if k = obj then some next else nx k) * bh m (μ.acc who 6 (14, obj, 0))) := by
 refine aX (r9 _ _ _ _) fun R H h => ?_;unfold kG at h ⊢;refine bp ae ?_;refine aL h rfl ?_;refine av h ae rfl ?_;refine ah (show (b5 (.func (.func be) #[vi 14] #[]) [vi obj]).bind _ = _ from rfl) ?_;refine ag h (wh 14 obj) fun _ H1 h1 => ?_;refine aI h1 h (by rfl) ?_;refine ag h1 ((xj m μ who (14, obj, 0) (by omega)).imp fun _ R H h => iI (N' := μ.N + 2) (by simp) h) fun _ H2 h2 => ?_;refine av h2 ae rfl ?_;refine agM (ek := L4) obj (vu next) h2 fun H3 h3 => ?_;refine aq ⟨(), rfl, ?_⟩
 have e : (fun k => ((if k = obj then some next else nx k) : Option Nat).map fun n => vu n) = fun x => if x = obj then some (vu next) else (nx x).map fun n => vu n := by
  funext k
  split <;> rfl
 rw [e];exact h3.to
end
section
variable (ib m : Nat) (sh : Int) (nx : Int → Option Nat) (L : Nat) (μ : Mu) (who : Int)
theorem I3 (hE : μ.N < 1099511627000) : Sp iO [vp ib, vi who] (gZ ib m sh nx L * bz m μ) (fun _ : Unit => .tuple #[]) (fun _ => gZ ib m sh nx L * bz m (μ.cnt who (3, 0, 0) 4294967296)) := by
 refine aZ fun R H h => ?_;obtain ⟨kv, nv, ns, hn, h0⟩ := nL (ib := ib) (m := m) (sh := sh) (nx := nx) (L := L) (R := bz m μ * R) (H := H) h.to;refine bf (fun r => tQ _ _ H) ?_;refine bp ae ?_;refine aL h0 rfl ?_;refine ag h0 (dH 3 0 0) fun _ H1 h1 => ?_;refine aI h1 h0 (by rfl) ?_;refine ag h1 (Tg m μ who (3, 0, 0) 4294967296 (by omega)) fun _ H2 h2 => ?_;have h3 := g6 (ib := ib) (m := m) (sh := sh) (nx := nx) (L := L) (kv := kv) (nv := nv) (ns := ns) (R := bz m (μ.cnt who (3, 0, 0) 4294967296) * R) (H := H2) hn h2.to;exact aq ⟨(), rfl, h3.to⟩
theorem DL (hE : μ.N < 1099511627000) : Sp gM [vp ib, vi who] (gZ ib m sh nx L * bz m μ) (fun _ : Unit => .tuple #[]) (fun _ => gZ ib m sh nx L * bz m (μ.cnt who (3, 0, 0) 1)) := by
 refine aZ fun R H h => ?_;obtain ⟨kv, nv, ns, hn, h0⟩ := nL (ib := ib) (m := m) (sh := sh) (nx := nx) (L := L) (R := bz m μ * R) (H := H) h.to;refine bf (fun r => xx _ _ H) ?_;refine bp ae ?_;refine aL h0 rfl ?_;refine ag h0 (dH 3 0 0) fun _ H1 h1 => ?_;refine aI h1 h0 (by rfl) ?_;refine ag h1 (Tg m μ who (3, 0, 0) 1 (by omega)) fun _ H2 h2 => ?_;have h3 := g6 (ib := ib) (m := m) (sh := sh) (nx := nx) (L := L) (kv := kv) (nv := nv) (ns := ns) (R := bz m (μ.cnt who (3, 0, 0) 1) * R) (H := H2) hn h2.to;exact aq ⟨(), rfl, h3.to⟩
theorem P6 (s : Int) (hE : μ.N < 1099511627000) : Sp ka [vp ib, vi who, vi s] (gZ ib m sh nx L * bz m μ) (fun _ : Unit => vu (μ.V (9, s, 0))) (fun _ => gZ ib m sh nx L * bz m (μ.acc who 1 (9, s, 0))) := by
 refine aZ fun R H h => ?_;obtain ⟨kv, nv, ns, hn, h0⟩ := nL (ib := ib) (m := m) (sh := sh) (nx := nx) (L := L) (R := bz m μ * R) (H := H) h.to;refine bf (fun r => xy _ _ _ H) ?_;refine bp ae ?_;refine aL h0 rfl ?_;refine ag h0 (dH 9 s 0) fun _ H1 h1 => ?_;refine aI h1 h0 (by rfl) ?_;refine ag h1 (qS m μ who (9, s, 0) (by omega)) fun _ H2 h2 => ?_;have h3 := g6 (ib := ib) (m := m) (sh := sh) (nx := nx) (L := L) (kv := kv) (nv := nv) (ns := ns) (R := bz m (μ.acc who 1 (9, s, 0)) * R) (H := H2) hn h2.to;exact aq ⟨(), rfl, h3.to⟩
theorem LY (s : Int) (top obj : Nat) (ho : obj < 4294967296) (hE : μ.N < 1099511627000) : Sp jw [vp ib, vi who, vi s, vu top, vi obj] (gZ ib m sh nx L * bz m μ) (fun _ : Unit => vb (decide (μ.V (9, s, 0) = top))) (fun _ => gZ ib m sh nx L * bz m (μ.swp who (9, s, 0) top (obj + 1))) := by
 refine aZ fun R H h => ?_;obtain ⟨kv, nv, ns, hn, h0⟩ := nL (ib := ib) (m := m) (sh := sh) (nx := nx) (L := L) (R := bz m μ * R) (H := H) h.to;refine bf (fun r => vM _ _ _ _ _ H) ?_;refine bp ae ?_;refine aL h0 rfl ?_;refine ag h0 (dH 9 s 0) fun _ H1 h1 => ?_;refine aI h1 h0 (by rfl) ?_;refine aa (cP (by omega) (by omega)) ?_;rw [show ((obj : Nat) : Int).toNat = obj from nK _];refine aa (dt (b := 1) (by omega)) ?_;refine ag h1 (CV m μ who (9, s, 0) top (obj + 1) (by omega)) fun _ H2 h2 => ?_;have h3 := g6 (ib := ib) (m := m) (sh := sh) (nx := nx) (L := L) (kv := kv) (nv := nv) (ns := ns) (R := bz m (μ.swp who (9, s, 0) top (obj + 1)) * R) (H := H2) hn h2.to;exact aq ⟨(), rfl, h3.to⟩
end
theorem Ud (a : Int) {n : Int} (h : 1 ≤ n) : -n < a.tmod n ∧ a.tmod n < n := by
 have e := Int.natAbs_tmod a n;have : a.natAbs % n.natAbs < n.natAbs := Nat.mod_lt _ (by omega);omega
section
variable (t m p e : Nat) (σ : az)
theorem LD (sh sl : Nat) (hs : 1 ≤ sh ∧ sh ≤ 4) (flow : Int) : Sp gq [vp t, vi flow] (tab t m sh sl) (fun _ : Unit => vi ((flow.tmod sh + sh).tmod sh)) (fun _ => tab t m sh sl) := by
 refine aX (q7 _ _) fun R H h => ?_;unfold tab at h ⊢;have q := Ud flow (n := sh) (by omega);refine av h ae rfl ?_;refine aa (ks (by omega)) ?_;refine av h ae rfl ?_;refine aa (aB (by omega) (by omega)) ?_;refine av h ae rfl ?_;refine aa (ks (by omega)) ?_;exact aq ⟨(), rfl, h⟩
theorem ai7 (μ : Mu) : Sp gH [vp m] (bh m μ) (fun _ : Unit => vi μ.E.length) (fun _ => bh m μ) := by
 refine aZ fun R H h => ?_;obtain ⟨⟨c, l, al, es, ck⟩, h1⟩ := ac.ex.1 h;rw [ar, ac.pu] at h1;obtain ⟨hp, h1⟩ := h1;dsimp only at h1;have h2 : ac (blk m (.cells false [.map (some c), l]) * (blk c (.map es ck) * ts 5 Ev.cells l μ.E) * R) H := h1;refine bf (fun r => Cx _ H) ?_;refine av h2 ae rfl ?_;refine oX (s := l) (l := μ.E) h2 ?_;exact aq ⟨(), rfl, h⟩
theorem ux (r : Value) (x : Int) : Sp kV [r, vi x] emp (fun _ : Unit => .tuple #[.agg (n3 x).toArray, vb true]) (fun _ => emp) := by
 refine aX (MB _ _) fun R H h => ?_;refine bm h fun b H1 h1 => ?_;refine kP ?_;refine fm h1 rfl rfl fun H2 h2 => ?_;refine a7 h2 ?_;exact aq ⟨(), rfl, h2.to⟩
def dI (x : Cl) : Option Int := if x.a < 1 ∨ 65536 < x.a then some 3 else if x.flow < 0 ∨ 1048576 < x.flow then some 5 else none
end
structure Tk where
 who : Int
 x : Cl
 s : Int
 at' : Nat
 i : Nat
 obj : Nat
 found : Bool
 w : Nat
 q : Nat
 mark : Int
 top : Nat
 code : Int
abbrev az.mem (σ : az) (μ : Mu) : az := { σ with μ := μ }
def tn (v : Nat) (flow : Int) : Bool := decide (v ≠ 0 ∧ ((v / 4294967296 : Nat) : Int) - 1 = flow)
def aD (σ : az) (t : Tk) : Tk :=
 let v := σ.μ.V (10, t.s, (t.i : Int))
 { t with i := t.i + 1, found := tn v t.x.flow, obj := if tn v t.x.flow = true then v % 4294967296 else t.obj }
abbrev b6 (σ : az) (t : Tk) : az := σ.mem (σ.μ.acc t.who 1 (10, t.s, (t.i : Int)))
def cR (σ : az) (t : Tk) : Bool := decide (σ.c.sl ≤ (t.i : Int))
def am (σ : az) (o : Nat) : List Pk := ((σ.obs[o]?).map (·.2)).getD []
def g7 (σ : az) (t : Tk) : az :=
 let n := (am σ t.obj).length
 let k := ax t.w % n
 { σ with μ := σ.μ.acc t.who 6 (16, (t.obj : Int), (k : Int)), obs := σ.obs.modify t.obj fun p => (p.1, p.2.set k ⟨t.x.flow, t.x.a, t.x.b⟩) }
abbrev kC (σ : az) (t : Tk) : az :=
 let n := (am σ t.obj).length
 let k := ax t.w % n
 σ.mem ((σ.μ.acc t.who 2 (15, (t.obj : Int), (k : Int))).put (15, (t.obj : Int), (k : Int)) (ax t.w + 1))
abbrev kD (σ : az) (t : Tk) : az := σ.mem (σ.μ.acc t.who 1 (11, (t.obj : Int), 0))
abbrev iF (σ : az) (t : Tk) : az := σ.mem (σ.μ.acc t.who 1 (12, (t.obj : Int), 0))
def ku (σ : az) (t : Tk) : Bool := mn t.w (σ.μ.V (12, (t.obj : Int), 0)) (am σ t.obj).length
abbrev mZ (σ : az) (t : Tk) : az := σ.mem (σ.μ.acc t.who 1 (2, 0, 0))
def ai (σ : az) (t : Tk) (now : Int) : az × Tk × Bool :=
 let scan (σ : az) (t : Tk) : az × Tk × Bool :=
  let t1 := aD σ t
  (b6 σ t, { t1 with at' := if t1.found = true then 6 else if cR σ t1 = true then 3 else 2 }, false)
 match t.at' with
 | 0 => match dI t.x with
  | some e => (σ.note now t.who e, { t with code := e }, true)
  | none => scan σ t
 | 2 => scan σ t
 | 3 => let l : b7 := (8, t.s, 0)
  (σ.mem (σ.μ.swp t.who l 0 1), (if σ.μ.V l = 0 then { t with at' := 4, i := 0 } else t), false)
 | 4 => let t1 := aD σ t
  if t1.found = true then (b6 σ t, { t1 with at' := 5 }, false)
  else if cR σ t1 = true then ((b6 σ t).note now t.who 5, { t1 with at' := 5, code := 5 }, false)
  else (b6 σ t, t1, false)
 | 5 => let l : b7 := (8, t.s, 0)
  (σ.mem ((σ.μ.acc t.who 2 l).put l 0), { t with at' := 6 }, !t.found)
 | 6 => (σ.mem (σ.μ.acc t.who 5 (13, (t.obj : Int), 0)), { t with at' := 7 }, false)
 | 7 => let w := σ.μ.V (11, (t.obj : Int), 0)
  (kD σ t, { t with w := w, at' := if aS w = 2 then 3 else 8 }, false)
 | 8 => (iF σ t, { t with at' := if ku σ t = true then 15 else if aS t.w = 1 then 9 else 12 }, false)
 | 9 => let o := aR t.w 0
  let σ1 := σ.mem (σ.μ.turn t.who t.obj t.w o)
  if cY σ.μ t.obj t.w o = true then (σ1.note now t.who 0, { t with at' := 10, code := 0 }, false) else (σ1, { t with at' := 7 }, false)
 | 10 => (g7 σ t, { t with at' := 11 }, false)
 | 11 => (kC σ t, t, true)
 | 12 => (σ.mem (σ.μ.cnt t.who (3, 0, 0) 4294967296), { t with at' := 13 }, false)
 | 13 => let o := aR t.w 0
  let σ1 := σ.mem (σ.μ.turn t.who t.obj t.w o)
  if cY σ.μ t.obj t.w o = true then (σ1.note now t.who 0, { t with at' := 14, code := 0 }, false) else (σ1, { t with at' := 20 }, false)
 | 14 => (g7 σ t, { t with at' := 21 }, false)
 | 15 => let q := σ.μ.V (2, 0, 0)
  (mZ σ t, { t with q := q, at' := if q % 2 = 1 then 7 else 16 }, false)
 | 16 => let w := σ.μ.V (11, (t.obj : Int), 0)
  (kD σ t, { t with w := w, at' := if aS w = 2 then 3 else 17 }, false)
 | 17 => (iF σ t, (if ku σ t = true then { t with at' := 18, mark := now } else { t with at' := 7 }), false)
 | 18 => if σ.μ.V (2, 0, 0) = t.q then ((mZ σ t).note t.mark t.who 9, { t with code := 9 }, true) else (mZ σ t, { t with at' := 7 }, false)
 | 20 => (σ.mem (σ.μ.cnt t.who (3, 0, 0) 1), { t with at' := 7 }, false)
 | 21 => (kC σ t, { t with at' := 22 }, false)
 | 22 => (σ.mem (σ.μ.acc t.who 1 (9, t.s, 0)), { t with top := σ.μ.V (9, t.s, 0), at' := 23 }, false)
 | 23 => ({ σ with μ := σ.μ.acc t.who 6 (14, (t.obj : Int), 0), nx := fun k => if k = (t.obj : Int) then some t.top else σ.nx k }, { t with at' := 24 }, false)
 | 24 => let l : b7 := (9, t.s, 0)
  (σ.mem (σ.μ.swp t.who l t.top (t.obj + 1)), { t with at' := if σ.μ.V l = t.top then 25 else 22 }, false)
 | _ => (σ.mem (σ.μ.cnt t.who (3, 0, 0) 1), t, true)
def bS (p : Nat) (rp : List Nat) (σ : az) : SP := ex fun g : PIds => pu (g.rp = rp ∧ rp.length = σ.obs.length) * aJ p g σ
theorem eE {p : Nat} {rp : List Nat} {σ : az} {R : SP} {H : AH} (h : ac (bS p rp σ * R) H) : ∃ g : PIds, g.rp = rp ∧ rp.length = σ.obs.length ∧ ac (aJ p g σ * R) H := by
 obtain ⟨g, h1⟩ := ac.ex.1 h;rw [ar, ac.pu] at h1;exact ⟨g, h1.1.1, h1.1.2, h1.2⟩
theorem bG {p : Nat} {rp : List Nat} {σ : az} {R : SP} {H : AH} (g : PIds) (h1 : g.rp = rp) (h2 : rp.length = σ.obs.length) (h : ac (aJ p g σ * R) H) : ac (bS p rp σ * R) H :=
 ac.ex.2 ⟨g, by rw [ar]; exact ac.pu.2 ⟨⟨h1, h2⟩, h⟩⟩
theorem ad9 {p : Nat} {σ : az} {R : SP} {H : AH} (h : ac (fj p σ * R) H) : ∃ rp, ac (bS p rp σ * R) H := by
 obtain ⟨g, hg, h1⟩ := mA h;exact ⟨g.rp, bG g rfl hg h1⟩
theorem Iv (m : Nat) : ∀ {ps : List (Nat × List Pk)} {i j : Nat} (h : i < ps.length), ∃ R, l5 m j ps = bW m (j + i) (ps[i]).1 (ps[i]).2 * R ∧ ∀ q : Nat × List Pk, l5 m j (ps.set i q) = bW m (j + i) q.1 q.2 * R := by
 intro ps
 induction ps with
 | nil => intro i j h; simp at h
 | cons p ps ih =>
  intro i j h
  cases i with
  | zero => exact ⟨l5 m (j + 1) ps, rfl, fun q => rfl⟩
  | succ i =>
   obtain ⟨R, e1, e2⟩ := ih (i := i) (j := j + 1) (by simpa using h);refine ⟨bW m j p.1 p.2 * R, ?_, fun q => ?_⟩
   ·show bW m j p.1 p.2 * l5 m (j + 1) ps = _
    rw [e1, bD, show j + 1 + i = j + (i + 1) from by omega]; rfl
   ·show bW m j p.1 p.2 * l5 m (j + 1) (ps.set i q) = _
    rw [e2, bD, show j + 1 + i = j + (i + 1) from by omega]
theorem Iw (m : Nat) : ∀ {ps : List (Nat × List Pk)} {i j : Nat} (h : i < ps.length), ∃ R, iY m j ps = cE m (j + i) (ps[i]).1 (ps[i]).2 * R ∧ ∀ q : Nat × List Pk, iY m j (ps.set i q) = cE m (j + i) q.1 q.2 * R := by
 intro ps
 induction ps with
 | nil => intro i j h; simp at h
 | cons p ps ih =>
  intro i j h
  cases i with
  | zero => exact ⟨iY m (j + 1) ps, rfl, fun q => rfl⟩
  | succ i =>
   obtain ⟨R, e1, e2⟩ := ih (i := i) (j := j + 1) (by simpa using h);refine ⟨cE m j p.1 p.2 * R, ?_, fun q => ?_⟩
   ·show cE m j p.1 p.2 * iY m (j + 1) ps = _
    rw [e1, bD, show j + 1 + i = j + (i + 1) from by omega]; rfl
   ·show cE m j p.1 p.2 * iY m (j + 1) (ps.set i q) = _
    rw [e2, bD, show j + 1 + i = j + (i + 1) from by omega]
def atN (ns : List (Int × Nat)) (obj : Int) : Int := match ns.findIdx? fun p => p.1 == obj with
 | some i => i
 | none => -1
theorem Je {ns : List (Int × Nat)} {obj : Int} {i : Nat} (h : ∀ j, j < i → ∀ p, ns[j]? = some p → p.1 ≠ obj) :
 (∀ (hi : i < ns.length), ns[i].1 = obj → atN ns obj = i) ∧ (ns.length ≤ i → atN ns obj = -1) := by
 constructor
 ·intro hi e
  unfold atN
  have : ns.findIdx? (fun p => p.1 == obj) = some i := by
   rw [List.findIdx?_eq_some_iff_getElem];refine ⟨hi, by simpa using e, fun j hj => ?_⟩;have := h j hj ns[j] (by rw [br])
   simpa using this
  rw [this]
 ·intro hi
  unfold atN
  have : ns.findIdx? (fun p => p.1 == obj) = none := by
   rw [List.findIdx?_eq_none_iff];intro p hp;obtain ⟨j, hj, rfl⟩ := List.getElem_of_mem hp;have := h j (by omega) ns[j] (by rw [br])
   simpa using this
  rw [this]
theorem YD (ib m : Nat) (sh : Int) (kv nv : Value) (ns : List (Int × Nat)) (hn : ns.length < 1000000) (obj : Int) :
 Sp lN [vp ib, vi obj] (blk ib (.cells false [vp m, vi sh, kv, nv]) * ts 1 dO kv (ns.map (·.1))) (fun _ : Unit => vi (atN ns obj)) (fun _ => blk ib (.cells false [vp m, vi sh, kv, nv]) * ts 1 dO kv (ns.map (·.1))) := by
 refine aX (zu _ _) fun R H h => ?_;refine ah (tR _ _ _ H) ?_;refine ah (tT _ _ _ _ H) ?_;have loop : ∀ (d i : Nat), i + d = ns.length → (∀ j, j < i → ∀ p, ns[j]? = some p → p.1 ≠ obj) →
  wp (gS (vp ib) (vi obj) (vi 0) (vi i) H) fun v' H' => ∃ x : Unit, v' = vi (atN ns obj) ∧ ac (blk ib (.cells false [vp m, vi sh, kv, nv]) * ts 1 dO kv (ns.map (·.1)) * R) H' := by
  intro d
  induction d with
  | zero =>
   intro i hi hj;refine ah (lX _ _ _ _ H) ?_;refine av h ae rfl ?_;refine oX (s := kv) h ?_;rw [pJ];refine aa (bu (by omega)) ?_;refine gs ?_;refine ah (qP _ H) ?_;refine ah (tS _ H) ?_;exact aq ⟨(), by rw [(Je hj).2 (by omega)], h⟩
  | succ d ih =>
   intro i hi hj
   have hil : i < ns.length := by omega
   refine ah (lX _ _ _ _ H) ?_;refine av h ae rfl ?_;refine oX (s := kv) h ?_;rw [pJ];refine aa (bO (by omega)) ?_;refine gs ?_;refine ah (tU _ _ _ _ H) ?_;refine av h ae rfl ?_;refine fp (s := kv) (enc := dO) (l := ns.map fun p : Int × Nat => p.1) (v := vi ns[i].1) h (i := i) (by simpa using hil) (by simp [dO]) ?_
   by_cases e : ns[i].1 = obj
   ·refine aa (bF e) ?_
    refine gs ?_;exact aq ⟨(), by rw [(Je hj).1 hil e], h⟩
   ·refine aa (aQ e) ?_
    refine gs ?_;refine ah (tV _ _ _ _ H) ?_;refine aa (aB (by omega) (by omega)) ?_;refine ih (i + 1) (by omega) fun j hj2 p hp => ?_
    rcases Nat.lt_succ_iff_lt_or_eq.1 hj2 with h1 | rfl
    ·exact hj j h1 p hp
    ·rw [br hil] at hp
     obtain rfl := fi hp;exact e
 exact loop ns.length 0 (by omega) (fun j hj => by omega)
theorem YZ {ns : List (Int × Nat)} {obj : Int} (h : ns.findIdx? (fun p => p.1 == obj) = none) : atN ns obj = -1 := by unfold atN; rw [h]
theorem Y0 {ns : List (Int × Nat)} {obj : Int} {i : Nat} (h : ns.findIdx? (fun p => p.1 == obj) = some i) : atN ns obj = i := by unfold atN; rw [h]
theorem WW {ns : List (Int × Nat)} {obj : Int} (h : ns.findIdx? (fun p => p.1 == obj) = none) (n : Nat) (k : Int) : D5 (ns ++ [(obj, n)]) k = if k = obj then some n else D5 ns k := by
 have hn : ns.find? (fun p => p.1 == obj) = none := by
  rw [List.find?_eq_none];rw [List.findIdx?_eq_none_iff] at h;intro p hp;have := h p hp
  simpa using this
 unfold D5;rw [List.find?_append]
 by_cases e : k = obj
 ·subst e
  rw [hn, if_pos rfl];simp
 ·rw [if_neg e]
  have : ([(obj, n)] : List (Int × Nat)).find? (fun p => p.1 == k) = none := by
   rw [List.find?_eq_none];intro p hp
   obtain rfl : p = (obj, n) := by simpa using hp
   simpa using fun q => e q.symm
  rw [this]
  cases ns.find? (fun p => p.1 == k) <;> rfl
theorem adN (obj : Int) (n : Nat) (k : Int) : ∀ {ns : List (Int × Nat)} {i : Nat}, ns.findIdx? (fun p => p.1 == obj) = some i → D5 (ns.set i (obj, n)) k = if k = obj then some n else D5 ns k := by
 intro ns
 induction ns with
 | nil => intro i h; simp at h
 | cons p ns ih =>
  intro i h;rw [List.findIdx?_cons] at h
  by_cases e : p.1 = obj
  ·rw [if_pos (by simpa using e)] at h
   obtain rfl := fi h;simp only [List.set_cons_zero, D5, List.find?_cons]
   by_cases e2 : k = obj
   ·subst e2; simp
   ·have h1 : ((obj == k) : Bool) = false := by simpa using fun q => e2 q.symm
    have h2 : ((p.1 == k) : Bool) = false := by rw [e]; exact h1
    simp [h1, h2, e2]
  ·rw [if_neg (by simpa using e)] at h
   obtain ⟨j, hj, rfl⟩ := aN.1 h;have := ih hj;simp only [List.set_cons_succ, D5, List.find?_cons] at this ⊢
   by_cases e2 : p.1 = k
   ·have h1 : ((p.1 == k) : Bool) = true := by simpa using e2
    simp only [h1];rw [if_neg (fun q => e (e2.trans q))]
   ·have h1 : ((p.1 == k) : Bool) = false := by simpa using e2
    simp only [h1];exact this
theorem LX (ib m : Nat) (sh : Int) (nx : Int → Option Nat) (L : Nat) (μ : Mu) (who obj : Int) (next : Nat) (hL : L < 900000) (hE : μ.N < 1099511627000) :
 Sp jv [vp ib, vi who, vi obj, vu next] (gZ ib m sh nx L * bz m μ) (fun _ : Unit => .tuple #[]) (fun _ => gZ ib m sh (fun k => if k = obj then some next else nx k) (L + 1) * bz m (μ.acc who 6 (14, obj, 0))) := by
 refine aZ fun R H h => ?_;obtain ⟨kv, nv, ns, ⟨hn, hl⟩, h0⟩ := nL (ib := ib) (m := m) (sh := sh) (nx := nx) (L := L) (R := bz m μ * R) (H := H) h.to;refine bf (fun r => vL _ _ _ _ H) ?_;refine bp ae ?_;refine aL h0 rfl ?_;refine ag h0 (dH 14 obj 0) fun _ H1 h1 => ?_;refine aI h1 h0 (by rfl) ?_;refine ag h1 ((YE m μ who 6 (14, obj, 0) (by omega)).imp fun _ R H h => vj (N' := μ.N + 2) (by simp) h) fun _ H2 h2 => ?_;refine ag h2 (YD ib m sh kv nv ns (by omega) obj) fun _ H3 h3 => ?_
 cases hf : ns.findIdx? (fun p => p.1 == obj) with
 | none =>
  rw [YZ hf];refine aa (bO (by omega)) ?_;refine gs ?_;refine av h3 ae rfl ?_;refine L8 h3 fun b0 H4 h4 => ?_;refine gu (s := kv) (l := ns.map fun p : Int × Nat => p.1) (obj : Int) h4 rfl ?_ (by omega) fun a c H5 h5 => ?_
  ·unfold room; simp only [pJ]; omega
  refine bp ae ?_;refine aL h5 rfl ?_;refine aI h4 h5 (by rfl) ?_;refine L8 h5 fun b1 H6 h6 => ?_;refine gu (s := nv) (l := ns.map fun p : Int × Nat => p.2) (next : Nat) h6 rfl ?_ (by omega) fun a2 c2 H7 h7 => ?_
  ·unfold room; simp only [pJ]; omega
  refine bw h7 ae rfl rfl fun H8 h8 => ?_;refine bw h8 ae rfl rfl fun H9 h9 => ?_
  have e1 : (ns ++ [(obj, next)]).map (fun p : Int × Nat => p.1) = (ns.map fun p : Int × Nat => p.1) ++ [obj] := by rw [Kv]; rfl
  have e2 : (ns ++ [(obj, next)]).map (fun p : Int × Nat => p.2) = (ns.map fun p : Int × Nat => p.2) ++ [next] := by rw [Kv]; rfl
  refine aq ⟨(), rfl, ?_⟩;have h10 := g6 (ib := ib) (m := m) (sh := sh) (nx := fun k => if k = obj then some next else nx k) (L := L + 1) (kv := .slice a ((ns.map fun p : Int × Nat => p.1).length + 1) c) (nv := .slice a2 ((ns.map fun p : Int × Nat => p.2).length + 1) c2) (ns := ns ++ [(obj, next)])
   (R := bz m (μ.acc who 6 (14, obj, 0)) * R) (H := H9) ⟨fun k => by rw [WW hf, hn], by simp; omega⟩ (by rw [e1, e2]; exact h9.to)
  exact h10.to
 | some i =>
  rw [Y0 hf];have hi := (List.findIdx?_eq_some_iff_getElem.1 hf);obtain ⟨hil, hk, _⟩ := hi;refine aa (bu (by omega)) ?_;refine gs ?_;refine av h3 ae rfl ?_;refine DH (s := nv) (l := ns.map fun p : Int × Nat => p.2) (i := i) (next : Nat) h3 (by simpa using hil) (.inl ⟨rfl, rfl⟩) rfl (by omega) rfl (by simp [pD, splice]) fun H4 h4 => ?_
  have e1 : (ns.set i (obj, next)).map (fun p : Int × Nat => p.1) = ns.map fun p : Int × Nat => p.1 := by
   rw [List.map_set];apply List.ext_getElem?;intro j;rw [List.getElem?_set]
   split
   ·rename_i e
    subst e
    have hk : ns[i].1 = obj := by simpa using hk
    simp [hil, hk]
   ·rfl
  have e2 : (ns.set i (obj, next)).map (fun p : Int × Nat => p.2) = (ns.map fun p : Int × Nat => p.2).set i next := by rw [List.map_set]
  refine aq ⟨(), rfl, ?_⟩;have h10 := g6 (ib := ib) (m := m) (sh := sh) (nx := fun k => if k = obj then some next else nx k) (L := L + 1) (kv := kv) (nv := nv) (ns := ns.set i (obj, next))
   (R := bz m (μ.acc who 6 (14, obj, 0)) * R) (H := H4) ⟨fun k => by rw [adN obj next k hf, hn], by rw [xa]; omega⟩ (by rw [e1, e2]; exact h4.to)
  exact h10.to
theorem ur {σ : az} {o : Nat} (ho : o < σ.obs.length) : am σ o = (σ.obs[o]).2 := by
 unfold am;rw [br ho]; rfl
theorem yE (p : Nat) (g : PIds) (σ : az) (o b : Nat) (hl : g.rp.length = σ.obs.length) (ho : o < σ.obs.length) (hb : g.rp[o]? = some b) :
 ∃ R, aJ p g σ = bW g.m o b (am σ o) * bh g.m σ.μ * R ∧ ∀ μ' cs', aJ p g { σ with μ := μ', obs := σ.obs.modify o fun q => (q.1, cs') } = bW g.m o b cs' * bh g.m μ' * R := by
 have hz : o < (g.rp.zip (σ.obs.map fun x => x.2)).length := by simp; omega
 obtain ⟨R, e1, e2⟩ := Iv g.m (ps := g.rp.zip (σ.obs.map fun x => x.2)) (j := 0) hz
 have hrp : g.rp[o]'(by omega) = b := by
  rw [br (by omega)] at hb;exact fi hb
 have e3 : (g.rp.zip (σ.obs.map fun x => x.2))[o] = (b, am σ o) := by
  rw [List.getElem_zip, ur ho, List.getElem_map, hrp]
 rw [e3] at e1;rw [Nat.zero_add] at e1 e2
 refine ⟨blk p (.cells false [vp g.m, vp g.ib, vp g.tb, vp g.po, vp g.co, vi σ.c.sh, vi σ.c.sl, vi σ.c.wk, vi σ.c.wd, vu σ.c.un, g.ov, .map (some g.pm), g.pv]) * (kG g.ib g.m g.nm σ.c σ.nx * (tab g.tb g.m σ.c.sh.toNat σ.c.sl.toNat * (ts 4 Bb g.ov ((σ.obs.map fun x => x.1).zip g.rp) * (R *
  (YH L4 g.pm (fun k => (σ.places k).map fun n => vi n) * ts 7 Pt.cells g.pv σ.pts))))), ?_, fun μ' cs' => ?_⟩
 ·unfold aJ
  rw [e1]
  ac_rfl
 ·unfold aJ
  dsimp only
  have e4 : (σ.obs.modify o fun q => (q.1, cs')).map (fun x => x.1) = σ.obs.map fun x => x.1 := by
   apply List.ext_getElem?;intro j;simp only [tA, List.getElem?_modify]
   cases σ.obs[j]? with
   | none => rfl
   | some q => simp only [dP]; split <;> rfl
  have e5 : g.rp.zip ((σ.obs.modify o fun q => (q.1, cs')).map fun x => x.2) = (g.rp.zip (σ.obs.map fun x => x.2)).set o (b, cs') := by
   apply List.ext_getElem?;intro j;rw [List.getElem?_set]
   by_cases hj : o = j
   ·subst hj
    rw [if_pos rfl, if_pos hz];exact List.getElem?_zip_eq_some.2 ⟨hb, by simp [List.getElem?_modify, br ho]⟩
   ·rw [if_neg hj]
    have : (List.map (fun x => x.2) (σ.obs.modify o fun q => (q.1, cs')))[j]? = (σ.obs.map fun x => x.2)[j]? := by
     simp only [tA, List.getElem?_modify]
     cases σ.obs[j]? with
     | none => rfl
     | some q => show some (if o = j then (q.1, cs') else q).2 = some q.2; rw [if_neg hj]
    simp only [List.zip, List.getElem?_zipWith, this]
  rw [e4, e5, e2]
  ac_rfl
theorem KG {σ : az} {o : Nat} (ho : o < σ.obs.length) : (σ.obs.modify o fun q => (q.1, am σ o)) = σ.obs := by
 apply List.ext_getElem?;intro j;rw [List.getElem?_modify]
 cases hj : σ.obs[j]? with
 | none => rfl
 | some q =>
  show some (if o = j then _ else _) = some q
  by_cases e : o = j
  ·subst e
   rw [if_pos rfl];unfold am;rw [hj]; rfl
  ·rw [if_neg e]
section
variable {f : Nat} {args : List Value} {v : Unit → Value} {p : Nat} {g : PIds} {σ : az} {o b : Nat}
theorem YK {μ' : Mu} {cs' : List Pk} (hl : g.rp.length = σ.obs.length) (ho : o < σ.obs.length) (hb : g.rp[o]? = some b)
 (s : Sp f args (bW g.m o b (am σ o) * bh g.m σ.μ) v (fun _ => bW g.m o b cs' * bh g.m μ')) :
 Sp f args (aJ p g σ) v (fun _ => aJ p g { σ with μ := μ', obs := σ.obs.modify o fun q => (q.1, cs') }) := by
 obtain ⟨R', e1, e2⟩ := yE p g σ o b hl ho hb;intro R H h;rw [e1, ar] at h;obtain ⟨x, H', h1, h2⟩ := s _ _ h;exact ⟨x, H', h1, by rw [e2, ar]; exact h2⟩
theorem iA {μ' : Mu} (hl : g.rp.length = σ.obs.length) (ho : o < σ.obs.length) (hb : g.rp[o]? = some b)
 (s : Sp f args (bW g.m o b (am σ o) * bh g.m σ.μ) v (fun _ => bW g.m o b (am σ o) * bh g.m μ')) :
 Sp f args (aJ p g σ) v (fun _ => aJ p g (σ.mem μ')) := by
 have := YK (p := p) hl ho hb s;rw [KG ho] at this;exact this
theorem FY (hl : g.rp.length = σ.obs.length) (ho : o < σ.obs.length) (hb : g.rp[o]? = some b)
 (s : Sp f args (bW g.m o b (am σ o)) v (fun _ => bW g.m o b (am σ o))) :
 Sp f args (aJ p g σ) v (fun _ => aJ p g σ) := by
 obtain ⟨R', e1, _⟩ := yE p g σ o b hl ho hb;intro R H h;rw [e1, ar, ar] at h;obtain ⟨x, H', h1, h2⟩ := s _ _ h;exact ⟨x, H', h1, by rw [e1, ar, ar]; exact h2⟩
theorem YL {μ' : Mu} (s : Sp f args (tab g.tb g.m σ.c.sh.toNat σ.c.sl.toNat * bh g.m σ.μ) v (fun _ => tab g.tb g.m σ.c.sh.toNat σ.c.sl.toNat * bh g.m μ')) :
 Sp f args (aJ p g σ) v (fun _ => aJ p g (σ.mem μ')) := by
 intro R H h;unfold aJ at h;obtain ⟨x, H', h1, h2⟩ := s _ H (ac.fr (A := tab g.tb g.m σ.c.sh.toNat σ.c.sl.toNat * bh g.m σ.μ) h);refine ⟨x, H', h1, ?_⟩;unfold aJ;exact h2.to
theorem YM (s : Sp f args (tab g.tb g.m σ.c.sh.toNat σ.c.sl.toNat) v (fun _ => tab g.tb g.m σ.c.sh.toNat σ.c.sl.toNat)) :
 Sp f args (aJ p g σ) v (fun _ => aJ p g σ) := by
 intro R H h;unfold aJ at h;obtain ⟨x, H', h1, h2⟩ := s _ H (ac.fr (A := tab g.tb g.m σ.c.sh.toNat σ.c.sl.toNat) h);refine ⟨x, H', h1, ?_⟩;unfold aJ;exact h2.to
theorem Qb {μ' : Mu} (s : Sp f args (bh g.m σ.μ) v (fun _ => bh g.m μ')) : Sp f args (aJ p g σ) v (fun _ => aJ p g (σ.mem μ')) := by
 intro R H h;unfold aJ at h;obtain ⟨x, H', h1, h2⟩ := s _ H (ac.fr (A := bh g.m σ.μ) h);refine ⟨x, H', h1, ?_⟩;unfold aJ;exact h2.to
theorem Ei {μ' : Mu} {nx' : Int → Option Nat} (s : Sp f args (kG g.ib g.m g.nm σ.c σ.nx * bh g.m σ.μ) v (fun _ => kG g.ib g.m g.nm σ.c nx' * bh g.m μ')) :
 Sp f args (aJ p g σ) v (fun _ => aJ p g { σ with μ := μ', nx := nx' }) := by
 intro R H h;unfold aJ at h;obtain ⟨x, H', h1, h2⟩ := s _ H (ac.fr (A := kG g.ib g.m g.nm σ.c σ.nx * bh g.m σ.μ) h);refine ⟨x, H', h1, ?_⟩;unfold aJ;exact h2.to
end
instance anF (p : Nat) (g : PIds) (σ : az) : Hs (aJ p g σ) p (.cells false [vp g.m, vp g.ib, vp g.tb, vp g.po, vp g.co, vi σ.c.sh, vi σ.c.sl, vi σ.c.wk, vi σ.c.wd, vu σ.c.un, g.ov, .map (some g.pm), g.pv]) := ⟨by
 intro H h;unfold aJ at h
 exact h.left.get⟩
theorem oY {P P0 R : SP} {H : AH} {b fn : Nat} {args : List Value} {c : Int} {d : Bool} {Q0 : Unit → SP} {Q : Value → AH → Prop} (h : ac P H)
 (s : Sp fn args P0 (fun _ : Unit => .tuple #[.agg (n3 c).toArray, vb d]) Q0) [fr : Fr P (P0 * blk b (.cells false [vi 0, .slice none 0 0, vi 0, vw 0])) R]
 (hk : ∀ H', ac (Q0 () * R) H' → Q (.tuple #[.agg (n3 c).toArray, vb d]) H') :
 wp ((FF fn args H).bind fun r2 => (ak r2.1 0).bind fun v3 => (ak r2.1 1).bind fun v4 => (dc 4 (vp b) v3 r2.2).bind fun H5 => (aC 4 (vp b) H5).bind fun v6 => some (Value.tuple #[v6, v4], H5)) Q := by
 have h0 : ac (P0 * (blk b (.cells false [vi 0, .slice none 0 0, vi 0, vw 0]) * R)) H := by
  have := ac.fr (A := P0 * blk b (.cells false [vi 0, .slice none 0 0, vi 0, vw 0])) h;rw [ar] at this;exact this
 refine ag h0 s fun _ H1 h1 => ?_;refine aa (v := .agg (n3 c).toArray) rfl ?_;refine aa (v := vb d) rfl ?_;refine fm h1 rfl rfl fun H2 h2 => ?_;refine a7 h2 ?_;exact aq (hk H2 h2.to)
abbrev WG (e n : Nat) : Value := .func (.func n) #[vp e] #[]
abbrev eB (e p : Nat) (nx rv : Value) (t : Tk) : SP :=
 blk e (.cells false [vp p, vi t.who, vi t.x.op, vi t.x.flow, vi t.x.a, vi t.x.b, vi t.s, nx, vi t.i, vi t.obj, vb t.found, rv, vu t.w, vu t.q, vi t.mark, vu t.top])
def zh : Nat → Nat
 | 0 => lK | 2 => jr | 3 => cH | 4 => dB | 5 => dC | 6 => f3 | 7 => bM | 8 => kW
 | 9 => jq | 10 => nU | 11 => k7 | 12 => jp | 13 => la | 14 => kU | 15 => nV | 16 => d5
 | 17 => d4 | 18 => ff | 20 => kT | 21 => jt | 22 => cX | 23 => kX | 24 => kZ | _ => nT
def Ix (rp : List Nat) (t : Tk) (v : Value) : Prop := 7 ≤ t.at' → ∃ b, rp[t.obj]? = some b ∧ v = vp b
def eP (e p : Nat) (rp : List Nat) (σ : az) (t : Tk) : SP := ex fun v : Value => pu (Ix rp t v) * (eB e p (WG e (zh t.at')) v t * bS p rp σ)
def eQ (e p : Nat) (rp : List Nat) (r : az × Tk × Bool) : SP := if r.2.2 = true then bS p rp r.1 else eP e p rp r.1 r.2.1
abbrev dk (r : az × Tk × Bool) : Value := .tuple #[.agg (n3 (if r.2.2 = true then r.2.1.code else 0)).toArray, vb r.2.2]
theorem QG {e p : Nat} {rp : List Nat} {σ : az} {t : Tk} {R : SP} {H : AH} (h : ac (eP e p rp σ t * R) H) : ∃ v, Ix rp t v ∧ ac (eB e p (WG e (zh t.at')) v t * (bS p rp σ * R)) H := by
 obtain ⟨v, h1⟩ := ac.ex.1 h;rw [ar, ac.pu] at h1;exact ⟨v, h1.1, h1.2.to⟩
theorem JA {e p : Nat} {rp : List Nat} {σ : az} {t : Tk} {R : SP} {H : AH} {v : Value} {n : Nat} (hv : Ix rp t v) (hn : zh t.at' = n) (h : ac (eB e p (WG e n) v t * (bS p rp σ * R)) H) : ac (eP e p rp σ t * R) H := by
 subst hn;exact ac.ex.2 ⟨v, by rw [ar]; exact ac.pu.2 ⟨hv, h.to⟩⟩
section
variable (e p : Nat)
theorem alY (nx rv : Value) (n : Nat) (t : Tk) : Sp bk [vp e, WG e n] (eB e p nx rv t) (fun _ : Unit => .tuple #[.agg (n3 0).toArray, vb false]) (fun _ => eB e p (WG e n) rv t) := by
 refine aX (Zo _ _) fun R H h => ?_;refine bm h fun b H1 h1 => ?_;refine bw h1 ae rfl rfl fun H2 h2 => ?_;refine kP ?_;refine fm h2 rfl rfl fun H3 h3 => ?_;refine a7 h3 ?_;exact aq ⟨(), rfl, h3.to⟩
theorem aoD (rp : List Nat) (σ : az) (step who code : Int) (hp : σ.pts.length < 1000000) : Sp hM [vp p, vi step, vi who, .agg (n3 code).toArray] (bS p rp σ) (fun _ : Unit => .tuple #[]) (fun _ => bS p rp (σ.note step who code)) := by
 refine aZ fun R H h => ?_;obtain ⟨g, hrp, hg, h0⟩ := eE h;unfold aJ at h0;refine bf (fun r => sr _ _ _ _ H) ?_;refine a8 h0 fun b1 H1 h1 => ?_;refine bp ae ?_;refine aL h1 rfl ?_;refine bp ae ?_;refine aL h1 rfl ?_;refine Ul (ek := L4) who h1 ?_;refine a7 h1 ?_;refine ag h1 (sW code) fun _ H2 h2 => ?_;refine aI h2 h1 rfl ?_;refine aI h2 h1 rfl ?_;refine agL who h2 h1 ?_
 have ev : (((σ.places who).map fun n => vi n).getD (vi 0)) = vi ((σ.places who).getD 0) := by cases σ.places who <;> rfl
 rw [ev];refine kP ?_;refine L8 h2 fun b0 H3 h3 => ?_;refine gu (⟨step, who, (σ.places who).getD 0, code⟩ : Pt) h3 rfl ?_ (by omega) fun a cc H4 h4 => ?_
 ·unfold room; omega
 refine bw h4 ae rfl rfl fun H5 h5 => ?_;refine aq ⟨(), rfl, ?_⟩;refine bG { g with pv := .slice a (σ.pts.length + 1) cc } hrp hg ?_;unfold aJ az.note;exact h5.to
theorem uy (rp : List Nat) (σ : az) (nx rv : Value) (t : Tk) (now code : Int) (hp : σ.pts.length < 1000000) :
 Sp kY [vp e, vi now, vi code] (eB e p nx rv t * bS p rp σ) (fun _ : Unit => .tuple #[]) (fun _ => eB e p nx rv t * bS p rp (σ.note now t.who code)) := by
 refine aX (MG _ _ _) fun R H h => ?_;refine av h ae rfl ?_;refine av h ae rfl ?_;refine kP ?_;refine ag h (aoD p rp σ now t.who code hp) fun _ H1 h1 => ?_;exact aq ⟨(), rfl, h1.to⟩
theorem yo (rp : List Nat) (σ : az) (nx rv : Value) (t : Tk) (now code : Int) (hp : σ.pts.length < 1000000) :
 Sp iu [vp e, vi now, vi code] (eB e p nx rv t * bS p rp σ) (fun _ : Unit => .tuple #[.agg (n3 code).toArray, vb true]) (fun _ => eB e p nx rv t * bS p rp (σ.note now t.who code)) := by
 refine aX (F7 _ _ _) fun R H h => ?_;refine bm h fun b H1 h1 => ?_;refine ag h1 (uy e p rp σ nx rv t now code hp) fun _ H2 h2 => ?_;exact oY h2 (ux (vp e) code) fun H3 h3 => ⟨(), rfl, h3.to⟩
end
theorem Un {α : Type} {P : SP} {H : AH} {e n g i : Nat} {enc : α → List Value} {l : List α} {s : Value} {Q : Value → AH → Prop} {k : Value → OV} {kk : IntKind} {cs : List Value} (h : ac P H) [r : Rd P s e enc l] [E : Enc enc e] (hi : i < l.length) (hg : g + n ≤ e)
 (hc : ((enc l[i]).drop g).take n = cs) (hk : wp (k (.agg cs.toArray)) Q) : wp (ldN n [.i e (.int kk (i : Int)), .f g] s H k) Q := by
 subst hc;obtain ⟨b, o, ro, row, rfl, h2, h3, h4⟩ := C2 (s := s) (enc := enc) (l := l) h hi;unfold ldN;rw [UB hi, anO];have hm : (i + 1) * e ≤ l.length * e := Nat.mul_le_mul_right _ (by omega);rw [Nat.add_mul] at hm
 have : aC n (pP b (o + i * e + g)) H = some (.agg (((enc l[i]).drop g).take n).toArray) := by
  simp only [aC, tN, dq, bo, h2];rw [if_pos (by omega)]
  congr 3
  rw [← Hz E.len l i hi, ← h4, List.drop_take, List.drop_take, List.drop_take, List.drop_drop, List.drop_drop, List.take_take, List.take_take, Nat.min_eq_left (by omega), Nat.min_eq_left (by omega), Nat.add_assoc]
 show wp ((aC n (pP b (o + i * e + g)) H).bind k) Q;rw [this]; exact hk
structure SOk (σ : az) : Prop where
 c : ci σ.c = true
 N : σ.μ.N < 800000
 pts : σ.pts.length < 900000
 V : ∀ l, σ.μ.V l < 18446744073709551616
 obs : σ.obs.length < 900000
 cells : ∀ o, o < σ.obs.length → 1 ≤ (am σ o).length ∧ (am σ o).length < 1000
 slot : ∀ s i, σ.μ.V (10, s, i) ≠ 0 → σ.μ.V (10, s, i) % 4294967296 < σ.obs.length
structure fe (σ : az) (t : Tk) : Prop where
 obj : 6 ≤ t.at' ∨ t.at' = 5 ∧ t.found = true → t.obj < σ.obs.length
 s : t.s = (t.x.flow.tmod σ.c.sh + σ.c.sh).tmod σ.c.sh
 i : t.at' < 5 → t.at' ≠ 3 → (t.i : Int) < σ.c.sl
 w : t.w < 18446744073709551616
 c5 : t.at' = 5 → t.found = false → t.code = 5
 c0 : t.at' = 10 ∨ t.at' = 11 ∨ t.at' = 14 ∨ 21 ≤ t.at' → t.code = 0
 ats : t.at' = 0 ∨ t.at' = 2 ∨ t.at' = 3 ∨ t.at' = 4 ∨ t.at' = 5 ∨ t.at' = 6 ∨ t.at' = 7 ∨ t.at' = 8 ∨ t.at' = 9 ∨ t.at' = 10 ∨ t.at' = 11 ∨ t.at' = 12 ∨ t.at' = 13 ∨ t.at' = 14 ∨ t.at' = 15 ∨ t.at' = 16 ∨ t.at' = 17 ∨ t.at' = 18 ∨ t.at' = 20 ∨ t.at' = 21 ∨ t.at' = 22 ∨ t.at' = 23 ∨ t.at' = 24 ∨ t.at' = 25
section
variable (e p : Nat) (rp : List Nat) (g : PIds) (σ : az) (nx rv : Value) (t : Tk) (now : Int)
theorem qK (hl : g.rp.length = σ.obs.length) (o : Nat) (ho : o < σ.obs.length) : Sp eJ [vp p, vi o] (aJ p g σ) (fun _ : Unit => vb true) (fun _ => aJ p g σ) := by
 have hz : ((σ.obs.map fun x => x.1).zip g.rp).length = σ.obs.length := by simp [hl]
 refine aZ fun R H h => ?_;have h0 := h;unfold aJ at h0;refine bf (fun r => sx _ _ H) ?_;refine aa (yw (by omega)) ?_;refine gs ?_;refine av h ae rfl ?_;refine gs ?_;refine ge (s := g.ov) h0 ?_;rw [hz];refine gs ?_;refine aa (bO (by omega)) ?_;refine gs ?_;exact aq ⟨(), rfl, h⟩
theorem qM (hl : g.rp.length = σ.obs.length) (o b : Nat) (ho : o < σ.obs.length) (hb : g.rp[o]? = some b) : Sp di [vp p, vi o] (aJ p g σ) (fun _ : Unit => vp b) (fun _ => aJ p g σ) := by
 have hz : ((σ.obs.map fun x => x.1).zip g.rp).length = σ.obs.length := by simp [hl]
 refine aX (su _ _) fun R H h => ?_;refine ag h (qK p g σ hl o ho) fun _ H1 h1 => ?_;refine gs ?_;rw [Bool.not_true];refine gs ?_;refine av h1 ae rfl ?_;have h2 := h1;unfold aJ at h2
 have hb' : g.rp[o]'(by omega) = b := by rw [br (by omega)] at hb; exact fi hb
 refine IX (v := vp b) (enc := Bb) (l := (σ.obs.map fun x : Ob × List Pk => x.1).zip g.rp) h2 (by omega) (by omega) ?_ ?_
 ·show some (vp ((σ.obs.map fun x => x.1).zip g.rp)[o].2) = _
  rw [List.getElem_zip, hb']
 exact aq ⟨(), rfl, h1.to⟩
theorem OE (hl : g.rp.length = σ.obs.length) (who : Int) (o : Nat) (ho : o < σ.obs.length) (hN : σ.μ.N < 800000) : Sp dD [vp p, vi who, vi o] (aJ p g σ) (fun v : Value => v) (fun _ => aJ p g (σ.mem (σ.μ.acc who 5 (13, (o : Int), 0)))) := by
 have hz : ((σ.obs.map fun x => x.1).zip g.rp).length = σ.obs.length := by simp [hl]
 refine aX (lU _ _ _) fun R H h => ?_;refine bm h fun b H1 h1 => ?_;refine ag h1 (qK p g σ hl o ho) fun _ H2 h2 => ?_;refine gs ?_;rw [Bool.not_true];refine gs ?_;refine av h2 ae rfl ?_;refine kP ?_;refine ag h2 (Qb (p := p) (g := g) (σ := σ) ((Cy g.m σ.μ who (13, (o : Int), 0) (by omega)).imp fun _ R H h => iI (N' := σ.μ.N + 2) (by simp) h)) fun _ H3 h3 => ?_;refine av h3 ae rfl ?_;have h4 := h3;unfold aJ at h4;refine Un (enc := Bb) (l := (σ.obs.map fun x : Ob × List Pk => x.1).zip g.rp) h4 (by omega) (by omega) (show _ = [_, _, _] from rfl) ?_;refine fm h3 rfl rfl fun H5 h5 => ?_;refine a7 h5 ?_;exact aq ⟨_, rfl, h5.to⟩
theorem CD (who : Int) (hN : σ.μ.N < 800000) : Sp fA [vp p, vi who] (aJ p g σ) (fun _ : Unit => vu (σ.μ.V (2, 0, 0))) (fun _ => aJ p g (σ.mem (σ.μ.acc who 1 (2, 0, 0)))) := by
 refine aX (tP _ _) fun R H h => ?_;refine av h ae rfl ?_;refine kP ?_;refine ag h (Qb (p := p) (g := g) (σ := σ) (xr g.m σ.μ who (2, 0, 0) (by omega))) fun _ H1 h1 => ?_;exact aq ⟨(), rfl, h1.to⟩
theorem Dd (b : Bool) (h : tn (σ.μ.V (10, t.s, (t.i : Int))) t.x.flow = b) : aD σ t = { t with i := t.i + 1, found := b, obj := if b = true then σ.μ.V (10, t.s, (t.i : Int)) % 4294967296 else t.obj } := by
 subst h
 rfl
theorem QJ (S : SOk σ) (hi : (t.i : Int) < σ.c.sl) : Sp vl [vp e] (eB e p nx rv t * aJ p g σ) (fun _ : Unit => vb (cR σ (aD σ t))) (fun _ => eB e p nx rv (aD σ t) * aJ p g (b6 σ t)) := by
 have hc := bV.1 S.c;refine aX (UT _) fun R H h => ?_;refine av h ae rfl ?_;refine av h ae rfl ?_;refine av h ae rfl ?_;refine av h ae rfl ?_;refine av h ae rfl ?_;refine ag h (YL (p := p) (g := g) (σ := σ) (LE g.tb g.m σ.c.sh.toNat σ.c.sl.toNat σ.μ t.who t.s t.i (by have := S.N; omega) (S.V _))) fun _ H1 h1 => ?_
 have fin : ∀ (t1 : Tk) (H' : AH), t1.i = t.i + 1 → ac (eB e p nx rv t1 * (aJ p g (b6 σ t) * R)) H' → wp (rA (vp e) (vb false) H') fun v' H' => ∃ _x : Unit, v' = vb (cR σ t1) ∧ ac (eB e p nx rv t1 * aJ p g (b6 σ t) * R) H' := by
  intro t1 H' hi1 h';refine ah (F6 _ _ H') ?_;refine bp ae ?_;refine aL h' rfl ?_;refine av h' ae rfl ?_;refine av h' ae rfl ?_;refine ag h' (YM (p := p) (g := g) (σ := b6 σ t) (LF g.tb g.m σ.c.sh.toNat σ.c.sl.toNat)) fun _ H2 h2 => ?_;refine aI h2 h' (by rfl) ?_;refine aa (v := vb (cR σ t1)) ?_ ?_
  ·rw [zH]
   congr 3
   apply propext;omega
  exact aq ⟨(), rfl, h2.to⟩
 by_cases hv : σ.μ.V (10, t.s, (t.i : Int)) = 0
 ·have e1 : mE (σ.μ.V (10, t.s, (t.i : Int))) = .tuple #[vi 0, vi 0, vb false] := by rw [mE, if_pos hv]
  rw [e1];refine aa (v := vi 0) rfl ?_;refine aa (v := vi 0) rfl ?_;refine aa (v := vb false) rfl ?_;refine av h1 ae rfl ?_;refine aa (aB (by omega) (by omega)) ?_;rw [show ((t.i : Nat) : Int) + 1 = ((t.i + 1 : Nat) : Int) from by omega];refine bw h1 ae rfl rfl fun H2 h2 => ?_;refine ah (uu _ _ _ _ _ H2) ?_;refine gs ?_;refine bw h2 ae rfl rfl fun H3 h3 => ?_;refine av h3 ae rfl ?_;refine gs ?_
  have e2 : aD σ t = { t with i := t.i + 1, found := false } := by
   have : tn (σ.μ.V (10, t.s, (t.i : Int))) t.x.flow = false := by simp [tn, hv]
   exact (Dd σ t _ this).trans rfl
  rw [e2];exact fin _ H3 rfl h3.to
 ·have e1 : mE (σ.μ.V (10, t.s, (t.i : Int))) = .tuple #[vi ((σ.μ.V (10, t.s, (t.i : Int)) / 4294967296 : Nat) - 1), vi (σ.μ.V (10, t.s, (t.i : Int)) % 4294967296 : Nat), vb true] := by rw [mE, if_neg hv]
  rw [e1];refine aa (v := vi ((σ.μ.V (10, t.s, (t.i : Int)) / 4294967296 : Nat) - 1)) rfl ?_;refine aa (v := vi (σ.μ.V (10, t.s, (t.i : Int)) % 4294967296 : Nat)) rfl ?_;refine aa (v := vb true) rfl ?_;refine av h1 ae rfl ?_;refine aa (aB (by omega) (by omega)) ?_;rw [show ((t.i : Nat) : Int) + 1 = ((t.i + 1 : Nat) : Int) from by omega];refine bw h1 ae rfl rfl fun H2 h2 => ?_;refine ah (uu _ _ _ _ _ H2) ?_;refine gs ?_;refine av h2 (jb (cm (cm cn))) rfl ?_
  by_cases hf : ((σ.μ.V (10, t.s, (t.i : Int)) / 4294967296 : Nat) : Int) - 1 = t.x.flow
  ·refine mH ?_
   refine aa (bF hf) ?_;refine gs ?_;refine bw h2 ae rfl rfl fun H3 h3 => ?_;refine av h3 ae rfl ?_;refine gs ?_;refine bw h3 ae rfl rfl fun H4 h4 => ?_
   have e2 : aD σ t = { t with i := t.i + 1, found := true, obj := σ.μ.V (10, t.s, (t.i : Int)) % 4294967296 } := by
    have : tn (σ.μ.V (10, t.s, (t.i : Int))) t.x.flow = true := iy ⟨hv, hf⟩;exact (Dd σ t _ this).trans rfl
   rw [e2];exact fin _ H4 rfl h4.to
  ·refine mH ?_
   refine aa (aQ hf) ?_;refine gs ?_;refine bw h2 ae rfl rfl fun H3 h3 => ?_;refine av h3 ae rfl ?_;refine gs ?_
   have e2 : aD σ t = { t with i := t.i + 1, found := false } := by
    have : tn (σ.μ.V (10, t.s, (t.i : Int))) t.x.flow = false := gU fun q => hf q.2;exact (Dd σ t _ this).trans rfl
   rw [e2];exact fin _ H3 rfl h3.to
end
theorem gT {rp : List Nat} {t : Tk} {v : Value} (h : t.at' < 7) : Ix rp t v := fun h' => by omega
theorem cf {rp : List Nat} {t : Tk} {b : Nat} (h : rp[t.obj]? = some b) : Ix rp t (vp b) := fun _ => ⟨b, h, rfl⟩
section
variable {e p : Nat} {rp : List Nat} {g : PIds} {σ σ' : az} {t t' : Tk} {R P : SP} {H : AH} {r : az × Tk × Bool} {v : Value} {n : Nat} {c : Int}
theorem cW (h : ac (eP e p rp σ t * R) H) : ∃ (nx rv : Value) (g : PIds), Ix rp t rv ∧ g.rp = rp ∧ rp.length = σ.obs.length ∧ nx = WG e (zh t.at') ∧ ac (eB e p nx rv t * (aJ p g σ * R)) H := by
 obtain ⟨rv, h1, h2⟩ := QG h;obtain ⟨g, h3, h4, h5⟩ := eE (p := p) (rp := rp) (σ := σ) (R := eB e p (WG e (zh t.at')) rv t * R) (H := H) h2.to;exact ⟨_, rv, g, h1, h3, h4, rfl, h5.to⟩
theorem Ga (hr : r = (σ', t', false)) (hv : Ix rp t' v) (hn : zh t'.at' = n) (h : ac (eB e p (WG e n) v t' * (bS p rp σ' * R)) H) :
 ∃ x : Unit, (.tuple #[.agg (n3 0).toArray, vb false]) = dk r ∧ ac (eQ e p rp r * R) H := by
 subst hr;exact ⟨(), rfl, JA hv hn h⟩
theorem da (hr : r = (σ', t', false)) (hv : Ix g.rp t' v) (hn : zh t'.at' = n) (hl : g.rp.length = σ'.obs.length) (h : ac (eB e p (WG e n) v t' * (aJ p g σ' * R)) H) :
 ∃ x : Unit, (.tuple #[.agg (n3 0).toArray, vb false]) = dk r ∧ ac (eQ e p g.rp r * R) H := by
 refine Ga hr hv hn ?_;have h1 := bG (p := p) (rp := g.rp) (σ := σ') (R := eB e p (WG e n) v t' * R) g rfl hl h.to;exact h1.to
theorem Ba (hr : r = (σ', t', true)) (hc : t'.code = c) (h : ac (bS p rp σ' * R) H) :
 ∃ x : Unit, (.tuple #[.agg (n3 c).toArray, vb true]) = dk r ∧ ac (eQ e p rp r * R) H := by
 subst hr;subst hc;exact ⟨(), rfl, h⟩
theorem fT (nx rv : Value) (t' : Tk) (n : Nat) {b : Nat} {Q : Value → AH → Prop} (h : ac P H) [fr : Fr P (eB e p nx rv t' * blk b (.cells false [vi 0, .slice none 0 0, vi 0, vw 0])) R]
 (hk : ∀ H', ac (eB e p (WG e n) rv t' * R) H' → Q (.tuple #[.agg (n3 0).toArray, vb false]) H') :
 wp ((FF bk [vp e, WG e n] H).bind fun r2 => (ak r2.1 0).bind fun v3 => (ak r2.1 1).bind fun v4 => (dc 4 (vp b) v3 r2.2).bind fun H5 => (aC 4 (vp b) H5).bind fun v6 => some (Value.tuple #[v6, v4], H5)) Q :=
 oY h (alY e p nx rv n t') hk
end
section
variable (e p : Nat) (rp : List Nat) (σ : az) (t : Tk) (now : Int)
theorem Yl (S : SOk σ) (T : fe σ t) (hat : t.at' = 3) : Sp cH [vp e, vi now] (eP e p rp σ t) (fun _ : Unit => dk (ai σ t now)) (fun _ => eQ e p rp (ai σ t now)) := by
 have hN : σ.μ.N < 1099511627000 := by have := S.N; omega
 refine aZ fun R H h => ?_;obtain ⟨nx, rv, g, hv, rfl, hl, _, h0⟩ := cW h;refine bf (fun r => ME _ _ H) ?_;refine bm h0 fun b1 H1 h1 => ?_;refine av h1 ae rfl ?_;refine av h1 ae rfl ?_;refine av h1 ae rfl ?_;refine av h1 ae rfl ?_;refine ag h1 (YL (p := p) (g := g) (σ := σ) (PV g.tb g.m σ.c.sh.toNat σ.c.sl.toNat σ.μ t.who t.s hN)) fun _ H2 h2 => ?_
 by_cases hw : σ.μ.V (8, t.s, 0) = 0
 ·rw [iy hw]
  refine gs ?_;rw [Bool.not_true];refine gs ?_;refine bw h2 ae rfl rfl fun H3 h3 => ?_;refine fT (e := e) (p := p) nx rv { t with at' := 4, i := 0 } dB h3 fun H9 h9 => ?_;exact da (σ' := σ.mem (σ.μ.swp t.who (8, t.s, 0) 0 1)) (t' := { t with at' := 4, i := 0 }) (v := rv) (n := dB) (by simp only [ai, hat]; rw [if_pos hw]) (gT (by simp)) rfl hl h9.to
 ·rw [gU hw]
  refine gs ?_;rw [Bool.not_false];refine gs ?_;refine fT (e := e) (p := p) nx rv t cH h2 fun H9 h9 => ?_;exact da (σ' := σ.mem (σ.μ.swp t.who (8, t.s, 0) 0 1)) (t' := t) (v := rv) (n := cH) (by simp only [ai, hat]; rw [if_neg hw]) (gT (by omega)) (by rw [hat]; rfl) hl h9.to
theorem Lz (S : SOk σ) (T : fe σ t) (hat : t.at' = 5) : Sp dC [vp e, vi now] (eP e p rp σ t) (fun _ : Unit => dk (ai σ t now)) (fun _ => eQ e p rp (ai σ t now)) := by
 have hN : σ.μ.N < 1099511627000 := by have := S.N; omega
 refine aZ fun R H h => ?_;obtain ⟨nx, rv, g, hv, rfl, hl, _, h0⟩ := cW h;refine bf (fun r => F9 _ _ H) ?_;refine bm h0 fun b1 H1 h1 => ?_;refine av h1 ae rfl ?_;refine av h1 ae rfl ?_;refine av h1 ae rfl ?_;refine av h1 ae rfl ?_;refine ag h1 (YL (p := p) (g := g) (σ := σ) (IU g.tb g.m σ.c.sh.toNat σ.c.sl.toNat σ.μ t.who t.s hN)) fun _ H2 h2 => ?_;refine av h2 ae rfl ?_;cases hf : t.found
 ·refine gs ?_
  rw [Bool.not_false];refine gs ?_;refine oY h2 (ux (vp e) 5) fun H9 h9 => ?_;exact Ba (σ' := σ.mem ((σ.μ.acc t.who 2 (8, t.s, 0)).put (8, t.s, 0) 0)) (t' := { t with at' := 6 }) (by simp only [ai, hat, hf]; rfl) (T.c5 hat hf) (bG (p := p) (rp := g.rp) (R := R) g rfl hl h9.to)
 ·refine gs ?_
  rw [Bool.not_true];refine gs ?_;refine fT (e := e) (p := p) nx rv { t with at' := 6 } f3 h2 fun H9 h9 => ?_;exact da (σ' := σ.mem ((σ.μ.acc t.who 2 (8, t.s, 0)).put (8, t.s, 0) 0)) (t' := { t with at' := 6 }) (v := rv) (n := f3) (by simp only [ai, hat, hf]; rfl) (gT (by simp)) rfl hl h9.to
theorem Ym (S : SOk σ) (T : fe σ t) (hat : t.at' = 6) : Sp f3 [vp e, vi now] (eP e p rp σ t) (fun _ : Unit => dk (ai σ t now)) (fun _ => eQ e p rp (ai σ t now)) := by
 have hN : σ.μ.N < 1099511627000 := by have := S.N; omega
 refine aZ fun R H h => ?_;obtain ⟨nx, rv, g, hv, rfl, hl, _, h0⟩ := cW h;have ho := T.obj (.inl (by omega));obtain ⟨b, hb⟩ : ∃ b, g.rp[t.obj]? = some b := ⟨_, br (by omega)⟩;refine bf (fun r => MF _ _ H) ?_;refine bm h0 fun b1 H1 h1 => ?_;refine av h1 ae rfl ?_;refine av h1 ae rfl ?_;refine av h1 ae rfl ?_;refine ag h1 (OE p g σ hl t.who t.obj ho S.N) fun _ H2 h2 => ?_;refine av h2 ae rfl ?_;refine av h2 ae rfl ?_;refine ag h2 (qM p g (σ.mem (σ.μ.acc t.who 5 (13, (t.obj : Int), 0))) hl t.obj b ho hb) fun _ H3 h3 => ?_;refine bw h3 ae rfl rfl fun H4 h4 => ?_;refine fT (e := e) (p := p) nx (vp b) { t with at' := 7 } bM h4 fun H9 h9 => ?_;exact da (σ' := σ.mem (σ.μ.acc t.who 5 (13, (t.obj : Int), 0))) (t' := { t with at' := 7 }) (v := (vp b)) (n := bM) (by simp only [ai, hat]) (cf hb) rfl hl h9.to
theorem Yq (S : SOk σ) (T : fe σ t) (hat : t.at' = 7) : Sp bM [vp e, vi now] (eP e p rp σ t) (fun _ : Unit => dk (ai σ t now)) (fun _ => eQ e p rp (ai σ t now)) := by
 have hN : σ.μ.N < 1099511627000 := by have := S.N; omega
 refine aZ fun R H h => ?_;obtain ⟨nx, rv, g, hv, rfl, hl, _, h0⟩ := cW h;obtain ⟨b, hb, rfl⟩ := hv (by omega);have ho := T.obj (.inl (by omega));refine bf (fun r => ML _ _ H) ?_;refine bm h0 fun b1 H1 h1 => ?_;refine av h1 ae rfl ?_;refine av h1 ae rfl ?_;refine ag h1 (iA (p := p) hl ho hb (Fv g.m t.obj b (am σ t.obj) σ.μ t.who hN)) fun _ H2 h2 => ?_;refine bw h2 ae rfl rfl fun H3 h3 => ?_;refine av h3 ae rfl ?_;refine ag h3 (oZ _ (S.V _)) fun _ H4 h4 => ?_
 by_cases hw : aS (σ.μ.V (11, (t.obj : Int), 0)) = 2
 ·refine aa (bF hw) ?_
  refine gs ?_;refine fT (e := e) (p := p) nx (vp b) { t with w := σ.μ.V (11, (t.obj : Int), 0), at' := 3 } cH h4 fun H9 h9 => ?_;exact da (σ' := kD σ t) (t' := { t with w := σ.μ.V (11, (t.obj : Int), 0), at' := 3 }) (v := (vp b)) (n := cH) (by simp only [ai, hat]; rw [if_pos hw]) (gT (by simp)) rfl hl h9.to
 ·refine aa (aQ hw) ?_
  refine gs ?_;refine fT (e := e) (p := p) nx (vp b) { t with w := σ.μ.V (11, (t.obj : Int), 0), at' := 8 } kW h4 fun H9 h9 => ?_;exact da (σ' := kD σ t) (t' := { t with w := σ.μ.V (11, (t.obj : Int), 0), at' := 8 }) (v := (vp b)) (n := kW) (by simp only [ai, hat]; rw [if_neg hw]) (cf hb) rfl hl h9.to
theorem Do (S : SOk σ) (T : fe σ t) (hat : t.at' = 16) : Sp d5 [vp e, vi now] (eP e p rp σ t) (fun _ : Unit => dk (ai σ t now)) (fun _ => eQ e p rp (ai σ t now)) := by
 have hN : σ.μ.N < 1099511627000 := by have := S.N; omega
 refine aZ fun R H h => ?_;obtain ⟨nx, rv, g, hv, rfl, hl, _, h0⟩ := cW h;obtain ⟨b, hb, rfl⟩ := hv (by omega);have ho := T.obj (.inl (by omega));refine bf (fun r => yW _ _ H) ?_;refine bm h0 fun b1 H1 h1 => ?_;refine av h1 ae rfl ?_;refine av h1 ae rfl ?_;refine ag h1 (iA (p := p) hl ho hb (Fv g.m t.obj b (am σ t.obj) σ.μ t.who hN)) fun _ H2 h2 => ?_;refine bw h2 ae rfl rfl fun H3 h3 => ?_;refine av h3 ae rfl ?_;refine ag h3 (oZ _ (S.V _)) fun _ H4 h4 => ?_
 by_cases hw : aS (σ.μ.V (11, (t.obj : Int), 0)) = 2
 ·refine aa (bF hw) ?_
  refine gs ?_;refine fT (e := e) (p := p) nx (vp b) { t with w := σ.μ.V (11, (t.obj : Int), 0), at' := 3 } cH h4 fun H9 h9 => ?_;exact da (σ' := kD σ t) (t' := { t with w := σ.μ.V (11, (t.obj : Int), 0), at' := 3 }) (v := (vp b)) (n := cH) (by simp only [ai, hat]; rw [if_pos hw]) (gT (by simp)) rfl hl h9.to
 ·refine aa (aQ hw) ?_
  refine gs ?_;refine fT (e := e) (p := p) nx (vp b) { t with w := σ.μ.V (11, (t.obj : Int), 0), at' := 17 } d4 h4 fun H9 h9 => ?_;exact da (σ' := kD σ t) (t' := { t with w := σ.μ.V (11, (t.obj : Int), 0), at' := 17 }) (v := (vp b)) (n := d4) (by simp only [ai, hat]; rw [if_neg hw]) (cf hb) rfl hl h9.to
theorem Yi (S : SOk σ) (T : fe σ t) (hat : t.at' = 8) : Sp kW [vp e, vi now] (eP e p rp σ t) (fun _ : Unit => dk (ai σ t now)) (fun _ => eQ e p rp (ai σ t now)) := by
 have hN : σ.μ.N < 1099511627000 := by have := S.N; omega
 refine aZ fun R H h => ?_;obtain ⟨nx, rv, g, hv, rfl, hl, _, h0⟩ := cW h;obtain ⟨b, hb, rfl⟩ := hv (by omega);have ho := T.obj (.inl (by omega));refine bf (fun r => MC _ _ H) ?_;refine bm h0 fun b1 H1 h1 => ?_;refine av h1 ae rfl ?_;refine av h1 ae rfl ?_;refine ag h1 (iA (p := p) hl ho hb (Ft g.m t.obj b (am σ t.obj) σ.μ t.who hN)) fun _ H2 h2 => ?_;refine ah (DS _ _ _ _ H2) ?_;refine av h2 ae rfl ?_;refine av h2 ae rfl ?_;refine ag h2 (FY (p := p) (σ := iF σ t) hl ho hb (Fs g.m t.obj b (am σ t.obj) t.w (σ.μ.V (12, (t.obj : Int), 0)) T.w (S.cells _ ho).2)) fun _ H3 h3 => ?_;cases hf : mn t.w (σ.μ.V (12, (t.obj : Int), 0)) (am σ t.obj).length
 ·refine gs ?_
  refine av h3 ae rfl ?_;refine ag h3 (oZ _ T.w) fun _ H4 h4 => ?_
  by_cases hw : aS t.w = 1
  ·refine aa (bF hw) ?_
   refine gs ?_;refine fT (e := e) (p := p) nx (vp b) { t with at' := 9 } jq h4 fun H9 h9 => ?_;exact da (σ' := iF σ t) (t' := { t with at' := 9 }) (v := (vp b)) (n := jq) (by simp only [ai, hat, ku, hf]; rw [if_pos hw]; rfl) (cf hb) rfl hl h9.to
  ·refine aa (aQ hw) ?_
   refine gs ?_;refine ah (DT _ _ _ H4) ?_;refine fT (e := e) (p := p) nx (vp b) { t with at' := 12 } jp h4 fun H9 h9 => ?_;exact da (σ' := iF σ t) (t' := { t with at' := 12 }) (v := (vp b)) (n := jp) (by simp only [ai, hat, ku, hf]; rw [if_neg hw]; rfl) (cf hb) rfl hl h9.to
 ·refine gs ?_
  refine fT (e := e) (p := p) nx (vp b) { t with at' := 15 } nV h3 fun H9 h9 => ?_;exact da (σ' := iF σ t) (t' := { t with at' := 15 }) (v := (vp b)) (n := nV) (by simp only [ai, hat, ku, hf]; rfl) (cf hb) rfl hl h9.to
theorem PQ (S : SOk σ) (T : fe σ t) (hat : t.at' = 9) : Sp jq [vp e, vi now] (eP e p rp σ t) (fun _ : Unit => dk (ai σ t now)) (fun _ => eQ e p rp (ai σ t now)) := by
 have hN : σ.μ.N < 1099511627000 := by have := S.N; omega
 refine aZ fun R H h => ?_;obtain ⟨nx, rv, g, hv, rfl, hl, _, h0⟩ := cW h;obtain ⟨b, hb, rfl⟩ := hv (by omega);have ho := T.obj (.inl (by omega));refine bf (fun r => Jx _ _ H) ?_;refine bm h0 fun b1 H1 h1 => ?_;refine av h1 ae rfl ?_;refine av h1 ae rfl ?_;refine av h1 ae rfl ?_;refine ag h1 (iA (p := p) hl ho hb (C5 g.m t.obj b (am σ t.obj) σ.μ t.who t.w T.w hN)) fun _ H2 h2 => ?_;cases hw : cY σ.μ t.obj t.w (aR t.w 0)
 ·refine gs ?_
  rw [Bool.not_false];refine gs ?_;refine fT (e := e) (p := p) nx (vp b) { t with at' := 7 } bM h2 fun H9 h9 => ?_;exact da (σ' := σ.mem (σ.μ.turn t.who t.obj t.w (aR t.w 0))) (t' := { t with at' := 7 }) (v := (vp b)) (n := bM) (by simp only [ai, hat, hw]; rfl) (cf hb) rfl hl h9.to
 ·refine gs ?_
  rw [Bool.not_true];refine gs ?_;have k2 := bG (p := p) (rp := g.rp) (σ := σ.mem (σ.μ.turn t.who t.obj t.w (aR t.w 0))) (R := eB e p nx (vp b) t * (blk b1 (.cells false [vi 0, .slice none 0 0, vi 0, vw 0]) * R)) g rfl hl h2.to;refine ag k2 (uy e p g.rp (σ.mem (σ.μ.turn t.who t.obj t.w (aR t.w 0))) nx (vp b) t now 0 (by have := S.pts; show σ.pts.length < _; omega)) fun _ H3 h3 => ?_;refine fT (e := e) (p := p) nx (vp b) { t with at' := 10, code := 0 } nU h3 fun H9 h9 => ?_;exact Ga (σ' := (σ.mem (σ.μ.turn t.who t.obj t.w (aR t.w 0))).note now t.who 0) (t' := { t with at' := 10, code := 0 }) (v := (vp b)) (n := nU) (by simp only [ai, hat, hw]; rfl) (cf hb) rfl h9.to
theorem Yp (S : SOk σ) (T : fe σ t) (hat : t.at' = 13) : Sp la [vp e, vi now] (eP e p rp σ t) (fun _ : Unit => dk (ai σ t now)) (fun _ => eQ e p rp (ai σ t now)) := by
 have hN : σ.μ.N < 1099511627000 := by have := S.N; omega
 refine aZ fun R H h => ?_;obtain ⟨nx, rv, g, hv, rfl, hl, _, h0⟩ := cW h;obtain ⟨b, hb, rfl⟩ := hv (by omega);have ho := T.obj (.inl (by omega));refine bf (fun r => MK _ _ H) ?_;refine bm h0 fun b1 H1 h1 => ?_;refine av h1 ae rfl ?_;refine av h1 ae rfl ?_;refine av h1 ae rfl ?_;refine ag h1 (iA (p := p) hl ho hb (C5 g.m t.obj b (am σ t.obj) σ.μ t.who t.w T.w hN)) fun _ H2 h2 => ?_;cases hw : cY σ.μ t.obj t.w (aR t.w 0)
 ·refine gs ?_
  rw [Bool.not_false];refine gs ?_;refine fT (e := e) (p := p) nx (vp b) { t with at' := 20 } kT h2 fun H9 h9 => ?_;exact da (σ' := σ.mem (σ.μ.turn t.who t.obj t.w (aR t.w 0))) (t' := { t with at' := 20 }) (v := (vp b)) (n := kT) (by simp only [ai, hat, hw]; rfl) (cf hb) rfl hl h9.to
 ·refine gs ?_
  rw [Bool.not_true];refine gs ?_;have k2 := bG (p := p) (rp := g.rp) (σ := σ.mem (σ.μ.turn t.who t.obj t.w (aR t.w 0))) (R := eB e p nx (vp b) t * (blk b1 (.cells false [vi 0, .slice none 0 0, vi 0, vw 0]) * R)) g rfl hl h2.to;refine ag k2 (uy e p g.rp (σ.mem (σ.μ.turn t.who t.obj t.w (aR t.w 0))) nx (vp b) t now 0 (by have := S.pts; show σ.pts.length < _; omega)) fun _ H3 h3 => ?_;refine fT (e := e) (p := p) nx (vp b) { t with at' := 14, code := 0 } kU h3 fun H9 h9 => ?_;exact Ga (σ' := (σ.mem (σ.μ.turn t.who t.obj t.w (aR t.w 0))).note now t.who 0) (t' := { t with at' := 14, code := 0 }) (v := (vp b)) (n := kU) (by simp only [ai, hat, hw]; rfl) (cf hb) rfl h9.to
theorem z6 (σ : az) (t : Tk) : g7 σ t = { σ with μ := σ.μ.acc t.who 6 (16, (t.obj : Int), ((ax t.w % (am σ t.obj).length : Nat) : Int)), obs := σ.obs.modify t.obj fun q => (q.1, (am σ t.obj).set (ax t.w % (am σ t.obj).length) ⟨t.x.flow, t.x.a, t.x.b⟩) } := by
 have eo : (σ.obs.modify t.obj fun q => (q.1, q.2.set (ax t.w % (am σ t.obj).length) (⟨t.x.flow, t.x.a, t.x.b⟩ : Pk))) = σ.obs.modify t.obj fun q => (q.1, (am σ t.obj).set (ax t.w % (am σ t.obj).length) ⟨t.x.flow, t.x.a, t.x.b⟩) := by
  apply List.ext_getElem?;intro j;rw [List.getElem?_modify, List.getElem?_modify]
  cases hj : σ.obs[j]? with
  | none => rfl
  | some q =>
   show some (if t.obj = j then _ else q) = some (if t.obj = j then _ else q)
   by_cases e : t.obj = j
   ·subst e
    rw [if_pos rfl, if_pos rfl];unfold am;rw [hj]; rfl
   ·rw [if_neg e, if_neg e]
 exact congrArg (fun o => ({ σ with μ := σ.μ.acc t.who 6 (16, (t.obj : Int), ((ax t.w % (am σ t.obj).length : Nat) : Int)), obs := o } : az)) eo
theorem QK (S : SOk σ) (T : fe σ t) (nx : Value) (g : PIds) (b : Nat) (hl : g.rp.length = σ.obs.length) (ho : t.obj < σ.obs.length) (hb : g.rp[t.obj]? = some b) :
 Sp vm [vp e] (eB e p nx (vp b) t * aJ p g σ) (fun _ : Unit => .tuple #[]) (fun _ => eB e p nx (vp b) t * aJ p g (g7 σ t)) := by
 have hN : σ.μ.N < 1099511627000 := by have := S.N; omega
 refine aX (UU _) fun R H h => ?_;refine bp ae ?_;refine aL h rfl ?_;refine bp ae ?_;refine aL h rfl ?_;refine av h ae rfl ?_;refine ag h (jF t.w T.w) fun _ H1 h1 => ?_;refine aI h1 h (by rfl) ?_;refine aI h1 h (by rfl) ?_;refine bp (jb (cm (cm cn))) ?_;refine aL h1 rfl ?_;refine aI h h1 (by rfl) ?_;refine bp (jb (cm (cm cn))) ?_;refine aL h1 rfl ?_;refine aI h h1 (by rfl) ?_;refine bp (jb (cm (cm cn))) ?_;refine aL h1 rfl ?_;refine aI h h1 (by rfl) ?_;refine kP ?_;refine ag h1 (YK (p := p) hl ho hb (aeW g.m t.obj b (am σ t.obj) σ.μ t.who (ax t.w) ⟨t.x.flow, t.x.a, t.x.b⟩ (S.cells _ ho) hN)) fun _ H2 h2 => ?_;refine aq ⟨(), rfl, ?_⟩;rw [z6];exact h2.to
theorem iH (σ : az) (t : Tk) : (g7 σ t).obs.length = σ.obs.length := by unfold g7; simp
theorem af0 (S : SOk σ) (T : fe σ t) (hat : t.at' = 10) : Sp nU [vp e, vi now] (eP e p rp σ t) (fun _ : Unit => dk (ai σ t now)) (fun _ => eQ e p rp (ai σ t now)) := by
 have hN : σ.μ.N < 1099511627000 := by have := S.N; omega
 refine aZ fun R H h => ?_;obtain ⟨nx, rv, g, hv, rfl, hl, _, h0⟩ := cW h;obtain ⟨b, hb, rfl⟩ := hv (by omega);have ho := T.obj (.inl (by omega));refine bf (fun r => UV _ _ H) ?_;refine bm h0 fun b1 H1 h1 => ?_;refine ag h1 (QK e p σ t S T nx g b hl ho hb) fun _ H2 h2 => ?_;refine fT (e := e) (p := p) nx (vp b) { t with at' := 11 } k7 h2 fun H9 h9 => ?_;exact da (σ' := g7 σ t) (t' := { t with at' := 11 }) (v := (vp b)) (n := k7) (by simp only [ai, hat]) (cf hb) rfl (by rw [iH]; exact hl) h9.to
theorem Yh (S : SOk σ) (T : fe σ t) (hat : t.at' = 14) : Sp kU [vp e, vi now] (eP e p rp σ t) (fun _ : Unit => dk (ai σ t now)) (fun _ => eQ e p rp (ai σ t now)) := by
 have hN : σ.μ.N < 1099511627000 := by have := S.N; omega
 refine aZ fun R H h => ?_;obtain ⟨nx, rv, g, hv, rfl, hl, _, h0⟩ := cW h;obtain ⟨b, hb, rfl⟩ := hv (by omega);have ho := T.obj (.inl (by omega));refine bf (fun r => MA _ _ H) ?_;refine bm h0 fun b1 H1 h1 => ?_;refine ag h1 (QK e p σ t S T nx g b hl ho hb) fun _ H2 h2 => ?_;refine fT (e := e) (p := p) nx (vp b) { t with at' := 21 } jt h2 fun H9 h9 => ?_;exact da (σ' := g7 σ t) (t' := { t with at' := 21 }) (v := (vp b)) (n := jt) (by simp only [ai, hat]) (cf hb) rfl (by rw [iH]; exact hl) h9.to
theorem Yo (S : SOk σ) (T : fe σ t) (hat : t.at' = 11) : Sp k7 [vp e, vi now] (eP e p rp σ t) (fun _ : Unit => dk (ai σ t now)) (fun _ => eQ e p rp (ai σ t now)) := by
 have hN : σ.μ.N < 1099511627000 := by have := S.N; omega
 refine aZ fun R H h => ?_;obtain ⟨nx, rv, g, hv, rfl, hl, _, h0⟩ := cW h;obtain ⟨b, hb, rfl⟩ := hv (by omega);have ho := T.obj (.inl (by omega));refine bf (fun r => MJ _ _ H) ?_;refine bm h0 fun b1 H1 h1 => ?_;refine bp ae ?_;refine aL h1 rfl ?_;refine bp ae ?_;refine aL h1 rfl ?_;refine av h1 ae rfl ?_;refine ag h1 (jF t.w T.w) fun _ H2 h2 => ?_;refine aI h2 h1 (by rfl) ?_;refine aI h2 h1 (by rfl) ?_;have hwc := ej t.w;refine ag h2 (iA (p := p) hl ho hb (Fu g.m t.obj b (am σ t.obj) σ.μ t.who (ax t.w) (by omega) (S.cells _ ho) hN)) fun _ H3 h3 => ?_;refine oY h3 (ux (vp e) 0) fun H9 h9 => ?_;exact Ba (σ' := kC σ t) (t' := t) (by simp only [ai, hat]) (T.c0 (by omega)) (bG (p := p) (rp := g.rp) (R := R) g rfl hl h9.to)
theorem PS (S : SOk σ) (T : fe σ t) (hat : t.at' = 21) : Sp jt [vp e, vi now] (eP e p rp σ t) (fun _ : Unit => dk (ai σ t now)) (fun _ => eQ e p rp (ai σ t now)) := by
 have hN : σ.μ.N < 1099511627000 := by have := S.N; omega
 refine aZ fun R H h => ?_;obtain ⟨nx, rv, g, hv, rfl, hl, _, h0⟩ := cW h;obtain ⟨b, hb, rfl⟩ := hv (by omega);have ho := T.obj (.inl (by omega));refine bf (fun r => Jz _ _ H) ?_;refine bm h0 fun b1 H1 h1 => ?_;refine bp ae ?_;refine aL h1 rfl ?_;refine bp ae ?_;refine aL h1 rfl ?_;refine av h1 ae rfl ?_;refine ag h1 (jF t.w T.w) fun _ H2 h2 => ?_;refine aI h2 h1 (by rfl) ?_;refine aI h2 h1 (by rfl) ?_;have hwc := ej t.w;refine ag h2 (iA (p := p) hl ho hb (Fu g.m t.obj b (am σ t.obj) σ.μ t.who (ax t.w) (by omega) (S.cells _ ho) hN)) fun _ H3 h3 => ?_;refine fT (e := e) (p := p) nx (vp b) { t with at' := 22 } cX h3 fun H9 h9 => ?_;exact da (σ' := kC σ t) (t' := { t with at' := 22 }) (v := (vp b)) (n := cX) (by simp only [ai, hat]) (cf hb) rfl hl h9.to
theorem PO (S : SOk σ) (T : fe σ t) (hat : t.at' = 12) : Sp jp [vp e, vi now] (eP e p rp σ t) (fun _ : Unit => dk (ai σ t now)) (fun _ => eQ e p rp (ai σ t now)) := by
 have hN : σ.μ.N < 1099511627000 := by have := S.N; omega
 refine aZ fun R H h => ?_;obtain ⟨nx, rv, g, hv, rfl, hl, _, h0⟩ := cW h;obtain ⟨b, hb, rfl⟩ := hv (by omega);have ho := T.obj (.inl (by omega));refine bf (fun r => Jw _ _ H) ?_;refine bm h0 fun b1 H1 h1 => ?_;refine av h1 ae rfl ?_;refine av h1 ae rfl ?_;refine av h1 ae rfl ?_;refine ag h1 (Ei (p := p) (g := g) (σ := σ) (Kq g.ib g.m g.nm σ.c σ.nx σ.μ t.who hN)) fun _ H2 h2 => ?_;refine fT (e := e) (p := p) nx (vp b) { t with at' := 13 } la h2 fun H9 h9 => ?_;exact da (σ' := σ.mem (σ.μ.cnt t.who (3, 0, 0) 4294967296)) (t' := { t with at' := 13 }) (v := (vp b)) (n := la) (by simp only [ai, hat]) (cf hb) rfl hl h9.to
theorem Yf (S : SOk σ) (T : fe σ t) (hat : t.at' = 20) : Sp kT [vp e, vi now] (eP e p rp σ t) (fun _ : Unit => dk (ai σ t now)) (fun _ => eQ e p rp (ai σ t now)) := by
 have hN : σ.μ.N < 1099511627000 := by have := S.N; omega
 refine aZ fun R H h => ?_;obtain ⟨nx, rv, g, hv, rfl, hl, _, h0⟩ := cW h;obtain ⟨b, hb, rfl⟩ := hv (by omega);have ho := T.obj (.inl (by omega));refine bf (fun r => Mz _ _ H) ?_;refine bm h0 fun b1 H1 h1 => ?_;refine av h1 ae rfl ?_;refine av h1 ae rfl ?_;refine av h1 ae rfl ?_;refine ag h1 (Ei (p := p) (g := g) (σ := σ) (EX g.ib g.m g.nm σ.c σ.nx σ.μ t.who hN)) fun _ H2 h2 => ?_;refine fT (e := e) (p := p) nx (vp b) { t with at' := 7 } bM h2 fun H9 h9 => ?_;exact da (σ' := σ.mem (σ.μ.cnt t.who (3, 0, 0) 1)) (t' := { t with at' := 7 }) (v := (vp b)) (n := bM) (by simp only [ai, hat]) (cf hb) rfl hl h9.to
theorem afZ (S : SOk σ) (T : fe σ t) (hat : t.at' = 25) : Sp nT [vp e, vi now] (eP e p rp σ t) (fun _ : Unit => dk (ai σ t now)) (fun _ => eQ e p rp (ai σ t now)) := by
 have hN : σ.μ.N < 1099511627000 := by have := S.N; omega
 refine aZ fun R H h => ?_;obtain ⟨nx, rv, g, hv, rfl, hl, _, h0⟩ := cW h;obtain ⟨b, hb, rfl⟩ := hv (by omega);have ho := T.obj (.inl (by omega));refine bf (fun r => US _ _ H) ?_;refine bm h0 fun b1 H1 h1 => ?_;refine av h1 ae rfl ?_;refine av h1 ae rfl ?_;refine av h1 ae rfl ?_;refine ag h1 (Ei (p := p) (g := g) (σ := σ) (EX g.ib g.m g.nm σ.c σ.nx σ.μ t.who hN)) fun _ H2 h2 => ?_;refine oY h2 (ux (vp e) 0) fun H9 h9 => ?_;exact Ba (σ' := σ.mem (σ.μ.cnt t.who (3, 0, 0) 1)) (t' := t) (by simp only [ai, hat]) (T.c0 (by omega)) (bG (p := p) (rp := g.rp) (R := R) g rfl hl h9.to)
theorem IS (S : SOk σ) (T : fe σ t) (hat : t.at' = 22) : Sp cX [vp e, vi now] (eP e p rp σ t) (fun _ : Unit => dk (ai σ t now)) (fun _ => eQ e p rp (ai σ t now)) := by
 have hN : σ.μ.N < 1099511627000 := by have := S.N; omega
 refine aZ fun R H h => ?_;obtain ⟨nx, rv, g, hv, rfl, hl, _, h0⟩ := cW h;obtain ⟨b, hb, rfl⟩ := hv (by omega);have ho := T.obj (.inl (by omega));refine bf (fun r => DW _ _ H) ?_;refine bm h0 fun b1 H1 h1 => ?_;refine av h1 ae rfl ?_;refine av h1 ae rfl ?_;refine av h1 ae rfl ?_;refine av h1 ae rfl ?_;refine ag h1 (Ei (p := p) (g := g) (σ := σ) (WJ g.ib g.m g.nm σ.c σ.nx σ.μ t.who t.s hN)) fun _ H2 h2 => ?_;refine bw h2 ae rfl rfl fun H3 h3 => ?_;refine fT (e := e) (p := p) nx (vp b) { t with top := σ.μ.V (9, t.s, 0), at' := 23 } kX h3 fun H9 h9 => ?_;exact da (σ' := σ.mem (σ.μ.acc t.who 1 (9, t.s, 0))) (t' := { t with top := σ.μ.V (9, t.s, 0), at' := 23 }) (v := (vp b)) (n := kX) (by simp only [ai, hat]) (cf hb) rfl hl h9.to
theorem Yk (S : SOk σ) (T : fe σ t) (hat : t.at' = 23) : Sp kX [vp e, vi now] (eP e p rp σ t) (fun _ : Unit => dk (ai σ t now)) (fun _ => eQ e p rp (ai σ t now)) := by
 have hN : σ.μ.N < 1099511627000 := by have := S.N; omega
 refine aZ fun R H h => ?_;obtain ⟨nx, rv, g, hv, rfl, hl, _, h0⟩ := cW h;obtain ⟨b, hb, rfl⟩ := hv (by omega);have ho := T.obj (.inl (by omega));refine bf (fun r => MD _ _ H) ?_;refine bm h0 fun b1 H1 h1 => ?_;refine av h1 ae rfl ?_;refine av h1 ae rfl ?_;refine av h1 ae rfl ?_;refine av h1 ae rfl ?_;refine av h1 ae rfl ?_;refine ag h1 (Ei (p := p) (g := g) (σ := σ) (NZ g.ib g.m g.nm σ.c σ.nx σ.μ t.who t.obj t.top hN)) fun _ H2 h2 => ?_;refine fT (e := e) (p := p) nx (vp b) { t with at' := 24 } kZ h2 fun H9 h9 => ?_;exact da (σ' := { σ with μ := σ.μ.acc t.who 6 (14, (t.obj : Int), 0), nx := fun k => if k = (t.obj : Int) then some t.top else σ.nx k }) (t' := { t with at' := 24 }) (v := (vp b)) (n := kZ) (by simp only [ai, hat]) (cf hb) rfl hl h9.to
theorem Yn (S : SOk σ) (T : fe σ t) (hat : t.at' = 24) : Sp kZ [vp e, vi now] (eP e p rp σ t) (fun _ : Unit => dk (ai σ t now)) (fun _ => eQ e p rp (ai σ t now)) := by
 have hN : σ.μ.N < 1099511627000 := by have := S.N; omega
 refine aZ fun R H h => ?_;obtain ⟨nx, rv, g, hv, rfl, hl, _, h0⟩ := cW h;obtain ⟨b, hb, rfl⟩ := hv (by omega);have ho := T.obj (.inl (by omega));refine bf (fun r => MH _ _ H) ?_;refine bm h0 fun b1 H1 h1 => ?_;refine av h1 ae rfl ?_;refine av h1 ae rfl ?_;refine av h1 ae rfl ?_;refine av h1 ae rfl ?_;refine av h1 ae rfl ?_;refine av h1 ae rfl ?_;refine ag h1 (Ei (p := p) (g := g) (σ := σ) (N2 g.ib g.m g.nm σ.c σ.nx σ.μ t.who t.s t.top t.obj (by have := S.obs; omega) hN)) fun _ H2 h2 => ?_
 by_cases hw : σ.μ.V (9, t.s, 0) = t.top
 ·rw [iy hw]
  refine gs ?_;rw [Bool.not_true];refine gs ?_;refine fT (e := e) (p := p) nx (vp b) { t with at' := 25 } nT h2 fun H9 h9 => ?_;exact da (σ' := σ.mem (σ.μ.swp t.who (9, t.s, 0) t.top (t.obj + 1))) (t' := { t with at' := 25 }) (v := (vp b)) (n := nT) (by simp only [ai, hat]; rw [if_pos hw]) (cf hb) rfl hl h9.to
 ·rw [gU hw]
  refine gs ?_;rw [Bool.not_false];refine gs ?_;refine fT (e := e) (p := p) nx (vp b) { t with at' := 22 } cX h2 fun H9 h9 => ?_;exact da (σ' := σ.mem (σ.μ.swp t.who (9, t.s, 0) t.top (t.obj + 1))) (t' := { t with at' := 22 }) (v := (vp b)) (n := cX) (by simp only [ai, hat]; rw [if_neg hw]) (cf hb) rfl hl h9.to
theorem af1 (S : SOk σ) (T : fe σ t) (hat : t.at' = 15) : Sp nV [vp e, vi now] (eP e p rp σ t) (fun _ : Unit => dk (ai σ t now)) (fun _ => eQ e p rp (ai σ t now)) := by
 have hN : σ.μ.N < 1099511627000 := by have := S.N; omega
 refine aZ fun R H h => ?_;obtain ⟨nx, rv, g, hv, rfl, hl, _, h0⟩ := cW h;obtain ⟨b, hb, rfl⟩ := hv (by omega);have ho := T.obj (.inl (by omega));refine bf (fun r => UX _ _ H) ?_;refine bm h0 fun b1 H1 h1 => ?_;refine av h1 ae rfl ?_;refine av h1 ae rfl ?_;refine ag h1 (CD p g σ t.who S.N) fun _ H2 h2 => ?_;refine bw h2 ae rfl rfl fun H3 h3 => ?_;refine av h3 ae rfl ?_;refine aa (TB 2 (by omega)) ?_
 by_cases hw : σ.μ.V (2, 0, 0) % 2 = 1
 ·refine aa (bF (show ((σ.μ.V (2, 0, 0) % 2 : Nat) : Int) = 1 by omega)) ?_
  refine gs ?_;refine fT (e := e) (p := p) nx (vp b) { t with q := σ.μ.V (2, 0, 0), at' := 7 } bM h3 fun H9 h9 => ?_;exact da (σ' := mZ σ t) (t' := { t with q := σ.μ.V (2, 0, 0), at' := 7 }) (v := (vp b)) (n := bM) (by simp only [ai, hat]; rw [if_pos hw]) (cf hb) rfl hl h9.to
 ·refine aa (aQ (show ¬ ((σ.μ.V (2, 0, 0) % 2 : Nat) : Int) = 1 by omega)) ?_
  refine gs ?_;refine fT (e := e) (p := p) nx (vp b) { t with q := σ.μ.V (2, 0, 0), at' := 16 } d5 h3 fun H9 h9 => ?_;exact da (σ' := mZ σ t) (t' := { t with q := σ.μ.V (2, 0, 0), at' := 16 }) (v := (vp b)) (n := d5) (by simp only [ai, hat]; rw [if_neg hw]) (cf hb) rfl hl h9.to
theorem Dm (S : SOk σ) (T : fe σ t) (hat : t.at' = 17) : Sp d4 [vp e, vi now] (eP e p rp σ t) (fun _ : Unit => dk (ai σ t now)) (fun _ => eQ e p rp (ai σ t now)) := by
 have hN : σ.μ.N < 1099511627000 := by have := S.N; omega
 refine aZ fun R H h => ?_;obtain ⟨nx, rv, g, hv, rfl, hl, _, h0⟩ := cW h;obtain ⟨b, hb, rfl⟩ := hv (by omega);have ho := T.obj (.inl (by omega));refine bf (fun r => yT _ _ H) ?_;refine bm h0 fun b1 H1 h1 => ?_;refine bp ae ?_;refine aL h1 rfl ?_;refine bp ae ?_;refine aL h1 rfl ?_;refine av h1 ae rfl ?_;refine av h1 ae rfl ?_;refine ag h1 (iA (p := p) hl ho hb (Ft g.m t.obj b (am σ t.obj) σ.μ t.who hN)) fun _ H2 h2 => ?_;refine aI h2 h1 (by rfl) ?_;refine aI h2 h1 (by rfl) ?_;refine ag h2 (FY (p := p) (σ := iF σ t) hl ho hb (Fs g.m t.obj b (am σ t.obj) t.w (σ.μ.V (12, (t.obj : Int), 0)) T.w (S.cells _ ho).2)) fun _ H3 h3 => ?_;cases hf : mn t.w (σ.μ.V (12, (t.obj : Int), 0)) (am σ t.obj).length
 ·refine gs ?_
  rw [Bool.not_false];refine gs ?_;refine fT (e := e) (p := p) nx (vp b) { t with at' := 7 } bM h3 fun H9 h9 => ?_;exact da (σ' := iF σ t) (t' := { t with at' := 7 }) (v := (vp b)) (n := bM) (by simp only [ai, hat, ku, hf]; rfl) (cf hb) rfl hl h9.to
 ·refine gs ?_
  rw [Bool.not_true];refine gs ?_;refine bw h3 ae rfl rfl fun H4 h4 => ?_;refine fT (e := e) (p := p) nx (vp b) { t with at' := 18, mark := now } ff h4 fun H9 h9 => ?_;exact da (σ' := iF σ t) (t' := { t with at' := 18, mark := now }) (v := (vp b)) (n := ff) (by simp only [ai, hat, ku, hf]; rfl) (cf hb) rfl hl h9.to
theorem Eb (S : SOk σ) (T : fe σ t) (hat : t.at' = 18) : Sp ff [vp e, vi now] (eP e p rp σ t) (fun _ : Unit => dk (ai σ t now)) (fun _ => eQ e p rp (ai σ t now)) := by
 have hN : σ.μ.N < 1099511627000 := by have := S.N; omega
 refine aZ fun R H h => ?_;obtain ⟨nx, rv, g, hv, rfl, hl, _, h0⟩ := cW h;obtain ⟨b, hb, rfl⟩ := hv (by omega);have ho := T.obj (.inl (by omega));refine bf (fun r => A9 _ _ H) ?_;refine bm h0 fun b1 H1 h1 => ?_;refine av h1 ae rfl ?_;refine av h1 ae rfl ?_;refine ag h1 (CD p g σ t.who S.N) fun _ H2 h2 => ?_;refine bp ae ?_;refine aL h2 rfl ?_;refine aI h1 h2 (by rfl) ?_
 by_cases hw : σ.μ.V (2, 0, 0) = t.q
 ·refine aa (yC (show ((σ.μ.V (2, 0, 0) : Nat) : Int) = (t.q : Int) by omega)) ?_
  refine gs ?_;refine av h2 ae rfl ?_;have k2 := bG (p := p) (rp := g.rp) (σ := mZ σ t) (R := eB e p nx (vp b) t * (blk b1 (.cells false [vi 0, .slice none 0 0, vi 0, vw 0]) * R)) g rfl hl h2.to;refine oY k2 (yo e p g.rp (mZ σ t) nx (vp b) t t.mark 9 (by have := S.pts; show σ.pts.length < _; omega)) fun H9 h9 => ?_;exact Ba (σ' := (mZ σ t).note t.mark t.who 9) (t' := { t with code := 9 }) (by simp only [ai, hat]; rw [if_pos hw]) rfl h9.to
 ·refine aa (SY (show ¬ ((σ.μ.V (2, 0, 0) : Nat) : Int) = (t.q : Int) by omega)) ?_
  refine gs ?_;refine fT (e := e) (p := p) nx (vp b) { t with at' := 7 } bM h2 fun H9 h9 => ?_;exact da (σ' := mZ σ t) (t' := { t with at' := 7 }) (v := (vp b)) (n := bM) (by simp only [ai, hat]; rw [if_neg hw]) (cf hb) rfl hl h9.to
def fF (σ : az) (t : Tk) : az × Tk × Bool :=
 (b6 σ t, { aD σ t with at' := if (aD σ t).found = true then 6 else if cR σ (aD σ t) = true then 3 else 2 }, false)
theorem FQ (S : SOk σ) (T : fe σ t) (hat : t.at' = 0 ∨ t.at' = 2) : Sp jr [vp e, vi now] (eP e p rp σ t) (fun _ : Unit => dk (fF σ t)) (fun _ => eQ e p rp (fF σ t)) := by
 have hN : σ.μ.N < 1099511627000 := by have := S.N; omega
 refine aZ fun R H h => ?_;obtain ⟨nx, rv, g, hv, rfl, hl, _, h0⟩ := cW h;have hi := T.i (by omega) (by omega);refine bf (fun r => MI _ _ H) ?_;refine bm h0 fun b1 H1 h1 => ?_;refine ag h1 (QJ e p g σ nx rv t S hi) fun _ H2 h2 => ?_;refine ah (DU _ _ _ _ H2) ?_;refine av h2 ae rfl ?_;cases hf : (aD σ t).found
 ·refine gs ?_
  cases hla : cR σ (aD σ t)
  ·refine gs ?_
   refine ah (DV _ _ _ H2) ?_;refine fT (e := e) (p := p) nx rv { aD σ t with at' := 2 } jr h2 fun H9 h9 => ?_;exact da (σ' := b6 σ t) (t' := { aD σ t with at' := 2 }) (v := rv) (n := jr) (by simp only [fF, hf, hla]; rfl) (gT (by simp)) rfl hl h9.to
  ·refine gs ?_
   refine fT (e := e) (p := p) nx rv { aD σ t with at' := 3 } cH h2 fun H9 h9 => ?_;exact da (σ' := b6 σ t) (t' := { aD σ t with at' := 3 }) (v := rv) (n := cH) (by simp only [fF, hf, hla]; rfl) (gT (by simp)) rfl hl h9.to
 ·refine gs ?_
  refine fT (e := e) (p := p) nx rv { aD σ t with at' := 6 } f3 h2 fun H9 h9 => ?_;exact da (σ' := b6 σ t) (t' := { aD σ t with at' := 6 }) (v := rv) (n := f3) (by simp only [fF, hf]; rfl) (gT (by simp)) rfl hl h9.to
theorem Ly (S : SOk σ) (T : fe σ t) (hat : t.at' = 4) : Sp dB [vp e, vi now] (eP e p rp σ t) (fun _ : Unit => dk (ai σ t now)) (fun _ => eQ e p rp (ai σ t now)) := by
 have hN : σ.μ.N < 1099511627000 := by have := S.N; omega
 refine aZ fun R H h => ?_;obtain ⟨nx, rv, g, hv, rfl, hl, _, h0⟩ := cW h;have hi := T.i (by omega) (by omega);refine bf (fun r => F8 _ _ H) ?_;refine bm h0 fun b1 H1 h1 => ?_;refine ag h1 (QJ e p g σ nx rv t S hi) fun _ H2 h2 => ?_;refine ah (yU _ _ _ _ _ H2) ?_;refine av h2 ae rfl ?_;cases hf : (aD σ t).found
 ·refine gs ?_
  cases hla : cR σ (aD σ t)
  ·refine gs ?_
   refine ah (yV _ _ _ H2) ?_;refine fT (e := e) (p := p) nx rv (aD σ t) dB h2 fun H9 h9 => ?_;exact da (σ' := b6 σ t) (t' := (aD σ t)) (v := rv) (n := dB) (by simp only [ai, hat, hf, hla]; rfl) (gT (show t.at' < 7 by omega)) (by show zh t.at' = _; rw [hat]; rfl) hl h9.to
  ·refine gs ?_
   have k2 := bG (p := p) (rp := g.rp) (σ := b6 σ t) (R := eB e p nx rv (aD σ t) * (blk b1 (.cells false [vi 0, .slice none 0 0, vi 0, vw 0]) * R)) g rfl hl h2.to;refine ag k2 (uy e p g.rp (b6 σ t) nx rv (aD σ t) now 5 (by have := S.pts; show σ.pts.length < _; omega)) fun _ H3 h3 => ?_;refine fT (e := e) (p := p) nx rv { aD σ t with at' := 5, code := 5 } dC h3 fun H9 h9 => ?_;exact Ga (σ' := (b6 σ t).note now (aD σ t).who 5) (t' := { aD σ t with at' := 5, code := 5 }) (v := rv) (n := dC) (by simp only [ai, hat, hf, hla]; rfl) (gT (by simp)) rfl h9.to
 ·refine gs ?_
  refine fT (e := e) (p := p) nx rv { aD σ t with at' := 5 } dC h2 fun H9 h9 => ?_;exact da (σ' := b6 σ t) (t' := { aD σ t with at' := 5 }) (v := rv) (n := dC) (by simp only [ai, hat, hf]; rfl) (gT (by simp)) rfl hl h9.to
theorem PR (S : SOk σ) (T : fe σ t) (hat : t.at' = 0) : Sp lK [vp e, vi now] (eP e p rp σ t) (fun _ : Unit => dk (ai σ t now)) (fun _ => eQ e p rp (ai σ t now)) := by
 have hN : σ.μ.N < 1099511627000 := by have := S.N; omega
 refine aX (Jy _ _) fun R H h => ?_;refine bm h fun b H1 h1 => ?_;refine ah (AZ _ _ _ _ H1) ?_;obtain ⟨nx, rv, g, hv, rfl, hl, _, k1⟩ := cW (e := e) (p := p) (rp := rp) (σ := σ) (t := t) (R := blk b (.cells false [vi 0, .slice none 0 0, vi 0, vw 0]) * R) (H := H1) h1.to
 have fin : ∀ code, dI t.x = some code → wp ((FF iu [vp e, vi now, vi code] H1).bind fun r25 =>
  (ak r25.1 0).bind fun v26 =>
  (ak r25.1 1).bind fun v27 =>
  (dc 4 (vp b) v26 r25.2).bind fun H28 =>
  (aC 4 (vp b) H28).bind fun v29 => some (Value.tuple #[v29, v27], H28)) fun v' H' => ∃ x_1 : Unit, v' = dk (ai σ t now) ∧ ac (eQ e p g.rp (ai σ t now) * R) H' := by
  intro code hx;have k2 := bG (p := p) (rp := g.rp) (σ := σ) (R := eB e p nx rv t * (blk b (.cells false [vi 0, .slice none 0 0, vi 0, vw 0]) * R)) g rfl hl k1.to;refine oY k2 (yo e p g.rp σ nx rv t now code (by have := S.pts; omega)) fun H9 h9 => ?_;exact Ba (σ' := σ.note now t.who code) (t' := { t with code := code }) (by simp only [ai, hat, hx]) rfl h9.to
 have scan : dI t.x = none → wp (pW (vp e) (vi now) (vp b) (vb false) H1) fun v' H' => ∃ x_1 : Unit, v' = dk (ai σ t now) ∧ ac (eQ e p g.rp (ai σ t now) * R) H' := by
  intro hx
  have hs : ai σ t now = fF σ t := by simp only [ai, hat, hx, fF]
  rw [hs];refine ah (A4 _ _ _ _ H1) ?_;exact oY h1 (FQ e p g.rp σ t now S T (.inl hat)) fun H9 h9 => ⟨(), rfl, h9.to⟩
 refine av k1 (jb (cm (cm cn))) rfl ?_
 by_cases ha : t.x.a < 1
 ·refine aa (bO ha) ?_
  refine gs ?_;exact fin 3 (by rw [dI, if_pos (.inl ha)])
 ·refine aa (bu ha) ?_
  refine gs ?_;refine av k1 (jb (cm (cm cn))) rfl ?_;refine gs ?_
  by_cases ha2 : 65536 < t.x.a
  ·refine aa (nI ha2) ?_
   refine gs ?_;exact fin 3 (by rw [dI, if_pos (.inr ha2)])
  ·refine aa (gh ha2) ?_
   refine gs ?_;refine av k1 (jb (cm (cm cn))) rfl ?_
   by_cases hf : t.x.flow < 0
   ·refine aa (bO hf) ?_
    refine gs ?_;exact fin 5 (by rw [dI, if_neg (by omega), if_pos (.inl hf)])
   ·refine aa (bu hf) ?_
    refine gs ?_;refine av k1 (jb (cm (cm cn))) rfl ?_;refine gs ?_
    by_cases hf2 : 1048576 < t.x.flow
    ·refine aa (nI hf2) ?_
     refine gs ?_;exact fin 5 (by rw [dI, if_neg (by omega), if_pos (.inr hf2)])
    ·refine aa (gh hf2) ?_
     refine gs ?_;exact scan (by rw [dI, if_neg (by omega), if_neg (by omega)])
theorem Zv (S : SOk σ) (T : fe σ t) : Sp xm [vp e, vi now] (eP e p rp σ t) (fun _ : Unit => dk (ai σ t now)) (fun _ => eQ e p rp (ai σ t now)) := by
 refine aX (My _ _) fun R H h => ?_;refine bm h fun b H1 h1 => ?_;obtain ⟨rv, hv, k1⟩ := QG (e := e) (p := p) (rp := rp) (σ := σ) (t := t) (R := blk b (.cells false [vi 0, .slice none 0 0, vi 0, vw 0]) * R) (H := H1) h1.to;refine av k1 ae rfl ?_;refine ah (show (b5 (.func (.func (zh t.at')) #[vp e] #[]) [vi now]).bind _ = _ from rfl) ?_
 have hs : Sp (zh t.at') [vp e, vi now] (eP e p rp σ t) (fun _ : Unit => dk (ai σ t now)) (fun _ => eQ e p rp (ai σ t now)) := by
  rcases T.ats with hat | hat | hat | hat | hat | hat | hat | hat | hat | hat | hat | hat | hat | hat | hat | hat | hat | hat | hat | hat | hat | hat | hat | hat <;> rw [show zh t.at' = _ from by rw [hat]]
  ·exact PR e p rp σ t now S T hat
  ·have h := FQ e p rp σ t now S T (.inr hat)
   have hs : ai σ t now = fF σ t := by simp only [ai, hat, fF]
   rw [hs]; exact h
  ·exact Yl e p rp σ t now S T hat
  ·exact Ly e p rp σ t now S T hat
  ·exact Lz e p rp σ t now S T hat
  ·exact Ym e p rp σ t now S T hat
  ·exact Yq e p rp σ t now S T hat
  ·exact Yi e p rp σ t now S T hat
  ·exact PQ e p rp σ t now S T hat
  ·exact af0 e p rp σ t now S T hat
  ·exact Yo e p rp σ t now S T hat
  ·exact PO e p rp σ t now S T hat
  ·exact Yp e p rp σ t now S T hat
  ·exact Yh e p rp σ t now S T hat
  ·exact af1 e p rp σ t now S T hat
  ·exact Do e p rp σ t now S T hat
  ·exact Dm e p rp σ t now S T hat
  ·exact Eb e p rp σ t now S T hat
  ·exact Yf e p rp σ t now S T hat
  ·exact PS e p rp σ t now S T hat
  ·exact IS e p rp σ t now S T hat
  ·exact Yk e p rp σ t now S T hat
  ·exact Yn e p rp σ t now S T hat
  ·exact afZ e p rp σ t now S T hat
 exact oY h1 hs fun H9 h9 => ⟨(), rfl, h9.to⟩
end
def amF (x : Cl) : Prop := x.flow < 0 ∨ 1048576 < x.flow
instance (x : Cl) : Decidable (amF x) := inferInstanceAs (Decidable (_ ∨ _))
def aoH (x : Cl) : Option Int :=
 if x.op = 1 then (if amF x then some 1 else if x.a < 1 ∨ 65536 < x.a then some 4 else if x.b < 1 ∨ 8 < x.b then some 1 else none)
 else if amF x then some 5 else none
def aoL (σ : az) (t : Tk) : Tk :=
 let v := σ.μ.V (10, t.s, (t.i : Int))
 { t with i := if tn v t.x.flow = true then t.i else t.i + 1, found := tn v t.x.flow, obj := if tn v t.x.flow = true then v % 4294967296 else t.obj, mark := if v = 0 ∧ t.mark < 0 then (t.i : Int) else t.mark }
abbrev an6 (σ : az) (t : Tk) : az := σ.mem (σ.μ.swp t.who (8, t.s, 0) 0 1)
abbrev Ue (σ : az) (t : Tk) : az := σ.mem ((σ.μ.acc t.who 2 (8, t.s, 0)).put (8, t.s, 0) 0)
def akY (σ : az) (t : Tk) : az × Tk × Bool := (an6 σ t, { t with at' := if σ.μ.V (8, t.s, 0) = 0 then 3 else 2 }, false)
abbrev obR (σ : az) (t : Tk) : Ob := ⟨t.x.flow, t.x.b, max (σ.c.un / t.x.a.toNat) 1⟩
def apJ (σ : az) (t : Tk) (now : Int) : az × Tk × Bool :=
 match t.at' with
 | 4 => (σ.make t.who (obR σ t), { t with obj := σ.obs.length, at' := 5 }, false)
 | 5 => ((σ.mem ((σ.μ.acc t.who 2 (10, t.s, t.mark)).put (10, t.s, t.mark) (dJ t.x.flow t.obj))).note now t.who 0, { t with at' := 6, code := 0 }, false)
 | _ => (Ue σ t, t, true)
def apB (σ : az) (t : Tk) (now : Int) : az × Tk × Bool :=
 match t.at' with
 | 4 => let w := σ.μ.V (11, (t.obj : Int), 0)
  (kD σ t, { t with w := w, at' := if aS w = 0 then 8 else 5 }, false)
 | 5 => let q := σ.μ.V (2, 0, 0)
  (mZ σ t, { t with q := q, at' := if q % 2 = 1 then 4 else 6 }, false)
 | 6 => let w := σ.μ.V (11, (t.obj : Int), 0)
  (kD σ t, { t with w := w, mark := now, at' := if aS w = 0 then 8 else 7 }, false)
 | 7 => if σ.μ.V (2, 0, 0) = t.q then ((mZ σ t).note t.mark t.who 8, { t with at' := 10, code := 8 }, false) else (mZ σ t, { t with at' := 4 }, false)
 | 8 => let o := aR t.w 2
  let σ1 := σ.mem (σ.μ.turn t.who t.obj t.w o)
  if cY σ.μ t.obj t.w o = true then (σ1.note now t.who 0, { t with at' := 9, code := 0 }, false) else (σ1, { t with at' := 4 }, false)
 | 9 => (σ.mem ((σ.μ.acc t.who 2 (10, t.s, (t.i : Int))).put (10, t.s, (t.i : Int)) 0), { t with at' := 10 }, false)
 | _ => (Ue σ t, t, true)
def aoP (σ : az) (t : Tk) (now : Int) : az × Tk × Bool :=
 match t.at' with
 | 0 => match aoH t.x with
  | some e => (σ.note now t.who e, { t with code := e }, true)
  | none => akY σ t
 | 2 => akY σ t
 | 3 => let t1 := aoL σ t
  if t1.found = true then (if t.x.op = 1 then ((b6 σ t).note now t.who 6, { t1 with at' := 6, code := 6 }, false) else (b6 σ t, { t1 with at' := 4 }, false))
  else if cR σ t1 = true then
   (if t.x.op = 1 then (if t1.mark < 0 then ((b6 σ t).note now t.who 7, { t1 with at' := 6, code := 7 }, false) else (b6 σ t, { t1 with at' := 4 }, false))
   else ((b6 σ t).note now t.who 5, { t1 with at' := 10, code := 5 }, false))
  else (b6 σ t, t1, false)
 | _ => if t.x.op = 1 then apJ σ t now else apB σ t now
structure ROk (σ : az) (t : Tk) : Prop where
 s : t.s = (t.x.flow.tmod σ.c.sh + σ.c.sh).tmod σ.c.sh
 i : t.at' < 4 → (t.i : Int) < σ.c.sl
 x : t.at' ≠ 0 → aoH t.x = none
 ats : t.at' = 0 ∨ t.at' = 2 ∨ t.at' = 3 ∨ 4 ≤ t.at' ∧ t.at' < 7 ∨ t.x.op ≠ 1 ∧ 7 ≤ t.at' ∧ t.at' < 11
 mark : t.at' = 4 ∨ t.at' = 5 → t.x.op = 1 → 0 ≤ t.mark
 obj : t.at' = 5 ∧ t.x.op = 1 ∨ 4 ≤ t.at' ∧ t.at' < 10 ∧ t.x.op ≠ 1 → t.obj < σ.obs.length
 w : t.w < 18446744073709551616
structure Ek where
 I : Nat
 free : Int
 at' : Int
 obj : Nat
 rv : Value
 w : Nat
 q : Nat
 nw : Int
 told : Int
section
variable {e p : Nat} {rp : List Nat} {g : PIds} {σ σ' : az} {t t' : Tk} {R P : SP} {H : AH} {r : az × Tk × Bool} {v : Value} {n : Nat} {c : Int} {k : Ek}
end
section
variable (e p : Nat) (rp : List Nat) (g : PIds) (σ : az) (t : Tk) (k : Ek) (nx : Value) (now : Int)
end
section
variable (e p : Nat) (rp : List Nat) (σ : az) (t : Tk) (now : Int)
abbrev Tk.newR (c : gf) (who : Int) (x : Cl) : Tk := ⟨who, x, (x.flow.tmod c.sh + c.sh).tmod c.sh, 0, 0, 0, false, 0, 0, -1, 0, 0⟩
end
theorem vy (p : Nat) (g : XIds) (σ : az) (o b : Nat) (hl : g.rp.length = σ.obs.length) (ho : o < σ.obs.length) (hb : g.rp[o]? = some b) :
 ∃ R, (∀ N, σ.μ.N = N → ay p g σ = cE g.m o b (am σ o) * bz g.m σ.μ * (gZ g.ib g.m σ.c.sh σ.nx N * R)) ∧ ∀ μ' cs', ay p g { σ with μ := μ', obs := σ.obs.modify o fun q => (q.1, cs') } = cE g.m o b cs' * bz g.m μ' * (gZ g.ib g.m σ.c.sh σ.nx μ'.N * R) := by
 have hz : o < (g.rp.zip (σ.obs.map fun x => x.2)).length := by simp; omega
 obtain ⟨R, e1, e2⟩ := Iw g.m (ps := g.rp.zip (σ.obs.map fun x => x.2)) (j := 0) hz
 have hrp : g.rp[o]'(by omega) = b := by
  rw [br (by omega)] at hb;exact fi hb
 have e3 : (g.rp.zip (σ.obs.map fun x => x.2))[o] = (b, am σ o) := by
  rw [List.getElem_zip, ur ho, List.getElem_map, hrp]
 rw [e3] at e1;rw [Nat.zero_add] at e1 e2
 refine ⟨blk p (.cells false [vi σ.c.sh, vi σ.c.sl, vi σ.c.wk, vi σ.c.wd, vu σ.c.un, vp g.m, vp g.ib, vp g.tb, vp g.po, vp g.co, g.ov, g.rv, g.wv, g.pv]) * (tab g.tb g.m σ.c.sh.toNat σ.c.sl.toNat * (ts 3 sJ g.ov (σ.obs.map fun x => x.1) * (ts 1 o8 g.rv g.rp * (R *
  (ts 1 dO g.wv (ed g.ws) * ts 7 Pt.cells g.pv (aY σ.pts)))))), fun N hN => ?_, fun μ' cs' => ?_⟩
 ·subst hN
  unfold ay;rw [e1]
  ac_rfl
 ·unfold ay
  dsimp only
  have e4 : (σ.obs.modify o fun q => (q.1, cs')).map (fun x => x.1) = σ.obs.map fun x => x.1 := by
   apply List.ext_getElem?;intro j;simp only [tA, List.getElem?_modify]
   cases σ.obs[j]? with
   | none => rfl
   | some q => simp only [dP]; split <;> rfl
  have e5 : g.rp.zip ((σ.obs.modify o fun q => (q.1, cs')).map fun x => x.2) = (g.rp.zip (σ.obs.map fun x => x.2)).set o (b, cs') := by
   apply List.ext_getElem?;intro j;rw [List.getElem?_set]
   by_cases hj : o = j
   ·subst hj
    rw [if_pos rfl, if_pos hz];exact List.getElem?_zip_eq_some.2 ⟨hb, by simp [List.getElem?_modify, br ho]⟩
   ·rw [if_neg hj]
    have : (List.map (fun x => x.2) (σ.obs.modify o fun q => (q.1, cs')))[j]? = (σ.obs.map fun x => x.2)[j]? := by
     simp only [tA, List.getElem?_modify]
     cases σ.obs[j]? with
     | none => rfl
     | some q => show some (if o = j then (q.1, cs') else q).2 = some q.2; rw [if_neg hj]
    simp only [List.zip, List.getElem?_zipWith, this]
  rw [e4, e5, e2]
  ac_rfl
section
variable {f : Nat} {args : List Value} {v : Unit → Value} {p : Nat} {g : XIds} {σ : az} {o b : Nat}
theorem FZ {μ' : Mu} {cs' : List Pk} (hN : σ.μ.N ≤ μ'.N) (hl : g.rp.length = σ.obs.length) (ho : o < σ.obs.length) (hb : g.rp[o]? = some b)
 (s : Sp f args (cE g.m o b (am σ o) * bz g.m σ.μ) v (fun _ => cE g.m o b cs' * bz g.m μ')) :
 Sp f args (ay p g σ) v (fun _ => ay p g { σ with μ := μ', obs := σ.obs.modify o fun q => (q.1, cs') }) := by
 obtain ⟨R', e1, e2⟩ := vy p g σ o b hl ho hb;intro R H h;rw [e1 _ rfl, ar] at h;obtain ⟨x, H', h1, h2⟩ := s _ _ h;refine ⟨x, H', h1, ?_⟩;rw [e2, ar];have h3 := oK hN (ac.fr (A := gZ g.ib g.m σ.c.sh σ.nx σ.μ.N) h2);exact h3.to
theorem m8 {μ' : Mu} (hN : σ.μ.N ≤ μ'.N) (hl : g.rp.length = σ.obs.length) (ho : o < σ.obs.length) (hb : g.rp[o]? = some b)
 (s : Sp f args (cE g.m o b (am σ o) * bz g.m σ.μ) v (fun _ => cE g.m o b (am σ o) * bz g.m μ')) :
 Sp f args (ay p g σ) v (fun _ => ay p g (σ.mem μ')) := by
 have := FZ (p := p) hN hl ho hb s;rw [KG ho] at this;exact this
theorem I8 (hl : g.rp.length = σ.obs.length) (ho : o < σ.obs.length) (hb : g.rp[o]? = some b)
 (s : Sp f args (cE g.m o b (am σ o)) v (fun _ => cE g.m o b (am σ o))) :
 Sp f args (ay p g σ) v (fun _ => ay p g σ) := by
 obtain ⟨R', e1, _⟩ := vy p g σ o b hl ho hb;intro R H h;rw [e1 _ rfl, ar, ar] at h;obtain ⟨x, H', h1, h2⟩ := s _ _ h;exact ⟨x, H', h1, by rw [e1 _ rfl, ar, ar]; exact h2⟩
theorem Mb {μ' : Mu} (hN : σ.μ.N ≤ μ'.N) (s : Sp f args (tab g.tb g.m σ.c.sh.toNat σ.c.sl.toNat * bz g.m σ.μ) v (fun _ => tab g.tb g.m σ.c.sh.toNat σ.c.sl.toNat * bz g.m μ')) :
 Sp f args (ay p g σ) v (fun _ => ay p g (σ.mem μ')) := by
 intro R H h;unfold ay at h;obtain ⟨x, H', h1, h2⟩ := s _ H (ac.fr (A := tab g.tb g.m σ.c.sh.toNat σ.c.sl.toNat * bz g.m σ.μ) h);refine ⟨x, H', h1, ?_⟩;unfold ay;have h3 := oK hN (ac.fr (A := gZ g.ib g.m σ.c.sh σ.nx σ.μ.N) h2);exact h3.to
theorem Qe (s : Sp f args (tab g.tb g.m σ.c.sh.toNat σ.c.sl.toNat) v (fun _ => tab g.tb g.m σ.c.sh.toNat σ.c.sl.toNat)) :
 Sp f args (ay p g σ) v (fun _ => ay p g σ) := by
 intro R H h;unfold ay at h;obtain ⟨x, H', h1, h2⟩ := s _ H (ac.fr (A := tab g.tb g.m σ.c.sh.toNat σ.c.sl.toNat) h);refine ⟨x, H', h1, ?_⟩;unfold ay;exact h2.to
theorem YR {μ' : Mu} (hN : σ.μ.N ≤ μ'.N) (s : Sp f args (bz g.m σ.μ) v (fun _ => bz g.m μ')) : Sp f args (ay p g σ) v (fun _ => ay p g (σ.mem μ')) := by
 intro R H h;unfold ay at h;obtain ⟨x, H', h1, h2⟩ := s _ H (ac.fr (A := bz g.m σ.μ) h);refine ⟨x, H', h1, ?_⟩;unfold ay;have h3 := oK hN (ac.fr (A := gZ g.ib g.m σ.c.sh σ.nx σ.μ.N) h2);exact h3.to
theorem wD {μ' : Mu} {nx' : Int → Option Nat} {L : Nat} (hL : L ≤ μ'.N) (s : Sp f args (gZ g.ib g.m σ.c.sh σ.nx σ.μ.N * bz g.m σ.μ) v (fun _ => gZ g.ib g.m σ.c.sh nx' L * bz g.m μ')) :
 Sp f args (ay p g σ) v (fun _ => ay p g { σ with μ := μ', nx := nx' }) := by
 intro R H h;unfold ay at h;obtain ⟨x, H', h1, h2⟩ := s _ H (ac.fr (A := gZ g.ib g.m σ.c.sh σ.nx σ.μ.N * bz g.m σ.μ) h);refine ⟨x, H', h1, ?_⟩;unfold ay;have h3 := oK hL (ac.fr (A := gZ g.ib g.m σ.c.sh nx' L) h2);exact h3.to
end
instance amI (p : Nat) (g : XIds) (σ : az) : Hs (ay p g σ) p (.cells false [vi σ.c.sh, vi σ.c.sl, vi σ.c.wk, vi σ.c.wd, vu σ.c.un, vp g.m, vp g.ib, vp g.tb, vp g.po, vp g.co, g.ov, g.rv, g.wv, g.pv]) := ⟨by
 intro H h;unfold ay at h
 exact h.left.get⟩
theorem FW (m i rp : Nat) (cs : List Pk) (μ : Mu) (who : Int) (n : Nat) (x : Pk) (h0 : 1 ≤ cs.length ∧ cs.length < 1000) (hE : μ.N < 1099511627000) :
 Sp lR [vp rp, vi who, vu n, .agg (Pk.cells x).toArray] (cE m i rp cs * bz m μ) (fun _ : Unit => .tuple #[]) (fun _ => cE m i rp (cs.set (n % cs.length) x) * bz m (μ.acc who 6 (16, (i : Int), ((n % cs.length : Nat) : Int)))) := by
 have hlt : n % cs.length < cs.length := Nat.mod_lt _ (by omega);refine aX (zA _ _ _ _) fun R H h => ?_;refine a8 h fun b H1 h1 => ?_;obtain ⟨cv, k1⟩ := eM (m := m) (i := i) (rp := rp) (cs := cs) (R := bz m μ * (blk b (.cells false (Pk.cells x)) * R)) (H := H1) h1.to;refine bp ae ?_;refine aL k1 rfl ?_;refine bp ae ?_;refine aL k1 rfl ?_
 have cell : ∀ cv, Sp dw [vp rp, vu n] (blk rp (.cells false [vp m, vi i, vi cs.length, cv])) (fun _ : Unit => vi ((n % cs.length : Nat) : Int)) (fun _ => blk rp (.cells false [vp m, vi i, vi cs.length, cv])) := by
  intro cv;refine aX (nZ _ _) fun R H h => ?_;refine av h ae rfl ?_;refine aa (cP (by omega) (by omega)) ?_;rw [show ((cs.length : Nat) : Int).toNat = cs.length from nK _];refine aa (ip (by omega)) ?_;refine aa (fV (by omega)) ?_;exact aq ⟨(), rfl, h⟩
 refine ag k1 (cell cv) fun _ H2 k2 => ?_;refine aI k2 k1 (by rfl) ?_;refine aI k2 k1 (by rfl) ?_;refine ag k2 (dH 16 (i : Int) ((n % cs.length : Nat) : Int)) fun _ H3 k3 => ?_;refine aI k3 k1 (by rfl) ?_;refine ag k3 ((YE m μ who 6 (16, (i : Int), ((n % cs.length : Nat) : Int)) (by omega)).imp fun _ R H h => vj (N' := μ.N + 2) (by simp) h) fun _ H4 k4 => ?_;refine bp ae ?_;refine aL k4 rfl ?_;refine ag k4 (cell cv) fun _ H5 k5 => ?_;refine aI k5 k4 (by rfl) ?_;refine a7 k5 ?_;refine en k4 k5 rfl ?_;refine DH (s := cv) (l := cs) (i := n % cs.length) x k5 hlt (.inl ⟨rfl, rfl⟩) rfl (by omega) rfl rfl fun H6 k6 => ?_;refine aq ⟨(), rfl, ?_⟩;have el : (cs.set (n % cs.length) x).length = cs.length := xa;have h6 := mD (m := m) (i := i) (rp := rp) (cs := cs.set (n % cs.length) x) (cv := cv) (R := bz m (μ.acc who 6 (16, (i : Int), ((n % cs.length : Nat) : Int))) * R) (H := H6) (by rw [el]; exact k6.to);exact h6.to
section
variable (p : Nat) (g : XIds) (σ : az)
theorem P7 (hl : g.rp.length = σ.obs.length) (who : Int) (o : Nat) (ho : o < σ.obs.length) (hN : σ.μ.N < 800000) : Sp kc [vp p, vi who, vi o] (ay p g σ) (fun v : Value => v) (fun _ => ay p g (σ.mem (σ.μ.acc who 5 (13, (o : Int), 0)))) := by
 refine aX (xA _ _ _) fun R H h => ?_;refine bm h fun b H1 h1 => ?_;refine aa (bu (by omega)) ?_;refine gs ?_;refine av h1 ae rfl ?_;refine gs ?_;have h2 := h1;unfold ay at h2;refine ge (s := g.ov) (enc := sJ) (l := σ.obs.map fun x : Ob × List Pk => x.1) h2 ?_;rw [pJ];refine gs ?_;refine aa (nH (by omega)) ?_;refine gs ?_;refine bp ae ?_;refine aL h1 rfl ?_;refine ag h1 (dH 13 (o : Int) 0) fun _ H3 h3 => ?_;refine aI h3 h1 (by rfl) ?_;refine ag h3 (YR (p := p) (g := g) (σ := σ) (μ' := σ.μ.acc who 5 (13, (o : Int), 0)) (by simp) ((YE g.m σ.μ who 5 (13, (o : Int), 0) (by omega)).imp fun _ R H h => vj (N' := σ.μ.N + 2) (by simp) h)) fun _ H4 h4 => ?_;refine av h4 ae rfl ?_;have h5 := h4;unfold ay at h5;refine yf (enc := sJ) (l := σ.obs.map fun x : Ob × List Pk => x.1) h5 (by rw [pJ]; exact ho) ?_;refine fm h4 rfl rfl fun H6 h6 => ?_;refine a7 h6 ?_;exact aq ⟨_, rfl, h6.to⟩
theorem DM (who : Int) (hN : σ.μ.N < 800000) : Sp gN [vp p, vi who] (ay p g σ) (fun _ : Unit => vu (σ.μ.V (2, 0, 0))) (fun _ => ay p g (σ.mem (σ.μ.acc who 1 (2, 0, 0)))) := by
 refine aX (xC _ _) fun R H h => ?_;refine bp ae ?_;refine aL h rfl ?_;refine ag h (dH 2 0 0) fun _ H1 h1 => ?_;refine aI h1 h (by rfl) ?_;refine ag h1 (YR (p := p) (g := g) (σ := σ) (μ' := σ.μ.acc who 1 (2, 0, 0)) (by simp) (qS g.m σ.μ who (2, 0, 0) (by omega))) fun _ H2 h2 => ?_;exact aq ⟨(), rfl, h2.to⟩
theorem wA (t m sh sl : Nat) (hs : 1 ≤ sh ∧ sh ≤ 4) (flow : Int) : Sp fB [vp t, vi flow] (tab t m sh sl) (fun _ : Unit => vi ((flow.tmod sh + sh).tmod sh)) (fun _ => tab t m sh sl) := by
 have q := Ud flow (n := sh) (by omega);refine aX (tX _ _) fun R H h => ?_;unfold tab at h ⊢;refine av h ae rfl ?_;refine aa (ks (by omega)) ?_;refine ah (pN _ _ _ H) ?_
 by_cases hn : flow.tmod sh < 0
 ·refine aa (bO hn) ?_
  refine gs ?_;refine av h ae rfl ?_;refine aa (aB (by omega) (by omega)) ?_;refine ah (jc _ _ H) ?_;refine aq ⟨(), ?_, h⟩;have : (flow.tmod sh + sh).tmod sh = flow.tmod sh + sh := Int.tmod_eq_of_lt (by omega) (by omega);rw [this]
 ·refine aa (bu hn) ?_
  refine gs ?_;refine ah (jc _ _ H) ?_;refine aq ⟨(), ?_, h⟩
  have : (flow.tmod sh + sh).tmod sh = flow.tmod sh := by
   rw [aiY (by omega), Int.add_emod_right];exact Int.emod_eq_of_lt (by omega) (by omega)
  rw [this]
end
theorem vz (w pl k : Int) : ∀ ws : List (Int × Int), gb (ws ++ [(w, pl)]) k = if k = w then pl else gb ws k := by
 intro ws
 induction ws with
 | nil =>
  simp only [List.nil_append, gb, List.any_nil]
  by_cases e : k = w
  ·subst e; simp
  ·have : ¬ w = k := fun q => e q.symm
   simp [e, this]
 | cons p ws ih =>
  simp only [List.cons_append, gb, ih, List.any_append, List.any_cons, List.any_nil, Bool.or_false]
  by_cases e : k = w
  ·subst e; simp
  ·have h1 : ((w == k) : Bool) = false := by simpa using fun q => e q.symm
   rw [h1, Bool.or_false];simp only [if_neg e]
theorem Ib (ws : List (Int × Int)) (k : Int) (j : Nat) (hj : j < ws.length) : gb (ws.take (j + 1)) k = if k = ws[j].1 then ws[j].2 else gb (ws.take j) k := by
 rw [List.take_succ_eq_append_getElem hj];exact vz ws[j].1 ws[j].2 k (ws.take j)
theorem oO (ws : List (Int × Int)) : (ed ws).length = 2 * ws.length := by
 unfold ed
 induction ws with
 | nil => rfl
 | cons p ws ih => rw [List.flatMap_cons, dh, ih]; simp; omega
theorem Xc : ∀ (ws : List (Int × Int)) (j : Nat) (hj : j < ws.length), (ed ws)[2 * j]? = some ws[j].1 ∧ (ed ws)[2 * j + 1]? = some ws[j].2 := by
 intro ws
 induction ws with
 | nil => intro j hj; simp at hj
 | cons p ws ih =>
  intro j hj
  cases j with
  | zero => exact ⟨rfl, rfl⟩
  | succ j =>
   have h := ih j (by simpa using hj);have e : ed (p :: ws) = p.1 :: p.2 :: ed ws := rfl;rw [e, show 2 * (j + 1) = 2 * j + 2 from by omega];exact h
theorem acS (x : Pt) : ∀ (l : List Pt) (k : Nat), k ≤ l.length → (∀ j p, k ≤ j → l[j]? = some p → x.step < p.step) → (∀ p, 0 < k → l[k - 1]? = some p → p.step ≤ x.step) → sN x l = l.take k ++ x :: l.drop k := by
 intro l
 induction l with
 | nil => intro k hk _ _; simp at hk; subst hk; rfl
 | cons y l ih =>
  intro k hk h1 h2
  cases k with
  | zero =>
   have hy := h1 0 y (bj _) rfl
   have hno : ¬ (y.step ≤ x.step ∨ (l.any fun z => decide (z.step ≤ x.step)) = true) := by
    rintro (h | h)
    ·omega
    ·obtain ⟨z, hz, hzs⟩ := List.any_eq_true.1 h
     obtain ⟨j, hj⟩ := List.mem_iff_getElem?.1 hz;have := h1 (j + 1) z (by omega) (by simpa using hj)
     have hzs : z.step ≤ x.step := by simpa using hzs
     omega
   rw [sN, if_neg hno]
   rfl
  | succ k =>
   have hyes : y.step ≤ x.step ∨ (l.any fun z => decide (z.step ≤ x.step)) = true := by
    cases k with
    | zero => exact .inl (h2 y (by omega) rfl)
    | succ k =>
     right
     have hkl : k < l.length := by simp at hk; omega
     rw [List.any_eq_true];refine ⟨l[k], Ku hkl, ?_⟩;have := h2 l[k] (by omega) (by simp [hkl])
     simpa using this
   rw [sN, if_pos hyes, ih k (by simpa using hk) (fun j p hj hp => h1 (j + 1) p (by omega) (by simpa using hp)) (fun p hk0 hp => h2 p (by omega) (by
    rw [show k + 1 - 1 = (k - 1) + 1 from by omega]; simpa using hp))]
   rfl
theorem yl (l : List Pt) (x : Pt) : aY (l ++ [x]) = sN x (aY l) := by
 unfold aY;rw [List.foldl_append]; rfl
theorem WK (x : Pt) : ∀ l : List Pt, (sN x l).length = l.length + 1 := by
 intro l
 induction l with
 | nil => rfl
 | cons y l ih => rw [sN]; split <;> simp [ih]
theorem AQ (l : List Pt) : (aY l).length = l.length := by
 have : ∀ (l acc : List Pt), (l.foldl (fun acc x => sN x acc) acc).length = acc.length + l.length := by
  intro l
  induction l with
  | nil => intro acc; rfl
  | cons x l ih => intro acc; rw [List.foldl_cons, ih, WK]; simp; omega
 have h := this l []
 simpa [aY] using h
theorem ahG (e b : Nat) (he : 0 < e) (H : AH) : dN e b (.slice none 0 0) (.slice none 0 0) H = some (.slice none 0 0, H) := by
 unfold dN
 have : kL e (.slice none 0 0) H = some (0, []) := by simp [kL]
 rw [this];simp [he]
theorem agB {α : Type} {P R : SP} {H : AH} {e : Nat} {enc : α → List Value} {l : List α} {s : Value} (h : ac P H) [f : Ts P s α e enc l R] : s.cells.toList = [s] ∧ [s].all Value.oneCell' = true := by
 rcases oV h (enc := enc) (s := s) with ⟨rfl, _, _⟩ | ⟨bb, rfl, _⟩ <;> exact ⟨rfl, rfl⟩
theorem LI {α : Type} {P R : SP} {H : AH} {e : Nat} {enc : α → List Value} {l : List α} {s : Value} {lo hi : Option Value} {a b : Nat} (h : ac P H) [f : Ts P s α e enc l R] [E : Enc enc e] (hlo : (lo = none ∧ a = 0) ∨ ∃ k, lo = some (.int k (a : Int)))
 (hhi : (hi = none ∧ b = l.length) ∨ ∃ k, hi = some (.int k (b : Int))) (h1 : a ≤ b) (h2 : b ≤ l.length) : ∃ s', ec e s lo hi = some s' ∧ Rd P s' e enc ((l.take b).drop a) := by
 haveI : Rd P s e enc l := by rw [f.eq]; infer_instance
 by_cases h0 : 0 < l.length
 ·exact aeS h hlo hhi h1 h2 h0
 ·have hl : l = [] := List.eq_nil_of_length_eq_zero (by omega)
  subst hl
  have hb0 : b = 0 := by simpa using h2
  subst hb0
  have ha0 : a = 0 := by omega
  subst ha0;have hpos := E.pos
  have rd0 : ∀ s', (∃ a c, s' = .slice a 0 c ∧ (a = none → c = 0) ∧ (∀ x, a = some x → ∃ b o, x = ⟨b, o, none⟩)) → Rd P s' e enc (([] : List α).take 0 |>.drop 0) := by
   rintro s' ⟨a, c, rfl, q1, q2⟩
   exact ⟨fun {H'} _ => ⟨by simp, .inl ⟨a, c, rfl, rfl, q1, q2⟩⟩⟩
  rcases oV h (enc := enc) (s := s) with ⟨rfl, _, _⟩ | ⟨bb, rfl, _⟩
  ·refine ⟨.slice none 0 0, ?_, rd0 _ ⟨none, 0, rfl, fun _ => rfl, fun x hx => (by cases hx)⟩⟩
   rcases hlo with ⟨rfl, _⟩ | ⟨k1, rfl⟩ <;> rcases hhi with ⟨rfl, _⟩ | ⟨k2, rfl⟩ <;> simp [ec, my]
  ·refine ⟨.slice (some ⟨bb, 0, none⟩) 0 e, ?_, rd0 _ ⟨some ⟨bb, 0, none⟩, e, rfl, fun h => (by cases h), fun x hx => ⟨bb, 0, (fi hx).symm⟩⟩⟩
   rcases hlo with ⟨rfl, _⟩ | ⟨k1, rfl⟩ <;> rcases hhi with ⟨rfl, _⟩ | ⟨k2, rfl⟩ <;> simp [ec, my, hpos]
abbrev az.begin (σ : az) (who place : Int) : az := { σ with places := fun k => if k = who then some place else σ.places k, μ := { σ.μ with N := σ.μ.N + 1 } }
theorem alN (p : Nat) (rp : List Nat) (σ : az) (who place : Int) : Sp gn [vp p, vi who, vi place] (bS p rp σ) (fun _ : Unit => .tuple #[]) (fun _ => bS p rp (σ.begin who place)) := by
 refine aZ fun R H h => ?_;obtain ⟨g, hrp, hg, h0⟩ := eE h;unfold aJ at h0;refine bf (fun r => qJ _ _ _ H) ?_;refine av h0 ae rfl ?_;refine agM (ek := L4) who (vi place) h0 fun H1 h1 => ?_;refine aq ⟨(), rfl, ?_⟩;refine bG g hrp hg ?_;unfold aJ;dsimp only
 have e : (fun k => ((if k = who then some place else σ.places k) : Option Int).map fun n => vi n) = fun x => if x = who then some (vi place) else (σ.places x).map fun n => vi n := by
  funext k
  split <;> rfl
 rw [e];have h2 := iI (V := σ.μ.V) (E := σ.μ.E) (N := σ.μ.N) (N' := σ.μ.N + 1) (by omega) (ac.fr (A := bh g.m σ.μ) h1);exact h2.to
theorem anB (p : Nat) (σ : az) (who place : Int) (hN : σ.μ.N < 1000000000) : Sp iP [vp p, vi who, vi place] (bQ p σ) (fun _ : Unit => .tuple #[]) (fun _ => bQ p (σ.begin who place)) := by
 refine aZ fun R H h => ?_;obtain ⟨g, ⟨hg1, hg2, hg3⟩, h0⟩ := iw h;unfold ay at h0;refine bf (fun r => tW _ _ _ H) ?_;refine av h0 ae rfl ?_;refine Uk (cs := [vi who, vi place]) h0 rfl fun b H1 h1 => ?_;have h2 := Ak (e := 1) (enc := dO) (l := [who, place]) h1;refine IW (s := g.wv) (l := ed g.ws) (m := [who, place]) h2 ?_ (by omega) fun v H2 h3 => ?_
 ·rw [oO]; unfold room; simp; omega
 have hc := agB (s := v) (enc := dO) (l := ed g.ws ++ [who, place]) h3
 haveI : uf v [v] := ⟨hc.1⟩
 dsimp only;refine bw h3 ae rfl hc.2 fun H3 h4 => ?_;refine aq ⟨(), rfl, ?_⟩
 have e2 : ed (g.ws ++ [(who, place)]) = ed g.ws ++ [who, place] := by simp [ed]
 refine eK { g with wv := v, ws := g.ws ++ [(who, place)] } ⟨hg1, fun k => ?_, by simp; omega⟩ ?_
 ·show gb (g.ws ++ [(who, place)]) k = _
  rw [vz, hg2];show _ = ((if k = who then some place else σ.places k)).getD 0
  split <;> rfl
 unfold ay;dsimp only;rw [e2];have h5 := vj (V := σ.μ.V) (E := σ.μ.E) (N := σ.μ.N) (N' := σ.μ.N + 1) (by omega) (ac.fr (A := bz g.m σ.μ) h4);have h6 := oK (L' := σ.μ.N + 1) (by omega) (ac.fr (A := gZ g.ib g.m σ.c.sh σ.nx σ.μ.N) h5);exact h6.to
theorem ao2 (p : Nat) (g : XIds) (σ : az) (step who code : Int) (hpl : gb g.ws who = (σ.places who).getD 0) (hw : g.ws.length < 1000000000) (hp : σ.pts.length < 900000) :
 Sp adE [vp p, vi step, vi who, .agg (n3 code).toArray] (ay p g σ) (fun _ : Value => .tuple #[]) (fun v => ay p { g with pv := v } (σ.note step who code)) := by
 refine aX (amP _ _ _ _) fun R H h => ?_;refine a8 h fun rb H1 h1 => ?_;refine ah (Xv _ _ _ _ _ H1) ?_;refine ah (OY _ _ _ _ _ _ H1) ?_;have place : ∀ (d j : Nat), j + d = g.ws.length → wp (OU (vp p) (vi step) (vi who) (vp rb) (vi (gb g.ws who)) H1) (fun v' H' => ∃ x : Value, v' = .tuple #[] ∧ ac (ay p { g with pv := x } (σ.note step who code) * R) H') →
  wp (Ac (vp p) (vi step) (vi who) (vp rb) (vi (gb (g.ws.take j) who)) (vi ((2 * j : Nat) : Int)) H1) (fun v' H' => ∃ x : Value, v' = .tuple #[] ∧ ac (ay p { g with pv := x } (σ.note step who code) * R) H') := by
  have h2 := h1;unfold ay at h2;intro d
  induction d with
  | zero =>
   intro j hj hk;refine ah (CY _ _ _ _ _ _ H1) ?_;refine av h1 ae rfl ?_;refine fq (s := g.wv) (l := ed g.ws) h2 ?_;rw [oO];refine aa (bu (by omega)) ?_;refine gs ?_;refine ah (In _ _ _ _ _ H1) ?_;rw [List.take_of_length_le (by omega)];exact hk
  | succ d ih =>
   intro j hj hk
   have hjl : j < g.ws.length := by omega
   obtain ⟨a1, a2⟩ := Xc g.ws j hjl;have hlen := oO g.ws;refine ah (CY _ _ _ _ _ _ H1) ?_;refine av h1 ae rfl ?_;refine fq (s := g.wv) (l := ed g.ws) h2 ?_;rw [oO];refine aa (bO (by omega)) ?_;refine gs ?_;refine ah (OZ _ _ _ _ _ _ H1) ?_;refine av h1 ae rfl ?_;refine fp (s := g.wv) (l := ed g.ws) (i := 2 * j) (v := vi g.ws[j].1) h2 (by omega) ?_ ?_
   ·rw [br (by omega)] at a1
    rw [fi a1]; rfl
   have next : ∀ pl : Int, gb (g.ws.take (j + 1)) who = pl → wp (Ad (vp p) (vi step) (vi who) (vp rb) (vi pl) (vi ((2 * j : Nat) : Int)) H1) (fun v' H' => ∃ x : Value, v' = .tuple #[] ∧ ac (ay p { g with pv := x } (σ.note step who code) * R) H') := by
    intro pl hpl2;refine ah (O0 _ _ _ _ _ _ H1) ?_;refine aa (aB (by omega) (by omega)) ?_;have := ih (j + 1) (by omega) hk;rw [hpl2] at this;rw [show ((2 * j : Nat) : Int) + 2 = ((2 * (j + 1) : Nat) : Int) from by omega];exact this
   have ht := Ib g.ws who j hjl
   by_cases hwho : g.ws[j].1 = who
   ·refine aa (bF hwho) ?_
    refine gs ?_;refine av h1 ae rfl ?_;refine aa (aB (by omega) (by omega)) ?_;rw [show ((2 * j : Nat) : Int) + 1 = ((2 * j + 1 : Nat) : Int) from by omega];refine fp (s := g.wv) (l := ed g.ws) (i := 2 * j + 1) (v := vi g.ws[j].2) h2 (by omega) ?_ ?_
    ·rw [br (by omega)] at a2
     rw [fi a2]; rfl
    exact next _ (by rw [ht, if_pos hwho.symm])
   ·refine aa (aQ hwho) ?_
    refine gs ?_;exact next _ (by rw [ht, if_neg (fun q => hwho q.symm)])
 refine place g.ws.length 0 (by omega) ?_;rw [hpl];refine ah (Xw _ _ _ _ _ H1) ?_;refine av h1 aE rfl ?_;refine ah (show ((dN 3 24 (.slice none 0 0) (.slice none 0 0) H1).bind _) = _ from by rw [ahG 3 24 (by omega)]) ?_;refine bw h1 aE rfl rfl fun H2 h2 => ?_;refine av h2 ae rfl ?_;have h2u := h2;unfold ay at h2u;have hlen := AQ σ.pts;refine fq (s := g.pv) (l := aY σ.pts) h2u ?_;refine ah (Xx _ _ _ _ _ _ H2) ?_
 -- behind all that are not behind it
 have put : ∀ k, k ≤ (aY σ.pts).length → (∀ j p, k ≤ j → (aY σ.pts)[j]? = some p → step < p.step) → (∀ p, 0 < k → (aY σ.pts)[k - 1]? = some p → p.step ≤ step) →
  wp (OX (vp p) (vi step) (vi who) (vp rb) (vi ((σ.places who).getD 0)) (vi (k : Int)) H2) (fun v' H' => ∃ x : Value, v' = .tuple #[] ∧ ac (ay p { g with pv := x } (σ.note step who code) * R) H') := by
  intro k hk ha hb;have hins := acS ⟨step, who, (σ.places who).getD 0, code⟩ (aY σ.pts) k hk ha hb;refine ah (Xy _ _ _ _ _ _ H2) ?_;refine av h2 ae rfl ?_;have q1 : ac (ts 7 Pt.cells g.pv (aY σ.pts)) H2 := h2u.to;obtain ⟨s1, e1, r1⟩ := LI (s := g.pv) (l := aY σ.pts) (lo := none) (hi := some (vi (k : Int))) (a := 0) (b := k) q1 (.inl ⟨rfl, rfl⟩) (.inr ⟨_, rfl⟩) (Nat.zero_le _) hk;refine aa e1 ?_;have h3 := dr 7 Pt.cells h2u;refine IW (s := .slice none 0 0) (l := ([] : List Pt)) (m := ((aY σ.pts).take k).drop 0) h3 ?_ (by omega) fun v3 H3 h4 => ?_
  ·unfold room; simp only [List.length_drop, List.length_take, List.length_nil]; omega
  rw [List.nil_append, List.drop_zero] at h4;refine a7 h4 ?_;refine kP ?_;refine L8 h4 fun b0 H5 h5 => ?_;refine gu (s := v3) (l := (aY σ.pts).take k) (⟨step, who, (σ.places who).getD 0, code⟩ : Pt) h5 rfl ?_ (by omega) fun a cc H6 h6 => ?_
  ·unfold room; simp only [List.length_take]; omega
  refine av h6 ae rfl ?_;have q2 : ac (ts 7 Pt.cells g.pv (aY σ.pts)) H6 := h6.to;obtain ⟨s2, e2, r2⟩ := LI (s := g.pv) (l := aY σ.pts) (lo := some (vi (k : Int))) (hi := none) (a := k) (b := (aY σ.pts).length) q2 (.inr ⟨_, rfl⟩) (.inl ⟨rfl, rfl⟩) hk (bj _);refine aa e2 ?_;refine IW (s := .slice a (((aY σ.pts).take k).length + 1) cc) (l := (aY σ.pts).take k ++ [(⟨step, who, (σ.places who).getD 0, code⟩ : Pt)]) (m := ((aY σ.pts).take (aY σ.pts).length).drop k) h6 ?_ (by omega) fun v4 H7 h7 => ?_
  ·unfold room; simp only [List.length_drop, List.length_take, dh, List.length_cons, List.length_nil]; omega
  have hc := agB (s := v4) (enc := Pt.cells) (l := ((aY σ.pts).take k ++ [(⟨step, who, (σ.places who).getD 0, code⟩ : Pt)]) ++ ((aY σ.pts).take (aY σ.pts).length).drop k) h7
  haveI : uf v4 [v4] := ⟨hc.1⟩
  dsimp only;refine bw h7 ae rfl hc.2 fun H8 h8 => ?_;refine aq ⟨v4, rfl, ?_⟩
  have e3 : aY (σ.note step who code).pts = ((aY σ.pts).take k ++ [(⟨step, who, (σ.places who).getD 0, code⟩ : Pt)]) ++ ((aY σ.pts).take (aY σ.pts).length).drop k := by
   show aY (σ.pts ++ [_]) = _;rw [yl, hins, List.take_length];simp
  unfold ay;dsimp only;rw [e3];exact h8.to
 have down : ∀ (k : Nat), k ≤ (aY σ.pts).length → (∀ j p, k ≤ j → (aY σ.pts)[j]? = some p → step < p.step) →
  wp (Ab (vp p) (vi step) (vi who) (vp rb) (vi ((σ.places who).getD 0)) (vi (k : Int)) H2) (fun v' H' => ∃ x : Value, v' = .tuple #[] ∧ ac (ay p { g with pv := x } (σ.note step who code) * R) H') := by
  intro k
  induction k with
  | zero =>
   intro hk ha;refine ah (CX _ _ _ _ _ _ H2) ?_;refine aa (gh (by omega)) ?_;refine gs ?_;refine ah (vS _ _ _ _ _ _ H2) ?_;exact put 0 hk ha (fun p h => absurd h (by omega))
  | succ k ih =>
   intro hk ha
   have hkl : k < (aY σ.pts).length := by omega
   refine ah (CX _ _ _ _ _ _ H2) ?_;refine aa (nI (by omega)) ?_;refine gs ?_;refine av h2 ae rfl ?_;refine gs ?_;refine aa (ba (by omega) (by omega)) ?_;rw [show ((k + 1 : Nat) : Int) - 1 = (k : Int) from by omega];refine gs ?_;refine IX (s := g.pv) (l := aY σ.pts) (v := vi ((aY σ.pts)[k]).step) h2u hkl (by omega) rfl ?_;refine gs ?_
   by_cases hs : step < ((aY σ.pts)[k]).step
   ·refine aa (nI hs) ?_
    refine gs ?_;refine ah (OW _ _ _ _ _ _ H2) ?_;refine aa (ba (by omega) (by omega)) ?_;rw [show ((k + 1 : Nat) : Int) - 1 = (k : Int) from by omega];refine ih (by omega) fun j p hj hp => ?_
    by_cases e : j = k
    ·subst e
     rw [br hkl] at hp;rw [← fi hp]; exact hs
    ·exact ha j p (by omega) hp
   ·refine aa (gh hs) ?_
    refine gs ?_;refine ah (vS _ _ _ _ _ _ H2) ?_;refine put (k + 1) hk ha fun p _ hp => ?_;rw [show k + 1 - 1 = k from by omega, br hkl] at hp;rw [← fi hp]; omega
 exact down (aY σ.pts).length (bj _) fun j p hj hp => by
  rw [List.getElem?_eq_none hj] at hp; cases hp
structure Xk where
 a : Nat
 I : Nat
 free : Int
 hit : Bool
 obj : Nat
 w : Nat
 h : Nat
 q : Nat
 top : Nat
 mark : Int
 code : Int
abbrev xB (x P : Nat) (t : Tk) (k : Xk) : SP :=
 blk x (.cells false [vp P, vi t.who, vi t.x.op, vi t.x.flow, vi t.x.a, vi t.x.b, vi k.a, vi k.I, vi k.free, vb k.hit, vi k.obj, vu k.w, vu k.h, vu k.q, vw 0, vu k.top, vi k.mark, vi k.code, .slice none 0 0, vi 0, vw 0,
  vi 0, vi 0, .slice none 0 0, vw 0, vw 0, vi 0, vi 0, vi 0, vb false, vi 0, .slice none 0 0, vi 0, vw 0])
def gv (t : Tk) (k : Xk) : Prop := k.a = t.at' ∧ match t.at' with
 | 0 => k.I = t.i ∧ k.hit = false
 | 2 => k.I = t.i ∧ k.hit = false
 | 4 => k.I = t.i ∧ k.hit = false
 | 5 => k.hit = t.found ∧ (t.found = true → k.obj = t.obj) ∧ (t.found = false → k.code = t.code)
 | 6 => k.obj = t.obj
 | 7 => k.obj = t.obj
 | 8 => k.obj = t.obj ∧ k.w = t.w
 | 9 => k.obj = t.obj ∧ k.w = t.w
 | 10 => k.obj = t.obj ∧ k.w = t.w ∧ k.q = 0 ∧ k.code = t.code
 | 11 => k.obj = t.obj ∧ k.w = t.w ∧ k.code = t.code
 | 12 => k.obj = t.obj ∧ k.w = t.w
 | 13 => k.obj = t.obj ∧ k.w = t.w
 | 14 => k.obj = t.obj ∧ k.w = t.w ∧ k.q = 1 ∧ k.code = t.code
 | 15 => k.obj = t.obj
 | 16 => k.obj = t.obj ∧ k.q = t.q
 | 17 => k.obj = t.obj ∧ k.w = t.w ∧ k.q = t.q
 | 18 => k.obj = t.obj ∧ k.q = t.q ∧ k.mark = t.mark
 | 20 => k.obj = t.obj
 | 21 => k.obj = t.obj ∧ k.w = t.w ∧ k.code = t.code
 | 22 => k.obj = t.obj ∧ k.code = t.code
 | 23 => k.obj = t.obj ∧ k.top = t.top ∧ k.code = t.code
 | 24 => k.obj = t.obj ∧ k.top = t.top ∧ k.code = t.code
 | 25 => k.code = t.code
 | _ => True
def xP (x P : Nat) (σ : az) (t : Tk) : SP := ex fun k : Xk => pu (gv t k) * (xB x P t k * bQ P σ)
def xQ (x P : Nat) (r : az × Tk × Bool) : SP := ex fun k : Xk => pu (if r.2.2 = true then k.code = r.2.1.code else gv r.2.1 k) * (xB x P r.2.1 k * bQ P r.1)
section
variable {x P : Nat} {g : XIds} {σ σ' : az} {t t' : Tk} {R : SP} {H : AH} {r : az × Tk × Bool} {k : Xk}
theorem cg (h : ac (xP x P σ t * R) H) : ∃ (k : Xk) (g : XIds), gv t k ∧ ga g σ ∧ ac (xB x P t k * (ay P g σ * R)) H := by
 obtain ⟨k, h1⟩ := ac.ex.1 h;rw [ar, ac.pu] at h1;obtain ⟨g, h2, h3⟩ := iw (p := P) (σ := σ) (R := xB x P t k * R) (H := H) h1.2.to;exact ⟨k, g, h1.1, h2, h3.to⟩
theorem cO (hr : r = (σ', t', false)) (hR : gv t' k) (hg : ga g σ') (h : ac (xB x P t' k * (ay P g σ' * R)) H) : ∃ y : Unit, (vb false : Value) = vb r.2.2 ∧ ac (xQ x P r * R) H := by
 subst hr;refine ⟨(), rfl, ac.ex.2 ⟨k, ?_⟩⟩;rw [ar, ac.pu];have h1 := eK (p := P) (σ := σ') (R := xB x P t' k * R) g hg h.to;exact ⟨hR, h1.to⟩
theorem DK (hr : r = (σ', t', true)) (hc : k.code = t'.code) (hg : ga g σ') (h : ac (xB x P t' k * (ay P g σ' * R)) H) : ∃ y : Unit, (vb true : Value) = vb r.2.2 ∧ ac (xQ x P r * R) H := by
 subst hr;refine ⟨(), rfl, ac.ex.2 ⟨k, ?_⟩⟩;rw [ar, ac.pu];have h1 := eK (p := P) (σ := σ') (R := xB x P t' k * R) g hg h.to;exact ⟨hc, h1.to⟩
theorem lT {c : gf} {μ' : Mu} {obs' : List (Ob × List Pk)} {nx' : Int → Option Nat} {pts' : List Pt} {pv : Value} (h : ga g σ) (hN : σ.μ.N ≤ μ'.N) (ho : obs'.length = σ.obs.length) : ga { g with pv := pv } ⟨c, μ', obs', nx', σ.places, pts'⟩ :=
 ⟨h.1.trans ho.symm, h.2.1, dZ h.2.2 hN⟩
theorem aH {c : gf} {μ' : Mu} {obs' : List (Ob × List Pk)} {nx' : Int → Option Nat} {pts' : List Pt} (h : ga g σ) (hN : σ.μ.N ≤ μ'.N) (ho : obs'.length = σ.obs.length) : ga g ⟨c, μ', obs', nx', σ.places, pts'⟩ :=
 ⟨h.1.trans ho.symm, h.2.1, dZ h.2.2 hN⟩
end
section
variable (x P : Nat) (g : XIds) (σ : az) (t : Tk) (k : Xk)
theorem jR (hl : g.rp.length = σ.obs.length) (b : Nat) (ho : k.obj < σ.obs.length) (hb : g.rp[k.obj]? = some b) : Sp bK [vp x] (xB x P t k * ay P g σ) (fun _ : Unit => vp b) (fun _ => xB x P t k * ay P g σ) := by
 refine aX (xK _) fun R H h => ?_;refine av h ae rfl ?_;refine av h ae rfl ?_;refine av h ae rfl ?_;have h2 := h;unfold ay at h2;refine fp (s := g.rv) (l := g.rp) (v := vp b) h2 (by omega) ?_ ?_
 ·rw [br (by omega)] at hb
  rw [fi hb]
 exact aq ⟨(), rfl, h⟩
theorem wy (hw : k.w < 18446744073709551616) : Sp d9 [vp x] (xB x P t k) (fun _ : Unit => vu (ax k.w)) (fun _ => xB x P t k) := by
 refine aX (vR _) fun R H h => ?_;refine av h ae rfl ?_;refine ag h (nY k.w hw) fun _ H1 h1 => ?_;refine aa (v := vu (ax k.w)) rfl ?_;refine aa (v := vi (aS k.w)) rfl ?_;refine aa (v := vb (cB k.w)) rfl ?_;exact aq ⟨(), rfl, h1.to⟩
theorem Ur (S : SOk σ) (hl : g.rp.length = σ.obs.length) (b : Nat) (ho : k.obj < σ.obs.length) (hb : g.rp[k.obj]? = some b) :
 Sp gR [vp x] (xB x P t k * ay P g σ) (fun _ : Unit => vi (aS (σ.μ.V (11, (k.obj : Int), 0)))) (fun _ => xB x P t { k with w := σ.μ.V (11, (k.obj : Int), 0) } * ay P g (σ.mem (σ.μ.acc t.who 1 (11, (k.obj : Int), 0)))) := by
 have hN : σ.μ.N < 1099511627000 := by have := S.N; omega
 refine aX (xL _) fun R H h => ?_;refine ag h (jR x P g σ t k hl b ho hb) fun _ H1 h1 => ?_;refine bp ae ?_;refine aL h1 rfl ?_;refine aI h h1 (by rfl) ?_;refine ag h1 (m8 (p := P) (μ' := σ.μ.acc t.who 1 (11, (k.obj : Int), 0)) (by simp) hl ho hb (Qa g.m k.obj b (am σ k.obj) σ.μ t.who hN)) fun _ H2 h2 => ?_;refine bw h2 ae rfl rfl fun H3 h3 => ?_;refine av h3 ae rfl ?_;refine ag h3 (nY _ (S.V _)) fun _ H4 h4 => ?_;refine aa (v := vu (ax (σ.μ.V (11, (k.obj : Int), 0)))) rfl ?_;refine aa (v := vi (aS (σ.μ.V (11, (k.obj : Int), 0)))) rfl ?_;refine aa (v := vb (cB (σ.μ.V (11, (k.obj : Int), 0)))) rfl ?_;exact aq ⟨(), rfl, h4.to⟩
theorem Am (hg : ga g σ) (now e : Int) (hN : σ.μ.N < 1000000000) (hp : σ.pts.length < 900000) :
 Sp cC [vp x, vi now, vi e] (xB x P t k * ay P g σ) (fun _ : Value => .tuple #[]) (fun v => xB x P t { k with code := e } * ay P { g with pv := v } (σ.note now t.who e)) := by
 refine aX (xJ _ _ _) fun R H h => ?_;refine kP ?_;refine bw h ae rfl rfl fun H1 h1 => ?_;refine av h1 ae rfl ?_;refine av h1 ae rfl ?_;refine Uh h1 ae ?_;refine ag h1 (ao2 P g σ now t.who e (hg.2.1 _) (by have := hg.2.2; omega) hp) fun v H2 h2 => ?_;exact aq ⟨v, rfl, h2.to⟩
def yg (t1 : Tk) (k k' : Xk) : Prop := k'.a = k.a ∧ k'.w = k.w ∧ k'.q = k.q ∧ k'.top = k.top ∧ k'.mark = k.mark ∧ k'.code = k.code ∧ (t1.found = true → k'.hit = true ∧ k'.obj = t1.obj) ∧ (t1.found = false → k'.hit = k.hit ∧ k'.I = k.I + 1)
theorem Uq (S : SOk σ) (T : fe σ t) (hI : k.I = t.i) (hi : (t.i : Int) < σ.c.sl) :
 Sp SW [vp x] (xB x P t k * ay P g σ) (fun _ : Xk => .tuple #[vb (aD σ t).found, vb (!(aD σ t).found && cR σ (aD σ t))]) (fun k' => pu (yg (aD σ t) k k') * (xB x P t k' * ay P g (b6 σ t))) := by
 have hN : σ.μ.N < 1099511627000 := by have := S.N; omega
 have hc := bV.1 S.c;refine aX (amR _) fun R H h => ?_;refine bp ae ?_;refine aL h rfl ?_;refine bp ae ?_;refine aL h rfl ?_;refine bp ae ?_;refine aL h rfl ?_;refine av h ae rfl ?_;refine av h ae rfl ?_;refine av h (jb (cm (cm cn))) rfl ?_;refine ag h (Qe (p := P) (g := g) (σ := σ) (wA g.tb g.m σ.c.sh.toNat σ.c.sl.toNat (by omega) t.x.flow)) fun _ H1 h1 => ?_;refine aI h1 h (by rfl) ?_;refine aI h1 h (by rfl) ?_;refine aI h1 h (by rfl) ?_
 have es : vi ((t.x.flow.tmod (σ.c.sh.toNat : Int) + (σ.c.sh.toNat : Int)).tmod (σ.c.sh.toNat : Int)) = vi t.s := by rw [T.s, show ((σ.c.sh.toNat : Nat) : Int) = σ.c.sh from by omega]
 rw [es];refine bp ae ?_;refine aL h1 rfl ?_;refine aI h h1 (by rfl) ?_;rw [hI]
 have ek : k = { k with I := t.i } := by rw [← hI]
 rw [ek] at h1;refine ag h1 (Mb (p := P) (g := g) (σ := σ) (μ' := σ.μ.acc t.who 1 (10, t.s, (t.i : Int))) (by simp) (Xn g.tb g.m σ.c.sh.toNat σ.c.sl.toNat σ.μ t.who t.s t.i hN (S.V _))) fun _ H2 h2 => ?_;have tail : ∀ (k' : Xk) (H' : AH), yg { aD σ t with found := false } { k with I := t.i } { k' with I := t.i + 1 } → k'.I = t.i → (aD σ t).found = false → ac (xB x P t k' * (ay P g (b6 σ t) * R)) H' →
  wp (It (vp x) (vb false) (vb false) H') fun v' H' => ∃ k' : Xk, v' = .tuple #[vb (aD σ t).found, vb (!(aD σ t).found && cR σ (aD σ t))] ∧ ac (pu (yg (aD σ t) k k') * (xB x P t k' * ay P g (b6 σ t)) * R) H' := by
  intro k' H' hX hI' hf h';refine ah (Xz ..) ?_;refine av h' ae rfl ?_;rw [hI'];refine aa (aB (by omega) (by omega)) ?_;rw [show ((t.i : Nat) : Int) + 1 = ((t.i + 1 : Nat) : Int) from by omega];refine bw h' ae rfl rfl fun H3 h3 => ?_;refine av h3 ae rfl ?_;refine av h3 ae rfl ?_;refine av h3 ae rfl ?_;have h4 := h3;unfold ay tab at h4;refine av h4 ae rfl ?_;refine aa (v := vb (cR σ (aD σ t))) ?_ ?_
  ·rw [zH]
   congr 3
   show ((σ.c.sl.toNat : Int) ≤ _) = (σ.c.sl ≤ ((t.i + 1 : Nat) : Int));apply propext;omega
  refine aq ⟨{ k' with I := t.i + 1 }, by rw [hf]; rfl, ?_⟩;rw [ar, ac.pu];refine ⟨?_, h3.to⟩
  have e0 : aD σ t = { aD σ t with found := false } := by rw [← hf]
  rw [e0]
  simpa [yg, hI] using hX
 by_cases hv : σ.μ.V (10, t.s, (t.i : Int)) = 0
 ·have e1 : mE (σ.μ.V (10, t.s, (t.i : Int))) = .tuple #[vi 0, vi 0, vb false] := by rw [mE, if_pos hv]
  have hf : (aD σ t).found = false := gU fun q => q.1 hv;rw [e1];refine aa (v := vi 0) rfl ?_;refine aa (v := vi 0) rfl ?_;refine aa (v := vb false) rfl ?_;refine gs ?_;refine ah (Fp ..) ?_;refine gs ?_;rw [Bool.not_false];refine gs ?_;refine av h2 ae rfl ?_
  by_cases hfr : k.free < 0
  ·refine mH ?_
   refine aa (bO hfr) ?_;refine gs ?_;refine av h2 ae rfl ?_;refine bw h2 ae rfl rfl fun H3 h3 => ?_;exact tail { k with I := t.i, free := t.i } H3 (by simp [yg]) rfl hf h3.to
  ·refine mH ?_
   refine aa (bu hfr) ?_;refine gs ?_;exact tail { k with I := t.i } H2 (by simp [yg]) rfl hf h2.to
 ·have e1 : mE (σ.μ.V (10, t.s, (t.i : Int))) = .tuple #[vi ((σ.μ.V (10, t.s, (t.i : Int)) / 4294967296 : Nat) - 1), vi (σ.μ.V (10, t.s, (t.i : Int)) % 4294967296 : Nat), vb true] := by rw [mE, if_neg hv]
  rw [e1];refine aa (v := vi ((σ.μ.V (10, t.s, (t.i : Int)) / 4294967296 : Nat) - 1)) rfl ?_;refine aa (v := vi (σ.μ.V (10, t.s, (t.i : Int)) % 4294967296 : Nat)) rfl ?_;refine aa (v := vb true) rfl ?_;refine gs ?_;refine av h2 (jb (cm (cm cn))) rfl ?_;refine mH ?_
  by_cases hf : ((σ.μ.V (10, t.s, (t.i : Int)) / 4294967296 : Nat) : Int) - 1 = t.x.flow
  ·have hfo : (aD σ t).found = true := iy ⟨hv, hf⟩
   have hob : (aD σ t).obj = σ.μ.V (10, t.s, (t.i : Int)) % 4294967296 := if_pos hfo;refine aa (bF hf) ?_;refine gs ?_;refine bw h2 ae rfl rfl fun H3 h3 => ?_;refine bw h3 ae rfl rfl fun H4 h4 => ?_;refine aq ⟨{ k with I := t.i, hit := true, obj := σ.μ.V (10, t.s, (t.i : Int)) % 4294967296 }, by rw [hfo]; rfl, ?_⟩;rw [ar, ac.pu];exact ⟨by simp [yg, hfo, hob], h4.to⟩
  ·have hfo : (aD σ t).found = false := gU fun q => hf q.2
   refine aa (aQ hf) ?_;refine gs ?_;refine ah (Fp ..) ?_;refine gs ?_;rw [Bool.not_true];refine gs ?_;exact tail { k with I := t.i } H2 (by simp [yg]) rfl hfo h2.to
theorem LW {R : SP} {H : AH} {Q : Value → AH → Prop} (now : Int) (S : SOk σ) (T : fe σ t) (h : ac (xB x P t k * (ay P g σ * R)) H)
 (hk : ∀ b H', ac (blk b (.cells false [vi t.x.flow, vi t.x.a, vi t.x.b]) * (xB x P t k * (ay P g σ * R))) H' → wp (O1 (vp x) (vi now) (vb false) (vp P) (vi t.s) (vp b) H') Q) :
 wp (FF dE [vp x, vi now] H) Q := by
 have hc := bV.1 S.c;refine bf (fun r => amQ _ _ H) ?_;refine bp ae ?_;refine aL h rfl ?_;refine av h ae rfl ?_;refine av h ae rfl ?_;refine av h (jb (cm (cm cn))) rfl ?_;refine ag h (Qe (p := P) (g := g) (σ := σ) (wA g.tb g.m σ.c.sh.toNat σ.c.sl.toNat (by omega) t.x.flow)) fun _ H1 h1 => ?_;refine aI h1 h (by rfl) ?_
 have es : vi ((t.x.flow.tmod (σ.c.sh.toNat : Int) + (σ.c.sh.toNat : Int)).tmod (σ.c.sh.toNat : Int)) = vi t.s := by rw [T.s, show ((σ.c.sh.toNat : Nat) : Int) = σ.c.sh from by omega]
 rw [es];refine av h1 (jb (cm (cm cn))) rfl ?_;refine av h1 (jb (cm (cm cn))) rfl ?_;refine av h1 (jb (cm (cm cn))) rfl ?_;refine kP ?_;refine bm h1 fun b H2 h2 => ?_;refine fm h2 rfl rfl fun H3 h3 => ?_;exact hk b H3 h3.to
theorem bH {R : SP} {H : AH} {Q : Value → AH → Prop} (now : Int) (S : SOk σ) (T : fe σ t) (ha : k.a ≠ 0) (h : ac (xB x P t k * (ay P g σ * R)) H)
 (hk : ∀ b H', ac (blk b (.cells false [vi t.x.flow, vi t.x.a, vi t.x.b]) * (xB x P t k * (ay P g σ * R))) H' → wp (oR (vp x) (vi now) (vb false) (vp P) (vi t.s) (vp b) (vi k.a) H') Q) :
 wp (FF dE [vp x, vi now] H) Q := by
 refine LW x P g σ t k now S T h fun b H1 h1 => ?_;refine ah (Fm ..) ?_;refine av h1 ae rfl ?_;refine aa (aQ (by omega)) ?_;refine gs ?_;refine ah (Fo ..) ?_;refine av h1 ae rfl ?_;exact hk b H1 h1
end
theorem m0 {f : Nat} {args : List Value} {H : AH} {Q : Value → AH → Prop} (h : wp (FF f args H) Q) : wp ((FF f args H).bind fun r => some (r.1, r.2)) Q := by
 obtain ⟨v, H', e, q⟩ := h;rw [e]; exact ⟨v, H', rfl, q⟩
section
variable (x P : Nat) (σ : az) (t : Tk) (now : Int)
theorem ch6 {x0 x1 x4 x5 x6 x7 : Value} {a : Nat} {H : AH} {Q : Value → AH → Prop} (h : a ≠ 2 ∧ a ≠ 3 ∧ a ≠ 4 ∧ a ≠ 5) (hk : wp ((aj .other .eql (vi (a : Int)) (vi 6)).bind fun v => Io x0 x1 x4 x5 x6 x7 (vi (a : Int)) v H) Q) : wp (oR x0 x1 x4 x5 x6 x7 (vi (a : Int)) H) Q := by
 refine ah (lc ..) ?_;refine aa (aQ (by omega)) ?_;refine ah (n0 ..) ?_;refine gs ?_;refine aa (aQ (by omega)) ?_;refine ah (oQ ..) ?_;refine gs ?_;refine aa (aQ (by omega)) ?_;refine ah (tY ..) ?_;refine gs ?_;refine aa (aQ (by omega)) ?_;refine ah (CZ ..) ?_;refine gs ?_;exact hk
theorem ch8 {x0 x1 x4 x5 x6 x7 : Value} {a : Nat} {H : AH} {Q : Value → AH → Prop} (h : a ≠ 2 ∧ a ≠ 3 ∧ a ≠ 4 ∧ a ≠ 5 ∧ a ≠ 6 ∧ a ≠ 7) (hk : wp ((aj .other .eql (vi (a : Int)) (vi 8)).bind fun v => Ip x0 x1 x4 x5 x6 x7 (vi (a : Int)) v H) Q) : wp (oR x0 x1 x4 x5 x6 x7 (vi (a : Int)) H) Q := by
 refine ch6 (by omega) ?_;refine aa (aQ (by omega)) ?_;refine ah (tZ ..) ?_;refine gs ?_;refine aa (aQ (by omega)) ?_;refine ah (C0 ..) ?_;refine gs ?_;exact hk
theorem alQ {x0 x1 x4 x5 x6 x7 : Value} {a : Nat} {H : AH} {Q : Value → AH → Prop} (h : a ≠ 2 ∧ a ≠ 3 ∧ a ≠ 4 ∧ a ≠ 5 ∧ a ≠ 6 ∧ a ≠ 7 ∧ a ≠ 8 ∧ a ≠ 9 ∧ a ≠ 13) (hk : wp ((aj .other .eql (vi (a : Int)) (vi 10)).bind fun v98 => aw v98 (vT x0 x1 x4 x5 x6 x7 (vi (a : Int)) v98 H) ((aj .other .eql (vi (a : Int)) (vi 14)).bind fun v99 => vT x0 x1 x4 x5 x6 x7 (vi (a : Int)) v99 H)) Q) : wp (oR x0 x1 x4 x5 x6 x7 (vi (a : Int)) H) Q := by
 refine ch8 (by omega) ?_;refine aa (aQ (by omega)) ?_;refine ah (oS ..) ?_;refine gs ?_;refine aa (aQ (by omega)) ?_;refine gs ?_;refine aa (aQ (by omega)) ?_;refine ah (t3 ..) ?_;refine gs ?_;exact hk
theorem alR {x0 x1 x4 x5 x6 x7 : Value} {a : Nat} {H : AH} {Q : Value → AH → Prop} (h : a ≠ 2 ∧ a ≠ 3 ∧ a ≠ 4 ∧ a ≠ 5 ∧ a ≠ 6 ∧ a ≠ 7 ∧ a ≠ 8 ∧ a ≠ 9 ∧ a ≠ 10 ∧ a ≠ 13 ∧ a ≠ 14) (hk : wp ((aj .other .eql (vi (a : Int)) (vi 11)).bind fun v => Ir x0 x1 x4 x5 x6 (vi (a : Int)) v H) Q) : wp (oR x0 x1 x4 x5 x6 x7 (vi (a : Int)) H) Q := by
 refine alQ (by omega) ?_;refine aa (aQ (by omega)) ?_;refine gs ?_;refine aa (aQ (by omega)) ?_;refine ah (t4 ..) ?_;refine gs ?_;exact hk
theorem Zg {x0 x1 x4 x5 x6 x7 : Value} {a : Nat} {H : AH} {Q : Value → AH → Prop} (h : a ≠ 2 ∧ a ≠ 3 ∧ a ≠ 4 ∧ a ≠ 5 ∧ a ≠ 6 ∧ a ≠ 7 ∧ a ≠ 8 ∧ a ≠ 9 ∧ a ≠ 10 ∧ a ≠ 11 ∧ a ≠ 12 ∧ a ≠ 13 ∧ a ≠ 14) (hk : wp ((aj .other .eql (vi (a : Int)) (vi 15)).bind fun v92 => aw v92 (kN x0 x1 x4 x6 v92 H) ((aj .other .eql (vi (a : Int)) (vi 16)).bind fun v93 => aw v93 (kN x0 x1 x4 x6 v93 H) ((aj .other .eql (vi (a : Int)) (vi 17)).bind fun v94 => aw v94 (kN x0 x1 x4 x6 v94 H) ((aj .other .eql (vi (a : Int)) (vi 18)).bind fun v95 => kN x0 x1 x4 x6 v95 H)))) Q) : wp (oR x0 x1 x4 x5 x6 x7 (vi (a : Int)) H) Q := by
 refine alR (by omega) ?_;refine aa (aQ (by omega)) ?_;refine ah (t5 ..) ?_;refine gs ?_;refine aa (aQ (by omega)) ?_;refine ah (C1 ..) ?_;refine gs ?_;exact hk
theorem chw {x0 x1 x4 x5 x6 x7 : Value} {a : Nat} {H : AH} {Q : Value → AH → Prop} (h : a ≠ 2 ∧ a ≠ 3 ∧ a ≠ 4 ∧ a ≠ 5 ∧ a ≠ 6 ∧ a ≠ 7 ∧ a ≠ 8 ∧ a ≠ 9 ∧ a ≠ 10 ∧ a ≠ 11 ∧ a ≠ 12 ∧ a ≠ 13 ∧ a ≠ 14 ∧ a ≠ 15 ∧ a ≠ 16 ∧ a ≠ 17 ∧ a ≠ 18) (hk : wp ((FF adF [x0, x6] H).bind fun r91 => some (r91.1, r91.2)) Q) : wp (oR x0 x1 x4 x5 x6 x7 (vi (a : Int)) H) Q := by
 refine Zg (by omega) ?_;refine aa (aQ (by omega)) ?_;refine gs ?_;refine aa (aQ (by omega)) ?_;refine gs ?_;refine aa (aQ (by omega)) ?_;refine gs ?_;refine aa (aQ (by omega)) ?_;refine ah (lZ ..) ?_;refine gs ?_;exact hk
theorem aj4 (S : SOk σ) (T : fe σ t) (hat : t.at' = 3) : Sp dE [vp x, vi now] (xP x P σ t) (fun _ : Unit => vb (ai σ t now).2.2) (fun _ => xQ x P (ai σ t now)) := by
 have hN : σ.μ.N < 1099511627000 := by have := S.N; omega
 refine aZ fun R H h => ?_;obtain ⟨k, g, hR, hg, h0⟩ := cg h;have hl := hg.1;simp only [gv, hat] at hR;obtain ⟨ha, _⟩ := hR;refine bH x P g σ t k now S T (by omega) h0 fun b1 H1 h1 => ?_;refine ah (lc ..) ?_;refine aa (aQ (by omega)) ?_;refine ah (n0 ..) ?_;refine gs ?_;refine aa (bF (by omega)) ?_;refine ah (oQ ..) ?_;refine gs ?_;refine av h1 ae rfl ?_;refine av h1 ae rfl ?_;refine ag h1 (Mb (p := P) (g := g) (σ := σ) (μ' := σ.μ.swp t.who (8, t.s, 0) 0 1) (by simp) (aeC g.tb g.m σ.c.sh.toNat σ.c.sl.toNat σ.μ t.who t.s hN)) fun _ H2 h2 => ?_
 by_cases hw : σ.μ.V (8, t.s, 0) = 0
 ·rw [iy hw]
  refine gs ?_;refine bw h2 ae rfl rfl fun H3 h3 => ?_;refine bw h3 ae rfl rfl fun H4 h4 => ?_;refine bw h4 ae rfl rfl fun H5 h5 => ?_;refine ah (bT ..) ?_;exact aq (cO (g := g) (σ' := σ.mem (σ.μ.swp t.who (8, t.s, 0) 0 1)) (t' := { t with at' := 4, i := 0 }) (k := { k with a := 4, I := 0, hit := false }) (by simp only [ai, hat]; rw [if_pos hw]) (by simp [gv]) (aH (σ := σ) hg (by simp) rfl) h5.to)
 ·rw [gU hw]
  refine gs ?_;refine ah (bT ..) ?_;exact aq (cO (g := g) (σ' := σ.mem (σ.μ.swp t.who (8, t.s, 0) 0 1)) (t' := t) (k := k) (by simp only [ai, hat]; rw [if_neg hw]) (by simp only [gv, hat]; exact ⟨ha, trivial⟩) (aH (σ := σ) hg (by simp) rfl) h2.to)
theorem aj6 (S : SOk σ) (T : fe σ t) (hat : t.at' = 5) : Sp dE [vp x, vi now] (xP x P σ t) (fun _ : Unit => vb (ai σ t now).2.2) (fun _ => xQ x P (ai σ t now)) := by
 have hN : σ.μ.N < 1099511627000 := by have := S.N; omega
 refine aZ fun R H h => ?_;obtain ⟨k, g, hR, hg, h0⟩ := cg h;have hl := hg.1;simp only [gv, hat] at hR;obtain ⟨ha, hhit, hobj, hcode⟩ := hR;refine bH x P g σ t k now S T (by omega) h0 fun b1 H1 h1 => ?_;refine ah (lc ..) ?_;refine aa (aQ (by omega)) ?_;refine ah (n0 ..) ?_;refine gs ?_;refine aa (aQ (by omega)) ?_;refine ah (oQ ..) ?_;refine gs ?_;refine aa (aQ (by omega)) ?_;refine ah (tY ..) ?_;refine gs ?_;refine aa (bF (by omega)) ?_;refine ah (CZ ..) ?_;refine gs ?_;refine av h1 ae rfl ?_;refine av h1 ae rfl ?_;refine ag h1 (Mb (p := P) (g := g) (σ := σ) (μ' := (σ.μ.acc t.who 2 (8, t.s, 0)).put (8, t.s, 0) 0) (by simp) (OQ g.tb g.m σ.c.sh.toNat σ.c.sl.toNat σ.μ t.who t.s hN)) fun _ H2 h2 => ?_;refine av h2 ae rfl ?_;cases hf : t.found
 ·rw [hf] at hhit
  rw [hhit];refine gs ?_;rw [Bool.not_false];refine gs ?_;exact aq (DK (g := g) (k := k) (σ' := σ.mem ((σ.μ.acc t.who 2 (8, t.s, 0)).put (8, t.s, 0) 0)) (t' := { t with at' := 6 }) (by simp only [ai, hat, hf]; rfl) (hcode hf) (aH (σ := σ) hg (by simp) rfl) h2.to)
 ·rw [hf] at hhit
  rw [hhit];refine gs ?_;rw [Bool.not_true];refine gs ?_;refine bw h2 ae rfl rfl fun H3 h3 => ?_;refine ah (bT ..) ?_;exact aq (cO (g := g) (σ' := σ.mem ((σ.μ.acc t.who 2 (8, t.s, 0)).put (8, t.s, 0) 0)) (t' := { t with at' := 6 }) (k := { k with a := 6 }) (by simp only [ai, hat, hf]; rfl) (by simp [gv, hobj hf]) (aH (σ := σ) hg (by simp) rfl) h3.to)
theorem aj7 (S : SOk σ) (T : fe σ t) (hat : t.at' = 6) : Sp dE [vp x, vi now] (xP x P σ t) (fun _ : Unit => vb (ai σ t now).2.2) (fun _ => xQ x P (ai σ t now)) := by
 have hN : σ.μ.N < 1099511627000 := by have := S.N; omega
 refine aZ fun R H h => ?_;obtain ⟨k, g, hR, hg, h0⟩ := cg h;have hl := hg.1;simp only [gv, hat] at hR;obtain ⟨ha, hobj⟩ := hR;have ho := T.obj (.inl (by omega))
 have hob : k.obj < σ.obs.length := by omega
 obtain ⟨b, hb⟩ : ∃ b, g.rp[k.obj]? = some b := ⟨_, br (by omega)⟩;refine bH x P g σ t k now S T (by omega) h0 fun b1 H1 h1 => ?_;refine ch6 (by omega) ?_;refine aa (bF (by omega)) ?_;refine ah (tZ ..) ?_;refine gs ?_;refine av h1 ae rfl ?_;refine av h1 ae rfl ?_;refine ag h1 (P7 P g σ hl t.who k.obj hob S.N) fun _ H2 h2 => ?_;refine bw h2 ae rfl rfl fun H3 h3 => ?_;refine ah (bT ..) ?_;rw [hobj] at h3;exact aq (cO (g := g) (σ' := σ.mem (σ.μ.acc t.who 5 (13, (t.obj : Int), 0))) (t' := { t with at' := 7 }) (k := { k with a := 7, obj := t.obj }) (by simp only [ai, hat]) (by simp [gv]) (aH (σ := σ) hg (by simp) rfl) h3.to)
theorem aj8 (S : SOk σ) (T : fe σ t) (hat : t.at' = 7) : Sp dE [vp x, vi now] (xP x P σ t) (fun _ : Unit => vb (ai σ t now).2.2) (fun _ => xQ x P (ai σ t now)) := by
 have hN : σ.μ.N < 1099511627000 := by have := S.N; omega
 refine aZ fun R H h => ?_;obtain ⟨k, g, hR, hg, h0⟩ := cg h;have hl := hg.1;simp only [gv, hat] at hR;obtain ⟨ha, hobj⟩ := hR;have ho := T.obj (.inl (by omega))
 have hob : k.obj < σ.obs.length := by omega
 obtain ⟨b, hb⟩ : ∃ b, g.rp[k.obj]? = some b := ⟨_, br (by omega)⟩;refine bH x P g σ t k now S T (by omega) h0 fun b1 H1 h1 => ?_;refine ch6 (by omega) ?_;refine aa (aQ (by omega)) ?_;refine ah (tZ ..) ?_;refine gs ?_;refine aa (bF (by omega)) ?_;refine ah (C0 ..) ?_;refine gs ?_;refine bw h1 ae rfl rfl fun H2 h2 => ?_;refine ag h2 (Ur x P g σ t { k with a := 8 } S hl b hob hb) fun _ H3 h3 => ?_;dsimp only at h3;rw [hobj] at h3
 by_cases hw : aS (σ.μ.V (11, (t.obj : Int), 0)) = 2
 ·refine aa (bF (by rw [hobj]; exact hw)) ?_
  refine gs ?_;refine bw h3 ae rfl rfl fun H4 h4 => ?_;refine ah (bT ..) ?_;exact aq (cO (g := g) (σ' := kD σ t) (t' := { t with at' := 3, w := σ.μ.V (11, (t.obj : Int), 0) }) (k := { k with a := 3, obj := t.obj, w := σ.μ.V (11, (t.obj : Int), 0) }) (by simp only [ai, hat]; rw [if_pos hw]) (by simp [gv]) (aH (σ := σ) hg (by simp) rfl) h4.to)
 ·refine aa (aQ (by rw [hobj]; exact hw)) ?_
  refine gs ?_;refine ah (bT ..) ?_;exact aq (cO (g := g) (σ' := kD σ t) (t' := { t with at' := 8, w := σ.μ.V (11, (t.obj : Int), 0) }) (k := { k with a := 8, obj := t.obj, w := σ.μ.V (11, (t.obj : Int), 0) }) (by simp only [ai, hat]; rw [if_neg hw]) (by simp [gv]) (aH (σ := σ) hg (by simp) rfl) h3.to)
theorem aj9 (S : SOk σ) (T : fe σ t) (hat : t.at' = 8) : Sp dE [vp x, vi now] (xP x P σ t) (fun _ : Unit => vb (ai σ t now).2.2) (fun _ => xQ x P (ai σ t now)) := by
 have hN : σ.μ.N < 1099511627000 := by have := S.N; omega
 refine aZ fun R H h => ?_;obtain ⟨k, g, hR, hg, h0⟩ := cg h;have hl := hg.1;simp only [gv, hat] at hR;obtain ⟨ha, hobj, hw0⟩ := hR;have ho := T.obj (.inl (by omega))
 have hob : k.obj < σ.obs.length := by omega
 obtain ⟨b, hb⟩ : ∃ b, g.rp[k.obj]? = some b := ⟨_, br (by omega)⟩;refine bH x P g σ t k now S T (by omega) h0 fun b1 H1 h1 => ?_;refine ch8 (by omega) ?_;refine aa (bF (by omega)) ?_;refine ah (oS ..) ?_;refine gs ?_;refine ag h1 (jR x P g σ t k hl b hob hb) fun _ H2 h2 => ?_;refine bp ae ?_;refine aL h2 rfl ?_;refine aI h1 h2 (by rfl) ?_;refine ag h2 (m8 (p := P) (μ' := σ.μ.acc t.who 1 (12, (k.obj : Int), 0)) (by simp) hl hob hb (DO g.m k.obj b (am σ k.obj) σ.μ t.who hN)) fun _ H3 h3 => ?_;refine bw h3 ae rfl rfl fun H4 h4 => ?_;refine av h4 ae rfl ?_;refine ag h4 (nY k.w (by rw [hw0]; exact T.w)) fun _ H5 h5 => ?_;refine aa (v := vu (ax k.w)) rfl ?_;refine aa (v := vi (aS k.w)) rfl ?_;refine aa (v := vb (cB k.w)) rfl ?_;refine ah (O3 ..) ?_;refine ag h5 (jR x P g (σ.mem (σ.μ.acc t.who 1 (12, (k.obj : Int), 0))) t { k with h := σ.μ.V (12, (k.obj : Int), 0) } hl b hob hb) fun _ H6 h6 => ?_;refine bp ae ?_;refine aL h6 rfl ?_;refine aI h5 h6 (by rfl) ?_;refine bp ae ?_;refine aL h6 rfl ?_;refine aI h5 h6 (by rfl) ?_;refine ag h6 (I8 (p := P) (σ := σ.mem (σ.μ.acc t.who 1 (12, (k.obj : Int), 0))) hl hob hb (DN g.m k.obj b (am σ k.obj) k.w (σ.μ.V (12, (k.obj : Int), 0)) (by rw [hw0]; exact T.w) (S.cells _ hob).2)) fun _ H7 h7 => ?_;rw [hobj, hw0] at h7;rw [hobj, hw0];cases hf : mn t.w (σ.μ.V (12, (t.obj : Int), 0)) (am σ t.obj).length
 ·refine gs ?_
  by_cases hw : aS t.w = 1
  ·refine aa (bF hw) ?_
   refine gs ?_;refine bw h7 ae rfl rfl fun H8 h8 => ?_;refine ah (bT ..) ?_;exact aq (cO (g := g) (σ' := iF σ t) (t' := { t with at' := 9 }) (k := { k with a := 9, obj := t.obj, w := t.w, h := σ.μ.V (12, (t.obj : Int), 0) }) (by simp only [ai, hat, ku, hf]; rw [if_pos hw]; rfl) (by simp [gv]) (aH (σ := σ) hg (by simp) rfl) h8.to)
  ·refine aa (aQ hw) ?_
   refine gs ?_;refine bw h7 ae rfl rfl fun H8 h8 => ?_;refine ah (bT ..) ?_;exact aq (cO (g := g) (σ' := iF σ t) (t' := { t with at' := 12 }) (k := { k with a := 12, obj := t.obj, w := t.w, h := σ.μ.V (12, (t.obj : Int), 0) }) (by simp only [ai, hat, ku, hf]; rw [if_neg hw]; rfl) (by simp [gv]) (aH (σ := σ) hg (by simp) rfl) h8.to)
 ·refine gs ?_
  refine bw h7 ae rfl rfl fun H8 h8 => ?_;refine ah (bT ..) ?_;exact aq (cO (g := g) (σ' := iF σ t) (t' := { t with at' := 15 }) (k := { k with a := 15, obj := t.obj, w := t.w, h := σ.μ.V (12, (t.obj : Int), 0) }) (by simp only [ai, hat, ku, hf]; rfl) (by simp [gv]) (aH (σ := σ) hg (by simp) rfl) h8.to)
theorem LZ (g : XIds) (k : Xk) (S : SOk σ) (hg : ga g σ) (ha : k.a = 9 ∨ k.a = 13) (b : Nat) (ho : k.obj < σ.obs.length) (hb : g.rp[k.obj]? = some b) (hw0 : k.w < 18446744073709551616) :
 Sp jA [vp x, vi now] (xB x P t k * ay P g σ) (fun _ : Value => .tuple #[]) (fun v => if cY σ.μ k.obj k.w (aR k.w 0) = true then
  xB x P t { k with q := if k.a = 13 then 1 else 0, a := k.a + 1, code := 0 } * ay P { g with pv := v } ((σ.mem (σ.μ.turn t.who k.obj k.w (aR k.w 0))).note now t.who 0)
  else xB x P t { k with q := if k.a = 13 then 1 else 0, a := if k.a = 13 then 20 else 7 } * ay P g (σ.mem (σ.μ.turn t.who k.obj k.w (aR k.w 0)))) := by
 have hN : σ.μ.N < 1099511627000 := by have := S.N; omega
 have hl := hg.1
 have hturn : σ.μ.N ≤ (σ.μ.turn t.who k.obj k.w (aR k.w 0)).N := by cases aR k.w 0 <;> simp
 have hturn2 : (σ.μ.turn t.who k.obj k.w (aR k.w 0)).N ≤ σ.μ.N + 2 := by cases aR k.w 0 <;> simp
 refine aX (vQ _ _) fun R H h => ?_;refine bw h ae rfl rfl fun H1 h1 => ?_;refine ah (qQ ..) ?_;refine av h1 ae rfl ?_
 have main : ∀ (q : Nat) (H2 : AH), q = (if k.a = 13 then 1 else 0) → ac (xB x P t { k with q := q } * (ay P g σ * R)) H2 → wp (fE (vp x) (vi now) H2) fun v' H' => ∃ v : Value, v' = .tuple #[] ∧ ac ((if cY σ.μ k.obj k.w (aR k.w 0) = true then
  xB x P t { k with q := if k.a = 13 then 1 else 0, a := k.a + 1, code := 0 } * ay P { g with pv := v } ((σ.mem (σ.μ.turn t.who k.obj k.w (aR k.w 0))).note now t.who 0)
  else xB x P t { k with q := if k.a = 13 then 1 else 0, a := if k.a = 13 then 20 else 7 } * ay P g (σ.mem (σ.μ.turn t.who k.obj k.w (aR k.w 0)))) * R) H' := by
  intro q H2 hq h2;refine ah (qR ..) ?_;refine ag h2 (jR x P g σ t { k with q := q } hl b ho hb) fun _ H3 h3 => ?_;refine bp ae ?_;refine aL h3 rfl ?_;refine aI h2 h3 (by rfl) ?_;refine bp ae ?_;refine aL h3 rfl ?_;refine aI h2 h3 (by rfl) ?_;refine ag h3 (m8 (p := P) (μ' := σ.μ.turn t.who k.obj k.w (aR k.w 0)) hturn hl ho hb (P9 g.m k.obj b (am σ k.obj) σ.μ t.who k.w 0 (by omega) hw0 hN)) fun _ H4 h4 => ?_;cases hw : cY σ.μ k.obj k.w (aR k.w 0)
  ·refine gs ?_
   refine av h4 ae rfl ?_
   rcases ha with ha | ha
   ·refine aa (bF (show ((k.a : Nat) : Int) = 9 by omega)) ?_
    refine gs ?_;refine bw h4 ae rfl rfl fun H5 h5 => ?_;refine aq ⟨.bool true, rfl, ?_⟩;rw [if_neg (by simp)];simp only [hq] at h5;rw [if_neg (by omega)] at h5 ⊢;rw [if_neg (by omega)];exact h5.to
   ·refine aa (aQ (show ¬ ((k.a : Nat) : Int) = 9 by omega)) ?_
    refine gs ?_;refine bw h4 ae rfl rfl fun H5 h5 => ?_;refine aq ⟨.bool true, rfl, ?_⟩;rw [if_neg (by simp)];simp only [hq] at h5;rw [if_pos ha] at h5 ⊢;rw [if_pos ha];exact h5.to
  ·refine gs ?_
   refine ag h4 (Am x P g (σ.mem (σ.μ.turn t.who k.obj k.w (aR k.w 0))) t { k with q := q } (aH (σ := σ) hg hturn rfl) now 0 (by have := S.N; show (σ.μ.turn t.who k.obj k.w (aR k.w 0)).N < _; omega) S.pts) fun v H5 h5 => ?_;refine av h5 ae rfl ?_;refine aa (aB (a := ((k.a : Nat) : Int)) (b := 1) (by omega) (by omega)) ?_;rw [show ((k.a : Nat) : Int) + 1 = ((k.a + 1 : Nat) : Int) from by omega];refine bw h5 ae rfl rfl fun H6 h6 => ?_;refine aq ⟨v, rfl, ?_⟩;rw [if_pos rfl];simp only [hq] at h6;exact h6.to
 rcases ha with ha | ha
 ·refine aa (aQ (by omega)) ?_
  refine gs ?_;exact main 0 H1 (by rw [if_neg (by omega)]) h1.to
 ·refine aa (bF (by omega)) ?_
  refine gs ?_;refine bw h1 ae rfl rfl fun H2 h2 => ?_;exact main 1 H2 (by rw [if_pos ha]) h2.to
theorem akA (S : SOk σ) (T : fe σ t) (hat : t.at' = 9) : Sp dE [vp x, vi now] (xP x P σ t) (fun _ : Unit => vb (ai σ t now).2.2) (fun _ => xQ x P (ai σ t now)) := by
 have hN : σ.μ.N < 1099511627000 := by have := S.N; omega
 refine aZ fun R H h => ?_;obtain ⟨k, g, hR, hg, h0⟩ := cg h;have hl := hg.1;simp only [gv, hat] at hR;obtain ⟨ha, hobj, hw0⟩ := hR;have ho := T.obj (.inl (by omega))
 have hob : k.obj < σ.obs.length := by omega
 obtain ⟨b, hb⟩ : ∃ b, g.rp[k.obj]? = some b := ⟨_, br (by omega)⟩;refine bH x P g σ t k now S T (by omega) h0 fun b1 H1 h1 => ?_;refine ch8 (by omega) ?_;refine aa (aQ (by omega)) ?_;refine ah (oS ..) ?_;refine gs ?_;refine aa (bF (by omega)) ?_;refine gs ?_;refine ah (t3 ..) ?_;refine gs ?_
 have hturn : σ.μ.N ≤ (σ.μ.turn t.who k.obj k.w (aR k.w 0)).N := by cases aR k.w 0 <;> simp
 refine ag h1 (LZ x P σ t now g k S hg (by omega) b hob hb (by rw [hw0]; exact T.w)) fun v H2 h2 => ?_;refine ah (bT ..) ?_;cases hw : cY σ.μ t.obj t.w (aR t.w 0)
 ·rw [if_neg (by rw [hobj, hw0, hw]; simp)] at h2
  rw [hobj, hw0, ha, if_neg (by omega), if_neg (by omega)] at h2;exact aq (cO (g := g) (σ' := σ.mem (σ.μ.turn t.who t.obj t.w (aR t.w 0))) (t' := { t with at' := 7 }) (k := { k with a := 7, obj := t.obj, w := t.w, q := 0 }) (by simp only [ai, hat, hw]; rfl) (by simp [gv]) (aH (σ := σ) hg (by rw [hobj, hw0] at hturn; exact hturn) rfl) h2.to)
 ·rw [if_pos (by rw [hobj, hw0, hw])] at h2
  rw [hobj, hw0, ha, if_neg (by omega)] at h2;exact aq (cO (g := { g with pv := v }) (σ' := (σ.mem (σ.μ.turn t.who t.obj t.w (aR t.w 0))).note now t.who 0) (t' := { t with at' := 10, code := 0 }) (k := { k with a := 10, obj := t.obj, w := t.w, q := 0, code := 0 }) (by simp only [ai, hat, hw]; rfl) (by simp [gv]) (lT (σ := σ) hg (by rw [hobj, hw0] at hturn; exact hturn) rfl) h2.to)
theorem agU (S : SOk σ) (T : fe σ t) (hat : t.at' = 13) : Sp dE [vp x, vi now] (xP x P σ t) (fun _ : Unit => vb (ai σ t now).2.2) (fun _ => xQ x P (ai σ t now)) := by
 have hN : σ.μ.N < 1099511627000 := by have := S.N; omega
 refine aZ fun R H h => ?_;obtain ⟨k, g, hR, hg, h0⟩ := cg h;have hl := hg.1;simp only [gv, hat] at hR;obtain ⟨ha, hobj, hw0⟩ := hR;have ho := T.obj (.inl (by omega))
 have hob : k.obj < σ.obs.length := by omega
 obtain ⟨b, hb⟩ : ∃ b, g.rp[k.obj]? = some b := ⟨_, br (by omega)⟩;refine bH x P g σ t k now S T (by omega) h0 fun b1 H1 h1 => ?_;refine ch8 (by omega) ?_;refine aa (aQ (by omega)) ?_;refine ah (oS ..) ?_;refine gs ?_;refine aa (aQ (by omega)) ?_;refine gs ?_;refine aa (bF (by omega)) ?_;refine ah (t3 ..) ?_;refine gs ?_
 have hturn : σ.μ.N ≤ (σ.μ.turn t.who k.obj k.w (aR k.w 0)).N := by cases aR k.w 0 <;> simp
 refine ag h1 (LZ x P σ t now g k S hg (by omega) b hob hb (by rw [hw0]; exact T.w)) fun v H2 h2 => ?_;refine ah (bT ..) ?_;cases hw : cY σ.μ t.obj t.w (aR t.w 0)
 ·rw [if_neg (by rw [hobj, hw0, hw]; simp)] at h2
  rw [hobj, hw0, ha, if_pos rfl, if_pos rfl] at h2;exact aq (cO (g := g) (σ' := σ.mem (σ.μ.turn t.who t.obj t.w (aR t.w 0))) (t' := { t with at' := 20 }) (k := { k with a := 20, obj := t.obj, w := t.w, q := 1 }) (by simp only [ai, hat, hw]; rfl) (by simp [gv]) (aH (σ := σ) hg (by rw [hobj, hw0] at hturn; exact hturn) rfl) h2.to)
 ·rw [if_pos (by rw [hobj, hw0, hw])] at h2
  rw [hobj, hw0, ha, if_pos rfl] at h2;exact aq (cO (g := { g with pv := v }) (σ' := (σ.mem (σ.μ.turn t.who t.obj t.w (aR t.w 0))).note now t.who 0) (t' := { t with at' := 14, code := 0 }) (k := { k with a := 14, obj := t.obj, w := t.w, q := 1, code := 0 }) (by simp only [ai, hat, hw]; rfl) (by simp [gv]) (lT (σ := σ) hg (by rw [hobj, hw0] at hturn; exact hturn) rfl) h2.to)
theorem agR (S : SOk σ) (T : fe σ t) (hat : t.at' = 10) : Sp dE [vp x, vi now] (xP x P σ t) (fun _ : Unit => vb (ai σ t now).2.2) (fun _ => xQ x P (ai σ t now)) := by
 have hN : σ.μ.N < 1099511627000 := by have := S.N; omega
 refine aZ fun R H h => ?_;obtain ⟨k, g, hR, hg, h0⟩ := cg h;have hl := hg.1;simp only [gv, hat] at hR;obtain ⟨ha, hobj, hw0, hq, hcode⟩ := hR;have ho := T.obj (.inl (by omega))
 have hob : k.obj < σ.obs.length := by omega
 obtain ⟨b, hb⟩ : ∃ b, g.rp[k.obj]? = some b := ⟨_, br (by omega)⟩;refine bH x P g σ t k now S T (by omega) h0 fun b1 H1 h1 => ?_;refine alQ (by omega) ?_;refine aa (bF (by omega)) ?_;refine gs ?_;refine ah (t4 ..) ?_;refine gs ?_;refine ag h1 (jR x P g σ t k hl b hob hb) fun _ H2 h2 => ?_;refine bp ae ?_;refine aL h2 rfl ?_;refine aI h1 h2 (by rfl) ?_;refine ag h2 (wy x P t k (by rw [hw0]; exact T.w)) fun _ H3 h3 => ?_;refine aI h3 h2 (by rfl) ?_;refine a7 h3 ?_;refine en h1 h3 rfl ?_;refine en h2 h3 rfl ?_;refine ag h3 (FZ (p := P) (μ' := σ.μ.acc t.who 6 (16, (k.obj : Int), ((ax k.w % (am σ k.obj).length : Nat) : Int))) (by simp) hl hob hb (FW g.m k.obj b (am σ k.obj) σ.μ t.who (ax k.w) ⟨t.x.flow, t.x.a, t.x.b⟩ (S.cells _ hob) hN)) fun _ H4 h4 => ?_;refine bw h4 ae rfl rfl fun H5 h5 => ?_;refine av h5 ae rfl ?_;refine aa (aQ (by omega)) ?_;refine gs ?_;refine ah (bT ..) ?_;have e1 := z6 σ t;rw [hobj, hw0, ← e1] at h5;exact aq (cO (g := g) (σ' := g7 σ t) (t' := { t with at' := 11 }) (k := { k with a := 11, obj := t.obj, w := t.w }) (by simp only [ai, hat]) (by simp [gv, hcode]) (aH (σ := σ) hg (by simp) (iH σ t)) h5.to)
theorem agV (S : SOk σ) (T : fe σ t) (hat : t.at' = 14) : Sp dE [vp x, vi now] (xP x P σ t) (fun _ : Unit => vb (ai σ t now).2.2) (fun _ => xQ x P (ai σ t now)) := by
 have hN : σ.μ.N < 1099511627000 := by have := S.N; omega
 refine aZ fun R H h => ?_;obtain ⟨k, g, hR, hg, h0⟩ := cg h;have hl := hg.1;simp only [gv, hat] at hR;obtain ⟨ha, hobj, hw0, hq, hcode⟩ := hR;have ho := T.obj (.inl (by omega))
 have hob : k.obj < σ.obs.length := by omega
 obtain ⟨b, hb⟩ : ∃ b, g.rp[k.obj]? = some b := ⟨_, br (by omega)⟩;refine bH x P g σ t k now S T (by omega) h0 fun b1 H1 h1 => ?_;refine alQ (by omega) ?_;refine aa (aQ (by omega)) ?_;refine gs ?_;refine aa (bF (by omega)) ?_;refine ah (t4 ..) ?_;refine gs ?_;refine ag h1 (jR x P g σ t k hl b hob hb) fun _ H2 h2 => ?_;refine bp ae ?_;refine aL h2 rfl ?_;refine aI h1 h2 (by rfl) ?_;refine ag h2 (wy x P t k (by rw [hw0]; exact T.w)) fun _ H3 h3 => ?_;refine aI h3 h2 (by rfl) ?_;refine a7 h3 ?_;refine en h1 h3 rfl ?_;refine en h2 h3 rfl ?_;refine ag h3 (FZ (p := P) (μ' := σ.μ.acc t.who 6 (16, (k.obj : Int), ((ax k.w % (am σ k.obj).length : Nat) : Int))) (by simp) hl hob hb (FW g.m k.obj b (am σ k.obj) σ.μ t.who (ax k.w) ⟨t.x.flow, t.x.a, t.x.b⟩ (S.cells _ hob) hN)) fun _ H4 h4 => ?_;refine bw h4 ae rfl rfl fun H5 h5 => ?_;refine av h5 ae rfl ?_;refine aa (bF (by omega)) ?_;refine gs ?_;refine bw h5 ae rfl rfl fun H6 h6 => ?_;refine ah (bT ..) ?_;have e1 := z6 σ t;rw [hobj, hw0, ← e1] at h6;exact aq (cO (g := g) (σ' := g7 σ t) (t' := { t with at' := 21 }) (k := { k with a := 21, obj := t.obj, w := t.w }) (by simp only [ai, hat]) (by simp [gv, hcode]) (aH (σ := σ) hg (by simp) (iH σ t)) h6.to)
theorem agS (S : SOk σ) (T : fe σ t) (hat : t.at' = 11) : Sp dE [vp x, vi now] (xP x P σ t) (fun _ : Unit => vb (ai σ t now).2.2) (fun _ => xQ x P (ai σ t now)) := by
 have hN : σ.μ.N < 1099511627000 := by have := S.N; omega
 refine aZ fun R H h => ?_;obtain ⟨k, g, hR, hg, h0⟩ := cg h;have hl := hg.1;simp only [gv, hat] at hR;obtain ⟨ha, hobj, hw0, hcode⟩ := hR;have ho := T.obj (.inl (by omega))
 have hob : k.obj < σ.obs.length := by omega
 obtain ⟨b, hb⟩ : ∃ b, g.rp[k.obj]? = some b := ⟨_, br (by omega)⟩;refine bH x P g σ t k now S T (by omega) h0 fun b1 H1 h1 => ?_;refine alR (by omega) ?_;refine aa (bF (by omega)) ?_;refine ah (t5 ..) ?_;refine gs ?_;refine ag h1 (jR x P g σ t k hl b hob hb) fun _ H2 h2 => ?_;refine bp ae ?_;refine aL h2 rfl ?_;refine aI h1 h2 (by rfl) ?_;refine ag h2 (wy x P t k (by rw [hw0]; exact T.w)) fun _ H3 h3 => ?_;refine aI h3 h2 (by rfl) ?_;have hwc := ej k.w;refine ag h3 (m8 (p := P) (μ' := (σ.μ.acc t.who 2 (15, (k.obj : Int), ((ax k.w % (am σ k.obj).length : Nat) : Int))).put (15, (k.obj : Int), ((ax k.w % (am σ k.obj).length : Nat) : Int)) (ax k.w + 1)) (by simp) hl hob hb (DP g.m k.obj b (am σ k.obj) σ.μ t.who (ax k.w) (by omega) (S.cells _ hob) hN)) fun _ H4 h4 => ?_;rw [hobj, hw0] at h4;exact aq (DK (g := g) (k := k) (σ' := kC σ t) (t' := t) (by simp only [ai, hat]) hcode (aH (σ := σ) hg (by simp) rfl) h4.to)
theorem agT (S : SOk σ) (T : fe σ t) (hat : t.at' = 12) : Sp dE [vp x, vi now] (xP x P σ t) (fun _ : Unit => vb (ai σ t now).2.2) (fun _ => xQ x P (ai σ t now)) := by
 have hN : σ.μ.N < 1099511627000 := by have := S.N; omega
 refine aZ fun R H h => ?_;obtain ⟨k, g, hR, hg, h0⟩ := cg h;have hl := hg.1;simp only [gv, hat] at hR;obtain ⟨ha, hobj, hw0⟩ := hR;have ho := T.obj (.inl (by omega))
 have hob : k.obj < σ.obs.length := by omega
 obtain ⟨b, hb⟩ : ∃ b, g.rp[k.obj]? = some b := ⟨_, br (by omega)⟩;refine bH x P g σ t k now S T (by omega) h0 fun b1 H1 h1 => ?_;refine alR (by omega) ?_;refine aa (aQ (by omega)) ?_;refine ah (t5 ..) ?_;refine gs ?_;refine aa (bF (by omega)) ?_;refine ah (C1 ..) ?_;refine gs ?_;refine av h1 ae rfl ?_;refine av h1 ae rfl ?_;refine ag h1 (wD (p := P) (g := g) (σ := σ) (μ' := σ.μ.cnt t.who (3, 0, 0) 4294967296) (L := σ.μ.N) (by simp) (I3 g.ib g.m σ.c.sh σ.nx σ.μ.N σ.μ t.who hN)) fun _ H2 h2 => ?_;refine bw h2 ae rfl rfl fun H3 h3 => ?_;refine ah (bT ..) ?_;exact aq (cO (g := g) (σ' := σ.mem (σ.μ.cnt t.who (3, 0, 0) 4294967296)) (t' := { t with at' := 13 }) (k := { k with a := 13 }) (by simp only [ai, hat]) (by simp [gv, hobj, hw0]) (aH (σ := σ) hg (by simp) rfl) h3.to)
theorem agW (S : SOk σ) (T : fe σ t) (hat : t.at' = 15) : Sp dE [vp x, vi now] (xP x P σ t) (fun _ : Unit => vb (ai σ t now).2.2) (fun _ => xQ x P (ai σ t now)) := by
 have hN : σ.μ.N < 1099511627000 := by have := S.N; omega
 refine aZ fun R H h => ?_;obtain ⟨k, g, hR, hg, h0⟩ := cg h;have hl := hg.1;simp only [gv, hat] at hR;obtain ⟨ha, hobj⟩ := hR;have ho := T.obj (.inl (by omega))
 have hob : k.obj < σ.obs.length := by omega
 obtain ⟨b, hb⟩ : ∃ b, g.rp[k.obj]? = some b := ⟨_, br (by omega)⟩;refine bH x P g σ t k now S T (by omega) h0 fun b1 H1 h1 => ?_;refine Zg (by omega) ?_;refine aa (bF (by omega)) ?_;refine gs ?_;refine ah (lZ ..) ?_;refine gs ?_;refine m0 ?_;refine bf (fun r => Is _ _ H1) ?_;refine ah (r5 ..) ?_;refine av h1 ae rfl ?_;refine ah (r6 ..) ?_;refine aa (bF (by omega)) ?_;refine gs ?_;refine av h1 ae rfl ?_;refine av h1 ae rfl ?_;refine ag h1 (DM P g σ t.who S.N) fun _ H2 h2 => ?_;refine bw h2 ae rfl rfl fun H3 h3 => ?_;refine bw h3 ae rfl rfl fun H4 h4 => ?_;refine av h4 ae rfl ?_;refine aa (TB 2 (by omega)) ?_
 by_cases hw : σ.μ.V (2, 0, 0) % 2 = 1
 ·refine aa (bF (show ((σ.μ.V (2, 0, 0) % 2 : Nat) : Int) = 1 by omega)) ?_
  refine gs ?_;refine bw h4 ae rfl rfl fun H5 h5 => ?_;refine ah (jE ..) ?_;exact aq (cO (g := g) (σ' := mZ σ t) (t' := { t with at' := 7, q := σ.μ.V (2, 0, 0) }) (k := { k with a := 7, q := σ.μ.V (2, 0, 0) }) (by simp only [ai, hat]; rw [if_pos hw]) (by simp [gv, hobj]) (aH (σ := σ) hg (by simp) rfl) h5.to)
 ·refine aa (aQ (show ¬ ((σ.μ.V (2, 0, 0) % 2 : Nat) : Int) = 1 by omega)) ?_
  refine gs ?_;refine ah (jE ..) ?_;exact aq (cO (g := g) (σ' := mZ σ t) (t' := { t with at' := 16, q := σ.μ.V (2, 0, 0) }) (k := { k with a := 16, q := σ.μ.V (2, 0, 0) }) (by simp only [ai, hat]; rw [if_neg hw]) (by simp [gv, hobj]) (aH (σ := σ) hg (by simp) rfl) h4.to)
theorem agX (S : SOk σ) (T : fe σ t) (hat : t.at' = 16) : Sp dE [vp x, vi now] (xP x P σ t) (fun _ : Unit => vb (ai σ t now).2.2) (fun _ => xQ x P (ai σ t now)) := by
 have hN : σ.μ.N < 1099511627000 := by have := S.N; omega
 refine aZ fun R H h => ?_;obtain ⟨k, g, hR, hg, h0⟩ := cg h;have hl := hg.1;simp only [gv, hat] at hR;obtain ⟨ha, hobj, hq⟩ := hR;have ho := T.obj (.inl (by omega))
 have hob : k.obj < σ.obs.length := by omega
 obtain ⟨b, hb⟩ : ∃ b, g.rp[k.obj]? = some b := ⟨_, br (by omega)⟩;refine bH x P g σ t k now S T (by omega) h0 fun b1 H1 h1 => ?_;refine Zg (by omega) ?_;refine aa (aQ (by omega)) ?_;refine gs ?_;refine aa (bF (by omega)) ?_;refine gs ?_;refine ah (lZ ..) ?_;refine gs ?_;refine m0 ?_;refine bf (fun r => Is _ _ H1) ?_;refine ah (r5 ..) ?_;refine av h1 ae rfl ?_;refine ah (r6 ..) ?_;refine aa (aQ (by omega)) ?_;refine gs ?_;refine aa (bF (by omega)) ?_;refine gs ?_;refine bw h1 ae rfl rfl fun H2 h2 => ?_;refine ag h2 (Ur x P g σ t { k with a := 17 } S hl b hob hb) fun _ H3 h3 => ?_;dsimp only at h3;rw [hobj] at h3
 by_cases hw : aS (σ.μ.V (11, (t.obj : Int), 0)) = 2
 ·refine aa (bF (by rw [hobj]; exact hw)) ?_
  refine gs ?_;refine bw h3 ae rfl rfl fun H4 h4 => ?_;refine ah (jE ..) ?_;exact aq (cO (g := g) (σ' := kD σ t) (t' := { t with at' := 3, w := σ.μ.V (11, (t.obj : Int), 0) }) (k := { k with a := 3, obj := t.obj, w := σ.μ.V (11, (t.obj : Int), 0) }) (by simp only [ai, hat]; rw [if_pos hw]) (by simp [gv]) (aH (σ := σ) hg (by simp) rfl) h4.to)
 ·refine aa (aQ (by rw [hobj]; exact hw)) ?_
  refine gs ?_;refine ah (jE ..) ?_;exact aq (cO (g := g) (σ' := kD σ t) (t' := { t with at' := 17, w := σ.μ.V (11, (t.obj : Int), 0) }) (k := { k with a := 17, obj := t.obj, w := σ.μ.V (11, (t.obj : Int), 0) }) (by simp only [ai, hat]; rw [if_neg hw]) (by simp [gv, hq]) (aH (σ := σ) hg (by simp) rfl) h3.to)
theorem agY (S : SOk σ) (T : fe σ t) (hat : t.at' = 17) : Sp dE [vp x, vi now] (xP x P σ t) (fun _ : Unit => vb (ai σ t now).2.2) (fun _ => xQ x P (ai σ t now)) := by
 have hN : σ.μ.N < 1099511627000 := by have := S.N; omega
 refine aZ fun R H h => ?_;obtain ⟨k, g, hR, hg, h0⟩ := cg h;have hl := hg.1;simp only [gv, hat] at hR;obtain ⟨ha, hobj, hw0, hq⟩ := hR;have ho := T.obj (.inl (by omega))
 have hob : k.obj < σ.obs.length := by omega
 obtain ⟨b, hb⟩ : ∃ b, g.rp[k.obj]? = some b := ⟨_, br (by omega)⟩;refine bH x P g σ t k now S T (by omega) h0 fun b1 H1 h1 => ?_;refine Zg (by omega) ?_;refine aa (aQ (by omega)) ?_;refine gs ?_;refine aa (aQ (by omega)) ?_;refine gs ?_;refine aa (bF (by omega)) ?_;refine gs ?_;refine ah (lZ ..) ?_;refine gs ?_;refine m0 ?_;refine bf (fun r => Is _ _ H1) ?_;refine ah (r5 ..) ?_;refine av h1 ae rfl ?_;refine ah (r6 ..) ?_;refine aa (aQ (by omega)) ?_;refine gs ?_;refine aa (aQ (by omega)) ?_;refine gs ?_;refine aa (bF (by omega)) ?_;refine gs ?_;refine ag h1 (jR x P g σ t k hl b hob hb) fun _ H2 h2 => ?_;refine bp ae ?_;refine aL h2 rfl ?_;refine aI h1 h2 (by rfl) ?_;refine ag h2 (m8 (p := P) (μ' := σ.μ.acc t.who 1 (12, (k.obj : Int), 0)) (by simp) hl hob hb (DO g.m k.obj b (am σ k.obj) σ.μ t.who hN)) fun _ H3 h3 => ?_;refine bw h3 ae rfl rfl fun H4 h4 => ?_;refine bw h4 ae rfl rfl fun H5 h5 => ?_;refine bw h5 ae rfl rfl fun H6 h6 => ?_;refine ag h6 (jR x P g (σ.mem (σ.μ.acc t.who 1 (12, (k.obj : Int), 0))) t { k with h := σ.μ.V (12, (k.obj : Int), 0), mark := now, a := 18 } hl b hob hb) fun _ H7 h7 => ?_;refine bp ae ?_;refine aL h7 rfl ?_;refine aI h6 h7 (by rfl) ?_;refine bp ae ?_;refine aL h7 rfl ?_;refine aI h6 h7 (by rfl) ?_;refine ag h7 (I8 (p := P) (σ := σ.mem (σ.μ.acc t.who 1 (12, (k.obj : Int), 0))) hl hob hb (DN g.m k.obj b (am σ k.obj) k.w (σ.μ.V (12, (k.obj : Int), 0)) (by rw [hw0]; exact T.w) (S.cells _ hob).2)) fun _ H8 h8 => ?_;rw [hobj, hw0] at h8;rw [hobj, hw0];cases hf : mn t.w (σ.μ.V (12, (t.obj : Int), 0)) (am σ t.obj).length
 ·refine gs ?_
  rw [Bool.not_false];refine gs ?_;refine bw h8 ae rfl rfl fun H9 h9 => ?_;refine ah (jE ..) ?_;exact aq (cO (g := g) (σ' := iF σ t) (t' := { t with at' := 7 }) (k := { k with a := 7, obj := t.obj, w := t.w, h := σ.μ.V (12, (t.obj : Int), 0), mark := now }) (by simp only [ai, hat, ku, hf]; rfl) (by simp [gv]) (aH (σ := σ) hg (by simp) rfl) h9.to)
 ·refine gs ?_
  rw [Bool.not_true];refine gs ?_;refine ah (jE ..) ?_;exact aq (cO (g := g) (σ' := iF σ t) (t' := { t with at' := 18, mark := now }) (k := { k with a := 18, obj := t.obj, w := t.w, h := σ.μ.V (12, (t.obj : Int), 0), mark := now }) (by simp only [ai, hat, ku, hf]; rfl) (by simp [gv, hq]) (aH (σ := σ) hg (by simp) rfl) h8.to)
theorem agZ (S : SOk σ) (T : fe σ t) (hat : t.at' = 18) : Sp dE [vp x, vi now] (xP x P σ t) (fun _ : Unit => vb (ai σ t now).2.2) (fun _ => xQ x P (ai σ t now)) := by
 have hN : σ.μ.N < 1099511627000 := by have := S.N; omega
 refine aZ fun R H h => ?_;obtain ⟨k, g, hR, hg, h0⟩ := cg h;have hl := hg.1;simp only [gv, hat] at hR;obtain ⟨ha, hobj, hq, hm⟩ := hR;have ho := T.obj (.inl (by omega))
 have hob : k.obj < σ.obs.length := by omega
 obtain ⟨b, hb⟩ : ∃ b, g.rp[k.obj]? = some b := ⟨_, br (by omega)⟩;refine bH x P g σ t k now S T (by omega) h0 fun b1 H1 h1 => ?_;refine Zg (by omega) ?_;refine aa (aQ (by omega)) ?_;refine gs ?_;refine aa (aQ (by omega)) ?_;refine gs ?_;refine aa (aQ (by omega)) ?_;refine gs ?_;refine aa (bF (by omega)) ?_;refine ah (lZ ..) ?_;refine gs ?_;refine m0 ?_;refine bf (fun r => Is _ _ H1) ?_;refine ah (r5 ..) ?_;refine av h1 ae rfl ?_;refine ah (r6 ..) ?_;refine aa (aQ (by omega)) ?_;refine gs ?_;refine aa (aQ (by omega)) ?_;refine gs ?_;refine aa (aQ (by omega)) ?_;refine gs ?_;refine aa (bF (by omega)) ?_;refine gs ?_;refine av h1 ae rfl ?_;refine av h1 ae rfl ?_;refine ag h1 (DM P g σ t.who S.N) fun _ H2 h2 => ?_;refine bp ae ?_;refine aL h2 rfl ?_;refine aI h1 h2 (by rfl) ?_
 by_cases hw : σ.μ.V (2, 0, 0) = t.q
 ·refine aa (bF (show ((σ.μ.V (2, 0, 0) : Nat) : Int) = (k.q : Int) by omega)) ?_
  refine gs ?_;refine av h2 ae rfl ?_;rw [hm];refine ag h2 (Am x P g (mZ σ t) t k (aH (σ := σ) hg (by simp) rfl) t.mark 9 (by have := S.N; show σ.μ.N + 2 < _; omega) S.pts) fun v H3 h3 => ?_;exact aq (DK (g := { g with pv := v }) (k := { k with code := 9 }) (σ' := (mZ σ t).note t.mark t.who 9) (t' := { t with code := 9 }) (by simp only [ai, hat]; rw [if_pos hw]) rfl (lT (σ := σ) hg (by simp) rfl) h3.to)
 ·refine aa (aQ (show ¬ ((σ.μ.V (2, 0, 0) : Nat) : Int) = (k.q : Int) by omega)) ?_
  refine gs ?_;refine bw h2 ae rfl rfl fun H3 h3 => ?_;refine ah (jE ..) ?_;exact aq (cO (g := g) (σ' := mZ σ t) (t' := { t with at' := 7 }) (k := { k with a := 7 }) (by simp only [ai, hat]; rw [if_neg hw]) (by simp [gv, hobj]) (aH (σ := σ) hg (by simp) rfl) h3.to)
theorem ag0 (S : SOk σ) (T : fe σ t) (hat : t.at' = 20) : Sp dE [vp x, vi now] (xP x P σ t) (fun _ : Unit => vb (ai σ t now).2.2) (fun _ => xQ x P (ai σ t now)) := by
 have hN : σ.μ.N < 1099511627000 := by have := S.N; omega
 refine aZ fun R H h => ?_;obtain ⟨k, g, hR, hg, h0⟩ := cg h;have hl := hg.1;simp only [gv, hat] at hR;obtain ⟨ha, hobj⟩ := hR;have ho := T.obj (.inl (by omega))
 have hob : k.obj < σ.obs.length := by omega
 obtain ⟨b, hb⟩ : ∃ b, g.rp[k.obj]? = some b := ⟨_, br (by omega)⟩;refine bH x P g σ t k now S T (by omega) h0 fun b1 H1 h1 => ?_;refine chw (by omega) ?_;refine m0 ?_;refine bf (fun r => xN _ _ H1) ?_;refine av h1 ae rfl ?_;refine ah (lg ..) ?_;refine av h1 ae rfl ?_;refine ah (lj ..) ?_;refine aa (bF (by omega)) ?_;refine gs ?_;refine av h1 ae rfl ?_;refine av h1 ae rfl ?_;refine ag h1 (wD (p := P) (g := g) (σ := σ) (μ' := σ.μ.cnt t.who (3, 0, 0) 1) (L := σ.μ.N) (by simp) (DL g.ib g.m σ.c.sh σ.nx σ.μ.N σ.μ t.who hN)) fun _ H2 h2 => ?_;refine bw h2 ae rfl rfl fun H3 h3 => ?_;refine ah (lh ..) ?_;exact aq (cO (g := g) (σ' := σ.mem (σ.μ.cnt t.who (3, 0, 0) 1)) (t' := { t with at' := 7 }) (k := { k with a := 7 }) (by simp only [ai, hat]) (by simp [gv, hobj]) (aH (σ := σ) hg (by simp) rfl) h3.to)
theorem ag1 (S : SOk σ) (T : fe σ t) (hat : t.at' = 21) : Sp dE [vp x, vi now] (xP x P σ t) (fun _ : Unit => vb (ai σ t now).2.2) (fun _ => xQ x P (ai σ t now)) := by
 have hN : σ.μ.N < 1099511627000 := by have := S.N; omega
 refine aZ fun R H h => ?_;obtain ⟨k, g, hR, hg, h0⟩ := cg h;have hl := hg.1;simp only [gv, hat] at hR;obtain ⟨ha, hobj, hw0, hcode⟩ := hR;have ho := T.obj (.inl (by omega))
 have hob : k.obj < σ.obs.length := by omega
 obtain ⟨b, hb⟩ : ∃ b, g.rp[k.obj]? = some b := ⟨_, br (by omega)⟩;refine bH x P g σ t k now S T (by omega) h0 fun b1 H1 h1 => ?_;refine chw (by omega) ?_;refine m0 ?_;refine bf (fun r => xN _ _ H1) ?_;refine av h1 ae rfl ?_;refine ah (lg ..) ?_;refine av h1 ae rfl ?_;refine ah (lj ..) ?_;refine aa (aQ (by omega)) ?_;refine gs ?_;refine aa (bF (by omega)) ?_;refine gs ?_;refine ag h1 (jR x P g σ t k hl b hob hb) fun _ H2 h2 => ?_;refine bp ae ?_;refine aL h2 rfl ?_;refine aI h1 h2 (by rfl) ?_;refine ag h2 (wy x P t k (by rw [hw0]; exact T.w)) fun _ H3 h3 => ?_;refine aI h3 h2 (by rfl) ?_;have hwc := ej k.w;refine ag h3 (m8 (p := P) (μ' := (σ.μ.acc t.who 2 (15, (k.obj : Int), ((ax k.w % (am σ k.obj).length : Nat) : Int))).put (15, (k.obj : Int), ((ax k.w % (am σ k.obj).length : Nat) : Int)) (ax k.w + 1)) (by simp) hl hob hb (DP g.m k.obj b (am σ k.obj) σ.μ t.who (ax k.w) (by omega) (S.cells _ hob) hN)) fun _ H4 h4 => ?_;refine bw h4 ae rfl rfl fun H5 h5 => ?_;refine ah (lh ..) ?_;rw [hobj, hw0] at h5;exact aq (cO (g := g) (σ' := kC σ t) (t' := { t with at' := 22 }) (k := { k with a := 22, obj := t.obj, w := t.w }) (by simp only [ai, hat]) (by simp [gv, hcode]) (aH (σ := σ) hg (by simp) rfl) h5.to)
theorem ag2 (S : SOk σ) (T : fe σ t) (hat : t.at' = 22) : Sp dE [vp x, vi now] (xP x P σ t) (fun _ : Unit => vb (ai σ t now).2.2) (fun _ => xQ x P (ai σ t now)) := by
 have hN : σ.μ.N < 1099511627000 := by have := S.N; omega
 refine aZ fun R H h => ?_;obtain ⟨k, g, hR, hg, h0⟩ := cg h;have hl := hg.1;simp only [gv, hat] at hR;obtain ⟨ha, hobj, hcode⟩ := hR;have ho := T.obj (.inl (by omega))
 have hob : k.obj < σ.obs.length := by omega
 obtain ⟨b, hb⟩ : ∃ b, g.rp[k.obj]? = some b := ⟨_, br (by omega)⟩;refine bH x P g σ t k now S T (by omega) h0 fun b1 H1 h1 => ?_;refine chw (by omega) ?_;refine m0 ?_;refine bf (fun r => xN _ _ H1) ?_;refine av h1 ae rfl ?_;refine ah (lg ..) ?_;refine av h1 ae rfl ?_;refine ah (lj ..) ?_;refine aa (aQ (by omega)) ?_;refine gs ?_;refine aa (aQ (by omega)) ?_;refine gs ?_;refine aa (bF (by omega)) ?_;refine gs ?_;refine av h1 ae rfl ?_;refine av h1 ae rfl ?_;refine ag h1 (wD (p := P) (g := g) (σ := σ) (μ' := σ.μ.acc t.who 1 (9, t.s, 0)) (L := σ.μ.N) (by simp) (P6 g.ib g.m σ.c.sh σ.nx σ.μ.N σ.μ t.who t.s hN)) fun _ H2 h2 => ?_;refine bw h2 ae rfl rfl fun H3 h3 => ?_;refine bw h3 ae rfl rfl fun H4 h4 => ?_;refine ah (lh ..) ?_;exact aq (cO (g := g) (σ' := σ.mem (σ.μ.acc t.who 1 (9, t.s, 0))) (t' := { t with at' := 23, top := σ.μ.V (9, t.s, 0) }) (k := { k with a := 23, top := σ.μ.V (9, t.s, 0) }) (by simp only [ai, hat]) (by simp [gv, hobj, hcode]) (aH (σ := σ) hg (by simp) rfl) h4.to)
theorem ag3 (S : SOk σ) (T : fe σ t) (hat : t.at' = 23) : Sp dE [vp x, vi now] (xP x P σ t) (fun _ : Unit => vb (ai σ t now).2.2) (fun _ => xQ x P (ai σ t now)) := by
 have hN : σ.μ.N < 1099511627000 := by have := S.N; omega
 refine aZ fun R H h => ?_;obtain ⟨k, g, hR, hg, h0⟩ := cg h;have hl := hg.1;simp only [gv, hat] at hR;obtain ⟨ha, hobj, htop, hcode⟩ := hR;have ho := T.obj (.inl (by omega))
 have hob : k.obj < σ.obs.length := by omega
 obtain ⟨b, hb⟩ : ∃ b, g.rp[k.obj]? = some b := ⟨_, br (by omega)⟩;refine bH x P g σ t k now S T (by omega) h0 fun b1 H1 h1 => ?_;refine chw (by omega) ?_;refine m0 ?_;refine bf (fun r => xN _ _ H1) ?_;refine av h1 ae rfl ?_;refine ah (lg ..) ?_;refine av h1 ae rfl ?_;refine ah (lj ..) ?_;refine aa (aQ (by omega)) ?_;refine gs ?_;refine aa (aQ (by omega)) ?_;refine gs ?_;refine aa (aQ (by omega)) ?_;refine gs ?_;refine aa (bF (by omega)) ?_;refine gs ?_;refine av h1 ae rfl ?_;refine av h1 ae rfl ?_;refine av h1 ae rfl ?_;refine av h1 ae rfl ?_;refine ag h1 (wD (p := P) (g := g) (σ := σ) (μ' := σ.μ.acc t.who 6 (14, (k.obj : Int), 0)) (L := σ.μ.N + 1) (by simp) (LX g.ib g.m σ.c.sh σ.nx σ.μ.N σ.μ t.who k.obj k.top (by have := S.N; omega) hN)) fun _ H2 h2 => ?_;refine bw h2 ae rfl rfl fun H3 h3 => ?_;refine ah (lh ..) ?_;rw [hobj, htop] at h3;exact aq (cO (g := g) (σ' := { σ with μ := σ.μ.acc t.who 6 (14, (t.obj : Int), 0), nx := fun k => if k = (t.obj : Int) then some t.top else σ.nx k }) (t' := { t with at' := 24 }) (k := { k with a := 24, obj := t.obj, top := t.top }) (by simp only [ai, hat]) (by simp [gv, hcode]) (aH (σ := σ) hg (by simp) rfl) h3.to)
theorem ag4 (S : SOk σ) (T : fe σ t) (hat : t.at' = 24) : Sp dE [vp x, vi now] (xP x P σ t) (fun _ : Unit => vb (ai σ t now).2.2) (fun _ => xQ x P (ai σ t now)) := by
 have hN : σ.μ.N < 1099511627000 := by have := S.N; omega
 refine aZ fun R H h => ?_;obtain ⟨k, g, hR, hg, h0⟩ := cg h;have hl := hg.1;simp only [gv, hat] at hR;obtain ⟨ha, hobj, htop, hcode⟩ := hR;have ho := T.obj (.inl (by omega))
 have hob : k.obj < σ.obs.length := by omega
 obtain ⟨b, hb⟩ : ∃ b, g.rp[k.obj]? = some b := ⟨_, br (by omega)⟩;refine bH x P g σ t k now S T (by omega) h0 fun b1 H1 h1 => ?_;refine chw (by omega) ?_;refine m0 ?_;refine bf (fun r => xN _ _ H1) ?_;refine av h1 ae rfl ?_;refine ah (lg ..) ?_;refine av h1 ae rfl ?_;refine ah (lj ..) ?_;refine aa (aQ (by omega)) ?_;refine gs ?_;refine aa (aQ (by omega)) ?_;refine gs ?_;refine aa (aQ (by omega)) ?_;refine gs ?_;refine aa (aQ (by omega)) ?_;refine gs ?_;refine aa (bF (by omega)) ?_;refine gs ?_;refine bw h1 ae rfl rfl fun H2 h2 => ?_;refine av h2 ae rfl ?_;refine av h2 ae rfl ?_;refine av h2 ae rfl ?_;refine av h2 ae rfl ?_;refine ag h2 (wD (p := P) (g := g) (σ := σ) (μ' := σ.μ.swp t.who (9, t.s, 0) k.top (k.obj + 1)) (L := σ.μ.N) (by simp) (LY g.ib g.m σ.c.sh σ.nx σ.μ.N σ.μ t.who t.s k.top k.obj (by have := S.obs; omega) hN)) fun _ H3 h3 => ?_;rw [hobj, htop] at h3;rw [htop]
 by_cases hw : σ.μ.V (9, t.s, 0) = t.top
 ·rw [iy hw]
  refine gs ?_;refine bw h3 ae rfl rfl fun H4 h4 => ?_;refine ah (lh ..) ?_;exact aq (cO (g := g) (σ' := σ.mem (σ.μ.swp t.who (9, t.s, 0) t.top (t.obj + 1))) (t' := { t with at' := 25 }) (k := { k with a := 25, obj := t.obj, top := t.top }) (by simp only [ai, hat]; rw [if_pos hw]) (by simp [gv, hcode]) (aH (σ := σ) hg (by simp) rfl) h4.to)
 ·rw [gU hw]
  refine gs ?_;refine ah (lh ..) ?_;exact aq (cO (g := g) (σ' := σ.mem (σ.μ.swp t.who (9, t.s, 0) t.top (t.obj + 1))) (t' := { t with at' := 22 }) (k := { k with a := 22, obj := t.obj, top := t.top }) (by simp only [ai, hat]; rw [if_neg hw]) (by simp [gv, hcode]) (aH (σ := σ) hg (by simp) rfl) h3.to)
theorem ag5 (S : SOk σ) (T : fe σ t) (hat : t.at' = 25) : Sp dE [vp x, vi now] (xP x P σ t) (fun _ : Unit => vb (ai σ t now).2.2) (fun _ => xQ x P (ai σ t now)) := by
 have hN : σ.μ.N < 1099511627000 := by have := S.N; omega
 refine aZ fun R H h => ?_;obtain ⟨k, g, hR, hg, h0⟩ := cg h;have hl := hg.1;simp only [gv, hat] at hR;obtain ⟨ha, hcode⟩ := hR;refine bH x P g σ t k now S T (by omega) h0 fun b1 H1 h1 => ?_;refine chw (by omega) ?_;refine m0 ?_;refine bf (fun r => xN _ _ H1) ?_;refine av h1 ae rfl ?_;refine ah (lg ..) ?_;refine av h1 ae rfl ?_;refine ah (lj ..) ?_;refine aa (aQ (by omega)) ?_;refine gs ?_;refine aa (aQ (by omega)) ?_;refine gs ?_;refine aa (aQ (by omega)) ?_;refine gs ?_;refine aa (aQ (by omega)) ?_;refine gs ?_;refine aa (aQ (by omega)) ?_;refine gs ?_;refine aa (bF (by omega)) ?_;refine gs ?_;refine av h1 ae rfl ?_;refine av h1 ae rfl ?_;refine ag h1 (wD (p := P) (g := g) (σ := σ) (μ' := σ.μ.cnt t.who (3, 0, 0) 1) (L := σ.μ.N) (by simp) (DL g.ib g.m σ.c.sh σ.nx σ.μ.N σ.μ t.who hN)) fun _ H2 h2 => ?_;exact aq (DK (g := g) (k := k) (σ' := σ.mem (σ.μ.cnt t.who (3, 0, 0) 1)) (t' := t) (by simp only [ai, hat]) hcode (aH (σ := σ) hg (by simp) rfl) h2.to)
theorem agQ {R : SP} {H1 : AH} {b1 : Nat} {sv : Value} (g : XIds) (k : Xk) (S : SOk σ) (T : fe σ t) (hg : ga g σ) (ha : k.a = 2) (hI : k.I = t.i) (hh : k.hit = false) (hi : (t.i : Int) < σ.c.sl)
 (h1 : ac (blk b1 (.cells false [vi t.x.flow, vi t.x.a, vi t.x.b]) * (xB x P t k * (ay P g σ * R))) H1) :
 wp (O4 (vp x) (vi now) (vb false) (vp P) sv (vp b1) (vi k.a) (vb true) H1) fun v' H' => ∃ y : Unit, v' = vb (fF σ t).2.2 ∧ ac (xQ x P (fF σ t) * R) H' := by
 refine ah (n0 ..) ?_;refine gs ?_;refine ag h1 (Uq x P g σ t k S T hI hi) fun k2 H2 h2 => ?_;rw [ar, ac.pu] at h2;obtain ⟨hX, h2⟩ := h2;obtain ⟨x1, x2, x3, x4, x5, x6, x7, x8⟩ := hX;refine aa (v := vb (aD σ t).found) rfl ?_;refine aa (v := vb (!(aD σ t).found && cR σ (aD σ t))) rfl ?_;cases hf : (aD σ t).found
 ·obtain ⟨y1, y2⟩ := x8 hf
  refine gs ?_;rw [Bool.not_false, Bool.true_and];cases hla : cR σ (aD σ t)
  ·refine gs ?_
   refine ah (bT ..) ?_;exact aq (cO (g := g) (k := k2) (σ' := b6 σ t) (t' := { aD σ t with at' := 2 }) (by simp only [fF, hf, hla]; rfl) (by simp [gv, x1, ha, y1, y2, hh, hI, aD]) (aH (σ := σ) hg (by simp) rfl) (show ac (xB x P t k2 * (ay P g (b6 σ t) * R)) H2 from h2.to))
  ·refine gs ?_
   refine bw h2 ae rfl rfl fun H3 h3 => ?_;refine ah (bT ..) ?_;exact aq (cO (g := g) (k := { k2 with a := 3 }) (σ' := b6 σ t) (t' := { aD σ t with at' := 3 }) (by simp only [fF, hf, hla]; rfl) (by simp [gv]) (aH (σ := σ) hg (by simp) rfl) (show ac (xB x P t { k2 with a := 3 } * (ay P g (b6 σ t) * R)) H3 from h3.to))
 ·obtain ⟨y1, y2⟩ := x7 hf
  refine gs ?_;refine bw h2 ae rfl rfl fun H3 h3 => ?_;refine ah (bT ..) ?_;exact aq (cO (g := g) (k := { k2 with a := 6 }) (σ' := b6 σ t) (t' := { aD σ t with at' := 6 }) (by simp only [fF, hf]; rfl) (by simp [gv, y2]) (aH (σ := σ) hg (by simp) rfl) (show ac (xB x P t { k2 with a := 6 } * (ay P g (b6 σ t) * R)) H3 from h3.to))
theorem aj3 (S : SOk σ) (T : fe σ t) (hat : t.at' = 2) : Sp dE [vp x, vi now] (xP x P σ t) (fun _ : Unit => vb (ai σ t now).2.2) (fun _ => xQ x P (ai σ t now)) := by
 have hN : σ.μ.N < 1099511627000 := by have := S.N; omega
 refine aZ fun R H h => ?_;obtain ⟨k, g, hR, hg, h0⟩ := cg h;have hl := hg.1;simp only [gv, hat] at hR;obtain ⟨ha, hI, hh⟩ := hR;have hi := T.i (by omega) (by omega)
 have hs : ai σ t now = fF σ t := by simp only [ai, hat, fF]
 rw [hs];refine bH x P g σ t k now S T (by omega) h0 fun b1 H1 h1 => ?_;refine ah (lc ..) ?_;refine aa (bF (by omega)) ?_;exact agQ x P σ t now g k S T hg ha hI hh hi h1
theorem aj5 (S : SOk σ) (T : fe σ t) (hat : t.at' = 4) : Sp dE [vp x, vi now] (xP x P σ t) (fun _ : Unit => vb (ai σ t now).2.2) (fun _ => xQ x P (ai σ t now)) := by
 have hN : σ.μ.N < 1099511627000 := by have := S.N; omega
 refine aZ fun R H h => ?_;obtain ⟨k, g, hR, hg, h0⟩ := cg h;have hl := hg.1;simp only [gv, hat] at hR;obtain ⟨ha, hI, hh⟩ := hR;have hi := T.i (by omega) (by omega);refine bH x P g σ t k now S T (by omega) h0 fun b1 H1 h1 => ?_;refine ah (lc ..) ?_;refine aa (aQ (by omega)) ?_;refine ah (n0 ..) ?_;refine gs ?_;refine aa (aQ (by omega)) ?_;refine ah (oQ ..) ?_;refine gs ?_;refine aa (bF (by omega)) ?_;refine ah (tY ..) ?_;refine gs ?_;refine ag h1 (Uq x P g σ t k S T hI hi) fun k2 H2 h2 => ?_;rw [ar, ac.pu] at h2;obtain ⟨hX, h2⟩ := h2;obtain ⟨x1, x2, x3, x4, x5, x6, x7, x8⟩ := hX;refine aa (v := vb (aD σ t).found) rfl ?_;refine aa (v := vb (!(aD σ t).found && cR σ (aD σ t))) rfl ?_;cases hf : (aD σ t).found
 ·obtain ⟨y1, y2⟩ := x8 hf
  refine gs ?_;rw [Bool.not_false, Bool.true_and];cases hla : cR σ (aD σ t)
  ·refine gs ?_
   refine ah (bT ..) ?_;exact aq (cO (g := g) (k := k2) (σ' := b6 σ t) (t' := aD σ t) (by simp only [ai, hat, hf, hla]; rfl) (by simp [gv, x1, ha, y1, y2, hh, hI, aD, hat]) (aH (σ := σ) hg (by simp) rfl) (show ac (xB x P t k2 * (ay P g (b6 σ t) * R)) H2 from h2.to))
  ·refine gs ?_
   refine ag h2 (Am x P g (b6 σ t) t k2 (aH (σ := σ) hg (by simp) rfl) now 5 (by have := S.N; show σ.μ.N + 2 < _; omega) S.pts) fun v H3 h3 => ?_;refine bw h3 ae rfl rfl fun H4 h4 => ?_;refine ah (bT ..) ?_;exact aq (cO (g := { g with pv := v }) (k := { k2 with a := 5, code := 5 }) (σ' := (b6 σ t).note now t.who 5) (t' := { aD σ t with at' := 5, code := 5 }) (by simp only [ai, hat, hf, hla]; rfl) (by simp [gv, hf, y1, hh]) (lT (σ := σ) hg (by simp) rfl) (show ac (xB x P t { k2 with a := 5, code := 5 } * (ay P { g with pv := v } ((b6 σ t).note now t.who 5) * R)) H4 from h4.to))
 ·obtain ⟨y1, y2⟩ := x7 hf
  refine gs ?_;refine bw h2 ae rfl rfl fun H3 h3 => ?_;refine ah (bT ..) ?_;exact aq (cO (g := g) (k := { k2 with a := 5 }) (σ' := b6 σ t) (t' := { aD σ t with at' := 5 }) (by simp only [ai, hat, hf]; rfl) (by simp [gv, hf, y1, y2]) (aH (σ := σ) hg (by simp) rfl) (show ac (xB x P t { k2 with a := 5 } * (ay P g (b6 σ t) * R)) H3 from h3.to))
theorem aj2 (S : SOk σ) (T : fe σ t) (hat : t.at' = 0) : Sp dE [vp x, vi now] (xP x P σ t) (fun _ : Unit => vb (ai σ t now).2.2) (fun _ => xQ x P (ai σ t now)) := by
 have hN : σ.μ.N < 1099511627000 := by have := S.N; omega
 refine aZ fun R H h => ?_;obtain ⟨k, g, hR, hg, h0⟩ := cg h;have hl := hg.1;simp only [gv, hat] at hR;obtain ⟨ha, hI, hh⟩ := hR;have hi := T.i (by omega) (by omega);refine LW x P g σ t k now S T h0 fun b1 H1 h1 => ?_;refine ah (Fm ..) ?_;refine av h1 ae rfl ?_;refine aa (bF (by omega)) ?_;refine gs ?_
 have fin : ∀ code, dI t.x = some code → wp ((FF cC [vp x, vi now, vi code] H1).bind fun r125 => some ((vb true), r125.2)) fun v' H' => ∃ y : Unit, v' = vb (ai σ t now).2.2 ∧ ac (xQ x P (ai σ t now) * R) H' := by
  intro code hx;refine ag h1 (Am x P g σ t k hg now code (by have := S.N; omega) S.pts) fun v H2 h2 => ?_;exact aq (DK (g := { g with pv := v }) (k := { k with code := code }) (σ' := σ.note now t.who code) (t' := { t with code := code }) (by simp only [ai, hat, hx]) rfl (lT (σ := σ) hg (bj _) rfl) h2.to)
 refine av h1 (jb (cm (cm cn))) rfl ?_
 by_cases ha1 : t.x.a < 1
 ·refine aa (bO ha1) ?_
  refine gs ?_;exact fin 3 (by rw [dI, if_pos (.inl ha1)])
 ·refine aa (bu ha1) ?_
  refine gs ?_;refine av h1 (jb (cm (cm cn))) rfl ?_;refine gs ?_
  by_cases ha2 : 65536 < t.x.a
  ·refine aa (nI ha2) ?_
   refine gs ?_;exact fin 3 (by rw [dI, if_pos (.inr ha2)])
  ·refine aa (gh ha2) ?_
   refine gs ?_;refine av h1 (jb (cm (cm cn))) rfl ?_
   by_cases hf : t.x.flow < 0
   ·refine aa (bO hf) ?_
    refine gs ?_;exact fin 5 (by rw [dI, if_neg (by omega), if_pos (.inl hf)])
   ·refine aa (bu hf) ?_
    refine gs ?_;refine av h1 (jb (cm (cm cn))) rfl ?_;refine gs ?_
    by_cases hf2 : 1048576 < t.x.flow
    ·refine aa (nI hf2) ?_
     refine gs ?_;exact fin 5 (by rw [dI, if_neg (by omega), if_pos (.inr hf2)])
    ·refine aa (gh hf2) ?_
     refine gs ?_
     have hx : dI t.x = none := by rw [dI, if_neg (by omega), if_neg (by omega)]
     have hs : ai σ t now = fF σ t := by simp only [ai, hat, hx, fF]
     rw [hs];refine bw h1 ae rfl rfl fun H2 h2 => ?_;refine ah (Fo ..) ?_;refine av h2 ae rfl ?_;refine ah (lc ..) ?_;refine aa (bF (by omega)) ?_;exact agQ x P σ t now g { k with a := 2 } S T hg rfl hI hh hi h2.to
theorem YC (S : SOk σ) (T : fe σ t) : Sp dE [vp x, vi now] (xP x P σ t) (fun _ : Unit => vb (ai σ t now).2.2) (fun _ => xQ x P (ai σ t now)) := by
 rcases T.ats with hat | hat | hat | hat | hat | hat | hat | hat | hat | hat | hat | hat | hat | hat | hat | hat | hat | hat | hat | hat | hat | hat | hat | hat
 ·exact aj2 x P σ t now S T hat
 ·exact aj3 x P σ t now S T hat
 ·exact aj4 x P σ t now S T hat
 ·exact aj5 x P σ t now S T hat
 ·exact aj6 x P σ t now S T hat
 ·exact aj7 x P σ t now S T hat
 ·exact aj8 x P σ t now S T hat
 ·exact aj9 x P σ t now S T hat
 ·exact akA x P σ t now S T hat
 ·exact agR x P σ t now S T hat
 ·exact agS x P σ t now S T hat
 ·exact agT x P σ t now S T hat
 ·exact agU x P σ t now S T hat
 ·exact agV x P σ t now S T hat
 ·exact agW x P σ t now S T hat
 ·exact agX x P σ t now S T hat
 ·exact agY x P σ t now S T hat
 ·exact agZ x P σ t now S T hat
 ·exact ag0 x P σ t now S T hat
 ·exact ag1 x P σ t now S T hat
 ·exact ag2 x P σ t now S T hat
 ·exact ag3 x P σ t now S T hat
 ·exact ag4 x P σ t now S T hat
 ·exact ag5 x P σ t now S T hat
end
section
variable {x P : Nat} {g : XIds} {σ σ' : az} {t t' : Tk} {R : SP} {H : AH} {r : az × Tk × Bool} {k : Xk}
end
section
variable (x P : Nat) (g : XIds) (σ : az) (t : Tk) (k : Xk)
variable (now : Int)
end
section
variable (x P : Nat) (σ : az) (t : Tk) (now : Int)
end
abbrev TP := Nat × Pt
def ltT (a b : TP) : Prop := a.2.step < b.2.step ∨ a.2.step = b.2.step ∧ a.1 < b.1
def jH (L : List TP) : Prop := L.Pairwise ltT
def yP (X Y : List TP) : Prop := ∀ x ∈ X, ∀ y ∈ Y, x.1 < y.1
def Asc (L : List TP) : Prop := L.Pairwise fun a b => a.1 < b.1
abbrev pl (L : List TP) : List Pt := L.map fun x : TP => x.2
theorem HN {a b : TP} (h : ltT a b) : a.2.step ≤ b.2.step := by rcases h with h | h <;> omega
theorem cz {X Y : List TP} : jH (X ++ Y) ↔ jH X ∧ jH Y ∧ ∀ x ∈ X, ∀ y ∈ Y, ltT x y := List.pairwise_append
theorem fS {x : TP} {Y : List TP} : jH (x :: Y) ↔ (∀ y ∈ Y, ltT x y) ∧ jH Y := List.pairwise_cons
theorem IR : jH [] := List.Pairwise.nil
theorem T9 (x : TP) : jH [x] := List.pairwise_singleton _ _
theorem Dl : ∀ (L1 L2 : List TP), jH L1 → jH L2 → L1.Perm L2 → L1 = L2 := by
 intro L1
 induction L1 with
 | nil => intro L2 _ _ h; exact (List.nil_perm.1 h).symm
 | cons x L1 ih =>
  intro L2 h1 h2 h
  cases L2 with
  | nil => exact absurd h.length_eq (by simp)
  | cons y L2 =>
   have hx : x ∈ y :: L2 := h.mem_iff.1 (List.mem_cons_self ..);have hy : y ∈ x :: L1 := h.mem_iff.2 (List.mem_cons_self ..)
   have e : x = y := by
    rcases sm.1 hx with e | hx
    ·exact e
    ·rcases sm.1 hy with e | hy
     ·exact e.symm
     ·have a1 := (fS.1 h2).1 x hx
      have a2 := (fS.1 h1).1 y hy
      rcases a1 with a1 | a1 <;> rcases a2 with a2 | a2 <;> omega
   subst e;rw [ih L2 (fS.1 h1).2 (fS.1 h2).2 (h.cons_inv)]
def mY : Nat → List Pt → List TP
 | _, [] => []
 | n, x :: l => (n, x) :: mY (n + 1) l
theorem rU : ∀ (l : List Pt) (n : Nat), pl (mY n l) = l := by
 intro l
 induction l with
 | nil => intro n; rfl
 | cons x l ih => intro n; show x :: pl (mY (n + 1) l) = _; rw [ih]
theorem ai9 : ∀ (l : List Pt) (n : Nat), ∀ x ∈ mY n l, n ≤ x.1 := by
 intro l
 induction l with
 | nil => intro n x hx; cases hx
 | cons y l ih =>
  intro n x hx
  rcases sm.1 hx with e | hx
  ·subst e; exact bj _
  ·have := ih (n + 1) x hx; omega
theorem KF : ∀ (l : List Pt) (n : Nat), Asc (mY n l) := by
 intro l
 induction l with
 | nil => intro n; exact .nil
 | cons x l ih =>
  intro n;refine List.pairwise_cons.2 ⟨fun y hy => ?_, ih (n + 1)⟩;have := ai9 l (n + 1) y hy;show n < y.1;omega
theorem Fb : ∀ (l : List Pt) (n : Nat) (x : Pt), mY n (l ++ [x]) = mY n l ++ [(n + l.length, x)] := by
 intro l
 induction l with
 | nil => intro n x; rfl
 | cons y l ih =>
  intro n x;show (n, y) :: mY (n + 1) (l ++ [x]) = (n, y) :: (mY (n + 1) l ++ _);rw [ih, List.length_cons, show n + 1 + l.length = n + (l.length + 1) from by omega]
def Kr (x : TP) : List TP → List TP
 | [] => [x]
 | y :: l => if y.2.step ≤ x.2.step ∨ (l.any fun z => decide (z.2.step ≤ x.2.step)) = true then y :: Kr x l else x :: y :: l
theorem aiZ (x : TP) : ∀ L, pl (Kr x L) = sN x.2 (pl L) := by
 intro L
 induction L with
 | nil => rfl
 | cons y L ih =>
  have e : ((pl L).any fun z => decide (z.step ≤ x.2.step)) = L.any fun z => decide (z.2.step ≤ x.2.step) := by rw [List.any_map]; rfl
  show pl (if _ then _ else _) = (if _ then _ else _);rw [e]
  split
  ·show y.2 :: pl (Kr x L) = _; rw [ih]
  ·rfl
theorem EY (x : TP) : ∀ L, (Kr x L).Perm (x :: L) := by
 intro L
 induction L with
 | nil => exact List.Perm.refl _
 | cons y L ih =>
  rw [Kr]
  split
  ·exact (ih.cons y).trans (List.Perm.swap x y L)
  ·exact List.Perm.refl _
theorem acT (x : TP) : ∀ L, jH L → (∀ y ∈ L, y.1 < x.1) → jH (Kr x L) := by
 intro L
 induction L with
 | nil => intro _ _; exact T9 x
 | cons y L ih =>
  intro hs hb;obtain ⟨h1, h2⟩ := fS.1 hs;have hyx := hb y (List.mem_cons_self ..);rw [Kr]
  split
  ·rename_i hc
   have hle : y.2.step ≤ x.2.step := by
    rcases hc with hc | hc
    ·exact hc
    ·obtain ⟨z, hz, hzs⟩ := List.any_eq_true.1 hc
     have := HN (h1 z hz)
     have hzs : z.2.step ≤ x.2.step := by simpa using hzs
     omega
   refine fS.2 ⟨fun z hz => ?_, ih h2 fun z hz => hb z (List.mem_cons_of_mem _ hz)⟩
   rcases sm.1 ((EY x L).mem_iff.1 hz) with e | hz
   ·subst e
    unfold ltT;omega
   ·exact h1 z hz
  ·rename_i hc
   have hlt : x.2.step < y.2.step := by
    have : ¬ y.2.step ≤ x.2.step := fun q => hc (.inl q);omega
   refine fS.2 ⟨fun z hz => ?_, hs⟩
   rcases sm.1 hz with e | hz
   ·subst e; exact .inl hlt
   ·have := HN (h1 z hz)
    exact .inl (by omega)
theorem oa (l : List Pt) : ∃ Z, jH Z ∧ Z.Perm (mY 0 l) ∧ pl Z = aY l := by
 have gen : ∀ (r : List Pt), ∃ Z, jH Z ∧ Z.Perm (mY 0 r.reverse) ∧ pl Z = aY r.reverse := by
  intro r
  induction r with
  | nil => exact ⟨[], IR, List.Perm.refl _, rfl⟩
  | cons x r ih =>
   obtain ⟨Z, h1, h2, h3⟩ := ih;rw [List.reverse_cons, Fb, yl];refine ⟨Kr (0 + r.reverse.length, x) Z, acT _ _ h1 fun y hy => ?_, ?_, ?_⟩
   ·have hy := h2.mem_iff.1 hy
    have := KF (r.reverse ++ [x]) 0;rw [Fb] at this;exact (List.pairwise_append.1 this).2.2 y hy _ (List.mem_cons_self ..)
   ·refine (EY _ _).trans ?_
    exact (h2.cons _).trans (List.perm_append_comm (l₁ := [_]) (l₂ := mY 0 r.reverse))
   ·rw [aiZ, h3]
 have := gen l.reverse;rw [List.reverse_reverse] at this;exact this
theorem UM {l : List Pt} {Z : List TP} (h1 : jH Z) (h2 : Z.Perm (mY 0 l)) : pl Z = aY l := by
 obtain ⟨Z', g1, g2, g3⟩ := oa l;rw [Dl Z Z' h1 g1 (h2.trans g2.symm), g3]
inductive Qc (bs : Nat) : List TP → Prop
 | last {X : List TP} (h1 : X.length ≤ bs) (h2 : jH X) : Qc bs X
 | cons {X L : List TP} (h1 : X.length = bs) (h2 : jH X) (h3 : yP X L) (h4 : Qc bs L) : Qc bs (X ++ L)
theorem Qc.nil {bs : Nat} : Qc bs [] := .last (by simp) IR
theorem Qc.split {bs : Nat} {L : List TP} (h : Qc bs L) (hl : bs ≤ L.length) : ∃ X L2, L = X ++ L2 ∧ X.length = bs ∧ jH X ∧ yP X L2 ∧ Qc bs L2 := by
 cases h with
 | last h1 h2 => exact ⟨L, [], by simp, by omega, h2, (fun x _ y hy => by cases hy), .nil⟩
 | @cons X L' h1 h2 h3 h4 => exact ⟨X, L', rfl, h1, h2, h3, h4⟩
theorem Qc.short {bs : Nat} {L : List TP} (h : Qc bs L) (hl : L.length ≤ bs) : jH L := by
 cases h with
 | last h1 h2 => exact h2
 | @cons X L' h1 h2 h3 h4 =>
  have : L'.length = 0 := by rw [dh] at hl; omega
  have : L' = [] := List.eq_nil_of_length_eq_zero this;subst this;rw [List.append_nil]; exact h2
theorem yP.left {X X2 Y : List TP} (h : yP (X ++ X2) Y) : yP X Y := fun x hx y hy => h x (List.mem_append_left _ hx) y hy
theorem yP.perm {X X' Y Y' : List TP} (h : yP X Y) (hx : X'.Perm X) (hy : Y'.Perm Y) : yP X' Y' := fun x h1 y h2 => h x (hx.mem_iff.1 h1) y (hy.mem_iff.1 h2)
theorem yP.sub {X X' Y Y' : List TP} (h : yP X Y) (hx : ∀ x ∈ X', x ∈ X) (hy : ∀ y ∈ Y', y ∈ Y) : yP X' Y' := fun x h1 y h2 => h x (hx x h1) y (hy y h2)
theorem Mh {X Y : List TP} : Asc (X ++ Y) ↔ Asc X ∧ Asc Y ∧ yP X Y := List.pairwise_append
theorem ud {x : OV} {Q Q' : Value → AH → Prop} (f : ∀ v H, Q v H → Q' v H) (k : wp x Q) : wp x Q' := let ⟨v, H, e, q⟩ := k; ⟨v, H, e, f _ _ q⟩
theorem xY (s : Value) (l : List Pt) (hl : l.length ≤ 1000000) : Sp adH [s] (ts 7 Pt.cells s l) (fun v : Value => v) (fun v => ts 7 Pt.cells v l * ts 7 Pt.cells s l) := by
 refine aX (amV _) fun R H h => ?_
 rcases oV (s := s) (l := l) h with ⟨rfl, rfl, h0⟩ | ⟨b, rfl, h0⟩
 ·refine aa (v := vb true) rfl ?_
  refine gs ?_;refine aq ⟨_, rfl, ?_⟩;have h1 := dr 7 Pt.cells h;exact h1.to
 ·refine aa (v := vb false) rfl ?_
  refine gs ?_;refine Uk (cs := []) h rfl fun b1 H1 h1 => ?_;have h2 : ac (ts 7 Pt.cells (vs b1 0 7) [] * (ts 7 Pt.cells (vs b l.length 7) l * R)) H1 := Ak (enc := Pt.cells) (l := []) h1;refine IW (x := vs b l.length 7) (m := l) h2 (by unfold room; simp; omega) (by omega) fun v H2 h3 => ?_;rw [List.nil_append] at h3;exact aq ⟨v, rfl, h3.to⟩
theorem KT (x2 s : Value) (l : List Pt) (hl : l.length ≤ 1000000) {P R : SP} : ∀ (d i : Nat) (o : Value) (H : AH), i + d = l.length → ac (ts 7 Pt.cells o (l.take i) * (ts 7 Pt.cells s l * P) * R) H →
 wp (HX x2 o s (vi l.length) (vi i) H) fun v' H' => ∃ v : Value, v' = v ∧ ac (ts 7 Pt.cells v l * (ts 7 Pt.cells s l * P) * R) H' := by
 intro d
 induction d with
 | zero =>
  intro i o H hi h;refine ah (Fh _ _ _ _ _ H) ?_;refine aa (bu (by omega)) ?_;refine gs ?_;refine ah (KN _ _ H) ?_;refine ah (W7 _ _ H) ?_;rw [List.take_of_length_le (by omega)] at h;exact aq ⟨_, rfl, h⟩
 | succ d ih =>
  intro i o H hi h
  have hil : i < l.length := by omega
  refine ah (Fh _ _ _ _ _ H) ?_;refine aa (bO (by omega)) ?_;refine gs ?_;refine ah (W9 _ _ _ _ _ H) ?_;refine P4 (s := s) (l := l) h hil ?_;refine bm h fun b H1 h1 => ?_;refine fm h1 rfl rfl fun H2 h2 => ?_;refine Uh h2 aE ?_;refine ag h2 (sW l[i].e) fun _ H3 h3 => ?_;refine bw h3 aE rfl rfl fun H4 h4 => ?_;refine a7 h4 ?_;refine L8 h4 fun b0 H5 h5 => ?_;refine gu (s := o) (l := l.take i) (l[i] : Pt) h5 rfl ?_ (by omega) fun a c H6 h6 => ?_
  ·unfold room; simp only [List.length_take]; omega
  refine ah (Xa _ _ _ _ _ H6) ?_;refine aa (aB (by omega) (by omega)) ?_;refine ih (i + 1) _ H6 (by omega) ?_;rw [List.take_succ_eq_append_getElem hil];exact h6.to
theorem Cf : Sp eI [.slice none 0 0, .slice none 0 0] emp (fun _ : Unit => vb true) (fun _ => emp) := by
 have same : ∀ f : Value, Sp qy [.slice none 0 0, .slice none 0 0, f] emp (fun _ : Unit => vb true) (fun _ => emp) := by
  intro f;refine aX (HD _ _ _) fun R H h => ?_;refine Ui ?_;refine Ui ?_;refine aa (yC rfl) ?_;refine gs ?_;refine ah (yY _ _ _ _ H) ?_;refine ah (y3 _ _ _ _ _ H) ?_;refine ah (y4 _ _ _ _ _ H) ?_;refine Ui ?_;refine aa (bu (by omega)) ?_;refine gs ?_;refine ah (u0 _ H) ?_;refine ah (yZ _ H) ?_;exact aq ⟨(), rfl, h⟩
 refine aX (nJ _ _) fun R H h => ?_;refine ag h (same _) fun _ H1 h1 => ?_;exact aq ⟨(), rfl, h1.to⟩
theorem acQ (e : Int) : Sp tF [.agg (n3 e).toArray, .agg (n3 e).toArray] emp (fun _ : Unit => vb true) (fun _ => emp) := by
 refine aX (Ko _ _) fun R H h => ?_;refine a8 h fun b1 H1 h1 => ?_;refine a8 h1 fun b2 H2 h2 => ?_;refine av h2 aE rfl ?_;refine av h2 aE rfl ?_;refine aa (bF rfl) ?_;refine gs ?_;refine av h2 aE rfl ?_;refine gs ?_;refine av h2 aE rfl ?_;refine gs ?_;refine aa (bF rfl) ?_;refine gs ?_;refine av h2 aE rfl ?_;refine gs ?_;refine av h2 aE rfl ?_;refine gs ?_;refine aa (bF rfl) ?_;refine gs ?_;refine av h2 aE rfl ?_;refine gs ?_;refine av h2 aE rfl ?_;refine gs ?_;refine ag h2 Cf fun _ H3 h3 => ?_;refine gs ?_;exact aq ⟨(), rfl, h3.to⟩
section
variable {α : Type}
theorem alM (A B : List α) (x : α) : (A ++ x :: B)[A.length]? = some x := by simp
theorem rt {A B : List α} {x : α} {i : Nat} (h : i = A.length) : (A ++ x :: B)[i]? = some x := by subst h; exact alM A B x
theorem ajI (A B : List α) (x y : α) : (A ++ x :: B).set A.length y = A ++ y :: B := by simp
theorem wb {A B : List α} {x y : α} {i : Nat} (h : i = A.length) : (A ++ x :: B).set i y = A ++ y :: B := by subst h; exact ajI A B x y
theorem alA {A B C : List α} {x y : α} {i j : Nat} (hi : i = A.length) (hj : j = A.length + 1 + B.length) : ((A ++ x :: (B ++ y :: C)).set i y).set j x = A ++ y :: (B ++ x :: C) := by
 rw [wb hi]
 have e : A ++ y :: (B ++ y :: C) = (A ++ y :: B) ++ y :: C := by simp
 rw [e, wb (by simp; omega)];simp
theorem af2 {A B C : List α} {x y : α} {i j : Nat} (hi : i = A.length) (hj : j = A.length + 1 + B.length) : ((A ++ x :: (B ++ y :: C)).set j x).set i y = A ++ y :: (B ++ x :: C) := by
 have e : A ++ x :: (B ++ y :: C) = (A ++ x :: B) ++ y :: C := by simp
 rw [e, wb (by simp; omega)]
 have e2 : (A ++ x :: B) ++ x :: C = A ++ x :: (B ++ x :: C) := by simp
 rw [e2, wb hi]
theorem at2 {A B C : List α} {x y : α} {j : Nat} (hj : j = A.length + 1 + B.length) : (A ++ x :: (B ++ y :: C))[j]? = some y := by
 have e : A ++ x :: (B ++ y :: C) = (A ++ x :: B) ++ y :: C := by simp
 rw [e];exact rt (by simp; omega)
end
section
variable {P R : SP} {H : AH} {s : Value} {l : List Pt} {Q : Value → AH → Prop}
theorem pz {i : Nat} {ii : Int} {x : Pt} {k : Value → OV} (hi : ii = i) (h : ac P H) [f : Ts P s Pt 7 Pt.cells l R] (hx : l[i]? = some x) (hk : wp (k (.agg (Pt.cells x).toArray)) Q) : wp (ldN 7 [.i 7 (vi ii)] s H k) Q := by
 subst hi;obtain ⟨hil, e⟩ := qw.1 hx;refine P4 (s := s) (l := l) (i := i) h hil ?_;rw [e];exact hk
theorem IY {i : Nat} {ii : Int} {x : Pt} {k : AH → OV} (hi : ii = i) (h : ac P H) [f : Ts P s Pt 7 Pt.cells l R] (hl : i < l.length) (hk : ∀ H', ac (ts 7 Pt.cells s (l.set i x) * R) H' → wp (k H') Q) : wp (st 7 [.i 7 (vi ii)] s (.agg (Pt.cells x).toArray) H k) Q := by
 subst hi;exact DH (s := s) (l := l) (i := i) x h hl (.inl ⟨rfl, rfl⟩) rfl (by omega) rfl rfl fun H' h' => hk H' h'.to
theorem P1 {i j : Nat} {ii jj : Int} {x y : Pt} {k : AH → OV} (hi : ii = i) (hj : jj = j) (h : ac P H) [f : Ts P s Pt 7 Pt.cells l R] (hx : l[i]? = some x) (hy : l[j]? = some y)
 (hk : ∀ H', ac (ts 7 Pt.cells s ((l.set i y).set j x) * R) H' → wp (k H') Q) :
 wp (ldN 7 [.i 7 (vi jj)] s H fun v16 => ldN 7 [.i 7 (vi ii)] s H fun v17 => st 7 [.i 7 (vi ii)] s v16 H fun H18 => st 7 [.i 7 (vi jj)] s v17 H18 k) Q := by
 obtain ⟨hil, _⟩ := qw.1 hx;obtain ⟨hjl, _⟩ := qw.1 hy;refine pz hj h hy ?_;refine pz hi h hx ?_;refine IY hi h hil fun H1 h1 => ?_;refine IY hj h1 (by rw [xa]; exact hjl) fun H2 h2 => ?_;exact hk H2 h2.to
end
theorem apL {cl : TCls} {w : Nat} : aj cl .shr (vu w) (vw 1) = some (vu (w / 2)) := by
 have := wE (cl := cl) (a := w) (k := .u64) (n := 1) (by omega)
 simpa using this
theorem Uj {i j : Nat} {ii jj : Int} {k : Value → OV} {Q : Value → AH → Prop} (hi : ii = i) (hj : jj = j) (hb : i + j < 4611686018427387904) (hk : wp (k (vi (((i + j) / 2 : Nat) : Int))) Q) :
 wp ((aj .other .add (vi ii) (vi jj)).bind fun a => (bI (some .u64) a).bind fun b => (aj .other .shr b (vw 1)).bind fun c => (bI (some .i64) c).bind k) Q := by
 subst hi hj;refine aa (aB (by omega) (by omega)) ?_;refine aa (cP (by omega) (by omega)) ?_;rw [show ((i : Int) + (j : Int)).toNat = i + j from by omega];refine aa (apL) ?_;refine aa (fV (by omega)) ?_;exact hk
def UQ (a b : Pt) : Int := if a.step < b.step then -1 else if b.step < a.step then 1 else 0
theorem ahN (a b : Int) : Sp jo [vi a, vi b] emp (fun _ : Unit => vi (if a < b then -1 else if b < a then 1 else 0)) (fun _ => emp) := by
 have nan : ∀ x : Int, Sp iJ [vi x] emp (fun _ : Unit => vb false) (fun _ => emp) := by
  intro x;refine aX (yS _) fun R H h => ?_;refine aa (yC rfl) ?_;exact aq ⟨(), rfl, h⟩
 refine aX (ut _ _) fun R H h => ?_;refine ag h (nan a) fun _ H1 h1 => ?_;refine ag h1 (nan b) fun _ H2 h2 => ?_;refine DD ?_;refine DD ?_
 by_cases h1 : a < b
 ·refine aa (bO h1) ?_
  refine gs ?_;exact aq ⟨(), by rw [if_pos h1], h2.to⟩
 ·refine aa (bu h1) ?_
  refine gs ?_
  by_cases h3 : b < a
  ·refine aa (nI h3) ?_
   refine gs ?_;exact aq ⟨(), by rw [if_neg h1, if_pos h3], h2.to⟩
  ·refine aa (gh h3) ?_
   refine gs ?_;exact aq ⟨(), by rw [if_neg h1, if_neg h3], h2.to⟩
theorem WY (a b : Pt) : Sp cU [.agg (Pt.cells a).toArray, .agg (Pt.cells b).toArray] emp (fun _ : Unit => vi (UQ a b)) (fun _ => emp) := by
 refine aX (qL _ _) fun R H h => ?_;refine a8 h fun b1 H1 h1 => ?_;refine a8 h1 fun b2 H2 h2 => ?_;refine av h2 aE rfl ?_;refine av h2 aE rfl ?_;refine ag h2 (ahN a.step b.step) fun _ H3 h3 => ?_;exact aq ⟨(), rfl, h3.to⟩
theorem zK {a b : Pt} (h : a.step < b.step) : aj .other .lss (vi (UQ a b)) (vi 0) = some (vb true) := by
 rw [UQ, if_pos h]; exact bO (by omega)
theorem zJ {a b : Pt} (h : ¬ a.step < b.step) : aj .other .lss (vi (UQ a b)) (vi 0) = some (vb false) := by
 rw [UQ, if_neg h]
 split <;> exact bu (by omega)
abbrev l6 : Value := .func (.func cU) #[] #[]
theorem Um {P : SP} {H : AH} {Q : Value → AH → Prop} {a b : Pt} {k : Value × AH → OV} (h : ac P H) (hk : ∀ H', ac P H' → wp (k (vi (UQ a b), H')) Q) :
 wp (((b5 l6 [.agg (Pt.cells a).toArray, .agg (Pt.cells b).toArray]).bind fun c => FF c.1 c.2 H).bind k) Q := by
 refine ah (show ((b5 l6 [.agg (Pt.cells a).toArray, .agg (Pt.cells b).toArray]).bind fun c => FF c.1 c.2 H).bind k = (FF cU [.agg (Pt.cells a).toArray, .agg (Pt.cells b).toArray] H).bind k from rfl) ?_;refine ag h (WY a b) fun _ H1 h1 => ?_;exact hk H1 h1.to
theorem t9 (s f : Value) (P M : List Pt) (Q : List Pt) : ∀ (X Y : List Pt), X.length = Y.length → P.length + X.length + M.length + Y.length < 4000000 →
 Sp KE [s, vi ((P.length : Nat) : Int), vi ((P.length + X.length + M.length : Nat) : Int), vi ((X.length : Nat) : Int), f] (ts 7 Pt.cells s (P ++ (X ++ (M ++ (Y ++ Q))))) (fun _ : Unit => .tuple #[]) (fun _ => ts 7 Pt.cells s (P ++ (Y ++ (M ++ (X ++ Q))))) := by
 intro X Y hXY hb;refine aX (am1 _ _ _ _ _) fun R H h => ?_;refine ah (X5 ..) ?_;have loop : ∀ (X2 Y2 X1 Y1 : List Pt) (H : AH), X1 ++ X2 = X → Y1 ++ Y2 = Y → X1.length = Y1.length → ac (ts 7 Pt.cells s ((P ++ Y1) ++ (X2 ++ (M ++ (X1 ++ (Y2 ++ Q))))) * R) H →
  wp (IM s (vi ((P.length : Nat) : Int)) (vi ((P.length + X.length + M.length : Nat) : Int)) (vi ((X.length : Nat) : Int)) (vi ((X1.length : Nat) : Int)) H) fun v' H' => ∃ x : Unit, v' = .tuple #[] ∧ ac (ts 7 Pt.cells s (P ++ (Y ++ (M ++ (X ++ Q)))) * R) H' := by
  intro X2
  induction X2 with
  | nil =>
   intro Y2 X1 Y1 H hX hY hl hh;rw [List.append_nil] at hX;subst hX
   have : Y2 = [] := by
    have := congrArg List.length hY;rw [dh] at this;exact List.eq_nil_of_length_eq_zero (by omega)
   subst this;rw [List.append_nil] at hY;subst hY;refine ah (FI ..) ?_;refine aa (bu (by omega)) ?_;refine gs ?_;refine ah (Lp ..) ?_;refine aq ⟨(), rfl, ?_⟩
   simpa using hh
  | cons x X2 ih =>
   intro Y2 X1 Y1 H hX hY hl hh;have hxl := congrArg List.length hX;have hyl := congrArg List.length hY;simp only [dh, List.length_cons] at hxl hyl
   cases Y2 with
   | nil => simp only [List.length_nil] at hyl; omega
   | cons y Y2 =>
    simp only [List.length_cons] at hyl;refine ah (FI ..) ?_;refine aa (bO (by omega)) ?_;refine gs ?_;refine ah (X6 ..) ?_;refine aa (aB (by omega) (by omega)) ?_;refine aa (aB (by omega) (by omega)) ?_;refine aa (aB (by omega) (by omega)) ?_
    have e : (P ++ Y1) ++ ((x :: X2) ++ (M ++ (X1 ++ ((y :: Y2) ++ Q)))) = (P ++ Y1) ++ x :: ((X2 ++ (M ++ X1)) ++ y :: (Y2 ++ Q)) := by simp
    rw [e] at hh;refine pz (i := P.length + X.length + M.length + X1.length) (by omega) hh (at2 (by simp; omega)) ?_;refine aa (aB (by omega) (by omega)) ?_;refine pz (i := P.length + X1.length) (by omega) hh (rt (by simp; omega)) ?_;refine IY (i := P.length + X1.length) (by omega) hh (by simp; omega) fun H1 h1 => ?_;refine IY (i := P.length + X.length + M.length + X1.length) (by omega) h1 (by simp; omega) fun H2 h2 => ?_;rw [alA (by simp; omega) (by simp; omega)] at h2;refine ah (X7 ..) ?_;refine aa (aB (by omega) (by omega)) ?_
    have := ih Y2 (X1 ++ [x]) (Y1 ++ [y]) H2 (by rw [← hX]; simp) (by rw [← hY]; simp) (by simp; exact hl) (by
     have e2 : (P ++ Y1) ++ y :: ((X2 ++ (M ++ X1)) ++ x :: (Y2 ++ Q)) = (P ++ (Y1 ++ [y])) ++ (X2 ++ (M ++ ((X1 ++ [x]) ++ (Y2 ++ Q)))) := by simp
     rw [e2] at h2
     exact h2.to)
    rw [dh, List.length_singleton] at this;rw [show ((X1.length : Nat) : Int) + 1 = ((X1.length + 1 : Nat) : Int) from by omega];exact this
 exact loop X Y [] [] H rfl rfl rfl (by simpa using h)
theorem amT (s f : Value) : ∀ (N : Nat) (P U V Q : List Pt), U.length + V.length ≤ N → 1 ≤ U.length → 1 ≤ V.length → P.length + U.length + V.length < 1000000 → ∀ (R : SP) (H : AH), ac (ts 7 Pt.cells s (P ++ (U ++ (V ++ Q))) * R) H →
 wp (Dc s (vi ((P.length + U.length : Nat) : Int)) f (vi ((U.length : Nat) : Int)) (vi ((V.length : Nat) : Int)) H) fun v' H' => ∃ x : Unit, v' = .tuple #[] ∧ ac (ts 7 Pt.cells s (P ++ (V ++ (U ++ Q))) * R) H' := by
 intro N
 induction N with
 | zero => intro P U V Q hN hU hV; omega
 | succ N ih =>
  intro P U V Q hN hU hV hb R H h;refine ah (XT ..) ?_
  by_cases hij : U.length = V.length
  ·refine aa (yC (by omega)) ?_
   refine gs ?_;refine ah (Ll ..) ?_;refine ah (XS ..) ?_;refine aa (ba (by omega) (by omega)) ?_;rw [show ((P.length + U.length : Nat) : Int) - ((U.length : Nat) : Int) = ((P.length : Nat) : Int) from by omega];have sw := t9 s f P [] Q U V hij (by simp; omega);simp only [List.length_nil, Nat.add_zero, List.nil_append] at sw;refine ag h sw fun _ H1 h1 => ?_;exact aq ⟨(), rfl, h1.to⟩
  ·refine aa (SY (by omega)) ?_
   refine gs ?_;refine ah (XU ..) ?_
   by_cases hgt : V.length < U.length
   ·refine aa (nI (by omega)) ?_
    refine gs ?_;refine aa (ba (by omega) (by omega)) ?_;rw [show ((P.length + U.length : Nat) : Int) - ((U.length : Nat) : Int) = ((P.length : Nat) : Int) from by omega]
    have hl1 : (U.take V.length).length = V.length := by rw [List.length_take]; omega
    have hl2 : (U.drop V.length).length = U.length - V.length := List.length_drop;have eU : U.take V.length ++ U.drop V.length = U := List.take_append_drop ..;have sw := t9 s f P (U.drop V.length) Q (U.take V.length) V hl1 (by omega);rw [hl1, hl2, show P.length + V.length + (U.length - V.length) = P.length + U.length from by omega] at sw
    have e1 : P ++ (U ++ (V ++ Q)) = P ++ (U.take V.length ++ (U.drop V.length ++ (V ++ Q))) := by rw [← List.append_assoc (U.take V.length), eU]
    rw [e1] at h;refine ag h sw fun _ H1 h1 => ?_;refine aa (ba (by omega) (by omega)) ?_
    have := ih (P ++ V) (U.drop V.length) (U.take V.length) Q (by omega) (by omega) (by omega) (by rw [dh]; omega) R H1 (by
     rw [List.append_assoc]
     exact h1.to)
    rw [hl1, hl2, dh, show P.length + V.length + (U.length - V.length) = P.length + U.length from by omega] at this;rw [show ((U.length : Nat) : Int) - ((V.length : Nat) : Int) = ((U.length - V.length : Nat) : Int) from by omega];refine ud ?_ this
    rintro v' H' ⟨_, e, h2⟩
    refine ⟨(), e, ?_⟩
    have e2 : (P ++ V) ++ (U.take V.length ++ (U.drop V.length ++ Q)) = P ++ (V ++ (U ++ Q)) := by rw [← List.append_assoc (U.take V.length), eU, List.append_assoc]
    rw [e2] at h2;exact h2
   ·refine aa (gh (by omega)) ?_
    refine gs ?_;refine aa (ba (by omega) (by omega)) ?_;rw [show ((P.length + U.length : Nat) : Int) - ((U.length : Nat) : Int) = ((P.length : Nat) : Int) from by omega];refine aa (aB (by omega) (by omega)) ?_;refine aa (ba (by omega) (by omega)) ?_
    have hl1 : (V.take (V.length - U.length)).length = V.length - U.length := by rw [List.length_take]; omega
    have hl2 : (V.drop (V.length - U.length)).length = U.length := by rw [List.length_drop]; omega
    have eV : V.take (V.length - U.length) ++ V.drop (V.length - U.length) = V := List.take_append_drop ..;have sw := t9 s f P (V.take (V.length - U.length)) Q U (V.drop (V.length - U.length)) hl2.symm (by omega);rw [hl1] at sw;rw [show ((P.length + U.length : Nat) : Int) + ((V.length : Nat) : Int) - ((U.length : Nat) : Int) = ((P.length + U.length + (V.length - U.length) : Nat) : Int) from by omega]
    have e1 : P ++ (U ++ (V ++ Q)) = P ++ (U ++ (V.take (V.length - U.length) ++ (V.drop (V.length - U.length) ++ Q))) := by rw [← List.append_assoc (V.take (V.length - U.length)), eV]
    rw [e1] at h;refine ag h sw fun _ H1 h1 => ?_;refine aa (ba (by omega) (by omega)) ?_;have := ih P (V.drop (V.length - U.length)) (V.take (V.length - U.length)) (U ++ Q) (by omega) (by omega) (by omega) (by omega) R H1 h1.to;rw [hl1, hl2] at this;rw [show ((V.length : Nat) : Int) - ((U.length : Nat) : Int) = ((V.length - U.length : Nat) : Int) from by omega];refine ud ?_ this
    rintro v' H' ⟨_, e, h2⟩
    refine ⟨(), e, ?_⟩
    have e2 : P ++ (V.take (V.length - U.length) ++ (V.drop (V.length - U.length) ++ (U ++ Q))) = P ++ (V ++ (U ++ Q)) := by rw [← List.append_assoc (V.take (V.length - U.length)), eV]
    rw [e2] at h2;exact h2
theorem Pe (s f : Value) (P U V Q : List Pt) (hU : 1 ≤ U.length) (hV : 1 ≤ V.length) (hb : P.length + U.length + V.length < 1000000) :
 Sp adI [s, vi ((P.length : Nat) : Int), vi ((P.length + U.length : Nat) : Int), vi ((P.length + U.length + V.length : Nat) : Int), f] (ts 7 Pt.cells s (P ++ (U ++ (V ++ Q)))) (fun _ : Unit => .tuple #[]) (fun _ => ts 7 Pt.cells s (P ++ (V ++ (U ++ Q)))) := by
 refine aX (amY _ _ _ _ _) fun R H h => ?_;refine aa (ba (by omega) (by omega)) ?_;refine aa (ba (by omega) (by omega)) ?_;refine ah (XR ..) ?_;rw [show ((P.length + U.length : Nat) : Int) - ((P.length : Nat) : Int) = ((U.length : Nat) : Int) from by omega, show ((P.length + U.length + V.length : Nat) : Int) - ((P.length + U.length : Nat) : Int) = ((V.length : Nat) : Int) from by omega];exact amT s f _ P U V Q (bj _) hU hV hb R H h
theorem cN (L : List TP) : (pl L).length = L.length := pJ ..
theorem ij (X Y : List TP) : pl (X ++ Y) = pl X ++ pl Y := Kv ..
theorem yP.append_right {X Y Z : List TP} : yP X (Y ++ Z) ↔ yP X Y ∧ yP X Z :=
 ⟨fun h => ⟨fun x hx y hy => h x hx y (List.mem_append_left _ hy), fun x hx y hy => h x hx y (List.mem_append_right _ hy)⟩, fun h x hx y hy => (List.mem_append.1 hy).elim (h.1 x hx y) (h.2 x hx y)⟩
theorem EZ (A B : List Pt) (s : Value) (X : List TP) (hX : Asc X) (hb : A.length + X.length < 1000000) :
 Sp SX [s, vi ((A.length : Nat) : Int), vi ((A.length + X.length : Nat) : Int), l6] (ts 7 Pt.cells s (A ++ (pl X ++ B))) (fun _ : List TP => .tuple #[]) (fun Z => pu (jH Z ∧ Z.Perm X) * ts 7 Pt.cells s (A ++ (pl Z ++ B))) := by
 refine aX (amW _ _ _ _) fun R H h => ?_;refine aa (aB (by omega) (by omega)) ?_;refine ah (XH ..) ?_;have outer : ∀ (r S : List TP) (H : AH), jH S → Asc r → yP S r → (S ++ r).Perm X → ac (ts 7 Pt.cells s (A ++ (pl S ++ (pl r ++ B))) * R) H →
  wp (Iy s (vi ((A.length : Nat) : Int)) (vi ((A.length + X.length : Nat) : Int)) l6 (vi ((A.length + S.length : Nat) : Int)) H) fun v' H' => ∃ Z : List TP, v' = .tuple #[] ∧ ac (pu (jH Z ∧ Z.Perm X) * ts 7 Pt.cells s (A ++ (pl Z ++ B)) * R) H' := by
  intro r
  induction r with
  | nil =>
   intro S H hS hr hSr hp hh;have hlen := hp.length_eq;rw [List.append_nil] at hp hlen;refine ah (xS ..) ?_;refine aa (bu (by omega)) ?_;refine gs ?_;refine ah (yG ..) ?_;refine aq ⟨S, rfl, ?_⟩;rw [ar, ac.pu];exact ⟨⟨hS, hp⟩, by simpa using hh⟩
  | cons x r ih =>
   intro S H hS hr hSr hp hh;have hlen := hp.length_eq;rw [dh, List.length_cons] at hlen;refine ah (xS ..) ?_;refine aa (bO (by omega)) ?_;refine gs ?_;refine ah (XI ..) ?_;refine ah (XJ ..) ?_
   -- x goes down
   have inner : ∀ (d : Nat) (S1 S2 : List TP) (H : AH), S1.length = d → S1 ++ S2 = S → (∀ z ∈ S2, x.2.step < z.2.step) → ac (ts 7 Pt.cells s (A ++ (pl S1 ++ (x.2 :: (pl S2 ++ (pl r ++ B))))) * R) H →
    wp (Iz s (vi ((A.length : Nat) : Int)) (vi ((A.length + X.length : Nat) : Int)) l6 (vi ((A.length + S.length : Nat) : Int)) (vi ((A.length + S1.length : Nat) : Int)) H) fun v' H' => ∃ Z : List TP, v' = .tuple #[] ∧ ac (pu (jH Z ∧ Z.Perm X) * ts 7 Pt.cells s (A ++ (pl Z ++ B)) * R) H' := by
    intro d
    induction d with
    | zero =>
     intro S1 S2 H hd hS12 hz h2;have hS1 : S1 = [] := List.eq_nil_of_length_eq_zero hd;subst hS1;refine ah (Fy ..) ?_;refine aa (gh (by simp)) ?_;refine gs ?_;refine ah (yH ..) ?_;refine ah (Fw ..) ?_;refine aa (aB (by omega) (by omega)) ?_;rw [List.nil_append] at hS12;subst hS12
     have := ih (x :: S2) H (fS.2 ⟨fun z hz2 => .inl (hz z hz2), hS⟩) (List.pairwise_cons.1 hr).2 (fun a ha b hb2 => by
      rcases sm.1 ha with e | ha
      ·subst e; exact (List.pairwise_cons.1 hr).1 b hb2
      ·exact hSr a ha b (List.mem_cons_of_mem _ hb2)) ((List.perm_middle (l₁ := S2) (l₂ := r) (a := x)).symm.trans hp) (by simpa using h2)
     rw [List.length_cons] at this;rw [show ((A.length + S2.length : Nat) : Int) + 1 = ((A.length + (S2.length + 1) : Nat) : Int) from by omega];exact this
    | succ d ihd =>
     intro S1 S2 H hd hS12 hz h2
     obtain ⟨S0, y, rfl⟩ : ∃ S0 y, S1 = S0 ++ [y] := by
      refine ⟨S1.dropLast, S1.getLast (by intro e; rw [e] at hd; simp at hd), ?_⟩;rw [List.dropLast_concat_getLast]
     have hd0 : S0.length = d := by simpa using hd
     have hSl := congrArg List.length hS12;simp only [dh, List.length_singleton] at hSl
     have el : A ++ (pl (S0 ++ [y]) ++ (x.2 :: (pl S2 ++ (pl r ++ B)))) = (A ++ pl S0) ++ y.2 :: ([] ++ x.2 :: (pl S2 ++ (pl r ++ B))) := by simp [pl]
     rw [el] at h2;refine ah (Fy ..) ?_;refine aa (nI (by simp; omega)) ?_;refine gs ?_;rw [show (((A.length + (S0 ++ [y]).length : Nat)) : Int) = ((A.length + S0.length + 1 : Nat) : Int) from by simp; omega];refine pz (i := A.length + S0.length + 1) rfl h2 (at2 (by simp [pl])) ?_;refine gs ?_;refine aa (ba (by omega) (by omega)) ?_;refine gs ?_;refine pz (i := A.length + S0.length) (by omega) h2 (rt (by simp [pl])) ?_;refine IV ?_;refine Um h2 fun H3 h3 => ?_
     by_cases hc : x.2.step < y.2.step
     ·refine mH ?_
      refine aa (zK hc) ?_;refine gs ?_;refine ah (Pf ..) ?_;refine aa (ba (by omega) (by omega)) ?_;refine aa (ba (by omega) (by omega)) ?_;refine P1 (i := A.length + S0.length + 1) (j := A.length + S0.length) rfl (by omega) h3 (at2 (by simp [pl])) (rt (by simp [pl])) fun H4 h4 => ?_;rw [af2 (by simp [pl]) (by simp [pl])] at h4;refine ah (Pg ..) ?_;refine aa (ba (by omega) (by omega)) ?_
      have := ihd S0 (y :: S2) H4 hd0 (by rw [← hS12]; simp) (fun z hz2 => by
       rcases sm.1 hz2 with e | hz2
       ·subst e; exact hc
       ·exact hz z hz2) (by
       have e2 : (A ++ pl S0) ++ x.2 :: ([] ++ y.2 :: (pl S2 ++ (pl r ++ B))) = A ++ (pl S0 ++ (x.2 :: (pl (y :: S2) ++ (pl r ++ B)))) := by simp [pl]
       rw [e2] at h4
       exact h4.to)
      rw [show ((A.length + S0.length + 1 : Nat) : Int) - 1 = ((A.length + S0.length : Nat) : Int) from by omega];exact this
     ·refine mH ?_
      refine aa (zJ hc) ?_;refine gs ?_;refine ah (yH ..) ?_;refine ah (Fw ..) ?_;refine aa (aB (by omega) (by omega)) ?_;rw [← hS12] at hS hSr hp;have hS1s := (cz.1 hS).1
      have hx1 : ∀ z ∈ S0 ++ [y], ltT z x := by
       intro z hz1;have hzt := hSr z (List.mem_append_left _ hz1) x (List.mem_cons_self ..)
       have : z.2.step ≤ y.2.step := by
        rcases List.mem_append.1 hz1 with h | h
        ·exact HN ((cz.1 hS1s).2.2 z h y (List.mem_singleton.2 rfl))
        ·rw [List.mem_singleton.1 h]; exact Int.le_refl _
       unfold ltT;omega
      have := ih ((S0 ++ [y]) ++ x :: S2) H3 (cz.2 ⟨hS1s, fS.2 ⟨fun z hz2 => .inl (hz z hz2), (cz.1 hS).2.1⟩, fun a ha b hb2 => by
       rcases sm.1 hb2 with e | hb2
       ·subst e; exact hx1 a ha
       ·exact (cz.1 hS).2.2 a ha b hb2⟩) (List.pairwise_cons.1 hr).2 (fun a ha b hb2 => by
       rcases List.mem_append.1 ha with ha | ha
       ·exact hSr a (List.mem_append_left _ ha) b (List.mem_cons_of_mem _ hb2)
       ·rcases sm.1 ha with e | ha
        ·subst e; exact (List.pairwise_cons.1 hr).1 b hb2
        ·exact hSr a (List.mem_append_right _ ha) b (List.mem_cons_of_mem _ hb2)) (by
       refine List.Perm.trans ?_ hp;have p1 : (x :: (S2 ++ r)).Perm (S2 ++ x :: r) := (List.perm_middle (l₁ := S2) (l₂ := r) (a := x)).symm
       simpa using (p1.append_left (S0 ++ [y]))) (by
       have e2 : (A ++ pl S0) ++ y.2 :: ([] ++ x.2 :: (pl S2 ++ (pl r ++ B))) = A ++ (pl ((S0 ++ [y]) ++ x :: S2) ++ (pl r ++ B)) := by simp [pl]
       rw [← e2]
       exact h3.to)
      have e3 : ((S0 ++ [y]) ++ x :: S2).length = S.length + 1 := by simp; omega
      rw [e3] at this;rw [show ((A.length + S.length : Nat) : Int) + 1 = ((A.length + (S.length + 1) : Nat) : Int) from by omega];exact this
   exact inner S.length S [] H rfl (List.append_nil S) (fun z hz => by cases hz) (by simpa using hh)
 cases X with
 | nil =>
  refine ah (xS ..) ?_;refine aa (bu (by simp; omega)) ?_;refine gs ?_;refine ah (yG ..) ?_;refine aq ⟨[], rfl, ?_⟩;rw [ar, ac.pu];exact ⟨⟨IR, List.Perm.refl _⟩, h⟩
 | cons x X =>
  have := outer X [x] H (T9 x) (List.pairwise_cons.1 hX).2 (fun a ha b hb2 => by rw [List.mem_singleton.1 ha]; exact (List.pairwise_cons.1 hX).1 b hb2) (List.Perm.refl _) (by simpa using h);rw [List.length_singleton] at this;rw [show ((A.length : Nat) : Int) + 1 = ((A.length + 1 : Nat) : Int) from by omega];exact this
theorem j3 {L : List TP} (h : jH L) {i j : Nat} (hij : i ≤ j) (hj : j < L.length) : (L[i]'(by omega)).2.step ≤ L[j].2.step := by
 by_cases e : i = j
 ·subst e; exact Int.le_refl _
 ·exact HN (List.pairwise_iff_getElem.1 h i j (by omega) hj (by omega))
theorem ajQ {X1 X2 Y1 Y2 Z1 Z2 : List TP} (hX : jH (X1 ++ X2)) (hY : jH (Y1 ++ Y2)) (hB : yP (X1 ++ X2) (Y1 ++ Y2)) (h1 : ∀ x ∈ X1, ∀ y ∈ Y2, x.2.step ≤ y.2.step) (h2 : ∀ y ∈ Y1, ∀ x ∈ X2, y.2.step < x.2.step)
 (z1 : jH Z1) (z2 : jH Z2) (p1 : Z1.Perm (X1 ++ Y1)) (p2 : Z2.Perm (X2 ++ Y2)) : jH (Z1 ++ Z2) ∧ (Z1 ++ Z2).Perm ((X1 ++ X2) ++ (Y1 ++ Y2)) := by
 refine ⟨cz.2 ⟨z1, z2, fun a ha b hb => ?_⟩, ?_⟩
 ·rcases List.mem_append.1 (p1.mem_iff.1 ha) with ha | ha <;> rcases List.mem_append.1 (p2.mem_iff.1 hb) with hb | hb
  ·exact (cz.1 hX).2.2 a ha b hb
  ·have := h1 a ha b hb
   have := hB a (List.mem_append_left _ ha) b (List.mem_append_right _ hb);unfold ltT;omega
  ·exact .inl (h2 a ha b hb)
  ·exact (cz.1 hY).2.2 a ha b hb
 ·refine (p1.append p2).trans ?_
  have : ((X1 ++ Y1) ++ (X2 ++ Y2)).Perm ((X1 ++ X2) ++ (Y1 ++ Y2)) := by
   rw [List.append_assoc, List.append_assoc];refine List.Perm.append_left X1 ?_;rw [← List.append_assoc, ← List.append_assoc];exact List.Perm.append_right Y2 List.perm_append_comm
  exact this
theorem mr {L : List TP} {n : Nat} {x : TP} (h : x ∈ L.take n) : ∃ i, ∃ (hi : i < L.length), i < n ∧ L[i] = x := by
 obtain ⟨i, hi, e⟩ := List.mem_iff_getElem.1 h;rw [List.length_take] at hi;exact ⟨i, by omega, by omega, by rw [← e, List.getElem_take]⟩
theorem mq {L : List TP} {n : Nat} {x : TP} (h : x ∈ L.drop n) : ∃ i, ∃ (hi : i < L.length), n ≤ i ∧ L[i] = x := by
 obtain ⟨i, hi, e⟩ := List.mem_iff_getElem.1 h;rw [List.length_drop] at hi;exact ⟨n + i, by omega, by omega, by rw [← e, List.getElem_drop]⟩
section
variable (A B : List Pt) (s : Value) (X Y : List TP)
theorem alK {C : Nat} (hC : C < X.length) {i : Nat} (hi : i = A.length + C) : (A ++ (pl X ++ (pl Y ++ B)))[i]? = some X[C].2 := by
 subst hi;rw [List.getElem?_append_right (by omega), Nat.add_sub_cancel_left, List.getElem?_append_left (by rw [cN]; exact hC), tA, br hC]; rfl
theorem alL {C : Nat} (hC : C < Y.length) {i : Nat} (hi : i = A.length + X.length + C) : (A ++ (pl X ++ (pl Y ++ B)))[i]? = some Y[C].2 := by
 subst hi;rw [List.getElem?_append_right (by omega), List.getElem?_append_right (by rw [cN]; omega), cN, show A.length + X.length + C - A.length - X.length = C from by omega, List.getElem?_append_left (by rw [cN]; exact hC), tA, br hC]; rfl
end
theorem UL (s : Value) (x : Pt) (Q : List Pt) {R : SP} : ∀ (M P : List Pt) (H : AH), P.length + M.length < 1000000 → ac (ts 7 Pt.cells s (P ++ x :: (M ++ Q)) * R) H →
 wp (Af s (vi ((P.length + M.length + 1 : Nat) : Int)) (vi ((P.length : Nat) : Int)) H) fun v' H' => v' = .tuple #[] ∧ ac (ts 7 Pt.cells s (P ++ (M ++ x :: Q)) * R) H' := by
 intro M
 induction M with
 | nil =>
  intro P H hb hh;refine ah (Db ..) ?_;rw [List.length_nil, Nat.add_zero];refine aa (ba (by omega) (by omega)) ?_;refine aa (bu (by omega)) ?_;refine gs ?_;refine ah (ID ..) ?_;refine ah (Px ..) ?_;exact aq ⟨rfl, hh⟩
 | cons y M ih =>
  intro P H hb hh;rw [List.length_cons] at hb;refine ah (Db ..) ?_;rw [List.length_cons];refine aa (ba (by omega) (by omega)) ?_;refine aa (bO (by omega)) ?_;refine gs ?_;refine ah (Pz ..) ?_;refine aa (aB (by omega) (by omega)) ?_;refine aa (aB (by omega) (by omega)) ?_;have e : P ++ x :: ((y :: M) ++ Q) = P ++ x :: ([] ++ y :: (M ++ Q)) := rfl;rw [e] at hh;refine P1 (i := P.length) (j := P.length + 1) rfl (by omega) hh (rt rfl) (at2 (by simp)) fun H2 h2 => ?_;rw [alA rfl (by simp)] at h2;refine ah (PA ..) ?_;refine aa (aB (by omega) (by omega)) ?_
  have := ih (P ++ [y]) H2 (by simp; omega) (by
   have e2 : P ++ y :: ([] ++ x :: (M ++ Q)) = (P ++ [y]) ++ x :: (M ++ Q) := by simp
   rw [← e2]
   exact h2.to)
  rw [dh, List.length_singleton, show P.length + 1 + M.length + 1 = P.length + (M.length + 1) + 1 from by omega] at this;rw [show ((P.length : Nat) : Int) + 1 = ((P.length + 1 : Nat) : Int) from by omega];refine ud ?_ this
  rintro v' H' ⟨e1, h3⟩
  refine ⟨e1, ?_⟩
  have e3 : (P ++ [y]) ++ (M ++ x :: Q) = P ++ ((y :: M) ++ x :: Q) := by simp
  rw [e3] at h3;exact h3
theorem Jm (s : Value) (y : Pt) {R : SP} : ∀ (d : Nat) (M P Q : List Pt) (H : AH), M.length = d → P.length + M.length < 1000000 → ac (ts 7 Pt.cells s (P ++ (M ++ y :: Q)) * R) H →
 wp (Ae s (vi ((P.length : Nat) : Int)) (vi ((P.length + M.length : Nat) : Int)) H) fun v' H' => v' = .tuple #[] ∧ ac (ts 7 Pt.cells s (P ++ y :: (M ++ Q)) * R) H' := by
 intro d
 induction d with
 | zero =>
  intro M P Q H hd hb hh;have : M = [] := List.eq_nil_of_length_eq_zero hd;subst this;refine ah (C9 ..) ?_;refine aa (gh (by simp)) ?_;refine gs ?_;refine ah (IB ..) ?_;refine ah (Po ..) ?_;exact aq ⟨rfl, hh⟩
 | succ d ih =>
  intro M P Q H hd hb hh;obtain ⟨M0, z, rfl⟩ : ∃ M0 z, M = M0 ++ [z] := ⟨M.dropLast, M.getLast (by intro e; rw [e] at hd; simp at hd), by rw [List.dropLast_concat_getLast]⟩
  have hd0 : M0.length = d := by simpa using hd
  rw [dh, List.length_singleton] at hb;refine ah (C9 ..) ?_;rw [dh, List.length_singleton];refine aa (nI (by omega)) ?_;refine gs ?_;refine ah (Pq ..) ?_;refine aa (ba (by omega) (by omega)) ?_;refine aa (ba (by omega) (by omega)) ?_
  have e : P ++ ((M0 ++ [z]) ++ y :: Q) = (P ++ M0) ++ z :: ([] ++ y :: Q) := by simp
  rw [e] at hh;refine P1 (i := P.length + M0.length + 1) (j := P.length + M0.length) (by omega) (by omega) hh (at2 (by simp)) (rt (by simp)) fun H2 h2 => ?_;rw [af2 (by simp) (by simp)] at h2;refine ah (Pr ..) ?_;refine aa (ba (by omega) (by omega)) ?_
  have := ih M0 P (z :: Q) H2 hd0 (by omega) (by
   have e2 : (P ++ M0) ++ y :: ([] ++ z :: Q) = P ++ (M0 ++ y :: (z :: Q)) := by simp
   rw [← e2]
   exact h2.to)
  rw [show ((P.length + (M0.length + 1) : Nat) : Int) - 1 = ((P.length + M0.length : Nat) : Int) from by omega];refine ud ?_ this
  rintro v' H' ⟨e1, h3⟩
  refine ⟨e1, ?_⟩
  have e3 : P ++ y :: (M0 ++ z :: Q) = P ++ y :: ((M0 ++ [z]) ++ Q) := by simp
  rw [e3] at h3;exact h3
section
variable (A B : List Pt) (s : Value) (X Y : List TP) (hX : jH X) (hY : jH Y) (hB : yP X Y) (hb : A.length + X.length + Y.length < 1000000)
include hX hY hB hb
theorem KB (x : TP) (hx : X = [x]) {R : SP} {H : AH} (h : ac (ts 7 Pt.cells s (A ++ (pl X ++ (pl Y ++ B))) * R) H) :
 wp (IH s (vi ((A.length : Nat) : Int)) l6 (vi ((A.length + X.length : Nat) : Int)) (vi ((A.length + X.length + Y.length : Nat) : Int)) H) fun v' H' => ∃ Z : List TP, v' = .tuple #[] ∧ ac (pu (jH Z ∧ Z.Perm (X ++ Y)) * ts 7 Pt.cells s (A ++ (pl Z ++ B)) * R) H' := by
 have hXl : X.length = 1 := by rw [hx]; rfl
 have hx0 : X[0]'(by omega) = x := by subst hx; rfl
 refine ah (Pv ..) ?_;have bin : ∀ (d i j : Nat) (H : AH), j - i = d → i ≤ j → j ≤ Y.length → (∀ C, ∀ hC : C < Y.length, C < i → Y[C].2.step < x.2.step) → (∀ C, ∀ hC : C < Y.length, j ≤ C → ¬ Y[C].2.step < x.2.step) → ac (ts 7 Pt.cells s (A ++ (pl X ++ (pl Y ++ B))) * R) H →
  wp (qV s (vi ((A.length : Nat) : Int)) l6 (vi ((A.length + X.length + i : Nat) : Int)) (vi ((A.length + X.length + j : Nat) : Int)) H) fun v' H' => ∃ Z : List TP, v' = .tuple #[] ∧ ac (pu (jH Z ∧ Z.Perm (X ++ Y)) * ts 7 Pt.cells s (A ++ (pl Z ++ B)) * R) H' := by
  intro d
  induction d using Nat.strongRecOn with
  | ind d ih =>
   intro i j H hd hij hj hlo hhi hh;refine ah (Lh ..) ?_
   by_cases hlt : i < j
   ·refine aa (bO (by omega)) ?_
    refine gs ?_;refine ah (Lj ..) ?_;refine Uj rfl rfl (by omega) ?_
    have hm : (A.length + X.length + i + (A.length + X.length + j)) / 2 = A.length + X.length + (i + j) / 2 := by omega
    rw [hm]
    have hc : (i + j) / 2 < Y.length := by omega
    refine pz (i := A.length + X.length + (i + j) / 2) rfl hh (alL A B X Y hc rfl) ?_;refine pz (i := A.length) rfl hh (alK A B X Y (C := 0) (by omega) (by omega)) ?_;refine Um hh fun H1 h1 => ?_;rw [hx0]
    by_cases hcmp : Y[(i + j) / 2].2.step < x.2.step
    ·refine aa (zK hcmp) ?_
     refine gs ?_;refine aa (aB (by omega) (by omega)) ?_;rw [show ((A.length + X.length + (i + j) / 2 : Nat) : Int) + 1 = ((A.length + X.length + ((i + j) / 2 + 1) : Nat) : Int) from by omega];refine ih (j - ((i + j) / 2 + 1)) (by omega) ((i + j) / 2 + 1) j H1 rfl (by omega) hj (fun C hC hCl => ?_) hhi h1;have := j3 hY (i := C) (j := (i + j) / 2) (by omega) hc;omega
    ·refine aa (zJ hcmp) ?_
     refine gs ?_;refine ih ((i + j) / 2 - i) (by omega) i ((i + j) / 2) H1 rfl (by omega) (by omega) hlo (fun C hC hCl => ?_) h1;have := j3 hY (i := (i + j) / 2) (j := C) hCl hC;omega
   ·refine aa (bu (by omega)) ?_
    refine gs ?_
    have e : j = i := by omega
    subst e;refine ah (D8 ..) ?_;refine ah (Pw ..) ?_;refine ah (Py ..) ?_
    have ht : (pl (Y.take j)).length = j := by rw [cN, List.length_take]; omega
    have eY : Y.take j ++ Y.drop j = Y := List.take_append_drop ..
    have b := UL s x.2 (pl (Y.drop j) ++ B) (R := R) (pl (Y.take j)) A H (by omega) (by
     have e2 : A ++ (pl X ++ (pl Y ++ B)) = A ++ x.2 :: (pl (Y.take j) ++ (pl (Y.drop j) ++ B)) := by
      rw [← List.append_assoc (pl (Y.take j)), ← ij, eY, hx]; rfl
     rw [← e2]
     exact hh)
    rw [ht] at b;rw [hXl, show A.length + 1 + j = A.length + j + 1 from by omega];refine ud ?_ b
    rintro v' H' ⟨e1, h3⟩
    refine ⟨Y.take j ++ x :: Y.drop j, e1, ?_⟩;rw [ar, ac.pu];have hYs := cz.1 (by rw [eY]; exact hY : jH (Y.take j ++ Y.drop j));have hbel : ∀ y ∈ Y, x.1 < y.1 := fun y hy => hB x (by rw [hx]; exact List.mem_singleton.2 rfl) y hy;refine ⟨⟨cz.2 ⟨hYs.1, fS.2 ⟨fun y hy => ?_, hYs.2.1⟩, fun a ha b hb2 => ?_⟩, ?_⟩, ?_⟩
    ·obtain ⟨i, hi, hge, rfl⟩ := mq hy
     have := hhi i hi hge;have := hbel _ (Ku hi);unfold ltT;omega
    ·rcases sm.1 hb2 with e3 | hb2
     ·subst e3
      obtain ⟨i, hi, hlt2, rfl⟩ := mr ha;exact .inl (hlo i hi hlt2)
     ·exact hYs.2.2 a ha b hb2
    ·refine (List.perm_middle (l₁ := Y.take j) (l₂ := Y.drop j) (a := x)).trans ?_
     rw [eY, hx];exact List.Perm.refl _
    ·have e4 : A ++ (pl (Y.take j) ++ x.2 :: (pl (Y.drop j) ++ B)) = A ++ (pl (Y.take j ++ x :: Y.drop j) ++ B) := by simp [pl]
     rw [e4] at h3;exact h3
 have := bin Y.length 0 Y.length H rfl (Nat.zero_le _) (bj _) (fun C hC hl => by omega) (fun C hC hl => by omega) h;exact this
theorem Oj (y : TP) (hy : Y = [y]) {R : SP} {H : AH} (h : ac (ts 7 Pt.cells s (A ++ (pl X ++ (pl Y ++ B))) * R) H) :
 wp (IE s (vi ((A.length + X.length : Nat) : Int)) l6 (vi ((A.length : Nat) : Int)) (vi ((A.length + X.length : Nat) : Int)) H) fun v' H' => ∃ Z : List TP, v' = .tuple #[] ∧ ac (pu (jH Z ∧ Z.Perm (X ++ Y)) * ts 7 Pt.cells s (A ++ (pl Z ++ B)) * R) H' := by
 have hYl : Y.length = 1 := by rw [hy]; rfl
 have hy0 : Y[0]'(by omega) = y := by subst hy; rfl
 refine ah (Pm ..) ?_;have bin : ∀ (d i j : Nat) (H : AH), j - i = d → i ≤ j → j ≤ X.length → (∀ C, ∀ hC : C < X.length, C < i → ¬ y.2.step < X[C].2.step) → (∀ C, ∀ hC : C < X.length, j ≤ C → y.2.step < X[C].2.step) → ac (ts 7 Pt.cells s (A ++ (pl X ++ (pl Y ++ B))) * R) H →
  wp (v9 s (vi ((A.length + X.length : Nat) : Int)) l6 (vi ((A.length + i : Nat) : Int)) (vi ((A.length + j : Nat) : Int)) H) fun v' H' => ∃ Z : List TP, v' = .tuple #[] ∧ ac (pu (jH Z ∧ Z.Perm (X ++ Y)) * ts 7 Pt.cells s (A ++ (pl Z ++ B)) * R) H' := by
  intro d
  induction d using Nat.strongRecOn with
  | ind d ih =>
   intro i j H hd hij hj hlo hhi hh;refine ah (Ps ..) ?_
   by_cases hlt : i < j
   ·refine aa (bO (by omega)) ?_
    refine gs ?_;refine ah (Pu ..) ?_;refine Uj rfl rfl (by omega) ?_
    have hm : (A.length + i + (A.length + j)) / 2 = A.length + (i + j) / 2 := by omega
    rw [hm]
    have hc : (i + j) / 2 < X.length := by omega
    refine pz (i := A.length + X.length) rfl hh (alL A B X Y (C := 0) (by omega) rfl) ?_;refine pz (i := A.length + (i + j) / 2) rfl hh (alK A B X Y hc rfl) ?_;refine Um hh fun H1 h1 => ?_;rw [hy0]
    by_cases hcmp : y.2.step < X[(i + j) / 2].2.step
    ·refine aa (zK hcmp) ?_
     refine gs ?_;rw [Bool.not_true];refine gs ?_;refine ih ((i + j) / 2 - i) (by omega) i ((i + j) / 2) H1 rfl (by omega) (by omega) hlo (fun C hC hCl => ?_) h1;have := j3 hX (i := (i + j) / 2) (j := C) hCl hC;omega
    ·refine aa (zJ hcmp) ?_
     refine gs ?_;rw [Bool.not_false];refine gs ?_;refine aa (aB (by omega) (by omega)) ?_;rw [show ((A.length + (i + j) / 2 : Nat) : Int) + 1 = ((A.length + ((i + j) / 2 + 1) : Nat) : Int) from by omega];refine ih (j - ((i + j) / 2 + 1)) (by omega) ((i + j) / 2 + 1) j H1 rfl (by omega) hj (fun C hC hCl => ?_) hhi h1;have := j3 hX (i := C) (j := (i + j) / 2) (by omega) hc;omega
   ·refine aa (bu (by omega)) ?_
    refine gs ?_
    have e : j = i := by omega
    subst e;refine ah (IC ..) ?_;refine ah (Pn ..) ?_;refine ah (Pp ..) ?_
    have ht : (A ++ pl (X.take j)).length = A.length + j := by rw [dh, cN, List.length_take]; omega
    have ht2 : (pl (X.drop j)).length = X.length - j := by rw [cN, List.length_drop]
    have eX : X.take j ++ X.drop j = X := List.take_append_drop ..
    have b := Jm s y.2 (R := R) (X.length - j) (pl (X.drop j)) (A ++ pl (X.take j)) B H ht2 (by rw [ht, ht2]; omega) (by
     have e2 : A ++ (pl X ++ (pl Y ++ B)) = (A ++ pl (X.take j)) ++ (pl (X.drop j) ++ y.2 :: B) := by
      rw [List.append_assoc, ← List.append_assoc (pl (X.take j)), ← ij, eX, hy]; rfl
     rw [← e2]
     exact hh)
    rw [ht, ht2, show A.length + j + (X.length - j) = A.length + X.length from by omega] at b;refine ud ?_ b
    rintro v' H' ⟨e1, h3⟩
    refine ⟨X.take j ++ y :: X.drop j, e1, ?_⟩;rw [ar, ac.pu];have hXs := cz.1 (by rw [eX]; exact hX : jH (X.take j ++ X.drop j));have hbel : ∀ x ∈ X, x.1 < y.1 := fun x hx => hB x hx y (by rw [hy]; exact List.mem_singleton.2 rfl);refine ⟨⟨cz.2 ⟨hXs.1, fS.2 ⟨fun z hz => ?_, hXs.2.1⟩, fun a ha b hb2 => ?_⟩, ?_⟩, ?_⟩
    ·obtain ⟨i, hi, hge, rfl⟩ := mq hz
     exact .inl (hhi i hi hge)
    ·rcases sm.1 hb2 with e3 | hb2
     ·subst e3
      obtain ⟨i, hi, hlt2, rfl⟩ := mr ha;have := hlo i hi hlt2;have := hbel _ (Ku hi);unfold ltT;omega
     ·exact hXs.2.2 a ha b hb2
    ·refine (List.perm_middle (l₁ := X.take j) (l₂ := X.drop j) (a := y)).trans ?_
     rw [eX, hy];exact (List.perm_append_comm (l₁ := [y]) (l₂ := X))
    ·have e4 : (A ++ pl (X.take j)) ++ y.2 :: (pl (X.drop j) ++ B) = A ++ (pl (X.take j ++ y :: X.drop j) ++ B) := by simp [pl]
     rw [e4] at h3;exact h3
 have := bin X.length 0 X.length H rfl (Nat.zero_le _) (bj _) (fun C hC hl => by omega) (fun C hC hl => by omega) h;rw [Nat.add_zero] at this;exact this
end
def LoP (X Y : List TP) (hf S : Nat) : Prop := ∃ C, C + 1 = S ∧ ∃ (h1 : C < X.length) (h2 : hf - 1 - C < Y.length), X[C].2.step ≤ Y[hf - 1 - C].2.step
def HiP (X Y : List TP) (hf S : Nat) : Prop := ∃ (h1 : S < X.length) (h2 : hf - 1 - S < Y.length), S < hf ∧ Y[hf - 1 - S].2.step < X[S].2.step
theorem FR (s : Value) : ∀ (N : Nat) (A B : List Pt) (X Y : List TP), X.length + Y.length ≤ N → 1 ≤ X.length → 1 ≤ Y.length → jH X → jH Y → yP X Y → A.length + X.length + Y.length < 1000000 →
 Sp E9 [s, vi ((A.length : Nat) : Int), vi ((A.length + X.length : Nat) : Int), vi ((A.length + X.length + Y.length : Nat) : Int), l6] (ts 7 Pt.cells s (A ++ (pl X ++ (pl Y ++ B)))) (fun _ : List TP => .tuple #[]) (fun Z => pu (jH Z ∧ Z.Perm (X ++ Y)) * ts 7 Pt.cells s (A ++ (pl Z ++ B))) := by
 intro N
 induction N with
 | zero => intro A B X Y hN hX1; omega
 | succ N ih =>
  intro A B X Y hN hX1 hY1 hX hY hB hb;refine aX (amX _ _ _ _ _) fun R H h => ?_;refine aa (ba (by omega) (by omega)) ?_
  by_cases hx1 : X.length = 1
  ·refine aa (bF (by omega)) ?_
   refine ah (Da ..) ?_;refine gs ?_;obtain ⟨x, hx⟩ := List.length_eq_one_iff.1 hx1;exact KB A B s X Y hX hY hB hb x hx h
  ·refine aa (aQ (by omega)) ?_
   refine ah (Da ..) ?_;refine gs ?_;refine ah (XK ..) ?_;refine aa (ba (by omega) (by omega)) ?_
   by_cases hy1 : Y.length = 1
   ·refine aa (bF (by omega)) ?_
    refine ah (C8 ..) ?_;refine gs ?_;obtain ⟨y, hy⟩ := List.length_eq_one_iff.1 hy1;exact Oj A B s X Y hX hY hB hb y hy h
   ·refine aa (aQ (by omega)) ?_
    refine ah (C8 ..) ?_;refine gs ?_;refine ah (XL ..) ?_;refine Uj rfl rfl (by omega) ?_;obtain ⟨hf, hfe⟩ : ∃ hf, hf = (X.length + Y.length) / 2 := ⟨_, rfl⟩;rw [show (A.length + (A.length + X.length + Y.length)) / 2 = A.length + hf from by omega];refine aa (aB (by omega) (by omega)) ?_;refine ah (XM ..) ?_
    -- what is behind the search
    have rest : ∀ (S : Nat) (H : AH), S ≤ X.length → S ≤ hf → hf - S ≤ Y.length →
     (LoP X Y hf S ∨ S = 0 ∨ hf - S = Y.length) →
     (HiP X Y hf S ∨ S = X.length ∨ S = hf) →
     ac (ts 7 Pt.cells s (A ++ (pl X ++ (pl Y ++ B))) * R) H →
     wp (Pl s (vi ((A.length : Nat) : Int)) (vi ((A.length + X.length : Nat) : Int)) (vi ((A.length + X.length + Y.length : Nat) : Int)) l6 (vi ((A.length + hf : Nat) : Int)) (vi (((A.length + hf : Nat) : Int) + ((A.length + X.length : Nat) : Int))) (vi ((A.length + S : Nat) : Int)) H)
      fun v' H' => ∃ Z : List TP, v' = .tuple #[] ∧ ac (pu (jH Z ∧ Z.Perm (X ++ Y)) * ts 7 Pt.cells s (A ++ (pl Z ++ B)) * R) H' := by
     intro S H hSX hSf hSY hlo hhi hh;obtain ⟨E, hE⟩ : ∃ E, E = hf - S := ⟨_, rfl⟩;have eX : X.take S ++ X.drop S = X := List.take_append_drop ..;have eY : Y.take E ++ Y.drop E = Y := List.take_append_drop ..
     have l1 : (X.take S).length = S := by rw [List.length_take]; omega
     have l2 : (X.drop S).length = X.length - S := List.length_drop
     have l3 : (Y.take E).length = E := by rw [List.length_take]; omega
     have l4 : (Y.drop E).length = Y.length - E := List.length_drop
     have c1 : ∀ x ∈ X.take S, ∀ y ∈ Y.drop E, x.2.step ≤ y.2.step := by
      clear hhi
      intro x hx y hy;obtain ⟨i, hi, hiS, rfl⟩ := mr hx;obtain ⟨j, hj, hjE, rfl⟩ := mq hy
      rcases hlo with ⟨C, hC, h1, h2, h3⟩ | h0 | h0
      ·have a1 := j3 hX (i := i) (j := C) (by omega) h1
       have a2 := j3 hY (i := hf - 1 - C) (j := j) (by omega) hj;omega
      ·omega
      ·omega
     have c2 : ∀ y ∈ Y.take E, ∀ x ∈ X.drop S, y.2.step < x.2.step := by
      clear hlo
      intro y hy x hx;obtain ⟨i, hi, hiS, rfl⟩ := mq hx;obtain ⟨j, hj, hjE, rfl⟩ := mr hy
      rcases hhi with ⟨h1, h2, h4, h3⟩ | h0 | h0
      ·have a1 := j3 hX (i := S) (j := i) (by omega) hi
       have a2 := j3 hY (i := j) (j := hf - 1 - S) (by omega) h2;omega
      ·omega
      ·omega
     clear hlo hhi
     have sX := cz.1 (by rw [eX]; exact hX : jH (X.take S ++ X.drop S));have sY := cz.1 (by rw [eY]; exact hY : jH (Y.take E ++ Y.drop E))
     have hB' : yP (X.take S ++ X.drop S) (Y.take E ++ Y.drop E) := by rw [eX, eY]; exact hB
     have b11 : yP (X.take S) (Y.take E) := hB'.sub (fun x => List.mem_append_left _) (fun x => List.mem_append_left _);have b22 : yP (X.drop S) (Y.drop E) := hB'.sub (fun x => List.mem_append_right _) (fun x => List.mem_append_right _);refine ah (XN ..) ?_;refine aa (ba (by omega) (by omega)) ?_;rw [show ((A.length + hf : Nat) : Int) + ((A.length + X.length : Nat) : Int) - ((A.length + S : Nat) : Int) = ((A.length + X.length + E : Nat) : Int) from by omega];refine ah (XO ..) ?_
     -- the second halves
     have part2 : ∀ (Z1 : List TP) (H : AH), jH Z1 → Z1.Perm (X.take S ++ Y.take E) → ac (ts 7 Pt.cells s (A ++ (pl Z1 ++ (pl (X.drop S) ++ (pl (Y.drop E) ++ B)))) * R) H →
      wp (IG s (vi ((A.length + X.length + Y.length : Nat) : Int)) l6 (vi ((A.length + hf : Nat) : Int)) (vi ((A.length + X.length + E : Nat) : Int)) H)
       fun v' H' => ∃ Z : List TP, v' = .tuple #[] ∧ ac (pu (jH Z ∧ Z.Perm (X ++ Y)) * ts 7 Pt.cells s (A ++ (pl Z ++ B)) * R) H' := by
      intro Z1 H hz1 hp1 h1;have lz := hp1.length_eq;rw [dh, l1, l3] at lz;have done : ∀ (Z2 : List TP) (H : AH), jH Z2 → Z2.Perm (X.drop S ++ Y.drop E) → ac (ts 7 Pt.cells s ((A ++ pl Z1) ++ (pl Z2 ++ B)) * R) H →
       ∃ Z : List TP, (.tuple #[] : Value) = .tuple #[] ∧ ac (pu (jH Z ∧ Z.Perm (X ++ Y)) * ts 7 Pt.cells s (A ++ (pl Z ++ B)) * R) H := by
       intro Z2 H hz2 hp2 h2;have cut := ajQ (by rw [eX]; exact hX) (by rw [eY]; exact hY) hB' c1 c2 hz1 hz2 hp1 hp2;rw [eX, eY] at cut;refine ⟨Z1 ++ Z2, rfl, ?_⟩;rw [ar, ac.pu];refine ⟨cut, ?_⟩;rw [ij, List.append_assoc];rw [List.append_assoc] at h2;exact h2
      refine ah (XQ ..) ?_
      by_cases g1 : hf < X.length + E
      ·refine aa (bO (by omega)) ?_
       refine gs ?_
       by_cases g2 : E < Y.length
       ·refine aa (bO (by omega)) ?_
        refine gs ?_;have m := ih (A ++ pl Z1) B (X.drop S) (Y.drop E) (by omega) (by omega) (by omega) sX.2.1 sY.2.1 b22 (by rw [dh, cN]; omega);rw [dh, cN, lz, l2, l4, show A.length + (S + E) = A.length + hf from by omega, show A.length + hf + (X.length - S) = A.length + X.length + E from by omega, show A.length + X.length + E + (Y.length - E) = A.length + X.length + Y.length from by omega] at m
        have h2 : ac (ts 7 Pt.cells s ((A ++ pl Z1) ++ (pl (X.drop S) ++ (pl (Y.drop E) ++ B))) * R) H := by rw [List.append_assoc]; exact h1
        refine ag h2 m fun Z2 H3 h3 => ?_;rw [ar, ac.pu] at h3;exact aq (done Z2 H3 h3.1.1 h3.1.2 h3.2.to)
       ·refine aa (bu (by omega)) ?_
        refine gs ?_;have e0 : Y.drop E = [] := List.eq_nil_of_length_eq_zero (by omega);exact aq (done (X.drop S) H sX.2.1 (by rw [e0, List.append_nil]) (by rw [e0] at h1; rw [List.append_assoc]; exact h1))
      ·refine aa (bu (by omega)) ?_
       refine gs ?_;have e0 : X.drop S = [] := List.eq_nil_of_length_eq_zero (by omega);exact aq (done (Y.drop E) H sY.2.1 (by rw [e0, List.nil_append]) (by rw [e0] at h1; rw [List.append_assoc]; exact h1))
     -- the first halves
     have part1 : ∀ (H : AH), ac (ts 7 Pt.cells s (A ++ (pl (X.take S) ++ (pl (Y.take E) ++ (pl (X.drop S) ++ (pl (Y.drop E) ++ B))))) * R) H →
      wp (IF s (vi ((A.length : Nat) : Int)) (vi ((A.length + X.length + Y.length : Nat) : Int)) l6 (vi ((A.length + hf : Nat) : Int)) (vi ((A.length + S : Nat) : Int)) (vi ((A.length + X.length + E : Nat) : Int)) H)
       fun v' H' => ∃ Z : List TP, v' = .tuple #[] ∧ ac (pu (jH Z ∧ Z.Perm (X ++ Y)) * ts 7 Pt.cells s (A ++ (pl Z ++ B)) * R) H' := by
      intro H h1;refine ah (XP ..) ?_
      by_cases g1 : 0 < S
      ·refine aa (bO (by omega)) ?_
       refine gs ?_
       by_cases g2 : S < hf
       ·refine aa (bO (by omega)) ?_
        refine gs ?_;have m := ih A (pl (X.drop S) ++ (pl (Y.drop E) ++ B)) (X.take S) (Y.take E) (by omega) (by omega) (by omega) sX.1 sY.1 b11 (by omega);rw [l1, l3, show A.length + S + E = A.length + hf from by omega] at m;refine ag h1 m fun Z1 H3 h3 => ?_;rw [ar, ac.pu] at h3;exact part2 Z1 H3 h3.1.1 h3.1.2 h3.2.to
       ·refine aa (bu (by omega)) ?_
        refine gs ?_;have e0 : Y.take E = [] := List.eq_nil_of_length_eq_zero (by omega);exact part2 (X.take S) H sX.1 (by rw [e0, List.append_nil]) (by rw [e0] at h1; exact h1)
      ·refine aa (bu (by omega)) ?_
       refine gs ?_;have e0 : X.take S = [] := List.eq_nil_of_length_eq_zero (by omega);exact part2 (Y.take E) H sY.1 (by rw [e0, List.nil_append]) (by rw [e0] at h1; exact h1)
     have e3 : A ++ (pl X ++ (pl Y ++ B)) = (A ++ pl (X.take S)) ++ (pl (X.drop S) ++ (pl (Y.take E) ++ (pl (Y.drop E) ++ B))) := by
      have p1 : pl X = pl (X.take S) ++ pl (X.drop S) := by rw [← ij, eX]
      have p2 : pl Y = pl (Y.take E) ++ pl (Y.drop E) := by rw [← ij, eY]
      rw [p1, p2];simp only [List.append_assoc]
     rw [e3] at hh
     by_cases g1 : S < X.length
     ·refine aa (bO (by omega)) ?_
      refine gs ?_
      by_cases g2 : 0 < E
      ·refine aa (bO (by omega)) ?_
       refine gs ?_;have m := Pe s l6 (A ++ pl (X.take S)) (pl (X.drop S)) (pl (Y.take E)) (pl (Y.drop E) ++ B) (by rw [cN]; omega) (by rw [cN]; omega) (by rw [dh, cN, cN, cN]; omega);rw [dh, cN, cN, cN, l1, l2, l3, show A.length + S + (X.length - S) = A.length + X.length from by omega] at m;refine ag hh m fun _ H3 h3 => ?_;refine part1 H3 ?_
       have e4 : (A ++ pl (X.take S)) ++ (pl (Y.take E) ++ (pl (X.drop S) ++ (pl (Y.drop E) ++ B))) = A ++ (pl (X.take S) ++ (pl (Y.take E) ++ (pl (X.drop S) ++ (pl (Y.drop E) ++ B)))) := by simp only [List.append_assoc]
       rw [← e4];exact h3.to
      ·refine aa (bu (by omega)) ?_
       refine gs ?_;have e0 : Y.take E = [] := List.eq_nil_of_length_eq_zero (by omega);refine part1 H ?_;rw [e0] at hh ⊢
       simpa only [pl, List.map_nil, List.nil_append, List.append_assoc] using hh
     ·refine aa (bu (by omega)) ?_
      refine gs ?_;have e0 : X.drop S = [] := List.eq_nil_of_length_eq_zero (by omega);refine part1 H ?_;rw [e0] at hh ⊢
      simpa only [pl, List.map_nil, List.nil_append, List.append_assoc] using hh
    -- the search
    have bin : ∀ (lo hi : Nat), hi ≤ X.length → hi ≤ hf → hf - lo ≤ Y.length → (lo = 0 ∨ hf - lo = Y.length) → (hi = X.length ∨ hi = hf) →
     ∀ (d i j : Nat) (H : AH), j - i = d → lo ≤ i → i ≤ j → j ≤ hi →
     (LoP X Y hf i ∨ i = lo) →
     (HiP X Y hf j ∨ j = hi) →
     ac (ts 7 Pt.cells s (A ++ (pl X ++ (pl Y ++ B))) * R) H →
     wp (v5 s (vi ((A.length : Nat) : Int)) (vi ((A.length + X.length : Nat) : Int)) (vi ((A.length + X.length + Y.length : Nat) : Int)) l6 (vi ((A.length + hf : Nat) : Int)) (vi (((A.length + hf : Nat) : Int) + ((A.length + X.length : Nat) : Int))) (vi ((A.length + i : Nat) : Int)) (vi ((A.length + j : Nat) : Int)) (vi (((A.length + hf : Nat) : Int) + ((A.length + X.length : Nat) : Int) - 1)) H)
      fun v' H' => ∃ Z : List TP, v' = .tuple #[] ∧ ac (pu (jH Z ∧ Z.Perm (X ++ Y)) * ts 7 Pt.cells s (A ++ (pl Z ++ B)) * R) H' := by
     intro lo hi hhiX hhif hloY hlo0 hhi0 d
     induction d using Nat.strongRecOn with
     | ind d ihd =>
      intro i j H hd hli hij hjh hlow hhigh hh;refine ah (Ph ..) ?_
      by_cases hlt : i < j
      ·refine aa (bO (by omega)) ?_
       refine gs ?_;refine ah (Pj ..) ?_;refine Uj rfl rfl (by omega) ?_;rw [show (A.length + i + (A.length + j)) / 2 = A.length + (i + j) / 2 from by omega];refine aa (ba (by omega) (by omega)) ?_
       have hcX : (i + j) / 2 < X.length := by omega
       have hcY : hf - 1 - (i + j) / 2 < Y.length := by omega
       refine pz (i := A.length + X.length + (hf - 1 - (i + j) / 2)) (by omega) hh (alL A B X Y hcY rfl) ?_;refine pz (i := A.length + (i + j) / 2) rfl hh (alK A B X Y hcX rfl) ?_;refine Um hh fun H1 h1 => ?_
       by_cases hcmp : Y[hf - 1 - (i + j) / 2].2.step < X[(i + j) / 2].2.step
       ·refine aa (zK hcmp) ?_
        refine gs ?_;rw [Bool.not_true];refine gs ?_;exact ihd ((i + j) / 2 - i) (by omega) i ((i + j) / 2) H1 rfl hli (by omega) (by omega) hlow (.inl ⟨hcX, hcY, by omega, hcmp⟩) h1
       ·refine aa (zJ hcmp) ?_
        refine gs ?_;rw [Bool.not_false];refine gs ?_;refine aa (aB (by omega) (by omega)) ?_;rw [show ((A.length + (i + j) / 2 : Nat) : Int) + 1 = ((A.length + ((i + j) / 2 + 1) : Nat) : Int) from by omega];exact ihd (j - ((i + j) / 2 + 1)) (by omega) ((i + j) / 2 + 1) j H1 rfl (by omega) (by omega) hjh (.inl ⟨(i + j) / 2, rfl, hcX, hcY, by omega⟩) hhigh h1
      ·refine aa (bu (by omega)) ?_
       refine gs ?_
       have e : j = i := by omega
       subst e;refine ah (IA ..) ?_;refine rest j H (by omega) (by omega) (by omega) ?_ ?_ hh
       ·rcases hlow with h1 | h1
        ·exact .inl h1
        ·rcases hlo0 with h2 | h2
         ·exact .inr (.inl (by omega))
         ·exact .inr (.inr (by rw [h1]; exact h2))
       ·rcases hhigh with h1 | h1
        ·exact .inl h1
        ·rcases hhi0 with h2 | h2
         ·exact .inr (.inl (by omega))
         ·exact .inr (.inr (by omega))
    by_cases hmid : hf < X.length
    ·refine aa (nI (by omega)) ?_
     refine gs ?_;refine aa (ba (by omega) (by omega)) ?_;refine ah (FD ..) ?_;refine aa (ba (by omega) (by omega)) ?_;refine ah (FE ..) ?_;rw [show ((A.length + hf : Nat) : Int) + ((A.length + X.length : Nat) : Int) - ((A.length + X.length + Y.length : Nat) : Int) = ((A.length + (hf - Y.length) : Nat) : Int) from by omega];exact bin (hf - Y.length) hf (by omega) (bj _) (by omega) (.inr (by omega)) (.inr rfl) _ (hf - Y.length) hf H rfl (bj _) (by omega) (bj _) (.inr rfl) (.inr rfl) h
    ·refine aa (gh (by omega)) ?_
     refine gs ?_;refine ah (FD ..) ?_;refine aa (ba (by omega) (by omega)) ?_;refine ah (FE ..) ?_;have := bin 0 X.length (bj _) (by omega) (by omega) (.inl rfl) (.inl rfl) _ 0 X.length H rfl (bj _) (by omega) (bj _) (.inr rfl) (.inr rfl) h;rw [Nat.add_zero] at this;exact this
end Go.Proofs.YtghoamdlcjdfjaaGreatDoor.Gst
