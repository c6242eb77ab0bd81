/- Several texts in one. -/
import Derived.Test.YtghoamdlcjdfjaaGreatDoorOd
namespace Go.Proofs.YtghoamdlcjdfjaaGreatDoor.Gst
open Go Go.RowKit
set_option linter.unusedSimpArgs false
set_option linter.unusedVariables false
set_option maxHeartbeats 1000000
set_option synthInstance.maxSize 2000
set_option synthInstance.maxHeartbeats 400000
theorem ky {cl : TCls} {a b : Int} (h : b ≠ 0) : aj cl .rem (vi a) (vi b) = some (vi (a.tmod b)) := by
 simp only [aj, nP, if_true];rw [if_neg h]
theorem aoG {a b : Nat} : gk [vu a, vu b] = some (vu (max a b)) := by
 simp only [gk]
 congr 2
 split <;> omega
abbrev uJ (x : Ob) : List Value := [vi x.flow, vi x.most, vu x.r]
instance : Enc uJ 3 := ⟨fun _ => rfl, fun _ => rfl, by omega⟩
abbrev PZ (n : Nat) : List Value := [vu n]
instance : Enc PZ 1 := ⟨fun _ => rfl, fun _ => rfl, by omega⟩
def hZ : List (Int × Int) → Int → Int
 | [], _ => 0
 | p :: ps, who => if (ps.any fun q => q.1 == who) = true then hZ ps who else if p.1 = who then p.2 else 0
def fP (l : List (Int × Int)) : List Int := l.flatMap fun p => [p.1, p.2]
def HY (l : List (Int × Nat)) (k : Int) : Option Nat := (l.find? fun p => p.1 == k).map (·.2)
def xV (x : Pt) : List Pt → List Pt
 | [] => [x]
 | y :: l => if y.step ≤ x.step ∨ (l.any fun z => decide (z.step ≤ x.step)) = true then y :: xV x l else x :: y :: l
def bV (l : List Pt) : List Pt := l.foldl (fun acc x => xV x acc) []
def db (m i rp : Nat) (cs : List Pk) : SP := ex fun cv : Value => blk rp (.cells false [vp m, vi i, vi cs.length, cv]) * ts 3 Pk.cells cv cs
def jK (m : Nat) : Nat → List (Nat × List Pk) → SP
 | _, [] => emp
 | i, p :: ps => db m i p.1 p.2 * jK m (i + 1) ps
theorem OI (m : Nat) : ∀ (ps : List (Nat × List Pk)) (i : Nat) (q : Nat × List Pk), jK m i (ps ++ [q]) = jK m i ps * db m (i + ps.length) q.1 q.2 := by
 intro ps
 induction ps with
 | nil => intro i q; show db m i q.1 q.2 * emp = emp * db m (i + 0) q.1 q.2; rw [fA, ft]; rfl
 | cons p ps ih =>
  intro i q;show db m i p.1 p.2 * jK m (i + 1) (ps ++ [q]) = db m i p.1 p.2 * jK m (i + 1) ps * _;rw [ih, ai, List.length_cons, show i + 1 + ps.length = i + (ps.length + 1) from by omega]
def gW (ib m : Nat) (sh : Int) (nx : Int → Option Nat) (L : Nat) : SP := ex fun g : Value × Value × List (Int × Nat) =>
 pu ((∀ k, HY g.2.2 k = nx k) ∧ g.2.2.length ≤ L) * (blk ib (.cells false [vp m, vi sh, g.1, g.2.1]) * (ts 1 cr g.1 (g.2.2.map (·.1)) * ts 1 PZ g.2.1 (g.2.2.map (·.2))))
theorem pC {ib m : Nat} {sh : Int} {nx : Int → Option Nat} {L : Nat} {R : SP} {H : AH} (h : ac (gW ib m sh nx L * R) H) :
 ∃ (kv nv : Value) (ns : List (Int × Nat)), ((∀ k, HY ns k = nx k) ∧ ns.length ≤ L) ∧ ac (blk ib (.cells false [vp m, vi sh, kv, nv]) * (ts 1 cr kv (ns.map (·.1)) * (ts 1 PZ nv (ns.map (·.2)) * R))) H := by
 obtain ⟨⟨kv, nv, ns⟩, h1⟩ := ac.ex.1 h;rw [ai, ac.pu] at h1;exact ⟨kv, nv, ns, h1.1, h1.2.to⟩
theorem iU {ib m : Nat} {sh : Int} {nx : Int → Option Nat} {L : Nat} {R : SP} {H : AH} {kv nv : Value} {ns : List (Int × Nat)} (hn : (∀ k, HY ns k = nx k) ∧ ns.length ≤ L)
 (h : ac (blk ib (.cells false [vp m, vi sh, kv, nv]) * (ts 1 cr kv (ns.map (·.1)) * (ts 1 PZ nv (ns.map (·.2)) * R))) H) : ac (gW ib m sh nx L * R) H := by
 refine ac.ex.2 ⟨(kv, nv, ns), ?_⟩;rw [ai, ac.pu];exact ⟨hn, h.to⟩
theorem n7 {ib m : Nat} {sh : Int} {nx : Int → Option Nat} {L L' : Nat} {R : SP} {H : AH} (hL : L ≤ L') (h : ac (gW ib m sh nx L * R) H) : ac (gW ib m sh nx L' * R) H := by
 obtain ⟨g, h1⟩ := ac.ex.1 h;rw [ai, ac.pu] at h1;exact ac.ex.2 ⟨g, by rw [ai]; exact ac.pu.2 ⟨⟨h1.1.1, eA h1.1.2 hL⟩, h1.2⟩⟩
structure XIds where
 m : Nat
 ib : Nat
 tb : Nat
 po : Nat
 co : Nat
 ov : Value
 rv : Value
 rp : List Nat
 wv : Value
 ws : List (Int × Int)
 pv : Value
def au (x : Nat) (g : XIds) (σ : aM) : SP :=
 blk x (.cells false [vi σ.c.sh, vi σ.c.sl, vi σ.c.wk, vi σ.c.wd, vu σ.c.un, vp g.m, vp g.ib, vp g.tb, vp g.po, vp g.co, g.ov, g.rv, g.wv, g.pv]) *
 (bK g.m σ.μ * (gW g.ib g.m σ.c.sh σ.nx σ.μ.N * (tab g.tb g.m σ.c.sh.toNat σ.c.sl.toNat *
 (ts 3 uJ g.ov (σ.obs.map fun x => x.1) * (ts 1 nT g.rv g.rp * (jK g.m 0 (g.rp.zip (σ.obs.map fun x => x.2)) * (ts 1 cr g.wv (fP g.ws) * ts 7 Pt.cells g.pv (bV σ.pts))))))))
def e9 (g : XIds) (σ : aM) : Prop := g.rp.length = σ.obs.length ∧ (∀ k, hZ g.ws k = (σ.places k).getD 0) ∧ g.ws.length ≤ σ.μ.N
def aJ (x : Nat) (σ : aM) : SP := ex fun g : XIds => pu (e9 g σ) * au x g σ
theorem dW {p : Nat} {σ : aM} {R : SP} {H : AH} (h : ac (aJ p σ * R) H) : ∃ g : XIds, e9 g σ ∧ ac (au p g σ * R) H := by
 obtain ⟨g, h1⟩ := ac.ex.1 h;rw [ai, ac.pu] at h1;exact ⟨g, h1⟩
theorem cN {p : Nat} {σ : aM} {R : SP} {H : AH} (g : XIds) (hl : e9 g σ) (h : ac (au p g σ * R) H) : ac (aJ p σ * R) H :=
 ac.ex.2 ⟨g, by rw [ai]; exact ac.pu.2 ⟨hl, h⟩⟩
theorem Mq (m : Nat) (c : i5) (hc : cQ c = true) : Sp np [vp m, vi c.sh] emp (fun b : Nat => vp b) (fun b => blk b (.cells false [vp m, vi c.sh, .slice none 0 0, .slice none 0 0])) := by
 have hc := bL.1 hc;refine bh (Dj _ _) fun R H h => ?_;refine aa (gL) ?_;refine aa (lN) ?_;rw [show min (max c.sh 1) 4 = c.sh from by omega];refine jc ?_;refine ba h fun b H3 h3 => ?_;exact am ⟨b, rfl, h3.to⟩
theorem Ms (m : Nat) (c : i5) (hc : cQ c = true) : Sp nr [vp m, vi c.sh, vi c.sl] emp (fun b : Nat => vp b) (fun b => tab b m c.sh.toNat c.sl.toNat) := by
 have hc := bL.1 hc;refine bh (Dl _ _ _) fun R H h => ?_;refine aa (gL) ?_;refine aa (lN) ?_;refine aa (gL) ?_;refine aa (lN) ?_;rw [show min (max c.sh 1) 4 = ((c.sh.toNat : Nat) : Int) from by omega, show min (max c.sl 1) 4 = ((c.sl.toNat : Nat) : Int) from by omega];refine jc ?_;refine ba h fun b H3 h3 => ?_;exact am ⟨b, rfl, by unfold tab; exact h3.to⟩
theorem Ox (m : Nat) (w : Int) : Sp oV [vp m, vi w] emp (fun b : Nat => vp b) (fun _ => emp) := by
 refine bh (GF _ _) fun R H h => ?_;refine aa (gL) ?_;refine aa (lN) ?_;refine jc ?_;refine ba h fun b H3 h3 => ?_;exact am ⟨b, rfl, h3.to⟩
theorem Zx (w : Int) : Sp sM [vi w] emp (fun x : Int => vi x) (fun _ => emp) := by
 refine bh (Mi _) fun R H h => ?_;refine aa (gL) ?_;refine aa (lN) ?_;exact am ⟨_, rfl, h⟩
theorem Mj (n w : Int) : Sp ag1 [vi n, vi w] emp (fun b : Nat => vp b) (fun _ => emp) := by
 refine bh (ap3 _ _) fun R H h => ?_;refine jc ?_;refine ba h fun q H2 h2 => ?_;refine ah (ZF _ _ _ _ H2) ?_;refine ah (ZH _ _ _ _ _ H2) ?_;obtain ⟨k, hk⟩ : ∃ k : Nat, min (max n 1) 16 = k := ⟨(min (max n 1) 16).toNat, by omega⟩
 have hk16 : k ≤ 16 := by omega
 have loop : ∀ (d i : Nat) (nv : Value) (m : List Nat) (H : AH), i + d = k → m.length = i → ac (blk q (.cells false [nv]) * ts 1 nT nv m * R) H → wp (Mv (vi n) (vi w) (.pointer none) (vp q) (vi i) H) fun v' H' => ∃ b : Nat, v' = vp b ∧ ac (emp * R) H' := by
  intro d
  induction d with
  | zero =>
   intro i nv m H hi hm h;refine ah (Jt _ _ _ _ _ H) ?_;refine aa (gL) ?_;refine aa (lN) ?_;refine aa (bP (by omega)) ?_;refine gs ?_;refine ah (OB _ _ H) ?_;refine ah (ZG _ _ H) ?_;exact am ⟨q, rfl, h.to⟩
  | succ d ih =>
   intro i nv m H hi hm h;refine ah (Jt _ _ _ _ _ H) ?_;refine aa (gL) ?_;refine aa (lN) ?_;refine aa (cE (by omega)) ?_;refine gs ?_;refine ah (ZI _ _ _ _ _ H) ?_;refine bC ae ?_;refine aV h rfl ?_;refine af h (Zx w) fun x H3 h3 => ?_;refine aI h3 h rfl ?_;refine jc ?_;refine ba h3 fun sb H3b h3b => ?_;refine MS h3b fun b0 H4 h4 => ?_;refine f5 (sb : Nat) h4 rfl ?_ (by omega) fun a c H5 h5 => ?_
   ·unfold room; omega
   refine bk h5 ae rfl rfl fun H6 h6 => ?_;refine ah (ZJ _ _ _ _ _ H6) ?_;refine aa (aS (by omega) (by omega)) ?_;exact ih (i + 1) (.slice a (m.length + 1) c) (m ++ [sb]) H6 (by omega) (by simp; omega) h6.to
 refine loop k 0 (.slice none 0 0) [] H2 (by omega) rfl ?_;have h3 := dL 1 nT h2;exact h3.to
theorem Ow (c : i5) : Sp oU [.agg (i5.cells c).toArray] emp (fun b : Nat => vp b) (fun _ => emp) := by
 refine bh (GE _) fun R H h => ?_;refine ba h fun cb H1 h1 => ?_;refine ak h1 aD rfl ?_;refine ak h1 aD rfl ?_;refine af h1 (Mj c.sh c.wd) fun q H2 h2 => ?_;refine jc ?_;refine ba h2 fun b H5 h5 => ?_;exact am ⟨b, rfl, h5.to⟩
theorem agW {b : Nat} {R : SP} {H : AH} (h : ac (blk b (.cells false [.slice none 0 0, .slice none 0 0, .slice none 0 0]) * R) H) : ac (bK b ⟨fun _ => 0, [], 0⟩ * R) H := by
 refine ac.ex.2 ⟨[], ?_⟩;rw [ai, ac.pu];refine ⟨⟨fun _ => rfl, bv _⟩, ac.ex.2 ⟨(.slice none 0 0, .slice none 0 0, .slice none 0 0), ?_⟩⟩;have h1 := dL 3 Kg (dL 1 ND (dL 5 Ev.cells h));exact h1.to
theorem Mr (c : i5) (hc : cQ c = true) : Sp nq [.agg (i5.cells c).toArray] emp (fun b : Nat => vp b) (fun b => aJ b (aM.new c)) := by
 refine bh (Dk _) fun R H h => ?_;refine ba h fun cb H1 h1 => ?_;refine jc ?_;refine ba h1 fun m H2 h2 => ?_;refine aZ h2 ?_;refine ak h2 aD rfl ?_;refine af h2 (Mq m c hc) fun ib H3 h3 => ?_;refine dX h3 h2 rfl ?_;refine bC aD ?_;refine aV h3 rfl ?_;refine aI h2 h3 rfl ?_;refine bC aD ?_;refine aV h3 rfl ?_;refine aI h2 h3 rfl ?_;refine af h3 (Ms m c hc) fun tb H4 h4 => ?_;refine dX h4 h2 rfl ?_;refine bC aD ?_;refine aV h4 rfl ?_;refine aI h2 h4 rfl ?_;refine aI h3 h4 rfl ?_;refine af h4 (Ox m c.wk) fun pb H5 h5 => ?_;refine dX h5 h2 rfl ?_;refine aZ h5 ?_;refine dX h2 h5 rfl ?_;refine dX h3 h5 rfl ?_;refine dX h4 h5 rfl ?_;refine af h5 (Ow c) fun kb H6 h6 => ?_;refine dX h6 h2 rfl ?_;refine jc ?_;refine ba h6 fun b H7 h7 => ?_;refine am ⟨b, rfl, ?_⟩;refine cN ⟨m, ib, tb, pb, kb, .slice none 0 0, .slice none 0 0, [], .slice none 0 0, [], .slice none 0 0⟩ ⟨rfl, fun _ => rfl, bv _⟩ ?_;have h8 := agW (b := m) (R := blk b (.cells false [vi c.sh, vi c.sl, vi c.wk, vi c.wd, vu c.un, vp m, vp ib, vp tb, vp pb, vp kb, .slice none 0 0, .slice none 0 0, .slice none 0 0, .slice none 0 0]) * (tab tb m c.sh.toNat c.sl.toNat * (blk ib (.cells false [vp m, vi c.sh, .slice none 0 0, .slice none 0 0]) * R))) (ac.to h7);have h8a := dL 1 cr (dL 1 PZ h8);have h8b := iU (ib := ib) (m := m) (sh := c.sh) (nx := fun _ => none) (L := 0) (kv := .slice none 0 0) (nv := .slice none 0 0) (ns := []) (R := bK m ⟨fun _ => 0, [], 0⟩ * (blk b (.cells false [vi c.sh, vi c.sl, vi c.wk, vi c.wd, vu c.un, vp m, vp ib, vp tb, vp pb, vp kb, .slice none 0 0, .slice none 0 0, .slice none 0 0, .slice none 0 0]) * (tab tb m c.sh.toNat c.sl.toNat * R))) (H := H7) ⟨fun _ => rfl, bv _⟩ (show ac (blk ib (.cells false [vp m, vi c.sh, .slice none 0 0, .slice none 0 0]) * (ts 1 cr (.slice none 0 0) [] * (ts 1 PZ (.slice none 0 0) [] * (bK m ⟨fun _ => 0, [], 0⟩ * (blk b (.cells false [vi c.sh, vi c.sl, vi c.wk, vi c.wd, vu c.un, vp m, vp ib, vp tb, vp pb, vp kb, .slice none 0 0, .slice none 0 0, .slice none 0 0, .slice none 0 0]) * (tab tb m c.sh.toNat c.sl.toNat * R)))))) H7 from h8a.to);have h9 := dL 3 uJ (dL 1 nT (dL 1 cr (dL 7 Pt.cells h8b)));unfold au
 show ac (blk b (.cells false [vi c.sh, vi c.sl, vi c.wk, vi c.wd, vu c.un, vp m, vp ib, vp tb, vp pb, vp kb, .slice none 0 0, .slice none 0 0, .slice none 0 0, .slice none 0 0]) * (bK m ⟨fun _ => 0, [], 0⟩ * (gW ib m c.sh (fun _ => none) 0 * (tab tb m c.sh.toNat c.sl.toNat *
  (ts 3 uJ (.slice none 0 0) [] * (ts 1 nT (.slice none 0 0) [] * (emp * (ts 1 cr (.slice none 0 0) [] * ts 7 Pt.cells (.slice none 0 0) [])))))))  * R) H7
 exact h9.to
theorem Mg {cl : TCls} {a b : Int} (h : b ≠ 0) (h0 : -9223372036854775808 ≤ a.tdiv b) (h1 : a.tdiv b < 9223372036854775808) : aj cl .quo (vi a) (vi b) = some (vi (a.tdiv b)) := by
 simp only [aj, nP, if_true];rw [if_neg h, pY h0 h1]
theorem yl {m : Nat} {V : cA → Nat} {E : List Ev} {N N' : Nat} {R : SP} {H : AH} (hN : N ≤ N') (h : ac (bK m ⟨V, E, N⟩ * R) H) : ac (bK m ⟨V, E, N'⟩ * R) H := by
 obtain ⟨al, h1⟩ := ac.ex.1 h;rw [ai, ac.pu] at h1;exact ac.ex.2 ⟨al, by rw [ai]; exact ac.pu.2 ⟨⟨h1.1.1, eA h1.1.2 hN⟩, h1.2⟩⟩
def cG (flow : Int) (obj : Nat) : Nat := (flow + 1).toNat * 4294967296 + obj
section
variable (t m : Nat) (sh sl : Nat) (μ : Mu) (who s i flow : Int) (obj : Nat)
theorem JP (hE : μ.N < 1099511627000) (hf : 0 ≤ flow ∧ flow ≤ 1048576) (ho : obj < 4294967296) :
 Sp gv [vp t, vi who, vi s, vi i, vi flow, vi obj] (tab t m sh sl * bF m μ) (fun _ : Unit => vb true) (fun _ => tab t m sh sl * bF m ((μ.acc who 2 (10, s, i)).put (10, s, i) (cG flow obj))) := by
 refine bh (wF _ _ _ _ _ _) fun R H h => ?_;unfold tab at h ⊢;refine aa (bP (by omega)) ?_;refine gs ?_;refine aa (fV ?_) ?_
 ·omega
 refine gs ?_;refine aa (bP ?_) ?_
 ·omega
 refine gs ?_;refine aa (il ?_) ?_
 ·omega
 refine gs ?_;refine bC ae ?_;refine aV h rfl ?_;refine af h (wH s i) fun _ H1 h1 => ?_;refine aI h1 h rfl ?_;refine aa (aS (by omega) (by omega)) ?_;refine aa (ej (by omega) (by omega)) ?_
 have hn : (flow + 1).toNat ≤ 1048577 := by omega
 have e1 : aj .other .shl (vu (flow + 1).toNat) (vw 32) = some (vu ((flow + 1).toNat * 4294967296)) := by
  have := IG (cl := .other) (a := (flow + 1).toNat) (k := .u64) (n := 32) (by omega);simp only [Nat.reducePow] at this;rw [Nat.mod_eq_of_lt (by omega)] at this;exact this
 refine aa (e1) ?_;refine aa (ej (by omega) (by omega)) ?_;rw [show ((obj : Nat) : Int).toNat = obj from xS obj]
 have e2 : aj .other .or (vu ((flow + 1).toNat * 4294967296)) (vu obj) = some (vu (cG flow obj)) := by
  rw [abT (by omega) (by omega)]
  congr 3
  have := Nat.two_pow_add_eq_or_of_lt (i := 32) (b := obj) (by simp only [Nat.reducePow]; omega) (flow + 1).toNat;simp only [Nat.reducePow] at this;rw [cG, Nat.mul_comm, ← this]
 refine aa (e2) ?_;refine af h1 (D7 m μ who (10, s, i) (cG flow obj) (by omega)) fun _ H2 h2 => ?_;exact am ⟨(), rfl, h2.to⟩
theorem VM (hE : μ.N < 1099511627000) (hf : 0 ≤ flow ∧ flow ≤ 1048576) (ho : obj < 4294967296) :
 Sp iP [vp t, vi who, vi s, vi i, vi flow, vi obj] (tab t m sh sl * bK m μ) (fun _ : Unit => vb true) (fun _ => tab t m sh sl * bK m ((μ.acc who 2 (10, s, i)).put (10, s, i) (cG flow obj))) := by
 refine bh (A5 _ _ _ _ _ _) fun R H h => ?_;unfold tab at h ⊢;refine aa (bP (by omega)) ?_;refine gs ?_;refine aa (fV ?_) ?_
 ·omega
 refine gs ?_;refine aa (bP ?_) ?_
 ·omega
 refine gs ?_;refine aa (ej (by omega) (by omega)) ?_;rw [show ((obj : Nat) : Int).toNat = obj from xS obj];refine gs ?_;refine aa (il ?_) ?_
 ·omega
 refine gs ?_;refine bC ae ?_;refine aV h rfl ?_;refine af h (dG 10 s i) fun _ H1 h1 => ?_;refine aI h1 h rfl ?_;refine aa (aS (by omega) (by omega)) ?_;refine aa (ej (by omega) (by omega)) ?_
 have hn : (flow + 1).toNat ≤ 1048577 := by omega
 refine aa (arP) ?_;rw [Nat.mod_eq_of_lt (by omega)];refine aa (ej (by omega) (by omega)) ?_;rw [show ((obj : Nat) : Int).toNat = obj from xS obj];refine aa (gh (by omega)) ?_;refine af h1 (uh m μ who (10, s, i) (cG flow obj) (by omega)) fun _ H2 h2 => ?_;exact am ⟨(), rfl, h2.to⟩
end
section
variable (p : Nat) (σ : aM)
theorem ZW (m i : Nat) (most : Int) : Sp oW [vp m, vi i, vi most] emp (fun b : Nat => vp b) (fun b => db m i b (List.replicate (dv most) HH)) := by
 obtain ⟨q1, q2, q3⟩ := ua most;refine bh (GH _ _ _) fun R H h => ?_;refine aa (gL) ?_;refine aa (lN) ?_;rw [← q3];refine MT (enc := Pk.cells) HH h rfl (by unfold room; omega) (by omega) fun cb H1 h1 => ?_;refine jc ?_;refine ba h1 fun b H2 h2 => ?_;refine am ⟨b, rfl, ?_⟩;unfold db;refine ac.ex.2 ⟨vs cb (dv most) 3, ?_⟩;rw [List.length_replicate];exact h2.to
theorem aoF (who : Int) (o : Ob) (hE : σ.μ.N < 1099511627000) (ho : σ.obs.length < 1000000) : Sp g9 [vp p, vi who, .agg [vi o.flow, vi o.most, vu o.r].toArray] (aJ p σ) (fun _ : Unit => vi σ.obs.length) (fun _ => aJ p (σ.make who o)) := by
 refine aO fun R H h => ?_;obtain ⟨g, ⟨hg, hg2⟩, h0⟩ := dW h;unfold au at h0;refine bm (fun r => za _ _ _ H) ?_;refine ba (l := [vi o.flow, vi o.most, vu o.r]) h0 fun ob H1 h1 => ?_;refine ak h1 ae rfl ?_;refine tu (s := g.ov) h1 ?_;rw [us];refine bC ae ?_;refine aV h1 rfl ?_;refine af h1 (dG 13 σ.obs.length 0) fun _ H2 h2 => ?_;refine aI h2 h1 rfl ?_;refine af h2 ((aaX g.m σ.μ who 6 (13, σ.obs.length, 0) (by omega)).imp fun _ R H h => yl (N' := σ.μ.N + 2) (by simp) h) fun _ H3 h3 => ?_;refine ak h3 ae rfl ?_;refine aZ h3 ?_;refine MS h3 fun b0 H4 h4 => ?_;refine f5 (o : Ob) h4 rfl ?_ (by omega) fun a cc H5 h5 => ?_
 ·unfold room; simp only [us]; omega
 refine bC ae ?_;refine aV h5 rfl ?_;refine aI h4 h5 rfl ?_;refine bC ae ?_;refine aV h5 rfl ?_;refine aI h4 h5 rfl ?_;refine bC aD ?_;refine aV h5 rfl ?_;refine aI h4 h5 rfl ?_;refine af h5 (ZW g.m σ.obs.length o.most) fun rb H6 h6 => ?_;refine aI h6 h5 rfl ?_;refine MS h6 fun b1 H7 h7 => ?_;refine f5 (rb : Nat) h7 rfl ?_ (by omega) fun a2 c2 H8 h8 => ?_
 ·unfold room; omega
 refine bk h8 ae rfl rfl fun H9 h9 => ?_;refine bk h9 ae rfl rfl fun H10 h10 => ?_;refine am ⟨(), rfl, ?_⟩;refine cN { g with ov := .slice a ((σ.obs.map fun x => x.1).length + 1) cc, rv := .slice a2 (g.rp.length + 1) c2, rp := g.rp ++ [rb] } ⟨by simp [aM.make, hg], hg2.1, eA hg2.2 (by simp [aM.make])⟩ ?_;unfold au aM.make;dsimp only
 have e2 : (g.rp ++ [rb]).zip ((σ.obs ++ [(o, List.replicate (dv o.most) HH)]).map fun x => x.2) = (g.rp.zip (σ.obs.map fun x => x.2)) ++ [(rb, List.replicate (dv o.most) HH)] := by
  rw [HV, List.zip_append (by simp [hg])]
  rfl
 have e1 : (σ.obs ++ [(o, List.replicate (dv o.most) HH)]).map (fun x => x.1) = (σ.obs.map fun x => x.1) ++ [o] := by rw [HV]; rfl
 have e3 : 0 + (g.rp.zip (σ.obs.map fun x => x.2)).length = σ.obs.length := by simp [hg]
 rw [e1, e2, OI, e3];dsimp only;have h11 := n7 (L' := σ.μ.N + 2) (by omega) (ac.fr (A := gW g.ib g.m σ.c.sh σ.nx σ.μ.N) h10);exact h11.to
theorem BN (u : Nat) (w : Int) (hu : 1 ≤ u ∧ u ≤ 4611686018427387904) (hw : 1 ≤ w ∧ w ≤ 65536) : Sp kG [vu u, vi w] emp (fun _ : Unit => .tuple #[vu (max (u / w.toNat) 1), vb true]) (fun _ => emp) := by
 refine bh (Ge _ _) fun R H h => ?_;refine aa (bP (by omega)) ?_;refine gs ?_;refine aa (fV ?_) ?_
 ·omega
 refine gs ?_;refine aa (bP ?_) ?_
 ·omega
 refine gs ?_;refine aa (fV ?_) ?_
 ·omega
 refine gs ?_;refine aa (ej (by omega) (by omega)) ?_;refine aa (zQ (by omega) (by omega)) ?_;refine aa (aoG (b := 1)) ?_;exact am ⟨(), rfl, h.to⟩
abbrev aM.lay (σ : aM) (f w most : Int) : aM :=
 { σ.make 0 ⟨f, most, max (σ.c.un / w.toNat) 1⟩ with
  μ := ((σ.make 0 ⟨f, most, max (σ.c.un / w.toNat) 1⟩).μ.acc 0 2 (10, f.tmod σ.c.sh, f.tdiv σ.c.sh)).put (10, f.tmod σ.c.sh, f.tdiv σ.c.sh) (cG f σ.obs.length) }
theorem amK (x : Nat) (f w most : Int) (hc : cQ σ.c = true) (hE : σ.μ.N < 1099511620000) (ho : σ.obs.length < 1000000) (hf : 0 ≤ f ∧ f ≤ 1048576) (hw : 1 ≤ w ∧ w ≤ 65536) :
 Sp ng [.agg [vp p, vp x].toArray, vi f, vi w, vi most] (gl p σ * aJ x σ) (fun _ : Unit => vb true) (fun _ => gl p (σ.lay f w most) * aJ x (σ.lay f w most)) := by
 have hr := bL.1 hc;have q0 : 0 ≤ f.tdiv σ.c.sh := Int.tdiv_nonneg hf.1 (by omega);have q1 : f.tdiv σ.c.sh ≤ f := Int.tdiv_le_self _ hf.1;refine bh (Cp _ _ _ _) fun R H h => ?_;refine ba (l := [vp p, vp x]) h fun b H1 h1 => ?_;refine ak h1 aD rfl ?_;obtain ⟨g, hg, k1⟩ := dW (p := x) (σ := σ) (R := blk b (.cells false [vp p, vp x]) * (gl p σ * R)) (H := H1) h1.to;unfold au at k1;refine JT k1 ae ?_;refine br h1 fun b2 H2 h2 => ?_;refine fi h2 rfl rfl fun H3 h3 => ?_;refine ak h3 aD rfl ?_;refine af h3 (BN σ.c.un w ⟨by omega, by omega⟩ hw) fun _ H4 h4 => ?_;refine aa (v := vu (max (σ.c.un / w.toNat) 1)) rfl ?_;refine aa (v := vb true) rfl ?_;refine jc ?_;refine br h4 fun b3 H5 h5 => ?_;refine fi h5 rfl rfl fun H6 h6 => ?_;refine ak h6 aD rfl ?_;refine aZ h6 ?_;refine af h6 (Rw p σ 0 ⟨f, most, max (σ.c.un / w.toNat) 1⟩ (by omega) ho) fun _ H7 h7 => ?_;refine bC aD ?_;refine aV h7 rfl ?_;refine aI h6 h7 rfl ?_;refine aZ h7 ?_;refine dX h6 h7 rfl ?_;refine af h7 (aoF x σ 0 ⟨f, most, max (σ.c.un / w.toNat) 1⟩ (by omega) ho) fun _ H8 h8 => ?_;refine aa (bg rfl) ?_;refine gs ?_;refine ak h8 aD rfl ?_;obtain ⟨gp, hgp, k8⟩ := ou (p := p) (σ := σ.make 0 ⟨f, most, max (σ.c.un / w.toNat) 1⟩) (R := blk b (.cells false [vp p, vp x]) * (blk b2 (.cells false (i5.cells σ.c)) * (aJ x (σ.make 0 ⟨f, most, max (σ.c.un / w.toNat) 1⟩) * R))) (H := H8) h8.to;unfold aA at k8;refine gs ?_;refine ak k8 ae rfl ?_;refine gs ?_;refine ak k8 aD rfl ?_;refine gs ?_;refine aa (ky (by omega)) ?_;refine gs ?_;refine ak k8 aD rfl ?_;refine gs ?_;refine aa (Mg (by omega) (by omega) (by omega)) ?_;refine gs ?_;refine af k8 (JP gp.tb gp.m σ.c.sh.toNat σ.c.sl.toNat (σ.make 0 ⟨f, most, max (σ.c.un / w.toNat) 1⟩).μ 0 (f.tmod σ.c.sh) (f.tdiv σ.c.sh) f σ.obs.length (by simp [aM.make]; omega) hf (by omega)) fun _ H9 k9 => ?_
 have h9 : ac (gl p (σ.lay f w most) * (blk b (.cells false [vp p, vp x]) * (blk b2 (.cells false (i5.cells σ.c)) * (aJ x (σ.make 0 ⟨f, most, max (σ.c.un / w.toNat) 1⟩) * R)))) H9 := by
  refine qA gp hgp ?_;unfold aA;exact k9.to
 refine gs ?_;refine ak h9 aD rfl ?_;obtain ⟨gx, hgx, l9⟩ := dW (p := x) (σ := σ.make 0 ⟨f, most, max (σ.c.un / w.toNat) 1⟩) (R := blk b (.cells false [vp p, vp x]) * (blk b2 (.cells false (i5.cells σ.c)) * (gl p (σ.lay f w most) * R))) (H := H9) h9.to;unfold au at l9;refine gs ?_;refine ak l9 ae rfl ?_;refine gs ?_;refine ak l9 aD rfl ?_;refine gs ?_;refine aa (ky (by omega)) ?_;refine gs ?_;refine ak l9 aD rfl ?_;refine gs ?_;refine aa (Mg (by omega) (by omega) (by omega)) ?_;refine gs ?_;refine af l9 (VM gx.tb gx.m σ.c.sh.toNat σ.c.sl.toNat (σ.make 0 ⟨f, most, max (σ.c.un / w.toNat) 1⟩).μ 0 (f.tmod σ.c.sh) (f.tdiv σ.c.sh) f σ.obs.length (by simp [aM.make]; omega) hf (by omega)) fun _ H10 l10 => ?_
 have h10 : ac (aJ x (σ.lay f w most) * (blk b (.cells false [vp p, vp x]) * (blk b2 (.cells false (i5.cells σ.c)) * (gl p (σ.lay f w most) * R)))) H10 := by
  refine cN gx ⟨hgx.1, hgx.2.1, eA hgx.2.2 (by simp [aM.lay, aM.make])⟩ ?_;unfold au;have l11 := n7 (L' := σ.μ.N + 2 + 2) (by omega) (ac.fr (A := gW gx.ib gx.m σ.c.sh σ.nx (σ.μ.N + 2)) l10);exact l11.to
 refine gs ?_;exact am ⟨(), rfl, h10.to⟩
end
def aM.made (c : i5) : Nat → aM
 | 0 => aM.new c
 | f + 1 => if (f : Int).tdiv c.sh < c.sl then (aM.made c f).lay f (1 + f) (2 + (f : Int).tmod 2) else aM.made c f
theorem Re (c : i5) : ∀ n, (aM.made c n).c = c ∧ (aM.made c n).μ.N ≤ 4 * n ∧ (aM.made c n).obs.length ≤ n := by
 intro n
 induction n with
 | zero => exact ⟨rfl, bv _, bv _⟩
 | succ n ih =>
  obtain ⟨h1, h2, h3⟩ := ih;unfold aM.made
  split
  ·refine ⟨h1, ?_, ?_⟩
   ·simp [aM.lay, aM.make]; omega
   ·simp [aM.lay, aM.make]; omega
  ·exact ⟨h1, by omega, by omega⟩
theorem vW (b : Nat) : aj .ptr .eql (vp b) (.pointer none) = some (vb false) := rfl
theorem agM (c0 : i5) (n : Nat) (hn : n ≤ 16) : Sp vK [.agg (i5.cells c0).toArray, vi n] emp (fun g : Nat × Nat × i5 => .tuple #[.agg [vp g.1, vp g.2.1].toArray, vb true])
 (fun g => pu (cQ g.2.2 = true) * (gl g.1 (aM.made g.2.2 n) * aJ g.2.1 (aM.made g.2.2 n))) := by
 refine bh (N2 _ _) fun R H h => ?_;refine ba h fun b H1 h1 => ?_;refine br h1 fun b2 H2 h2 => ?_;refine aZ h2 ?_;refine af h2 (Ol c0) fun c H3 h3 => ?_;rw [ac.pu] at h3;obtain ⟨hc, h3⟩ := h3;refine fi h3 rfl rfl fun H4 h4 => ?_;refine aZ h4 ?_;refine af h4 (Rx c hc) fun p H5 h5 => ?_;refine aa (v := vp p) rfl ?_;refine aa (v := vi 0) rfl ?_;refine aa (BJ rfl) ?_;refine gs ?_;refine aa (vW _) ?_;refine gs ?_;obtain ⟨g, hg, k5⟩ := ou (p := p) (σ := aM.new c) (R := blk b2 (.cells false [.pointer none, .pointer none]) * (blk b (.cells false (i5.cells c)) * R)) (H := H5) h5.to;unfold aA at k5;refine ak k5 ae rfl ?_;refine gs ?_;refine aa (vW _) ?_;refine gs ?_;refine ak k5 ae rfl ?_;refine gs ?_;refine aa (vW _) ?_;refine gs ?_;refine ak k5 ae rfl ?_;refine gs ?_;refine aa (vW _) ?_;refine gs ?_;refine ak k5 ae rfl ?_;refine gs ?_;refine aa (vW _) ?_;refine gs ?_;refine ak k5 ae rfl ?_;refine gs ?_;refine aa (vW _) ?_;refine gs ?_;refine aZ h5 ?_;refine af h5 (Mr c hc) fun x H6 h6 => ?_;refine jc ?_;refine br h6 fun b3 H7 h7 => ?_;refine fi h7 rfl rfl fun H8 h8 => ?_;refine ah (FP _ _ _ _ _ H8) ?_;refine ah (FR _ _ _ _ _ _ H8) ?_;have hr := bL.1 hc;have loop : ∀ (d i : Nat) (H : AH), i + d = n → ac (blk b3 (.cells false [vp p, vp x]) * (blk b2 (.cells false [.pointer none, .pointer none]) * (blk b (.cells false (i5.cells c)) * (gl p (aM.made c i) * (aJ x (aM.made c i) * R))))) H →
  wp (n8 (vi n) (vp b) (vp b2) (vb false) (vp b3) (vi i) H) fun v' H' => ∃ g : Nat × Nat × i5, v' = .tuple #[.agg [vp g.1, vp g.2.1].toArray, vb true] ∧ ac (pu (cQ g.2.2 = true) * (gl g.1 (aM.made g.2.2 n) * aJ g.2.1 (aM.made g.2.2 n)) * R) H' := by
  intro d
  induction d with
  | zero =>
   intro i H hi h;refine ah (sy _ _ _ _ _ _ H) ?_;refine aa (bP (by omega)) ?_;refine gs ?_;refine ah (Af _ _ _ H) ?_;refine ah (FQ _ _ _ H) ?_;refine aZ h ?_;refine fi h rfl rfl fun H2 h2 => ?_;refine aZ h2 ?_;refine am ⟨(p, x, c), rfl, ?_⟩;rw [ai, ac.pu]
   have e : i = n := by omega
   subst e;exact ⟨hc, h2.to⟩
  | succ d ih =>
   intro i H hi h;obtain ⟨m1, m2, m3⟩ := Re c i;have q0 : 0 ≤ (i : Int).tdiv c.sh := Int.tdiv_nonneg (by omega) (by omega);have q1 : (i : Int).tdiv c.sh ≤ i := Int.tdiv_le_self _ (by omega);have t0 : 0 ≤ (i : Int).tmod 2 := Int.tmod_nonneg _ (by omega);have t1 : (i : Int).tmod 2 < 2 := Int.tmod_lt_of_pos _ (by omega);have next : ∀ {H : AH}, ac (blk b3 (.cells false [vp p, vp x]) * (blk b2 (.cells false [.pointer none, .pointer none]) * (blk b (.cells false (i5.cells c)) * (gl p (aM.made c (i + 1)) * (aJ x (aM.made c (i + 1)) * R))))) H →
    wp (sA (vi n) (vp b) (vp b2) (vb false) (vp b3) (vi i) H) fun v' H' => ∃ g : Nat × Nat × i5, v' = .tuple #[.agg [vp g.1, vp g.2.1].toArray, vb true] ∧ ac (pu (cQ g.2.2 = true) * (gl g.1 (aM.made g.2.2 n) * aJ g.2.1 (aM.made g.2.2 n)) * R) H' := by
    intro H h;refine ah (FT _ _ _ _ _ _ H) ?_;refine aa (aS (by omega) (by omega)) ?_;exact ih (i + 1) H (by omega) h
   refine ah (sy _ _ _ _ _ _ H) ?_;refine aa (cE (by omega)) ?_;refine gs ?_;refine ah (FS _ _ _ _ _ _ H) ?_;refine ak h aD rfl ?_;refine aa (Mg (by omega) (by omega) (by omega)) ?_;refine ak h aD rfl ?_
   by_cases hf : (i : Int).tdiv c.sh < c.sl
   ·have e : aM.made c (i + 1) = (aM.made c i).lay i (1 + i) (2 + (i : Int).tmod 2) := by show (if _ then _ else _) = _; rw [if_pos hf]
    rw [e] at next;refine aa (cE hf) ?_;refine gs ?_;refine aZ h ?_;refine gs ?_;refine aa (aS (by omega) (by omega)) ?_;refine gs ?_;refine aa (ky (by omega)) ?_;refine gs ?_;refine aa (aS (by omega) (by omega)) ?_;refine gs ?_;refine af h (amK p (aM.made c i) x i (1 + i) (2 + (i : Int).tmod 2) (by rw [m1]; exact hc) (by omega) (by omega) (by omega) (by omega)) fun _ H2 h2 => ?_;refine gs ?_;rw [Bool.not_true];refine gs ?_;exact next h2.to
   ·have e : aM.made c (i + 1) = aM.made c i := by show (if _ then _ else _) = _; rw [if_neg hf]
    rw [e] at next;refine aa (bP hf) ?_;refine gs ?_;exact next h
 exact loop n 0 H8 (by omega) (show ac (blk b3 (.cells false [vp p, vp x]) * (blk b2 (.cells false [.pointer none, .pointer none]) * (blk b (.cells false (i5.cells c)) * (gl p (aM.new c) * (aJ x (aM.new c) * R))))) H8 from h8.to)
theorem O4 {o : Nat} {x : Value} {k : Value → OV} {Q : Value → AH → Prop} (h : wp (k undef) Q) : wp (LQ (vb false) true [.n, .f o] x k) Q := h
theorem pX {p : List Stp} {x : Value} {k : Value → OV} {Q : Value → AH → Prop} (h : wp (ad p x k) Q) : wp (LQ (vb true) true p x k) Q := by rw [Q5]; exact h
section
variable {m i rp : Nat} {cs : List Pk} {R : SP} {H : AH}
theorem cI (h : ac (cF m i rp cs * R) H) : ∃ cv, ac (blk rp (.cells false [vp m, vi i, cv]) * (ts 3 Pk.cells cv cs * R)) H := by
 obtain ⟨cv, h1⟩ := ac.ex.1 h;exact ⟨cv, h1.to⟩
theorem BY {cv : Value} (h : ac (blk rp (.cells false [vp m, vi i, cv]) * (ts 3 Pk.cells cv cs * R)) H) : ac (cF m i rp cs * R) H :=
 ac.ex.2 ⟨cv, h.to⟩
theorem fh (h : ac (db m i rp cs * R) H) : ∃ cv, ac (blk rp (.cells false [vp m, vi i, vi cs.length, cv]) * (ts 3 Pk.cells cv cs * R)) H := by
 obtain ⟨cv, h1⟩ := ac.ex.1 h;exact ⟨cv, h1.to⟩
theorem lz {cv : Value} (h : ac (blk rp (.cells false [vp m, vi i, vi cs.length, cv]) * (ts 3 Pk.cells cv cs * R)) H) : ac (db m i rp cs * R) H :=
 ac.ex.2 ⟨cv, h.to⟩
end
section
variable (m i rp : Nat) (cs : List Pk) (μ : Mu)
theorem zw (kind cell : Int) : Sp ef [vp rp, vi kind, vi cell] (cF m i rp cs) (fun _ : Unit => eO (kind, (i : Int), cell)) (fun _ => cF m i rp cs) := by
 refine aO fun R H h => ?_;obtain ⟨cv, h0⟩ := cI h;refine bm (fun r => DB _ _ _ H) ?_;refine br h0 fun b H1 h1 => ?_;refine ak h1 ae rfl ?_;refine jc ?_;refine fi h1 rfl rfl fun H2 h2 => ?_;refine aZ h2 ?_;exact am ⟨(), rfl, BY (cv := cv) h2.to⟩
theorem Bg (who : Int) (hE : μ.N < 1099511627000) : Sp fM [vp rp, vi who] (cF m i rp cs * bF m μ) (fun _ : Unit => vu (μ.V (11, (i : Int), 0))) (fun _ => cF m i rp cs * bF m (μ.acc who 1 (11, (i : Int), 0))) := by
 refine aO fun R H h => ?_;obtain ⟨cv, h0⟩ := cI (m := m) (i := i) (rp := rp) (cs := cs) (R := bF m μ * R) (H := H) h.to;refine bm (fun r => zu _ _ H) ?_;refine bC ae ?_;refine aV h0 rfl ?_;refine af h (zw m i rp cs 11 0) fun _ H1 h1 => ?_;obtain ⟨cv1, k1⟩ := cI h1;refine aI k1 h0 (by rfl) ?_;refine af h1 (Ga m μ who (11, (i : Int), 0) (by omega)) fun _ H2 h2 => ?_;exact am ⟨(), rfl, h2.to⟩
theorem JE (who : Int) (hE : μ.N < 1099511627000) : Sp hM [vp rp, vi who] (cF m i rp cs * bF m μ) (fun _ : Unit => vu (μ.V (12, (i : Int), 0))) (fun _ => cF m i rp cs * bF m (μ.acc who 1 (12, (i : Int), 0))) := by
 refine aO fun R H h => ?_;obtain ⟨cv, h0⟩ := cI (m := m) (i := i) (rp := rp) (cs := cs) (R := bF m μ * R) (H := H) h.to;refine bm (fun r => zp _ _ H) ?_;refine bC ae ?_;refine aV h0 rfl ?_;refine af h (zw m i rp cs 12 0) fun _ H1 h1 => ?_;obtain ⟨cv1, k1⟩ := cI h1;refine aI k1 h0 (by rfl) ?_;refine af h1 (Ga m μ who (12, (i : Int), 0) (by omega)) fun _ H2 h2 => ?_;exact am ⟨(), rfl, h2.to⟩
def n6 (w h k : Nat) : Bool := decide (h ≤ aG w ∧ k ≤ aG w - h)
theorem JD (w h : Nat) (hw : w < 18446744073709551616) (hc : cs.length < 1000) : Sp hJ [vp rp, vu w, vu h] (cF m i rp cs) (fun _ : Unit => vb (n6 w h cs.length)) (fun _ => cF m i rp cs) := by
 refine aO fun R H hh => ?_;have hl := dZ w;refine bm (fun r => zo _ _ _ H) ?_;refine af hh (gR w hw) fun _ H1 h1 => ?_
 by_cases hle : h ≤ aG w
 ·refine aa (jV (by omega)) ?_
  refine gs ?_;refine aa (II hle (by omega)) ?_;obtain ⟨cv, h2⟩ := cI (m := m) (i := i) (rp := rp) (cs := cs) (R := R) (H := H1) h1.to;refine gs ?_;refine ak h2 ae rfl ?_;refine gs ?_;refine ii (s := cv) (l := cs) h2 ?_;refine gs ?_;refine aa (ej (by omega) (by omega)) ?_;rw [show ((cs.length : Nat) : Int).toNat = cs.length from xS _];refine gs ?_
  by_cases hk : cs.length ≤ aG w - h
  ·refine aa (jV (by omega)) ?_
   refine gs ?_;exact am ⟨(), by rw [n6, eu ⟨hle, hk⟩], h1.to⟩
  ·refine aa (il (by omega)) ?_
   refine gs ?_;exact am ⟨(), by rw [n6, d4 (fun q => hk q.2)], h1.to⟩
 ·refine aa (il (by omega)) ?_
  refine gs ?_;exact am ⟨(), by rw [n6, d4 (fun q => hle q.1)], h1.to⟩
abbrev Mu.turn (μ : Mu) (who : Int) (i w : Nat) (o : Option Nat) : Mu := match o with
 | none => μ
 | some n => μ.swp who (11, (i : Int), 0) w n
def dT (μ : Mu) (i w : Nat) (o : Option Nat) : Bool := o.isSome && decide (μ.V (11, (i : Int), 0) = w)
theorem Bf (who : Int) (w fn : Nat) (o : Option Nat) (hf : Sp fn [vu w] emp (fun _ : Unit => F8 o) (fun _ => emp)) (hE : μ.N < 1099511627000) :
 Sp fN [vp rp, vi who, vu w, .func (.func fn) #[] #[]] (cF m i rp cs * bF m μ) (fun _ : Unit => vb (dT μ i w o)) (fun _ => cF m i rp cs * bF m (μ.turn who i w o)) := by
 refine bh (zv _ _ _ _) fun R H h => ?_;refine ah (show (di (.func (.func fn) #[] #[]) [vu w]).bind _ = _ from rfl) ?_;refine af h hf fun _ H1 h1 => ?_
 cases o with
 | none =>
  refine aa (v := vw 0) rfl ?_;refine aa (v := vb false) rfl ?_;refine gs ?_;refine O4 ?_;refine gs ?_;refine zI rfl ?_;refine gs ?_;exact am ⟨(), rfl, h1.to⟩
 | some n =>
  refine aa (v := vu n) rfl ?_;refine aa (v := vb true) rfl ?_;refine gs ?_;refine pX ?_;obtain ⟨cv, k1⟩ := cI (m := m) (i := i) (rp := rp) (cs := cs) (R := bF m μ * R) (H := H1) h1.to;refine bC ae ?_;refine gs ?_;refine aV k1 rfl ?_;refine gs ?_;refine af h1 (zw m i rp cs 11 0) fun _ H2 h2 => ?_;obtain ⟨cv2, k2⟩ := cI (m := m) (i := i) (rp := rp) (cs := cs) (R := bF m μ * R) (H := H2) h2.to;refine aI k2 k1 (by rfl) ?_;refine gs ?_;refine af h2 (Ru m μ who (11, (i : Int), 0) w n (by omega)) fun _ H3 h3 => ?_;refine gs ?_;exact am ⟨(), rfl, h3.to⟩
theorem G2 (who : Int) (w : Nat) (hw : w < 18446744073709551616) (hE : μ.N < 1099511627000) : Sp gu [vp rp, vi who, vu w] (cF m i rp cs * bF m μ) (fun _ : Unit => vb (dT μ i w (aP w 0))) (fun _ => cF m i rp cs * bF m (μ.turn who i w (aP w 0))) := by
 refine bh (wD _ _ _) fun R H h => ?_;refine af h (Bf m i rp cs μ who w og (aP w 0) (aaR w hw) hE) fun _ H1 h1 => ?_;exact am ⟨(), rfl, h1.to⟩
theorem ZX (who : Int) (w : Nat) (hw : w < 18446744073709551616) (hE : μ.N < 1099511627000) : Sp kp [vp rp, vi who, vu w] (cF m i rp cs * bF m μ) (fun _ : Unit => vb (dT μ i w (aP w 1))) (fun _ => cF m i rp cs * bF m (μ.turn who i w (aP w 1))) := by
 refine bh (zq _ _ _) fun R H h => ?_;refine af h (Bf m i rp cs μ who w oh (aP w 1) (aaS w hw) hE) fun _ H1 h1 => ?_;exact am ⟨(), rfl, h1.to⟩
theorem ZY (who : Int) (w : Nat) (hw : w < 18446744073709551616) (hE : μ.N < 1099511627000) : Sp kq [vp rp, vi who, vu w] (cF m i rp cs * bF m μ) (fun _ : Unit => vb (dT μ i w (aP w 2))) (fun _ => cF m i rp cs * bF m (μ.turn who i w (aP w 2))) := by
 refine bh (zt _ _ _) fun R H h => ?_;refine af h (Bf m i rp cs μ who w ol (aP w 2) (aaT w hw) hE) fun _ H1 h1 => ?_;exact am ⟨(), rfl, h1.to⟩
end
section
variable (m i rp : Nat) (cs : List Pk) (μ : Mu)
theorem SF (who : Int) (hE : μ.N < 1099511627000) : Sp lG [vp rp, vi who] (db m i rp cs * bK m μ) (fun _ : Unit => vu (μ.V (11, (i : Int), 0))) (fun _ => db m i rp cs * bK m (μ.acc who 1 (11, (i : Int), 0))) := by
 refine aO fun R H h => ?_;obtain ⟨cv, h0⟩ := fh (m := m) (i := i) (rp := rp) (cs := cs) (R := bK m μ * R) (H := H) h.to;refine bm (fun r => A4 _ _ H) ?_;refine bC ae ?_;refine aV h0 rfl ?_;refine ak h0 ae rfl ?_;refine af h0 (dG 11 (i : Int) 0) fun _ H1 h1 => ?_;refine aI h1 h0 (by rfl) ?_;refine af h1 (td m μ who (11, (i : Int), 0) (by omega)) fun _ H2 h2 => ?_;exact am ⟨(), rfl, (lz (m := m) (i := i) (rp := rp) (cs := cs) (cv := cv) (R := bK m (μ.acc who 1 (11, (i : Int), 0)) * R) h2.to).to⟩
theorem HE (who : Int) (hE : μ.N < 1099511627000) : Sp iN [vp rp, vi who] (db m i rp cs * bK m μ) (fun _ : Unit => vu (μ.V (12, (i : Int), 0))) (fun _ => db m i rp cs * bK m (μ.acc who 1 (12, (i : Int), 0))) := by
 refine aO fun R H h => ?_;obtain ⟨cv, h0⟩ := fh (m := m) (i := i) (rp := rp) (cs := cs) (R := bK m μ * R) (H := H) h.to;refine bm (fun r => AX _ _ H) ?_;refine bC ae ?_;refine aV h0 rfl ?_;refine ak h0 ae rfl ?_;refine af h0 (dG 12 (i : Int) 0) fun _ H1 h1 => ?_;refine aI h1 h0 (by rfl) ?_;refine af h1 (td m μ who (12, (i : Int), 0) (by omega)) fun _ H2 h2 => ?_;exact am ⟨(), rfl, (lz (m := m) (i := i) (rp := rp) (cs := cs) (cv := cv) (R := bK m (μ.acc who 1 (12, (i : Int), 0)) * R) h2.to).to⟩
theorem HD (w h : Nat) (hw : w < 18446744073709551616) (hc : cs.length < 1000) : Sp iM [vp rp, vu w, vu h] (db m i rp cs) (fun _ : Unit => vb (n6 w h cs.length)) (fun _ => db m i rp cs) := by
 refine aO fun R H hh => ?_;have hl := dZ w;refine bm (fun r => AW _ _ _ H) ?_;refine af hh (pN w hw) fun _ H1 h1 => ?_;refine aa (v := vu (aG w)) rfl ?_;refine aa (v := vi (aN w)) rfl ?_;refine aa (v := vb (dd w)) rfl ?_
 by_cases hle : h ≤ aG w
 ·refine aa (jV (by omega)) ?_
  refine gs ?_;refine aa (II hle (by omega)) ?_;obtain ⟨cv, h2⟩ := fh (m := m) (i := i) (rp := rp) (cs := cs) (R := R) (H := H1) h1.to;refine gs ?_;refine ak h2 ae rfl ?_;refine gs ?_;refine aa (ej (by omega) (by omega)) ?_;rw [show ((cs.length : Nat) : Int).toNat = cs.length from xS _];refine gs ?_
  by_cases hk : cs.length ≤ aG w - h
  ·refine aa (jV (by omega)) ?_
   refine gs ?_;exact am ⟨(), by rw [n6, eu ⟨hle, hk⟩], h1.to⟩
  ·refine aa (il (by omega)) ?_
   refine gs ?_;exact am ⟨(), by rw [n6, d4 (fun q => hk q.2)], h1.to⟩
 ·refine aa (il (by omega)) ?_
  refine gs ?_;exact am ⟨(), by rw [n6, d4 (fun q => hle q.1)], h1.to⟩
theorem wK (who : Int) (w how : Nat) (hh : how < 3) (hw : w < 18446744073709551616) (hE : μ.N < 1099511627000) :
 Sp gf [vp rp, vi who, vu w, vi (how : Int)] (db m i rp cs * bK m μ) (fun _ : Unit => vb (dT μ i w (aP w how))) (fun _ => db m i rp cs * bK m (μ.turn who i w (aP w how))) := by
 refine bh (AZ _ _ _ _) fun R H h => ?_;refine af h (RC w how hw hh) fun _ H1 h1 => ?_
 generalize aP w how = o at h1 ⊢
 cases o with
 | none =>
  refine aa (v := vw 0) rfl ?_;refine aa (v := vb false) rfl ?_;refine gs ?_;refine O4 ?_;refine gs ?_;refine zI rfl ?_;refine gs ?_;exact am ⟨(), rfl, h1.to⟩
 | some n =>
  refine aa (v := vu n) rfl ?_;refine aa (v := vb true) rfl ?_;refine gs ?_;refine pX ?_;obtain ⟨cv, k1⟩ := fh (m := m) (i := i) (rp := rp) (cs := cs) (R := bK m μ * R) (H := H1) h1.to;refine bC ae ?_;refine gs ?_;refine aV k1 rfl ?_;refine gs ?_;refine ak k1 ae rfl ?_;refine gs ?_;refine af k1 (dG 11 (i : Int) 0) fun _ H2 k2 => ?_;refine aI k2 k1 (by rfl) ?_;refine gs ?_;refine af k2 (GJ m μ who (11, (i : Int), 0) w n (by omega)) fun _ H3 k3 => ?_;refine gs ?_;refine am ⟨(), rfl, ?_⟩;have h3 := lz (m := m) (i := i) (rp := rp) (cs := cs) (cv := cv) (R := bK m (μ.swp who (11, (i : Int), 0) w n) * R) (H := H3) k3.to;exact h3.to
end
section
variable (m i rp : Nat) (cs : List Pk) (μ : Mu)
theorem JC (n : Nat) (h0 : 1 ≤ cs.length ∧ cs.length < 1000) : Sp dn [vp rp, vu n] (cF m i rp cs) (fun _ : Unit => vi ((n % cs.length : Nat) : Int)) (fun _ => cF m i rp cs) := by
 have hlt : n % cs.length < cs.length := Nat.mod_lt _ (by omega);refine aO fun R H h => ?_;obtain ⟨cv, k⟩ := cI h;refine bm (fun r => oE _ _ H) ?_;refine ak k ae rfl ?_;refine de (s := cv) (l := cs) k ?_;refine aa (ej (by omega) (by omega)) ?_;rw [show ((cs.length : Nat) : Int).toNat = cs.length from xS _];refine aa (j0 (by omega)) ?_;refine aa (ji (by omega)) ?_;exact am ⟨(), rfl, h⟩
theorem SE (n : Nat) (h0 : 1 ≤ cs.length ∧ cs.length < 1000) : Sp eJ [vp rp, vu n] (db m i rp cs) (fun _ : Unit => vi ((n % cs.length : Nat) : Int)) (fun _ => db m i rp cs) := by
 have hlt : n % cs.length < cs.length := Nat.mod_lt _ (by omega);refine aO fun R H h => ?_;obtain ⟨cv, k⟩ := fh h;refine bm (fun r => pR _ _ H) ?_;refine ak k ae rfl ?_;refine aa (ej (by omega) (by omega)) ?_;rw [show ((cs.length : Nat) : Int).toNat = cs.length from xS _];refine aa (j0 (by omega)) ?_;refine aa (ji (by omega)) ?_;exact am ⟨(), rfl, h⟩
theorem JF (who : Int) (n : Nat) (hn : n < 18446744073709551615) (h0 : 1 ≤ cs.length ∧ cs.length < 1000) (hE : μ.N < 1099511627000) :
 Sp hU [vp rp, vi who, vu n] (cF m i rp cs * bF m μ) (fun _ : Unit => .tuple #[]) (fun _ => cF m i rp cs * bF m ((μ.acc who 2 (15, (i : Int), ((n % cs.length : Nat) : Int))).put (15, (i : Int), ((n % cs.length : Nat) : Int)) (n + 1))) := by
 refine aO fun R H h => ?_;obtain ⟨cv, k0⟩ := cI (m := m) (i := i) (rp := rp) (cs := cs) (R := bF m μ * R) (H := H) h.to;refine bm (fun r => zr _ _ _ H) ?_;refine bC ae ?_;refine aV k0 rfl ?_;refine af h (JC m i rp cs n h0) fun _ H1 h1 => ?_;obtain ⟨cv1, k1⟩ := cI h1;refine aI k1 k0 (by rfl) ?_;refine af h1 (zw m i rp cs 15 ((n % cs.length : Nat) : Int)) fun _ H2 h2 => ?_;obtain ⟨cv2, k2⟩ := cI h2;refine aI k2 k0 (by rfl) ?_;refine aa (gh (b := 1) (by omega)) ?_;refine af h2 (D7 m μ who (15, (i : Int), ((n % cs.length : Nat) : Int)) (n + 1) (by omega)) fun _ H3 h3 => ?_;exact am ⟨(), rfl, h3.to⟩
theorem HF (who : Int) (n : Nat) (hn : n < 18446744073709551615) (h0 : 1 ≤ cs.length ∧ cs.length < 1000) (hE : μ.N < 1099511627000) :
 Sp iO [vp rp, vi who, vu n] (db m i rp cs * bK m μ) (fun _ : Unit => .tuple #[]) (fun _ => db m i rp cs * bK m ((μ.acc who 2 (15, (i : Int), ((n % cs.length : Nat) : Int))).put (15, (i : Int), ((n % cs.length : Nat) : Int)) (n + 1))) := by
 refine aO fun R H h => ?_;obtain ⟨cv, k0⟩ := fh (m := m) (i := i) (rp := rp) (cs := cs) (R := bK m μ * R) (H := H) h.to;refine bm (fun r => AY _ _ _ H) ?_;refine bC ae ?_;refine aV k0 rfl ?_;refine bC ae ?_;refine aV k0 rfl ?_;refine af h (SE m i rp cs n h0) fun _ H1 h1 => ?_;obtain ⟨cv1, k1⟩ := fh h1;refine aI k1 k0 (by rfl) ?_;refine aI k1 k0 (by rfl) ?_;refine af h1 (dG 15 (i : Int) ((n % cs.length : Nat) : Int)) fun _ H2 h2 => ?_;obtain ⟨cv2, k2⟩ := fh (m := m) (i := i) (rp := rp) (cs := cs) (R := bK m μ * R) (H := H2) h2.to;refine aI k2 k0 (by rfl) ?_;refine aa (gh (b := 1) (by omega)) ?_;refine af h2 (uh m μ who (15, (i : Int), ((n % cs.length : Nat) : Int)) (n + 1) (by omega)) fun _ H3 h3 => ?_;exact am ⟨(), rfl, h3.to⟩
theorem aiL (who : Int) (n : Nat) (x : Pk) (h0 : 1 ≤ cs.length ∧ cs.length < 1000) (hE : μ.N < 1099511627000) :
 Sp lH [vp rp, vi who, vu n, .agg (Pk.cells x).toArray] (cF m i rp cs * bF m μ) (fun _ : Unit => .tuple #[]) (fun _ => cF m i rp (cs.set (n % cs.length) x) * bF m (μ.acc who 6 (16, (i : Int), ((n % cs.length : Nat) : Int)))) := by
 have hlt : n % cs.length < cs.length := Nat.mod_lt _ (by omega);refine bh (Be _ _ _ _) fun R H h => ?_;refine ba h fun b H1 h1 => ?_;obtain ⟨cv, k1⟩ := cI (m := m) (i := i) (rp := rp) (cs := cs) (R := bF m μ * (blk b (.cells false (Pk.cells x)) * R)) (H := H1) h1.to;refine bC ae ?_;refine aV k1 rfl ?_;refine af h1 (JC m i rp cs n h0) fun _ H2 h2 => ?_;obtain ⟨cv2, k2⟩ := cI h2;refine aI k2 k1 (by rfl) ?_;refine af h2 (zw m i rp cs 16 ((n % cs.length : Nat) : Int)) fun _ H3 h3 => ?_;obtain ⟨cv3, k3⟩ := cI h3;refine aI k3 k1 (by rfl) ?_;refine af h3 ((t9 m μ who (16, (i : Int), ((n % cs.length : Nat) : Int)) (by omega)).imp fun _ R H h => jr (N' := μ.N + 2) (by simp) h) fun _ H4 h4 => ?_;obtain ⟨cv4, k4⟩ := cI (m := m) (i := i) (rp := rp) (cs := cs) (R := bF m (μ.acc who 6 (16, (i : Int), ((n % cs.length : Nat) : Int))) * (blk b (.cells false (Pk.cells x)) * R)) (H := H4) h4.to;refine bC ae ?_;refine aV k4 rfl ?_
 -- a cell is told once more, of the same ring
 have again : ∀ {k : Value × AH → OV} {Q : Value → AH → Prop}, (∀ H5, ac (blk rp (.cells false [vp m, vi i, cv4]) * (ts 3 Pk.cells cv4 cs * (bF m (μ.acc who 6 (16, (i : Int), ((n % cs.length : Nat) : Int))) * (blk b (.cells false (Pk.cells x)) * R)))) H5 → wp (k (vi ((n % cs.length : Nat) : Int), H5)) Q) → wp ((FF dn [vp rp, vu n] H4).bind k) Q := by
  intro k Q hk
  have cell4 : Sp dn [vp rp, vu n] (blk rp (.cells false [vp m, vi i, cv4]) * ts 3 Pk.cells cv4 cs) (fun _ : Unit => vi ((n % cs.length : Nat) : Int)) (fun _ => blk rp (.cells false [vp m, vi i, cv4]) * ts 3 Pk.cells cv4 cs) := by
   refine bh (oE _ _) fun R H h => ?_;refine ak h ae rfl ?_;refine de (s := cv4) (l := cs) h ?_;refine aa (ej (by omega) (by omega)) ?_;rw [show ((cs.length : Nat) : Int).toNat = cs.length from xS _];refine aa (j0 (by omega)) ?_;refine aa (ji (by omega)) ?_;exact am ⟨(), rfl, h⟩
  exact af k4 cell4 fun _ H5 h5 => hk H5 h5.to
 refine again fun H5 k5 => ?_;refine aI k5 k4 (by rfl) ?_;refine aZ k5 ?_;refine dX k4 k5 rfl ?_;refine JU (s := cv4) (l := cs) (i := n % cs.length) x k5 hlt (.inl ⟨rfl, rfl⟩) rfl (by omega) rfl rfl fun H6 k6 => ?_;refine am ⟨(), rfl, ?_⟩;have h6 := BY (m := m) (i := i) (rp := rp) (cs := cs.set (n % cs.length) x) (cv := cv4) (R := bF m (μ.acc who 6 (16, (i : Int), ((n % cs.length : Nat) : Int))) * R) (H := H6) k6.to;exact h6.to
end
theorem zA (k a : Int) : Sp bD [vi k, vi a] emp (fun _ : Unit => eO (k, a, 0)) (fun _ => emp) := by
 refine bh (Ad _ _) fun R H h => ?_;refine br h fun b H1 h1 => ?_;refine jc ?_;refine fi h1 rfl rfl fun H2 h2 => ?_;refine aZ h2 ?_;exact am ⟨(), rfl, h2.to⟩
abbrev Mu.cnt (μ : Mu) (who : Int) (at' : cA) (n : Nat) : Mu := (μ.acc who 3 at').put at' ((μ.V at' + n) % 18446744073709551616)
section
variable (ib m nm : Nat) (c : i5) (nx : Int → Option Nat) (μ : Mu) (who : Int)
theorem N1 (hE : μ.N < 1099511627000) : Sp iw [vp ib, vi who] (lX ib m nm c nx * bF m μ) (fun _ : Unit => .tuple #[]) (fun _ => lX ib m nm c nx * bF m (μ.cnt who (3, 0, 0) 4294967296)) := by
 refine bh (su _ _) fun R H h => ?_;unfold lX at h ⊢;refine bC ae ?_;refine aV h rfl ?_;refine af h (zA 3 0) fun _ H1 h1 => ?_;refine aI h1 h (by rfl) ?_;refine af h1 (ahL m μ who (3, 0, 0) 4294967296 (by omega)) fun _ H2 h2 => ?_;exact am ⟨(), rfl, h2.to⟩
theorem Jf (hE : μ.N < 1099511627000) : Sp gq [vp ib, vi who] (lX ib m nm c nx * bF m μ) (fun _ : Unit => .tuple #[]) (fun _ => lX ib m nm c nx * bF m (μ.cnt who (3, 0, 0) 1)) := by
 refine bh (vD _ _) fun R H h => ?_;unfold lX at h ⊢;refine bC ae ?_;refine aV h rfl ?_;refine af h (zA 3 0) fun _ H1 h1 => ?_;refine aI h1 h (by rfl) ?_;refine af h1 (ahL m μ who (3, 0, 0) 1 (by omega)) fun _ H2 h2 => ?_;exact am ⟨(), rfl, h2.to⟩
theorem Y7 (s : Int) (hE : μ.N < 1099511627000) : Sp jt [vp ib, vi who, vi s] (lX ib m nm c nx * bF m μ) (fun _ : Unit => vu (μ.V (9, s, 0))) (fun _ => lX ib m nm c nx * bF m (μ.acc who 1 (9, s, 0))) := by
 refine bh (vE _ _ _) fun R H h => ?_;unfold lX at h ⊢;refine bC ae ?_;refine aV h rfl ?_;refine ak h ae rfl ?_;refine ah (show (di (.func (.func bD) #[vi 9] #[]) [vi s]).bind _ = _ from rfl) ?_;refine af h (zA 9 s) fun _ H1 h1 => ?_;refine aI h1 h (by rfl) ?_;refine af h1 (Ga m μ who (9, s, 0) (by omega)) fun _ H2 h2 => ?_;exact am ⟨(), rfl, h2.to⟩
theorem Q8 (s : Int) (top obj : Nat) (ho : obj < 4294967296) (hE : μ.N < 1099511627000) : Sp iW [vp ib, vi who, vi s, vu top, vi obj] (lX ib m nm c nx * bF m μ) (fun _ : Unit => vb (decide (μ.V (9, s, 0) = top))) (fun _ => lX ib m nm c nx * bF m (μ.swp who (9, s, 0) top (obj + 1))) := by
 refine bh (uq _ _ _ _ _) fun R H h => ?_;unfold lX at h ⊢;refine bC ae ?_;refine aV h rfl ?_;refine ak h ae rfl ?_;refine ah (show (di (.func (.func bD) #[vi 9] #[]) [vi s]).bind _ = _ from rfl) ?_;refine af h (zA 9 s) fun _ H1 h1 => ?_;refine aI h1 h (by rfl) ?_;refine aa (ej (by omega) (by omega)) ?_;rw [show ((obj : Nat) : Int).toNat = obj from xS _];refine aa (gh (b := 1) (by omega)) ?_;refine af h1 (Ru m μ who (9, s, 0) top (obj + 1) (by omega)) fun _ H2 h2 => ?_;exact am ⟨(), rfl, h2.to⟩
theorem Q6 (obj : Int) (next : Nat) (hE : μ.N < 1099511627000) : Sp iV [vp ib, vi who, vi obj, vu next] (lX ib m nm c nx * bF m μ) (fun _ : Unit => .tuple #[]) (fun _ => lX ib m nm c (fun k => if k = obj then some next else nx k) * bF m (μ.acc who 6 (14, obj, 0))) := by
 refine bh (uo _ _ _ _) fun R H h => ?_;unfold lX at h ⊢;refine bC ae ?_;refine aV h rfl ?_;refine ak h ae rfl ?_;refine ah (show (di (.func (.func bD) #[vi 14] #[]) [vi obj]).bind _ = _ from rfl) ?_;refine af h (zA 14 obj) fun _ H1 h1 => ?_;refine aI h1 h (by rfl) ?_;refine af h1 ((t9 m μ who (14, obj, 0) (by omega)).imp fun _ R H h => jr (N' := μ.N + 2) (by simp) h) fun _ H2 h2 => ?_;refine ak h2 ae rfl ?_;refine ajR (ek := Pl) obj (vu next) h2 fun H3 h3 => ?_;refine am ⟨(), rfl, ?_⟩
 have e : (fun k => ((if k = obj then some next else nx k) : Option Nat).map fun n => vu n) = fun x => if x = obj then some (vu next) else (nx x).map fun n => vu n := by
  funext k
  split <;> rfl
 rw [e];exact h3.to
end
section
variable (ib m : Nat) (sh : Int) (nx : Int → Option Nat) (L : Nat) (μ : Mu) (who : Int)
theorem M1 (hE : μ.N < 1099511627000) : Sp jy [vp ib, vi who] (gW ib m sh nx L * bK m μ) (fun _ : Unit => .tuple #[]) (fun _ => gW ib m sh nx L * bK m (μ.cnt who (3, 0, 0) 4294967296)) := by
 refine aO fun R H h => ?_;obtain ⟨kv, nv, ns, hn, h0⟩ := pC (ib := ib) (m := m) (sh := sh) (nx := nx) (L := L) (R := bK m μ * R) (H := H) h.to;refine bm (fun r => v5 _ _ H) ?_;refine bC ae ?_;refine aV h0 rfl ?_;refine af h0 (dG 3 0 0) fun _ H1 h1 => ?_;refine aI h1 h0 (by rfl) ?_;refine af h1 (Mo m μ who (3, 0, 0) 4294967296 (by omega)) fun _ H2 h2 => ?_;have h3 := iU (ib := ib) (m := m) (sh := sh) (nx := nx) (L := L) (kv := kv) (nv := nv) (ns := ns) (R := bK m (μ.cnt who (3, 0, 0) 4294967296) * R) (H := H2) hn h2.to;exact am ⟨(), rfl, h3.to⟩
theorem Hy (hE : μ.N < 1099511627000) : Sp iL [vp ib, vi who] (gW ib m sh nx L * bK m μ) (fun _ : Unit => .tuple #[]) (fun _ => gW ib m sh nx L * bK m (μ.cnt who (3, 0, 0) 1)) := by
 refine aO fun R H h => ?_;obtain ⟨kv, nv, ns, hn, h0⟩ := pC (ib := ib) (m := m) (sh := sh) (nx := nx) (L := L) (R := bK m μ * R) (H := H) h.to;refine bm (fun r => AQ _ _ H) ?_;refine bC ae ?_;refine aV h0 rfl ?_;refine af h0 (dG 3 0 0) fun _ H1 h1 => ?_;refine aI h1 h0 (by rfl) ?_;refine af h1 (Mo m μ who (3, 0, 0) 1 (by omega)) fun _ H2 h2 => ?_;have h3 := iU (ib := ib) (m := m) (sh := sh) (nx := nx) (L := L) (kv := kv) (nv := nv) (ns := ns) (R := bK m (μ.cnt who (3, 0, 0) 1) * R) (H := H2) hn h2.to;exact am ⟨(), rfl, h3.to⟩
theorem SC (s : Int) (hE : μ.N < 1099511627000) : Sp lE [vp ib, vi who, vi s] (gW ib m sh nx L * bK m μ) (fun _ : Unit => vu (μ.V (9, s, 0))) (fun _ => gW ib m sh nx L * bK m (μ.acc who 1 (9, s, 0))) := by
 refine aO fun R H h => ?_;obtain ⟨kv, nv, ns, hn, h0⟩ := pC (ib := ib) (m := m) (sh := sh) (nx := nx) (L := L) (R := bK m μ * R) (H := H) h.to;refine bm (fun r => AS _ _ _ H) ?_;refine bC ae ?_;refine aV h0 rfl ?_;refine af h0 (dG 9 s 0) fun _ H1 h1 => ?_;refine aI h1 h0 (by rfl) ?_;refine af h1 (td m μ who (9, s, 0) (by omega)) fun _ H2 h2 => ?_;have h3 := iU (ib := ib) (m := m) (sh := sh) (nx := nx) (L := L) (kv := kv) (nv := nv) (ns := ns) (R := bK m (μ.acc who 1 (9, s, 0)) * R) (H := H2) hn h2.to;exact am ⟨(), rfl, h3.to⟩
theorem Pe (s : Int) (top obj : Nat) (ho : obj < 4294967296) (hE : μ.N < 1099511627000) : Sp kj [vp ib, vi who, vi s, vu top, vi obj] (gW ib m sh nx L * bK m μ) (fun _ : Unit => vb (decide (μ.V (9, s, 0) = top))) (fun _ => gW ib m sh nx L * bK m (μ.swp who (9, s, 0) top (obj + 1))) := by
 refine aO fun R H h => ?_;obtain ⟨kv, nv, ns, hn, h0⟩ := pC (ib := ib) (m := m) (sh := sh) (nx := nx) (L := L) (R := bK m μ * R) (H := H) h.to;refine bm (fun r => y9 _ _ _ _ _ H) ?_;refine bC ae ?_;refine aV h0 rfl ?_;refine af h0 (dG 9 s 0) fun _ H1 h1 => ?_;refine aI h1 h0 (by rfl) ?_;refine aa (ej (by omega) (by omega)) ?_;rw [show ((obj : Nat) : Int).toNat = obj from xS _];refine aa (gh (b := 1) (by omega)) ?_;refine af h1 (GJ m μ who (9, s, 0) top (obj + 1) (by omega)) fun _ H2 h2 => ?_;have h3 := iU (ib := ib) (m := m) (sh := sh) (nx := nx) (L := L) (kv := kv) (nv := nv) (ns := ns) (R := bK m (μ.swp who (9, s, 0) top (obj + 1)) * R) (H := H2) hn h2.to;exact am ⟨(), rfl, h3.to⟩
end
theorem Wg (a : Int) {n : Int} (h : 1 ≤ n) : -n < a.tmod n ∧ a.tmod n < n := by
 have e := Int.natAbs_tmod a n;have : a.natAbs % n.natAbs < n.natAbs := Nat.mod_lt _ (by omega);omega
section
variable (t m p e : Nat) (σ : aM)
theorem B3 (sh sl : Nat) (hs : 1 ≤ sh ∧ sh ≤ 4) (flow : Int) : Sp fw [vp t, vi flow] (tab t m sh sl) (fun _ : Unit => vi ((flow.tmod sh + sh).tmod sh)) (fun _ => tab t m sh sl) := by
 refine bh (tm _ _) fun R H h => ?_;unfold tab at h ⊢;have q := Wg flow (n := sh) (by omega);refine ak h ae rfl ?_;refine aa (ky (by omega)) ?_;refine ak h ae rfl ?_;refine aa (aS (by omega) (by omega)) ?_;refine ak h ae rfl ?_;refine aa (ky (by omega)) ?_;exact am ⟨(), rfl, h⟩
theorem amR (μ : Mu) : Sp kF [vp m] (bF m μ) (fun _ : Unit => vi μ.E.length) (fun _ => bF m μ) := by
 refine aO fun R H h => ?_;obtain ⟨⟨c, l, al, es, ck⟩, h1⟩ := ac.ex.1 h;rw [ai, ac.pu] at h1;obtain ⟨hp, h1⟩ := h1;dsimp only at h1;have h2 : ac (blk m (.cells false [.map (some c), l]) * (blk c (.map es ck) * ts 5 Ev.cells l μ.E) * R) H := h1;refine bm (fun r => F4 _ H) ?_;refine ak h2 ae rfl ?_;refine tu (s := l) (l := μ.E) h2 ?_;exact am ⟨(), rfl, h⟩
theorem w9 (r : Value) (x : Int) : Sp my [r, vi x] emp (fun _ : Unit => .tuple #[.agg (ie x).toArray, vb true]) (fun _ => emp) := by
 refine bh (PN _ _) fun R H h => ?_;refine br h fun b H1 h1 => ?_;refine jc ?_;refine fi h1 rfl rfl fun H2 h2 => ?_;refine aZ h2 ?_;exact am ⟨(), rfl, h2.to⟩
def fy (x : Cl) : Option Int := if x.a < 1 ∨ 65536 < x.a then some 3 else if x.flow < 0 ∨ 1048576 < x.flow then some 5 else none
end
structure Tk where
 who : Int
 x : Cl
 s : Int
 at' : Nat
 i : Nat
 obj : Nat
 found : Bool
 w : Nat
 q : Nat
 mark : Int
 top : Nat
 code : Int
abbrev aM.mem (σ : aM) (μ : Mu) : aM := { σ with μ := μ }
def qn (v : Nat) (flow : Int) : Bool := decide (v ≠ 0 ∧ ((v / 4294967296 : Nat) : Int) - 1 = flow)
def aL (σ : aM) (t : Tk) : Tk :=
 let v := σ.μ.V (10, t.s, (t.i : Int))
 { t with i := t.i + 1, found := qn v t.x.flow, obj := if qn v t.x.flow = true then v % 4294967296 else t.obj }
abbrev aY (σ : aM) (t : Tk) : aM := σ.mem (σ.μ.acc t.who 1 (10, t.s, (t.i : Int)))
def cn (σ : aM) (t : Tk) : Bool := decide (σ.c.sl ≤ (t.i : Int))
def az (σ : aM) (o : Nat) : List Pk := ((σ.obs[o]?).map (·.2)).getD []
def iv (σ : aM) (t : Tk) : aM :=
 let n := (az σ t.obj).length
 let k := aG t.w % n
 { σ with μ := σ.μ.acc t.who 6 (16, (t.obj : Int), (k : Int)), obs := σ.obs.modify t.obj fun p => (p.1, p.2.set k ⟨t.x.flow, t.x.a, t.x.b⟩) }
abbrev B1 (σ : aM) (t : Tk) : aM :=
 let n := (az σ t.obj).length
 let k := aG t.w % n
 σ.mem ((σ.μ.acc t.who 2 (15, (t.obj : Int), (k : Int))).put (15, (t.obj : Int), (k : Int)) (aG t.w + 1))
abbrev dg (σ : aM) (t : Tk) : aM := σ.mem (σ.μ.acc t.who 1 (11, (t.obj : Int), 0))
abbrev jo (σ : aM) (t : Tk) : aM := σ.mem (σ.μ.acc t.who 1 (12, (t.obj : Int), 0))
def jU (σ : aM) (t : Tk) : Bool := n6 t.w (σ.μ.V (12, (t.obj : Int), 0)) (az σ t.obj).length
abbrev eD (σ : aM) (t : Tk) : aM := σ.mem (σ.μ.acc t.who 1 (2, 0, 0))
def ap (σ : aM) (t : Tk) (now : Int) : aM × Tk × Bool :=
 let scan (σ : aM) (t : Tk) : aM × Tk × Bool :=
  let t1 := aL σ t
  (aY σ t, { t1 with at' := if t1.found = true then 6 else if cn σ t1 = true then 3 else 2 }, false)
 match t.at' with
 | 0 => match fy t.x with
  | some e => (σ.note now t.who e, { t with code := e }, true)
  | none => scan σ t
 | 2 => scan σ t
 | 3 => let l : cA := (8, t.s, 0)
  (σ.mem (σ.μ.swp t.who l 0 1), (if σ.μ.V l = 0 then { t with at' := 4, i := 0 } else t), false)
 | 4 => let t1 := aL σ t
  if t1.found = true then (aY σ t, { t1 with at' := 5 }, false)
  else if cn σ t1 = true then ((aY σ t).note now t.who 5, { t1 with at' := 5, code := 5 }, false)
  else (aY σ t, t1, false)
 | 5 => let l : cA := (8, t.s, 0)
  (σ.mem ((σ.μ.acc t.who 2 l).put l 0), { t with at' := 6 }, !t.found)
 | 6 => (σ.mem (σ.μ.acc t.who 5 (13, (t.obj : Int), 0)), { t with at' := 7 }, false)
 | 7 => let w := σ.μ.V (11, (t.obj : Int), 0)
  (dg σ t, { t with w := w, at' := if aN w = 2 then 3 else 8 }, false)
 | 8 => (jo σ t, { t with at' := if jU σ t = true then 15 else if aN t.w = 1 then 9 else 12 }, false)
 | 9 => let o := aP t.w 0
  let σ1 := σ.mem (σ.μ.turn t.who t.obj t.w o)
  if dT σ.μ t.obj t.w o = true then (σ1.note now t.who 0, { t with at' := 10, code := 0 }, false) else (σ1, { t with at' := 7 }, false)
 | 10 => (iv σ t, { t with at' := 11 }, false)
 | 11 => (B1 σ t, t, true)
 | 12 => (σ.mem (σ.μ.cnt t.who (3, 0, 0) 4294967296), { t with at' := 13 }, false)
 | 13 => let o := aP t.w 0
  let σ1 := σ.mem (σ.μ.turn t.who t.obj t.w o)
  if dT σ.μ t.obj t.w o = true then (σ1.note now t.who 0, { t with at' := 14, code := 0 }, false) else (σ1, { t with at' := 20 }, false)
 | 14 => (iv σ t, { t with at' := 21 }, false)
 | 15 => let q := σ.μ.V (2, 0, 0)
  (eD σ t, { t with q := q, at' := if q % 2 = 1 then 7 else 16 }, false)
 | 16 => let w := σ.μ.V (11, (t.obj : Int), 0)
  (dg σ t, { t with w := w, at' := if aN w = 2 then 3 else 17 }, false)
 | 17 => (jo σ t, (if jU σ t = true then { t with at' := 18, mark := now } else { t with at' := 7 }), false)
 | 18 => if σ.μ.V (2, 0, 0) = t.q then ((eD σ t).note t.mark t.who 9, { t with code := 9 }, true) else (eD σ t, { t with at' := 7 }, false)
 | 20 => (σ.mem (σ.μ.cnt t.who (3, 0, 0) 1), { t with at' := 7 }, false)
 | 21 => (B1 σ t, { t with at' := 22 }, false)
 | 22 => (σ.mem (σ.μ.acc t.who 1 (9, t.s, 0)), { t with top := σ.μ.V (9, t.s, 0), at' := 23 }, false)
 | 23 => ({ σ with μ := σ.μ.acc t.who 6 (14, (t.obj : Int), 0), nx := fun k => if k = (t.obj : Int) then some t.top else σ.nx k }, { t with at' := 24 }, false)
 | 24 => let l : cA := (9, t.s, 0)
  (σ.mem (σ.μ.swp t.who l t.top (t.obj + 1)), { t with at' := if σ.μ.V l = t.top then 25 else 22 }, false)
 | _ => (σ.mem (σ.μ.cnt t.who (3, 0, 0) 1), t, true)
def bd (p : Nat) (rp : List Nat) (σ : aM) : SP := ex fun g : PIds => pu (g.rp = rp ∧ rp.length = σ.obs.length) * aA p g σ
theorem dz {p : Nat} {rp : List Nat} {σ : aM} {R : SP} {H : AH} (h : ac (bd p rp σ * R) H) : ∃ g : PIds, g.rp = rp ∧ rp.length = σ.obs.length ∧ ac (aA p g σ * R) H := by
 obtain ⟨g, h1⟩ := ac.ex.1 h;rw [ai, ac.pu] at h1;exact ⟨g, h1.1.1, h1.1.2, h1.2⟩
theorem bB {p : Nat} {rp : List Nat} {σ : aM} {R : SP} {H : AH} (g : PIds) (h1 : g.rp = rp) (h2 : rp.length = σ.obs.length) (h : ac (aA p g σ * R) H) : ac (bd p rp σ * R) H :=
 ac.ex.2 ⟨g, by rw [ai]; exact ac.pu.2 ⟨⟨h1, h2⟩, h⟩⟩
theorem ahN {p : Nat} {σ : aM} {R : SP} {H : AH} (h : ac (gl p σ * R) H) : ∃ rp, ac (bd p rp σ * R) H := by
 obtain ⟨g, hg, h1⟩ := ou h;exact ⟨g.rp, bB g rfl hg h1⟩
theorem MG (m : Nat) : ∀ {ps : List (Nat × List Pk)} {i j : Nat} (h : i < ps.length), ∃ R, nN m j ps = cF m (j + i) (ps[i]).1 (ps[i]).2 * R ∧ ∀ q : Nat × List Pk, nN m j (ps.set i q) = cF m (j + i) q.1 q.2 * R := by
 intro ps
 induction ps with
 | nil => intro i j h; simp at h
 | cons p ps ih =>
  intro i j h
  cases i with
  | zero => exact ⟨nN m (j + 1) ps, rfl, fun q => rfl⟩
  | succ i =>
   obtain ⟨R, e1, e2⟩ := ih (i := i) (j := j + 1) (by simpa using h);refine ⟨cF m j p.1 p.2 * R, ?_, fun q => ?_⟩
   ·show cF m j p.1 p.2 * nN m (j + 1) ps = _
    rw [e1, ci, show j + 1 + i = j + (i + 1) from by omega]; rfl
   ·show cF m j p.1 p.2 * nN m (j + 1) (ps.set i q) = _
    rw [e2, ci, show j + 1 + i = j + (i + 1) from by omega]
theorem MH (m : Nat) : ∀ {ps : List (Nat × List Pk)} {i j : Nat} (h : i < ps.length), ∃ R, jK m j ps = db m (j + i) (ps[i]).1 (ps[i]).2 * R ∧ ∀ q : Nat × List Pk, jK m j (ps.set i q) = db m (j + i) q.1 q.2 * R := by
 intro ps
 induction ps with
 | nil => intro i j h; simp at h
 | cons p ps ih =>
  intro i j h
  cases i with
  | zero => exact ⟨jK m (j + 1) ps, rfl, fun q => rfl⟩
  | succ i =>
   obtain ⟨R, e1, e2⟩ := ih (i := i) (j := j + 1) (by simpa using h);refine ⟨db m j p.1 p.2 * R, ?_, fun q => ?_⟩
   ·show db m j p.1 p.2 * jK m (j + 1) ps = _
    rw [e1, ci, show j + 1 + i = j + (i + 1) from by omega]; rfl
   ·show db m j p.1 p.2 * jK m (j + 1) (ps.set i q) = _
    rw [e2, ci, show j + 1 + i = j + (i + 1) from by omega]
def atN (ns : List (Int × Nat)) (obj : Int) : Int := match ns.findIdx? fun p => p.1 == obj with
 | some i => i
 | none => -1
theorem Nc {ns : List (Int × Nat)} {obj : Int} {i : Nat} (h : ∀ j, j < i → ∀ p, ns[j]? = some p → p.1 ≠ obj) :
 (∀ (hi : i < ns.length), ns[i].1 = obj → atN ns obj = i) ∧ (ns.length ≤ i → atN ns obj = -1) := by
 constructor
 ·intro hi e
  unfold atN
  have : ns.findIdx? (fun p => p.1 == obj) = some i := by
   rw [List.findIdx?_eq_some_iff_getElem];refine ⟨hi, by simpa using e, fun j hj => ?_⟩;have := h j hj ns[j] (by rw [cB])
   simpa using this
  rw [this]
 ·intro hi
  unfold atN
  have : ns.findIdx? (fun p => p.1 == obj) = none := by
   rw [List.findIdx?_eq_none_iff];intro p hp;obtain ⟨j, hj, rfl⟩ := List.getElem_of_mem hp;have := h j (by omega) ns[j] (by rw [cB])
   simpa using this
  rw [this]
theorem aaW (ib m : Nat) (sh : Int) (kv nv : Value) (ns : List (Int × Nat)) (hn : ns.length < 1000000) (obj : Int) :
 Sp nk [vp ib, vi obj] (blk ib (.cells false [vp m, vi sh, kv, nv]) * ts 1 cr kv (ns.map (·.1))) (fun _ : Unit => vi (atN ns obj)) (fun _ => blk ib (.cells false [vp m, vi sh, kv, nv]) * ts 1 cr kv (ns.map (·.1))) := by
 refine bh (De _ _) fun R H h => ?_;refine ah (v7 _ _ _ H) ?_;refine ah (wa _ _ _ _ H) ?_;have loop : ∀ (d i : Nat), i + d = ns.length → (∀ j, j < i → ∀ p, ns[j]? = some p → p.1 ≠ obj) →
  wp (iQ (vp ib) (vi obj) (vi 0) (vi i) H) fun v' H' => ∃ x : Unit, v' = vi (atN ns obj) ∧ ac (blk ib (.cells false [vp m, vi sh, kv, nv]) * ts 1 cr kv (ns.map (·.1)) * R) H' := by
  intro d
  induction d with
  | zero =>
   intro i hi hj;refine ah (nG _ _ _ _ H) ?_;refine ak h ae rfl ?_;refine tu (s := kv) h ?_;rw [us];refine aa (bP (by omega)) ?_;refine gs ?_;refine ah (s7 _ H) ?_;refine ah (v8 _ H) ?_;exact am ⟨(), by rw [(Nc hj).2 (by omega)], h⟩
  | succ d ih =>
   intro i hi hj
   have hil : i < ns.length := by omega
   refine ah (nG _ _ _ _ H) ?_;refine ak h ae rfl ?_;refine tu (s := kv) h ?_;rw [us];refine aa (cE (by omega)) ?_;refine gs ?_;refine ah (wb _ _ _ _ H) ?_;refine ak h ae rfl ?_;refine eF (s := kv) (enc := cr) (l := ns.map fun p : Int × Nat => p.1) (v := vi ns[i].1) h (i := i) (by simpa using hil) (by simp [cr]) ?_
   by_cases e : ns[i].1 = obj
   ·refine aa (bg e) ?_
    refine gs ?_;exact am ⟨(), by rw [(Nc hj).1 hil e], h⟩
   ·refine aa (aE e) ?_
    refine gs ?_;refine ah (we _ _ _ _ H) ?_;refine aa (aS (by omega) (by omega)) ?_;refine ih (i + 1) (by omega) fun j hj2 p hp => ?_
    rcases Nat.lt_succ_iff_lt_or_eq.1 hj2 with h1 | rfl
    ·exact hj j h1 p hp
    ·rw [cB hil] at hp
     obtain rfl := gD hp;exact e
 exact loop ns.length 0 (by omega) (fun j hj => by omega)
theorem abK {ns : List (Int × Nat)} {obj : Int} (h : ns.findIdx? (fun p => p.1 == obj) = none) : atN ns obj = -1 := by unfold atN; rw [h]
theorem abL {ns : List (Int × Nat)} {obj : Int} {i : Nat} (h : ns.findIdx? (fun p => p.1 == obj) = some i) : atN ns obj = i := by unfold atN; rw [h]
theorem Zh {ns : List (Int × Nat)} {obj : Int} (h : ns.findIdx? (fun p => p.1 == obj) = none) (n : Nat) (k : Int) : HY (ns ++ [(obj, n)]) k = if k = obj then some n else HY ns k := by
 have hn : ns.find? (fun p => p.1 == obj) = none := by
  rw [List.find?_eq_none];rw [List.findIdx?_eq_none_iff] at h;intro p hp;have := h p hp
  simpa using this
 unfold HY;rw [List.find?_append]
 by_cases e : k = obj
 ·subst e
  rw [hn, if_pos rfl];simp
 ·rw [if_neg e]
  have : ([(obj, n)] : List (Int × Nat)).find? (fun p => p.1 == k) = none := by
   rw [List.find?_eq_none];intro p hp
   obtain rfl : p = (obj, n) := by simpa using hp
   simpa using fun q => e q.symm
  rw [this]
  cases ns.find? (fun p => p.1 == k) <;> rfl
theorem ag8 (obj : Int) (n : Nat) (k : Int) : ∀ {ns : List (Int × Nat)} {i : Nat}, ns.findIdx? (fun p => p.1 == obj) = some i → HY (ns.set i (obj, n)) k = if k = obj then some n else HY ns k := by
 intro ns
 induction ns with
 | nil => intro i h; simp at h
 | cons p ns ih =>
  intro i h;rw [List.findIdx?_cons] at h
  by_cases e : p.1 = obj
  ·rw [if_pos (by simpa using e)] at h
   obtain rfl := gD h;simp only [List.set_cons_zero, HY, List.find?_cons]
   by_cases e2 : k = obj
   ·subst e2; simp
   ·have h1 : ((obj == k) : Bool) = false := by simpa using fun q => e2 q.symm
    have h2 : ((p.1 == k) : Bool) = false := by rw [e]; exact h1
    simp [h1, h2, e2]
  ·rw [if_neg (by simpa using e)] at h
   obtain ⟨j, hj, rfl⟩ := bj.1 h;have := ih hj;simp only [List.set_cons_succ, HY, List.find?_cons] at this ⊢
   by_cases e2 : p.1 = k
   ·have h1 : ((p.1 == k) : Bool) = true := by simpa using e2
    simp only [h1];rw [if_neg (fun q => e (e2.trans q))]
   ·have h1 : ((p.1 == k) : Bool) = false := by simpa using e2
    simp only [h1];exact this
theorem Pd (ib m : Nat) (sh : Int) (nx : Int → Option Nat) (L : Nat) (μ : Mu) (who obj : Int) (next : Nat) (hL : L < 900000) (hE : μ.N < 1099511627000) :
 Sp kg [vp ib, vi who, vi obj, vu next] (gW ib m sh nx L * bK m μ) (fun _ : Unit => .tuple #[]) (fun _ => gW ib m sh (fun k => if k = obj then some next else nx k) (L + 1) * bK m (μ.acc who 6 (14, obj, 0))) := by
 refine aO fun R H h => ?_;obtain ⟨kv, nv, ns, ⟨hn, hl⟩, h0⟩ := pC (ib := ib) (m := m) (sh := sh) (nx := nx) (L := L) (R := bK m μ * R) (H := H) h.to;refine bm (fun r => y8 _ _ _ _ H) ?_;refine bC ae ?_;refine aV h0 rfl ?_;refine af h0 (dG 14 obj 0) fun _ H1 h1 => ?_;refine aI h1 h0 (by rfl) ?_;refine af h1 ((aaX m μ who 6 (14, obj, 0) (by omega)).imp fun _ R H h => yl (N' := μ.N + 2) (by simp) h) fun _ H2 h2 => ?_;refine af h2 (aaW ib m sh kv nv ns (by omega) obj) fun _ H3 h3 => ?_
 cases hf : ns.findIdx? (fun p => p.1 == obj) with
 | none =>
  rw [abK hf];refine aa (cE (by omega)) ?_;refine gs ?_;refine ak h3 ae rfl ?_;refine MS h3 fun b0 H4 h4 => ?_;refine f5 (s := kv) (l := ns.map fun p : Int × Nat => p.1) (obj : Int) h4 rfl ?_ (by omega) fun a c H5 h5 => ?_
  ·unfold room; simp only [us]; omega
  refine bC ae ?_;refine aV h5 rfl ?_;refine aI h4 h5 (by rfl) ?_;refine MS h5 fun b1 H6 h6 => ?_;refine f5 (s := nv) (l := ns.map fun p : Int × Nat => p.2) (next : Nat) h6 rfl ?_ (by omega) fun a2 c2 H7 h7 => ?_
  ·unfold room; simp only [us]; omega
  refine bk h7 ae rfl rfl fun H8 h8 => ?_;refine bk h8 ae rfl rfl fun H9 h9 => ?_
  have e1 : (ns ++ [(obj, next)]).map (fun p : Int × Nat => p.1) = (ns.map fun p : Int × Nat => p.1) ++ [obj] := by rw [HV]; rfl
  have e2 : (ns ++ [(obj, next)]).map (fun p : Int × Nat => p.2) = (ns.map fun p : Int × Nat => p.2) ++ [next] := by rw [HV]; rfl
  refine am ⟨(), rfl, ?_⟩;have h10 := iU (ib := ib) (m := m) (sh := sh) (nx := fun k => if k = obj then some next else nx k) (L := L + 1) (kv := .slice a ((ns.map fun p : Int × Nat => p.1).length + 1) c) (nv := .slice a2 ((ns.map fun p : Int × Nat => p.2).length + 1) c2) (ns := ns ++ [(obj, next)])
   (R := bK m (μ.acc who 6 (14, obj, 0)) * R) (H := H9) ⟨fun k => by rw [Zh hf, hn], by simp; omega⟩ (by rw [e1, e2]; exact h9.to)
  exact h10.to
 | some i =>
  rw [abL hf];have hi := (List.findIdx?_eq_some_iff_getElem.1 hf);obtain ⟨hil, hk, _⟩ := hi;refine aa (bP (by omega)) ?_;refine gs ?_;refine ak h3 ae rfl ?_;refine JU (s := nv) (l := ns.map fun p : Int × Nat => p.2) (i := i) (next : Nat) h3 (by simpa using hil) (.inl ⟨rfl, rfl⟩) rfl (by omega) rfl (by simp [PZ, splice]) fun H4 h4 => ?_
  have e1 : (ns.set i (obj, next)).map (fun p : Int × Nat => p.1) = ns.map fun p : Int × Nat => p.1 := by
   rw [List.map_set];apply List.ext_getElem?;intro j;rw [List.getElem?_set]
   split
   ·rename_i e
    subst e
    have hk : ns[i].1 = obj := by simpa using hk
    simp [hil, hk]
   ·rfl
  have e2 : (ns.set i (obj, next)).map (fun p : Int × Nat => p.2) = (ns.map fun p : Int × Nat => p.2).set i next := by rw [List.map_set]
  refine am ⟨(), rfl, ?_⟩;have h10 := iU (ib := ib) (m := m) (sh := sh) (nx := fun k => if k = obj then some next else nx k) (L := L + 1) (kv := kv) (nv := nv) (ns := ns.set i (obj, next))
   (R := bK m (μ.acc who 6 (14, obj, 0)) * R) (H := H4) ⟨fun k => by rw [ag8 obj next k hf, hn], by rw [N6]; omega⟩ (by rw [e1, e2]; exact h4.to)
  exact h10.to
theorem w5 {σ : aM} {o : Nat} (ho : o < σ.obs.length) : az σ o = (σ.obs[o]).2 := by
 unfold az;rw [cB ho]; rfl
theorem BL (p : Nat) (g : PIds) (σ : aM) (o b : Nat) (hl : g.rp.length = σ.obs.length) (ho : o < σ.obs.length) (hb : g.rp[o]? = some b) :
 ∃ R, aA p g σ = cF g.m o b (az σ o) * bF g.m σ.μ * R ∧ ∀ μ' cs', aA p g { σ with μ := μ', obs := σ.obs.modify o fun q => (q.1, cs') } = cF g.m o b cs' * bF g.m μ' * R := by
 have hz : o < (g.rp.zip (σ.obs.map fun x => x.2)).length := by simp; omega
 obtain ⟨R, e1, e2⟩ := MG g.m (ps := g.rp.zip (σ.obs.map fun x => x.2)) (j := 0) hz
 have hrp : g.rp[o]'(by omega) = b := by
  rw [cB (by omega)] at hb;exact gD hb
 have e3 : (g.rp.zip (σ.obs.map fun x => x.2))[o] = (b, az σ o) := by
  rw [List.getElem_zip, w5 ho, List.getElem_map, hrp]
 rw [e3] at e1;rw [Nat.zero_add] at e1 e2
 refine ⟨blk p (.cells false [vp g.m, vp g.ib, vp g.tb, vp g.po, vp g.co, vi σ.c.sh, vi σ.c.sl, vi σ.c.wk, vi σ.c.wd, vu σ.c.un, g.ov, .map (some g.pm), g.pv]) * (lX g.ib g.m g.nm σ.c σ.nx * (tab g.tb g.m σ.c.sh.toNat σ.c.sl.toNat * (ts 4 NC g.ov ((σ.obs.map fun x => x.1).zip g.rp) * (R *
  (mpS Pl g.pm (fun k => (σ.places k).map fun n => vi n) * ts 7 Pt.cells g.pv σ.pts))))), ?_, fun μ' cs' => ?_⟩
 ·unfold aA
  rw [e1]
  ac_rfl
 ·unfold aA
  dsimp only
  have e4 : (σ.obs.modify o fun q => (q.1, cs')).map (fun x => x.1) = σ.obs.map fun x => x.1 := by
   apply List.ext_getElem?;intro j;simp only [An, List.getElem?_modify]
   cases σ.obs[j]? with
   | none => rfl
   | some q => simp only [fp]; split <;> rfl
  have e5 : g.rp.zip ((σ.obs.modify o fun q => (q.1, cs')).map fun x => x.2) = (g.rp.zip (σ.obs.map fun x => x.2)).set o (b, cs') := by
   apply List.ext_getElem?;intro j;rw [List.getElem?_set]
   by_cases hj : o = j
   ·subst hj
    rw [if_pos rfl, if_pos hz];exact List.getElem?_zip_eq_some.2 ⟨hb, by simp [List.getElem?_modify, cB ho]⟩
   ·rw [if_neg hj]
    have : (List.map (fun x => x.2) (σ.obs.modify o fun q => (q.1, cs')))[j]? = (σ.obs.map fun x => x.2)[j]? := by
     simp only [An, List.getElem?_modify]
     cases σ.obs[j]? with
     | none => rfl
     | some q => show some (if o = j then (q.1, cs') else q).2 = some q.2; rw [if_neg hj]
    simp only [List.zip, List.getElem?_zipWith, this]
  rw [e4, e5, e2]
  ac_rfl
theorem F7 {σ : aM} {o : Nat} (ho : o < σ.obs.length) : (σ.obs.modify o fun q => (q.1, az σ o)) = σ.obs := by
 apply List.ext_getElem?;intro j;rw [List.getElem?_modify]
 cases hj : σ.obs[j]? with
 | none => rfl
 | some q =>
  show some (if o = j then _ else _) = some q
  by_cases e : o = j
  ·subst e
   rw [if_pos rfl];unfold az;rw [hj]; rfl
  ·rw [if_neg e]
section
variable {f : Nat} {args : List Value} {v : Unit → Value} {p : Nat} {g : PIds} {σ : aM} {o b : Nat}
theorem aa6 {μ' : Mu} {cs' : List Pk} (hl : g.rp.length = σ.obs.length) (ho : o < σ.obs.length) (hb : g.rp[o]? = some b)
 (s : Sp f args (cF g.m o b (az σ o) * bF g.m σ.μ) v (fun _ => cF g.m o b cs' * bF g.m μ')) :
 Sp f args (aA p g σ) v (fun _ => aA p g { σ with μ := μ', obs := σ.obs.modify o fun q => (q.1, cs') }) := by
 obtain ⟨R', e1, e2⟩ := BL p g σ o b hl ho hb;intro R H h;rw [e1, ai] at h;obtain ⟨x, H', h1, h2⟩ := s _ _ h;exact ⟨x, H', h1, by rw [e2, ai]; exact h2⟩
theorem jf {μ' : Mu} (hl : g.rp.length = σ.obs.length) (ho : o < σ.obs.length) (hb : g.rp[o]? = some b)
 (s : Sp f args (cF g.m o b (az σ o) * bF g.m σ.μ) v (fun _ => cF g.m o b (az σ o) * bF g.m μ')) :
 Sp f args (aA p g σ) v (fun _ => aA p g (σ.mem μ')) := by
 have := aa6 (p := p) hl ho hb s;rw [F7 ho] at this;exact this
theorem SJ (hl : g.rp.length = σ.obs.length) (ho : o < σ.obs.length) (hb : g.rp[o]? = some b)
 (s : Sp f args (cF g.m o b (az σ o)) v (fun _ => cF g.m o b (az σ o))) :
 Sp f args (aA p g σ) v (fun _ => aA p g σ) := by
 obtain ⟨R', e1, _⟩ := BL p g σ o b hl ho hb;intro R H h;rw [e1, ai, ai] at h;obtain ⟨x, H', h1, h2⟩ := s _ _ h;exact ⟨x, H', h1, by rw [e1, ai, ai]; exact h2⟩
theorem wN {μ' : Mu} (s : Sp f args (tab g.tb g.m σ.c.sh.toNat σ.c.sl.toNat * bF g.m σ.μ) v (fun _ => tab g.tb g.m σ.c.sh.toNat σ.c.sl.toNat * bF g.m μ')) :
 Sp f args (aA p g σ) v (fun _ => aA p g (σ.mem μ')) := by
 intro R H h;unfold aA at h;obtain ⟨x, H', h1, h2⟩ := s _ H (ac.fr (A := tab g.tb g.m σ.c.sh.toNat σ.c.sl.toNat * bF g.m σ.μ) h);refine ⟨x, H', h1, ?_⟩;unfold aA;exact h2.to
theorem JZ (s : Sp f args (tab g.tb g.m σ.c.sh.toNat σ.c.sl.toNat) v (fun _ => tab g.tb g.m σ.c.sh.toNat σ.c.sl.toNat)) :
 Sp f args (aA p g σ) v (fun _ => aA p g σ) := by
 intro R H h;unfold aA at h;obtain ⟨x, H', h1, h2⟩ := s _ H (ac.fr (A := tab g.tb g.m σ.c.sh.toNat σ.c.sl.toNat) h);refine ⟨x, H', h1, ?_⟩;unfold aA;exact h2.to
theorem SH {μ' : Mu} (s : Sp f args (bF g.m σ.μ) v (fun _ => bF g.m μ')) : Sp f args (aA p g σ) v (fun _ => aA p g (σ.mem μ')) := by
 intro R H h;unfold aA at h;obtain ⟨x, H', h1, h2⟩ := s _ H (ac.fr (A := bF g.m σ.μ) h);refine ⟨x, H', h1, ?_⟩;unfold aA;exact h2.to
theorem IC {μ' : Mu} {nx' : Int → Option Nat} (s : Sp f args (lX g.ib g.m g.nm σ.c σ.nx * bF g.m σ.μ) v (fun _ => lX g.ib g.m g.nm σ.c nx' * bF g.m μ')) :
 Sp f args (aA p g σ) v (fun _ => aA p g { σ with μ := μ', nx := nx' }) := by
 intro R H h;unfold aA at h;obtain ⟨x, H', h1, h2⟩ := s _ H (ac.fr (A := lX g.ib g.m g.nm σ.c σ.nx * bF g.m σ.μ) h);refine ⟨x, H', h1, ?_⟩;unfold aA;exact h2.to
end
instance aq5 (p : Nat) (g : PIds) (σ : aM) : Hs (aA p g σ) p (.cells false [vp g.m, vp g.ib, vp g.tb, vp g.po, vp g.co, vi σ.c.sh, vi σ.c.sl, vi σ.c.wk, vi σ.c.wd, vu σ.c.un, g.ov, .map (some g.pm), g.pv]) := ⟨by
 intro H h;unfold aA at h
 exact h.left.get⟩
theorem nO {P P0 R : SP} {H : AH} {b fn : Nat} {args : List Value} {c : Int} {d : Bool} {Q0 : Unit → SP} {Q : Value → AH → Prop} (h : ac P H)
 (s : Sp fn args P0 (fun _ : Unit => .tuple #[.agg (ie c).toArray, vb d]) Q0) [fr : Fr P (P0 * blk b (.cells false [vi 0, .slice none 0 0, vi 0, vw 0])) R]
 (hk : ∀ H', ac (Q0 () * R) H' → Q (.tuple #[.agg (ie c).toArray, vb d]) H') :
 wp ((FF fn args H).bind fun r2 => (ag r2.1 0).bind fun v3 => (ag r2.1 1).bind fun v4 => (cH 4 (vp b) v3 r2.2).bind fun H5 => (ax 4 (vp b) H5).bind fun v6 => some (Value.tuple #[v6, v4], H5)) Q := by
 have h0 : ac (P0 * (blk b (.cells false [vi 0, .slice none 0 0, vi 0, vw 0]) * R)) H := by
  have := ac.fr (A := P0 * blk b (.cells false [vi 0, .slice none 0 0, vi 0, vw 0])) h;rw [ai] at this;exact this
 refine af h0 s fun _ H1 h1 => ?_;refine aa (v := .agg (ie c).toArray) rfl ?_;refine aa (v := vb d) rfl ?_;refine fi h1 rfl rfl fun H2 h2 => ?_;refine aZ h2 ?_;exact am (hk H2 h2.to)
abbrev fj (e n : Nat) : Value := .func (.func n) #[vp e] #[]
abbrev eB (e p : Nat) (nx rv : Value) (t : Tk) : SP :=
 blk e (.cells false [vp p, vi t.who, vi t.x.op, vi t.x.flow, vi t.x.a, vi t.x.b, vi t.s, nx, vi t.i, vi t.obj, vb t.found, rv, vu t.w, vu t.q, vi t.mark, vu t.top])
def CO : Nat → Nat
 | 0 => ne | 2 => j9 | 3 => dl | 4 => eW | 5 => eY | 6 => g6 | 7 => cg | 8 => mz
 | 9 => j8 | 10 => pI | 11 => mD | 12 => j7 | 13 => mE | 14 => mw | 15 => pJ | 16 => fF
 | 17 => fE | 18 => gi | 20 => mv | 21 => kc | 22 => dQ | 23 => mA | 24 => mC | _ => pH
def MI (rp : List Nat) (t : Tk) (v : Value) : Prop := 7 ≤ t.at' → ∃ b, rp[t.obj]? = some b ∧ v = vp b
def eP (e p : Nat) (rp : List Nat) (σ : aM) (t : Tk) : SP := ex fun v : Value => pu (MI rp t v) * (eB e p (fj e (CO t.at')) v t * bd p rp σ)
def eQ (e p : Nat) (rp : List Nat) (r : aM × Tk × Bool) : SP := if r.2.2 = true then bd p rp r.1 else eP e p rp r.1 r.2.1
abbrev bX (r : aM × Tk × Bool) : Value := .tuple #[.agg (ie (if r.2.2 = true then r.2.1.code else 0)).toArray, vb r.2.2]
theorem S9 {e p : Nat} {rp : List Nat} {σ : aM} {t : Tk} {R : SP} {H : AH} (h : ac (eP e p rp σ t * R) H) : ∃ v, MI rp t v ∧ ac (eB e p (fj e (CO t.at')) v t * (bd p rp σ * R)) H := by
 obtain ⟨v, h1⟩ := ac.ex.1 h;rw [ai, ac.pu] at h1;exact ⟨v, h1.1, h1.2.to⟩
theorem NB {e p : Nat} {rp : List Nat} {σ : aM} {t : Tk} {R : SP} {H : AH} {v : Value} {n : Nat} (hv : MI rp t v) (hn : CO t.at' = n) (h : ac (eB e p (fj e n) v t * (bd p rp σ * R)) H) : ac (eP e p rp σ t * R) H := by
 subst hn;exact ac.ex.2 ⟨v, by rw [ai]; exact ac.pu.2 ⟨hv, h.to⟩⟩
section
variable (e p : Nat)
theorem apH (nx rv : Value) (n : Nat) (t : Tk) : Sp bI [vp e, fj e n] (eB e p nx rv t) (fun _ : Unit => .tuple #[.agg (ie 0).toArray, vb false]) (fun _ => eB e p (fj e n) rv t) := by
 refine bh (acB _ _) fun R H h => ?_;refine br h fun b H1 h1 => ?_;refine bk h1 ae rfl rfl fun H2 h2 => ?_;refine jc ?_;refine fi h2 rfl rfl fun H3 h3 => ?_;refine aZ h3 ?_;exact am ⟨(), rfl, h3.to⟩
theorem aoL (rp : List Nat) (σ : aM) (step who code : Int) (hp : σ.pts.length < 1000000) : Sp f0 [vp p, vi step, vi who, .agg (ie code).toArray] (bd p rp σ) (fun _ : Unit => .tuple #[]) (fun _ => bd p rp (σ.note step who code)) := by
 refine aO fun R H h => ?_;obtain ⟨g, hrp, hg, h0⟩ := dz h;unfold aA at h0;refine bm (fun r => uu _ _ _ _ H) ?_;refine ba h0 fun b1 H1 h1 => ?_;refine bC ae ?_;refine aV h1 rfl ?_;refine bC ae ?_;refine aV h1 rfl ?_;refine Wp (ek := Pl) who h1 ?_;refine aZ h1 ?_;refine af h1 (Ib code) fun _ H2 h2 => ?_;refine aI h2 h1 rfl ?_;refine aI h2 h1 rfl ?_;refine ajQ who h2 h1 ?_
 have ev : (((σ.places who).map fun n => vi n).getD (vi 0)) = vi ((σ.places who).getD 0) := by cases σ.places who <;> rfl
 rw [ev];refine jc ?_;refine MS h2 fun b0 H3 h3 => ?_;refine f5 (⟨step, who, (σ.places who).getD 0, code⟩ : Pt) h3 rfl ?_ (by omega) fun a cc H4 h4 => ?_
 ·unfold room; omega
 refine bk h4 ae rfl rfl fun H5 h5 => ?_;refine am ⟨(), rfl, ?_⟩;refine bB { g with pv := .slice a (σ.pts.length + 1) cc } hrp hg ?_;unfold aA aM.note;exact h5.to
theorem xa (rp : List Nat) (σ : aM) (nx rv : Value) (t : Tk) (now code : Int) (hp : σ.pts.length < 1000000) :
 Sp mB [vp e, vi now, vi code] (eB e p nx rv t * bd p rp σ) (fun _ : Unit => .tuple #[]) (fun _ => eB e p nx rv t * bd p rp (σ.note now t.who code)) := by
 refine bh (PT _ _ _) fun R H h => ?_;refine ak h ae rfl ?_;refine ak h ae rfl ?_;refine jc ?_;refine af h (aoL p rp σ now t.who code hp) fun _ H1 h1 => ?_;exact am ⟨(), rfl, h1.to⟩
theorem Bv (rp : List Nat) (σ : aM) (nx rv : Value) (t : Tk) (now code : Int) (hp : σ.pts.length < 1000000) :
 Sp ja [vp e, vi now, vi code] (eB e p nx rv t * bd p rp σ) (fun _ : Unit => .tuple #[.agg (ie code).toArray, vb true]) (fun _ => eB e p nx rv t * bd p rp (σ.note now t.who code)) := by
 refine bh (Kb _ _ _) fun R H h => ?_;refine br h fun b H1 h1 => ?_;refine af h1 (xa e p rp σ nx rv t now code hp) fun _ H2 h2 => ?_;exact nO h2 (w9 (vp e) code) fun H3 h3 => ⟨(), rfl, h3.to⟩
end
theorem MU {α : Type} {P : SP} {H : AH} {e n g i : Nat} {enc : α → List Value} {l : List α} {s : Value} {Q : Value → AH → Prop} {k : Value → OV} {kk : IntKind} {cs : List Value} (h : ac P H) [r : Rd P s e enc l] [E : Enc enc e] (hi : i < l.length) (hg : g + n ≤ e)
 (hc : ((enc l[i]).drop g).take n = cs) (hk : wp (k (.agg cs.toArray)) Q) : wp (ldN n [.i e (.int kk (i : Int)), .f g] s H k) Q := by
 subst hc;obtain ⟨b, o, ro, row, rfl, h2, h3, h4⟩ := GR (s := s) (enc := enc) (l := l) h hi;unfold ldN;rw [WD hi, arD];have hm : (i + 1) * e ≤ l.length * e := Nat.mul_le_mul_right _ (by omega);rw [Nat.add_mul] at hm
 have : ax n (qL b (o + i * e + g)) H = some (.agg (((enc l[i]).drop g).take n).toArray) := by
  simp only [ax, uU, ei, bJ, h2];rw [if_pos (by omega)]
  congr 3
  rw [← D0 E.len l i hi, ← h4, List.drop_take, List.drop_take, List.drop_take, List.drop_drop, List.drop_drop, List.take_take, List.take_take, Nat.min_eq_left (by omega), Nat.min_eq_left (by omega), Nat.add_assoc]
 show wp ((ax n (qL b (o + i * e + g)) H).bind k) Q;rw [this]; exact hk
structure SOk (σ : aM) : Prop where
 c : cQ σ.c = true
 N : σ.μ.N < 800000
 pts : σ.pts.length < 900000
 V : ∀ l, σ.μ.V l < 18446744073709551616
 obs : σ.obs.length < 900000
 cells : ∀ o, o < σ.obs.length → 1 ≤ (az σ o).length ∧ (az σ o).length < 1000
 slot : ∀ s i, σ.μ.V (10, s, i) ≠ 0 → σ.μ.V (10, s, i) % 4294967296 < σ.obs.length
structure ij (σ : aM) (t : Tk) : Prop where
 obj : 6 ≤ t.at' ∨ t.at' = 5 ∧ t.found = true → t.obj < σ.obs.length
 s : t.s = (t.x.flow.tmod σ.c.sh + σ.c.sh).tmod σ.c.sh
 i : t.at' < 5 → t.at' ≠ 3 → (t.i : Int) < σ.c.sl
 w : t.w < 18446744073709551616
 c5 : t.at' = 5 → t.found = false → t.code = 5
 c0 : t.at' = 10 ∨ t.at' = 11 ∨ t.at' = 14 ∨ 21 ≤ t.at' → t.code = 0
 ats : t.at' = 0 ∨ t.at' = 2 ∨ t.at' = 3 ∨ t.at' = 4 ∨ t.at' = 5 ∨ t.at' = 6 ∨ t.at' = 7 ∨ t.at' = 8 ∨ t.at' = 9 ∨ t.at' = 10 ∨ t.at' = 11 ∨ t.at' = 12 ∨ t.at' = 13 ∨ t.at' = 14 ∨ t.at' = 15 ∨ t.at' = 16 ∨ t.at' = 17 ∨ t.at' = 18 ∨ t.at' = 20 ∨ t.at' = 21 ∨ t.at' = 22 ∨ t.at' = 23 ∨ t.at' = 24 ∨ t.at' = 25
section
variable (e p : Nat) (rp : List Nat) (g : PIds) (σ : aM) (nx rv : Value) (t : Tk) (now : Int)
theorem BM (hl : g.rp.length = σ.obs.length) (o : Nat) (ho : o < σ.obs.length) : Sp f2 [vp p, vi o] (aA p g σ) (fun _ : Unit => vb true) (fun _ => aA p g σ) := by
 have hz : ((σ.obs.map fun x => x.1).zip g.rp).length = σ.obs.length := by simp [hl]
 refine aO fun R H h => ?_;have h0 := h;unfold aA at h0;refine bm (fun r => ux _ _ H) ?_;refine aa (jV (by omega)) ?_;refine gs ?_;refine ak h ae rfl ?_;refine gs ?_;refine ii (s := g.ov) h0 ?_;rw [hz];refine gs ?_;refine aa (cE (by omega)) ?_;refine gs ?_;exact am ⟨(), rfl, h⟩
theorem sU (hl : g.rp.length = σ.obs.length) (o b : Nat) (ho : o < σ.obs.length) (hb : g.rp[o]? = some b) : Sp d8 [vp p, vi o] (aA p g σ) (fun _ : Unit => vp b) (fun _ => aA p g σ) := by
 have hz : ((σ.obs.map fun x => x.1).zip g.rp).length = σ.obs.length := by simp [hl]
 refine bh (uv _ _) fun R H h => ?_;refine af h (BM p g σ hl o ho) fun _ H1 h1 => ?_;refine gs ?_;rw [Bool.not_true];refine gs ?_;refine ak h1 ae rfl ?_;have h2 := h1;unfold aA at h2
 have hb' : g.rp[o]'(by omega) = b := by rw [cB (by omega)] at hb; exact gD hb
 refine jO (v := vp b) (enc := NC) (l := (σ.obs.map fun x : Ob × List Pk => x.1).zip g.rp) h2 (by omega) (by omega) ?_ ?_
 ·show some (vp ((σ.obs.map fun x => x.1).zip g.rp)[o].2) = _
  rw [List.getElem_zip, hb']
 exact am ⟨(), rfl, h1.to⟩
theorem Ry (hl : g.rp.length = σ.obs.length) (who : Int) (o : Nat) (ho : o < σ.obs.length) (hN : σ.μ.N < 800000) : Sp jw [vp p, vi who, vi o] (aA p g σ) (fun v : Value => v) (fun _ => aA p g (σ.mem (σ.μ.acc who 5 (13, (o : Int), 0)))) := by
 have hz : ((σ.obs.map fun x => x.1).zip g.rp).length = σ.obs.length := by simp [hl]
 refine bh (vU _ _ _) fun R H h => ?_;refine br h fun b H1 h1 => ?_;refine af h1 (BM p g σ hl o ho) fun _ H2 h2 => ?_;refine gs ?_;rw [Bool.not_true];refine gs ?_;refine ak h2 ae rfl ?_;refine jc ?_;refine af h2 (SH (p := p) (g := g) (σ := σ) ((agZ g.m σ.μ who (13, (o : Int), 0) (by omega)).imp fun _ R H h => jr (N' := σ.μ.N + 2) (by simp) h)) fun _ H3 h3 => ?_;refine ak h3 ae rfl ?_;have h4 := h3;unfold aA at h4;refine MU (enc := NC) (l := (σ.obs.map fun x : Ob × List Pk => x.1).zip g.rp) h4 (by omega) (by omega) (show _ = [_, _, _] from rfl) ?_;refine fi h3 rfl rfl fun H5 h5 => ?_;refine aZ h5 ?_;exact am ⟨_, rfl, h5.to⟩
theorem qC (who : Int) (hN : σ.μ.N < 800000) : Sp dD [vp p, vi who] (aA p g σ) (fun _ : Unit => vu (σ.μ.V (2, 0, 0))) (fun _ => aA p g (σ.mem (σ.μ.acc who 1 (2, 0, 0)))) := by
 refine bh (vV _ _) fun R H h => ?_;refine ak h ae rfl ?_;refine jc ?_;refine af h (SH (p := p) (g := g) (σ := σ) (Ga g.m σ.μ who (2, 0, 0) (by omega))) fun _ H1 h1 => ?_;exact am ⟨(), rfl, h1.to⟩
theorem Oh (who : Int) (hN : σ.μ.N < 800000) : Sp d9 [vp p, vi who] (aA p g σ) (fun _ : Unit => .tuple #[]) (fun _ => aA p g (σ.mem (σ.μ.cnt who (2, 0, 0) 1))) := by
 refine bh (uw _ _) fun R H h => ?_;refine ak h ae rfl ?_;refine jc ?_;refine af h (SH (p := p) (g := g) (σ := σ) (ahL g.m σ.μ who (2, 0, 0) 1 (by omega))) fun _ H1 h1 => ?_;exact am ⟨(), rfl, h1.to⟩
theorem G3 (b : Bool) (h : qn (σ.μ.V (10, t.s, (t.i : Int))) t.x.flow = b) : aL σ t = { t with i := t.i + 1, found := b, obj := if b = true then σ.μ.V (10, t.s, (t.i : Int)) % 4294967296 else t.obj } := by
 subst h
 rfl
theorem Tb (S : SOk σ) (hi : (t.i : Int) < σ.c.sl) : Sp yo [vp e] (eB e p nx rv t * aA p g σ) (fun _ : Unit => vb (cn σ (aL σ t))) (fun _ => eB e p nx rv (aL σ t) * aA p g (aY σ t)) := by
 have hc := bL.1 S.c;refine bh (WU _) fun R H h => ?_;refine ak h ae rfl ?_;refine ak h ae rfl ?_;refine ak h ae rfl ?_;refine ak h ae rfl ?_;refine ak h ae rfl ?_;refine af h (wN (p := p) (g := g) (σ := σ) (B4 g.tb g.m σ.c.sh.toNat σ.c.sl.toNat σ.μ t.who t.s t.i (by have := S.N; omega) (S.V _))) fun _ H1 h1 => ?_
 have fin : ∀ (t1 : Tk) (H' : AH), t1.i = t.i + 1 → ac (eB e p nx rv t1 * (aA p g (aY σ t) * R)) H' → wp (tN (vp e) (vb false) H') fun v' H' => ∃ _x : Unit, v' = vb (cn σ t1) ∧ ac (eB e p nx rv t1 * aA p g (aY σ t) * R) H' := by
  intro t1 H' hi1 h';refine ah (Ka _ _ H') ?_;refine bC ae ?_;refine aV h' rfl ?_;refine ak h' ae rfl ?_;refine ak h' ae rfl ?_;refine af h' (JZ (p := p) (g := g) (σ := aY σ t) (B5 g.tb g.m σ.c.sh.toNat σ.c.sl.toNat)) fun _ H2 h2 => ?_;refine aI h2 h' (by rfl) ?_;refine aa (v := vb (cn σ t1)) ?_ ?_
  ·rw [tF]
   congr 3
   apply propext;omega
  exact am ⟨(), rfl, h2.to⟩
 by_cases hv : σ.μ.V (10, t.s, (t.i : Int)) = 0
 ·have e1 : io (σ.μ.V (10, t.s, (t.i : Int))) = .tuple #[vi 0, vi 0, vb false] := by rw [io, if_pos hv]
  rw [e1];refine aa (v := vi 0) rfl ?_;refine aa (v := vi 0) rfl ?_;refine aa (v := vb false) rfl ?_;refine ak h1 ae rfl ?_;refine aa (aS (by omega) (by omega)) ?_;rw [show ((t.i : Nat) : Int) + 1 = ((t.i + 1 : Nat) : Int) from by omega];refine bk h1 ae rfl rfl fun H2 h2 => ?_;refine ah (w6 _ _ _ _ _ H2) ?_;refine gs ?_;refine bk h2 ae rfl rfl fun H3 h3 => ?_;refine ak h3 ae rfl ?_;refine gs ?_
  have e2 : aL σ t = { t with i := t.i + 1, found := false } := by
   have : qn (σ.μ.V (10, t.s, (t.i : Int))) t.x.flow = false := by simp [qn, hv]
   exact (G3 σ t _ this).trans rfl
  rw [e2];exact fin _ H3 rfl h3.to
 ·have e1 : io (σ.μ.V (10, t.s, (t.i : Int))) = .tuple #[vi ((σ.μ.V (10, t.s, (t.i : Int)) / 4294967296 : Nat) - 1), vi (σ.μ.V (10, t.s, (t.i : Int)) % 4294967296 : Nat), vb true] := by rw [io, if_neg hv]
  rw [e1];refine aa (v := vi ((σ.μ.V (10, t.s, (t.i : Int)) / 4294967296 : Nat) - 1)) rfl ?_;refine aa (v := vi (σ.μ.V (10, t.s, (t.i : Int)) % 4294967296 : Nat)) rfl ?_;refine aa (v := vb true) rfl ?_;refine ak h1 ae rfl ?_;refine aa (aS (by omega) (by omega)) ?_;rw [show ((t.i : Nat) : Int) + 1 = ((t.i + 1 : Nat) : Int) from by omega];refine bk h1 ae rfl rfl fun H2 h2 => ?_;refine ah (w6 _ _ _ _ _ H2) ?_;refine gs ?_;refine ak h2 (b7 (aR (aR bf))) rfl ?_
  by_cases hf : ((σ.μ.V (10, t.s, (t.i : Int)) / 4294967296 : Nat) : Int) - 1 = t.x.flow
  ·refine mq ?_
   refine aa (bg hf) ?_;refine gs ?_;refine bk h2 ae rfl rfl fun H3 h3 => ?_;refine ak h3 ae rfl ?_;refine gs ?_;refine bk h3 ae rfl rfl fun H4 h4 => ?_
   have e2 : aL σ t = { t with i := t.i + 1, found := true, obj := σ.μ.V (10, t.s, (t.i : Int)) % 4294967296 } := by
    have : qn (σ.μ.V (10, t.s, (t.i : Int))) t.x.flow = true := eu ⟨hv, hf⟩;exact (G3 σ t _ this).trans rfl
   rw [e2];exact fin _ H4 rfl h4.to
  ·refine mq ?_
   refine aa (aE hf) ?_;refine gs ?_;refine bk h2 ae rfl rfl fun H3 h3 => ?_;refine ak h3 ae rfl ?_;refine gs ?_
   have e2 : aL σ t = { t with i := t.i + 1, found := false } := by
    have : qn (σ.μ.V (10, t.s, (t.i : Int))) t.x.flow = false := d4 fun q => hf q.2;exact (G3 σ t _ this).trans rfl
   rw [e2];exact fin _ H3 rfl h3.to
end
theorem iR {rp : List Nat} {t : Tk} {v : Value} (h : t.at' < 7) : MI rp t v := fun h' => by omega
theorem cT {rp : List Nat} {t : Tk} {b : Nat} (h : rp[t.obj]? = some b) : MI rp t (vp b) := fun _ => ⟨b, h, rfl⟩
section
variable {e p : Nat} {rp : List Nat} {g : PIds} {σ σ' : aM} {t t' : Tk} {R P : SP} {H : AH} {r : aM × Tk × Bool} {v : Value} {n : Nat} {c : Int}
theorem dP (h : ac (eP e p rp σ t * R) H) : ∃ (nx rv : Value) (g : PIds), MI rp t rv ∧ g.rp = rp ∧ rp.length = σ.obs.length ∧ nx = fj e (CO t.at') ∧ ac (eB e p nx rv t * (aA p g σ * R)) H := by
 obtain ⟨rv, h1, h2⟩ := S9 h;obtain ⟨g, h3, h4, h5⟩ := dz (p := p) (rp := rp) (σ := σ) (R := eB e p (fj e (CO t.at')) rv t * R) (H := H) h2.to;exact ⟨_, rv, g, h1, h3, h4, rfl, h5.to⟩
theorem Ke (hr : r = (σ', t', false)) (hv : MI rp t' v) (hn : CO t'.at' = n) (h : ac (eB e p (fj e n) v t' * (bd p rp σ' * R)) H) :
 ∃ x : Unit, (.tuple #[.agg (ie 0).toArray, vb false]) = bX r ∧ ac (eQ e p rp r * R) H := by
 subst hr;exact ⟨(), rfl, NB hv hn h⟩
theorem dU (hr : r = (σ', t', false)) (hv : MI g.rp t' v) (hn : CO t'.at' = n) (hl : g.rp.length = σ'.obs.length) (h : ac (eB e p (fj e n) v t' * (aA p g σ' * R)) H) :
 ∃ x : Unit, (.tuple #[.agg (ie 0).toArray, vb false]) = bX r ∧ ac (eQ e p g.rp r * R) H := by
 refine Ke hr hv hn ?_;have h1 := bB (p := p) (rp := g.rp) (σ := σ') (R := eB e p (fj e n) v t' * R) g rfl hl h.to;exact h1.to
theorem EY (hr : r = (σ', t', true)) (hc : t'.code = c) (h : ac (bd p rp σ' * R) H) :
 ∃ x : Unit, (.tuple #[.agg (ie c).toArray, vb true]) = bX r ∧ ac (eQ e p rp r * R) H := by
 subst hr;subst hc;exact ⟨(), rfl, h⟩
theorem gQ (nx rv : Value) (t' : Tk) (n : Nat) {b : Nat} {Q : Value → AH → Prop} (h : ac P H) [fr : Fr P (eB e p nx rv t' * blk b (.cells false [vi 0, .slice none 0 0, vi 0, vw 0])) R]
 (hk : ∀ H', ac (eB e p (fj e n) rv t' * R) H' → Q (.tuple #[.agg (ie 0).toArray, vb false]) H') :
 wp ((FF bI [vp e, fj e n] H).bind fun r2 => (ag r2.1 0).bind fun v3 => (ag r2.1 1).bind fun v4 => (cH 4 (vp b) v3 r2.2).bind fun H5 => (ax 4 (vp b) H5).bind fun v6 => some (Value.tuple #[v6, v4], H5)) Q :=
 nO h (apH e p nx rv n t') hk
end
section
variable (e p : Nat) (rp : List Nat) (σ : aM) (t : Tk) (now : Int)
theorem Z9 (S : SOk σ) (T : ij σ t) (hat : t.at' = 3) : Sp dl [vp e, vi now] (eP e p rp σ t) (fun _ : Unit => bX (ap σ t now)) (fun _ => eQ e p rp (ap σ t now)) := by
 have hN : σ.μ.N < 1099511627000 := by have := S.N; omega
 refine aO fun R H h => ?_;obtain ⟨nx, rv, g, hv, rfl, hl, _, h0⟩ := dP h;refine bm (fun r => PR _ _ H) ?_;refine br h0 fun b1 H1 h1 => ?_;refine ak h1 ae rfl ?_;refine ak h1 ae rfl ?_;refine ak h1 ae rfl ?_;refine ak h1 ae rfl ?_;refine af h1 (wN (p := p) (g := g) (σ := σ) (wG g.tb g.m σ.c.sh.toNat σ.c.sl.toNat σ.μ t.who t.s hN)) fun _ H2 h2 => ?_
 by_cases hw : σ.μ.V (8, t.s, 0) = 0
 ·rw [eu hw]
  refine gs ?_;rw [Bool.not_true];refine gs ?_;refine bk h2 ae rfl rfl fun H3 h3 => ?_;refine gQ (e := e) (p := p) nx rv { t with at' := 4, i := 0 } eW h3 fun H9 h9 => ?_;exact dU (σ' := σ.mem (σ.μ.swp t.who (8, t.s, 0) 0 1)) (t' := { t with at' := 4, i := 0 }) (v := rv) (n := eW) (by simp only [ap, hat]; rw [if_pos hw]) (iR (by simp)) rfl hl h9.to
 ·rw [d4 hw]
  refine gs ?_;rw [Bool.not_false];refine gs ?_;refine gQ (e := e) (p := p) nx rv t dl h2 fun H9 h9 => ?_;exact dU (σ' := σ.mem (σ.μ.swp t.who (8, t.s, 0) 0 1)) (t' := t) (v := rv) (n := dl) (by simp only [ap, hat]; rw [if_neg hw]) (iR (by omega)) (by rw [hat]; rfl) hl h9.to
theorem OR (S : SOk σ) (T : ij σ t) (hat : t.at' = 5) : Sp eY [vp e, vi now] (eP e p rp σ t) (fun _ : Unit => bX (ap σ t now)) (fun _ => eQ e p rp (ap σ t now)) := by
 have hN : σ.μ.N < 1099511627000 := by have := S.N; omega
 refine aO fun R H h => ?_;obtain ⟨nx, rv, g, hv, rfl, hl, _, h0⟩ := dP h;refine bm (fun r => Kd _ _ H) ?_;refine br h0 fun b1 H1 h1 => ?_;refine ak h1 ae rfl ?_;refine ak h1 ae rfl ?_;refine ak h1 ae rfl ?_;refine ak h1 ae rfl ?_;refine af h1 (wN (p := p) (g := g) (σ := σ) (zG g.tb g.m σ.c.sh.toNat σ.c.sl.toNat σ.μ t.who t.s hN)) fun _ H2 h2 => ?_;refine ak h2 ae rfl ?_;cases hf : t.found
 ·refine gs ?_
  rw [Bool.not_false];refine gs ?_;refine nO h2 (w9 (vp e) 5) fun H9 h9 => ?_;exact EY (σ' := σ.mem ((σ.μ.acc t.who 2 (8, t.s, 0)).put (8, t.s, 0) 0)) (t' := { t with at' := 6 }) (by simp only [ap, hat, hf]; rfl) (T.c5 hat hf) (bB (p := p) (rp := g.rp) (R := R) g rfl hl h9.to)
 ·refine gs ?_
  rw [Bool.not_true];refine gs ?_;refine gQ (e := e) (p := p) nx rv { t with at' := 6 } g6 h2 fun H9 h9 => ?_;exact dU (σ' := σ.mem ((σ.μ.acc t.who 2 (8, t.s, 0)).put (8, t.s, 0) 0)) (t' := { t with at' := 6 }) (v := rv) (n := g6) (by simp only [ap, hat, hf]; rfl) (iR (by simp)) rfl hl h9.to
theorem aaA (S : SOk σ) (T : ij σ t) (hat : t.at' = 6) : Sp g6 [vp e, vi now] (eP e p rp σ t) (fun _ : Unit => bX (ap σ t now)) (fun _ => eQ e p rp (ap σ t now)) := by
 have hN : σ.μ.N < 1099511627000 := by have := S.N; omega
 refine aO fun R H h => ?_;obtain ⟨nx, rv, g, hv, rfl, hl, _, h0⟩ := dP h;have ho := T.obj (.inl (by omega));obtain ⟨b, hb⟩ : ∃ b, g.rp[t.obj]? = some b := ⟨_, cB (by omega)⟩;refine bm (fun r => PS _ _ H) ?_;refine br h0 fun b1 H1 h1 => ?_;refine ak h1 ae rfl ?_;refine ak h1 ae rfl ?_;refine ak h1 ae rfl ?_;refine af h1 (Ry p g σ hl t.who t.obj ho S.N) fun _ H2 h2 => ?_;refine ak h2 ae rfl ?_;refine ak h2 ae rfl ?_;refine af h2 (sU p g (σ.mem (σ.μ.acc t.who 5 (13, (t.obj : Int), 0))) hl t.obj b ho hb) fun _ H3 h3 => ?_;refine bk h3 ae rfl rfl fun H4 h4 => ?_;refine gQ (e := e) (p := p) nx (vp b) { t with at' := 7 } cg h4 fun H9 h9 => ?_;exact dU (σ' := σ.mem (σ.μ.acc t.who 5 (13, (t.obj : Int), 0))) (t' := { t with at' := 7 }) (v := (vp b)) (n := cg) (by simp only [ap, hat]) (cT hb) rfl hl h9.to
theorem aaE (S : SOk σ) (T : ij σ t) (hat : t.at' = 7) : Sp cg [vp e, vi now] (eP e p rp σ t) (fun _ : Unit => bX (ap σ t now)) (fun _ => eQ e p rp (ap σ t now)) := by
 have hN : σ.μ.N < 1099511627000 := by have := S.N; omega
 refine aO fun R H h => ?_;obtain ⟨nx, rv, g, hv, rfl, hl, _, h0⟩ := dP h;obtain ⟨b, hb, rfl⟩ := hv (by omega);have ho := T.obj (.inl (by omega));refine bm (fun r => PY _ _ H) ?_;refine br h0 fun b1 H1 h1 => ?_;refine ak h1 ae rfl ?_;refine ak h1 ae rfl ?_;refine af h1 (jf (p := p) hl ho hb (Bg g.m t.obj b (az σ t.obj) σ.μ t.who hN)) fun _ H2 h2 => ?_;refine bk h2 ae rfl rfl fun H3 h3 => ?_;refine ak h3 ae rfl ?_;refine af h3 (i1 _ (S.V _)) fun _ H4 h4 => ?_
 by_cases hw : aN (σ.μ.V (11, (t.obj : Int), 0)) = 2
 ·refine aa (bg hw) ?_
  refine gs ?_;refine gQ (e := e) (p := p) nx (vp b) { t with w := σ.μ.V (11, (t.obj : Int), 0), at' := 3 } dl h4 fun H9 h9 => ?_;exact dU (σ' := dg σ t) (t' := { t with w := σ.μ.V (11, (t.obj : Int), 0), at' := 3 }) (v := (vp b)) (n := dl) (by simp only [ap, hat]; rw [if_pos hw]) (iR (by simp)) rfl hl h9.to
 ·refine aa (aE hw) ?_
  refine gs ?_;refine gQ (e := e) (p := p) nx (vp b) { t with w := σ.μ.V (11, (t.obj : Int), 0), at' := 8 } mz h4 fun H9 h9 => ?_;exact dU (σ' := dg σ t) (t' := { t with w := σ.μ.V (11, (t.obj : Int), 0), at' := 8 }) (v := (vp b)) (n := mz) (by simp only [ap, hat]; rw [if_neg hw]) (cT hb) rfl hl h9.to
theorem Hc (S : SOk σ) (T : ij σ t) (hat : t.at' = 16) : Sp fF [vp e, vi now] (eP e p rp σ t) (fun _ : Unit => bX (ap σ t now)) (fun _ => eQ e p rp (ap σ t now)) := by
 have hN : σ.μ.N < 1099511627000 := by have := S.N; omega
 refine aO fun R H h => ?_;obtain ⟨nx, rv, g, hv, rfl, hl, _, h0⟩ := dP h;obtain ⟨b, hb, rfl⟩ := hv (by omega);have ho := T.obj (.inl (by omega));refine bm (fun r => Ci _ _ H) ?_;refine br h0 fun b1 H1 h1 => ?_;refine ak h1 ae rfl ?_;refine ak h1 ae rfl ?_;refine af h1 (jf (p := p) hl ho hb (Bg g.m t.obj b (az σ t.obj) σ.μ t.who hN)) fun _ H2 h2 => ?_;refine bk h2 ae rfl rfl fun H3 h3 => ?_;refine ak h3 ae rfl ?_;refine af h3 (i1 _ (S.V _)) fun _ H4 h4 => ?_
 by_cases hw : aN (σ.μ.V (11, (t.obj : Int), 0)) = 2
 ·refine aa (bg hw) ?_
  refine gs ?_;refine gQ (e := e) (p := p) nx (vp b) { t with w := σ.μ.V (11, (t.obj : Int), 0), at' := 3 } dl h4 fun H9 h9 => ?_;exact dU (σ' := dg σ t) (t' := { t with w := σ.μ.V (11, (t.obj : Int), 0), at' := 3 }) (v := (vp b)) (n := dl) (by simp only [ap, hat]; rw [if_pos hw]) (iR (by simp)) rfl hl h9.to
 ·refine aa (aE hw) ?_
  refine gs ?_;refine gQ (e := e) (p := p) nx (vp b) { t with w := σ.μ.V (11, (t.obj : Int), 0), at' := 17 } fE h4 fun H9 h9 => ?_;exact dU (σ' := dg σ t) (t' := { t with w := σ.μ.V (11, (t.obj : Int), 0), at' := 17 }) (v := (vp b)) (n := fE) (by simp only [ap, hat]; rw [if_neg hw]) (cT hb) rfl hl h9.to
theorem Z6 (S : SOk σ) (T : ij σ t) (hat : t.at' = 8) : Sp mz [vp e, vi now] (eP e p rp σ t) (fun _ : Unit => bX (ap σ t now)) (fun _ => eQ e p rp (ap σ t now)) := by
 have hN : σ.μ.N < 1099511627000 := by have := S.N; omega
 refine aO fun R H h => ?_;obtain ⟨nx, rv, g, hv, rfl, hl, _, h0⟩ := dP h;obtain ⟨b, hb, rfl⟩ := hv (by omega);have ho := T.obj (.inl (by omega));refine bm (fun r => PO _ _ H) ?_;refine br h0 fun b1 H1 h1 => ?_;refine ak h1 ae rfl ?_;refine ak h1 ae rfl ?_;refine af h1 (jf (p := p) hl ho hb (JE g.m t.obj b (az σ t.obj) σ.μ t.who hN)) fun _ H2 h2 => ?_;refine ah (HL _ _ _ _ H2) ?_;refine ak h2 ae rfl ?_;refine ak h2 ae rfl ?_;refine af h2 (SJ (p := p) (σ := jo σ t) hl ho hb (JD g.m t.obj b (az σ t.obj) t.w (σ.μ.V (12, (t.obj : Int), 0)) T.w (S.cells _ ho).2)) fun _ H3 h3 => ?_;cases hf : n6 t.w (σ.μ.V (12, (t.obj : Int), 0)) (az σ t.obj).length
 ·refine gs ?_
  refine ak h3 ae rfl ?_;refine af h3 (i1 _ T.w) fun _ H4 h4 => ?_
  by_cases hw : aN t.w = 1
  ·refine aa (bg hw) ?_
   refine gs ?_;refine gQ (e := e) (p := p) nx (vp b) { t with at' := 9 } j8 h4 fun H9 h9 => ?_;exact dU (σ' := jo σ t) (t' := { t with at' := 9 }) (v := (vp b)) (n := j8) (by simp only [ap, hat, jU, hf]; rw [if_pos hw]; rfl) (cT hb) rfl hl h9.to
  ·refine aa (aE hw) ?_
   refine gs ?_;refine ah (HM _ _ _ H4) ?_;refine gQ (e := e) (p := p) nx (vp b) { t with at' := 12 } j7 h4 fun H9 h9 => ?_;exact dU (σ' := jo σ t) (t' := { t with at' := 12 }) (v := (vp b)) (n := j7) (by simp only [ap, hat, jU, hf]; rw [if_neg hw]; rfl) (cT hb) rfl hl h9.to
 ·refine gs ?_
  refine gQ (e := e) (p := p) nx (vp b) { t with at' := 15 } pJ h3 fun H9 h9 => ?_;exact dU (σ' := jo σ t) (t' := { t with at' := 15 }) (v := (vp b)) (n := pJ) (by simp only [ap, hat, jU, hf]; rfl) (cT hb) rfl hl h9.to
theorem Sq (S : SOk σ) (T : ij σ t) (hat : t.at' = 9) : Sp j8 [vp e, vi now] (eP e p rp σ t) (fun _ : Unit => bX (ap σ t now)) (fun _ => eQ e p rp (ap σ t now)) := by
 have hN : σ.μ.N < 1099511627000 := by have := S.N; omega
 refine aO fun R H h => ?_;obtain ⟨nx, rv, g, hv, rfl, hl, _, h0⟩ := dP h;obtain ⟨b, hb, rfl⟩ := hv (by omega);have ho := T.obj (.inl (by omega));refine bm (fun r => Ny _ _ H) ?_;refine br h0 fun b1 H1 h1 => ?_;refine ak h1 ae rfl ?_;refine ak h1 ae rfl ?_;refine ak h1 ae rfl ?_;refine af h1 (jf (p := p) hl ho hb (G2 g.m t.obj b (az σ t.obj) σ.μ t.who t.w T.w hN)) fun _ H2 h2 => ?_;cases hw : dT σ.μ t.obj t.w (aP t.w 0)
 ·refine gs ?_
  rw [Bool.not_false];refine gs ?_;refine gQ (e := e) (p := p) nx (vp b) { t with at' := 7 } cg h2 fun H9 h9 => ?_;exact dU (σ' := σ.mem (σ.μ.turn t.who t.obj t.w (aP t.w 0))) (t' := { t with at' := 7 }) (v := (vp b)) (n := cg) (by simp only [ap, hat, hw]; rfl) (cT hb) rfl hl h9.to
 ·refine gs ?_
  rw [Bool.not_true];refine gs ?_;have k2 := bB (p := p) (rp := g.rp) (σ := σ.mem (σ.μ.turn t.who t.obj t.w (aP t.w 0))) (R := eB e p nx (vp b) t * (blk b1 (.cells false [vi 0, .slice none 0 0, vi 0, vw 0]) * R)) g rfl hl h2.to;refine af k2 (xa e p g.rp (σ.mem (σ.μ.turn t.who t.obj t.w (aP t.w 0))) nx (vp b) t now 0 (by have := S.pts; show σ.pts.length < _; omega)) fun _ H3 h3 => ?_;refine gQ (e := e) (p := p) nx (vp b) { t with at' := 10, code := 0 } pI h3 fun H9 h9 => ?_;exact Ke (σ' := (σ.mem (σ.μ.turn t.who t.obj t.w (aP t.w 0))).note now t.who 0) (t' := { t with at' := 10, code := 0 }) (v := (vp b)) (n := pI) (by simp only [ap, hat, hw]; rfl) (cT hb) rfl h9.to
theorem aaD (S : SOk σ) (T : ij σ t) (hat : t.at' = 13) : Sp mE [vp e, vi now] (eP e p rp σ t) (fun _ : Unit => bX (ap σ t now)) (fun _ => eQ e p rp (ap σ t now)) := by
 have hN : σ.μ.N < 1099511627000 := by have := S.N; omega
 refine aO fun R H h => ?_;obtain ⟨nx, rv, g, hv, rfl, hl, _, h0⟩ := dP h;obtain ⟨b, hb, rfl⟩ := hv (by omega);have ho := T.obj (.inl (by omega));refine bm (fun r => PX _ _ H) ?_;refine br h0 fun b1 H1 h1 => ?_;refine ak h1 ae rfl ?_;refine ak h1 ae rfl ?_;refine ak h1 ae rfl ?_;refine af h1 (jf (p := p) hl ho hb (G2 g.m t.obj b (az σ t.obj) σ.μ t.who t.w T.w hN)) fun _ H2 h2 => ?_;cases hw : dT σ.μ t.obj t.w (aP t.w 0)
 ·refine gs ?_
  rw [Bool.not_false];refine gs ?_;refine gQ (e := e) (p := p) nx (vp b) { t with at' := 20 } mv h2 fun H9 h9 => ?_;exact dU (σ' := σ.mem (σ.μ.turn t.who t.obj t.w (aP t.w 0))) (t' := { t with at' := 20 }) (v := (vp b)) (n := mv) (by simp only [ap, hat, hw]; rfl) (cT hb) rfl hl h9.to
 ·refine gs ?_
  rw [Bool.not_true];refine gs ?_;have k2 := bB (p := p) (rp := g.rp) (σ := σ.mem (σ.μ.turn t.who t.obj t.w (aP t.w 0))) (R := eB e p nx (vp b) t * (blk b1 (.cells false [vi 0, .slice none 0 0, vi 0, vw 0]) * R)) g rfl hl h2.to;refine af k2 (xa e p g.rp (σ.mem (σ.μ.turn t.who t.obj t.w (aP t.w 0))) nx (vp b) t now 0 (by have := S.pts; show σ.pts.length < _; omega)) fun _ H3 h3 => ?_;refine gQ (e := e) (p := p) nx (vp b) { t with at' := 14, code := 0 } mw h3 fun H9 h9 => ?_;exact Ke (σ' := (σ.mem (σ.μ.turn t.who t.obj t.w (aP t.w 0))).note now t.who 0) (t' := { t with at' := 14, code := 0 }) (v := (vp b)) (n := mw) (by simp only [ap, hat, hw]; rfl) (cT hb) rfl h9.to
theorem D3 (σ : aM) (t : Tk) : iv σ t = { σ with μ := σ.μ.acc t.who 6 (16, (t.obj : Int), ((aG t.w % (az σ t.obj).length : Nat) : Int)), obs := σ.obs.modify t.obj fun q => (q.1, (az σ t.obj).set (aG t.w % (az σ t.obj).length) ⟨t.x.flow, t.x.a, t.x.b⟩) } := by
 have eo : (σ.obs.modify t.obj fun q => (q.1, q.2.set (aG t.w % (az σ t.obj).length) (⟨t.x.flow, t.x.a, t.x.b⟩ : Pk))) = σ.obs.modify t.obj fun q => (q.1, (az σ t.obj).set (aG t.w % (az σ t.obj).length) ⟨t.x.flow, t.x.a, t.x.b⟩) := by
  apply List.ext_getElem?;intro j;rw [List.getElem?_modify, List.getElem?_modify]
  cases hj : σ.obs[j]? with
  | none => rfl
  | some q =>
   show some (if t.obj = j then _ else q) = some (if t.obj = j then _ else q)
   by_cases e : t.obj = j
   ·subst e
    rw [if_pos rfl, if_pos rfl];unfold az;rw [hj]; rfl
   ·rw [if_neg e, if_neg e]
 exact congrArg (fun o => ({ σ with μ := σ.μ.acc t.who 6 (16, (t.obj : Int), ((aG t.w % (az σ t.obj).length : Nat) : Int)), obs := o } : aM)) eo
theorem Tc (S : SOk σ) (T : ij σ t) (nx : Value) (g : PIds) (b : Nat) (hl : g.rp.length = σ.obs.length) (ho : t.obj < σ.obs.length) (hb : g.rp[t.obj]? = some b) :
 Sp yp [vp e] (eB e p nx (vp b) t * aA p g σ) (fun _ : Unit => .tuple #[]) (fun _ => eB e p nx (vp b) t * aA p g (iv σ t)) := by
 have hN : σ.μ.N < 1099511627000 := by have := S.N; omega
 refine bh (WV _) fun R H h => ?_;refine bC ae ?_;refine aV h rfl ?_;refine bC ae ?_;refine aV h rfl ?_;refine ak h ae rfl ?_;refine af h (gR t.w T.w) fun _ H1 h1 => ?_;refine aI h1 h (by rfl) ?_;refine aI h1 h (by rfl) ?_;refine bC (b7 (aR (aR bf))) ?_;refine aV h1 rfl ?_;refine aI h h1 (by rfl) ?_;refine bC (b7 (aR (aR bf))) ?_;refine aV h1 rfl ?_;refine aI h h1 (by rfl) ?_;refine bC (b7 (aR (aR bf))) ?_;refine aV h1 rfl ?_;refine aI h h1 (by rfl) ?_;refine jc ?_;refine af h1 (aa6 (p := p) hl ho hb (aiL g.m t.obj b (az σ t.obj) σ.μ t.who (aG t.w) ⟨t.x.flow, t.x.a, t.x.b⟩ (S.cells _ ho) hN)) fun _ H2 h2 => ?_;refine am ⟨(), rfl, ?_⟩;rw [D3];exact h2.to
theorem jq (σ : aM) (t : Tk) : (iv σ t).obs.length = σ.obs.length := by unfold iv; simp
theorem ai4 (S : SOk σ) (T : ij σ t) (hat : t.at' = 10) : Sp pI [vp e, vi now] (eP e p rp σ t) (fun _ : Unit => bX (ap σ t now)) (fun _ => eQ e p rp (ap σ t now)) := by
 have hN : σ.μ.N < 1099511627000 := by have := S.N; omega
 refine aO fun R H h => ?_;obtain ⟨nx, rv, g, hv, rfl, hl, _, h0⟩ := dP h;obtain ⟨b, hb, rfl⟩ := hv (by omega);have ho := T.obj (.inl (by omega));refine bm (fun r => WW _ _ H) ?_;refine br h0 fun b1 H1 h1 => ?_;refine af h1 (Tc e p σ t S T nx g b hl ho hb) fun _ H2 h2 => ?_;refine gQ (e := e) (p := p) nx (vp b) { t with at' := 11 } mD h2 fun H9 h9 => ?_;exact dU (σ' := iv σ t) (t' := { t with at' := 11 }) (v := (vp b)) (n := mD) (by simp only [ap, hat]) (cT hb) rfl (by rw [jq]; exact hl) h9.to
theorem Z5 (S : SOk σ) (T : ij σ t) (hat : t.at' = 14) : Sp mw [vp e, vi now] (eP e p rp σ t) (fun _ : Unit => bX (ap σ t now)) (fun _ => eQ e p rp (ap σ t now)) := by
 have hN : σ.μ.N < 1099511627000 := by have := S.N; omega
 refine aO fun R H h => ?_;obtain ⟨nx, rv, g, hv, rfl, hl, _, h0⟩ := dP h;obtain ⟨b, hb, rfl⟩ := hv (by omega);have ho := T.obj (.inl (by omega));refine bm (fun r => PM _ _ H) ?_;refine br h0 fun b1 H1 h1 => ?_;refine af h1 (Tc e p σ t S T nx g b hl ho hb) fun _ H2 h2 => ?_;refine gQ (e := e) (p := p) nx (vp b) { t with at' := 21 } kc h2 fun H9 h9 => ?_;exact dU (σ' := iv σ t) (t' := { t with at' := 21 }) (v := (vp b)) (n := kc) (by simp only [ap, hat]) (cT hb) rfl (by rw [jq]; exact hl) h9.to
theorem aaC (S : SOk σ) (T : ij σ t) (hat : t.at' = 11) : Sp mD [vp e, vi now] (eP e p rp σ t) (fun _ : Unit => bX (ap σ t now)) (fun _ => eQ e p rp (ap σ t now)) := by
 have hN : σ.μ.N < 1099511627000 := by have := S.N; omega
 refine aO fun R H h => ?_;obtain ⟨nx, rv, g, hv, rfl, hl, _, h0⟩ := dP h;obtain ⟨b, hb, rfl⟩ := hv (by omega);have ho := T.obj (.inl (by omega));refine bm (fun r => PW _ _ H) ?_;refine br h0 fun b1 H1 h1 => ?_;refine bC ae ?_;refine aV h1 rfl ?_;refine bC ae ?_;refine aV h1 rfl ?_;refine ak h1 ae rfl ?_;refine af h1 (gR t.w T.w) fun _ H2 h2 => ?_;refine aI h2 h1 (by rfl) ?_;refine aI h2 h1 (by rfl) ?_;have hwc := dZ t.w;refine af h2 (jf (p := p) hl ho hb (JF g.m t.obj b (az σ t.obj) σ.μ t.who (aG t.w) (by omega) (S.cells _ ho) hN)) fun _ H3 h3 => ?_;refine nO h3 (w9 (vp e) 0) fun H9 h9 => ?_;exact EY (σ' := B1 σ t) (t' := t) (by simp only [ap, hat]) (T.c0 (by omega)) (bB (p := p) (rp := g.rp) (R := R) g rfl hl h9.to)
theorem Ss (S : SOk σ) (T : ij σ t) (hat : t.at' = 21) : Sp kc [vp e, vi now] (eP e p rp σ t) (fun _ : Unit => bX (ap σ t now)) (fun _ => eQ e p rp (ap σ t now)) := by
 have hN : σ.μ.N < 1099511627000 := by have := S.N; omega
 refine aO fun R H h => ?_;obtain ⟨nx, rv, g, hv, rfl, hl, _, h0⟩ := dP h;obtain ⟨b, hb, rfl⟩ := hv (by omega);have ho := T.obj (.inl (by omega));refine bm (fun r => NA _ _ H) ?_;refine br h0 fun b1 H1 h1 => ?_;refine bC ae ?_;refine aV h1 rfl ?_;refine bC ae ?_;refine aV h1 rfl ?_;refine ak h1 ae rfl ?_;refine af h1 (gR t.w T.w) fun _ H2 h2 => ?_;refine aI h2 h1 (by rfl) ?_;refine aI h2 h1 (by rfl) ?_;have hwc := dZ t.w;refine af h2 (jf (p := p) hl ho hb (JF g.m t.obj b (az σ t.obj) σ.μ t.who (aG t.w) (by omega) (S.cells _ ho) hN)) fun _ H3 h3 => ?_;refine gQ (e := e) (p := p) nx (vp b) { t with at' := 22 } dQ h3 fun H9 h9 => ?_;exact dU (σ' := B1 σ t) (t' := { t with at' := 22 }) (v := (vp b)) (n := dQ) (by simp only [ap, hat]) (cT hb) rfl hl h9.to
theorem So (S : SOk σ) (T : ij σ t) (hat : t.at' = 12) : Sp j7 [vp e, vi now] (eP e p rp σ t) (fun _ : Unit => bX (ap σ t now)) (fun _ => eQ e p rp (ap σ t now)) := by
 have hN : σ.μ.N < 1099511627000 := by have := S.N; omega
 refine aO fun R H h => ?_;obtain ⟨nx, rv, g, hv, rfl, hl, _, h0⟩ := dP h;obtain ⟨b, hb, rfl⟩ := hv (by omega);have ho := T.obj (.inl (by omega));refine bm (fun r => Nx _ _ H) ?_;refine br h0 fun b1 H1 h1 => ?_;refine ak h1 ae rfl ?_;refine ak h1 ae rfl ?_;refine ak h1 ae rfl ?_;refine af h1 (IC (p := p) (g := g) (σ := σ) (N1 g.ib g.m g.nm σ.c σ.nx σ.μ t.who hN)) fun _ H2 h2 => ?_;refine gQ (e := e) (p := p) nx (vp b) { t with at' := 13 } mE h2 fun H9 h9 => ?_;exact dU (σ' := σ.mem (σ.μ.cnt t.who (3, 0, 0) 4294967296)) (t' := { t with at' := 13 }) (v := (vp b)) (n := mE) (by simp only [ap, hat]) (cT hb) rfl hl h9.to
theorem Z3 (S : SOk σ) (T : ij σ t) (hat : t.at' = 20) : Sp mv [vp e, vi now] (eP e p rp σ t) (fun _ : Unit => bX (ap σ t now)) (fun _ => eQ e p rp (ap σ t now)) := by
 have hN : σ.μ.N < 1099511627000 := by have := S.N; omega
 refine aO fun R H h => ?_;obtain ⟨nx, rv, g, hv, rfl, hl, _, h0⟩ := dP h;obtain ⟨b, hb, rfl⟩ := hv (by omega);have ho := T.obj (.inl (by omega));refine bm (fun r => PL _ _ H) ?_;refine br h0 fun b1 H1 h1 => ?_;refine ak h1 ae rfl ?_;refine ak h1 ae rfl ?_;refine ak h1 ae rfl ?_;refine af h1 (IC (p := p) (g := g) (σ := σ) (Jf g.ib g.m g.nm σ.c σ.nx σ.μ t.who hN)) fun _ H2 h2 => ?_;refine gQ (e := e) (p := p) nx (vp b) { t with at' := 7 } cg h2 fun H9 h9 => ?_;exact dU (σ' := σ.mem (σ.μ.cnt t.who (3, 0, 0) 1)) (t' := { t with at' := 7 }) (v := (vp b)) (n := cg) (by simp only [ap, hat]) (cT hb) rfl hl h9.to
theorem ai3 (S : SOk σ) (T : ij σ t) (hat : t.at' = 25) : Sp pH [vp e, vi now] (eP e p rp σ t) (fun _ : Unit => bX (ap σ t now)) (fun _ => eQ e p rp (ap σ t now)) := by
 have hN : σ.μ.N < 1099511627000 := by have := S.N; omega
 refine aO fun R H h => ?_;obtain ⟨nx, rv, g, hv, rfl, hl, _, h0⟩ := dP h;obtain ⟨b, hb, rfl⟩ := hv (by omega);have ho := T.obj (.inl (by omega));refine bm (fun r => WT _ _ H) ?_;refine br h0 fun b1 H1 h1 => ?_;refine ak h1 ae rfl ?_;refine ak h1 ae rfl ?_;refine ak h1 ae rfl ?_;refine af h1 (IC (p := p) (g := g) (σ := σ) (Jf g.ib g.m g.nm σ.c σ.nx σ.μ t.who hN)) fun _ H2 h2 => ?_;refine nO h2 (w9 (vp e) 0) fun H9 h9 => ?_;exact EY (σ' := σ.mem (σ.μ.cnt t.who (3, 0, 0) 1)) (t' := t) (by simp only [ap, hat]) (T.c0 (by omega)) (bB (p := p) (rp := g.rp) (R := R) g rfl hl h9.to)
theorem MQ (S : SOk σ) (T : ij σ t) (hat : t.at' = 22) : Sp dQ [vp e, vi now] (eP e p rp σ t) (fun _ : Unit => bX (ap σ t now)) (fun _ => eQ e p rp (ap σ t now)) := by
 have hN : σ.μ.N < 1099511627000 := by have := S.N; omega
 refine aO fun R H h => ?_;obtain ⟨nx, rv, g, hv, rfl, hl, _, h0⟩ := dP h;obtain ⟨b, hb, rfl⟩ := hv (by omega);have ho := T.obj (.inl (by omega));refine bm (fun r => HP _ _ H) ?_;refine br h0 fun b1 H1 h1 => ?_;refine ak h1 ae rfl ?_;refine ak h1 ae rfl ?_;refine ak h1 ae rfl ?_;refine ak h1 ae rfl ?_;refine af h1 (IC (p := p) (g := g) (σ := σ) (Y7 g.ib g.m g.nm σ.c σ.nx σ.μ t.who t.s hN)) fun _ H2 h2 => ?_;refine bk h2 ae rfl rfl fun H3 h3 => ?_;refine gQ (e := e) (p := p) nx (vp b) { t with top := σ.μ.V (9, t.s, 0), at' := 23 } mA h3 fun H9 h9 => ?_;exact dU (σ' := σ.mem (σ.μ.acc t.who 1 (9, t.s, 0))) (t' := { t with top := σ.μ.V (9, t.s, 0), at' := 23 }) (v := (vp b)) (n := mA) (by simp only [ap, hat]) (cT hb) rfl hl h9.to
theorem Z8 (S : SOk σ) (T : ij σ t) (hat : t.at' = 23) : Sp mA [vp e, vi now] (eP e p rp σ t) (fun _ : Unit => bX (ap σ t now)) (fun _ => eQ e p rp (ap σ t now)) := by
 have hN : σ.μ.N < 1099511627000 := by have := S.N; omega
 refine aO fun R H h => ?_;obtain ⟨nx, rv, g, hv, rfl, hl, _, h0⟩ := dP h;obtain ⟨b, hb, rfl⟩ := hv (by omega);have ho := T.obj (.inl (by omega));refine bm (fun r => PQ _ _ H) ?_;refine br h0 fun b1 H1 h1 => ?_;refine ak h1 ae rfl ?_;refine ak h1 ae rfl ?_;refine ak h1 ae rfl ?_;refine ak h1 ae rfl ?_;refine ak h1 ae rfl ?_;refine af h1 (IC (p := p) (g := g) (σ := σ) (Q6 g.ib g.m g.nm σ.c σ.nx σ.μ t.who t.obj t.top hN)) fun _ H2 h2 => ?_;refine gQ (e := e) (p := p) nx (vp b) { t with at' := 24 } mC h2 fun H9 h9 => ?_;exact dU (σ' := { σ with μ := σ.μ.acc t.who 6 (14, (t.obj : Int), 0), nx := fun k => if k = (t.obj : Int) then some t.top else σ.nx k }) (t' := { t with at' := 24 }) (v := (vp b)) (n := mC) (by simp only [ap, hat]) (cT hb) rfl hl h9.to
theorem aaB (S : SOk σ) (T : ij σ t) (hat : t.at' = 24) : Sp mC [vp e, vi now] (eP e p rp σ t) (fun _ : Unit => bX (ap σ t now)) (fun _ => eQ e p rp (ap σ t now)) := by
 have hN : σ.μ.N < 1099511627000 := by have := S.N; omega
 refine aO fun R H h => ?_;obtain ⟨nx, rv, g, hv, rfl, hl, _, h0⟩ := dP h;obtain ⟨b, hb, rfl⟩ := hv (by omega);have ho := T.obj (.inl (by omega));refine bm (fun r => PU _ _ H) ?_;refine br h0 fun b1 H1 h1 => ?_;refine ak h1 ae rfl ?_;refine ak h1 ae rfl ?_;refine ak h1 ae rfl ?_;refine ak h1 ae rfl ?_;refine ak h1 ae rfl ?_;refine ak h1 ae rfl ?_;refine af h1 (IC (p := p) (g := g) (σ := σ) (Q8 g.ib g.m g.nm σ.c σ.nx σ.μ t.who t.s t.top t.obj (by have := S.obs; omega) hN)) fun _ H2 h2 => ?_
 by_cases hw : σ.μ.V (9, t.s, 0) = t.top
 ·rw [eu hw]
  refine gs ?_;rw [Bool.not_true];refine gs ?_;refine gQ (e := e) (p := p) nx (vp b) { t with at' := 25 } pH h2 fun H9 h9 => ?_;exact dU (σ' := σ.mem (σ.μ.swp t.who (9, t.s, 0) t.top (t.obj + 1))) (t' := { t with at' := 25 }) (v := (vp b)) (n := pH) (by simp only [ap, hat]; rw [if_pos hw]) (cT hb) rfl hl h9.to
 ·rw [d4 hw]
  refine gs ?_;rw [Bool.not_false];refine gs ?_;refine gQ (e := e) (p := p) nx (vp b) { t with at' := 22 } dQ h2 fun H9 h9 => ?_;exact dU (σ' := σ.mem (σ.μ.swp t.who (9, t.s, 0) t.top (t.obj + 1))) (t' := { t with at' := 22 }) (v := (vp b)) (n := dQ) (by simp only [ap, hat]; rw [if_neg hw]) (cT hb) rfl hl h9.to
theorem ai5 (S : SOk σ) (T : ij σ t) (hat : t.at' = 15) : Sp pJ [vp e, vi now] (eP e p rp σ t) (fun _ : Unit => bX (ap σ t now)) (fun _ => eQ e p rp (ap σ t now)) := by
 have hN : σ.μ.N < 1099511627000 := by have := S.N; omega
 refine aO fun R H h => ?_;obtain ⟨nx, rv, g, hv, rfl, hl, _, h0⟩ := dP h;obtain ⟨b, hb, rfl⟩ := hv (by omega);have ho := T.obj (.inl (by omega));refine bm (fun r => WY _ _ H) ?_;refine br h0 fun b1 H1 h1 => ?_;refine ak h1 ae rfl ?_;refine ak h1 ae rfl ?_;refine af h1 (qC p g σ t.who S.N) fun _ H2 h2 => ?_;refine bk h2 ae rfl rfl fun H3 h3 => ?_;refine ak h3 ae rfl ?_;refine aa (JB 2 (by omega)) ?_
 by_cases hw : σ.μ.V (2, 0, 0) % 2 = 1
 ·refine aa (bg (show ((σ.μ.V (2, 0, 0) % 2 : Nat) : Int) = 1 by omega)) ?_
  refine gs ?_;refine gQ (e := e) (p := p) nx (vp b) { t with q := σ.μ.V (2, 0, 0), at' := 7 } cg h3 fun H9 h9 => ?_;exact dU (σ' := eD σ t) (t' := { t with q := σ.μ.V (2, 0, 0), at' := 7 }) (v := (vp b)) (n := cg) (by simp only [ap, hat]; rw [if_pos hw]) (cT hb) rfl hl h9.to
 ·refine aa (aE (show ¬ ((σ.μ.V (2, 0, 0) % 2 : Nat) : Int) = 1 by omega)) ?_
  refine gs ?_;refine gQ (e := e) (p := p) nx (vp b) { t with q := σ.μ.V (2, 0, 0), at' := 16 } fF h3 fun H9 h9 => ?_;exact dU (σ' := eD σ t) (t' := { t with q := σ.μ.V (2, 0, 0), at' := 16 }) (v := (vp b)) (n := fF) (by simp only [ap, hat]; rw [if_neg hw]) (cT hb) rfl hl h9.to
theorem Hb (S : SOk σ) (T : ij σ t) (hat : t.at' = 17) : Sp fE [vp e, vi now] (eP e p rp σ t) (fun _ : Unit => bX (ap σ t now)) (fun _ => eQ e p rp (ap σ t now)) := by
 have hN : σ.μ.N < 1099511627000 := by have := S.N; omega
 refine aO fun R H h => ?_;obtain ⟨nx, rv, g, hv, rfl, hl, _, h0⟩ := dP h;obtain ⟨b, hb, rfl⟩ := hv (by omega);have ho := T.obj (.inl (by omega));refine bm (fun r => Ce _ _ H) ?_;refine br h0 fun b1 H1 h1 => ?_;refine bC ae ?_;refine aV h1 rfl ?_;refine bC ae ?_;refine aV h1 rfl ?_;refine ak h1 ae rfl ?_;refine ak h1 ae rfl ?_;refine af h1 (jf (p := p) hl ho hb (JE g.m t.obj b (az σ t.obj) σ.μ t.who hN)) fun _ H2 h2 => ?_;refine aI h2 h1 (by rfl) ?_;refine aI h2 h1 (by rfl) ?_;refine af h2 (SJ (p := p) (σ := jo σ t) hl ho hb (JD g.m t.obj b (az σ t.obj) t.w (σ.μ.V (12, (t.obj : Int), 0)) T.w (S.cells _ ho).2)) fun _ H3 h3 => ?_;cases hf : n6 t.w (σ.μ.V (12, (t.obj : Int), 0)) (az σ t.obj).length
 ·refine gs ?_
  rw [Bool.not_false];refine gs ?_;refine gQ (e := e) (p := p) nx (vp b) { t with at' := 7 } cg h3 fun H9 h9 => ?_;exact dU (σ' := jo σ t) (t' := { t with at' := 7 }) (v := (vp b)) (n := cg) (by simp only [ap, hat, jU, hf]; rfl) (cT hb) rfl hl h9.to
 ·refine gs ?_
  rw [Bool.not_true];refine gs ?_;refine bk h3 ae rfl rfl fun H4 h4 => ?_;refine gQ (e := e) (p := p) nx (vp b) { t with at' := 18, mark := now } gi h4 fun H9 h9 => ?_;exact dU (σ' := jo σ t) (t' := { t with at' := 18, mark := now }) (v := (vp b)) (n := gi) (by simp only [ap, hat, jU, hf]; rfl) (cT hb) rfl hl h9.to
theorem Iv (S : SOk σ) (T : ij σ t) (hat : t.at' = 18) : Sp gi [vp e, vi now] (eP e p rp σ t) (fun _ : Unit => bX (ap σ t now)) (fun _ => eQ e p rp (ap σ t now)) := by
 have hN : σ.μ.N < 1099511627000 := by have := S.N; omega
 refine aO fun R H h => ?_;obtain ⟨nx, rv, g, hv, rfl, hl, _, h0⟩ := dP h;obtain ⟨b, hb, rfl⟩ := hv (by omega);have ho := T.obj (.inl (by omega));refine bm (fun r => EX _ _ H) ?_;refine br h0 fun b1 H1 h1 => ?_;refine ak h1 ae rfl ?_;refine ak h1 ae rfl ?_;refine af h1 (qC p g σ t.who S.N) fun _ H2 h2 => ?_;refine bC ae ?_;refine aV h2 rfl ?_;refine aI h1 h2 (by rfl) ?_
 by_cases hw : σ.μ.V (2, 0, 0) = t.q
 ·refine aa (BJ (show ((σ.μ.V (2, 0, 0) : Nat) : Int) = (t.q : Int) by omega)) ?_
  refine gs ?_;refine ak h2 ae rfl ?_;have k2 := bB (p := p) (rp := g.rp) (σ := eD σ t) (R := eB e p nx (vp b) t * (blk b1 (.cells false [vi 0, .slice none 0 0, vi 0, vw 0]) * R)) g rfl hl h2.to;refine nO k2 (Bv e p g.rp (eD σ t) nx (vp b) t t.mark 9 (by have := S.pts; show σ.pts.length < _; omega)) fun H9 h9 => ?_;exact EY (σ' := (eD σ t).note t.mark t.who 9) (t' := { t with code := 9 }) (by simp only [ap, hat]; rw [if_pos hw]) rfl h9.to
 ·refine aa (Jm (show ¬ ((σ.μ.V (2, 0, 0) : Nat) : Int) = (t.q : Int) by omega)) ?_
  refine gs ?_;refine gQ (e := e) (p := p) nx (vp b) { t with at' := 7 } cg h2 fun H9 h9 => ?_;exact dU (σ' := eD σ t) (t' := { t with at' := 7 }) (v := (vp b)) (n := cg) (by simp only [ap, hat]; rw [if_neg hw]) (cT hb) rfl hl h9.to
def gA (σ : aM) (t : Tk) : aM × Tk × Bool :=
 (aY σ t, { aL σ t with at' := if (aL σ t).found = true then 6 else if cn σ (aL σ t) = true then 3 else 2 }, false)
theorem JM (S : SOk σ) (T : ij σ t) (hat : t.at' = 0 ∨ t.at' = 2) : Sp j9 [vp e, vi now] (eP e p rp σ t) (fun _ : Unit => bX (gA σ t)) (fun _ => eQ e p rp (gA σ t)) := by
 have hN : σ.μ.N < 1099511627000 := by have := S.N; omega
 refine aO fun R H h => ?_;obtain ⟨nx, rv, g, hv, rfl, hl, _, h0⟩ := dP h;have hi := T.i (by omega) (by omega);refine bm (fun r => PV _ _ H) ?_;refine br h0 fun b1 H1 h1 => ?_;refine af h1 (Tb e p g σ nx rv t S hi) fun _ H2 h2 => ?_;refine ah (HN _ _ _ _ H2) ?_;refine ak h2 ae rfl ?_;cases hf : (aL σ t).found
 ·refine gs ?_
  cases hla : cn σ (aL σ t)
  ·refine gs ?_
   refine ah (HO _ _ _ H2) ?_;refine gQ (e := e) (p := p) nx rv { aL σ t with at' := 2 } j9 h2 fun H9 h9 => ?_;exact dU (σ' := aY σ t) (t' := { aL σ t with at' := 2 }) (v := rv) (n := j9) (by simp only [gA, hf, hla]; rfl) (iR (by simp)) rfl hl h9.to
  ·refine gs ?_
   refine gQ (e := e) (p := p) nx rv { aL σ t with at' := 3 } dl h2 fun H9 h9 => ?_;exact dU (σ' := aY σ t) (t' := { aL σ t with at' := 3 }) (v := rv) (n := dl) (by simp only [gA, hf, hla]; rfl) (iR (by simp)) rfl hl h9.to
 ·refine gs ?_
  refine gQ (e := e) (p := p) nx rv { aL σ t with at' := 6 } g6 h2 fun H9 h9 => ?_;exact dU (σ' := aY σ t) (t' := { aL σ t with at' := 6 }) (v := rv) (n := g6) (by simp only [gA, hf]; rfl) (iR (by simp)) rfl hl h9.to
theorem OQ (S : SOk σ) (T : ij σ t) (hat : t.at' = 4) : Sp eW [vp e, vi now] (eP e p rp σ t) (fun _ : Unit => bX (ap σ t now)) (fun _ => eQ e p rp (ap σ t now)) := by
 have hN : σ.μ.N < 1099511627000 := by have := S.N; omega
 refine aO fun R H h => ?_;obtain ⟨nx, rv, g, hv, rfl, hl, _, h0⟩ := dP h;have hi := T.i (by omega) (by omega);refine bm (fun r => Kc _ _ H) ?_;refine br h0 fun b1 H1 h1 => ?_;refine af h1 (Tb e p g σ nx rv t S hi) fun _ H2 h2 => ?_;refine ah (Cg _ _ _ _ _ H2) ?_;refine ak h2 ae rfl ?_;cases hf : (aL σ t).found
 ·refine gs ?_
  cases hla : cn σ (aL σ t)
  ·refine gs ?_
   refine ah (Ch _ _ _ H2) ?_;refine gQ (e := e) (p := p) nx rv (aL σ t) eW h2 fun H9 h9 => ?_;exact dU (σ' := aY σ t) (t' := (aL σ t)) (v := rv) (n := eW) (by simp only [ap, hat, hf, hla]; rfl) (iR (show t.at' < 7 by omega)) (by show CO t.at' = _; rw [hat]; rfl) hl h9.to
  ·refine gs ?_
   have k2 := bB (p := p) (rp := g.rp) (σ := aY σ t) (R := eB e p nx rv (aL σ t) * (blk b1 (.cells false [vi 0, .slice none 0 0, vi 0, vw 0]) * R)) g rfl hl h2.to;refine af k2 (xa e p g.rp (aY σ t) nx rv (aL σ t) now 5 (by have := S.pts; show σ.pts.length < _; omega)) fun _ H3 h3 => ?_;refine gQ (e := e) (p := p) nx rv { aL σ t with at' := 5, code := 5 } eY h3 fun H9 h9 => ?_;exact Ke (σ' := (aY σ t).note now (aL σ t).who 5) (t' := { aL σ t with at' := 5, code := 5 }) (v := rv) (n := eY) (by simp only [ap, hat, hf, hla]; rfl) (iR (by simp)) rfl h9.to
 ·refine gs ?_
  refine gQ (e := e) (p := p) nx rv { aL σ t with at' := 5 } eY h2 fun H9 h9 => ?_;exact dU (σ' := aY σ t) (t' := { aL σ t with at' := 5 }) (v := rv) (n := eY) (by simp only [ap, hat, hf]; rfl) (iR (by simp)) rfl hl h9.to
theorem Sr (S : SOk σ) (T : ij σ t) (hat : t.at' = 0) : Sp ne [vp e, vi now] (eP e p rp σ t) (fun _ : Unit => bX (ap σ t now)) (fun _ => eQ e p rp (ap σ t now)) := by
 have hN : σ.μ.N < 1099511627000 := by have := S.N; omega
 refine bh (Nz _ _) fun R H h => ?_;refine br h fun b H1 h1 => ?_;refine ah (EQ _ _ _ _ H1) ?_;obtain ⟨nx, rv, g, hv, rfl, hl, _, k1⟩ := dP (e := e) (p := p) (rp := rp) (σ := σ) (t := t) (R := blk b (.cells false [vi 0, .slice none 0 0, vi 0, vw 0]) * R) (H := H1) h1.to
 have fin : ∀ code, fy t.x = some code → wp ((FF ja [vp e, vi now, vi code] H1).bind fun r25 =>
  (ag r25.1 0).bind fun v26 =>
  (ag r25.1 1).bind fun v27 =>
  (cH 4 (vp b) v26 r25.2).bind fun H28 =>
  (ax 4 (vp b) H28).bind fun v29 => some (Value.tuple #[v29, v27], H28)) fun v' H' => ∃ x_1 : Unit, v' = bX (ap σ t now) ∧ ac (eQ e p g.rp (ap σ t now) * R) H' := by
  intro code hx;have k2 := bB (p := p) (rp := g.rp) (σ := σ) (R := eB e p nx rv t * (blk b (.cells false [vi 0, .slice none 0 0, vi 0, vw 0]) * R)) g rfl hl k1.to;refine nO k2 (Bv e p g.rp σ nx rv t now code (by have := S.pts; omega)) fun H9 h9 => ?_;exact EY (σ' := σ.note now t.who code) (t' := { t with code := code }) (by simp only [ap, hat, hx]) rfl h9.to
 have scan : fy t.x = none → wp (rR (vp e) (vi now) (vp b) (vb false) H1) fun v' H' => ∃ x_1 : Unit, v' = bX (ap σ t now) ∧ ac (eQ e p g.rp (ap σ t now) * R) H' := by
  intro hx
  have hs : ap σ t now = gA σ t := by simp only [ap, hat, hx, gA]
  rw [hs];refine ah (ES _ _ _ _ H1) ?_;exact nO h1 (JM e p g.rp σ t now S T (.inl hat)) fun H9 h9 => ⟨(), rfl, h9.to⟩
 refine ak k1 (b7 (aR (aR bf))) rfl ?_
 by_cases ha : t.x.a < 1
 ·refine aa (cE ha) ?_
  refine gs ?_;exact fin 3 (by rw [fy, if_pos (.inl ha)])
 ·refine aa (bP ha) ?_
  refine gs ?_;refine ak k1 (b7 (aR (aR bf))) rfl ?_;refine gs ?_
  by_cases ha2 : 65536 < t.x.a
  ·refine aa (pA ha2) ?_
   refine gs ?_;exact fin 3 (by rw [fy, if_pos (.inr ha2)])
  ·refine aa (fV ha2) ?_
   refine gs ?_;refine ak k1 (b7 (aR (aR bf))) rfl ?_
   by_cases hf : t.x.flow < 0
   ·refine aa (cE hf) ?_
    refine gs ?_;exact fin 5 (by rw [fy, if_neg (by omega), if_pos (.inl hf)])
   ·refine aa (bP hf) ?_
    refine gs ?_;refine ak k1 (b7 (aR (aR bf))) rfl ?_;refine gs ?_
    by_cases hf2 : 1048576 < t.x.flow
    ·refine aa (pA hf2) ?_
     refine gs ?_;exact fin 5 (by rw [fy, if_neg (by omega), if_pos (.inr hf2)])
    ·refine aa (fV hf2) ?_
     refine gs ?_;exact scan (by rw [fy, if_neg (by omega), if_neg (by omega)])
theorem acH (S : SOk σ) (T : ij σ t) : Sp As [vp e, vi now] (eP e p rp σ t) (fun _ : Unit => bX (ap σ t now)) (fun _ => eQ e p rp (ap σ t now)) := by
 refine bh (PK _ _) fun R H h => ?_;refine br h fun b H1 h1 => ?_;obtain ⟨rv, hv, k1⟩ := S9 (e := e) (p := p) (rp := rp) (σ := σ) (t := t) (R := blk b (.cells false [vi 0, .slice none 0 0, vi 0, vw 0]) * R) (H := H1) h1.to;refine ak k1 ae rfl ?_;refine ah (show (di (.func (.func (CO t.at')) #[vp e] #[]) [vi now]).bind _ = _ from rfl) ?_
 have hs : Sp (CO t.at') [vp e, vi now] (eP e p rp σ t) (fun _ : Unit => bX (ap σ t now)) (fun _ => eQ e p rp (ap σ t now)) := by
  rcases T.ats with hat | hat | hat | hat | hat | hat | hat | hat | hat | hat | hat | hat | hat | hat | hat | hat | hat | hat | hat | hat | hat | hat | hat | hat <;> rw [show CO t.at' = _ from by rw [hat]]
  ·exact Sr e p rp σ t now S T hat
  ·have h := JM e p rp σ t now S T (.inr hat)
   have hs : ap σ t now = gA σ t := by simp only [ap, hat, gA]
   rw [hs]; exact h
  ·exact Z9 e p rp σ t now S T hat
  ·exact OQ e p rp σ t now S T hat
  ·exact OR e p rp σ t now S T hat
  ·exact aaA e p rp σ t now S T hat
  ·exact aaE e p rp σ t now S T hat
  ·exact Z6 e p rp σ t now S T hat
  ·exact Sq e p rp σ t now S T hat
  ·exact ai4 e p rp σ t now S T hat
  ·exact aaC e p rp σ t now S T hat
  ·exact So e p rp σ t now S T hat
  ·exact aaD e p rp σ t now S T hat
  ·exact Z5 e p rp σ t now S T hat
  ·exact ai5 e p rp σ t now S T hat
  ·exact Hc e p rp σ t now S T hat
  ·exact Hb e p rp σ t now S T hat
  ·exact Iv e p rp σ t now S T hat
  ·exact Z3 e p rp σ t now S T hat
  ·exact Ss e p rp σ t now S T hat
  ·exact MQ e p rp σ t now S T hat
  ·exact Z8 e p rp σ t now S T hat
  ·exact aaB e p rp σ t now S T hat
  ·exact ai3 e p rp σ t now S T hat
 exact nO h1 hs fun H9 h9 => ⟨(), rfl, h9.to⟩
end
theorem aaL {a b : Nat} {x : Value} {k : Value → OV} {Q : Value → AH → Prop} (h : wp (k undef) Q) : wp (LQ (vb false) true [.n, .f a, .f b] x k) Q := h
theorem agO {P P2 : SP} {H H2 : AH} {ro ro2 : Bool} {b o : Nat} {cs cs2 : List Value} (h : ac P H) (h2 : ac P2 H2) [i : Hs P b (.cells ro cs)] [i2 : Hs P2 b (.cells ro2 cs2)] (e : cs[o]? = cs2[o]?) : aq (qL b o) H = aq (qL b o) H2 := by
 simp only [aq, uU, ei, bJ, i.get h, i2.get h2];exact e
def sS (x : Cl) : Prop := x.flow < 0 ∨ 1048576 < x.flow
instance (x : Cl) : Decidable (sS x) := inferInstanceAs (Decidable (_ ∨ _))
def uA (x : Cl) : Option Int :=
 if x.op = 1 then (if sS x then some 1 else if x.a < 1 ∨ 65536 < x.a then some 4 else if x.b < 1 ∨ 8 < x.b then some 1 else none)
 else if sS x then some 5 else none
def aC (σ : aM) (t : Tk) : Tk :=
 let v := σ.μ.V (10, t.s, (t.i : Int))
 { t with i := if qn v t.x.flow = true then t.i else t.i + 1, found := qn v t.x.flow, obj := if qn v t.x.flow = true then v % 4294967296 else t.obj, mark := if v = 0 ∧ t.mark < 0 then (t.i : Int) else t.mark }
abbrev lM (σ : aM) (t : Tk) : aM := σ.mem (σ.μ.swp t.who (8, t.s, 0) 0 1)
abbrev ig (σ : aM) (t : Tk) : aM := σ.mem ((σ.μ.acc t.who 2 (8, t.s, 0)).put (8, t.s, 0) 0)
def fm (σ : aM) (t : Tk) : aM × Tk × Bool := (lM σ t, { t with at' := if σ.μ.V (8, t.s, 0) = 0 then 3 else 2 }, false)
abbrev HZ (σ : aM) (t : Tk) : Ob := ⟨t.x.flow, t.x.b, max (σ.c.un / t.x.a.toNat) 1⟩
def Dq (σ : aM) (t : Tk) (now : Int) : aM × Tk × Bool :=
 match t.at' with
 | 4 => (σ.make t.who (HZ σ t), { t with obj := σ.obs.length, at' := 5 }, false)
 | 5 => ((σ.mem ((σ.μ.acc t.who 2 (10, t.s, t.mark)).put (10, t.s, t.mark) (cG t.x.flow t.obj))).note now t.who 0, { t with at' := 6, code := 0 }, false)
 | _ => (ig σ t, t, true)
def fY (σ : aM) (t : Tk) (now : Int) : aM × Tk × Bool :=
 match t.at' with
 | 4 => let w := σ.μ.V (11, (t.obj : Int), 0)
  (dg σ t, { t with w := w, at' := if aN w = 0 then 8 else 5 }, false)
 | 5 => let q := σ.μ.V (2, 0, 0)
  (eD σ t, { t with q := q, at' := if q % 2 = 1 then 4 else 6 }, false)
 | 6 => let w := σ.μ.V (11, (t.obj : Int), 0)
  (dg σ t, { t with w := w, mark := now, at' := if aN w = 0 then 8 else 7 }, false)
 | 7 => if σ.μ.V (2, 0, 0) = t.q then ((eD σ t).note t.mark t.who 8, { t with at' := 10, code := 8 }, false) else (eD σ t, { t with at' := 4 }, false)
 | 8 => let o := aP t.w 2
  let σ1 := σ.mem (σ.μ.turn t.who t.obj t.w o)
  if dT σ.μ t.obj t.w o = true then (σ1.note now t.who 0, { t with at' := 9, code := 0 }, false) else (σ1, { t with at' := 4 }, false)
 | 9 => (σ.mem ((σ.μ.acc t.who 2 (10, t.s, (t.i : Int))).put (10, t.s, (t.i : Int)) 0), { t with at' := 10 }, false)
 | _ => (ig σ t, t, true)
def ay (σ : aM) (t : Tk) (now : Int) : aM × Tk × Bool :=
 match t.at' with
 | 0 => match uA t.x with
  | some e => (σ.note now t.who e, { t with code := e }, true)
  | none => fm σ t
 | 2 => fm σ t
 | 3 => let t1 := aC σ t
  if t1.found = true then (if t.x.op = 1 then ((aY σ t).note now t.who 6, { t1 with at' := 6, code := 6 }, false) else (aY σ t, { t1 with at' := 4 }, false))
  else if cn σ t1 = true then
   (if t.x.op = 1 then (if t1.mark < 0 then ((aY σ t).note now t.who 7, { t1 with at' := 6, code := 7 }, false) else (aY σ t, { t1 with at' := 4 }, false))
   else ((aY σ t).note now t.who 5, { t1 with at' := 10, code := 5 }, false))
  else (aY σ t, t1, false)
 | _ => if t.x.op = 1 then Dq σ t now else fY σ t now
structure mN (σ : aM) (t : Tk) : Prop where
 s : t.s = (t.x.flow.tmod σ.c.sh + σ.c.sh).tmod σ.c.sh
 i : t.at' < 4 → (t.i : Int) < σ.c.sl
 x : t.at' ≠ 0 → uA t.x = none
 ats : t.at' = 0 ∨ t.at' = 2 ∨ t.at' = 3 ∨ 4 ≤ t.at' ∧ t.at' < 7 ∨ t.x.op ≠ 1 ∧ 7 ≤ t.at' ∧ t.at' < 11
 mark : t.at' = 4 ∨ t.at' = 5 → t.x.op = 1 → 0 ≤ t.mark
 obj : t.at' = 5 ∧ t.x.op = 1 ∨ 4 ≤ t.at' ∧ t.at' < 10 ∧ t.x.op ≠ 1 → t.obj < σ.obs.length
 w : t.w < 18446744073709551616
structure Ek where
 I : Nat
 free : Int
 at' : Int
 obj : Nat
 rv : Value
 w : Nat
 q : Nat
 nw : Int
 told : Int
abbrev rB (e p : Nat) (nx : Value) (t : Tk) (k : Ek) : SP :=
 blk e (.cells false [vp p, vi t.who, vi t.x.op, vi t.x.flow, vi t.x.a, vi t.x.b, vi t.s, nx, vi k.I, vi k.free, vi k.at', vi k.obj, k.rv, vu k.w, vu k.q, vi k.nw, vi k.told])
def fS (t : Tk) : Nat := if t.x.op = 1 then
    (match t.at' with | 0 => fL | 2 => cM | 3 => bQ | 4 => dy | 5 => fg | _ => aQ)
 else match t.at' with | 0 => eL | 2 => cX | 3 => b8 | 4 => bq | 5 => dV | 6 => cj | 7 => cy | 8 => ca | 9 => dJ | _ => aQ
def Plt (rp : List Nat) (t : Tk) (k : Ek) : Prop :=
 (t.at' < 4 → k.I = t.i ∧ k.free = t.mark) ∧ (t.x.op = 1 → (t.at' = 4 ∨ t.at' = 5 → k.free = t.mark) ∧ (t.at' = 5 → k.obj = t.obj) ∧ (t.at' = 6 → k.told = t.code)) ∧
 (t.x.op ≠ 1 → (4 ≤ t.at' → t.at' < 10 → k.at' = t.i ∧ ∃ b, rp[t.obj]? = some b ∧ k.rv = vp b) ∧ (t.at' = 6 ∨ t.at' = 7 → k.q = t.q) ∧ (t.at' = 7 → k.nw = t.mark) ∧ (t.at' = 8 → k.w = t.w) ∧ (t.at' = 9 ∨ t.at' = 10 → k.told = t.code))
def rT (e p : Nat) (rp : List Nat) (t : Tk) : SP := ex fun k : Ek => pu (Plt rp t k) * rB e p (fj e (fS t)) t k
def rU (e p : Nat) (rp : List Nat) (r : aM × Tk × Bool) : SP := if r.2.2 = true then emp else rT e p rp r.2.1
def rQ (e p : Nat) (rp : List Nat) (r : aM × Tk × Bool) (rp' : List Nat) : SP := pu (rp <+: rp') * (rU e p rp' r * bd p rp' r.1)
section
variable {e p : Nat} {rp : List Nat} {g : PIds} {σ σ' : aM} {t t' : Tk} {R P : SP} {H : AH} {r : aM × Tk × Bool} {v : Value} {n : Nat} {c : Int} {k : Ek}
theorem iz (h : ac (rT e p rp t * bd p rp σ * R) H) : ∃ (k : Ek) (g : PIds), Plt rp t k ∧ g.rp = rp ∧ rp.length = σ.obs.length ∧ ac (rB e p (fj e (fS t)) t k * (aA p g σ * R)) H := by
 unfold rT at h;rw [ai] at h;obtain ⟨k, h1⟩ := ac.ex.1 h;rw [ai, ac.pu] at h1;obtain ⟨g, h3, h4, h5⟩ := dz (p := p) (rp := rp) (σ := σ) (R := rB e p (fj e (fS t)) t k * R) (H := H) h1.2.to;exact ⟨k, g, h1.1, h3, h4, h5.to⟩
theorem gz (hr : r = (σ', t', false)) (hk : Plt g.rp t' k) (hn : fS t' = n) (hl : g.rp.length = σ'.obs.length) (hp : rp <+: g.rp) (h : ac (rB e p (fj e n) t' k * (aA p g σ' * R)) H) :
 ∃ x : List Nat, (.tuple #[.agg (ie 0).toArray, vb false]) = bX r ∧ ac (rQ e p rp r x * R) H := by
 subst hr hn;refine ⟨g.rp, rfl, ?_⟩;unfold rQ;rw [ai];refine ac.pu.2 ⟨hp, ?_⟩;have h1 := bB (p := p) (rp := g.rp) (σ := σ') (R := rB e p (fj e (fS t')) t' k * R) g rfl hl h.to;rw [show rU e p g.rp (σ', t', false) = rT e p g.rp t' from by unfold rU; rw [if_neg (by simp)]];unfold rT;rw [ai];refine ac.ex.2 ⟨k, ?_⟩;rw [ai];exact ac.pu.2 ⟨hk, h1.to⟩
theorem ah3 (hr : r = (σ', t', true)) (hc : t'.code = c) (hl : g.rp.length = σ'.obs.length) (hp : rp <+: g.rp) (h : ac (aA p g σ' * R) H) :
 ∃ x : List Nat, (.tuple #[.agg (ie c).toArray, vb true]) = bX r ∧ ac (rQ e p rp r x * R) H := by
 subst hr hc;refine ⟨g.rp, rfl, ?_⟩;unfold rQ;rw [ai];refine ac.pu.2 ⟨hp, ?_⟩;have h1 := bB (p := p) (rp := g.rp) (σ := σ') (R := R) g rfl hl h.to;rw [show rU e p g.rp (σ', t', true) = emp from by unfold rU; rw [if_pos rfl], ft];exact h1
theorem gC (nx : Value) (t' : Tk) (k : Ek) (n : Nat) {b : Nat} {Q : Value → AH → Prop} (h : ac P H) [fr : Fr P (rB e p nx t' k * blk b (.cells false [vi 0, .slice none 0 0, vi 0, vw 0])) R]
 (hk : ∀ H', ac (rB e p (fj e n) t' k * R) H' → Q (.tuple #[.agg (ie 0).toArray, vb false]) H') :
 wp ((FF bi [vp e, fj e n] H).bind fun r2 => (ag r2.1 0).bind fun v3 => (ag r2.1 1).bind fun v4 => (cH 4 (vp b) v3 r2.2).bind fun H5 => (ax 4 (vp b) H5).bind fun v6 => some (Value.tuple #[v6, v4], H5)) Q := by
 have on : Sp bi [vp e, fj e n] (rB e p nx t' k) (fun _ : Unit => .tuple #[.agg (ie 0).toArray, vb false]) (fun _ => rB e p (fj e n) t' k) := by
  refine bh (Ir _ _) fun R H h => ?_;refine br h fun b H1 h1 => ?_;refine bk h1 ae rfl rfl fun H2 h2 => ?_;refine jc ?_;refine fi h2 rfl rfl fun H3 h3 => ?_;refine aZ h3 ?_;exact am ⟨(), rfl, h3.to⟩
 exact nO h on hk
end
section
variable (e p : Nat) (rp : List Nat) (g : PIds) (σ : aM) (t : Tk) (k : Ek) (nx : Value) (now : Int)
theorem nM (code : Int) (hp : σ.pts.length < 1000000) (hl : g.rp.length = σ.obs.length) : Sp cY [vp e, vi now, vi code] (rB e p nx t k * aA p g σ) (fun _ : PIds => .tuple #[]) (fun g' => pu (g'.rp = g.rp) * (rB e p nx t { k with told := code } * aA p g' (σ.note now t.who code))) := by
 refine bh (Dz _ _ _) fun R H h => ?_;refine bk h ae rfl rfl fun H0 h0 => ?_;refine ak h0 ae rfl ?_;refine ak h0 ae rfl ?_;refine jc ?_;have h1 := bB (p := p) (rp := g.rp) (σ := σ) (R := rB e p nx t { k with told := code } * R) g rfl hl h0.to;refine af h1 (aoL p g.rp σ now t.who code hp) fun _ H2 h2 => ?_;obtain ⟨g', hg', _, h3⟩ := dz (p := p) (rp := g.rp) (σ := σ.note now t.who code) (R := rB e p nx t { k with told := code } * R) (H := H2) h2.to;refine am ⟨g', rfl, ?_⟩;rw [ai];exact ac.pu.2 ⟨hg', h3.to⟩
theorem OX (u : Nat) (w : Int) (hu : 1 ≤ u ∧ u ≤ 4611686018427387904) (hw : 1 ≤ w ∧ w ≤ 65536) : Sp oX [vu u, vi w] emp (fun _ : Unit => .tuple #[vu (max (u / w.toNat) 1), vb true]) (fun _ => emp) := by
 refine bh (Hh _ _) fun R H h => ?_;refine aa (bP (by omega)) ?_;refine gs ?_;refine aa (fV ?_) ?_
 ·omega
 refine gs ?_;refine aa (bP ?_) ?_
 ·omega
 refine gs ?_;refine aa (fV ?_) ?_
 ·omega
 refine gs ?_;refine aa (ej (by omega) (by omega)) ?_;refine aa (zQ (by omega) (by omega)) ?_;refine aa (aoG (b := 1)) ?_;exact am ⟨(), rfl, ac.to (by assumption)⟩
theorem arO (who : Int) (o : Ob) (hE : σ.μ.N < 1099511627000) (ho : σ.obs.length < 1000000) (hg : g.rp.length = σ.obs.length) : Sp d7 [vp p, vi who, .agg (#[vi o.flow, vi o.most, vu o.r] : Array Value)] (aA p g σ) (fun _ : PIds => vi σ.obs.length) (fun g' => pu (g.rp <+: g'.rp ∧ g'.rp.length = σ.obs.length + 1) * aA p g' (σ.make who o)) := by
 have hz : ((σ.obs.map fun x => x.1).zip g.rp).length = σ.obs.length := by simp [hg]
 refine aO fun R H h0 => ?_;unfold aA at h0;refine bm (fun r => lQ _ _ _ H) ?_;refine ba (l := [vi o.flow, vi o.most, vu o.r]) h0 fun ob H1 h1 => ?_;refine ak h1 ae rfl ?_;refine tu (s := g.ov) h1 ?_;rw [hz];refine ak h1 ae rfl ?_;refine jc ?_;refine af h1 ((t9 g.m σ.μ who (13, σ.obs.length, 0) (by omega)).imp fun _ R H h => jr (N' := σ.μ.N + 2) (by simp) h) fun _ H2 h2 => ?_;refine bC ae ?_;refine aV h2 rfl ?_;refine aZ h2 ?_;refine ak h2 ae rfl ?_;refine ak h2 aD rfl ?_;refine af h2 (OH g.m σ.obs.length o.most) fun rb H3 h3 => ?_;refine aI h3 h2 rfl ?_;refine dX h3 h2 rfl ?_;refine jc ?_;refine MS h3 fun b0 H4 h4 => ?_;refine f5 ((o, rb) : Ob × Nat) h4 rfl ?_ (by omega) fun a cc H5 h5 => ?_
 ·unfold room; omega
 refine bk h5 ae rfl rfl fun H6 h6 => ?_;refine am ⟨{ g with ov := .slice a (((σ.obs.map fun x => x.1).zip g.rp).length + 1) cc, rp := g.rp ++ [rb] }, rfl, ?_⟩;rw [ai];refine ac.pu.2 ⟨⟨List.prefix_append _ _, by simp [hg]⟩, ?_⟩;unfold aA aM.make;dsimp only
 have e1 : ((σ.obs ++ [(o, List.replicate (dv o.most) HH)]).map fun x => x.1).zip (g.rp ++ [rb]) = ((σ.obs.map fun x => x.1).zip g.rp) ++ [(o, rb)] := by
  rw [HV, List.zip_append (by simp [hg])]
  rfl
 have e2 : (g.rp ++ [rb]).zip ((σ.obs ++ [(o, List.replicate (dv o.most) HH)]).map fun x => x.2) = (g.rp.zip (σ.obs.map fun x => x.2)) ++ [(rb, List.replicate (dv o.most) HH)] := by
  rw [HV, List.zip_append (by simp [hg])]
  rfl
 have e3 : 0 + (g.rp.zip (σ.obs.map fun x => x.2)).length = σ.obs.length := by simp [hg]
 rw [e1, e2, BZ, e3];exact h6.to
theorem V0 (S : SOk σ) (hi : (t.i : Int) < σ.c.sl) (hI : k.I = t.i) (hfr : k.free = t.mark) :
 Sp kI [vp e] (rB e p nx t k * aA p g σ) (fun _ : Unit => .tuple #[vb (aC σ t).found, vb (decide (σ.c.sl ≤ ((t.i + 1 : Nat) : Int)))])
  (fun _ => rB e p nx t { k with I := t.i + 1, free := (aC σ t).mark, at' := t.i, obj := σ.μ.V (10, t.s, (t.i : Int)) % 4294967296 } * aA p g (aY σ t)) := by
 have hc := bL.1 S.c;refine bh (GU _) fun R H h => ?_;refine ak h ae rfl ?_;refine ak h ae rfl ?_;refine ak h ae rfl ?_;refine ak h ae rfl ?_;refine ak h ae rfl ?_;rw [hI];refine af h (wN (p := p) (g := g) (σ := σ) (B4 g.tb g.m σ.c.sh.toNat σ.c.sl.toNat σ.μ t.who t.s t.i (by have := S.N; omega) (S.V _))) fun _ H1 h1 => ?_;obtain ⟨v, hv⟩ : ∃ v, v = σ.μ.V (10, t.s, (t.i : Int)) := ⟨_, rfl⟩;rw [← hv];have fin : ∀ (y2 y3 fl : Value) (is : Bool) (k1 : Ek) (H' : AH), k1.I = t.i → (is = true → fl = vi ((v / 4294967296 : Nat) - 1)) → (aC σ t).found = (is && decide (((v / 4294967296 : Nat) : Int) - 1 = t.x.flow)) →
  { k1 with I := t.i + 1, at' := t.i, obj := v % 4294967296 } = { k with I := t.i + 1, free := (aC σ t).mark, at' := t.i, obj := v % 4294967296 } →
  ac (rB e p nx t k1 * (aA p g (aY σ t) * R)) H' → wp (jJ (vp e) y2 y3 fl (vi ((v % 4294967296 : Nat) : Int)) (vb is) H') fun v' H' => ∃ _x : Unit, v' = .tuple #[vb (aC σ t).found, vb (decide (σ.c.sl ≤ ((t.i + 1 : Nat) : Int)))] ∧
   ac (rB e p nx t { k with I := t.i + 1, free := (aC σ t).mark, at' := t.i, obj := v % 4294967296 } * aA p g (aY σ t) * R) H' := by
  intro y2 y3 fl is k1 H' hi1 hfl hfd hke h';refine ah (zl ..) ?_;refine ak h' ae rfl ?_;rw [hi1];refine bk h' ae rfl rfl fun H2 h2 => ?_;refine bk h2 ae rfl rfl fun H3 h3 => ?_;refine ak h3 ae rfl ?_;rw [hi1];refine aa (aS (by omega) (by omega)) ?_;rw [show ((t.i : Nat) : Int) + 1 = ((t.i + 1 : Nat) : Int) from by omega];refine bk h3 ae rfl rfl fun H4 h4 => ?_
  have h5 : ac (rB e p nx t { k with I := t.i + 1, free := (aC σ t).mark, at' := t.i, obj := v % 4294967296 } * (aA p g (aY σ t) * R)) H4 := by
   rw [← hke];exact h4.to
  have tail : ∀ (b : Bool) (x10 : Value) (H4 : AH), (aC σ t).found = b → ac (rB e p nx t { k with I := t.i + 1, free := (aC σ t).mark, at' := t.i, obj := v % 4294967296 } * (aA p g (aY σ t) * R)) H4 → (∀ H8, ac (rB e p nx t { k with I := t.i + 1, free := (aC σ t).mark, at' := t.i, obj := v % 4294967296 } * (aA p g (aY σ t) * R)) H8 → aq x10 H8 = aq x10 H4) → wp (ad [.n, .f 8] (vp e) fun v14 =>
   (aq v14 H4).bind fun v15 =>
   ld [.n, .f 0] (vp e) H4 fun v16 =>
   ld [.n, .f 2] v16 H4 fun v17 =>
   (FF dN [v17] H4).bind fun r18 =>
   bT (aq x10 r18.2) (aq x10 H4) <|
   bT (aq v14 r18.2) (aq v14 H4) <|
   (aj .other .geq v15 r18.1).bind fun v19 =>
   some (Value.tuple #[vb b, v19], r18.2)) fun v' H' => ∃ _x : Unit, v' = .tuple #[vb (aC σ t).found, vb (decide (σ.c.sl ≤ ((t.i + 1 : Nat) : Int)))] ∧
   ac (rB e p nx t { k with I := t.i + 1, free := (aC σ t).mark, at' := t.i, obj := v % 4294967296 } * aA p g (aY σ t) * R) H' := by
   intro b x10 H4 hb h5 hx;refine bC ae ?_;refine aV h5 rfl ?_;refine ak h5 ae rfl ?_;refine ak h5 ae rfl ?_;refine af h5 (JZ (p := p) (g := g) (σ := aY σ t) (B5 g.tb g.m σ.c.sh.toNat σ.c.sl.toNat)) fun _ H6 h6 => ?_;refine zI (hx H6 h6.to) ?_;refine aI h6 h5 (by rfl) ?_;refine aa (v := vb (decide (σ.c.sl ≤ ((t.i + 1 : Nat) : Int)))) ?_ ?_
   ·show aj _ .geq (vi ((t.i + 1 : Nat) : Int)) _ = _
    rw [tF]
    congr 3
    apply propext;omega
   exact am ⟨(), by rw [hb], h6.to⟩
  cases is with
  | false =>
   refine gs ?_;refine aaL ?_;refine gs ?_;exact tail false _ H4 (by rw [hfd]; rfl) h5 (fun _ _ => rfl)
  | true =>
   rw [hfl rfl];refine gs ?_;refine pX ?_;refine bC (b7 (aR (aR bf))) ?_;refine gs ?_;refine aV h5 rfl ?_;refine gs ?_
   by_cases hf : ((v / 4294967296 : Nat) : Int) - 1 = t.x.flow
   ·refine aa (bg hf) ?_
    refine gs ?_;exact tail true _ H4 (by rw [hfd, eu hf]; rfl) h5 (fun H8 h8 => agO h8 h5 rfl)
   ·refine aa (aE hf) ?_
    refine gs ?_;exact tail false _ H4 (by rw [hfd, d4 hf]; rfl) h5 (fun H8 h8 => agO h8 h5 rfl)
 by_cases hv0 : v = 0
 ·have e1 : io v = .tuple #[vi 0, vi 0, vb false] := by rw [io, if_pos hv0]
  rw [e1];refine aa (v := vi 0) rfl ?_;refine aa (v := vi 0) rfl ?_;refine aa (v := vb false) rfl ?_;refine ah (oB ..) ?_;refine gs ?_;rw [Bool.not_false];refine gs ?_;refine ak h1 ae rfl ?_;refine gs ?_
  have hfd : (aC σ t).found = (false && decide (((v / 4294967296 : Nat) : Int) - 1 = t.x.flow)) := by
   show qn (σ.μ.V (10, t.s, (t.i : Int))) t.x.flow = _;rw [← hv, hv0]
   rfl
  have e0 : vi (0 : Int) = vi ((v % 4294967296 : Nat) : Int) := by rw [hv0]; rfl
  by_cases hm : k.free < 0
  ·refine aa (cE hm) ?_
   refine gs ?_;refine ak h1 ae rfl ?_;refine bk h1 ae rfl rfl fun H2 h2 => ?_
   have em : (aC σ t).mark = t.i := by
    show (if σ.μ.V (10, t.s, (t.i : Int)) = 0 ∧ t.mark < 0 then (t.i : Int) else t.mark) = _;rw [if_pos ⟨by rw [← hv, hv0], by rw [← hfr]; exact hm⟩]
   rw [e0];refine fin _ _ _ false { k with free := t.i } H2 hI (fun h => by cases h) hfd (by rw [em]) ?_;rw [← hI];exact h2.to
  ·refine aa (bP hm) ?_
   refine gs ?_
   have em : (aC σ t).mark = k.free := by
    show (if σ.μ.V (10, t.s, (t.i : Int)) = 0 ∧ t.mark < 0 then (t.i : Int) else t.mark) = _;rw [if_neg (fun h => hm (by rw [hfr]; exact h.2)), hfr]
   rw [e0];exact fin _ _ _ false k H1 hI (fun h => by cases h) hfd (by rw [em]) h1.to
 ·have e1 : io v = .tuple #[vi ((v / 4294967296 : Nat) - 1), vi (v % 4294967296 : Nat), vb true] := by rw [io, if_neg hv0]
  rw [e1];refine aa (v := vi ((v / 4294967296 : Nat) - 1)) rfl ?_;refine aa (v := vi (v % 4294967296 : Nat)) rfl ?_;refine aa (v := vb true) rfl ?_;refine ah (oB ..) ?_;refine gs ?_;rw [Bool.not_true];refine gs ?_
  have hfd : (aC σ t).found = (true && decide (((v / 4294967296 : Nat) : Int) - 1 = t.x.flow)) := by
   show qn (σ.μ.V (10, t.s, (t.i : Int))) t.x.flow = _;rw [← hv];simp [qn, hv0]
  have em : (aC σ t).mark = k.free := by
   show (if σ.μ.V (10, t.s, (t.i : Int)) = 0 ∧ t.mark < 0 then (t.i : Int) else t.mark) = _;rw [if_neg (fun h => hv0 (hv.trans h.1)), hfr]
  exact fin _ _ _ true k H1 hI (fun _ => rfl) hfd (by rw [em]) h1.to
end
theorem vj {rp : List Nat} {t : Tk} {k : Ek} (ha : t.at' < 4) (h : k.I = t.i ∧ k.free = t.mark) : Plt rp t k :=
 ⟨fun _ => h, fun _ => ⟨fun h => by omega, fun h => by omega, fun h => by omega⟩, fun _ => ⟨fun h _ => by omega, fun h => by omega, fun h => by omega, fun h => by omega, fun h => by omega⟩⟩
theorem M4 {rp : List Nat} {t : Tk} {k : Ek} (ho : t.x.op = 1) (ha : 4 ≤ t.at') (h4 : t.at' = 4 ∨ t.at' = 5 → k.free = t.mark) (h5 : t.at' = 5 → k.obj = t.obj) (h6 : t.at' = 6 → k.told = t.code) : Plt rp t k :=
 ⟨fun h => by omega, fun _ => ⟨h4, h5, h6⟩, fun h => absurd ho h⟩
theorem uE {rp : List Nat} {t : Tk} {k : Ek} {b : Nat} (ho : t.x.op ≠ 1) (ha : 4 ≤ t.at') (h1 : k.at' = t.i) (h2 : rp[t.obj]? = some b) (h3 : k.rv = vp b) (hq : t.at' = 6 ∨ t.at' = 7 → k.q = t.q) (hn : t.at' = 7 → k.nw = t.mark) (hw : t.at' = 8 → k.w = t.w) (hb : t.at' < 10) (ht : t.at' = 9 → k.told = t.code) : Plt rp t k :=
 ⟨fun h => by omega, fun h => absurd h ho, fun _ => ⟨fun _ _ => ⟨h1, b, h2, h3⟩, hq, hn, hw, fun h => ht (by omega)⟩⟩
theorem aa9 {rp : List Nat} {t : Tk} {k : Ek} (ho : t.x.op ≠ 1) (ha : t.at' = 10) (h : k.told = t.code) : Plt rp t k :=
 ⟨fun h => by omega, fun h => absurd h ho, fun _ => ⟨fun _ _ => by omega, fun h => by omega, fun h => by omega, fun h => by omega, fun _ => h⟩⟩
section
variable (e p : Nat) (rp : List Nat) (σ : aM) (t : Tk) (now : Int)
theorem JA (S : SOk σ) (T : mN σ t) (ho : t.x.op = 1) (hat : t.at' < 4) : Sp cM [vp e, vi now] (rT e p rp t * bd p rp σ) (fun _ : List Nat => bX (fm σ t)) (fun x => rQ e p rp (fm σ t) x) := by
 have hN : σ.μ.N < 1099511627000 := by have := S.N; omega
 refine aO fun R H h => ?_;obtain ⟨k, g, hk, rfl, hl, h0⟩ := iz h;refine bm (fun r => Bc _ _ H) ?_;refine br h0 fun b1 H1 h1 => ?_;refine ak h1 ae rfl ?_;refine ak h1 ae rfl ?_;refine ak h1 ae rfl ?_;refine ak h1 ae rfl ?_;refine af h1 (wN (p := p) (g := g) (σ := σ) (wG g.tb g.m σ.c.sh.toNat σ.c.sl.toNat σ.μ t.who t.s hN)) fun _ H2 h2 => ?_
 by_cases hw : σ.μ.V (8, t.s, 0) = 0
 ·rw [eu hw]
  refine gs ?_;rw [Bool.not_true];refine gs ?_;refine gC (e := e) (p := p) (fj e (fS t)) t (k) bQ h2 fun H9 h9 => ?_;exact gz (g := g) (σ' := lM σ t) (t' := { t with at' := 3 }) (k := k) (n := bQ) (by unfold fm; rw [if_pos hw]) (vj (by simp) (hk.1 hat)) (by simp [fS, aC, ho]) hl (lm _) (show ac (rB e p (fj e bQ) t (k) * (aA p g (lM σ t) * R)) H9 from h9.to)
 ·rw [d4 hw]
  refine gs ?_;rw [Bool.not_false];refine gs ?_;refine gC (e := e) (p := p) (fj e (fS t)) t (k) cM h2 fun H9 h9 => ?_;exact gz (g := g) (σ' := lM σ t) (t' := { t with at' := 2 }) (k := k) (n := cM) (by unfold fm; rw [if_neg hw]) (vj (by simp) (hk.1 hat)) (by simp [fS, aC, ho]) hl (lm _) (show ac (rB e p (fj e cM) t (k) * (aA p g (lM σ t) * R)) H9 from h9.to)
theorem OD (S : SOk σ) (T : mN σ t) (ho : t.x.op ≠ 1) (hat : t.at' < 4) : Sp cX [vp e, vi now] (rT e p rp t * bd p rp σ) (fun _ : List Nat => bX (fm σ t)) (fun x => rQ e p rp (fm σ t) x) := by
 have hN : σ.μ.N < 1099511627000 := by have := S.N; omega
 refine aO fun R H h => ?_;obtain ⟨k, g, hk, rfl, hl, h0⟩ := iz h;refine bm (fun r => Dv _ _ H) ?_;refine br h0 fun b1 H1 h1 => ?_;refine ak h1 ae rfl ?_;refine ak h1 ae rfl ?_;refine ak h1 ae rfl ?_;refine ak h1 ae rfl ?_;refine af h1 (wN (p := p) (g := g) (σ := σ) (wG g.tb g.m σ.c.sh.toNat σ.c.sl.toNat σ.μ t.who t.s hN)) fun _ H2 h2 => ?_
 by_cases hw : σ.μ.V (8, t.s, 0) = 0
 ·rw [eu hw]
  refine gs ?_;rw [Bool.not_true];refine gs ?_;refine gC (e := e) (p := p) (fj e (fS t)) t (k) b8 h2 fun H9 h9 => ?_;exact gz (g := g) (σ' := lM σ t) (t' := { t with at' := 3 }) (k := k) (n := b8) (by unfold fm; rw [if_pos hw]) (vj (by simp) (hk.1 hat)) (by simp [fS, aC, ho]) hl (lm _) (show ac (rB e p (fj e b8) t (k) * (aA p g (lM σ t) * R)) H9 from h9.to)
 ·rw [d4 hw]
  refine gs ?_;rw [Bool.not_false];refine gs ?_;refine gC (e := e) (p := p) (fj e (fS t)) t (k) cX h2 fun H9 h9 => ?_;exact gz (g := g) (σ' := lM σ t) (t' := { t with at' := 2 }) (k := k) (n := cX) (by unfold fm; rw [if_neg hw]) (vj (by simp) (hk.1 hat)) (by simp [fS, aC, ho]) hl (lm _) (show ac (rB e p (fj e cX) t (k) * (aA p g (lM σ t) * R)) H9 from h9.to)
theorem BV (g : PIds) (k : Ek) (nx : Value) : Sp gr [vp e] (rB e p nx t k) (fun _ : Unit => vb (decide (sS t.x))) (fun _ => rB e p nx t k) := by
 refine bh (wC _) fun R H h => ?_;refine ak h (b7 (aR (aR bf))) rfl ?_
 by_cases hf : t.x.flow < 0
 ·rw [show decide (sS t.x) = true from eu (.inl hf)]
  refine aa (cE hf) ?_;refine gs ?_;exact am ⟨(), rfl, h⟩
 ·refine aa (bP hf) ?_
  refine gs ?_;refine ak h (b7 (aR (aR bf))) rfl ?_;refine gs ?_
  by_cases hf2 : 1048576 < t.x.flow
  ·rw [show decide (sS t.x) = true from eu (.inr hf2)]
   refine aa (pA hf2) ?_;refine gs ?_;exact am ⟨(), rfl, h⟩
  ·rw [show decide (sS t.x) = false from d4 (fun h => h.elim hf hf2)]
   refine aa (fV hf2) ?_;refine gs ?_;exact am ⟨(), rfl, h⟩
theorem R0 (g : PIds) (k : Ek) (nx : Value) (code : Int) (hp : σ.pts.length < 1000000) (hl : g.rp.length = σ.obs.length) : Sp dm [vp e, vi now, vi code] (rB e p nx t k * aA p g σ) (fun _ : Unit => .tuple #[.agg (ie code).toArray, vb true]) (fun _ => ex fun g' : PIds => pu (g'.rp = g.rp) * aA p g' (σ.note now t.who code)) := by
 refine bh (zm _ _ _) fun R H h => ?_;refine br h fun b H1 h1 => ?_;refine af h1 (nM e p g σ t k nx now code hp hl) fun g' H2 h2 => ?_;rw [ai, ac.pu] at h2;obtain ⟨hg', h2⟩ := h2;refine jc ?_;refine fi h2 rfl rfl fun H4 h4 => ?_;refine aZ h4 ?_;refine am ⟨(), rfl, ac.ex.2 ⟨g', ?_⟩⟩;rw [ai];exact ac.pu.2 ⟨hg', h4.to⟩
theorem mK {R : SP} {H : AH} {g : PIds} {k : Ek} {nx : Value} {b : Nat} (code : Int) (S : SOk σ) (hl : g.rp.length = σ.obs.length) (hx : uA t.x = some code) (h : ac (rB e p nx t k * (aA p g σ * (blk b (.cells false [vi 0, .slice none 0 0, vi 0, vw 0]) * R))) H) (hat : t.at' = 0) :
 wp ((FF dm [vp e, vi now, vi code] H).bind fun r2 => (ag r2.1 0).bind fun v3 => (ag r2.1 1).bind fun v4 => (cH 4 (vp b) v3 r2.2).bind fun H5 => (ax 4 (vp b) H5).bind fun v6 => some (Value.tuple #[v6, v4], H5)) fun v' H' => ∃ x : List Nat, v' = bX (ay σ t now) ∧ ac (rQ e p g.rp (ay σ t now) x * R) H' := by
 refine nO h (R0 e p σ t now g k nx code (by have := S.pts; omega) hl) fun H9 h9 => ?_;obtain ⟨g', h1⟩ := ac.ex.1 h9;rw [ai, ac.pu] at h1
 have hs : ay σ t now = (σ.note now t.who code, { t with code := code }, true) := by simp only [ay, hat, hx]
 have := ah3 (e := e) (p := p) (rp := g.rp) (g := g') (r := ay σ t now) (σ' := σ.note now t.who code) (t' := { t with code := code }) (R := R) (H := H9) hs rfl (by rw [h1.1]; exact hl) (by rw [h1.1]; exact lm _) h1.2.to;exact this
theorem nL {x : Cl} (ho : x.op = 1) : uA x = if sS x then some 1 else if x.a < 1 ∨ 65536 < x.a then some 4 else if x.b < 1 ∨ 8 < x.b then some 1 else none := if_pos ho
theorem GS {x : Cl} (ho : x.op ≠ 1) : uA x = if sS x then some 5 else none := if_neg ho
theorem zj {k : Ek} {g : PIds} {R : SP} {H : AH} (hk : Plt g.rp t k) (hl : g.rp.length = σ.obs.length) (h : ac (rB e p (fj e (fS t)) t k * (aA p g σ * R)) H) : ac (rT e p g.rp t * bd p g.rp σ * R) H := by
 have h1 := bB (p := p) (rp := g.rp) (σ := σ) (R := rB e p (fj e (fS t)) t k * R) g rfl hl h.to;unfold rT;rw [ai];refine ac.ex.2 ⟨k, ?_⟩;rw [ai];exact ac.pu.2 ⟨hk, h1.to⟩
theorem MV {e p : Nat} {rp : List Nat} {r : aM × Tk × Bool} {P0 R : SP} {H : AH} {b fn : Nat} {args : List Value} (h : ac (P0 * (blk b (.cells false [vi 0, .slice none 0 0, vi 0, vw 0]) * R)) H)
 (s : Sp fn args P0 (fun _ : List Nat => bX r) (fun x => rQ e p rp r x)) :
 wp ((FF fn args H).bind fun r2 => (ag r2.1 0).bind fun v3 => (ag r2.1 1).bind fun v4 => (cH 4 (vp b) v3 r2.2).bind fun H5 => (ax 4 (vp b) H5).bind fun v6 => some (Value.tuple #[v6, v4], H5)) fun v' H' => ∃ x : List Nat, v' = bX r ∧ ac (rQ e p rp r x * R) H' := by
 refine af h s fun y H2 h2 => ?_;refine aa (v := .agg (ie (if r.2.2 = true then r.2.1.code else 0)).toArray) rfl ?_;refine aa (v := vb r.2.2) rfl ?_;refine fi h2 rfl rfl fun H3 h3 => ?_;refine aZ h3 ?_;exact am ⟨y, rfl, h3.to⟩
theorem aiD (S : SOk σ) (T : mN σ t) (ho : t.x.op = 1) (hat : t.at' = 0) : Sp fL [vp e, vi now] (rT e p rp t * bd p rp σ) (fun _ : List Nat => bX (ay σ t now)) (fun x => rQ e p rp (ay σ t now) x) := by
 refine aO fun R H h => ?_;obtain ⟨k, g, hk, rfl, hl, h0⟩ := iz h;refine bm (fun r => Dt _ _ H) ?_;refine br h0 fun b1 H1 h1 => ?_;refine ah (wy ..) ?_;refine af h1 (BV e p t g k (fj e (fS t))) fun _ H2 h2 => ?_
 by_cases hf : sS t.x
 ·rw [eu hf]
  refine gs ?_;exact mK e p σ t now (k := k) (nx := fj e (fS t)) 1 S hl (by rw [nL ho, if_pos hf]) h2.to hat
 rw [d4 hf];refine gs ?_;refine ak h2 (b7 (aR (aR bf))) rfl ?_
 have bad : (t.x.a < 1 ∨ 65536 < t.x.a) → uA t.x = some 4 := fun h => by rw [nL ho, if_neg hf, if_pos h]
 by_cases ha : t.x.a < 1
 ·refine aa (cE ha) ?_
  refine gs ?_;exact mK e p σ t now (k := k) (nx := fj e (fS t)) 4 S hl (bad (.inl ha)) h2.to hat
 refine aa (bP ha) ?_;refine gs ?_;refine ak h2 (b7 (aR (aR bf))) rfl ?_;refine gs ?_
 by_cases ha2 : 65536 < t.x.a
 ·refine aa (pA ha2) ?_
  refine gs ?_;exact mK e p σ t now (k := k) (nx := fj e (fS t)) 4 S hl (bad (.inr ha2)) h2.to hat
 refine aa (fV ha2) ?_;refine gs ?_;refine ak h2 (b7 (aR (aR bf))) rfl ?_
 have bad2 : (t.x.b < 1 ∨ 8 < t.x.b) → uA t.x = some 1 := fun h => by rw [nL ho, if_neg hf, if_neg (by omega), if_pos h]
 by_cases hb : t.x.b < 1
 ·refine aa (cE hb) ?_
  refine gs ?_;exact mK e p σ t now (k := k) (nx := fj e (fS t)) 1 S hl (bad2 (.inl hb)) h2.to hat
 refine aa (bP hb) ?_;refine gs ?_;refine ak h2 (b7 (aR (aR bf))) rfl ?_;refine gs ?_
 by_cases hb2 : 8 < t.x.b
 ·refine aa (pA hb2) ?_
  refine gs ?_;exact mK e p σ t now (k := k) (nx := fj e (fS t)) 1 S hl (bad2 (.inr hb2)) h2.to hat
 refine aa (fV hb2) ?_;refine gs ?_;refine ah (wz ..) ?_
 have hx : uA t.x = none := by rw [nL ho, if_neg hf, if_neg (by omega), if_neg (by omega)]
 have hs : ay σ t now = fm σ t := by simp only [ay, hat, hx]
 have h3 : ac (rT e p g.rp t * bd p g.rp σ * (blk b1 (.cells false [vi 0, .slice none 0 0, vi 0, vw 0]) * R)) H2 := zj e p σ t hk hl h2.to;rw [hs];exact MV h3 (JA e p g.rp σ t now S T ho (by omega))
theorem ZQ (S : SOk σ) (T : mN σ t) (ho : t.x.op ≠ 1) (hat : t.at' = 0) : Sp eL [vp e, vi now] (rT e p rp t * bd p rp σ) (fun _ : List Nat => bX (ay σ t now)) (fun x => rQ e p rp (ay σ t now) x) := by
 refine aO fun R H h => ?_;obtain ⟨k, g, hk, rfl, hl, h0⟩ := iz h;refine bm (fun r => Bd _ _ H) ?_;refine br h0 fun b1 H1 h1 => ?_;refine af h1 (BV e p t g k (fj e (fS t))) fun _ H2 h2 => ?_
 by_cases hf : sS t.x
 ·rw [eu hf]
  refine gs ?_;exact mK e p σ t now (k := k) (nx := fj e (fS t)) 5 S hl (by rw [GS ho, if_pos hf]) h2.to hat
 rw [d4 hf];refine gs ?_
 have hx : uA t.x = none := by rw [GS ho, if_neg hf]
 have hs : ay σ t now = fm σ t := by simp only [ay, hat, hx]
 have h3 : ac (rT e p g.rp t * bd p g.rp σ * (blk b1 (.cells false [vi 0, .slice none 0 0, vi 0, vw 0]) * R)) H2 := zj e p σ t hk hl h2.to;rw [hs];exact MV h3 (OD e p g.rp σ t now S T ho (by omega))
theorem R4 (S : SOk σ) (T : mN σ t) (ho : t.x.op = 1) (hat : t.at' = 3) : Sp bQ [vp e, vi now] (rT e p rp t * bd p rp σ) (fun _ : List Nat => bX (ay σ t now)) (fun x => rQ e p rp (ay σ t now) x) := by
 have hN : σ.μ.N < 1099511627000 := by have := S.N; omega
 refine aO fun R H h => ?_;obtain ⟨k, g, hk, rfl, hl, h0⟩ := iz h;refine bm (fun r => zn _ _ H) ?_;refine br h0 fun b1 H1 h1 => ?_;have hi := T.i (by omega);obtain ⟨hI, hfr⟩ := hk.1 (by omega);refine af h1 (V0 e p g σ t k (fj e (fS t)) S hi hI hfr) fun _ H2 h2 => ?_;obtain ⟨k2, hk2⟩ : ∃ k2 : Ek, k2 = { k with I := t.i + 1, free := (aC σ t).mark, at' := t.i, obj := σ.μ.V (10, t.s, (t.i : Int)) % 4294967296 } := ⟨_, rfl⟩;rw [← hk2] at h2;refine aa (v := vb (aC σ t).found) rfl ?_;refine aa (v := vb (decide (σ.c.sl ≤ ((t.i + 1 : Nat) : Int)))) rfl ?_;refine ah (tg ..) ?_
 cases hfd : (aC σ t).found with
 | true =>
  refine gs ?_;refine af h2 (nM e p g (aY σ t) t k2 (fj e (fS t)) now 6 (by have := S.pts; show σ.pts.length < _; omega) hl) fun g' H3 h3 => ?_;rw [ai, ac.pu] at h3;obtain ⟨hg', h3⟩ := h3;refine gC (e := e) (p := p) (fj e (fS t)) t ({ k2 with told := 6 }) aQ h3 fun H9 h9 => ?_;exact gz (g := g') (σ' := (aY σ t).note now t.who 6) (t' := { aC σ t with at' := 6, code := 6 }) (k := { k2 with told := 6 }) (n := aQ) (by simp only [ay, hat]; rw [if_pos hfd, if_pos ho]) (M4 ho (by simp) (by simp) (by simp) (by simp)) (by simp [fS, aC, ho]) (by rw [hg']; exact hl) (by rw [hg']; exact lm _) (show ac (rB e p (fj e aQ) t ({ k2 with told := 6 }) * (aA p g' ((aY σ t).note now t.who 6) * R)) H9 from h9.to)
 | false =>
  refine gs ?_
  have hli : (aC σ t).i = t.i + 1 := by
   show (if (aC σ t).found = true then t.i else t.i + 1) = _;rw [if_neg (by rw [hfd]; simp)]
  have hla : cn σ (aC σ t) = decide (σ.c.sl ≤ ((t.i + 1 : Nat) : Int)) := by unfold cn; rw [hli]
  have nf : ¬ (aC σ t).found = true := by rw [hfd]; simp
  by_cases hL : σ.c.sl ≤ ((t.i + 1 : Nat) : Int)
  ·have hla' : cn σ (aC σ t) = true := hla.trans (eu hL)
   rw [eu hL];refine gs ?_;refine ak h2 ae (show _ = some (vi (aC σ t).mark) from by rw [hk2]; rfl) ?_;refine gs ?_
   by_cases hm : (aC σ t).mark < 0
   ·refine aa (cE hm) ?_
    refine gs ?_;refine af h2 (nM e p g (aY σ t) t k2 (fj e (fS t)) now 7 (by have := S.pts; show σ.pts.length < _; omega) hl) fun g' H3 h3 => ?_;rw [ai, ac.pu] at h3;obtain ⟨hg', h3⟩ := h3;refine gC (e := e) (p := p) (fj e (fS t)) t ({ k2 with told := 7 }) aQ h3 fun H9 h9 => ?_;exact gz (g := g') (σ' := (aY σ t).note now t.who 7) (t' := { aC σ t with at' := 6, code := 7 }) (k := { k2 with told := 7 }) (n := aQ) (by simp only [ay, hat]; rw [if_neg nf, if_pos hla', if_pos ho, if_pos hm]) (M4 ho (by simp) (by simp) (by simp) (by simp)) (by simp [fS, aC, ho]) (by rw [hg']; exact hl) (by rw [hg']; exact lm _) (show ac (rB e p (fj e aQ) t ({ k2 with told := 7 }) * (aA p g' ((aY σ t).note now t.who 7) * R)) H9 from h9.to)
   ·refine aa (bP hm) ?_
    refine gs ?_;refine gC (e := e) (p := p) (fj e (fS t)) t (k2) dy h2 fun H9 h9 => ?_;exact gz (g := g) (σ' := aY σ t) (t' := { aC σ t with at' := 4 }) (k := k2) (n := dy) (by simp only [ay, hat]; rw [if_neg nf, if_pos hla', if_pos ho, if_neg hm]) (M4 ho (by simp) (fun _ => by rw [hk2]) (by simp) (by simp)) (by simp [fS, aC, ho]) hl (lm _) (show ac (rB e p (fj e dy) t (k2) * (aA p g (aY σ t) * R)) H9 from h9.to)
  ·have hla' : ¬ cn σ (aC σ t) = true := by rw [hla, d4 hL]; simp
   rw [d4 hL];refine gs ?_;refine ah (th ..) ?_;refine gC (e := e) (p := p) (fj e (fS t)) t (k2) bQ h2 fun H9 h9 => ?_;exact gz (g := g) (σ' := aY σ t) (t' := aC σ t) (k := k2) (n := bQ) (by simp only [ay, hat]; rw [if_neg nf, if_neg hla']) (vj (by show t.at' < 4; omega) ⟨by rw [hk2, hli], by rw [hk2]⟩) (by show fS (aC σ t) = _; unfold fS; rw [if_pos (show (aC σ t).x.op = 1 from ho), show (aC σ t).at' = 3 from hat]; rfl) hl (lm _) (show ac (rB e p (fj e bQ) t (k2) * (aA p g (aY σ t) * R)) H9 from h9.to)
theorem aiE (S : SOk σ) (T : mN σ t) (ho : t.x.op ≠ 1) (hat : t.at' = 3) : Sp b8 [vp e, vi now] (rT e p rp t * bd p rp σ) (fun _ : List Nat => bX (ay σ t now)) (fun x => rQ e p rp (ay σ t now) x) := by
 have hN : σ.μ.N < 1099511627000 := by have := S.N; omega
 refine aO fun R H h => ?_;obtain ⟨k, g, hk, rfl, hl, h0⟩ := iz h;refine bm (fun r => Du _ _ H) ?_;refine br h0 fun b1 H1 h1 => ?_;have hi := T.i (by omega);obtain ⟨hI, hfr⟩ := hk.1 (by omega);refine af h1 (V0 e p g σ t k (fj e (fS t)) S hi hI hfr) fun _ H2 h2 => ?_;obtain ⟨k2, hk2⟩ : ∃ k2 : Ek, k2 = { k with I := t.i + 1, free := (aC σ t).mark, at' := t.i, obj := σ.μ.V (10, t.s, (t.i : Int)) % 4294967296 } := ⟨_, rfl⟩;rw [← hk2] at h2;refine aa (v := vb (aC σ t).found) rfl ?_;refine aa (v := vb (decide (σ.c.sl ≤ ((t.i + 1 : Nat) : Int)))) rfl ?_;refine ah (wA ..) ?_
 cases hfd : (aC σ t).found with
 | true =>
  refine gs ?_
  have hob : (aC σ t).obj = σ.μ.V (10, t.s, (t.i : Int)) % 4294967296 := by
   show (if (aC σ t).found = true then σ.μ.V (10, t.s, (t.i : Int)) % 4294967296 else t.obj) = _;rw [if_pos hfd]
  have hi2 : (aC σ t).i = t.i := by
   show (if (aC σ t).found = true then t.i else t.i + 1) = _;rw [if_pos hfd]
  have ho2 : (aC σ t).obj < σ.obs.length := by
   rw [hob];refine S.slot t.s t.i fun h0 => ?_;have : qn (σ.μ.V (10, t.s, (t.i : Int))) t.x.flow = true := hfd;rw [h0] at this;cases this
  obtain ⟨b, hb⟩ : ∃ b, g.rp[(aC σ t).obj]? = some b := ⟨_, cB (by omega)⟩;refine ak h2 ae rfl ?_;refine ak h2 ae (show _ = some (vi ((aC σ t).obj : Int)) from by rw [hk2, hob]; rfl) ?_;refine af h2 (sU p g (aY σ t) hl (aC σ t).obj b ho2 hb) fun _ H3 h3 => ?_;refine bk h3 ae rfl rfl fun H4 h4 => ?_;refine gC (e := e) (p := p) (fj e (fS t)) t ({ k2 with rv := vp b }) bq h4 fun H9 h9 => ?_;exact gz (g := g) (σ' := aY σ t) (t' := { aC σ t with at' := 4 }) (k := { k2 with rv := vp b }) (n := bq) (by simp only [ay, hat]; rw [if_pos hfd, if_neg ho]) (uE (b := b) ho (by simp) (show k2.at' = ((aC σ t).i : Int) from by rw [hk2, hi2]) hb rfl (by simp) (by simp) (by simp) (by simp) (by simp)) (by simp [fS, aC, ho]) hl (lm _) (show ac (rB e p (fj e bq) t ({ k2 with rv := vp b }) * (aA p g (aY σ t) * R)) H9 from h9.to)
 | false =>
  refine gs ?_
  have hli : (aC σ t).i = t.i + 1 := by
   show (if (aC σ t).found = true then t.i else t.i + 1) = _;rw [if_neg (by rw [hfd]; simp)]
  have hla : cn σ (aC σ t) = decide (σ.c.sl ≤ ((t.i + 1 : Nat) : Int)) := by unfold cn; rw [hli]
  have nf : ¬ (aC σ t).found = true := by rw [hfd]; simp
  by_cases hL : σ.c.sl ≤ ((t.i + 1 : Nat) : Int)
  ·have hla' : cn σ (aC σ t) = true := hla.trans (eu hL)
   rw [eu hL];refine gs ?_;refine af h2 (nM e p g (aY σ t) t k2 (fj e (fS t)) now 5 (by have := S.pts; show σ.pts.length < _; omega) hl) fun g' H3 h3 => ?_;rw [ai, ac.pu] at h3;obtain ⟨hg', h3⟩ := h3;refine gC (e := e) (p := p) (fj e (fS t)) t ({ k2 with told := 5 }) aQ h3 fun H9 h9 => ?_;exact gz (g := g') (σ' := (aY σ t).note now t.who 5) (t' := { aC σ t with at' := 10, code := 5 }) (k := { k2 with told := 5 }) (n := aQ) (by simp only [ay, hat]; rw [if_neg nf, if_pos hla', if_neg ho]) (aa9 ho rfl rfl) (by simp [fS, aC, ho]) (by rw [hg']; exact hl) (by rw [hg']; exact lm _) (show ac (rB e p (fj e aQ) t ({ k2 with told := 5 }) * (aA p g' ((aY σ t).note now t.who 5) * R)) H9 from h9.to)
  ·have hla' : ¬ cn σ (aC σ t) = true := by rw [hla, d4 hL]; simp
   rw [d4 hL];refine gs ?_;refine ah (wB ..) ?_;refine gC (e := e) (p := p) (fj e (fS t)) t (k2) b8 h2 fun H9 h9 => ?_;exact gz (g := g) (σ' := aY σ t) (t' := aC σ t) (k := k2) (n := b8) (by simp only [ay, hat]; rw [if_neg nf, if_neg hla']) (vj (by show t.at' < 4; omega) ⟨by rw [hk2, hli], by rw [hk2]⟩) (by show fS (aC σ t) = _; unfold fS; rw [if_neg (show ¬ (aC σ t).x.op = 1 from ho), show (aC σ t).at' = 3 from hat]; rfl) hl (lm _) (show ac (rB e p (fj e b8) t (k2) * (aA p g (aY σ t) * R)) H9 from h9.to)
theorem mn (ho : t.x.op = 1) (ha : 4 ≤ t.at') : ay σ t now = Dq σ t now := by
 unfold ay
 split
 ·omega
 ·omega
 ·omega
 ·rw [if_pos ho]
theorem bO (ho : t.x.op ≠ 1) (ha : 4 ≤ t.at') : ay σ t now = fY σ t now := by
 unfold ay
 split
 ·omega
 ·omega
 ·omega
 ·rw [if_neg ho]
theorem zk {x : Cl} (h : uA x = none) : (0 ≤ x.flow ∧ x.flow ≤ 1048576) ∧ (x.op = 1 → (1 ≤ x.a ∧ x.a ≤ 65536) ∧ 1 ≤ x.b ∧ x.b ≤ 8) := by
 by_cases ho : x.op = 1
 ·rw [nL ho] at h
  by_cases hf : sS x
  ·rw [if_pos hf] at h; cases h
  rw [if_neg hf] at h
  by_cases ha : x.a < 1 ∨ 65536 < x.a
  ·rw [if_pos ha] at h; cases h
  rw [if_neg ha] at h
  by_cases hb : x.b < 1 ∨ 8 < x.b
  ·rw [if_pos hb] at h; cases h
  unfold sS at hf;omega
 ·rw [GS ho] at h
  by_cases hf : sS x
  ·rw [if_pos hf] at h; cases h
  unfold sS at hf;omega
theorem aiF (S : SOk σ) (T : mN σ t) (ho : t.x.op = 1) (hat : t.at' = 4) : Sp dy [vp e, vi now] (rT e p rp t * bd p rp σ) (fun _ : List Nat => bX (ay σ t now)) (fun x => rQ e p rp (ay σ t now) x) := by
 have hN : σ.μ.N < 1099511627000 := by have := S.N; omega
 refine aO fun R H h => ?_;obtain ⟨k, g, hk, rfl, hl, h0⟩ := iz h;refine bm (fun r => Dw _ _ H) ?_;refine br h0 fun b1 H1 h1 => ?_;have hx := zk (T.x (by omega));have hc := bL.1 S.c
 have hst : ay σ t now = (σ.make t.who (HZ σ t), { t with obj := σ.obs.length, at' := 5 }, false) := by rw [mn σ t now ho (by omega)]; simp only [Dq, hat]
 refine ak h1 ae rfl ?_;refine ak h1 (b7 (aR (aR bf))) rfl ?_;refine ak h1 (b7 (aR (aR bf))) rfl ?_;refine af h1 (OX σ.c.un t.x.a (by omega) (hx.2 ho).1) fun _ H2 h2 => ?_;refine aa (v := vu (max (σ.c.un / t.x.a.toNat) 1)) rfl ?_;refine aa (v := vb true) rfl ?_;refine ak h2 ae rfl ?_;refine ak h2 ae rfl ?_;refine ak h2 (b7 (aR (aR bf))) rfl ?_;refine ak h2 (b7 (aR (aR bf))) rfl ?_;refine jc ?_;refine af h2 (arO p g σ t.who (HZ σ t) hN (by have := S.obs; omega) hl) fun g' H3 h3 => ?_;rw [ai, ac.pu] at h3;obtain ⟨⟨hpre, hl'⟩, h3⟩ := h3;refine bk h3 ae rfl rfl fun H4 h4 => ?_;refine gC (e := e) (p := p) (fj e (fS t)) ({ t with obj := σ.obs.length, at' := 5 }) ({ k with obj := σ.obs.length }) fg h4 fun H9 h9 => ?_;exact gz (g := g') (σ' := σ.make t.who (HZ σ t)) (t' := { t with obj := σ.obs.length, at' := 5 }) (k := { k with obj := σ.obs.length }) (n := fg) hst (M4 ho (by simp) (fun _ => (hk.2.1 ho).1 (.inl hat)) (by simp) (by simp)) (by simp [fS, aC, ho]) (by rw [hl']; simp) hpre h9.to
theorem am5 (S : SOk σ) (T : mN σ t) (ho : t.x.op = 1) (hat : t.at' = 5) : Sp fg [vp e, vi now] (rT e p rp t * bd p rp σ) (fun _ : List Nat => bX (ay σ t now)) (fun x => rQ e p rp (ay σ t now) x) := by
 have hN : σ.μ.N < 1099511627000 := by have := S.N; omega
 refine aO fun R H h => ?_;obtain ⟨k, g, hk, rfl, hl, h0⟩ := iz h;refine bm (fun r => GW _ _ H) ?_;refine br h0 fun b1 H1 h1 => ?_;have hx := zk (T.x (by omega));have hob := T.obj (.inl ⟨hat, ho⟩);have hso := S.obs;have hfm := (hk.2.1 ho).1 (.inr hat);have hko := (hk.2.1 ho).2.1 hat
 have hst : ay σ t now = ((σ.mem ((σ.μ.acc t.who 2 (10, t.s, t.mark)).put (10, t.s, t.mark) (cG t.x.flow t.obj))).note now t.who 0, { t with at' := 6, code := 0 }, false) := by rw [mn σ t now ho (by omega)]; simp only [Dq, hat]
 refine ak h1 ae rfl ?_;refine ak h1 ae rfl ?_;refine ak h1 ae rfl ?_;refine ak h1 ae rfl ?_;refine ak h1 ae rfl ?_;refine ak h1 (b7 (aR (aR bf))) rfl ?_;refine ak h1 ae rfl ?_;rw [hfm, hko];refine af h1 (wN (p := p) (g := g) (σ := σ) (JP g.tb g.m σ.c.sh.toNat σ.c.sl.toNat σ.μ t.who t.s t.mark t.x.flow t.obj hN hx.1 (by omega))) fun _ H2 h2 => ?_;refine af h2 (nM e p g (σ.mem ((σ.μ.acc t.who 2 (10, t.s, t.mark)).put (10, t.s, t.mark) (cG t.x.flow t.obj))) t k (fj e (fS t)) now 0 (by have := S.pts; show σ.pts.length < _; omega) hl) fun g' H3 h3 => ?_;rw [ai, ac.pu] at h3;obtain ⟨hg', h3⟩ := h3;refine gC (e := e) (p := p) (fj e (fS t)) ({ t with at' := 6, code := 0 }) ({ k with told := 0 }) aQ h3 fun H9 h9 => ?_;exact gz (g := g') (σ' := (σ.mem ((σ.μ.acc t.who 2 (10, t.s, t.mark)).put (10, t.s, t.mark) (cG t.x.flow t.obj))).note now t.who 0) (t' := { t with at' := 6, code := 0 }) (k := { k with told := 0 }) (n := aQ) hst (M4 ho (by simp) (by simp) (by simp) (by simp)) (by simp [fS, aC, ho]) (by rw [hg']; exact hl) (by rw [hg']; exact lm _) h9.to
theorem V1 (S : SOk σ) (T : mN σ t) (hat : t.at' = if t.x.op = 1 then 6 else 10) : Sp aQ [vp e, vi now] (rT e p rp t * bd p rp σ) (fun _ : List Nat => bX (ay σ t now)) (fun x => rQ e p rp (ay σ t now) x) := by
 have hN : σ.μ.N < 1099511627000 := by have := S.N; omega
 refine aO fun R H h => ?_;obtain ⟨k, g, hk, rfl, hl, h0⟩ := iz h;refine bm (fun r => GV _ _ H) ?_;refine br h0 fun b1 H1 h1 => ?_
 have hst : ay σ t now = (ig σ t, t, true) := by
  by_cases ho : t.x.op = 1
  ·rw [if_pos ho] at hat
   rw [mn σ t now ho (by omega)]; simp only [Dq, hat]
  ·rw [if_neg ho] at hat
   rw [bO σ t now ho (by omega)]; simp only [fY, hat]
 have hto : k.told = t.code := by
  by_cases ho : t.x.op = 1
  ·rw [if_pos ho] at hat
   exact (hk.2.1 ho).2.2 hat
  ·rw [if_neg ho] at hat
   exact (hk.2.2 ho).2.2.2.2 (.inr hat)
 refine ak h1 ae rfl ?_;refine ak h1 ae rfl ?_;refine ak h1 ae rfl ?_;refine ak h1 ae rfl ?_;refine af h1 (wN (p := p) (g := g) (σ := σ) (zG g.tb g.m σ.c.sh.toNat σ.c.sl.toNat σ.μ t.who t.s hN)) fun _ H2 h2 => ?_;refine ak h2 ae rfl ?_;rw [hto];refine jc ?_;refine fi h2 rfl rfl fun H3 h3 => ?_;refine aZ h3 ?_;exact am (ah3 (g := g) (σ' := ig σ t) (t' := t) hst rfl hl (lm _) h3.to)
theorem V2 (g : PIds) (k : Ek) (nx : Value) (S : SOk σ) (hl : g.rp.length = σ.obs.length) (b : Nat) (hob : t.obj < σ.obs.length) (hb : g.rp[t.obj]? = some b) (hrv : k.rv = vp b) :
 Sp kJ [vp e] (rB e p nx t k * aA p g σ) (fun _ : Unit => vb (decide (aN (σ.μ.V (11, (t.obj : Int), 0)) = 0))) (fun _ => rB e p nx t { k with w := σ.μ.V (11, (t.obj : Int), 0) } * aA p g (dg σ t)) := by
 have hN : σ.μ.N < 1099511627000 := by have := S.N; omega
 refine bh (GY _) fun R H h => ?_;refine ak (v := vp b) h ae (by rw [← hrv]; rfl) ?_;refine ak h ae rfl ?_;refine af h (jf (p := p) hl hob hb (Bg g.m t.obj b (az σ t.obj) σ.μ t.who hN)) fun _ H2 h2 => ?_;refine bk h2 ae rfl rfl fun H3 h3 => ?_;refine ak h3 ae rfl ?_;refine af h3 (i1 _ (S.V _)) fun _ H4 h4 => ?_
 by_cases hw : aN (σ.μ.V (11, (t.obj : Int), 0)) = 0
 ·rw [eu hw]
  refine aa (bg hw) ?_;exact am ⟨(), rfl, h4.to⟩
 ·rw [d4 hw]
  refine aa (aE hw) ?_;exact am ⟨(), rfl, h4.to⟩
theorem aiJ (S : SOk σ) (T : mN σ t) (ho : t.x.op ≠ 1) (hat : t.at' = 4) : Sp bq [vp e, vi now] (rT e p rp t * bd p rp σ) (fun _ : List Nat => bX (ay σ t now)) (fun x => rQ e p rp (ay σ t now) x) := by
 have hN : σ.μ.N < 1099511627000 := by have := S.N; omega
 refine aO fun R H h => ?_;obtain ⟨k, g, hk, rfl, hl, h0⟩ := iz h;obtain ⟨hki, b, hb, hrv⟩ := (hk.2.2 ho).1 (by omega) (by omega);have hob := T.obj (.inr ⟨by omega, by omega, ho⟩);refine bm (fun r => DA _ _ H) ?_;refine br h0 fun b1 H1 h1 => ?_;refine af h1 (V2 e p σ t g k (fj e (fS t)) S hl b hob hb hrv) fun _ H2 h2 => ?_
 by_cases hw : aN (σ.μ.V (11, (t.obj : Int), 0)) = 0
 ·rw [eu hw]
  refine gs ?_;refine gC (e := e) (p := p) (fj e (fS t)) t ({ k with w := σ.μ.V (11, (t.obj : Int), 0) }) ca h2 fun H9 h9 => ?_;exact gz (g := g) (σ' := dg σ t) (t' := { t with w := σ.μ.V (11, (t.obj : Int), 0), at' := 8 }) (k := { k with w := σ.μ.V (11, (t.obj : Int), 0) }) (n := ca) (by rw [bO σ t now ho (by omega)]; simp only [fY, hat]; rw [if_pos hw]) (uE (b := b) ho (by simp) hki hb hrv (by simp) (by simp) (fun _ => rfl) (by simp) (by simp)) (by simp [fS, aC, ho]) hl (lm _) (show ac (rB e p (fj e ca) t ({ k with w := σ.μ.V (11, (t.obj : Int), 0) }) * (aA p g (dg σ t) * R)) H9 from h9.to)
 ·rw [d4 hw]
  refine gs ?_;refine gC (e := e) (p := p) (fj e (fS t)) t ({ k with w := σ.μ.V (11, (t.obj : Int), 0) }) dV h2 fun H9 h9 => ?_;exact gz (g := g) (σ' := dg σ t) (t' := { t with w := σ.μ.V (11, (t.obj : Int), 0), at' := 5 }) (k := { k with w := σ.μ.V (11, (t.obj : Int), 0) }) (n := dV) (by rw [bO σ t now ho (by omega)]; simp only [fY, hat]; rw [if_neg hw]) (uE (b := b) ho (by simp) hki hb hrv (by simp) (by simp) (by simp) (by simp) (by simp)) (by simp [fS, aC, ho]) hl (lm _) (show ac (rB e p (fj e dV) t ({ k with w := σ.μ.V (11, (t.obj : Int), 0) }) * (aA p g (dg σ t) * R)) H9 from h9.to)
theorem Is (S : SOk σ) (T : mN σ t) (ho : t.x.op ≠ 1) (hat : t.at' = 6) : Sp cj [vp e, vi now] (rT e p rp t * bd p rp σ) (fun _ : List Nat => bX (ay σ t now)) (fun x => rQ e p rp (ay σ t now) x) := by
 have hN : σ.μ.N < 1099511627000 := by have := S.N; omega
 refine aO fun R H h => ?_;obtain ⟨k, g, hk, rfl, hl, h0⟩ := iz h;obtain ⟨hki, b, hb, hrv⟩ := (hk.2.2 ho).1 (by omega) (by omega);have hob := T.obj (.inr ⟨by omega, by omega, ho⟩);refine bm (fun r => ti _ _ H) ?_;refine br h0 fun b1 H1 h1 => ?_;have hkq := (hk.2.2 ho).2.1 (.inl hat);refine af h1 (V2 e p σ t g k (fj e (fS t)) S hl b hob hb hrv) fun _ H2 h2 => ?_
 by_cases hw : aN (σ.μ.V (11, (t.obj : Int), 0)) = 0
 ·rw [eu hw]
  refine gs ?_;refine gC (e := e) (p := p) (fj e (fS t)) t ({ k with w := σ.μ.V (11, (t.obj : Int), 0) }) ca h2 fun H9 h9 => ?_;exact gz (g := g) (σ' := dg σ t) (t' := { t with w := σ.μ.V (11, (t.obj : Int), 0), mark := now, at' := 8 }) (k := { k with w := σ.μ.V (11, (t.obj : Int), 0) }) (n := ca) (by rw [bO σ t now ho (by omega)]; simp only [fY, hat]; rw [if_pos hw]) (uE (b := b) ho (by simp) hki hb hrv (by simp) (by simp) (fun _ => rfl) (by simp) (by simp)) (by simp [fS, aC, ho]) hl (lm _) (show ac (rB e p (fj e ca) t ({ k with w := σ.μ.V (11, (t.obj : Int), 0) }) * (aA p g (dg σ t) * R)) H9 from h9.to)
 ·rw [d4 hw]
  refine gs ?_;refine bk h2 ae rfl rfl fun H3 h3 => ?_;refine gC (e := e) (p := p) (fj e (fS t)) t ({ k with w := σ.μ.V (11, (t.obj : Int), 0), nw := now }) cy h3 fun H9 h9 => ?_;exact gz (g := g) (σ' := dg σ t) (t' := { t with w := σ.μ.V (11, (t.obj : Int), 0), mark := now, at' := 7 }) (k := { k with w := σ.μ.V (11, (t.obj : Int), 0), nw := now }) (n := cy) (by rw [bO σ t now ho (by omega)]; simp only [fY, hat]; rw [if_neg hw]) (uE (b := b) ho (by simp) hki hb hrv (fun _ => hkq) (fun _ => rfl) (by simp) (by simp) (by simp)) (by simp [fS, aC, ho]) hl (lm _) (show ac (rB e p (fj e cy) t ({ k with w := σ.μ.V (11, (t.obj : Int), 0), nw := now }) * (aA p g (dg σ t) * R)) H9 from h9.to)
theorem am6 (S : SOk σ) (T : mN σ t) (ho : t.x.op ≠ 1) (hat : t.at' = 5) : Sp dV [vp e, vi now] (rT e p rp t * bd p rp σ) (fun _ : List Nat => bX (ay σ t now)) (fun x => rQ e p rp (ay σ t now) x) := by
 have hN : σ.μ.N < 1099511627000 := by have := S.N; omega
 refine aO fun R H h => ?_;obtain ⟨k, g, hk, rfl, hl, h0⟩ := iz h;obtain ⟨hki, b, hb, hrv⟩ := (hk.2.2 ho).1 (by omega) (by omega);have hob := T.obj (.inr ⟨by omega, by omega, ho⟩);refine bm (fun r => GZ _ _ H) ?_;refine br h0 fun b1 H1 h1 => ?_;refine ak h1 ae rfl ?_;refine ak h1 ae rfl ?_;refine af h1 (qC p g σ t.who S.N) fun _ H2 h2 => ?_;refine bk h2 ae rfl rfl fun H3 h3 => ?_;refine ak h3 ae rfl ?_;refine aa (JB 2 (by omega)) ?_
 by_cases hq : σ.μ.V (2, 0, 0) % 2 = 1
 ·refine aa (bg (show ((σ.μ.V (2, 0, 0) % 2 : Nat) : Int) = 1 by omega)) ?_
  refine gs ?_;refine gC (e := e) (p := p) (fj e (fS t)) t ({ k with q := σ.μ.V (2, 0, 0) }) bq h3 fun H9 h9 => ?_;exact gz (g := g) (σ' := eD σ t) (t' := { t with q := σ.μ.V (2, 0, 0), at' := 4 }) (k := { k with q := σ.μ.V (2, 0, 0) }) (n := bq) (by rw [bO σ t now ho (by omega)]; simp only [fY, hat]; rw [if_pos hq]) (uE (b := b) ho (by simp) hki hb hrv (by simp) (by simp) (by simp) (by simp) (by simp)) (by simp [fS, aC, ho]) hl (lm _) (show ac (rB e p (fj e bq) t ({ k with q := σ.μ.V (2, 0, 0) }) * (aA p g (eD σ t) * R)) H9 from h9.to)
 ·refine aa (aE (show ¬ ((σ.μ.V (2, 0, 0) % 2 : Nat) : Int) = 1 by omega)) ?_
  refine gs ?_;refine gC (e := e) (p := p) (fj e (fS t)) t ({ k with q := σ.μ.V (2, 0, 0) }) cj h3 fun H9 h9 => ?_;exact gz (g := g) (σ' := eD σ t) (t' := { t with q := σ.μ.V (2, 0, 0), at' := 6 }) (k := { k with q := σ.μ.V (2, 0, 0) }) (n := cj) (by rw [bO σ t now ho (by omega)]; simp only [fY, hat]; rw [if_neg hq]) (uE (b := b) ho (by simp) hki hb hrv (fun _ => rfl) (by simp) (by simp) (by simp) (by simp)) (by simp [fS, aC, ho]) hl (lm _) (show ac (rB e p (fj e cj) t ({ k with q := σ.μ.V (2, 0, 0) }) * (aA p g (eD σ t) * R)) H9 from h9.to)
theorem MF (S : SOk σ) (T : mN σ t) (ho : t.x.op ≠ 1) (hat : t.at' = 7) : Sp cy [vp e, vi now] (rT e p rp t * bd p rp σ) (fun _ : List Nat => bX (ay σ t now)) (fun x => rQ e p rp (ay σ t now) x) := by
 have hN : σ.μ.N < 1099511627000 := by have := S.N; omega
 refine aO fun R H h => ?_;obtain ⟨k, g, hk, rfl, hl, h0⟩ := iz h;obtain ⟨hki, b, hb, hrv⟩ := (hk.2.2 ho).1 (by omega) (by omega);have hob := T.obj (.inr ⟨by omega, by omega, ho⟩);refine bm (fun r => uB _ _ H) ?_;refine br h0 fun b1 H1 h1 => ?_;have hkq := (hk.2.2 ho).2.1 (.inr hat);have hkn := (hk.2.2 ho).2.2.1 hat;refine ak h1 ae rfl ?_;refine ak h1 ae rfl ?_;refine af h1 (qC p g σ t.who S.N) fun _ H2 h2 => ?_;refine bC ae ?_;refine aV h2 rfl ?_;refine aI h1 h2 (by rfl) ?_;rw [hkq]
 by_cases hq : σ.μ.V (2, 0, 0) = t.q
 ·refine aa (BJ (show ((σ.μ.V (2, 0, 0) : Nat) : Int) = (t.q : Int) by omega)) ?_
  refine gs ?_;refine ak h2 ae rfl ?_;rw [hkn];refine af h2 (nM e p g (eD σ t) t k (fj e (fS t)) t.mark 8 (by have := S.pts; show σ.pts.length < _; omega) hl) fun g' H3 h3 => ?_;rw [ai, ac.pu] at h3;obtain ⟨hg', h3⟩ := h3;refine gC (e := e) (p := p) (fj e (fS t)) t ({ k with told := 8 }) aQ h3 fun H9 h9 => ?_;exact gz (g := g') (σ' := (eD σ t).note t.mark t.who 8) (t' := { t with at' := 10, code := 8 }) (k := { k with told := 8 }) (n := aQ) (by rw [bO σ t now ho (by omega)]; simp only [fY, hat]; rw [if_pos hq]) (aa9 ho rfl rfl) (by simp [fS, aC, ho]) (by rw [hg']; exact hl) (by rw [hg']; exact lm _) (show ac (rB e p (fj e aQ) t ({ k with told := 8 }) * (aA p g' ((eD σ t).note t.mark t.who 8) * R)) H9 from h9.to)
 ·refine aa (Jm (show ¬ ((σ.μ.V (2, 0, 0) : Nat) : Int) = (t.q : Int) by omega)) ?_
  refine gs ?_;refine gC (e := e) (p := p) (fj e (fS t)) t (k) bq h2 fun H9 h9 => ?_;exact gz (g := g) (σ' := eD σ t) (t' := { t with at' := 4 }) (k := k) (n := bq) (by rw [bO σ t now ho (by omega)]; simp only [fY, hat]; rw [if_neg hq]) (uE (b := b) ho (by simp) hki hb hrv (by simp) (by simp) (by simp) (by simp) (by simp)) (by simp [fS, aC, ho]) hl (lm _) (show ac (rB e p (fj e bq) t (k) * (aA p g (eD σ t) * R)) H9 from h9.to)
theorem aiH (S : SOk σ) (T : mN σ t) (ho : t.x.op ≠ 1) (hat : t.at' = 8) : Sp ca [vp e, vi now] (rT e p rp t * bd p rp σ) (fun _ : List Nat => bX (ay σ t now)) (fun x => rQ e p rp (ay σ t now) x) := by
 have hN : σ.μ.N < 1099511627000 := by have := S.N; omega
 refine aO fun R H h => ?_;obtain ⟨k, g, hk, rfl, hl, h0⟩ := iz h;obtain ⟨hki, b, hb, hrv⟩ := (hk.2.2 ho).1 (by omega) (by omega);have hob := T.obj (.inr ⟨by omega, by omega, ho⟩);refine bm (fun r => Dy _ _ H) ?_;refine br h0 fun b1 H1 h1 => ?_;have hkw := (hk.2.2 ho).2.2.2.1 hat;refine ak h1 ae rfl ?_;refine ak h1 ae rfl ?_;refine ak h1 ae rfl ?_;rw [hkw, hrv];refine af h1 (jf (p := p) hl hob hb (ZY g.m t.obj b (az σ t.obj) σ.μ t.who t.w T.w hN)) fun _ H2 h2 => ?_;cases hw : dT σ.μ t.obj t.w (aP t.w 2)
 ·refine gs ?_
  rw [Bool.not_false];refine gs ?_;refine gC (e := e) (p := p) (fj e (fS t)) t (k) bq h2 fun H9 h9 => ?_;exact gz (g := g) (σ' := σ.mem (σ.μ.turn t.who t.obj t.w (aP t.w 2))) (t' := { t with at' := 4 }) (k := k) (n := bq) (by rw [bO σ t now ho (by omega)]; simp only [fY, hat]; rw [if_neg (by rw [hw]; simp)]) (uE (b := b) ho (by simp) hki hb hrv (by simp) (by simp) (by simp) (by simp) (by simp)) (by simp [fS, aC, ho]) hl (lm _) (show ac (rB e p (fj e bq) t (k) * (aA p g (σ.mem (σ.μ.turn t.who t.obj t.w (aP t.w 2))) * R)) H9 from h9.to)
 ·refine gs ?_
  rw [Bool.not_true];refine gs ?_;refine af h2 (nM e p g (σ.mem (σ.μ.turn t.who t.obj t.w (aP t.w 2))) t k (fj e (fS t)) now 0 (by have := S.pts; show σ.pts.length < _; omega) hl) fun g' H3 h3 => ?_;rw [ai, ac.pu] at h3;obtain ⟨hg', h3⟩ := h3;refine gC (e := e) (p := p) (fj e (fS t)) ({ t with at' := 9, code := 0 }) ({ k with told := 0 }) dJ h3 fun H9 h9 => ?_;exact gz (g := g') (σ' := (σ.mem (σ.μ.turn t.who t.obj t.w (aP t.w 2))).note now t.who 0) (t' := { t with at' := 9, code := 0 }) (k := { k with told := 0 }) (n := dJ) (by rw [bO σ t now ho (by omega)]; simp only [fY, hat]; rw [if_pos hw]) (uE (b := b) ho (by simp) hki (by rw [hg']; exact hb) hrv (by simp) (by simp) (by simp) (by simp) (fun _ => rfl)) (by simp [fS, aC, ho]) (by rw [hg']; exact hl) (by rw [hg']; exact lm _) h9.to
theorem ZP (S : SOk σ) (T : mN σ t) (ho : t.x.op ≠ 1) (hat : t.at' = 9) : Sp dJ [vp e, vi now] (rT e p rp t * bd p rp σ) (fun _ : List Nat => bX (ay σ t now)) (fun x => rQ e p rp (ay σ t now) x) := by
 have hN : σ.μ.N < 1099511627000 := by have := S.N; omega
 refine aO fun R H h => ?_;obtain ⟨k, g, hk, rfl, hl, h0⟩ := iz h;obtain ⟨hki, b, hb, hrv⟩ := (hk.2.2 ho).1 (by omega) (by omega);have hob := T.obj (.inr ⟨by omega, by omega, ho⟩);refine bm (fun r => Bb _ _ H) ?_;refine br h0 fun b1 H1 h1 => ?_;refine ak h1 ae rfl ?_;refine ak h1 ae rfl ?_;refine ak h1 ae rfl ?_;refine ak h1 ae rfl ?_;refine ak h1 ae rfl ?_;rw [hki];refine af h1 (wN (p := p) (g := g) (σ := σ) (OW g.tb g.m σ.c.sh.toNat σ.c.sl.toNat σ.μ t.who t.s t.i hN)) fun _ H2 h2 => ?_;refine gC (e := e) (p := p) (fj e (fS t)) ({ t with at' := 10 }) k aQ h2 fun H9 h9 => ?_;exact gz (g := g) (σ' := σ.mem ((σ.μ.acc t.who 2 (10, t.s, (t.i : Int))).put (10, t.s, (t.i : Int)) 0)) (t' := { t with at' := 10 }) (k := k) (n := aQ) (by rw [bO σ t now ho (by omega)]; simp only [fY, hat]) (aa9 ho rfl ((hk.2.2 ho).2.2.2.2 (.inl hat))) (by simp [fS, aC, ho]) hl (lm _) h9.to
theorem aiI (S : SOk σ) (T : mN σ t) : Sp ny [vp e, vi now] (rT e p rp t * bd p rp σ) (fun _ : List Nat => bX (ay σ t now)) (fun x => rQ e p rp (ay σ t now) x) := by
 refine bh (Ds _ _) fun R H h => ?_;refine br h fun b H1 h1 => ?_;obtain ⟨k, g, hk, rfl, hl, k1⟩ := iz (e := e) (p := p) (rp := rp) (σ := σ) (t := t) (R := blk b (.cells false [vi 0, .slice none 0 0, vi 0, vw 0]) * R) (H := H1) h1.to;refine ak k1 ae rfl ?_;refine ah (show (di (.func (.func (fS t)) #[vp e] #[]) [vi now]).bind _ = _ from rfl) ?_
 have hs : Sp (fS t) [vp e, vi now] (rT e p g.rp t * bd p g.rp σ) (fun _ : List Nat => bX (ay σ t now)) (fun x => rQ e p g.rp (ay σ t now) x) := by
  have s2 : t.at' = 2 → ay σ t now = fm σ t := fun hat => by simp only [ay, hat]
  by_cases ho : t.x.op = 1
  ·have nf : ∀ n, t.at' = n → fS t = (match n with | 0 => fL | 2 => cM | 3 => bQ | 4 => dy | 5 => fg | _ => aQ) := fun n h => by subst h; exact if_pos ho
   rcases T.ats with hat | hat | hat | hat | hat
   ·rw [nf _ hat]; exact aiD e p g.rp σ t now S T ho hat
   ·rw [nf _ hat, s2 hat]; exact JA e p g.rp σ t now S T ho (by omega)
   ·rw [nf _ hat]; exact R4 e p g.rp σ t now S T ho hat
   ·by_cases h4 : t.at' = 4
    ·rw [nf _ h4]; exact aiF e p g.rp σ t now S T ho h4
    by_cases h5 : t.at' = 5
    ·rw [nf _ h5]; exact am5 e p g.rp σ t now S T ho h5
    have h6 : t.at' = 6 := by omega
    rw [nf _ h6]; exact V1 e p g.rp σ t now S T (by rw [if_pos ho]; exact h6)
   ·exact absurd ho hat.1
  ·have nf : ∀ n, t.at' = n → fS t = (match n with | 0 => eL | 2 => cX | 3 => b8 | 4 => bq | 5 => dV | 6 => cj | 7 => cy | 8 => ca | 9 => dJ | _ => aQ) := fun n h => by subst h; exact if_neg ho
   rcases T.ats with hat | hat | hat | hat | hat
   ·rw [nf _ hat]; exact ZQ e p g.rp σ t now S T ho hat
   ·rw [nf _ hat, s2 hat]; exact OD e p g.rp σ t now S T ho (by omega)
   ·rw [nf _ hat]; exact aiE e p g.rp σ t now S T ho hat
   ·by_cases h4 : t.at' = 4
    ·rw [nf _ h4]; exact aiJ e p g.rp σ t now S T ho h4
    by_cases h5 : t.at' = 5
    ·rw [nf _ h5]; exact am6 e p g.rp σ t now S T ho h5
    have h6 : t.at' = 6 := by omega
    rw [nf _ h6]; exact Is e p g.rp σ t now S T ho h6
   ·by_cases h7 : t.at' = 7
    ·rw [nf _ h7]; exact MF e p g.rp σ t now S T ho h7
    by_cases h8 : t.at' = 8
    ·rw [nf _ h8]; exact aiH e p g.rp σ t now S T ho h8
    by_cases h9 : t.at' = 9
    ·rw [nf _ h9]; exact ZP e p g.rp σ t now S T ho h9
    have h10 : t.at' = 10 := by omega
    rw [nf _ h10]; exact V1 e p g.rp σ t now S T (by rw [if_neg ho]; exact h10)
 exact MV (zj e p σ t (R := blk b (.cells false [vi 0, .slice none 0 0, vi 0, vw 0]) * R) hk hl k1) hs
abbrev Tk.newR (c : i5) (who : Int) (x : Cl) : Tk := ⟨who, x, (x.flow.tmod c.sh + c.sh).tmod c.sh, 0, 0, 0, false, 0, 0, -1, 0, 0⟩
theorem aiG (hc : cQ σ.c = true) (who : Int) (c : Cl) : Sp Ax [vp p, vi who, .agg (Cl.cells c).toArray] (bd p rp σ) (fun e : Nat => vp e) (fun e => rT e p rp (Tk.newR σ.c who c) * bd p rp σ) := by
 have hr := bL.1 hc;refine bh (RZ _ _ _) fun R H h => ?_;refine ba h fun b H1 h1 => ?_;refine aZ h1 ?_;obtain ⟨g, rfl, hg, k1⟩ := dz (p := p) (rp := rp) (σ := σ) (R := blk b (.cells false (Cl.cells c)) * R) (H := H1) h1.to;refine ak k1 ae rfl ?_;refine ak k1 aD rfl ?_;refine af k1 (JZ (p := p) (g := g) (σ := σ) (B3 g.tb g.m σ.c.sh.toNat σ.c.sl.toNat (by omega) c.flow)) fun _ H2 h2 => ?_;refine dX h2 k1 rfl ?_
 have es : vi ((c.flow.tmod (σ.c.sh.toNat : Int) + (σ.c.sh.toNat : Int)).tmod (σ.c.sh.toNat : Int)) = vi (Tk.newR σ.c who c).s := by rw [show ((σ.c.sh.toNat : Nat) : Int) = σ.c.sh from by omega]
 rw [es];refine jc ?_;refine ba h2 fun e H3 h3 => ?_;refine bk h3 ae rfl rfl fun H4 h4 => ?_;refine ah (Iq ..) ?_;refine ak h4 aD rfl ?_;have lt : Plt g.rp (Tk.newR σ.c who c) ⟨0, -1, 0, 0, .pointer none, 0, 0, 0, 0⟩ := vj (by simp) ⟨rfl, rfl⟩
 by_cases ho : c.op = 1
 ·refine aa (bg ho) ?_
  refine gs ?_;refine bk h4 ae rfl rfl fun H5 h5 => ?_;refine ah (vd ..) ?_;refine am ⟨e, rfl, zj e p σ _ lt hg ?_⟩;rw [show fS (Tk.newR σ.c who c) = fL from if_pos ho];exact h5.to
 ·refine aa (aE ho) ?_
  refine gs ?_;refine ah (vd ..) ?_;refine am ⟨e, rfl, zj e p σ _ lt hg ?_⟩;rw [show fS (Tk.newR σ.c who c) = eL from if_neg ho];exact h4.to
end
theorem qB (p : Nat) (g : XIds) (σ : aM) (o b : Nat) (hl : g.rp.length = σ.obs.length) (ho : o < σ.obs.length) (hb : g.rp[o]? = some b) :
 ∃ R, (∀ N, σ.μ.N = N → au p g σ = db g.m o b (az σ o) * bK g.m σ.μ * (gW g.ib g.m σ.c.sh σ.nx N * R)) ∧ ∀ μ' cs', au p g { σ with μ := μ', obs := σ.obs.modify o fun q => (q.1, cs') } = db g.m o b cs' * bK g.m μ' * (gW g.ib g.m σ.c.sh σ.nx μ'.N * R) := by
 have hz : o < (g.rp.zip (σ.obs.map fun x => x.2)).length := by simp; omega
 obtain ⟨R, e1, e2⟩ := MH g.m (ps := g.rp.zip (σ.obs.map fun x => x.2)) (j := 0) hz
 have hrp : g.rp[o]'(by omega) = b := by
  rw [cB (by omega)] at hb;exact gD hb
 have e3 : (g.rp.zip (σ.obs.map fun x => x.2))[o] = (b, az σ o) := by
  rw [List.getElem_zip, w5 ho, List.getElem_map, hrp]
 rw [e3] at e1;rw [Nat.zero_add] at e1 e2
 refine ⟨blk p (.cells false [vi σ.c.sh, vi σ.c.sl, vi σ.c.wk, vi σ.c.wd, vu σ.c.un, vp g.m, vp g.ib, vp g.tb, vp g.po, vp g.co, g.ov, g.rv, g.wv, g.pv]) * (tab g.tb g.m σ.c.sh.toNat σ.c.sl.toNat * (ts 3 uJ g.ov (σ.obs.map fun x => x.1) * (ts 1 nT g.rv g.rp * (R *
  (ts 1 cr g.wv (fP g.ws) * ts 7 Pt.cells g.pv (bV σ.pts)))))), fun N hN => ?_, fun μ' cs' => ?_⟩
 ·subst hN
  unfold au;rw [e1]
  ac_rfl
 ·unfold au
  dsimp only
  have e4 : (σ.obs.modify o fun q => (q.1, cs')).map (fun x => x.1) = σ.obs.map fun x => x.1 := by
   apply List.ext_getElem?;intro j;simp only [An, List.getElem?_modify]
   cases σ.obs[j]? with
   | none => rfl
   | some q => simp only [fp]; split <;> rfl
  have e5 : g.rp.zip ((σ.obs.modify o fun q => (q.1, cs')).map fun x => x.2) = (g.rp.zip (σ.obs.map fun x => x.2)).set o (b, cs') := by
   apply List.ext_getElem?;intro j;rw [List.getElem?_set]
   by_cases hj : o = j
   ·subst hj
    rw [if_pos rfl, if_pos hz];exact List.getElem?_zip_eq_some.2 ⟨hb, by simp [List.getElem?_modify, cB ho]⟩
   ·rw [if_neg hj]
    have : (List.map (fun x => x.2) (σ.obs.modify o fun q => (q.1, cs')))[j]? = (σ.obs.map fun x => x.2)[j]? := by
     simp only [An, List.getElem?_modify]
     cases σ.obs[j]? with
     | none => rfl
     | some q => show some (if o = j then (q.1, cs') else q).2 = some q.2; rw [if_neg hj]
    simp only [List.zip, List.getElem?_zipWith, this]
  rw [e4, e5, e2]
  ac_rfl
section
variable {f : Nat} {args : List Value} {v : Unit → Value} {p : Nat} {g : XIds} {σ : aM} {o b : Nat}
theorem J1 {μ' : Mu} {cs' : List Pk} (hN : σ.μ.N ≤ μ'.N) (hl : g.rp.length = σ.obs.length) (ho : o < σ.obs.length) (hb : g.rp[o]? = some b)
 (s : Sp f args (db g.m o b (az σ o) * bK g.m σ.μ) v (fun _ => db g.m o b cs' * bK g.m μ')) :
 Sp f args (au p g σ) v (fun _ => au p g { σ with μ := μ', obs := σ.obs.modify o fun q => (q.1, cs') }) := by
 obtain ⟨R', e1, e2⟩ := qB p g σ o b hl ho hb;intro R H h;rw [e1 _ rfl, ai] at h;obtain ⟨x, H', h1, h2⟩ := s _ _ h;refine ⟨x, H', h1, ?_⟩;rw [e2, ai];have h3 := n7 hN (ac.fr (A := gW g.ib g.m σ.c.sh σ.nx σ.μ.N) h2);exact h3.to
theorem kR {μ' : Mu} (hN : σ.μ.N ≤ μ'.N) (hl : g.rp.length = σ.obs.length) (ho : o < σ.obs.length) (hb : g.rp[o]? = some b)
 (s : Sp f args (db g.m o b (az σ o) * bK g.m σ.μ) v (fun _ => db g.m o b (az σ o) * bK g.m μ')) :
 Sp f args (au p g σ) v (fun _ => au p g (σ.mem μ')) := by
 have := J1 (p := p) hN hl ho hb s;rw [F7 ho] at this;exact this
theorem M6 (hl : g.rp.length = σ.obs.length) (ho : o < σ.obs.length) (hb : g.rp[o]? = some b)
 (s : Sp f args (db g.m o b (az σ o)) v (fun _ => db g.m o b (az σ o))) :
 Sp f args (au p g σ) v (fun _ => au p g σ) := by
 obtain ⟨R', e1, _⟩ := qB p g σ o b hl ho hb;intro R H h;rw [e1 _ rfl, ai, ai] at h;obtain ⟨x, H', h1, h2⟩ := s _ _ h;exact ⟨x, H', h1, by rw [e1 _ rfl, ai, ai]; exact h2⟩
theorem p6 {μ' : Mu} (hN : σ.μ.N ≤ μ'.N) (s : Sp f args (tab g.tb g.m σ.c.sh.toNat σ.c.sl.toNat * bK g.m σ.μ) v (fun _ => tab g.tb g.m σ.c.sh.toNat σ.c.sl.toNat * bK g.m μ')) :
 Sp f args (au p g σ) v (fun _ => au p g (σ.mem μ')) := by
 intro R H h;unfold au at h;obtain ⟨x, H', h1, h2⟩ := s _ H (ac.fr (A := tab g.tb g.m σ.c.sh.toNat σ.c.sl.toNat * bK g.m σ.μ) h);refine ⟨x, H', h1, ?_⟩;unfold au;have h3 := n7 hN (ac.fr (A := gW g.ib g.m σ.c.sh σ.nx σ.μ.N) h2);exact h3.to
theorem DF (s : Sp f args (tab g.tb g.m σ.c.sh.toNat σ.c.sl.toNat) v (fun _ => tab g.tb g.m σ.c.sh.toNat σ.c.sl.toNat)) :
 Sp f args (au p g σ) v (fun _ => au p g σ) := by
 intro R H h;unfold au at h;obtain ⟨x, H', h1, h2⟩ := s _ H (ac.fr (A := tab g.tb g.m σ.c.sh.toNat σ.c.sl.toNat) h);refine ⟨x, H', h1, ?_⟩;unfold au;exact h2.to
theorem Pr {μ' : Mu} (hN : σ.μ.N ≤ μ'.N) (s : Sp f args (bK g.m σ.μ) v (fun _ => bK g.m μ')) : Sp f args (au p g σ) v (fun _ => au p g (σ.mem μ')) := by
 intro R H h;unfold au at h;obtain ⟨x, H', h1, h2⟩ := s _ H (ac.fr (A := bK g.m σ.μ) h);refine ⟨x, H', h1, ?_⟩;unfold au;have h3 := n7 hN (ac.fr (A := gW g.ib g.m σ.c.sh σ.nx σ.μ.N) h2);exact h3.to
theorem zP {μ' : Mu} {nx' : Int → Option Nat} {L : Nat} (hL : L ≤ μ'.N) (s : Sp f args (gW g.ib g.m σ.c.sh σ.nx σ.μ.N * bK g.m σ.μ) v (fun _ => gW g.ib g.m σ.c.sh nx' L * bK g.m μ')) :
 Sp f args (au p g σ) v (fun _ => au p g { σ with μ := μ', nx := nx' }) := by
 intro R H h;unfold au at h;obtain ⟨x, H', h1, h2⟩ := s _ H (ac.fr (A := gW g.ib g.m σ.c.sh σ.nx σ.μ.N * bK g.m σ.μ) h);refine ⟨x, H', h1, ?_⟩;unfold au;have h3 := n7 hL (ac.fr (A := gW g.ib g.m σ.c.sh nx' L) h2);exact h3.to
end
instance apZ (p : Nat) (g : XIds) (σ : aM) : Hs (au p g σ) p (.cells false [vi σ.c.sh, vi σ.c.sl, vi σ.c.wk, vi σ.c.wd, vu σ.c.un, vp g.m, vp g.ib, vp g.tb, vp g.po, vp g.co, g.ov, g.rv, g.wv, g.pv]) := ⟨by
 intro H h;unfold au at h
 exact h.left.get⟩
theorem JX (m i rp : Nat) (cs : List Pk) (μ : Mu) (who : Int) (n : Nat) (x : Pk) (h0 : 1 ≤ cs.length ∧ cs.length < 1000) (hE : μ.N < 1099511627000) :
 Sp nu [vp rp, vi who, vu n, .agg (Pk.cells x).toArray] (db m i rp cs * bK m μ) (fun _ : Unit => .tuple #[]) (fun _ => db m i rp (cs.set (n % cs.length) x) * bK m (μ.acc who 6 (16, (i : Int), ((n % cs.length : Nat) : Int)))) := by
 have hlt : n % cs.length < cs.length := Nat.mod_lt _ (by omega);refine bh (Dm _ _ _ _) fun R H h => ?_;refine ba h fun b H1 h1 => ?_;obtain ⟨cv, k1⟩ := fh (m := m) (i := i) (rp := rp) (cs := cs) (R := bK m μ * (blk b (.cells false (Pk.cells x)) * R)) (H := H1) h1.to;refine bC ae ?_;refine aV k1 rfl ?_;refine bC ae ?_;refine aV k1 rfl ?_
 have cell : ∀ cv, Sp eJ [vp rp, vu n] (blk rp (.cells false [vp m, vi i, vi cs.length, cv])) (fun _ : Unit => vi ((n % cs.length : Nat) : Int)) (fun _ => blk rp (.cells false [vp m, vi i, vi cs.length, cv])) := by
  intro cv;refine bh (pR _ _) fun R H h => ?_;refine ak h ae rfl ?_;refine aa (ej (by omega) (by omega)) ?_;rw [show ((cs.length : Nat) : Int).toNat = cs.length from xS _];refine aa (j0 (by omega)) ?_;refine aa (ji (by omega)) ?_;exact am ⟨(), rfl, h⟩
 refine af k1 (cell cv) fun _ H2 k2 => ?_;refine aI k2 k1 (by rfl) ?_;refine aI k2 k1 (by rfl) ?_;refine af k2 (dG 16 (i : Int) ((n % cs.length : Nat) : Int)) fun _ H3 k3 => ?_;refine aI k3 k1 (by rfl) ?_;refine af k3 ((aaX m μ who 6 (16, (i : Int), ((n % cs.length : Nat) : Int)) (by omega)).imp fun _ R H h => yl (N' := μ.N + 2) (by simp) h) fun _ H4 k4 => ?_;refine bC ae ?_;refine aV k4 rfl ?_;refine af k4 (cell cv) fun _ H5 k5 => ?_;refine aI k5 k4 (by rfl) ?_;refine aZ k5 ?_;refine dX k4 k5 rfl ?_;refine JU (s := cv) (l := cs) (i := n % cs.length) x k5 hlt (.inl ⟨rfl, rfl⟩) rfl (by omega) rfl rfl fun H6 k6 => ?_;refine am ⟨(), rfl, ?_⟩;have el : (cs.set (n % cs.length) x).length = cs.length := N6;have h6 := lz (m := m) (i := i) (rp := rp) (cs := cs.set (n % cs.length) x) (cv := cv) (R := bK m (μ.acc who 6 (16, (i : Int), ((n % cs.length : Nat) : Int))) * R) (H := H6) (by rw [el]; exact k6.to);exact h6.to
section
variable (p : Nat) (g : XIds) (σ : aM)
theorem SD (hl : g.rp.length = σ.obs.length) (who : Int) (o : Nat) (ho : o < σ.obs.length) (hN : σ.μ.N < 800000) : Sp lF [vp p, vi who, vi o] (au p g σ) (fun v : Value => v) (fun _ => au p g (σ.mem (σ.μ.acc who 5 (13, (o : Int), 0)))) := by
 refine bh (AU _ _ _) fun R H h => ?_;refine br h fun b H1 h1 => ?_;refine aa (bP (by omega)) ?_;refine gs ?_;refine ak h1 ae rfl ?_;refine gs ?_;have h2 := h1;unfold au at h2;refine ii (s := g.ov) (enc := uJ) (l := σ.obs.map fun x : Ob × List Pk => x.1) h2 ?_;rw [us];refine gs ?_;refine aa (il (by omega)) ?_;refine gs ?_;refine bC ae ?_;refine aV h1 rfl ?_;refine af h1 (dG 13 (o : Int) 0) fun _ H3 h3 => ?_;refine aI h3 h1 (by rfl) ?_;refine af h3 (Pr (p := p) (g := g) (σ := σ) (μ' := σ.μ.acc who 5 (13, (o : Int), 0)) (by simp) ((aaX g.m σ.μ who 5 (13, (o : Int), 0) (by omega)).imp fun _ R H h => yl (N' := σ.μ.N + 2) (by simp) h)) fun _ H4 h4 => ?_;refine ak h4 ae rfl ?_;have h5 := h4;unfold au at h5;refine Ht (enc := uJ) (l := σ.obs.map fun x : Ob × List Pk => x.1) h5 (by rw [us]; exact ho) ?_;refine fi h4 rfl rfl fun H6 h6 => ?_;refine aZ h6 ?_;exact am ⟨_, rfl, h6.to⟩
theorem qM (who : Int) (hN : σ.μ.N < 800000) : Sp eI [vp p, vi who] (au p g σ) (fun _ : Unit => vu (σ.μ.V (2, 0, 0))) (fun _ => au p g (σ.mem (σ.μ.acc who 1 (2, 0, 0)))) := by
 refine bh (AV _ _) fun R H h => ?_;refine bC ae ?_;refine aV h rfl ?_;refine af h (dG 2 0 0) fun _ H1 h1 => ?_;refine aI h1 h (by rfl) ?_;refine af h1 (Pr (p := p) (g := g) (σ := σ) (μ' := σ.μ.acc who 1 (2, 0, 0)) (by simp) (td g.m σ.μ who (2, 0, 0) (by omega))) fun _ H2 h2 => ?_;exact am ⟨(), rfl, h2.to⟩
theorem Pf (who : Int) (hN : σ.μ.N < 800000) : Sp fJ [vp p, vi who] (au p g σ) (fun _ : Unit => .tuple #[]) (fun _ => au p g (σ.mem (σ.μ.cnt who (2, 0, 0) 1))) := by
 refine bh (zb _ _) fun R H h => ?_;refine bC ae ?_;refine aV h rfl ?_;refine af h (dG 2 0 0) fun _ H1 h1 => ?_;refine aI h1 h (by rfl) ?_;refine af h1 (Pr (p := p) (g := g) (σ := σ) (μ' := σ.μ.cnt who (2, 0, 0) 1) (by simp) (Mo g.m σ.μ who (2, 0, 0) 1 (by omega))) fun _ H2 h2 => ?_;exact am ⟨(), rfl, h2.to⟩
theorem mr (t m sh sl : Nat) (hs : 1 ≤ sh ∧ sh ≤ 4) (flow : Int) : Sp eZ [vp t, vi flow] (tab t m sh sl) (fun _ : Unit => vi ((flow.tmod sh + sh).tmod sh)) (fun _ => tab t m sh sl) := by
 have q := Wg flow (n := sh) (by omega);refine bh (wj _ _) fun R H h => ?_;unfold tab at h ⊢;refine ak h ae rfl ?_;refine aa (ky (by omega)) ?_;refine ah (rJ _ _ _ H) ?_
 by_cases hn : flow.tmod sh < 0
 ·refine aa (cE hn) ?_
  refine gs ?_;refine ak h ae rfl ?_;refine aa (aS (by omega) (by omega)) ?_;refine ah (jX _ _ H) ?_;refine am ⟨(), ?_, h⟩;have : (flow.tmod sh + sh).tmod sh = flow.tmod sh + sh := Int.tmod_eq_of_lt (by omega) (by omega);rw [this]
 ·refine aa (bP hn) ?_
  refine gs ?_;refine ah (jX _ _ H) ?_;refine am ⟨(), ?_, h⟩
  have : (flow.tmod sh + sh).tmod sh = flow.tmod sh := by
   rw [agH (by omega), Int.add_emod_right];exact Int.emod_eq_of_lt (by omega) (by omega)
  rw [this]
end
theorem yA (w pl k : Int) : ∀ ws : List (Int × Int), hZ (ws ++ [(w, pl)]) k = if k = w then pl else hZ ws k := by
 intro ws
 induction ws with
 | nil =>
  simp only [List.nil_append, hZ, List.any_nil]
  by_cases e : k = w
  ·subst e; simp
  ·have : ¬ w = k := fun q => e q.symm
   simp [e, this]
 | cons p ws ih =>
  simp only [List.cons_append, hZ, ih, List.any_append, List.any_cons, List.any_nil, Bool.or_false]
  by_cases e : k = w
  ·subst e; simp
  ·have h1 : ((w == k) : Bool) = false := by simpa using fun q => e q.symm
   rw [h1, Bool.or_false];simp only [if_neg e]
theorem Md (ws : List (Int × Int)) (k : Int) (j : Nat) (hj : j < ws.length) : hZ (ws.take (j + 1)) k = if k = ws[j].1 then ws[j].2 else hZ (ws.take j) k := by
 rw [List.take_succ_eq_append_getElem hj];exact yA ws[j].1 ws[j].2 k (ws.take j)
theorem qz (ws : List (Int × Int)) : (fP ws).length = 2 * ws.length := by
 unfold fP
 induction ws with
 | nil => rfl
 | cons p ws ih => rw [List.flatMap_cons, qr, ih]; simp; omega
theorem Zp : ∀ (ws : List (Int × Int)) (j : Nat) (hj : j < ws.length), (fP ws)[2 * j]? = some ws[j].1 ∧ (fP ws)[2 * j + 1]? = some ws[j].2 := by
 intro ws
 induction ws with
 | nil => intro j hj; simp at hj
 | cons p ws ih =>
  intro j hj
  cases j with
  | zero => exact ⟨rfl, rfl⟩
  | succ j =>
   have h := ih j (by simpa using hj);have e : fP (p :: ws) = p.1 :: p.2 :: fP ws := rfl;rw [e, show 2 * (j + 1) = 2 * j + 2 from by omega];exact h
theorem agJ (x : Pt) : ∀ (l : List Pt) (k : Nat), k ≤ l.length → (∀ j p, k ≤ j → l[j]? = some p → x.step < p.step) → (∀ p, 0 < k → l[k - 1]? = some p → p.step ≤ x.step) → xV x l = l.take k ++ x :: l.drop k := by
 intro l
 induction l with
 | nil => intro k hk _ _; simp at hk; subst hk; rfl
 | cons y l ih =>
  intro k hk h1 h2
  cases k with
  | zero =>
   have hy := h1 0 y (bv _) rfl
   have hno : ¬ (y.step ≤ x.step ∨ (l.any fun z => decide (z.step ≤ x.step)) = true) := by
    rintro (h | h)
    ·omega
    ·obtain ⟨z, hz, hzs⟩ := List.any_eq_true.1 h
     obtain ⟨j, hj⟩ := List.mem_iff_getElem?.1 hz;have := h1 (j + 1) z (by omega) (by simpa using hj)
     have hzs : z.step ≤ x.step := by simpa using hzs
     omega
   rw [xV, if_neg hno]
   rfl
  | succ k =>
   have hyes : y.step ≤ x.step ∨ (l.any fun z => decide (z.step ≤ x.step)) = true := by
    cases k with
    | zero => exact .inl (h2 y (by omega) rfl)
    | succ k =>
     right
     have hkl : k < l.length := by simp at hk; omega
     rw [List.any_eq_true];refine ⟨l[k], FX hkl, ?_⟩;have := h2 l[k] (by omega) (by simp [hkl])
     simpa using this
   rw [xV, if_pos hyes, ih k (by simpa using hk) (fun j p hj hp => h1 (j + 1) p (by omega) (by simpa using hp)) (fun p hk0 hp => h2 p (by omega) (by
    rw [show k + 1 - 1 = (k - 1) + 1 from by omega]; simpa using hp))]
   rfl
theorem Np (l : List Pt) (x : Pt) : bV (l ++ [x]) = xV x (bV l) := by
 unfold bV;rw [List.foldl_append]; rfl
theorem Y8 (x : Pt) : ∀ l : List Pt, (xV x l).length = l.length + 1 := by
 intro l
 induction l with
 | nil => rfl
 | cons y l ih => rw [xV]; split <;> simp [ih]
theorem PC (l : List Pt) : (bV l).length = l.length := by
 have : ∀ (l acc : List Pt), (l.foldl (fun acc x => xV x acc) acc).length = acc.length + l.length := by
  intro l
  induction l with
  | nil => intro acc; rfl
  | cons x l ih => intro acc; rw [List.foldl_cons, ih, Y8]; simp; omega
 have h := this l []
 simpa [bV] using h
theorem akN (e b : Nat) (he : 0 < e) (H : AH) : dS e b (.slice none 0 0) (.slice none 0 0) H = some (.slice none 0 0, H) := by
 unfold dS
 have : mf e (.slice none 0 0) H = some (0, []) := by simp [mf]
 rw [this];simp [he]
theorem ajG {α : Type} {P R : SP} {H : AH} {e : Nat} {enc : α → List Value} {l : List α} {s : Value} (h : ac P H) [f : Ts P s α e enc l R] : s.cells.toList = [s] ∧ [s].all Value.oneCell' = true := by
 rcases mp h (enc := enc) (s := s) with ⟨rfl, _, _⟩ | ⟨bb, rfl, _⟩ <;> exact ⟨rfl, rfl⟩
theorem O0 {α : Type} {P R : SP} {H : AH} {e : Nat} {enc : α → List Value} {l : List α} {s : Value} {lo hi : Option Value} {a b : Nat} (h : ac P H) [f : Ts P s α e enc l R] [E : Enc enc e] (hlo : (lo = none ∧ a = 0) ∨ ∃ k, lo = some (.int k (a : Int)))
 (hhi : (hi = none ∧ b = l.length) ∨ ∃ k, hi = some (.int k (b : Int))) (h1 : a ≤ b) (h2 : b ≤ l.length) : ∃ s', fO e s lo hi = some s' ∧ Rd P s' e enc ((l.take b).drop a) := by
 haveI : Rd P s e enc l := by rw [f.eq]; infer_instance
 by_cases h0 : 0 < l.length
 ·exact aiB h hlo hhi h1 h2 h0
 ·have hl : l = [] := List.eq_nil_of_length_eq_zero (by omega)
  subst hl
  have hb0 : b = 0 := by simpa using h2
  subst hb0
  have ha0 : a = 0 := by omega
  subst ha0;have hpos := E.pos
  have rd0 : ∀ s', (∃ a c, s' = .slice a 0 c ∧ (a = none → c = 0) ∧ (∀ x, a = some x → ∃ b o, x = ⟨b, o, none⟩)) → Rd P s' e enc (([] : List α).take 0 |>.drop 0) := by
   rintro s' ⟨a, c, rfl, q1, q2⟩
   exact ⟨fun {H'} _ => ⟨by simp, .inl ⟨a, c, rfl, rfl, q1, q2⟩⟩⟩
  rcases mp h (enc := enc) (s := s) with ⟨rfl, _, _⟩ | ⟨bb, rfl, _⟩
  ·refine ⟨.slice none 0 0, ?_, rd0 _ ⟨none, 0, rfl, fun _ => rfl, fun x hx => (by cases hx)⟩⟩
   rcases hlo with ⟨rfl, _⟩ | ⟨k1, rfl⟩ <;> rcases hhi with ⟨rfl, _⟩ | ⟨k2, rfl⟩ <;> simp [fO, oq]
  ·refine ⟨.slice (some ⟨bb, 0, none⟩) 0 e, ?_, rd0 _ ⟨some ⟨bb, 0, none⟩, e, rfl, fun h => (by cases h), fun x hx => ⟨bb, 0, (gD hx).symm⟩⟩⟩
   rcases hlo with ⟨rfl, _⟩ | ⟨k1, rfl⟩ <;> rcases hhi with ⟨rfl, _⟩ | ⟨k2, rfl⟩ <;> simp [fO, oq, hpos]
abbrev aM.begin (σ : aM) (who place : Int) : aM := { σ with places := fun k => if k = who then some place else σ.places k, μ := { σ.μ with N := σ.μ.N + 1 } }
theorem ao7 (p : Nat) (rp : List Nat) (σ : aM) (who place : Int) : Sp ix [vp p, vi who, vi place] (bd p rp σ) (fun _ : Unit => .tuple #[]) (fun _ => bd p rp (σ.begin who place)) := by
 refine aO fun R H h => ?_;obtain ⟨g, hrp, hg, h0⟩ := dz h;unfold aA at h0;refine bm (fun r => sT _ _ _ H) ?_;refine ak h0 ae rfl ?_;refine ajR (ek := Pl) who (vi place) h0 fun H1 h1 => ?_;refine am ⟨(), rfl, ?_⟩;refine bB g hrp hg ?_;unfold aA;dsimp only
 have e : (fun k => ((if k = who then some place else σ.places k) : Option Int).map fun n => vi n) = fun x => if x = who then some (vi place) else (σ.places x).map fun n => vi n := by
  funext k
  split <;> rfl
 rw [e];have h2 := jr (V := σ.μ.V) (E := σ.μ.E) (N := σ.μ.N) (N' := σ.μ.N + 1) (by omega) (ac.fr (A := bF g.m σ.μ) h1);exact h2.to
theorem aqQ (p : Nat) (σ : aM) (who place : Int) (hN : σ.μ.N < 1000000000) : Sp jz [vp p, vi who, vi place] (aJ p σ) (fun _ : Unit => .tuple #[]) (fun _ => aJ p (σ.begin who place)) := by
 refine aO fun R H h => ?_;obtain ⟨g, ⟨hg1, hg2, hg3⟩, h0⟩ := dW h;unfold au at h0;refine bm (fun r => wg _ _ _ H) ?_;refine ak h0 ae rfl ?_;refine Wo (cs := [vi who, vi place]) h0 rfl fun b H1 h1 => ?_;have h2 := Ed (e := 1) (enc := cr) (l := [who, place]) h1;refine Hr (s := g.wv) (l := fP g.ws) (m := [who, place]) h2 ?_ (by omega) fun v H2 h3 => ?_
 ·rw [qz]; unfold room; simp; omega
 have hc := ajG (s := v) (enc := cr) (l := fP g.ws ++ [who, place]) h3
 haveI : wO v [v] := ⟨hc.1⟩
 dsimp only;refine bk h3 ae rfl hc.2 fun H3 h4 => ?_;refine am ⟨(), rfl, ?_⟩
 have e2 : fP (g.ws ++ [(who, place)]) = fP g.ws ++ [who, place] := by simp [fP]
 refine cN { g with wv := v, ws := g.ws ++ [(who, place)] } ⟨hg1, fun k => ?_, by simp; omega⟩ ?_
 ·show hZ (g.ws ++ [(who, place)]) k = _
  rw [yA, hg2];show _ = ((if k = who then some place else σ.places k)).getD 0
  split <;> rfl
 unfold au;dsimp only;rw [e2];have h5 := yl (V := σ.μ.V) (E := σ.μ.E) (N := σ.μ.N) (N' := σ.μ.N + 1) (by omega) (ac.fr (A := bK g.m σ.μ) h4);have h6 := n7 (L' := σ.μ.N + 1) (by omega) (ac.fr (A := gW g.ib g.m σ.c.sh σ.nx σ.μ.N) h5);exact h6.to
theorem ar7 (p : Nat) (g : XIds) (σ : aM) (step who code : Int) (hpl : hZ g.ws who = (σ.places who).getD 0) (hw : g.ws.length < 1000000000) (hp : σ.pts.length < 900000) :
 Sp ag2 [vp p, vi step, vi who, .agg (ie code).toArray] (au p g σ) (fun _ : Value => .tuple #[]) (fun v => au p { g with pv := v } (σ.note step who code)) := by
 refine bh (ap4 _ _ _ _) fun R H h => ?_;refine ba h fun rb H1 h1 => ?_;refine ah (ZK _ _ _ _ _ H1) ?_;refine ah (RQ _ _ _ _ _ _ H1) ?_;have place : ∀ (d j : Nat), j + d = g.ws.length → wp (RN (vp p) (vi step) (vi who) (vp rb) (vi (hZ g.ws who)) H1) (fun v' H' => ∃ x : Value, v' = .tuple #[] ∧ ac (au p { g with pv := x } (σ.note step who code) * R) H') →
  wp (Ea (vp p) (vi step) (vi who) (vp rb) (vi (hZ (g.ws.take j) who)) (vi ((2 * j : Nat) : Int)) H1) (fun v' H' => ∃ x : Value, v' = .tuple #[] ∧ ac (au p { g with pv := x } (σ.note step who code) * R) H') := by
  have h2 := h1;unfold au at h2;intro d
  induction d with
  | zero =>
   intro j hj hk;refine ah (GM _ _ _ _ _ _ H1) ?_;refine ak h1 ae rfl ?_;refine de (s := g.wv) (l := fP g.ws) h2 ?_;rw [qz];refine aa (bP (by omega)) ?_;refine gs ?_;refine ah (Mw _ _ _ _ _ H1) ?_;rw [List.take_of_length_le (by omega)];exact hk
  | succ d ih =>
   intro j hj hk
   have hjl : j < g.ws.length := by omega
   obtain ⟨a1, a2⟩ := Zp g.ws j hjl;have hlen := qz g.ws;refine ah (GM _ _ _ _ _ _ H1) ?_;refine ak h1 ae rfl ?_;refine de (s := g.wv) (l := fP g.ws) h2 ?_;rw [qz];refine aa (cE (by omega)) ?_;refine gs ?_;refine ah (RR _ _ _ _ _ _ H1) ?_;refine ak h1 ae rfl ?_;refine eF (s := g.wv) (l := fP g.ws) (i := 2 * j) (v := vi g.ws[j].1) h2 (by omega) ?_ ?_
   ·rw [cB (by omega)] at a1
    rw [gD a1]; rfl
   have next : ∀ pl : Int, hZ (g.ws.take (j + 1)) who = pl → wp (Eb (vp p) (vi step) (vi who) (vp rb) (vi pl) (vi ((2 * j : Nat) : Int)) H1) (fun v' H' => ∃ x : Value, v' = .tuple #[] ∧ ac (au p { g with pv := x } (σ.note step who code) * R) H') := by
    intro pl hpl2;refine ah (RS _ _ _ _ _ _ H1) ?_;refine aa (aS (by omega) (by omega)) ?_;have := ih (j + 1) (by omega) hk;rw [hpl2] at this;rw [show ((2 * j : Nat) : Int) + 2 = ((2 * (j + 1) : Nat) : Int) from by omega];exact this
   have ht := Md g.ws who j hjl
   by_cases hwho : g.ws[j].1 = who
   ·refine aa (bg hwho) ?_
    refine gs ?_;refine ak h1 ae rfl ?_;refine aa (aS (by omega) (by omega)) ?_;rw [show ((2 * j : Nat) : Int) + 1 = ((2 * j + 1 : Nat) : Int) from by omega];refine eF (s := g.wv) (l := fP g.ws) (i := 2 * j + 1) (v := vi g.ws[j].2) h2 (by omega) ?_ ?_
    ·rw [cB (by omega)] at a2
     rw [gD a2]; rfl
    exact next _ (by rw [ht, if_pos hwho.symm])
   ·refine aa (aE hwho) ?_
    refine gs ?_;exact next _ (by rw [ht, if_neg (fun q => hwho q.symm)])
 refine place g.ws.length 0 (by omega) ?_;rw [hpl];refine ah (ZL _ _ _ _ _ H1) ?_;refine ak h1 aD rfl ?_;refine ah (show ((dS 3 24 (.slice none 0 0) (.slice none 0 0) H1).bind _) = _ from by rw [akN 3 24 (by omega)]) ?_;refine bk h1 aD rfl rfl fun H2 h2 => ?_;refine ak h2 ae rfl ?_;have h2u := h2;unfold au at h2u;have hlen := PC σ.pts;refine de (s := g.pv) (l := bV σ.pts) h2u ?_;refine ah (ZM _ _ _ _ _ _ H2) ?_
 -- behind all that are not behind it
 have put : ∀ k, k ≤ (bV σ.pts).length → (∀ j p, k ≤ j → (bV σ.pts)[j]? = some p → step < p.step) → (∀ p, 0 < k → (bV σ.pts)[k - 1]? = some p → p.step ≤ step) →
  wp (RP (vp p) (vi step) (vi who) (vp rb) (vi ((σ.places who).getD 0)) (vi (k : Int)) H2) (fun v' H' => ∃ x : Value, v' = .tuple #[] ∧ ac (au p { g with pv := x } (σ.note step who code) * R) H') := by
  intro k hk ha hb;have hins := agJ ⟨step, who, (σ.places who).getD 0, code⟩ (bV σ.pts) k hk ha hb;refine ah (ZN _ _ _ _ _ _ H2) ?_;refine ak h2 ae rfl ?_;have q1 : ac (ts 7 Pt.cells g.pv (bV σ.pts)) H2 := h2u.to;obtain ⟨s1, e1, r1⟩ := O0 (s := g.pv) (l := bV σ.pts) (lo := none) (hi := some (vi (k : Int))) (a := 0) (b := k) q1 (.inl ⟨rfl, rfl⟩) (.inr ⟨_, rfl⟩) (Nat.zero_le _) hk;refine aa e1 ?_;have h3 := dL 7 Pt.cells h2u;refine Hr (s := .slice none 0 0) (l := ([] : List Pt)) (m := ((bV σ.pts).take k).drop 0) h3 ?_ (by omega) fun v3 H3 h4 => ?_
  ·unfold room; simp only [List.length_drop, List.length_take, List.length_nil]; omega
  rw [List.nil_append, List.drop_zero] at h4;refine aZ h4 ?_;refine jc ?_;refine MS h4 fun b0 H5 h5 => ?_;refine f5 (s := v3) (l := (bV σ.pts).take k) (⟨step, who, (σ.places who).getD 0, code⟩ : Pt) h5 rfl ?_ (by omega) fun a cc H6 h6 => ?_
  ·unfold room; simp only [List.length_take]; omega
  refine ak h6 ae rfl ?_;have q2 : ac (ts 7 Pt.cells g.pv (bV σ.pts)) H6 := h6.to;obtain ⟨s2, e2, r2⟩ := O0 (s := g.pv) (l := bV σ.pts) (lo := some (vi (k : Int))) (hi := none) (a := k) (b := (bV σ.pts).length) q2 (.inr ⟨_, rfl⟩) (.inl ⟨rfl, rfl⟩) hk (bv _);refine aa e2 ?_;refine Hr (s := .slice a (((bV σ.pts).take k).length + 1) cc) (l := (bV σ.pts).take k ++ [(⟨step, who, (σ.places who).getD 0, code⟩ : Pt)]) (m := ((bV σ.pts).take (bV σ.pts).length).drop k) h6 ?_ (by omega) fun v4 H7 h7 => ?_
  ·unfold room; simp only [List.length_drop, List.length_take, qr, List.length_cons, List.length_nil]; omega
  have hc := ajG (s := v4) (enc := Pt.cells) (l := ((bV σ.pts).take k ++ [(⟨step, who, (σ.places who).getD 0, code⟩ : Pt)]) ++ ((bV σ.pts).take (bV σ.pts).length).drop k) h7
  haveI : wO v4 [v4] := ⟨hc.1⟩
  dsimp only;refine bk h7 ae rfl hc.2 fun H8 h8 => ?_;refine am ⟨v4, rfl, ?_⟩
  have e3 : bV (σ.note step who code).pts = ((bV σ.pts).take k ++ [(⟨step, who, (σ.places who).getD 0, code⟩ : Pt)]) ++ ((bV σ.pts).take (bV σ.pts).length).drop k := by
   show bV (σ.pts ++ [_]) = _;rw [Np, hins, List.take_length];simp
  unfold au;dsimp only;rw [e3];exact h8.to
 have down : ∀ (k : Nat), k ≤ (bV σ.pts).length → (∀ j p, k ≤ j → (bV σ.pts)[j]? = some p → step < p.step) →
  wp (D9 (vp p) (vi step) (vi who) (vp rb) (vi ((σ.places who).getD 0)) (vi (k : Int)) H2) (fun v' H' => ∃ x : Value, v' = .tuple #[] ∧ ac (au p { g with pv := x } (σ.note step who code) * R) H') := by
  intro k
  induction k with
  | zero =>
   intro hk ha;refine ah (GL _ _ _ _ _ _ H2) ?_;refine aa (fV (by omega)) ?_;refine gs ?_;refine ah (zh _ _ _ _ _ _ H2) ?_;exact put 0 hk ha (fun p h => absurd h (by omega))
  | succ k ih =>
   intro hk ha
   have hkl : k < (bV σ.pts).length := by omega
   refine ah (GL _ _ _ _ _ _ H2) ?_;refine aa (pA (by omega)) ?_;refine gs ?_;refine ak h2 ae rfl ?_;refine gs ?_;refine aa (gS (by omega) (by omega)) ?_;rw [show ((k + 1 : Nat) : Int) - 1 = (k : Int) from by omega];refine gs ?_;refine jO (s := g.pv) (l := bV σ.pts) (v := vi ((bV σ.pts)[k]).step) h2u hkl (by omega) rfl ?_;refine gs ?_
   by_cases hs : step < ((bV σ.pts)[k]).step
   ·refine aa (pA hs) ?_
    refine gs ?_;refine ah (RO _ _ _ _ _ _ H2) ?_;refine aa (gS (by omega) (by omega)) ?_;rw [show ((k + 1 : Nat) : Int) - 1 = (k : Int) from by omega];refine ih (by omega) fun j p hj hp => ?_
    by_cases e : j = k
    ·subst e
     rw [cB hkl] at hp;rw [← gD hp]; exact hs
    ·exact ha j p (by omega) hp
   ·refine aa (fV hs) ?_
    refine gs ?_;refine ah (zh _ _ _ _ _ _ H2) ?_;refine put (k + 1) hk ha fun p _ hp => ?_;rw [show k + 1 - 1 = k from by omega, cB hkl] at hp;rw [← gD hp]; omega
 exact down (bV σ.pts).length (bv _) fun j p hj hp => by
  rw [List.getElem?_eq_none hj] at hp; cases hp
structure Xk where
 a : Nat
 I : Nat
 free : Int
 hit : Bool
 obj : Nat
 w : Nat
 h : Nat
 q : Nat
 top : Nat
 mark : Int
 code : Int
abbrev xB (x P : Nat) (t : Tk) (k : Xk) : SP :=
 blk x (.cells false [vp P, vi t.who, vi t.x.op, vi t.x.flow, vi t.x.a, vi t.x.b, vi k.a, vi k.I, vi k.free, vb k.hit, vi k.obj, vu k.w, vu k.h, vu k.q, vw 0, vu k.top, vi k.mark, vi k.code, .slice none 0 0, vi 0, vw 0,
  vi 0, vi 0, .slice none 0 0, vw 0, vw 0, vi 0, vi 0, vi 0, vb false, vi 0, .slice none 0 0, vi 0, vw 0])
def iA (t : Tk) (k : Xk) : Prop := k.a = t.at' ∧ match t.at' with
 | 0 => k.I = t.i ∧ k.hit = false
 | 2 => k.I = t.i ∧ k.hit = false
 | 4 => k.I = t.i ∧ k.hit = false
 | 5 => k.hit = t.found ∧ (t.found = true → k.obj = t.obj) ∧ (t.found = false → k.code = t.code)
 | 6 => k.obj = t.obj
 | 7 => k.obj = t.obj
 | 8 => k.obj = t.obj ∧ k.w = t.w
 | 9 => k.obj = t.obj ∧ k.w = t.w
 | 10 => k.obj = t.obj ∧ k.w = t.w ∧ k.q = 0 ∧ k.code = t.code
 | 11 => k.obj = t.obj ∧ k.w = t.w ∧ k.code = t.code
 | 12 => k.obj = t.obj ∧ k.w = t.w
 | 13 => k.obj = t.obj ∧ k.w = t.w
 | 14 => k.obj = t.obj ∧ k.w = t.w ∧ k.q = 1 ∧ k.code = t.code
 | 15 => k.obj = t.obj
 | 16 => k.obj = t.obj ∧ k.q = t.q
 | 17 => k.obj = t.obj ∧ k.w = t.w ∧ k.q = t.q
 | 18 => k.obj = t.obj ∧ k.q = t.q ∧ k.mark = t.mark
 | 20 => k.obj = t.obj
 | 21 => k.obj = t.obj ∧ k.w = t.w ∧ k.code = t.code
 | 22 => k.obj = t.obj ∧ k.code = t.code
 | 23 => k.obj = t.obj ∧ k.top = t.top ∧ k.code = t.code
 | 24 => k.obj = t.obj ∧ k.top = t.top ∧ k.code = t.code
 | 25 => k.code = t.code
 | _ => True
def xP (x P : Nat) (σ : aM) (t : Tk) : SP := ex fun k : Xk => pu (iA t k) * (xB x P t k * aJ P σ)
def xQ (x P : Nat) (r : aM × Tk × Bool) : SP := ex fun k : Xk => pu (if r.2.2 = true then k.code = r.2.1.code else iA r.2.1 k) * (xB x P r.2.1 k * aJ P r.1)
section
variable {x P : Nat} {g : XIds} {σ σ' : aM} {t t' : Tk} {R : SP} {H : AH} {r : aM × Tk × Bool} {k : Xk}
theorem cU (h : ac (xP x P σ t * R) H) : ∃ (k : Xk) (g : XIds), iA t k ∧ e9 g σ ∧ ac (xB x P t k * (au P g σ * R)) H := by
 obtain ⟨k, h1⟩ := ac.ex.1 h;rw [ai, ac.pu] at h1;obtain ⟨g, h2, h3⟩ := dW (p := P) (σ := σ) (R := xB x P t k * R) (H := H) h1.2.to;exact ⟨k, g, h1.1, h2, h3.to⟩
theorem dB (hr : r = (σ', t', false)) (hR : iA t' k) (hg : e9 g σ') (h : ac (xB x P t' k * (au P g σ' * R)) H) : ∃ y : Unit, (vb false : Value) = vb r.2.2 ∧ ac (xQ x P r * R) H := by
 subst hr;refine ⟨(), rfl, ac.ex.2 ⟨k, ?_⟩⟩;rw [ai, ac.pu];have h1 := cN (p := P) (σ := σ') (R := xB x P t' k * R) g hg h.to;exact ⟨hR, h1.to⟩
theorem Hx (hr : r = (σ', t', true)) (hc : k.code = t'.code) (hg : e9 g σ') (h : ac (xB x P t' k * (au P g σ' * R)) H) : ∃ y : Unit, (vb true : Value) = vb r.2.2 ∧ ac (xQ x P r * R) H := by
 subst hr;refine ⟨(), rfl, ac.ex.2 ⟨k, ?_⟩⟩;rw [ai, ac.pu];have h1 := cN (p := P) (σ := σ') (R := xB x P t' k * R) g hg h.to;exact ⟨hc, h1.to⟩
theorem dK {c : i5} {μ' : Mu} {obs' : List (Ob × List Pk)} {nx' : Int → Option Nat} {pts' : List Pt} {pv : Value} (h : e9 g σ) (hN : σ.μ.N ≤ μ'.N) (ho : obs'.length = σ.obs.length) : e9 { g with pv := pv } ⟨c, μ', obs', nx', σ.places, pts'⟩ :=
 ⟨h.1.trans ho.symm, h.2.1, eA h.2.2 hN⟩
theorem aw {c : i5} {μ' : Mu} {obs' : List (Ob × List Pk)} {nx' : Int → Option Nat} {pts' : List Pt} (h : e9 g σ) (hN : σ.μ.N ≤ μ'.N) (ho : obs'.length = σ.obs.length) : e9 g ⟨c, μ', obs', nx', σ.places, pts'⟩ :=
 ⟨h.1.trans ho.symm, h.2.1, eA h.2.2 hN⟩
end
section
variable (x P : Nat) (g : XIds) (σ : aM) (t : Tk) (k : Xk)
theorem jQ (hl : g.rp.length = σ.obs.length) (b : Nat) (ho : k.obj < σ.obs.length) (hb : g.rp[k.obj]? = some b) : Sp bU [vp x] (xB x P t k * au P g σ) (fun _ : Unit => vp b) (fun _ => xB x P t k * au P g σ) := by
 refine bh (A7 _) fun R H h => ?_;refine ak h ae rfl ?_;refine ak h ae rfl ?_;refine ak h ae rfl ?_;have h2 := h;unfold au at h2;refine eF (s := g.rv) (l := g.rp) (v := vp b) h2 (by omega) ?_ ?_
 ·rw [cB (by omega)] at hb
  rw [gD hb]
 exact am ⟨(), rfl, h⟩
theorem zK (hw : k.w < 18446744073709551616) : Sp fK [vp x] (xB x P t k) (fun _ : Unit => vu (aG k.w)) (fun _ => xB x P t k) := by
 refine bh (zf _) fun R H h => ?_;refine ak h ae rfl ?_;refine af h (pN k.w hw) fun _ H1 h1 => ?_;refine aa (v := vu (aG k.w)) rfl ?_;refine aa (v := vi (aN k.w)) rfl ?_;refine aa (v := vb (dd k.w)) rfl ?_;exact am ⟨(), rfl, h1.to⟩
theorem Ef (S : SOk σ) (hl : g.rp.length = σ.obs.length) (b : Nat) (ho : k.obj < σ.obs.length) (hb : g.rp[k.obj]? = some b) :
 Sp eK [vp x] (xB x P t k * au P g σ) (fun _ : Unit => vi (aN (σ.μ.V (11, (k.obj : Int), 0)))) (fun _ => xB x P t { k with w := σ.μ.V (11, (k.obj : Int), 0) } * au P g (σ.mem (σ.μ.acc t.who 1 (11, (k.obj : Int), 0)))) := by
 have hN : σ.μ.N < 1099511627000 := by have := S.N; omega
 refine bh (A9 _) fun R H h => ?_;refine af h (jQ x P g σ t k hl b ho hb) fun _ H1 h1 => ?_;refine bC ae ?_;refine aV h1 rfl ?_;refine aI h h1 (by rfl) ?_;refine af h1 (kR (p := P) (μ' := σ.μ.acc t.who 1 (11, (k.obj : Int), 0)) (by simp) hl ho hb (SF g.m k.obj b (az σ k.obj) σ.μ t.who hN)) fun _ H2 h2 => ?_;refine bk h2 ae rfl rfl fun H3 h3 => ?_;refine ak h3 ae rfl ?_;refine af h3 (pN _ (S.V _)) fun _ H4 h4 => ?_;refine aa (v := vu (aG (σ.μ.V (11, (k.obj : Int), 0)))) rfl ?_;refine aa (v := vi (aN (σ.μ.V (11, (k.obj : Int), 0)))) rfl ?_;refine aa (v := vb (dd (σ.μ.V (11, (k.obj : Int), 0)))) rfl ?_;exact am ⟨(), rfl, h4.to⟩
theorem jP (hg : e9 g σ) (now e : Int) (hN : σ.μ.N < 1000000000) (hp : σ.pts.length < 900000) :
 Sp bE [vp x, vi now, vi e] (xB x P t k * au P g σ) (fun _ : Value => .tuple #[]) (fun v => xB x P t { k with code := e } * au P { g with pv := v } (σ.note now t.who e)) := by
 refine bh (A6 _ _ _) fun R H h => ?_;refine jc ?_;refine bk h ae rfl rfl fun H1 h1 => ?_;refine ak h1 ae rfl ?_;refine ak h1 ae rfl ?_;refine JT h1 ae ?_;refine af h1 (ar7 P g σ now t.who e (hg.2.1 _) (by have := hg.2.2; omega) hp) fun v H2 h2 => ?_;exact am ⟨v, rfl, h2.to⟩
def Bo (t1 : Tk) (k k' : Xk) : Prop := k'.a = k.a ∧ k'.w = k.w ∧ k'.q = k.q ∧ k'.top = k.top ∧ k'.mark = k.mark ∧ k'.code = k.code ∧ (t1.found = true → k'.hit = true ∧ k'.obj = t1.obj) ∧ (t1.found = false → k'.hit = k.hit ∧ k'.I = k.I + 1)
theorem Wt (S : SOk σ) (T : ij σ t) (hI : k.I = t.i) (hi : (t.i : Int) < σ.c.sl) :
 Sp F6 [vp x] (xB x P t k * au P g σ) (fun _ : Xk => .tuple #[vb (aL σ t).found, vb (!(aL σ t).found && cn σ (aL σ t))]) (fun k' => pu (Bo (aL σ t) k k') * (xB x P t k' * au P g (aY σ t))) := by
 have hN : σ.μ.N < 1099511627000 := by have := S.N; omega
 have hc := bL.1 S.c;refine bh (ah7 _) fun R H h => ?_;refine bC ae ?_;refine aV h rfl ?_;refine bC ae ?_;refine aV h rfl ?_;refine bC ae ?_;refine aV h rfl ?_;refine ak h ae rfl ?_;refine ak h ae rfl ?_;refine ak h (b7 (aR (aR bf))) rfl ?_;refine af h (DF (p := P) (g := g) (σ := σ) (mr g.tb g.m σ.c.sh.toNat σ.c.sl.toNat (by omega) t.x.flow)) fun _ H1 h1 => ?_;refine aI h1 h (by rfl) ?_;refine aI h1 h (by rfl) ?_;refine aI h1 h (by rfl) ?_
 have es : vi ((t.x.flow.tmod (σ.c.sh.toNat : Int) + (σ.c.sh.toNat : Int)).tmod (σ.c.sh.toNat : Int)) = vi t.s := by rw [T.s, show ((σ.c.sh.toNat : Nat) : Int) = σ.c.sh from by omega]
 rw [es];refine bC ae ?_;refine aV h1 rfl ?_;refine aI h h1 (by rfl) ?_;rw [hI]
 have ek : k = { k with I := t.i } := by rw [← hI]
 rw [ek] at h1;refine af h1 (p6 (p := P) (g := g) (σ := σ) (μ' := σ.μ.acc t.who 1 (10, t.s, (t.i : Int))) (by simp) (Jr g.tb g.m σ.c.sh.toNat σ.c.sl.toNat σ.μ t.who t.s t.i hN (S.V _))) fun _ H2 h2 => ?_;have tail : ∀ (k' : Xk) (H' : AH), Bo { aL σ t with found := false } { k with I := t.i } { k' with I := t.i + 1 } → k'.I = t.i → (aL σ t).found = false → ac (xB x P t k' * (au P g (aY σ t) * R)) H' →
  wp (GQ (vp x) (vb false) (vb false) H') fun v' H' => ∃ k' : Xk, v' = .tuple #[vb (aL σ t).found, vb (!(aL σ t).found && cn σ (aL σ t))] ∧ ac (pu (Bo (aL σ t) k k') * (xB x P t k' * au P g (aY σ t)) * R) H' := by
  intro k' H' hX hI' hf h';refine ah (Jy ..) ?_;refine ak h' ae rfl ?_;rw [hI'];refine aa (aS (by omega) (by omega)) ?_;rw [show ((t.i : Nat) : Int) + 1 = ((t.i + 1 : Nat) : Int) from by omega];refine bk h' ae rfl rfl fun H3 h3 => ?_;refine ak h3 ae rfl ?_;refine ak h3 ae rfl ?_;refine ak h3 ae rfl ?_;have h4 := h3;unfold au tab at h4;refine ak h4 ae rfl ?_;refine aa (v := vb (cn σ (aL σ t))) ?_ ?_
  ·rw [tF]
   congr 3
   show ((σ.c.sl.toNat : Int) ≤ _) = (σ.c.sl ≤ ((t.i + 1 : Nat) : Int));apply propext;omega
  refine am ⟨{ k' with I := t.i + 1 }, by rw [hf]; rfl, ?_⟩;rw [ai, ac.pu];refine ⟨?_, h3.to⟩
  have e0 : aL σ t = { aL σ t with found := false } := by rw [← hf]
  rw [e0]
  simpa [Bo, hI] using hX
 by_cases hv : σ.μ.V (10, t.s, (t.i : Int)) = 0
 ·have e1 : io (σ.μ.V (10, t.s, (t.i : Int))) = .tuple #[vi 0, vi 0, vb false] := by rw [io, if_pos hv]
  have hf : (aL σ t).found = false := d4 fun q => q.1 hv;rw [e1];refine aa (v := vi 0) rfl ?_;refine aa (v := vi 0) rfl ?_;refine aa (v := vb false) rfl ?_;refine gs ?_;refine ah (uk ..) ?_;refine gs ?_;rw [Bool.not_false];refine gs ?_;refine ak h2 ae rfl ?_
  by_cases hfr : k.free < 0
  ·refine mq ?_
   refine aa (cE hfr) ?_;refine gs ?_;refine ak h2 ae rfl ?_;refine bk h2 ae rfl rfl fun H3 h3 => ?_;exact tail { k with I := t.i, free := t.i } H3 (by simp [Bo]) rfl hf h3.to
  ·refine mq ?_
   refine aa (bP hfr) ?_;refine gs ?_;exact tail { k with I := t.i } H2 (by simp [Bo]) rfl hf h2.to
 ·have e1 : io (σ.μ.V (10, t.s, (t.i : Int))) = .tuple #[vi ((σ.μ.V (10, t.s, (t.i : Int)) / 4294967296 : Nat) - 1), vi (σ.μ.V (10, t.s, (t.i : Int)) % 4294967296 : Nat), vb true] := by rw [io, if_neg hv]
  rw [e1];refine aa (v := vi ((σ.μ.V (10, t.s, (t.i : Int)) / 4294967296 : Nat) - 1)) rfl ?_;refine aa (v := vi (σ.μ.V (10, t.s, (t.i : Int)) % 4294967296 : Nat)) rfl ?_;refine aa (v := vb true) rfl ?_;refine gs ?_;refine ak h2 (b7 (aR (aR bf))) rfl ?_;refine mq ?_
  by_cases hf : ((σ.μ.V (10, t.s, (t.i : Int)) / 4294967296 : Nat) : Int) - 1 = t.x.flow
  ·have hfo : (aL σ t).found = true := eu ⟨hv, hf⟩
   have hob : (aL σ t).obj = σ.μ.V (10, t.s, (t.i : Int)) % 4294967296 := if_pos hfo;refine aa (bg hf) ?_;refine gs ?_;refine bk h2 ae rfl rfl fun H3 h3 => ?_;refine bk h3 ae rfl rfl fun H4 h4 => ?_;refine am ⟨{ k with I := t.i, hit := true, obj := σ.μ.V (10, t.s, (t.i : Int)) % 4294967296 }, by rw [hfo]; rfl, ?_⟩;rw [ai, ac.pu];exact ⟨by simp [Bo, hfo, hob], h4.to⟩
  ·have hfo : (aL σ t).found = false := d4 fun q => hf q.2
   refine aa (aE hf) ?_;refine gs ?_;refine ah (uk ..) ?_;refine gs ?_;rw [Bool.not_true];refine gs ?_;exact tail { k with I := t.i } H2 (by simp [Bo]) rfl hfo h2.to
theorem Pc {R : SP} {H : AH} {Q : Value → AH → Prop} (now : Int) (S : SOk σ) (T : ij σ t) (h : ac (xB x P t k * (au P g σ * R)) H)
 (hk : ∀ b H', ac (blk b (.cells false [vi t.x.flow, vi t.x.a, vi t.x.b]) * (xB x P t k * (au P g σ * R))) H' → wp (RT (vp x) (vi now) (vb false) (vp P) (vi t.s) (vp b) H') Q) :
 wp (FF e6 [vp x, vi now] H) Q := by
 have hc := bL.1 S.c;refine bm (fun r => ap5 _ _ H) ?_;refine bC ae ?_;refine aV h rfl ?_;refine ak h ae rfl ?_;refine ak h ae rfl ?_;refine ak h (b7 (aR (aR bf))) rfl ?_;refine af h (DF (p := P) (g := g) (σ := σ) (mr g.tb g.m σ.c.sh.toNat σ.c.sl.toNat (by omega) t.x.flow)) fun _ H1 h1 => ?_;refine aI h1 h (by rfl) ?_
 have es : vi ((t.x.flow.tmod (σ.c.sh.toNat : Int) + (σ.c.sh.toNat : Int)).tmod (σ.c.sh.toNat : Int)) = vi t.s := by rw [T.s, show ((σ.c.sh.toNat : Nat) : Int) = σ.c.sh from by omega]
 rw [es];refine ak h1 (b7 (aR (aR bf))) rfl ?_;refine ak h1 (b7 (aR (aR bf))) rfl ?_;refine ak h1 (b7 (aR (aR bf))) rfl ?_;refine jc ?_;refine br h1 fun b H2 h2 => ?_;refine fi h2 rfl rfl fun H3 h3 => ?_;exact hk b H3 h3.to
theorem bW {R : SP} {H : AH} {Q : Value → AH → Prop} (now : Int) (S : SOk σ) (T : ij σ t) (ha : k.a ≠ 0) (h : ac (xB x P t k * (au P g σ * R)) H)
 (hk : ∀ b H', ac (blk b (.cells false [vi t.x.flow, vi t.x.a, vi t.x.b]) * (xB x P t k * (au P g σ * R))) H' → wp (qH (vp x) (vi now) (vb false) (vp P) (vi t.s) (vp b) (vi k.a) H') Q) :
 wp (FF e6 [vp x, vi now] H) Q := by
 refine Pc x P g σ t k now S T h fun b H1 h1 => ?_;refine ah (Jw ..) ?_;refine ak h1 ae rfl ?_;refine aa (aE (by omega)) ?_;refine gs ?_;refine ah (Jx ..) ?_;refine ak h1 ae rfl ?_;exact hk b H1 h1
end
theorem oZ {f : Nat} {args : List Value} {H : AH} {Q : Value → AH → Prop} (h : wp (FF f args H) Q) : wp ((FF f args H).bind fun r => some (r.1, r.2)) Q := by
 obtain ⟨v, H', e, q⟩ := h;rw [e]; exact ⟨v, H', rfl, q⟩
section
variable (x P : Nat) (σ : aM) (t : Tk) (now : Int)
theorem ch6 {x0 x1 x4 x5 x6 x7 : Value} {a : Nat} {H : AH} {Q : Value → AH → Prop} (h : a ≠ 2 ∧ a ≠ 3 ∧ a ≠ 4 ∧ a ≠ 5) (hk : wp ((aj .other .eql (vi (a : Int)) (vi 6)).bind fun v => Mx x0 x1 x4 x5 x6 x7 (vi (a : Int)) v H) Q) : wp (qH x0 x1 x4 x5 x6 x7 (vi (a : Int)) H) Q := by
 refine ah (mF ..) ?_;refine aa (aE (by omega)) ?_;refine ah (pW ..) ?_;refine gs ?_;refine aa (aE (by omega)) ?_;refine ah (qG ..) ?_;refine gs ?_;refine aa (aE (by omega)) ?_;refine ah (wo ..) ?_;refine gs ?_;refine aa (aE (by omega)) ?_;refine ah (GN ..) ?_;refine gs ?_;exact hk
theorem ch8 {x0 x1 x4 x5 x6 x7 : Value} {a : Nat} {H : AH} {Q : Value → AH → Prop} (h : a ≠ 2 ∧ a ≠ 3 ∧ a ≠ 4 ∧ a ≠ 5 ∧ a ≠ 6 ∧ a ≠ 7) (hk : wp ((aj .other .eql (vi (a : Int)) (vi 8)).bind fun v => My x0 x1 x4 x5 x6 x7 (vi (a : Int)) v H) Q) : wp (qH x0 x1 x4 x5 x6 x7 (vi (a : Int)) H) Q := by
 refine ch6 (by omega) ?_;refine aa (aE (by omega)) ?_;refine ah (wq ..) ?_;refine gs ?_;refine aa (aE (by omega)) ?_;refine ah (GO ..) ?_;refine gs ?_;exact hk
theorem ao9 {x0 x1 x4 x5 x6 x7 : Value} {a : Nat} {H : AH} {Q : Value → AH → Prop} (h : a ≠ 2 ∧ a ≠ 3 ∧ a ≠ 4 ∧ a ≠ 5 ∧ a ≠ 6 ∧ a ≠ 7 ∧ a ≠ 8 ∧ a ≠ 9 ∧ a ≠ 13) (hk : wp ((aj .other .eql (vi (a : Int)) (vi 10)).bind fun v98 => av v98 (zi x0 x1 x4 x5 x6 x7 (vi (a : Int)) v98 H) ((aj .other .eql (vi (a : Int)) (vi 14)).bind fun v99 => zi x0 x1 x4 x5 x6 x7 (vi (a : Int)) v99 H)) Q) : wp (qH x0 x1 x4 x5 x6 x7 (vi (a : Int)) H) Q := by
 refine ch8 (by omega) ?_;refine aa (aE (by omega)) ?_;refine ah (qI ..) ?_;refine gs ?_;refine aa (aE (by omega)) ?_;refine gs ?_;refine aa (aE (by omega)) ?_;refine ah (wr ..) ?_;refine gs ?_;exact hk
theorem apA {x0 x1 x4 x5 x6 x7 : Value} {a : Nat} {H : AH} {Q : Value → AH → Prop} (h : a ≠ 2 ∧ a ≠ 3 ∧ a ≠ 4 ∧ a ≠ 5 ∧ a ≠ 6 ∧ a ≠ 7 ∧ a ≠ 8 ∧ a ≠ 9 ∧ a ≠ 10 ∧ a ≠ 13 ∧ a ≠ 14) (hk : wp ((aj .other .eql (vi (a : Int)) (vi 11)).bind fun v => MA x0 x1 x4 x5 x6 (vi (a : Int)) v H) Q) : wp (qH x0 x1 x4 x5 x6 x7 (vi (a : Int)) H) Q := by
 refine ao9 (by omega) ?_;refine aa (aE (by omega)) ?_;refine gs ?_;refine aa (aE (by omega)) ?_;refine ah (wu ..) ?_;refine gs ?_;exact hk
theorem ab4 {x0 x1 x4 x5 x6 x7 : Value} {a : Nat} {H : AH} {Q : Value → AH → Prop} (h : a ≠ 2 ∧ a ≠ 3 ∧ a ≠ 4 ∧ a ≠ 5 ∧ a ≠ 6 ∧ a ≠ 7 ∧ a ≠ 8 ∧ a ≠ 9 ∧ a ≠ 10 ∧ a ≠ 11 ∧ a ≠ 12 ∧ a ≠ 13 ∧ a ≠ 14) (hk : wp ((aj .other .eql (vi (a : Int)) (vi 15)).bind fun v92 => av v92 (mm x0 x1 x4 x6 v92 H) ((aj .other .eql (vi (a : Int)) (vi 16)).bind fun v93 => av v93 (mm x0 x1 x4 x6 v93 H) ((aj .other .eql (vi (a : Int)) (vi 17)).bind fun v94 => av v94 (mm x0 x1 x4 x6 v94 H) ((aj .other .eql (vi (a : Int)) (vi 18)).bind fun v95 => mm x0 x1 x4 x6 v95 H)))) Q) : wp (qH x0 x1 x4 x5 x6 x7 (vi (a : Int)) H) Q := by
 refine apA (by omega) ?_;refine aa (aE (by omega)) ?_;refine ah (ww ..) ?_;refine gs ?_;refine aa (aE (by omega)) ?_;refine ah (GP ..) ?_;refine gs ?_;exact hk
theorem chw {x0 x1 x4 x5 x6 x7 : Value} {a : Nat} {H : AH} {Q : Value → AH → Prop} (h : a ≠ 2 ∧ a ≠ 3 ∧ a ≠ 4 ∧ a ≠ 5 ∧ a ≠ 6 ∧ a ≠ 7 ∧ a ≠ 8 ∧ a ≠ 9 ∧ a ≠ 10 ∧ a ≠ 11 ∧ a ≠ 12 ∧ a ≠ 13 ∧ a ≠ 14 ∧ a ≠ 15 ∧ a ≠ 16 ∧ a ≠ 17 ∧ a ≠ 18) (hk : wp ((FF ag3 [x0, x6] H).bind fun r91 => some (r91.1, r91.2)) Q) : wp (qH x0 x1 x4 x5 x6 x7 (vi (a : Int)) H) Q := by
 refine ab4 (by omega) ?_;refine aa (aE (by omega)) ?_;refine gs ?_;refine aa (aE (by omega)) ?_;refine gs ?_;refine aa (aE (by omega)) ?_;refine gs ?_;refine aa (aE (by omega)) ?_;refine ah (nK ..) ?_;refine gs ?_;exact hk
theorem anR (S : SOk σ) (T : ij σ t) (hat : t.at' = 3) : Sp e6 [vp x, vi now] (xP x P σ t) (fun _ : Unit => vb (ap σ t now).2.2) (fun _ => xQ x P (ap σ t now)) := by
 have hN : σ.μ.N < 1099511627000 := by have := S.N; omega
 refine aO fun R H h => ?_;obtain ⟨k, g, hR, hg, h0⟩ := cU h;have hl := hg.1;simp only [iA, hat] at hR;obtain ⟨ha, _⟩ := hR;refine bW x P g σ t k now S T (by omega) h0 fun b1 H1 h1 => ?_;refine ah (mF ..) ?_;refine aa (aE (by omega)) ?_;refine ah (pW ..) ?_;refine gs ?_;refine aa (bg (by omega)) ?_;refine ah (qG ..) ?_;refine gs ?_;refine ak h1 ae rfl ?_;refine ak h1 ae rfl ?_;refine af h1 (p6 (p := P) (g := g) (σ := σ) (μ' := σ.μ.swp t.who (8, t.s, 0) 0 1) (by simp) (Ov g.tb g.m σ.c.sh.toNat σ.c.sl.toNat σ.μ t.who t.s hN)) fun _ H2 h2 => ?_
 by_cases hw : σ.μ.V (8, t.s, 0) = 0
 ·rw [eu hw]
  refine gs ?_;refine bk h2 ae rfl rfl fun H3 h3 => ?_;refine bk h3 ae rfl rfl fun H4 h4 => ?_;refine bk h4 ae rfl rfl fun H5 h5 => ?_;refine ah (cq ..) ?_;exact am (dB (g := g) (σ' := σ.mem (σ.μ.swp t.who (8, t.s, 0) 0 1)) (t' := { t with at' := 4, i := 0 }) (k := { k with a := 4, I := 0, hit := false }) (by simp only [ap, hat]; rw [if_pos hw]) (by simp [iA]) (aw (σ := σ) hg (by simp) rfl) h5.to)
 ·rw [d4 hw]
  refine gs ?_;refine ah (cq ..) ?_;exact am (dB (g := g) (σ' := σ.mem (σ.μ.swp t.who (8, t.s, 0) 0 1)) (t' := t) (k := k) (by simp only [ap, hat]; rw [if_neg hw]) (by simp only [iA, hat]; exact ⟨ha, trivial⟩) (aw (σ := σ) hg (by simp) rfl) h2.to)
theorem anT (S : SOk σ) (T : ij σ t) (hat : t.at' = 5) : Sp e6 [vp x, vi now] (xP x P σ t) (fun _ : Unit => vb (ap σ t now).2.2) (fun _ => xQ x P (ap σ t now)) := by
 have hN : σ.μ.N < 1099511627000 := by have := S.N; omega
 refine aO fun R H h => ?_;obtain ⟨k, g, hR, hg, h0⟩ := cU h;have hl := hg.1;simp only [iA, hat] at hR;obtain ⟨ha, hhit, hobj, hcode⟩ := hR;refine bW x P g σ t k now S T (by omega) h0 fun b1 H1 h1 => ?_;refine ah (mF ..) ?_;refine aa (aE (by omega)) ?_;refine ah (pW ..) ?_;refine gs ?_;refine aa (aE (by omega)) ?_;refine ah (qG ..) ?_;refine gs ?_;refine aa (aE (by omega)) ?_;refine ah (wo ..) ?_;refine gs ?_;refine aa (bg (by omega)) ?_;refine ah (GN ..) ?_;refine gs ?_;refine ak h1 ae rfl ?_;refine ak h1 ae rfl ?_;refine af h1 (p6 (p := P) (g := g) (σ := σ) (μ' := (σ.μ.acc t.who 2 (8, t.s, 0)).put (8, t.s, 0) 0) (by simp) (wn g.tb g.m σ.c.sh.toNat σ.c.sl.toNat σ.μ t.who t.s hN)) fun _ H2 h2 => ?_;refine ak h2 ae rfl ?_;cases hf : t.found
 ·rw [hf] at hhit
  rw [hhit];refine gs ?_;rw [Bool.not_false];refine gs ?_;exact am (Hx (g := g) (k := k) (σ' := σ.mem ((σ.μ.acc t.who 2 (8, t.s, 0)).put (8, t.s, 0) 0)) (t' := { t with at' := 6 }) (by simp only [ap, hat, hf]; rfl) (hcode hf) (aw (σ := σ) hg (by simp) rfl) h2.to)
 ·rw [hf] at hhit
  rw [hhit];refine gs ?_;rw [Bool.not_true];refine gs ?_;refine bk h2 ae rfl rfl fun H3 h3 => ?_;refine ah (cq ..) ?_;exact am (dB (g := g) (σ' := σ.mem ((σ.μ.acc t.who 2 (8, t.s, 0)).put (8, t.s, 0) 0)) (t' := { t with at' := 6 }) (k := { k with a := 6 }) (by simp only [ap, hat, hf]; rfl) (by simp [iA, hobj hf]) (aw (σ := σ) hg (by simp) rfl) h3.to)
theorem anU (S : SOk σ) (T : ij σ t) (hat : t.at' = 6) : Sp e6 [vp x, vi now] (xP x P σ t) (fun _ : Unit => vb (ap σ t now).2.2) (fun _ => xQ x P (ap σ t now)) := by
 have hN : σ.μ.N < 1099511627000 := by have := S.N; omega
 refine aO fun R H h => ?_;obtain ⟨k, g, hR, hg, h0⟩ := cU h;have hl := hg.1;simp only [iA, hat] at hR;obtain ⟨ha, hobj⟩ := hR;have ho := T.obj (.inl (by omega))
 have hob : k.obj < σ.obs.length := by omega
 obtain ⟨b, hb⟩ : ∃ b, g.rp[k.obj]? = some b := ⟨_, cB (by omega)⟩;refine bW x P g σ t k now S T (by omega) h0 fun b1 H1 h1 => ?_;refine ch6 (by omega) ?_;refine aa (bg (by omega)) ?_;refine ah (wq ..) ?_;refine gs ?_;refine ak h1 ae rfl ?_;refine ak h1 ae rfl ?_;refine af h1 (SD P g σ hl t.who k.obj hob S.N) fun _ H2 h2 => ?_;refine bk h2 ae rfl rfl fun H3 h3 => ?_;refine ah (cq ..) ?_;rw [hobj] at h3;exact am (dB (g := g) (σ' := σ.mem (σ.μ.acc t.who 5 (13, (t.obj : Int), 0))) (t' := { t with at' := 7 }) (k := { k with a := 7, obj := t.obj }) (by simp only [ap, hat]) (by simp [iA]) (aw (σ := σ) hg (by simp) rfl) h3.to)
theorem anV (S : SOk σ) (T : ij σ t) (hat : t.at' = 7) : Sp e6 [vp x, vi now] (xP x P σ t) (fun _ : Unit => vb (ap σ t now).2.2) (fun _ => xQ x P (ap σ t now)) := by
 have hN : σ.μ.N < 1099511627000 := by have := S.N; omega
 refine aO fun R H h => ?_;obtain ⟨k, g, hR, hg, h0⟩ := cU h;have hl := hg.1;simp only [iA, hat] at hR;obtain ⟨ha, hobj⟩ := hR;have ho := T.obj (.inl (by omega))
 have hob : k.obj < σ.obs.length := by omega
 obtain ⟨b, hb⟩ : ∃ b, g.rp[k.obj]? = some b := ⟨_, cB (by omega)⟩;refine bW x P g σ t k now S T (by omega) h0 fun b1 H1 h1 => ?_;refine ch6 (by omega) ?_;refine aa (aE (by omega)) ?_;refine ah (wq ..) ?_;refine gs ?_;refine aa (bg (by omega)) ?_;refine ah (GO ..) ?_;refine gs ?_;refine bk h1 ae rfl rfl fun H2 h2 => ?_;refine af h2 (Ef x P g σ t { k with a := 8 } S hl b hob hb) fun _ H3 h3 => ?_;dsimp only at h3;rw [hobj] at h3
 by_cases hw : aN (σ.μ.V (11, (t.obj : Int), 0)) = 2
 ·refine aa (bg (by rw [hobj]; exact hw)) ?_
  refine gs ?_;refine bk h3 ae rfl rfl fun H4 h4 => ?_;refine ah (cq ..) ?_;exact am (dB (g := g) (σ' := dg σ t) (t' := { t with at' := 3, w := σ.μ.V (11, (t.obj : Int), 0) }) (k := { k with a := 3, obj := t.obj, w := σ.μ.V (11, (t.obj : Int), 0) }) (by simp only [ap, hat]; rw [if_pos hw]) (by simp [iA]) (aw (σ := σ) hg (by simp) rfl) h4.to)
 ·refine aa (aE (by rw [hobj]; exact hw)) ?_
  refine gs ?_;refine ah (cq ..) ?_;exact am (dB (g := g) (σ' := dg σ t) (t' := { t with at' := 8, w := σ.μ.V (11, (t.obj : Int), 0) }) (k := { k with a := 8, obj := t.obj, w := σ.μ.V (11, (t.obj : Int), 0) }) (by simp only [ap, hat]; rw [if_neg hw]) (by simp [iA]) (aw (σ := σ) hg (by simp) rfl) h3.to)
theorem anW (S : SOk σ) (T : ij σ t) (hat : t.at' = 8) : Sp e6 [vp x, vi now] (xP x P σ t) (fun _ : Unit => vb (ap σ t now).2.2) (fun _ => xQ x P (ap σ t now)) := by
 have hN : σ.μ.N < 1099511627000 := by have := S.N; omega
 refine aO fun R H h => ?_;obtain ⟨k, g, hR, hg, h0⟩ := cU h;have hl := hg.1;simp only [iA, hat] at hR;obtain ⟨ha, hobj, hw0⟩ := hR;have ho := T.obj (.inl (by omega))
 have hob : k.obj < σ.obs.length := by omega
 obtain ⟨b, hb⟩ : ∃ b, g.rp[k.obj]? = some b := ⟨_, cB (by omega)⟩;refine bW x P g σ t k now S T (by omega) h0 fun b1 H1 h1 => ?_;refine ch8 (by omega) ?_;refine aa (bg (by omega)) ?_;refine ah (qI ..) ?_;refine gs ?_;refine af h1 (jQ x P g σ t k hl b hob hb) fun _ H2 h2 => ?_;refine bC ae ?_;refine aV h2 rfl ?_;refine aI h1 h2 (by rfl) ?_;refine af h2 (kR (p := P) (μ' := σ.μ.acc t.who 1 (12, (k.obj : Int), 0)) (by simp) hl hob hb (HE g.m k.obj b (az σ k.obj) σ.μ t.who hN)) fun _ H3 h3 => ?_;refine bk h3 ae rfl rfl fun H4 h4 => ?_;refine ak h4 ae rfl ?_;refine af h4 (pN k.w (by rw [hw0]; exact T.w)) fun _ H5 h5 => ?_;refine aa (v := vu (aG k.w)) rfl ?_;refine aa (v := vi (aN k.w)) rfl ?_;refine aa (v := vb (dd k.w)) rfl ?_;refine ah (RV ..) ?_;refine af h5 (jQ x P g (σ.mem (σ.μ.acc t.who 1 (12, (k.obj : Int), 0))) t { k with h := σ.μ.V (12, (k.obj : Int), 0) } hl b hob hb) fun _ H6 h6 => ?_;refine bC ae ?_;refine aV h6 rfl ?_;refine aI h5 h6 (by rfl) ?_;refine bC ae ?_;refine aV h6 rfl ?_;refine aI h5 h6 (by rfl) ?_;refine af h6 (M6 (p := P) (σ := σ.mem (σ.μ.acc t.who 1 (12, (k.obj : Int), 0))) hl hob hb (HD g.m k.obj b (az σ k.obj) k.w (σ.μ.V (12, (k.obj : Int), 0)) (by rw [hw0]; exact T.w) (S.cells _ hob).2)) fun _ H7 h7 => ?_;rw [hobj, hw0] at h7;rw [hobj, hw0];cases hf : n6 t.w (σ.μ.V (12, (t.obj : Int), 0)) (az σ t.obj).length
 ·refine gs ?_
  by_cases hw : aN t.w = 1
  ·refine aa (bg hw) ?_
   refine gs ?_;refine bk h7 ae rfl rfl fun H8 h8 => ?_;refine ah (cq ..) ?_;exact am (dB (g := g) (σ' := jo σ t) (t' := { t with at' := 9 }) (k := { k with a := 9, obj := t.obj, w := t.w, h := σ.μ.V (12, (t.obj : Int), 0) }) (by simp only [ap, hat, jU, hf]; rw [if_pos hw]; rfl) (by simp [iA]) (aw (σ := σ) hg (by simp) rfl) h8.to)
  ·refine aa (aE hw) ?_
   refine gs ?_;refine bk h7 ae rfl rfl fun H8 h8 => ?_;refine ah (cq ..) ?_;exact am (dB (g := g) (σ' := jo σ t) (t' := { t with at' := 12 }) (k := { k with a := 12, obj := t.obj, w := t.w, h := σ.μ.V (12, (t.obj : Int), 0) }) (by simp only [ap, hat, jU, hf]; rw [if_neg hw]; rfl) (by simp [iA]) (aw (σ := σ) hg (by simp) rfl) h8.to)
 ·refine gs ?_
  refine bk h7 ae rfl rfl fun H8 h8 => ?_;refine ah (cq ..) ?_;exact am (dB (g := g) (σ' := jo σ t) (t' := { t with at' := 15 }) (k := { k with a := 15, obj := t.obj, w := t.w, h := σ.μ.V (12, (t.obj : Int), 0) }) (by simp only [ap, hat, jU, hf]; rfl) (by simp [iA]) (aw (σ := σ) hg (by simp) rfl) h8.to)
theorem Ph (g : XIds) (k : Xk) (S : SOk σ) (hg : e9 g σ) (ha : k.a = 9 ∨ k.a = 13) (b : Nat) (ho : k.obj < σ.obs.length) (hb : g.rp[k.obj]? = some b) (hw0 : k.w < 18446744073709551616) :
 Sp ko [vp x, vi now] (xB x P t k * au P g σ) (fun _ : Value => .tuple #[]) (fun v => if dT σ.μ k.obj k.w (aP k.w 0) = true then
  xB x P t { k with q := if k.a = 13 then 1 else 0, a := k.a + 1, code := 0 } * au P { g with pv := v } ((σ.mem (σ.μ.turn t.who k.obj k.w (aP k.w 0))).note now t.who 0)
  else xB x P t { k with q := if k.a = 13 then 1 else 0, a := if k.a = 13 then 20 else 7 } * au P g (σ.mem (σ.μ.turn t.who k.obj k.w (aP k.w 0)))) := by
 have hN : σ.μ.N < 1099511627000 := by have := S.N; omega
 have hl := hg.1
 have hturn : σ.μ.N ≤ (σ.μ.turn t.who k.obj k.w (aP k.w 0)).N := by cases aP k.w 0 <;> simp
 have hturn2 : (σ.μ.turn t.who k.obj k.w (aP k.w 0)).N ≤ σ.μ.N + 2 := by cases aP k.w 0 <;> simp
 refine bh (ze _ _) fun R H h => ?_;refine bk h ae rfl rfl fun H1 h1 => ?_;refine ah (s9 ..) ?_;refine ak h1 ae rfl ?_
 have main : ∀ (q : Nat) (H2 : AH), q = (if k.a = 13 then 1 else 0) → ac (xB x P t { k with q := q } * (au P g σ * R)) H2 → wp (gy (vp x) (vi now) H2) fun v' H' => ∃ v : Value, v' = .tuple #[] ∧ ac ((if dT σ.μ k.obj k.w (aP k.w 0) = true then
  xB x P t { k with q := if k.a = 13 then 1 else 0, a := k.a + 1, code := 0 } * au P { g with pv := v } ((σ.mem (σ.μ.turn t.who k.obj k.w (aP k.w 0))).note now t.who 0)
  else xB x P t { k with q := if k.a = 13 then 1 else 0, a := if k.a = 13 then 20 else 7 } * au P g (σ.mem (σ.μ.turn t.who k.obj k.w (aP k.w 0)))) * R) H' := by
  intro q H2 hq h2;refine ah (ta ..) ?_;refine af h2 (jQ x P g σ t { k with q := q } hl b ho hb) fun _ H3 h3 => ?_;refine bC ae ?_;refine aV h3 rfl ?_;refine aI h2 h3 (by rfl) ?_;refine bC ae ?_;refine aV h3 rfl ?_;refine aI h2 h3 (by rfl) ?_;refine af h3 (kR (p := P) (μ' := σ.μ.turn t.who k.obj k.w (aP k.w 0)) hturn hl ho hb (wK g.m k.obj b (az σ k.obj) σ.μ t.who k.w 0 (by omega) hw0 hN)) fun _ H4 h4 => ?_;cases hw : dT σ.μ k.obj k.w (aP k.w 0)
  ·refine gs ?_
   refine ak h4 ae rfl ?_
   rcases ha with ha | ha
   ·refine aa (bg (show ((k.a : Nat) : Int) = 9 by omega)) ?_
    refine gs ?_;refine bk h4 ae rfl rfl fun H5 h5 => ?_;refine am ⟨.bool true, rfl, ?_⟩;rw [if_neg (by simp)];simp only [hq] at h5;rw [if_neg (by omega)] at h5 ⊢;rw [if_neg (by omega)];exact h5.to
   ·refine aa (aE (show ¬ ((k.a : Nat) : Int) = 9 by omega)) ?_
    refine gs ?_;refine bk h4 ae rfl rfl fun H5 h5 => ?_;refine am ⟨.bool true, rfl, ?_⟩;rw [if_neg (by simp)];simp only [hq] at h5;rw [if_pos ha] at h5 ⊢;rw [if_pos ha];exact h5.to
  ·refine gs ?_
   refine af h4 (jP x P g (σ.mem (σ.μ.turn t.who k.obj k.w (aP k.w 0))) t { k with q := q } (aw (σ := σ) hg hturn rfl) now 0 (by have := S.N; show (σ.μ.turn t.who k.obj k.w (aP k.w 0)).N < _; omega) S.pts) fun v H5 h5 => ?_;refine ak h5 ae rfl ?_;refine aa (aS (a := ((k.a : Nat) : Int)) (b := 1) (by omega) (by omega)) ?_;rw [show ((k.a : Nat) : Int) + 1 = ((k.a + 1 : Nat) : Int) from by omega];refine bk h5 ae rfl rfl fun H6 h6 => ?_;refine am ⟨v, rfl, ?_⟩;rw [if_pos rfl];simp only [hq] at h6;exact h6.to
 rcases ha with ha | ha
 ·refine aa (aE (by omega)) ?_
  refine gs ?_;exact main 0 H1 (by rw [if_neg (by omega)]) h1.to
 ·refine aa (bg (by omega)) ?_
  refine gs ?_;refine bk h1 ae rfl rfl fun H2 h2 => ?_;exact main 1 H2 (by rw [if_pos ha]) h2.to
theorem anX (S : SOk σ) (T : ij σ t) (hat : t.at' = 9) : Sp e6 [vp x, vi now] (xP x P σ t) (fun _ : Unit => vb (ap σ t now).2.2) (fun _ => xQ x P (ap σ t now)) := by
 have hN : σ.μ.N < 1099511627000 := by have := S.N; omega
 refine aO fun R H h => ?_;obtain ⟨k, g, hR, hg, h0⟩ := cU h;have hl := hg.1;simp only [iA, hat] at hR;obtain ⟨ha, hobj, hw0⟩ := hR;have ho := T.obj (.inl (by omega))
 have hob : k.obj < σ.obs.length := by omega
 obtain ⟨b, hb⟩ : ∃ b, g.rp[k.obj]? = some b := ⟨_, cB (by omega)⟩;refine bW x P g σ t k now S T (by omega) h0 fun b1 H1 h1 => ?_;refine ch8 (by omega) ?_;refine aa (aE (by omega)) ?_;refine ah (qI ..) ?_;refine gs ?_;refine aa (bg (by omega)) ?_;refine gs ?_;refine ah (wr ..) ?_;refine gs ?_
 have hturn : σ.μ.N ≤ (σ.μ.turn t.who k.obj k.w (aP k.w 0)).N := by cases aP k.w 0 <;> simp
 refine af h1 (Ph x P σ t now g k S hg (by omega) b hob hb (by rw [hw0]; exact T.w)) fun v H2 h2 => ?_;refine ah (cq ..) ?_;cases hw : dT σ.μ t.obj t.w (aP t.w 0)
 ·rw [if_neg (by rw [hobj, hw0, hw]; simp)] at h2
  rw [hobj, hw0, ha, if_neg (by omega), if_neg (by omega)] at h2;exact am (dB (g := g) (σ' := σ.mem (σ.μ.turn t.who t.obj t.w (aP t.w 0))) (t' := { t with at' := 7 }) (k := { k with a := 7, obj := t.obj, w := t.w, q := 0 }) (by simp only [ap, hat, hw]; rfl) (by simp [iA]) (aw (σ := σ) hg (by rw [hobj, hw0] at hturn; exact hturn) rfl) h2.to)
 ·rw [if_pos (by rw [hobj, hw0, hw])] at h2
  rw [hobj, hw0, ha, if_neg (by omega)] at h2;exact am (dB (g := { g with pv := v }) (σ' := (σ.mem (σ.μ.turn t.who t.obj t.w (aP t.w 0))).note now t.who 0) (t' := { t with at' := 10, code := 0 }) (k := { k with a := 10, obj := t.obj, w := t.w, q := 0, code := 0 }) (by simp only [ap, hat, hw]; rfl) (by simp [iA]) (dK (σ := σ) hg (by rw [hobj, hw0] at hturn; exact hturn) rfl) h2.to)
theorem ajZ (S : SOk σ) (T : ij σ t) (hat : t.at' = 13) : Sp e6 [vp x, vi now] (xP x P σ t) (fun _ : Unit => vb (ap σ t now).2.2) (fun _ => xQ x P (ap σ t now)) := by
 have hN : σ.μ.N < 1099511627000 := by have := S.N; omega
 refine aO fun R H h => ?_;obtain ⟨k, g, hR, hg, h0⟩ := cU h;have hl := hg.1;simp only [iA, hat] at hR;obtain ⟨ha, hobj, hw0⟩ := hR;have ho := T.obj (.inl (by omega))
 have hob : k.obj < σ.obs.length := by omega
 obtain ⟨b, hb⟩ : ∃ b, g.rp[k.obj]? = some b := ⟨_, cB (by omega)⟩;refine bW x P g σ t k now S T (by omega) h0 fun b1 H1 h1 => ?_;refine ch8 (by omega) ?_;refine aa (aE (by omega)) ?_;refine ah (qI ..) ?_;refine gs ?_;refine aa (aE (by omega)) ?_;refine gs ?_;refine aa (bg (by omega)) ?_;refine ah (wr ..) ?_;refine gs ?_
 have hturn : σ.μ.N ≤ (σ.μ.turn t.who k.obj k.w (aP k.w 0)).N := by cases aP k.w 0 <;> simp
 refine af h1 (Ph x P σ t now g k S hg (by omega) b hob hb (by rw [hw0]; exact T.w)) fun v H2 h2 => ?_;refine ah (cq ..) ?_;cases hw : dT σ.μ t.obj t.w (aP t.w 0)
 ·rw [if_neg (by rw [hobj, hw0, hw]; simp)] at h2
  rw [hobj, hw0, ha, if_pos rfl, if_pos rfl] at h2;exact am (dB (g := g) (σ' := σ.mem (σ.μ.turn t.who t.obj t.w (aP t.w 0))) (t' := { t with at' := 20 }) (k := { k with a := 20, obj := t.obj, w := t.w, q := 1 }) (by simp only [ap, hat, hw]; rfl) (by simp [iA]) (aw (σ := σ) hg (by rw [hobj, hw0] at hturn; exact hturn) rfl) h2.to)
 ·rw [if_pos (by rw [hobj, hw0, hw])] at h2
  rw [hobj, hw0, ha, if_pos rfl] at h2;exact am (dB (g := { g with pv := v }) (σ' := (σ.mem (σ.μ.turn t.who t.obj t.w (aP t.w 0))).note now t.who 0) (t' := { t with at' := 14, code := 0 }) (k := { k with a := 14, obj := t.obj, w := t.w, q := 1, code := 0 }) (by simp only [ap, hat, hw]; rfl) (by simp [iA]) (dK (σ := σ) hg (by rw [hobj, hw0] at hturn; exact hturn) rfl) h2.to)
theorem ajW (S : SOk σ) (T : ij σ t) (hat : t.at' = 10) : Sp e6 [vp x, vi now] (xP x P σ t) (fun _ : Unit => vb (ap σ t now).2.2) (fun _ => xQ x P (ap σ t now)) := by
 have hN : σ.μ.N < 1099511627000 := by have := S.N; omega
 refine aO fun R H h => ?_;obtain ⟨k, g, hR, hg, h0⟩ := cU h;have hl := hg.1;simp only [iA, hat] at hR;obtain ⟨ha, hobj, hw0, hq, hcode⟩ := hR;have ho := T.obj (.inl (by omega))
 have hob : k.obj < σ.obs.length := by omega
 obtain ⟨b, hb⟩ : ∃ b, g.rp[k.obj]? = some b := ⟨_, cB (by omega)⟩;refine bW x P g σ t k now S T (by omega) h0 fun b1 H1 h1 => ?_;refine ao9 (by omega) ?_;refine aa (bg (by omega)) ?_;refine gs ?_;refine ah (wu ..) ?_;refine gs ?_;refine af h1 (jQ x P g σ t k hl b hob hb) fun _ H2 h2 => ?_;refine bC ae ?_;refine aV h2 rfl ?_;refine aI h1 h2 (by rfl) ?_;refine af h2 (zK x P t k (by rw [hw0]; exact T.w)) fun _ H3 h3 => ?_;refine aI h3 h2 (by rfl) ?_;refine aZ h3 ?_;refine dX h1 h3 rfl ?_;refine dX h2 h3 rfl ?_;refine af h3 (J1 (p := P) (μ' := σ.μ.acc t.who 6 (16, (k.obj : Int), ((aG k.w % (az σ k.obj).length : Nat) : Int))) (by simp) hl hob hb (JX g.m k.obj b (az σ k.obj) σ.μ t.who (aG k.w) ⟨t.x.flow, t.x.a, t.x.b⟩ (S.cells _ hob) hN)) fun _ H4 h4 => ?_;refine bk h4 ae rfl rfl fun H5 h5 => ?_;refine ak h5 ae rfl ?_;refine aa (aE (by omega)) ?_;refine gs ?_;refine ah (cq ..) ?_;have e1 := D3 σ t;rw [hobj, hw0, ← e1] at h5;exact am (dB (g := g) (σ' := iv σ t) (t' := { t with at' := 11 }) (k := { k with a := 11, obj := t.obj, w := t.w }) (by simp only [ap, hat]) (by simp [iA, hcode]) (aw (σ := σ) hg (by simp) (jq σ t)) h5.to)
theorem aj0 (S : SOk σ) (T : ij σ t) (hat : t.at' = 14) : Sp e6 [vp x, vi now] (xP x P σ t) (fun _ : Unit => vb (ap σ t now).2.2) (fun _ => xQ x P (ap σ t now)) := by
 have hN : σ.μ.N < 1099511627000 := by have := S.N; omega
 refine aO fun R H h => ?_;obtain ⟨k, g, hR, hg, h0⟩ := cU h;have hl := hg.1;simp only [iA, hat] at hR;obtain ⟨ha, hobj, hw0, hq, hcode⟩ := hR;have ho := T.obj (.inl (by omega))
 have hob : k.obj < σ.obs.length := by omega
 obtain ⟨b, hb⟩ : ∃ b, g.rp[k.obj]? = some b := ⟨_, cB (by omega)⟩;refine bW x P g σ t k now S T (by omega) h0 fun b1 H1 h1 => ?_;refine ao9 (by omega) ?_;refine aa (aE (by omega)) ?_;refine gs ?_;refine aa (bg (by omega)) ?_;refine ah (wu ..) ?_;refine gs ?_;refine af h1 (jQ x P g σ t k hl b hob hb) fun _ H2 h2 => ?_;refine bC ae ?_;refine aV h2 rfl ?_;refine aI h1 h2 (by rfl) ?_;refine af h2 (zK x P t k (by rw [hw0]; exact T.w)) fun _ H3 h3 => ?_;refine aI h3 h2 (by rfl) ?_;refine aZ h3 ?_;refine dX h1 h3 rfl ?_;refine dX h2 h3 rfl ?_;refine af h3 (J1 (p := P) (μ' := σ.μ.acc t.who 6 (16, (k.obj : Int), ((aG k.w % (az σ k.obj).length : Nat) : Int))) (by simp) hl hob hb (JX g.m k.obj b (az σ k.obj) σ.μ t.who (aG k.w) ⟨t.x.flow, t.x.a, t.x.b⟩ (S.cells _ hob) hN)) fun _ H4 h4 => ?_;refine bk h4 ae rfl rfl fun H5 h5 => ?_;refine ak h5 ae rfl ?_;refine aa (bg (by omega)) ?_;refine gs ?_;refine bk h5 ae rfl rfl fun H6 h6 => ?_;refine ah (cq ..) ?_;have e1 := D3 σ t;rw [hobj, hw0, ← e1] at h6;exact am (dB (g := g) (σ' := iv σ t) (t' := { t with at' := 21 }) (k := { k with a := 21, obj := t.obj, w := t.w }) (by simp only [ap, hat]) (by simp [iA, hcode]) (aw (σ := σ) hg (by simp) (jq σ t)) h6.to)
theorem ajX (S : SOk σ) (T : ij σ t) (hat : t.at' = 11) : Sp e6 [vp x, vi now] (xP x P σ t) (fun _ : Unit => vb (ap σ t now).2.2) (fun _ => xQ x P (ap σ t now)) := by
 have hN : σ.μ.N < 1099511627000 := by have := S.N; omega
 refine aO fun R H h => ?_;obtain ⟨k, g, hR, hg, h0⟩ := cU h;have hl := hg.1;simp only [iA, hat] at hR;obtain ⟨ha, hobj, hw0, hcode⟩ := hR;have ho := T.obj (.inl (by omega))
 have hob : k.obj < σ.obs.length := by omega
 obtain ⟨b, hb⟩ : ∃ b, g.rp[k.obj]? = some b := ⟨_, cB (by omega)⟩;refine bW x P g σ t k now S T (by omega) h0 fun b1 H1 h1 => ?_;refine apA (by omega) ?_;refine aa (bg (by omega)) ?_;refine ah (ww ..) ?_;refine gs ?_;refine af h1 (jQ x P g σ t k hl b hob hb) fun _ H2 h2 => ?_;refine bC ae ?_;refine aV h2 rfl ?_;refine aI h1 h2 (by rfl) ?_;refine af h2 (zK x P t k (by rw [hw0]; exact T.w)) fun _ H3 h3 => ?_;refine aI h3 h2 (by rfl) ?_;have hwc := dZ k.w;refine af h3 (kR (p := P) (μ' := (σ.μ.acc t.who 2 (15, (k.obj : Int), ((aG k.w % (az σ k.obj).length : Nat) : Int))).put (15, (k.obj : Int), ((aG k.w % (az σ k.obj).length : Nat) : Int)) (aG k.w + 1)) (by simp) hl hob hb (HF g.m k.obj b (az σ k.obj) σ.μ t.who (aG k.w) (by omega) (S.cells _ hob) hN)) fun _ H4 h4 => ?_;rw [hobj, hw0] at h4;exact am (Hx (g := g) (k := k) (σ' := B1 σ t) (t' := t) (by simp only [ap, hat]) hcode (aw (σ := σ) hg (by simp) rfl) h4.to)
theorem ajY (S : SOk σ) (T : ij σ t) (hat : t.at' = 12) : Sp e6 [vp x, vi now] (xP x P σ t) (fun _ : Unit => vb (ap σ t now).2.2) (fun _ => xQ x P (ap σ t now)) := by
 have hN : σ.μ.N < 1099511627000 := by have := S.N; omega
 refine aO fun R H h => ?_;obtain ⟨k, g, hR, hg, h0⟩ := cU h;have hl := hg.1;simp only [iA, hat] at hR;obtain ⟨ha, hobj, hw0⟩ := hR;have ho := T.obj (.inl (by omega))
 have hob : k.obj < σ.obs.length := by omega
 obtain ⟨b, hb⟩ : ∃ b, g.rp[k.obj]? = some b := ⟨_, cB (by omega)⟩;refine bW x P g σ t k now S T (by omega) h0 fun b1 H1 h1 => ?_;refine apA (by omega) ?_;refine aa (aE (by omega)) ?_;refine ah (ww ..) ?_;refine gs ?_;refine aa (bg (by omega)) ?_;refine ah (GP ..) ?_;refine gs ?_;refine ak h1 ae rfl ?_;refine ak h1 ae rfl ?_;refine af h1 (zP (p := P) (g := g) (σ := σ) (μ' := σ.μ.cnt t.who (3, 0, 0) 4294967296) (L := σ.μ.N) (by simp) (M1 g.ib g.m σ.c.sh σ.nx σ.μ.N σ.μ t.who hN)) fun _ H2 h2 => ?_;refine bk h2 ae rfl rfl fun H3 h3 => ?_;refine ah (cq ..) ?_;exact am (dB (g := g) (σ' := σ.mem (σ.μ.cnt t.who (3, 0, 0) 4294967296)) (t' := { t with at' := 13 }) (k := { k with a := 13 }) (by simp only [ap, hat]) (by simp [iA, hobj, hw0]) (aw (σ := σ) hg (by simp) rfl) h3.to)
theorem aj1 (S : SOk σ) (T : ij σ t) (hat : t.at' = 15) : Sp e6 [vp x, vi now] (xP x P σ t) (fun _ : Unit => vb (ap σ t now).2.2) (fun _ => xQ x P (ap σ t now)) := by
 have hN : σ.μ.N < 1099511627000 := by have := S.N; omega
 refine aO fun R H h => ?_;obtain ⟨k, g, hR, hg, h0⟩ := cU h;have hl := hg.1;simp only [iA, hat] at hR;obtain ⟨ha, hobj⟩ := hR;have ho := T.obj (.inl (by omega))
 have hob : k.obj < σ.obs.length := by omega
 obtain ⟨b, hb⟩ : ∃ b, g.rp[k.obj]? = some b := ⟨_, cB (by omega)⟩;refine bW x P g σ t k now S T (by omega) h0 fun b1 H1 h1 => ?_;refine ab4 (by omega) ?_;refine aa (bg (by omega)) ?_;refine gs ?_;refine ah (nK ..) ?_;refine gs ?_;refine oZ ?_;refine bm (fun r => MB _ _ H1) ?_;refine ah (ui ..) ?_;refine ak h1 ae rfl ?_;refine ah (uj ..) ?_;refine aa (bg (by omega)) ?_;refine gs ?_;refine ak h1 ae rfl ?_;refine ak h1 ae rfl ?_;refine af h1 (qM P g σ t.who S.N) fun _ H2 h2 => ?_;refine bk h2 ae rfl rfl fun H3 h3 => ?_;refine bk h3 ae rfl rfl fun H4 h4 => ?_;refine ak h4 ae rfl ?_;refine aa (JB 2 (by omega)) ?_
 by_cases hw : σ.μ.V (2, 0, 0) % 2 = 1
 ·refine aa (bg (show ((σ.μ.V (2, 0, 0) % 2 : Nat) : Int) = 1 by omega)) ?_
  refine gs ?_;refine bk h4 ae rfl rfl fun H5 h5 => ?_;refine ah (kw ..) ?_;exact am (dB (g := g) (σ' := eD σ t) (t' := { t with at' := 7, q := σ.μ.V (2, 0, 0) }) (k := { k with a := 7, q := σ.μ.V (2, 0, 0) }) (by simp only [ap, hat]; rw [if_pos hw]) (by simp [iA, hobj]) (aw (σ := σ) hg (by simp) rfl) h5.to)
 ·refine aa (aE (show ¬ ((σ.μ.V (2, 0, 0) % 2 : Nat) : Int) = 1 by omega)) ?_
  refine gs ?_;refine ah (kw ..) ?_;exact am (dB (g := g) (σ' := eD σ t) (t' := { t with at' := 16, q := σ.μ.V (2, 0, 0) }) (k := { k with a := 16, q := σ.μ.V (2, 0, 0) }) (by simp only [ap, hat]; rw [if_neg hw]) (by simp [iA, hobj]) (aw (σ := σ) hg (by simp) rfl) h4.to)
theorem aj2 (S : SOk σ) (T : ij σ t) (hat : t.at' = 16) : Sp e6 [vp x, vi now] (xP x P σ t) (fun _ : Unit => vb (ap σ t now).2.2) (fun _ => xQ x P (ap σ t now)) := by
 have hN : σ.μ.N < 1099511627000 := by have := S.N; omega
 refine aO fun R H h => ?_;obtain ⟨k, g, hR, hg, h0⟩ := cU h;have hl := hg.1;simp only [iA, hat] at hR;obtain ⟨ha, hobj, hq⟩ := hR;have ho := T.obj (.inl (by omega))
 have hob : k.obj < σ.obs.length := by omega
 obtain ⟨b, hb⟩ : ∃ b, g.rp[k.obj]? = some b := ⟨_, cB (by omega)⟩;refine bW x P g σ t k now S T (by omega) h0 fun b1 H1 h1 => ?_;refine ab4 (by omega) ?_;refine aa (aE (by omega)) ?_;refine gs ?_;refine aa (bg (by omega)) ?_;refine gs ?_;refine ah (nK ..) ?_;refine gs ?_;refine oZ ?_;refine bm (fun r => MB _ _ H1) ?_;refine ah (ui ..) ?_;refine ak h1 ae rfl ?_;refine ah (uj ..) ?_;refine aa (aE (by omega)) ?_;refine gs ?_;refine aa (bg (by omega)) ?_;refine gs ?_;refine bk h1 ae rfl rfl fun H2 h2 => ?_;refine af h2 (Ef x P g σ t { k with a := 17 } S hl b hob hb) fun _ H3 h3 => ?_;dsimp only at h3;rw [hobj] at h3
 by_cases hw : aN (σ.μ.V (11, (t.obj : Int), 0)) = 2
 ·refine aa (bg (by rw [hobj]; exact hw)) ?_
  refine gs ?_;refine bk h3 ae rfl rfl fun H4 h4 => ?_;refine ah (kw ..) ?_;exact am (dB (g := g) (σ' := dg σ t) (t' := { t with at' := 3, w := σ.μ.V (11, (t.obj : Int), 0) }) (k := { k with a := 3, obj := t.obj, w := σ.μ.V (11, (t.obj : Int), 0) }) (by simp only [ap, hat]; rw [if_pos hw]) (by simp [iA]) (aw (σ := σ) hg (by simp) rfl) h4.to)
 ·refine aa (aE (by rw [hobj]; exact hw)) ?_
  refine gs ?_;refine ah (kw ..) ?_;exact am (dB (g := g) (σ' := dg σ t) (t' := { t with at' := 17, w := σ.μ.V (11, (t.obj : Int), 0) }) (k := { k with a := 17, obj := t.obj, w := σ.μ.V (11, (t.obj : Int), 0) }) (by simp only [ap, hat]; rw [if_neg hw]) (by simp [iA, hq]) (aw (σ := σ) hg (by simp) rfl) h3.to)
theorem aj3 (S : SOk σ) (T : ij σ t) (hat : t.at' = 17) : Sp e6 [vp x, vi now] (xP x P σ t) (fun _ : Unit => vb (ap σ t now).2.2) (fun _ => xQ x P (ap σ t now)) := by
 have hN : σ.μ.N < 1099511627000 := by have := S.N; omega
 refine aO fun R H h => ?_;obtain ⟨k, g, hR, hg, h0⟩ := cU h;have hl := hg.1;simp only [iA, hat] at hR;obtain ⟨ha, hobj, hw0, hq⟩ := hR;have ho := T.obj (.inl (by omega))
 have hob : k.obj < σ.obs.length := by omega
 obtain ⟨b, hb⟩ : ∃ b, g.rp[k.obj]? = some b := ⟨_, cB (by omega)⟩;refine bW x P g σ t k now S T (by omega) h0 fun b1 H1 h1 => ?_;refine ab4 (by omega) ?_;refine aa (aE (by omega)) ?_;refine gs ?_;refine aa (aE (by omega)) ?_;refine gs ?_;refine aa (bg (by omega)) ?_;refine gs ?_;refine ah (nK ..) ?_;refine gs ?_;refine oZ ?_;refine bm (fun r => MB _ _ H1) ?_;refine ah (ui ..) ?_;refine ak h1 ae rfl ?_;refine ah (uj ..) ?_;refine aa (aE (by omega)) ?_;refine gs ?_;refine aa (aE (by omega)) ?_;refine gs ?_;refine aa (bg (by omega)) ?_;refine gs ?_;refine af h1 (jQ x P g σ t k hl b hob hb) fun _ H2 h2 => ?_;refine bC ae ?_;refine aV h2 rfl ?_;refine aI h1 h2 (by rfl) ?_;refine af h2 (kR (p := P) (μ' := σ.μ.acc t.who 1 (12, (k.obj : Int), 0)) (by simp) hl hob hb (HE g.m k.obj b (az σ k.obj) σ.μ t.who hN)) fun _ H3 h3 => ?_;refine bk h3 ae rfl rfl fun H4 h4 => ?_;refine bk h4 ae rfl rfl fun H5 h5 => ?_;refine bk h5 ae rfl rfl fun H6 h6 => ?_;refine af h6 (jQ x P g (σ.mem (σ.μ.acc t.who 1 (12, (k.obj : Int), 0))) t { k with h := σ.μ.V (12, (k.obj : Int), 0), mark := now, a := 18 } hl b hob hb) fun _ H7 h7 => ?_;refine bC ae ?_;refine aV h7 rfl ?_;refine aI h6 h7 (by rfl) ?_;refine bC ae ?_;refine aV h7 rfl ?_;refine aI h6 h7 (by rfl) ?_;refine af h7 (M6 (p := P) (σ := σ.mem (σ.μ.acc t.who 1 (12, (k.obj : Int), 0))) hl hob hb (HD g.m k.obj b (az σ k.obj) k.w (σ.μ.V (12, (k.obj : Int), 0)) (by rw [hw0]; exact T.w) (S.cells _ hob).2)) fun _ H8 h8 => ?_;rw [hobj, hw0] at h8;rw [hobj, hw0];cases hf : n6 t.w (σ.μ.V (12, (t.obj : Int), 0)) (az σ t.obj).length
 ·refine gs ?_
  rw [Bool.not_false];refine gs ?_;refine bk h8 ae rfl rfl fun H9 h9 => ?_;refine ah (kw ..) ?_;exact am (dB (g := g) (σ' := jo σ t) (t' := { t with at' := 7 }) (k := { k with a := 7, obj := t.obj, w := t.w, h := σ.μ.V (12, (t.obj : Int), 0), mark := now }) (by simp only [ap, hat, jU, hf]; rfl) (by simp [iA]) (aw (σ := σ) hg (by simp) rfl) h9.to)
 ·refine gs ?_
  rw [Bool.not_true];refine gs ?_;refine ah (kw ..) ?_;exact am (dB (g := g) (σ' := jo σ t) (t' := { t with at' := 18, mark := now }) (k := { k with a := 18, obj := t.obj, w := t.w, h := σ.μ.V (12, (t.obj : Int), 0), mark := now }) (by simp only [ap, hat, jU, hf]; rfl) (by simp [iA, hq]) (aw (σ := σ) hg (by simp) rfl) h8.to)
theorem aj4 (S : SOk σ) (T : ij σ t) (hat : t.at' = 18) : Sp e6 [vp x, vi now] (xP x P σ t) (fun _ : Unit => vb (ap σ t now).2.2) (fun _ => xQ x P (ap σ t now)) := by
 have hN : σ.μ.N < 1099511627000 := by have := S.N; omega
 refine aO fun R H h => ?_;obtain ⟨k, g, hR, hg, h0⟩ := cU h;have hl := hg.1;simp only [iA, hat] at hR;obtain ⟨ha, hobj, hq, hm⟩ := hR;have ho := T.obj (.inl (by omega))
 have hob : k.obj < σ.obs.length := by omega
 obtain ⟨b, hb⟩ : ∃ b, g.rp[k.obj]? = some b := ⟨_, cB (by omega)⟩;refine bW x P g σ t k now S T (by omega) h0 fun b1 H1 h1 => ?_;refine ab4 (by omega) ?_;refine aa (aE (by omega)) ?_;refine gs ?_;refine aa (aE (by omega)) ?_;refine gs ?_;refine aa (aE (by omega)) ?_;refine gs ?_;refine aa (bg (by omega)) ?_;refine ah (nK ..) ?_;refine gs ?_;refine oZ ?_;refine bm (fun r => MB _ _ H1) ?_;refine ah (ui ..) ?_;refine ak h1 ae rfl ?_;refine ah (uj ..) ?_;refine aa (aE (by omega)) ?_;refine gs ?_;refine aa (aE (by omega)) ?_;refine gs ?_;refine aa (aE (by omega)) ?_;refine gs ?_;refine aa (bg (by omega)) ?_;refine gs ?_;refine ak h1 ae rfl ?_;refine ak h1 ae rfl ?_;refine af h1 (qM P g σ t.who S.N) fun _ H2 h2 => ?_;refine bC ae ?_;refine aV h2 rfl ?_;refine aI h1 h2 (by rfl) ?_
 by_cases hw : σ.μ.V (2, 0, 0) = t.q
 ·refine aa (bg (show ((σ.μ.V (2, 0, 0) : Nat) : Int) = (k.q : Int) by omega)) ?_
  refine gs ?_;refine ak h2 ae rfl ?_;rw [hm];refine af h2 (jP x P g (eD σ t) t k (aw (σ := σ) hg (by simp) rfl) t.mark 9 (by have := S.N; show σ.μ.N + 2 < _; omega) S.pts) fun v H3 h3 => ?_;exact am (Hx (g := { g with pv := v }) (k := { k with code := 9 }) (σ' := (eD σ t).note t.mark t.who 9) (t' := { t with code := 9 }) (by simp only [ap, hat]; rw [if_pos hw]) rfl (dK (σ := σ) hg (by simp) rfl) h3.to)
 ·refine aa (aE (show ¬ ((σ.μ.V (2, 0, 0) : Nat) : Int) = (k.q : Int) by omega)) ?_
  refine gs ?_;refine bk h2 ae rfl rfl fun H3 h3 => ?_;refine ah (kw ..) ?_;exact am (dB (g := g) (σ' := eD σ t) (t' := { t with at' := 7 }) (k := { k with a := 7 }) (by simp only [ap, hat]; rw [if_neg hw]) (by simp [iA, hobj]) (aw (σ := σ) hg (by simp) rfl) h3.to)
theorem aj5 (S : SOk σ) (T : ij σ t) (hat : t.at' = 20) : Sp e6 [vp x, vi now] (xP x P σ t) (fun _ : Unit => vb (ap σ t now).2.2) (fun _ => xQ x P (ap σ t now)) := by
 have hN : σ.μ.N < 1099511627000 := by have := S.N; omega
 refine aO fun R H h => ?_;obtain ⟨k, g, hR, hg, h0⟩ := cU h;have hl := hg.1;simp only [iA, hat] at hR;obtain ⟨ha, hobj⟩ := hR;have ho := T.obj (.inl (by omega))
 have hob : k.obj < σ.obs.length := by omega
 obtain ⟨b, hb⟩ : ∃ b, g.rp[k.obj]? = some b := ⟨_, cB (by omega)⟩;refine bW x P g σ t k now S T (by omega) h0 fun b1 H1 h1 => ?_;refine chw (by omega) ?_;refine oZ ?_;refine bm (fun r => Ba _ _ H1) ?_;refine ak h1 ae rfl ?_;refine ah (mG ..) ?_;refine ak h1 ae rfl ?_;refine ah (mI ..) ?_;refine aa (bg (by omega)) ?_;refine gs ?_;refine ak h1 ae rfl ?_;refine ak h1 ae rfl ?_;refine af h1 (zP (p := P) (g := g) (σ := σ) (μ' := σ.μ.cnt t.who (3, 0, 0) 1) (L := σ.μ.N) (by simp) (Hy g.ib g.m σ.c.sh σ.nx σ.μ.N σ.μ t.who hN)) fun _ H2 h2 => ?_;refine bk h2 ae rfl rfl fun H3 h3 => ?_;refine ah (mH ..) ?_;exact am (dB (g := g) (σ' := σ.mem (σ.μ.cnt t.who (3, 0, 0) 1)) (t' := { t with at' := 7 }) (k := { k with a := 7 }) (by simp only [ap, hat]) (by simp [iA, hobj]) (aw (σ := σ) hg (by simp) rfl) h3.to)
theorem aj6 (S : SOk σ) (T : ij σ t) (hat : t.at' = 21) : Sp e6 [vp x, vi now] (xP x P σ t) (fun _ : Unit => vb (ap σ t now).2.2) (fun _ => xQ x P (ap σ t now)) := by
 have hN : σ.μ.N < 1099511627000 := by have := S.N; omega
 refine aO fun R H h => ?_;obtain ⟨k, g, hR, hg, h0⟩ := cU h;have hl := hg.1;simp only [iA, hat] at hR;obtain ⟨ha, hobj, hw0, hcode⟩ := hR;have ho := T.obj (.inl (by omega))
 have hob : k.obj < σ.obs.length := by omega
 obtain ⟨b, hb⟩ : ∃ b, g.rp[k.obj]? = some b := ⟨_, cB (by omega)⟩;refine bW x P g σ t k now S T (by omega) h0 fun b1 H1 h1 => ?_;refine chw (by omega) ?_;refine oZ ?_;refine bm (fun r => Ba _ _ H1) ?_;refine ak h1 ae rfl ?_;refine ah (mG ..) ?_;refine ak h1 ae rfl ?_;refine ah (mI ..) ?_;refine aa (aE (by omega)) ?_;refine gs ?_;refine aa (bg (by omega)) ?_;refine gs ?_;refine af h1 (jQ x P g σ t k hl b hob hb) fun _ H2 h2 => ?_;refine bC ae ?_;refine aV h2 rfl ?_;refine aI h1 h2 (by rfl) ?_;refine af h2 (zK x P t k (by rw [hw0]; exact T.w)) fun _ H3 h3 => ?_;refine aI h3 h2 (by rfl) ?_;have hwc := dZ k.w;refine af h3 (kR (p := P) (μ' := (σ.μ.acc t.who 2 (15, (k.obj : Int), ((aG k.w % (az σ k.obj).length : Nat) : Int))).put (15, (k.obj : Int), ((aG k.w % (az σ k.obj).length : Nat) : Int)) (aG k.w + 1)) (by simp) hl hob hb (HF g.m k.obj b (az σ k.obj) σ.μ t.who (aG k.w) (by omega) (S.cells _ hob) hN)) fun _ H4 h4 => ?_;refine bk h4 ae rfl rfl fun H5 h5 => ?_;refine ah (mH ..) ?_;rw [hobj, hw0] at h5;exact am (dB (g := g) (σ' := B1 σ t) (t' := { t with at' := 22 }) (k := { k with a := 22, obj := t.obj, w := t.w }) (by simp only [ap, hat]) (by simp [iA, hcode]) (aw (σ := σ) hg (by simp) rfl) h5.to)
theorem aj7 (S : SOk σ) (T : ij σ t) (hat : t.at' = 22) : Sp e6 [vp x, vi now] (xP x P σ t) (fun _ : Unit => vb (ap σ t now).2.2) (fun _ => xQ x P (ap σ t now)) := by
 have hN : σ.μ.N < 1099511627000 := by have := S.N; omega
 refine aO fun R H h => ?_;obtain ⟨k, g, hR, hg, h0⟩ := cU h;have hl := hg.1;simp only [iA, hat] at hR;obtain ⟨ha, hobj, hcode⟩ := hR;have ho := T.obj (.inl (by omega))
 have hob : k.obj < σ.obs.length := by omega
 obtain ⟨b, hb⟩ : ∃ b, g.rp[k.obj]? = some b := ⟨_, cB (by omega)⟩;refine bW x P g σ t k now S T (by omega) h0 fun b1 H1 h1 => ?_;refine chw (by omega) ?_;refine oZ ?_;refine bm (fun r => Ba _ _ H1) ?_;refine ak h1 ae rfl ?_;refine ah (mG ..) ?_;refine ak h1 ae rfl ?_;refine ah (mI ..) ?_;refine aa (aE (by omega)) ?_;refine gs ?_;refine aa (aE (by omega)) ?_;refine gs ?_;refine aa (bg (by omega)) ?_;refine gs ?_;refine ak h1 ae rfl ?_;refine ak h1 ae rfl ?_;refine af h1 (zP (p := P) (g := g) (σ := σ) (μ' := σ.μ.acc t.who 1 (9, t.s, 0)) (L := σ.μ.N) (by simp) (SC g.ib g.m σ.c.sh σ.nx σ.μ.N σ.μ t.who t.s hN)) fun _ H2 h2 => ?_;refine bk h2 ae rfl rfl fun H3 h3 => ?_;refine bk h3 ae rfl rfl fun H4 h4 => ?_;refine ah (mH ..) ?_;exact am (dB (g := g) (σ' := σ.mem (σ.μ.acc t.who 1 (9, t.s, 0))) (t' := { t with at' := 23, top := σ.μ.V (9, t.s, 0) }) (k := { k with a := 23, top := σ.μ.V (9, t.s, 0) }) (by simp only [ap, hat]) (by simp [iA, hobj, hcode]) (aw (σ := σ) hg (by simp) rfl) h4.to)
theorem aj8 (S : SOk σ) (T : ij σ t) (hat : t.at' = 23) : Sp e6 [vp x, vi now] (xP x P σ t) (fun _ : Unit => vb (ap σ t now).2.2) (fun _ => xQ x P (ap σ t now)) := by
 have hN : σ.μ.N < 1099511627000 := by have := S.N; omega
 refine aO fun R H h => ?_;obtain ⟨k, g, hR, hg, h0⟩ := cU h;have hl := hg.1;simp only [iA, hat] at hR;obtain ⟨ha, hobj, htop, hcode⟩ := hR;have ho := T.obj (.inl (by omega))
 have hob : k.obj < σ.obs.length := by omega
 obtain ⟨b, hb⟩ : ∃ b, g.rp[k.obj]? = some b := ⟨_, cB (by omega)⟩;refine bW x P g σ t k now S T (by omega) h0 fun b1 H1 h1 => ?_;refine chw (by omega) ?_;refine oZ ?_;refine bm (fun r => Ba _ _ H1) ?_;refine ak h1 ae rfl ?_;refine ah (mG ..) ?_;refine ak h1 ae rfl ?_;refine ah (mI ..) ?_;refine aa (aE (by omega)) ?_;refine gs ?_;refine aa (aE (by omega)) ?_;refine gs ?_;refine aa (aE (by omega)) ?_;refine gs ?_;refine aa (bg (by omega)) ?_;refine gs ?_;refine ak h1 ae rfl ?_;refine ak h1 ae rfl ?_;refine ak h1 ae rfl ?_;refine ak h1 ae rfl ?_;refine af h1 (zP (p := P) (g := g) (σ := σ) (μ' := σ.μ.acc t.who 6 (14, (k.obj : Int), 0)) (L := σ.μ.N + 1) (by simp) (Pd g.ib g.m σ.c.sh σ.nx σ.μ.N σ.μ t.who k.obj k.top (by have := S.N; omega) hN)) fun _ H2 h2 => ?_;refine bk h2 ae rfl rfl fun H3 h3 => ?_;refine ah (mH ..) ?_;rw [hobj, htop] at h3;exact am (dB (g := g) (σ' := { σ with μ := σ.μ.acc t.who 6 (14, (t.obj : Int), 0), nx := fun k => if k = (t.obj : Int) then some t.top else σ.nx k }) (t' := { t with at' := 24 }) (k := { k with a := 24, obj := t.obj, top := t.top }) (by simp only [ap, hat]) (by simp [iA, hcode]) (aw (σ := σ) hg (by simp) rfl) h3.to)
theorem aj9 (S : SOk σ) (T : ij σ t) (hat : t.at' = 24) : Sp e6 [vp x, vi now] (xP x P σ t) (fun _ : Unit => vb (ap σ t now).2.2) (fun _ => xQ x P (ap σ t now)) := by
 have hN : σ.μ.N < 1099511627000 := by have := S.N; omega
 refine aO fun R H h => ?_;obtain ⟨k, g, hR, hg, h0⟩ := cU h;have hl := hg.1;simp only [iA, hat] at hR;obtain ⟨ha, hobj, htop, hcode⟩ := hR;have ho := T.obj (.inl (by omega))
 have hob : k.obj < σ.obs.length := by omega
 obtain ⟨b, hb⟩ : ∃ b, g.rp[k.obj]? = some b := ⟨_, cB (by omega)⟩;refine bW x P g σ t k now S T (by omega) h0 fun b1 H1 h1 => ?_;refine chw (by omega) ?_;refine oZ ?_;refine bm (fun r => Ba _ _ H1) ?_;refine ak h1 ae rfl ?_;refine ah (mG ..) ?_;refine ak h1 ae rfl ?_;refine ah (mI ..) ?_;refine aa (aE (by omega)) ?_;refine gs ?_;refine aa (aE (by omega)) ?_;refine gs ?_;refine aa (aE (by omega)) ?_;refine gs ?_;refine aa (aE (by omega)) ?_;refine gs ?_;refine aa (bg (by omega)) ?_;refine gs ?_;refine bk h1 ae rfl rfl fun H2 h2 => ?_;refine ak h2 ae rfl ?_;refine ak h2 ae rfl ?_;refine ak h2 ae rfl ?_;refine ak h2 ae rfl ?_;refine af h2 (zP (p := P) (g := g) (σ := σ) (μ' := σ.μ.swp t.who (9, t.s, 0) k.top (k.obj + 1)) (L := σ.μ.N) (by simp) (Pe g.ib g.m σ.c.sh σ.nx σ.μ.N σ.μ t.who t.s k.top k.obj (by have := S.obs; omega) hN)) fun _ H3 h3 => ?_;rw [hobj, htop] at h3;rw [htop]
 by_cases hw : σ.μ.V (9, t.s, 0) = t.top
 ·rw [eu hw]
  refine gs ?_;refine bk h3 ae rfl rfl fun H4 h4 => ?_;refine ah (mH ..) ?_;exact am (dB (g := g) (σ' := σ.mem (σ.μ.swp t.who (9, t.s, 0) t.top (t.obj + 1))) (t' := { t with at' := 25 }) (k := { k with a := 25, obj := t.obj, top := t.top }) (by simp only [ap, hat]; rw [if_pos hw]) (by simp [iA, hcode]) (aw (σ := σ) hg (by simp) rfl) h4.to)
 ·rw [d4 hw]
  refine gs ?_;refine ah (mH ..) ?_;exact am (dB (g := g) (σ' := σ.mem (σ.μ.swp t.who (9, t.s, 0) t.top (t.obj + 1))) (t' := { t with at' := 22 }) (k := { k with a := 22, obj := t.obj, top := t.top }) (by simp only [ap, hat]; rw [if_neg hw]) (by simp [iA, hcode]) (aw (σ := σ) hg (by simp) rfl) h3.to)
theorem akA (S : SOk σ) (T : ij σ t) (hat : t.at' = 25) : Sp e6 [vp x, vi now] (xP x P σ t) (fun _ : Unit => vb (ap σ t now).2.2) (fun _ => xQ x P (ap σ t now)) := by
 have hN : σ.μ.N < 1099511627000 := by have := S.N; omega
 refine aO fun R H h => ?_;obtain ⟨k, g, hR, hg, h0⟩ := cU h;have hl := hg.1;simp only [iA, hat] at hR;obtain ⟨ha, hcode⟩ := hR;refine bW x P g σ t k now S T (by omega) h0 fun b1 H1 h1 => ?_;refine chw (by omega) ?_;refine oZ ?_;refine bm (fun r => Ba _ _ H1) ?_;refine ak h1 ae rfl ?_;refine ah (mG ..) ?_;refine ak h1 ae rfl ?_;refine ah (mI ..) ?_;refine aa (aE (by omega)) ?_;refine gs ?_;refine aa (aE (by omega)) ?_;refine gs ?_;refine aa (aE (by omega)) ?_;refine gs ?_;refine aa (aE (by omega)) ?_;refine gs ?_;refine aa (aE (by omega)) ?_;refine gs ?_;refine aa (bg (by omega)) ?_;refine gs ?_;refine ak h1 ae rfl ?_;refine ak h1 ae rfl ?_;refine af h1 (zP (p := P) (g := g) (σ := σ) (μ' := σ.μ.cnt t.who (3, 0, 0) 1) (L := σ.μ.N) (by simp) (Hy g.ib g.m σ.c.sh σ.nx σ.μ.N σ.μ t.who hN)) fun _ H2 h2 => ?_;exact am (Hx (g := g) (k := k) (σ' := σ.mem (σ.μ.cnt t.who (3, 0, 0) 1)) (t' := t) (by simp only [ap, hat]) hcode (aw (σ := σ) hg (by simp) rfl) h2.to)
theorem ajV {R : SP} {H1 : AH} {b1 : Nat} {sv : Value} (g : XIds) (k : Xk) (S : SOk σ) (T : ij σ t) (hg : e9 g σ) (ha : k.a = 2) (hI : k.I = t.i) (hh : k.hit = false) (hi : (t.i : Int) < σ.c.sl)
 (h1 : ac (blk b1 (.cells false [vi t.x.flow, vi t.x.a, vi t.x.b]) * (xB x P t k * (au P g σ * R))) H1) :
 wp (RW (vp x) (vi now) (vb false) (vp P) sv (vp b1) (vi k.a) (vb true) H1) fun v' H' => ∃ y : Unit, v' = vb (gA σ t).2.2 ∧ ac (xQ x P (gA σ t) * R) H' := by
 refine ah (pW ..) ?_;refine gs ?_;refine af h1 (Wt x P g σ t k S T hI hi) fun k2 H2 h2 => ?_;rw [ai, ac.pu] at h2;obtain ⟨hX, h2⟩ := h2;obtain ⟨x1, x2, x3, x4, x5, x6, x7, x8⟩ := hX;refine aa (v := vb (aL σ t).found) rfl ?_;refine aa (v := vb (!(aL σ t).found && cn σ (aL σ t))) rfl ?_;cases hf : (aL σ t).found
 ·obtain ⟨y1, y2⟩ := x8 hf
  refine gs ?_;rw [Bool.not_false, Bool.true_and];cases hla : cn σ (aL σ t)
  ·refine gs ?_
   refine ah (cq ..) ?_;exact am (dB (g := g) (k := k2) (σ' := aY σ t) (t' := { aL σ t with at' := 2 }) (by simp only [gA, hf, hla]; rfl) (by simp [iA, x1, ha, y1, y2, hh, hI, aL]) (aw (σ := σ) hg (by simp) rfl) (show ac (xB x P t k2 * (au P g (aY σ t) * R)) H2 from h2.to))
  ·refine gs ?_
   refine bk h2 ae rfl rfl fun H3 h3 => ?_;refine ah (cq ..) ?_;exact am (dB (g := g) (k := { k2 with a := 3 }) (σ' := aY σ t) (t' := { aL σ t with at' := 3 }) (by simp only [gA, hf, hla]; rfl) (by simp [iA]) (aw (σ := σ) hg (by simp) rfl) (show ac (xB x P t { k2 with a := 3 } * (au P g (aY σ t) * R)) H3 from h3.to))
 ·obtain ⟨y1, y2⟩ := x7 hf
  refine gs ?_;refine bk h2 ae rfl rfl fun H3 h3 => ?_;refine ah (cq ..) ?_;exact am (dB (g := g) (k := { k2 with a := 6 }) (σ' := aY σ t) (t' := { aL σ t with at' := 6 }) (by simp only [gA, hf]; rfl) (by simp [iA, y2]) (aw (σ := σ) hg (by simp) rfl) (show ac (xB x P t { k2 with a := 6 } * (au P g (aY σ t) * R)) H3 from h3.to))
theorem anQ (S : SOk σ) (T : ij σ t) (hat : t.at' = 2) : Sp e6 [vp x, vi now] (xP x P σ t) (fun _ : Unit => vb (ap σ t now).2.2) (fun _ => xQ x P (ap σ t now)) := by
 have hN : σ.μ.N < 1099511627000 := by have := S.N; omega
 refine aO fun R H h => ?_;obtain ⟨k, g, hR, hg, h0⟩ := cU h;have hl := hg.1;simp only [iA, hat] at hR;obtain ⟨ha, hI, hh⟩ := hR;have hi := T.i (by omega) (by omega)
 have hs : ap σ t now = gA σ t := by simp only [ap, hat, gA]
 rw [hs];refine bW x P g σ t k now S T (by omega) h0 fun b1 H1 h1 => ?_;refine ah (mF ..) ?_;refine aa (bg (by omega)) ?_;exact ajV x P σ t now g k S T hg ha hI hh hi h1
theorem anS (S : SOk σ) (T : ij σ t) (hat : t.at' = 4) : Sp e6 [vp x, vi now] (xP x P σ t) (fun _ : Unit => vb (ap σ t now).2.2) (fun _ => xQ x P (ap σ t now)) := by
 have hN : σ.μ.N < 1099511627000 := by have := S.N; omega
 refine aO fun R H h => ?_;obtain ⟨k, g, hR, hg, h0⟩ := cU h;have hl := hg.1;simp only [iA, hat] at hR;obtain ⟨ha, hI, hh⟩ := hR;have hi := T.i (by omega) (by omega);refine bW x P g σ t k now S T (by omega) h0 fun b1 H1 h1 => ?_;refine ah (mF ..) ?_;refine aa (aE (by omega)) ?_;refine ah (pW ..) ?_;refine gs ?_;refine aa (aE (by omega)) ?_;refine ah (qG ..) ?_;refine gs ?_;refine aa (bg (by omega)) ?_;refine ah (wo ..) ?_;refine gs ?_;refine af h1 (Wt x P g σ t k S T hI hi) fun k2 H2 h2 => ?_;rw [ai, ac.pu] at h2;obtain ⟨hX, h2⟩ := h2;obtain ⟨x1, x2, x3, x4, x5, x6, x7, x8⟩ := hX;refine aa (v := vb (aL σ t).found) rfl ?_;refine aa (v := vb (!(aL σ t).found && cn σ (aL σ t))) rfl ?_;cases hf : (aL σ t).found
 ·obtain ⟨y1, y2⟩ := x8 hf
  refine gs ?_;rw [Bool.not_false, Bool.true_and];cases hla : cn σ (aL σ t)
  ·refine gs ?_
   refine ah (cq ..) ?_;exact am (dB (g := g) (k := k2) (σ' := aY σ t) (t' := aL σ t) (by simp only [ap, hat, hf, hla]; rfl) (by simp [iA, x1, ha, y1, y2, hh, hI, aL, hat]) (aw (σ := σ) hg (by simp) rfl) (show ac (xB x P t k2 * (au P g (aY σ t) * R)) H2 from h2.to))
  ·refine gs ?_
   refine af h2 (jP x P g (aY σ t) t k2 (aw (σ := σ) hg (by simp) rfl) now 5 (by have := S.N; show σ.μ.N + 2 < _; omega) S.pts) fun v H3 h3 => ?_;refine bk h3 ae rfl rfl fun H4 h4 => ?_;refine ah (cq ..) ?_;exact am (dB (g := { g with pv := v }) (k := { k2 with a := 5, code := 5 }) (σ' := (aY σ t).note now t.who 5) (t' := { aL σ t with at' := 5, code := 5 }) (by simp only [ap, hat, hf, hla]; rfl) (by simp [iA, hf, y1, hh]) (dK (σ := σ) hg (by simp) rfl) (show ac (xB x P t { k2 with a := 5, code := 5 } * (au P { g with pv := v } ((aY σ t).note now t.who 5) * R)) H4 from h4.to))
 ·obtain ⟨y1, y2⟩ := x7 hf
  refine gs ?_;refine bk h2 ae rfl rfl fun H3 h3 => ?_;refine ah (cq ..) ?_;exact am (dB (g := g) (k := { k2 with a := 5 }) (σ' := aY σ t) (t' := { aL σ t with at' := 5 }) (by simp only [ap, hat, hf]; rfl) (by simp [iA, hf, y1, y2]) (aw (σ := σ) hg (by simp) rfl) (show ac (xB x P t { k2 with a := 5 } * (au P g (aY σ t) * R)) H3 from h3.to))
theorem anP (S : SOk σ) (T : ij σ t) (hat : t.at' = 0) : Sp e6 [vp x, vi now] (xP x P σ t) (fun _ : Unit => vb (ap σ t now).2.2) (fun _ => xQ x P (ap σ t now)) := by
 have hN : σ.μ.N < 1099511627000 := by have := S.N; omega
 refine aO fun R H h => ?_;obtain ⟨k, g, hR, hg, h0⟩ := cU h;have hl := hg.1;simp only [iA, hat] at hR;obtain ⟨ha, hI, hh⟩ := hR;have hi := T.i (by omega) (by omega);refine Pc x P g σ t k now S T h0 fun b1 H1 h1 => ?_;refine ah (Jw ..) ?_;refine ak h1 ae rfl ?_;refine aa (bg (by omega)) ?_;refine gs ?_
 have fin : ∀ code, fy t.x = some code → wp ((FF bE [vp x, vi now, vi code] H1).bind fun r125 => some ((vb true), r125.2)) fun v' H' => ∃ y : Unit, v' = vb (ap σ t now).2.2 ∧ ac (xQ x P (ap σ t now) * R) H' := by
  intro code hx;refine af h1 (jP x P g σ t k hg now code (by have := S.N; omega) S.pts) fun v H2 h2 => ?_;exact am (Hx (g := { g with pv := v }) (k := { k with code := code }) (σ' := σ.note now t.who code) (t' := { t with code := code }) (by simp only [ap, hat, hx]) rfl (dK (σ := σ) hg (bv _) rfl) h2.to)
 refine ak h1 (b7 (aR (aR bf))) rfl ?_
 by_cases ha1 : t.x.a < 1
 ·refine aa (cE ha1) ?_
  refine gs ?_;exact fin 3 (by rw [fy, if_pos (.inl ha1)])
 ·refine aa (bP ha1) ?_
  refine gs ?_;refine ak h1 (b7 (aR (aR bf))) rfl ?_;refine gs ?_
  by_cases ha2 : 65536 < t.x.a
  ·refine aa (pA ha2) ?_
   refine gs ?_;exact fin 3 (by rw [fy, if_pos (.inr ha2)])
  ·refine aa (fV ha2) ?_
   refine gs ?_;refine ak h1 (b7 (aR (aR bf))) rfl ?_
   by_cases hf : t.x.flow < 0
   ·refine aa (cE hf) ?_
    refine gs ?_;exact fin 5 (by rw [fy, if_neg (by omega), if_pos (.inl hf)])
   ·refine aa (bP hf) ?_
    refine gs ?_;refine ak h1 (b7 (aR (aR bf))) rfl ?_;refine gs ?_
    by_cases hf2 : 1048576 < t.x.flow
    ·refine aa (pA hf2) ?_
     refine gs ?_;exact fin 5 (by rw [fy, if_neg (by omega), if_pos (.inr hf2)])
    ·refine aa (fV hf2) ?_
     refine gs ?_
     have hx : fy t.x = none := by rw [fy, if_neg (by omega), if_neg (by omega)]
     have hs : ap σ t now = gA σ t := by simp only [ap, hat, hx, gA]
     rw [hs];refine bk h1 ae rfl rfl fun H2 h2 => ?_;refine ah (Jx ..) ?_;refine ak h2 ae rfl ?_;refine ah (mF ..) ?_;refine aa (bg (by omega)) ?_;exact ajV x P σ t now g { k with a := 2 } S T hg rfl hI hh hi h2.to
theorem aaV (S : SOk σ) (T : ij σ t) : Sp e6 [vp x, vi now] (xP x P σ t) (fun _ : Unit => vb (ap σ t now).2.2) (fun _ => xQ x P (ap σ t now)) := by
 rcases T.ats with hat | hat | hat | hat | hat | hat | hat | hat | hat | hat | hat | hat | hat | hat | hat | hat | hat | hat | hat | hat | hat | hat | hat | hat
 ·exact anP x P σ t now S T hat
 ·exact anQ x P σ t now S T hat
 ·exact anR x P σ t now S T hat
 ·exact anS x P σ t now S T hat
 ·exact anT x P σ t now S T hat
 ·exact anU x P σ t now S T hat
 ·exact anV x P σ t now S T hat
 ·exact anW x P σ t now S T hat
 ·exact anX x P σ t now S T hat
 ·exact ajW x P σ t now S T hat
 ·exact ajX x P σ t now S T hat
 ·exact ajY x P σ t now S T hat
 ·exact ajZ x P σ t now S T hat
 ·exact aj0 x P σ t now S T hat
 ·exact aj1 x P σ t now S T hat
 ·exact aj2 x P σ t now S T hat
 ·exact aj3 x P σ t now S T hat
 ·exact aj4 x P σ t now S T hat
 ·exact aj5 x P σ t now S T hat
 ·exact aj6 x P σ t now S T hat
 ·exact aj7 x P σ t now S T hat
 ·exact aj8 x P σ t now S T hat
 ·exact aj9 x P σ t now S T hat
 ·exact akA x P σ t now S T hat
end
end Go.Proofs.YtghoamdlcjdfjaaGreatDoor.Gst
