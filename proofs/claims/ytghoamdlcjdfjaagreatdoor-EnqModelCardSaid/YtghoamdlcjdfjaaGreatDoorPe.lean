/- Several texts in one. -/
import Derived.Test.YtghoamdlcjdfjaaGreatDoorPd
namespace Go.Proofs.YtghoamdlcjdfjaaGreatDoor.Gst
open Go Go.RowKit
set_option linter.unusedSimpArgs false
set_option linter.unusedVariables false
set_option maxHeartbeats 1000000
set_option synthInstance.maxSize 2000
set_option synthInstance.maxHeartbeats 400000
theorem nE {cl : TCls} {a b : Int} (h : b ≠ 0) : ap cl .rem (vi a) (vi b) = some (vi (a.tmod b)) := by
 simp only [ap, nI, if_true];rw [if_neg h]
theorem aiB {a b : Nat} : iv [vu a, vu b] = some (vu (max a b)) := by
 simp only [iv]
 congr 2
 split <;> omega
abbrev uk (x : Ob) : List Value := [vi x.flow, vi x.most, vu x.r]
instance : Enc uk 3 := ⟨fun _ => rfl, fun _ => rfl, by omega⟩
abbrev N0 (n : Nat) : List Value := [vu n]
instance : Enc N0 1 := ⟨fun _ => rfl, fun _ => rfl, by omega⟩
def iw : List (Int × Int) → Int → Int
 | [], _ => 0
 | p :: ps, who => if (ps.any fun q => q.1 == who) = true then iw ps who else if p.1 = who then p.2 else 0
def fU (l : List (Int × Int)) : List Int := l.flatMap fun p => [p.1, p.2]
def Gj (l : List (Int × Nat)) (k : Int) : Option Nat := (l.find? fun p => p.1 == k).map (·.2)
def xn (x : Pt) : List Pt → List Pt
 | [] => [x]
 | y :: l => if y.step ≤ x.step ∨ (l.any fun z => decide (z.step ≤ x.step)) = true then y :: xn x l else x :: y :: l
def bY (l : List Pt) : List Pt := l.foldl (fun acc x => xn x acc) []
def dk (m i rp : Nat) (cs : List Pk) : SP := ex fun cv : Value => blk rp (.cells false [vp m, vi i, vi cs.length, cv]) * ts 3 Pk.cells cv cs
def j0 (m : Nat) : Nat → List (Nat × List Pk) → SP
 | _, [] => emp
 | i, p :: ps => dk m i p.1 p.2 * j0 m (i + 1) ps
theorem MP (m : Nat) : ∀ (ps : List (Nat × List Pk)) (i : Nat) (q : Nat × List Pk), j0 m i (ps ++ [q]) = j0 m i ps * dk m (i + ps.length) q.1 q.2 := by
 intro ps
 induction ps with
 | nil => intro i q; show dk m i q.1 q.2 * emp = emp * dk m (i + 0) q.1 q.2; rw [j2, kR]; rfl
 | cons p ps ih =>
  intro i q;show dk m i p.1 p.2 * j0 m (i + 1) (ps ++ [q]) = dk m i p.1 p.2 * j0 m (i + 1) ps * _;rw [ih, ai, List.length_cons, show i + 1 + ps.length = i + (ps.length + 1) from by omega]
def jb (ib m : Nat) (sh : Int) (nx : Int → Option Nat) (L : Nat) : SP := ex fun g : Value × Value × List (Int × Nat) =>
 pu ((∀ k, Gj g.2.2 k = nx k) ∧ g.2.2.length ≤ L) * (blk ib (.cells false [vp m, vi sh, g.1, g.2.1]) * (ts 1 l5 g.1 (g.2.2.map (·.1)) * ts 1 N0 g.2.1 (g.2.2.map (·.2))))
theorem ph {ib m : Nat} {sh : Int} {nx : Int → Option Nat} {L : Nat} {R : SP} {H : AH} (h : ae (jb ib m sh nx L * R) H) :
 ∃ (kv nv : Value) (ns : List (Int × Nat)), ((∀ k, Gj ns k = nx k) ∧ ns.length ≤ L) ∧ ae (blk ib (.cells false [vp m, vi sh, kv, nv]) * (ts 1 l5 kv (ns.map (·.1)) * (ts 1 N0 nv (ns.map (·.2)) * R))) H := by
 obtain ⟨⟨kv, nv, ns⟩, h1⟩ := ae.ex.1 h;rw [ai, ae.pu] at h1;exact ⟨kv, nv, ns, h1.1, h1.2.to⟩
theorem jc {ib m : Nat} {sh : Int} {nx : Int → Option Nat} {L : Nat} {R : SP} {H : AH} {kv nv : Value} {ns : List (Int × Nat)} (hn : (∀ k, Gj ns k = nx k) ∧ ns.length ≤ L)
 (h : ae (blk ib (.cells false [vp m, vi sh, kv, nv]) * (ts 1 l5 kv (ns.map (·.1)) * (ts 1 N0 nv (ns.map (·.2)) * R))) H) : ae (jb ib m sh nx L * R) H := by
 refine ae.ex.2 ⟨(kv, nv, ns), ?_⟩;rw [ai, ae.pu];exact ⟨hn, h.to⟩
theorem qg {ib m : Nat} {sh : Int} {nx : Int → Option Nat} {L L' : Nat} {R : SP} {H : AH} (hL : L ≤ L') (h : ae (jb ib m sh nx L * R) H) : ae (jb ib m sh nx L' * R) H := by
 obtain ⟨g, h1⟩ := ae.ex.1 h;rw [ai, ae.pu] at h1;exact ae.ex.2 ⟨g, by rw [ai]; exact ae.pu.2 ⟨⟨h1.1.1, fy h1.1.2 hL⟩, h1.2⟩⟩
structure XIds where
 m : Nat
 ib : Nat
 tb : Nat
 po : Nat
 co : Nat
 ov : Value
 rv : Value
 rp : List Nat
 wv : Value
 ws : List (Int × Int)
 pv : Value
def ax (x : Nat) (g : XIds) (σ : aN) : SP :=
 blk x (.cells false [vi σ.c.sh, vi σ.c.sl, vi σ.c.wk, vi σ.c.wd, vu σ.c.un, vp g.m, vp g.ib, vp g.tb, vp g.po, vp g.co, g.ov, g.rv, g.wv, g.pv]) *
 (bS g.m σ.μ * (jb g.ib g.m σ.c.sh σ.nx σ.μ.N * (tab g.tb g.m σ.c.sh.toNat σ.c.sl.toNat *
 (ts 3 uk g.ov (σ.obs.map fun x => x.1) * (ts 1 qA g.rv g.rp * (j0 g.m 0 (g.rp.zip (σ.obs.map fun x => x.2)) * (ts 1 l5 g.wv (fU g.ws) * ts 7 Pt.cells g.pv (bY σ.pts))))))))
def fp (g : XIds) (σ : aN) : Prop := g.rp.length = σ.obs.length ∧ (∀ k, iw g.ws k = (σ.places k).getD 0) ∧ g.ws.length ≤ σ.μ.N
def aK (x : Nat) (σ : aN) : SP := ex fun g : XIds => pu (fp g σ) * ax x g σ
theorem fq {p : Nat} {σ : aN} {R : SP} {H : AH} (h : ae (aK p σ * R) H) : ∃ g : XIds, fp g σ ∧ ae (ax p g σ * R) H := by
 obtain ⟨g, h1⟩ := ae.ex.1 h;rw [ai, ae.pu] at h1;exact ⟨g, h1⟩
theorem dd {p : Nat} {σ : aN} {R : SP} {H : AH} (g : XIds) (hl : fp g σ) (h : ae (ax p g σ * R) H) : ae (aK p σ * R) H :=
 ae.ex.2 ⟨g, by rw [ai]; exact ae.pu.2 ⟨hl, h⟩⟩
theorem J9 (m : Nat) (c : eg) (hc : bZ c = true) : Sp nc [vp m, vi c.sh] emp (fun b : Nat => vp b) (fun b => blk b (.cells false [vp m, vi c.sh, .slice none 0 0, .slice none 0 0])) := by
 have hc := bo.1 hc;refine br (BQ _ _) fun R H h => ?_;refine aa (lx) ?_;refine aa (ly) ?_;rw [show min (max c.sh 1) 4 = c.sh from by omega];refine iz ?_;refine aS h fun b H3 h3 => ?_;exact aq ⟨b, rfl, h3.to⟩
theorem Kb (m : Nat) (c : eg) (hc : bZ c = true) : Sp ng [vp m, vi c.sh, vi c.sl] emp (fun b : Nat => vp b) (fun b => tab b m c.sh.toNat c.sl.toNat) := by
 have hc := bo.1 hc;refine br (BS _ _ _) fun R H h => ?_;refine aa (lx) ?_;refine aa (ly) ?_;refine aa (lx) ?_;refine aa (ly) ?_;rw [show min (max c.sh 1) 4 = ((c.sh.toNat : Nat) : Int) from by omega, show min (max c.sl 1) 4 = ((c.sl.toNat : Nat) : Int) from by omega];refine iz ?_;refine aS h fun b H3 h3 => ?_;exact aq ⟨b, rfl, by unfold tab; exact h3.to⟩
theorem MF (m : Nat) (w : Int) : Sp oQ [vp m, vi w] emp (fun b : Nat => vp b) (fun _ => emp) := by
 refine br (EX _ _) fun R H h => ?_;refine aa (lx) ?_;refine aa (ly) ?_;refine iz ?_;refine aS h fun b H3 h3 => ?_;exact aq ⟨b, rfl, h3.to⟩
theorem We (w : Int) : Sp sB [vi w] emp (fun x : Int => vi x) (fun _ => emp) := by
 refine br (J4 _) fun R H h => ?_;refine aa (lx) ?_;refine aa (ly) ?_;exact aq ⟨_, rfl, h⟩
theorem J5 (n w : Int) : Sp aaU [vi n, vi w] emp (fun b : Nat => vp b) (fun _ => emp) := by
 refine br (ajX _ _) fun R H h => ?_;refine iz ?_;refine aS h fun q H2 h2 => ?_;refine ah (Wj _ _ _ _ H2) ?_;refine ah (Wm _ _ _ _ _ H2) ?_;obtain ⟨k, hk⟩ : ∃ k : Nat, min (max n 1) 16 = k := ⟨(min (max n 1) 16).toNat, by omega⟩
 have hk16 : k ≤ 16 := by omega
 have loop : ∀ (d i : Nat) (nv : Value) (m : List Nat) (H : AH), i + d = k → m.length = i → ae (blk q (.cells false [nv]) * ts 1 qA nv m * R) H → wp (Kd (vi n) (vi w) (.pointer none) (vp q) (vi i) H) fun v' H' => ∃ b : Nat, v' = vp b ∧ ae (emp * R) H' := by
  intro d
  induction d with
  | zero =>
   intro i nv m H hi hm h;refine ah (Hy _ _ _ _ _ H) ?_;refine aa (lx) ?_;refine aa (ly) ?_;refine aa (ch (by omega)) ?_;refine gs ?_;refine ah (MH _ _ H) ?_;refine ah (Wl _ _ H) ?_;exact aq ⟨q, rfl, h.to⟩
  | succ d ih =>
   intro i nv m H hi hm h;refine ah (Hy _ _ _ _ _ H) ?_;refine aa (lx) ?_;refine aa (ly) ?_;refine aa (cK (by omega)) ?_;refine gs ?_;refine ah (Wn _ _ _ _ _ H) ?_;refine bz ac ?_;refine aR h rfl ?_;refine ag h (We w) fun x H3 h3 => ?_;refine aH h3 h rfl ?_;refine iz ?_;refine aS h3 fun sb H3b h3b => ?_;refine Nq h3b fun b0 H4 h4 => ?_;refine iL (sb : Nat) h4 rfl ?_ (by omega) fun a c H5 h5 => ?_
   ·unfold room; omega
   refine bi h5 ac rfl rfl fun H6 h6 => ?_;refine ah (Wo _ _ _ _ _ H6) ?_;refine aa (aM (by omega) (by omega)) ?_;exact ih (i + 1) (.slice a (m.length + 1) c) (m ++ [sb]) H6 (by omega) (by simp; omega) h6.to
 refine loop k 0 (.slice none 0 0) [] H2 (by omega) rfl ?_;have h3 := fX 1 qA h2;exact h3.to
theorem ME (c : eg) : Sp oP [.agg (eg.cells c).toArray] emp (fun b : Nat => vp b) (fun _ => emp) := by
 refine br (EW _) fun R H h => ?_;refine aS h fun cb H1 h1 => ?_;refine aj h1 aA rfl ?_;refine aj h1 aA rfl ?_;refine ag h1 (J5 c.sh c.wd) fun q H2 h2 => ?_;refine iz ?_;refine aS h2 fun b H5 h5 => ?_;exact aq ⟨b, rfl, h5.to⟩
theorem aaO {b : Nat} {R : SP} {H : AH} (h : ae (blk b (.cells false [.slice none 0 0, .slice none 0 0, .slice none 0 0]) * R) H) : ae (bS b ⟨fun _ => 0, [], 0⟩ * R) H := by
 refine ae.ex.2 ⟨[], ?_⟩;rw [ai, ae.pu];refine ⟨⟨fun _ => rfl, bI _⟩, ae.ex.2 ⟨(.slice none 0 0, .slice none 0 0, .slice none 0 0), ?_⟩⟩;have h1 := fX 3 Iz (fX 1 Lx (fX 5 Ev.cells h));exact h1.to
theorem Ka (c : eg) (hc : bZ c = true) : Sp ne [.agg (eg.cells c).toArray] emp (fun b : Nat => vp b) (fun b => aK b (aN.new c)) := by
 refine br (BR _) fun R H h => ?_;refine aS h fun cb H1 h1 => ?_;refine iz ?_;refine aS h1 fun m H2 h2 => ?_;refine aJ h2 ?_;refine aj h2 aA rfl ?_;refine ag h2 (J9 m c hc) fun ib H3 h3 => ?_;refine dA h3 h2 rfl ?_;refine bz aA ?_;refine aR h3 rfl ?_;refine aH h2 h3 rfl ?_;refine bz aA ?_;refine aR h3 rfl ?_;refine aH h2 h3 rfl ?_;refine ag h3 (Kb m c hc) fun tb H4 h4 => ?_;refine dA h4 h2 rfl ?_;refine bz aA ?_;refine aR h4 rfl ?_;refine aH h2 h4 rfl ?_;refine aH h3 h4 rfl ?_;refine ag h4 (MF m c.wk) fun pb H5 h5 => ?_;refine dA h5 h2 rfl ?_;refine aJ h5 ?_;refine dA h2 h5 rfl ?_;refine dA h3 h5 rfl ?_;refine dA h4 h5 rfl ?_;refine ag h5 (ME c) fun kb H6 h6 => ?_;refine dA h6 h2 rfl ?_;refine iz ?_;refine aS h6 fun b H7 h7 => ?_;refine aq ⟨b, rfl, ?_⟩;refine dd ⟨m, ib, tb, pb, kb, .slice none 0 0, .slice none 0 0, [], .slice none 0 0, [], .slice none 0 0⟩ ⟨rfl, fun _ => rfl, bI _⟩ ?_;have h8 := aaO (b := m) (R := blk b (.cells false [vi c.sh, vi c.sl, vi c.wk, vi c.wd, vu c.un, vp m, vp ib, vp tb, vp pb, vp kb, .slice none 0 0, .slice none 0 0, .slice none 0 0, .slice none 0 0]) * (tab tb m c.sh.toNat c.sl.toNat * (blk ib (.cells false [vp m, vi c.sh, .slice none 0 0, .slice none 0 0]) * R))) (ae.to h7);have h8a := fX 1 l5 (fX 1 N0 h8);have h8b := jc (ib := ib) (m := m) (sh := c.sh) (nx := fun _ => none) (L := 0) (kv := .slice none 0 0) (nv := .slice none 0 0) (ns := []) (R := bS m ⟨fun _ => 0, [], 0⟩ * (blk b (.cells false [vi c.sh, vi c.sl, vi c.wk, vi c.wd, vu c.un, vp m, vp ib, vp tb, vp pb, vp kb, .slice none 0 0, .slice none 0 0, .slice none 0 0, .slice none 0 0]) * (tab tb m c.sh.toNat c.sl.toNat * R))) (H := H7) ⟨fun _ => rfl, bI _⟩ (show ae (blk ib (.cells false [vp m, vi c.sh, .slice none 0 0, .slice none 0 0]) * (ts 1 l5 (.slice none 0 0) [] * (ts 1 N0 (.slice none 0 0) [] * (bS m ⟨fun _ => 0, [], 0⟩ * (blk b (.cells false [vi c.sh, vi c.sl, vi c.wk, vi c.wd, vu c.un, vp m, vp ib, vp tb, vp pb, vp kb, .slice none 0 0, .slice none 0 0, .slice none 0 0, .slice none 0 0]) * (tab tb m c.sh.toNat c.sl.toNat * R)))))) H7 from h8a.to);have h9 := fX 3 uk (fX 1 qA (fX 1 l5 (fX 7 Pt.cells h8b)));unfold ax
 show ae (blk b (.cells false [vi c.sh, vi c.sl, vi c.wk, vi c.wd, vu c.un, vp m, vp ib, vp tb, vp pb, vp kb, .slice none 0 0, .slice none 0 0, .slice none 0 0, .slice none 0 0]) * (bS m ⟨fun _ => 0, [], 0⟩ * (jb ib m c.sh (fun _ => none) 0 * (tab tb m c.sh.toNat c.sl.toNat *
  (ts 3 uk (.slice none 0 0) [] * (ts 1 qA (.slice none 0 0) [] * (emp * (ts 1 l5 (.slice none 0 0) [] * ts 7 Pt.cells (.slice none 0 0) [])))))))  * R) H7
 exact h9.to
theorem Po {cl : TCls} {a b : Int} (h : b ≠ 0) (h0 : -9223372036854775808 ≤ a.tdiv b) (h1 : a.tdiv b < 9223372036854775808) : ap cl .quo (vi a) (vi b) = some (vi (a.tdiv b)) := by
 simp only [ap, nI, if_true];rw [if_neg h, pP h0 h1]
theorem xy {m : Nat} {V : cO → Nat} {E : List Ev} {N N' : Nat} {R : SP} {H : AH} (hN : N ≤ N') (h : ae (bS m ⟨V, E, N⟩ * R) H) : ae (bS m ⟨V, E, N'⟩ * R) H := by
 obtain ⟨al, h1⟩ := ae.ex.1 h;rw [ai, ae.pu] at h1;exact ae.ex.2 ⟨al, by rw [ai]; exact ae.pu.2 ⟨⟨h1.1.1, fy h1.1.2 hN⟩, h1.2⟩⟩
def cy (flow : Int) (obj : Nat) : Nat := (flow + 1).toNat * 4294967296 + obj
section
variable (t m : Nat) (sh sl : Nat) (μ : Mu) (who s i flow : Int) (obj : Nat)
theorem Ia (hE : μ.N < 1099511627000) (hf : 0 ≤ flow ∧ flow ≤ 1048576) (ho : obj < 4294967296) :
 Sp gL [vp t, vi who, vi s, vi i, vi flow, vi obj] (tab t m sh sl * bN m μ) (fun _ : Unit => vb true) (fun _ => tab t m sh sl * bN m ((μ.acc who 2 (10, s, i)).put (10, s, i) (cy flow obj))) := by
 refine br (wg _ _ _ _ _ _) fun R H h => ?_;unfold tab at h ⊢;refine aa (ch (by omega)) ?_;refine gs ?_;refine aa (f7 ?_) ?_
 ·omega
 refine gs ?_;refine aa (ch ?_) ?_
 ·omega
 refine gs ?_;refine aa (mV ?_) ?_
 ·omega
 refine gs ?_;refine bz ac ?_;refine aR h rfl ?_;refine ag h (wi s i) fun _ H1 h1 => ?_;refine aH h1 h rfl ?_;refine aa (aM (by omega) (by omega)) ?_;refine aa (eF (by omega) (by omega)) ?_
 have hn : (flow + 1).toNat ≤ 1048577 := by omega
 have e1 : ap .other .shl (vu (flow + 1).toNat) (vw 32) = some (vu ((flow + 1).toNat * 4294967296)) := by
  have := GL (cl := .other) (a := (flow + 1).toNat) (k := .u64) (n := 32) (by omega);simp only [Nat.reducePow] at this;rw [Nat.mod_eq_of_lt (by omega)] at this;exact this
 refine aa (e1) ?_;refine aa (eF (by omega) (by omega)) ?_;rw [show ((obj : Nat) : Int).toNat = obj from xm obj]
 have e2 : ap .other .or (vu ((flow + 1).toNat * 4294967296)) (vu obj) = some (vu (cy flow obj)) := by
  rw [Xz (by omega) (by omega)]
  congr 3
  have := Nat.two_pow_add_eq_or_of_lt (i := 32) (b := obj) (by simp only [Nat.reducePow]; omega) (flow + 1).toNat;simp only [Nat.reducePow] at this;rw [cy, Nat.mul_comm, ← this]
 refine aa (e2) ?_;refine ag h1 (Ct m μ who (10, s, i) (cy flow obj) (by omega)) fun _ H2 h2 => ?_;exact aq ⟨(), rfl, h2.to⟩
theorem SV (hE : μ.N < 1099511627000) (hf : 0 ≤ flow ∧ flow ≤ 1048576) (ho : obj < 4294967296) :
 Sp i4 [vp t, vi who, vi s, vi i, vi flow, vi obj] (tab t m sh sl * bS m μ) (fun _ : Unit => vb true) (fun _ => tab t m sh sl * bS m ((μ.acc who 2 (10, s, i)).put (10, s, i) (cy flow obj))) := by
 refine br (zY _ _ _ _ _ _) fun R H h => ?_;unfold tab at h ⊢;refine aa (ch (by omega)) ?_;refine gs ?_;refine aa (f7 ?_) ?_
 ·omega
 refine gs ?_;refine aa (ch ?_) ?_
 ·omega
 refine gs ?_;refine aa (eF (by omega) (by omega)) ?_;rw [show ((obj : Nat) : Int).toNat = obj from xm obj];refine gs ?_;refine aa (mV ?_) ?_
 ·omega
 refine gs ?_;refine bz ac ?_;refine aR h rfl ?_;refine ag h (eG 10 s i) fun _ H1 h1 => ?_;refine aH h1 h rfl ?_;refine aa (aM (by omega) (by omega)) ?_;refine aa (eF (by omega) (by omega)) ?_
 have hn : (flow + 1).toNat ≤ 1048577 := by omega
 refine aa (alG) ?_;rw [Nat.mod_eq_of_lt (by omega)];refine aa (eF (by omega) (by omega)) ?_;rw [show ((obj : Nat) : Int).toNat = obj from xm obj];refine aa (gv (by omega)) ?_;refine ag h1 (tQ m μ who (10, s, i) (cy flow obj) (by omega)) fun _ H2 h2 => ?_;exact aq ⟨(), rfl, h2.to⟩
end
section
variable (p : Nat) (σ : aN)
theorem WA (m i : Nat) (most : Int) : Sp oR [vp m, vi i, vi most] emp (fun b : Nat => vp b) (fun b => dk m i b (List.replicate (bP most) FW)) := by
 obtain ⟨q1, q2, q3⟩ := mp most;refine br (EY _ _ _) fun R H h => ?_;refine aa (lx) ?_;refine aa (ly) ?_;rw [← q3];refine Qi (enc := Pk.cells) FW h rfl (by unfold room; omega) (by omega) fun cb H1 h1 => ?_;refine iz ?_;refine aS h1 fun b H2 h2 => ?_;refine aq ⟨b, rfl, ?_⟩;unfold dk;refine ae.ex.2 ⟨vs cb (bP most) 3, ?_⟩;rw [List.length_replicate];exact h2.to
theorem aiA (who : Int) (o : Ob) (hE : σ.μ.N < 1099511627000) (ho : σ.obs.length < 1000000) : Sp il [vp p, vi who, .agg [vi o.flow, vi o.most, vu o.r].toArray] (aK p σ) (fun _ : Unit => vi σ.obs.length) (fun _ => aK p (σ.make who o)) := by
 refine aP fun R H h => ?_;obtain ⟨g, ⟨hg, hg2⟩, h0⟩ := fq h;unfold ax at h0;refine bg (fun r => yi _ _ _ H) ?_;refine aS (l := [vi o.flow, vi o.most, vu o.r]) h0 fun ob H1 h1 => ?_;refine aj h1 ac rfl ?_;refine tg (s := g.ov) h1 ?_;rw [pw];refine bz ac ?_;refine aR h1 rfl ?_;refine ag h1 (eG 13 σ.obs.length 0) fun _ H2 h2 => ?_;refine aH h2 h1 rfl ?_;refine ag h2 ((W7 g.m σ.μ who 6 (13, σ.obs.length, 0) (by omega)).imp fun _ R H h => xy (N' := σ.μ.N + 2) (by simp) h) fun _ H3 h3 => ?_;refine aj h3 ac rfl ?_;refine aJ h3 ?_;refine Nq h3 fun b0 H4 h4 => ?_;refine iL (o : Ob) h4 rfl ?_ (by omega) fun a cc H5 h5 => ?_
 ·unfold room; simp only [pw]; omega
 refine bz ac ?_;refine aR h5 rfl ?_;refine aH h4 h5 rfl ?_;refine bz ac ?_;refine aR h5 rfl ?_;refine aH h4 h5 rfl ?_;refine bz aA ?_;refine aR h5 rfl ?_;refine aH h4 h5 rfl ?_;refine ag h5 (WA g.m σ.obs.length o.most) fun rb H6 h6 => ?_;refine aH h6 h5 rfl ?_;refine Nq h6 fun b1 H7 h7 => ?_;refine iL (rb : Nat) h7 rfl ?_ (by omega) fun a2 c2 H8 h8 => ?_
 ·unfold room; omega
 refine bi h8 ac rfl rfl fun H9 h9 => ?_;refine bi h9 ac rfl rfl fun H10 h10 => ?_;refine aq ⟨(), rfl, ?_⟩;refine dd { g with ov := .slice a ((σ.obs.map fun x => x.1).length + 1) cc, rv := .slice a2 (g.rp.length + 1) c2, rp := g.rp ++ [rb] } ⟨by simp [aN.make, hg], hg2.1, fy hg2.2 (by simp [aN.make])⟩ ?_;unfold ax aN.make;dsimp only
 have e2 : (g.rp ++ [rb]).zip ((σ.obs ++ [(o, List.replicate (bP o.most) FW)]).map fun x => x.2) = (g.rp.zip (σ.obs.map fun x => x.2)) ++ [(rb, List.replicate (bP o.most) FW)] := by
  rw [zw, List.zip_append (by simp [hg])]
  rfl
 have e1 : (σ.obs ++ [(o, List.replicate (bP o.most) FW)]).map (fun x => x.1) = (σ.obs.map fun x => x.1) ++ [o] := by rw [zw]; rfl
 have e3 : 0 + (g.rp.zip (σ.obs.map fun x => x.2)).length = σ.obs.length := by simp [hg]
 rw [e1, e2, MP, e3];dsimp only;have h11 := qg (L' := σ.μ.N + 2) (by omega) (ae.fr (A := jb g.ib g.m σ.c.sh σ.nx σ.μ.N) h10);exact h11.to
theorem og (u : Nat) (w : Int) (hu : 1 ≤ u ∧ u ≤ 4611686018427387904) (hw : 1 ≤ w ∧ w ≤ 65536) : Sp gA [vu u, vi w] emp (fun _ : Unit => .tuple #[vu (max (u / w.toNat) 1), vb true]) (fun _ => emp) := by
 refine br (EO _ _) fun R H h => ?_;refine aa (ch (by omega)) ?_;refine gs ?_;refine aa (f7 ?_) ?_
 ·omega
 refine gs ?_;refine aa (ch ?_) ?_
 ·omega
 refine gs ?_;refine aa (f7 ?_) ?_
 ·omega
 refine gs ?_;refine aa (eF (by omega) (by omega)) ?_;refine aa (y4 (by omega) (by omega)) ?_;refine aa (aiB (b := 1)) ?_;exact aq ⟨(), rfl, h.to⟩
abbrev aN.lay (σ : aN) (f w most : Int) : aN :=
 { σ.make 0 ⟨f, most, max (σ.c.un / w.toNat) 1⟩ with
  μ := ((σ.make 0 ⟨f, most, max (σ.c.un / w.toNat) 1⟩).μ.acc 0 2 (10, f.tmod σ.c.sh, f.tdiv σ.c.sh)).put (10, f.tmod σ.c.sh, f.tdiv σ.c.sh) (cy f σ.obs.length) }
theorem af4 (x : Nat) (f w most : Int) (hc : bZ σ.c = true) (hE : σ.μ.N < 1099511620000) (ho : σ.obs.length < 1000000) (hf : 0 ≤ f ∧ f ≤ 1048576) (hw : 1 ≤ w ∧ w ≤ 65536) :
 Sp m8 [.agg [vp p, vp x].toArray, vi f, vi w, vi most] (fC p σ * aK x σ) (fun _ : Unit => vb true) (fun _ => fC p (σ.lay f w most) * aK x (σ.lay f w most)) := by
 have hr := bo.1 hc;have q0 : 0 ≤ f.tdiv σ.c.sh := Int.tdiv_nonneg hf.1 (by omega);have q1 : f.tdiv σ.c.sh ≤ f := Int.tdiv_le_self _ hf.1;refine br (Bg _ _ _ _) fun R H h => ?_;refine aS (l := [vp p, vp x]) h fun b H1 h1 => ?_;refine aj h1 aA rfl ?_;obtain ⟨g, hg, k1⟩ := fq (p := x) (σ := σ) (R := blk b (.cells false [vp p, vp x]) * (fC p σ * R)) (H := H1) h1.to;unfold ax at k1;refine Tv k1 ac ?_;refine bf h1 fun b2 H2 h2 => ?_;refine cX h2 rfl rfl fun H3 h3 => ?_;refine aj h3 aA rfl ?_;refine ag h3 (og σ.c.un w ⟨by omega, by omega⟩ hw) fun _ H4 h4 => ?_;refine aa (v := vu (max (σ.c.un / w.toNat) 1)) rfl ?_;refine aa (v := vb true) rfl ?_;refine iz ?_;refine bf h4 fun b3 H5 h5 => ?_;refine cX h5 rfl rfl fun H6 h6 => ?_;refine aj h6 aA rfl ?_;refine aJ h6 ?_;refine ag h6 (Ph p σ 0 ⟨f, most, max (σ.c.un / w.toNat) 1⟩ (by omega) ho) fun _ H7 h7 => ?_;refine bz aA ?_;refine aR h7 rfl ?_;refine aH h6 h7 rfl ?_;refine aJ h7 ?_;refine dA h6 h7 rfl ?_;refine ag h7 (aiA x σ 0 ⟨f, most, max (σ.c.un / w.toNat) 1⟩ (by omega) ho) fun _ H8 h8 => ?_;refine aa (bk rfl) ?_;refine gs ?_;refine aj h8 aA rfl ?_;obtain ⟨gp, hgp, k8⟩ := oc (p := p) (σ := σ.make 0 ⟨f, most, max (σ.c.un / w.toNat) 1⟩) (R := blk b (.cells false [vp p, vp x]) * (blk b2 (.cells false (eg.cells σ.c)) * (aK x (σ.make 0 ⟨f, most, max (σ.c.un / w.toNat) 1⟩) * R))) (H := H8) h8.to;unfold aE at k8;refine gs ?_;refine aj k8 ac rfl ?_;refine gs ?_;refine aj k8 aA rfl ?_;refine gs ?_;refine aa (nE (by omega)) ?_;refine gs ?_;refine aj k8 aA rfl ?_;refine gs ?_;refine aa (Po (by omega) (by omega) (by omega)) ?_;refine gs ?_;refine ag k8 (Ia gp.tb gp.m σ.c.sh.toNat σ.c.sl.toNat (σ.make 0 ⟨f, most, max (σ.c.un / w.toNat) 1⟩).μ 0 (f.tmod σ.c.sh) (f.tdiv σ.c.sh) f σ.obs.length (by simp [aN.make]; omega) hf (by omega)) fun _ H9 k9 => ?_
 have h9 : ae (fC p (σ.lay f w most) * (blk b (.cells false [vp p, vp x]) * (blk b2 (.cells false (eg.cells σ.c)) * (aK x (σ.make 0 ⟨f, most, max (σ.c.un / w.toNat) 1⟩) * R)))) H9 := by
  refine qm gp hgp ?_;unfold aE;exact k9.to
 refine gs ?_;refine aj h9 aA rfl ?_;obtain ⟨gx, hgx, l9⟩ := fq (p := x) (σ := σ.make 0 ⟨f, most, max (σ.c.un / w.toNat) 1⟩) (R := blk b (.cells false [vp p, vp x]) * (blk b2 (.cells false (eg.cells σ.c)) * (fC p (σ.lay f w most) * R))) (H := H9) h9.to;unfold ax at l9;refine gs ?_;refine aj l9 ac rfl ?_;refine gs ?_;refine aj l9 aA rfl ?_;refine gs ?_;refine aa (nE (by omega)) ?_;refine gs ?_;refine aj l9 aA rfl ?_;refine gs ?_;refine aa (Po (by omega) (by omega) (by omega)) ?_;refine gs ?_;refine ag l9 (SV gx.tb gx.m σ.c.sh.toNat σ.c.sl.toNat (σ.make 0 ⟨f, most, max (σ.c.un / w.toNat) 1⟩).μ 0 (f.tmod σ.c.sh) (f.tdiv σ.c.sh) f σ.obs.length (by simp [aN.make]; omega) hf (by omega)) fun _ H10 l10 => ?_
 have h10 : ae (aK x (σ.lay f w most) * (blk b (.cells false [vp p, vp x]) * (blk b2 (.cells false (eg.cells σ.c)) * (fC p (σ.lay f w most) * R)))) H10 := by
  refine dd gx ⟨hgx.1, hgx.2.1, fy hgx.2.2 (by simp [aN.lay, aN.make])⟩ ?_;unfold ax;have l11 := qg (L' := σ.μ.N + 2 + 2) (by omega) (ae.fr (A := jb gx.ib gx.m σ.c.sh σ.nx (σ.μ.N + 2)) l10);exact l11.to
 refine gs ?_;exact aq ⟨(), rfl, h10.to⟩
end
def aN.made (c : eg) : Nat → aN
 | 0 => aN.new c
 | f + 1 => if (f : Int).tdiv c.sh < c.sl then (aN.made c f).lay f (1 + f) (2 + (f : Int).tmod 2) else aN.made c f
theorem vl (c : eg) : ∀ n, (aN.made c n).c = c ∧ (aN.made c n).μ.N ≤ 4 * n ∧ (aN.made c n).obs.length ≤ n := by
 intro n
 induction n with
 | zero => exact ⟨rfl, bI _, bI _⟩
 | succ n ih =>
  obtain ⟨h1, h2, h3⟩ := ih;unfold aN.made
  split
  ·refine ⟨h1, ?_, ?_⟩
   ·simp [aN.lay, aN.make]; omega
   ·simp [aN.lay, aN.make]; omega
  ·exact ⟨h1, by omega, by omega⟩
theorem zF (b : Nat) : ap .ptr .eql (vp b) (.pointer none) = some (vb false) := rfl
theorem Na {o : Nat} {x : Value} {k : Value → OV} {Q : Value → AH → Prop} (h : wp (k undef) Q) : wp (xe (vb false) true [.n, .f o] x k) Q := h
theorem j5 {p : List Stp} {x : Value} {k : Value → OV} {Q : Value → AH → Prop} (h : wp (ad p x k) Q) : wp (xe (vb true) true p x k) Q := by rw [JD]; exact h
section
variable {m i rp : Nat} {cs : List Pk} {R : SP} {H : AH}
theorem cF (h : ae (cH m i rp cs * R) H) : ∃ cv, ae (blk rp (.cells false [vp m, vi i, cv]) * (ts 3 Pk.cells cv cs * R)) H := by
 obtain ⟨cv, h1⟩ := ae.ex.1 h;exact ⟨cv, h1.to⟩
theorem AO {cv : Value} (h : ae (blk rp (.cells false [vp m, vi i, cv]) * (ts 3 Pk.cells cv cs * R)) H) : ae (cH m i rp cs * R) H :=
 ae.ex.2 ⟨cv, h.to⟩
theorem gg (h : ae (dk m i rp cs * R) H) : ∃ cv, ae (blk rp (.cells false [vp m, vi i, vi cs.length, cv]) * (ts 3 Pk.cells cv cs * R)) H := by
 obtain ⟨cv, h1⟩ := ae.ex.1 h;exact ⟨cv, h1.to⟩
theorem oy {cv : Value} (h : ae (blk rp (.cells false [vp m, vi i, vi cs.length, cv]) * (ts 3 Pk.cells cv cs * R)) H) : ae (dk m i rp cs * R) H :=
 ae.ex.2 ⟨cv, h.to⟩
end
section
variable (m i rp : Nat) (cs : List Pk) (μ : Mu)
theorem yH (kind cell : Int) : Sp ep [vp rp, vi kind, vi cell] (cH m i rp cs) (fun _ : Unit => fw (kind, (i : Int), cell)) (fun _ => cH m i rp cs) := by
 refine aP fun R H h => ?_;obtain ⟨cv, h0⟩ := cF h;refine bg (fun r => B5 _ _ _ H) ?_;refine bf h0 fun b H1 h1 => ?_;refine aj h1 ac rfl ?_;refine iz ?_;refine cX h1 rfl rfl fun H2 h2 => ?_;refine aJ h2 ?_;exact aq ⟨(), rfl, AO (cv := cv) h2.to⟩
theorem Ab (who : Int) (hE : μ.N < 1099511627000) : Sp fT [vp rp, vi who] (cH m i rp cs * bN m μ) (fun _ : Unit => vu (μ.V (11, (i : Int), 0))) (fun _ => cH m i rp cs * bN m (μ.acc who 1 (11, (i : Int), 0))) := by
 refine aP fun R H h => ?_;obtain ⟨cv, h0⟩ := cF (m := m) (i := i) (rp := rp) (cs := cs) (R := bN m μ * R) (H := H) h.to;refine bg (fun r => yF _ _ H) ?_;refine bz ac ?_;refine aR h0 rfl ?_;refine ag h (yH m i rp cs 11 0) fun _ H1 h1 => ?_;obtain ⟨cv1, k1⟩ := cF h1;refine aH k1 h0 (by rfl) ?_;refine ag h1 (EJ m μ who (11, (i : Int), 0) (by omega)) fun _ H2 h2 => ?_;exact aq ⟨(), rfl, h2.to⟩
theorem HM (who : Int) (hE : μ.N < 1099511627000) : Sp iq [vp rp, vi who] (cH m i rp cs * bN m μ) (fun _ : Unit => vu (μ.V (12, (i : Int), 0))) (fun _ => cH m i rp cs * bN m (μ.acc who 1 (12, (i : Int), 0))) := by
 refine aP fun R H h => ?_;obtain ⟨cv, h0⟩ := cF (m := m) (i := i) (rp := rp) (cs := cs) (R := bN m μ * R) (H := H) h.to;refine bg (fun r => yB _ _ H) ?_;refine bz ac ?_;refine aR h0 rfl ?_;refine ag h (yH m i rp cs 12 0) fun _ H1 h1 => ?_;obtain ⟨cv1, k1⟩ := cF h1;refine aH k1 h0 (by rfl) ?_;refine ag h1 (EJ m μ who (12, (i : Int), 0) (by omega)) fun _ H2 h2 => ?_;exact aq ⟨(), rfl, h2.to⟩
def gG (w h k : Nat) : Bool := decide (h ≤ aL w ∧ k ≤ aL w - h)
theorem HL (w h : Nat) (hw : w < 18446744073709551616) (hc : cs.length < 1000) : Sp ip [vp rp, vu w, vu h] (cH m i rp cs) (fun _ : Unit => vb (gG w h cs.length)) (fun _ => cH m i rp cs) := by
 refine aP fun R H hh => ?_;have hl := eV w;refine bg (fun r => yA _ _ _ H) ?_;refine ag hh (jj w hw) fun _ H1 h1 => ?_
 by_cases hle : h ≤ aL w
 ·refine aa (r7 (by omega)) ?_
  refine gs ?_;refine aa (GN hle (by omega)) ?_;obtain ⟨cv, h2⟩ := cF (m := m) (i := i) (rp := rp) (cs := cs) (R := R) (H := H1) h1.to;refine gs ?_;refine aj h2 ac rfl ?_;refine gs ?_;refine yV (s := cv) (l := cs) h2 ?_;refine gs ?_;refine aa (eF (by omega) (by omega)) ?_;rw [show ((cs.length : Nat) : Int).toNat = cs.length from xm _];refine gs ?_
  by_cases hk : cs.length ≤ aL w - h
  ·refine aa (r7 (by omega)) ?_
   refine gs ?_;exact aq ⟨(), by rw [gG, dj ⟨hle, hk⟩], h1.to⟩
  ·refine aa (mV (by omega)) ?_
   refine gs ?_;exact aq ⟨(), by rw [gG, dP (fun q => hk q.2)], h1.to⟩
 ·refine aa (mV (by omega)) ?_
  refine gs ?_;exact aq ⟨(), by rw [gG, dP (fun q => hle q.1)], h1.to⟩
abbrev Mu.turn (μ : Mu) (who : Int) (i w : Nat) (o : Option Nat) : Mu := match o with
 | none => μ
 | some n => μ.swp who (11, (i : Int), 0) w n
def fD (μ : Mu) (i w : Nat) (o : Option Nat) : Bool := o.isSome && decide (μ.V (11, (i : Int), 0) = w)
theorem HO (who : Int) (w fn : Nat) (o : Option Nat) (hf : Sp fn [vu w] emp (fun _ : Unit => JV o) (fun _ => emp)) (hE : μ.N < 1099511627000) :
 Sp iu [vp rp, vi who, vu w, .func (.func fn) #[] #[]] (cH m i rp cs * bN m μ) (fun _ : Unit => vb (fD μ i w o)) (fun _ => cH m i rp cs * bN m (μ.turn who i w o)) := by
 refine br (yG _ _ _ _) fun R H h => ?_;refine ah (show (di (.func (.func fn) #[] #[]) [vu w]).bind _ = _ from rfl) ?_;refine ag h hf fun _ H1 h1 => ?_
 cases o with
 | none =>
  refine aa (v := vw 0) rfl ?_;refine aa (v := vb false) rfl ?_;refine gs ?_;refine Na ?_;refine gs ?_;refine FM rfl ?_;refine gs ?_;exact aq ⟨(), rfl, h1.to⟩
 | some n =>
  refine aa (v := vu n) rfl ?_;refine aa (v := vb true) rfl ?_;refine gs ?_;refine j5 ?_;obtain ⟨cv, k1⟩ := cF (m := m) (i := i) (rp := rp) (cs := cs) (R := bN m μ * R) (H := H1) h1.to;refine bz ac ?_;refine gs ?_;refine aR k1 rfl ?_;refine gs ?_;refine ag h1 (yH m i rp cs 11 0) fun _ H2 h2 => ?_;obtain ⟨cv2, k2⟩ := cF (m := m) (i := i) (rp := rp) (cs := cs) (R := bN m μ * R) (H := H2) h2.to;refine aH k2 k1 (by rfl) ?_;refine gs ?_;refine ag h2 (Pe m μ who (11, (i : Int), 0) w n (by omega)) fun _ H3 h3 => ?_;refine gs ?_;exact aq ⟨(), rfl, h3.to⟩
theorem Fk (who : Int) (w : Nat) (hw : w < 18446744073709551616) (hE : μ.N < 1099511627000) : Sp gK [vp rp, vi who, vu w] (cH m i rp cs * bN m μ) (fun _ : Unit => vb (fD μ i w (bd w 0))) (fun _ => cH m i rp cs * bN m (μ.turn who i w (bd w 0))) := by
 refine br (wc _ _ _) fun R H h => ?_;refine ag h (HO m i rp cs μ who w nZ (bd w 0) (W3 w hw) hE) fun _ H1 h1 => ?_;exact aq ⟨(), rfl, h1.to⟩
theorem WC (who : Int) (w : Nat) (hw : w < 18446744073709551616) (hE : μ.N < 1099511627000) : Sp kK [vp rp, vi who, vu w] (cH m i rp cs * bN m μ) (fun _ : Unit => vb (fD μ i w (bd w 2))) (fun _ => cH m i rp cs * bN m (μ.turn who i w (bd w 2))) := by
 refine br (yE _ _ _) fun R H h => ?_;refine ag h (HO m i rp cs μ who w n6 (bd w 2) (W4 w hw) hE) fun _ H1 h1 => ?_;exact aq ⟨(), rfl, h1.to⟩
end
section
variable (m i rp : Nat) (cs : List Pk) (μ : Mu)
theorem Qo (who : Int) (hE : μ.N < 1099511627000) : Sp lL [vp rp, vi who] (dk m i rp cs * bS m μ) (fun _ : Unit => vu (μ.V (11, (i : Int), 0))) (fun _ => dk m i rp cs * bS m (μ.acc who 1 (11, (i : Int), 0))) := by
 refine aP fun R H h => ?_;obtain ⟨cv, h0⟩ := gg (m := m) (i := i) (rp := rp) (cs := cs) (R := bS m μ * R) (H := H) h.to;refine bg (fun r => zX _ _ H) ?_;refine bz ac ?_;refine aR h0 rfl ?_;refine aj h0 ac rfl ?_;refine ag h0 (eG 11 (i : Int) 0) fun _ H1 h1 => ?_;refine aH h1 h0 (by rfl) ?_;refine ag h1 (sR m μ who (11, (i : Int), 0) (by omega)) fun _ H2 h2 => ?_;exact aq ⟨(), rfl, (oy (m := m) (i := i) (rp := rp) (cs := cs) (cv := cv) (R := bS m (μ.acc who 1 (11, (i : Int), 0)) * R) h2.to).to⟩
theorem FT (who : Int) (hE : μ.N < 1099511627000) : Sp i0 [vp rp, vi who] (dk m i rp cs * bS m μ) (fun _ : Unit => vu (μ.V (12, (i : Int), 0))) (fun _ => dk m i rp cs * bS m (μ.acc who 1 (12, (i : Int), 0))) := by
 refine aP fun R H h => ?_;obtain ⟨cv, h0⟩ := gg (m := m) (i := i) (rp := rp) (cs := cs) (R := bS m μ * R) (H := H) h.to;refine bg (fun r => zS _ _ H) ?_;refine bz ac ?_;refine aR h0 rfl ?_;refine aj h0 ac rfl ?_;refine ag h0 (eG 12 (i : Int) 0) fun _ H1 h1 => ?_;refine aH h1 h0 (by rfl) ?_;refine ag h1 (sR m μ who (12, (i : Int), 0) (by omega)) fun _ H2 h2 => ?_;exact aq ⟨(), rfl, (oy (m := m) (i := i) (rp := rp) (cs := cs) (cv := cv) (R := bS m (μ.acc who 1 (12, (i : Int), 0)) * R) h2.to).to⟩
theorem FS (w h : Nat) (hw : w < 18446744073709551616) (hc : cs.length < 1000) : Sp iZ [vp rp, vu w, vu h] (dk m i rp cs) (fun _ : Unit => vb (gG w h cs.length)) (fun _ => dk m i rp cs) := by
 refine aP fun R H hh => ?_;have hl := eV w;refine bg (fun r => zR _ _ _ H) ?_;refine ag hh (pG w hw) fun _ H1 h1 => ?_;refine aa (v := vu (aL w)) rfl ?_;refine aa (v := vi (aZ w)) rfl ?_;refine aa (v := vb (cI w)) rfl ?_
 by_cases hle : h ≤ aL w
 ·refine aa (r7 (by omega)) ?_
  refine gs ?_;refine aa (GN hle (by omega)) ?_;obtain ⟨cv, h2⟩ := gg (m := m) (i := i) (rp := rp) (cs := cs) (R := R) (H := H1) h1.to;refine gs ?_;refine aj h2 ac rfl ?_;refine gs ?_;refine aa (eF (by omega) (by omega)) ?_;rw [show ((cs.length : Nat) : Int).toNat = cs.length from xm _];refine gs ?_
  by_cases hk : cs.length ≤ aL w - h
  ·refine aa (r7 (by omega)) ?_
   refine gs ?_;exact aq ⟨(), by rw [gG, dj ⟨hle, hk⟩], h1.to⟩
  ·refine aa (mV (by omega)) ?_
   refine gs ?_;exact aq ⟨(), by rw [gG, dP (fun q => hk q.2)], h1.to⟩
 ·refine aa (mV (by omega)) ?_
  refine gs ?_;exact aq ⟨(), by rw [gG, dP (fun q => hle q.1)], h1.to⟩
theorem FV (who : Int) (w how : Nat) (hh : how < 3) (hw : w < 18446744073709551616) (hE : μ.N < 1099511627000) :
 Sp i3 [vp rp, vi who, vu w, vi (how : Int)] (dk m i rp cs * bS m μ) (fun _ : Unit => vb (fD μ i w (bd w how))) (fun _ => dk m i rp cs * bS m (μ.turn who i w (bd w how))) := by
 refine br (zW _ _ _ _) fun R H h => ?_;refine ag h (Pq w how hw hh) fun _ H1 h1 => ?_
 generalize bd w how = o at h1 ⊢
 cases o with
 | none =>
  refine aa (v := vw 0) rfl ?_;refine aa (v := vb false) rfl ?_;refine gs ?_;refine Na ?_;refine gs ?_;refine FM rfl ?_;refine gs ?_;exact aq ⟨(), rfl, h1.to⟩
 | some n =>
  refine aa (v := vu n) rfl ?_;refine aa (v := vb true) rfl ?_;refine gs ?_;refine j5 ?_;obtain ⟨cv, k1⟩ := gg (m := m) (i := i) (rp := rp) (cs := cs) (R := bS m μ * R) (H := H1) h1.to;refine bz ac ?_;refine gs ?_;refine aR k1 rfl ?_;refine gs ?_;refine aj k1 ac rfl ?_;refine gs ?_;refine ag k1 (eG 11 (i : Int) 0) fun _ H2 k2 => ?_;refine aH k2 k1 (by rfl) ?_;refine gs ?_;refine ag k2 (E0 m μ who (11, (i : Int), 0) w n (by omega)) fun _ H3 k3 => ?_;refine gs ?_;refine aq ⟨(), rfl, ?_⟩;have h3 := oy (m := m) (i := i) (rp := rp) (cs := cs) (cv := cv) (R := bS m (μ.swp who (11, (i : Int), 0) w n) * R) (H := H3) k3.to;exact h3.to
end
section
variable (m i rp : Nat) (cs : List Pk) (μ : Mu)
theorem HK (n : Nat) (h0 : 1 ≤ cs.length ∧ cs.length < 1000) : Sp dr [vp rp, vu n] (cH m i rp cs) (fun _ : Unit => vi ((n % cs.length : Nat) : Int)) (fun _ => cH m i rp cs) := by
 have hlt : n % cs.length < cs.length := Nat.mod_lt _ (by omega);refine aP fun R H h => ?_;obtain ⟨cv, k⟩ := cF h;refine bg (fun r => oz _ _ H) ?_;refine aj k ac rfl ?_;refine gi (s := cv) (l := cs) k ?_;refine aa (eF (by omega) (by omega)) ?_;rw [show ((cs.length : Nat) : Int).toNat = cs.length from xm _];refine aa (kp (by omega)) ?_;refine aa (jx (by omega)) ?_;exact aq ⟨(), rfl, h⟩
theorem Qn (n : Nat) (h0 : 1 ≤ cs.length ∧ cs.length < 1000) : Sp eO [vp rp, vu n] (dk m i rp cs) (fun _ : Unit => vi ((n % cs.length : Nat) : Int)) (fun _ => dk m i rp cs) := by
 have hlt : n % cs.length < cs.length := Nat.mod_lt _ (by omega);refine aP fun R H h => ?_;obtain ⟨cv, k⟩ := gg h;refine bg (fun r => pI _ _ H) ?_;refine aj k ac rfl ?_;refine aa (eF (by omega) (by omega)) ?_;rw [show ((cs.length : Nat) : Int).toNat = cs.length from xm _];refine aa (kp (by omega)) ?_;refine aa (jx (by omega)) ?_;exact aq ⟨(), rfl, h⟩
theorem HN (who : Int) (n : Nat) (hn : n < 18446744073709551615) (h0 : 1 ≤ cs.length ∧ cs.length < 1000) (hE : μ.N < 1099511627000) :
 Sp ir [vp rp, vi who, vu n] (cH m i rp cs * bN m μ) (fun _ : Unit => .tuple #[]) (fun _ => cH m i rp cs * bN m ((μ.acc who 2 (15, (i : Int), ((n % cs.length : Nat) : Int))).put (15, (i : Int), ((n % cs.length : Nat) : Int)) (n + 1))) := by
 refine aP fun R H h => ?_;obtain ⟨cv, k0⟩ := cF (m := m) (i := i) (rp := rp) (cs := cs) (R := bN m μ * R) (H := H) h.to;refine bg (fun r => yD _ _ _ H) ?_;refine bz ac ?_;refine aR k0 rfl ?_;refine ag h (HK m i rp cs n h0) fun _ H1 h1 => ?_;obtain ⟨cv1, k1⟩ := cF h1;refine aH k1 k0 (by rfl) ?_;refine ag h1 (yH m i rp cs 15 ((n % cs.length : Nat) : Int)) fun _ H2 h2 => ?_;obtain ⟨cv2, k2⟩ := cF h2;refine aH k2 k0 (by rfl) ?_;refine aa (gv (b := 1) (by omega)) ?_;refine ag h2 (Ct m μ who (15, (i : Int), ((n % cs.length : Nat) : Int)) (n + 1) (by omega)) fun _ H3 h3 => ?_;exact aq ⟨(), rfl, h3.to⟩
theorem FU (who : Int) (n : Nat) (hn : n < 18446744073709551615) (h0 : 1 ≤ cs.length ∧ cs.length < 1000) (hE : μ.N < 1099511627000) :
 Sp i1 [vp rp, vi who, vu n] (dk m i rp cs * bS m μ) (fun _ : Unit => .tuple #[]) (fun _ => dk m i rp cs * bS m ((μ.acc who 2 (15, (i : Int), ((n % cs.length : Nat) : Int))).put (15, (i : Int), ((n % cs.length : Nat) : Int)) (n + 1))) := by
 refine aP fun R H h => ?_;obtain ⟨cv, k0⟩ := gg (m := m) (i := i) (rp := rp) (cs := cs) (R := bS m μ * R) (H := H) h.to;refine bg (fun r => zV _ _ _ H) ?_;refine bz ac ?_;refine aR k0 rfl ?_;refine bz ac ?_;refine aR k0 rfl ?_;refine ag h (Qn m i rp cs n h0) fun _ H1 h1 => ?_;obtain ⟨cv1, k1⟩ := gg h1;refine aH k1 k0 (by rfl) ?_;refine aH k1 k0 (by rfl) ?_;refine ag h1 (eG 15 (i : Int) ((n % cs.length : Nat) : Int)) fun _ H2 h2 => ?_;obtain ⟨cv2, k2⟩ := gg (m := m) (i := i) (rp := rp) (cs := cs) (R := bS m μ * R) (H := H2) h2.to;refine aH k2 k0 (by rfl) ?_;refine aa (gv (b := 1) (by omega)) ?_;refine ag h2 (tQ m μ who (15, (i : Int), ((n % cs.length : Nat) : Int)) (n + 1) (by omega)) fun _ H3 h3 => ?_;exact aq ⟨(), rfl, h3.to⟩
theorem ab3 (who : Int) (n : Nat) (x : Pk) (h0 : 1 ≤ cs.length ∧ cs.length < 1000) (hE : μ.N < 1099511627000) :
 Sp lM [vp rp, vi who, vu n, .agg (Pk.cells x).toArray] (cH m i rp cs * bN m μ) (fun _ : Unit => .tuple #[]) (fun _ => cH m i rp (cs.set (n % cs.length) x) * bN m (μ.acc who 6 (16, (i : Int), ((n % cs.length : Nat) : Int)))) := by
 have hlt : n % cs.length < cs.length := Nat.mod_lt _ (by omega);refine br (Aa _ _ _ _) fun R H h => ?_;refine aS h fun b H1 h1 => ?_;obtain ⟨cv, k1⟩ := cF (m := m) (i := i) (rp := rp) (cs := cs) (R := bN m μ * (blk b (.cells false (Pk.cells x)) * R)) (H := H1) h1.to;refine bz ac ?_;refine aR k1 rfl ?_;refine ag h1 (HK m i rp cs n h0) fun _ H2 h2 => ?_;obtain ⟨cv2, k2⟩ := cF h2;refine aH k2 k1 (by rfl) ?_;refine ag h2 (yH m i rp cs 16 ((n % cs.length : Nat) : Int)) fun _ H3 h3 => ?_;obtain ⟨cv3, k3⟩ := cF h3;refine aH k3 k1 (by rfl) ?_;refine ag h3 ((tJ m μ who (16, (i : Int), ((n % cs.length : Nat) : Int)) (by omega)).imp fun _ R H h => jE (N' := μ.N + 2) (by simp) h) fun _ H4 h4 => ?_;obtain ⟨cv4, k4⟩ := cF (m := m) (i := i) (rp := rp) (cs := cs) (R := bN m (μ.acc who 6 (16, (i : Int), ((n % cs.length : Nat) : Int))) * (blk b (.cells false (Pk.cells x)) * R)) (H := H4) h4.to;refine bz ac ?_;refine aR k4 rfl ?_
 -- a cell is told once more, of the same ring
 have again : ∀ {k : Value × AH → OV} {Q : Value → AH → Prop}, (∀ H5, ae (blk rp (.cells false [vp m, vi i, cv4]) * (ts 3 Pk.cells cv4 cs * (bN m (μ.acc who 6 (16, (i : Int), ((n % cs.length : Nat) : Int))) * (blk b (.cells false (Pk.cells x)) * R)))) H5 → wp (k (vi ((n % cs.length : Nat) : Int), H5)) Q) → wp ((FF dr [vp rp, vu n] H4).bind k) Q := by
  intro k Q hk
  have cell4 : Sp dr [vp rp, vu n] (blk rp (.cells false [vp m, vi i, cv4]) * ts 3 Pk.cells cv4 cs) (fun _ : Unit => vi ((n % cs.length : Nat) : Int)) (fun _ => blk rp (.cells false [vp m, vi i, cv4]) * ts 3 Pk.cells cv4 cs) := by
   refine br (oz _ _) fun R H h => ?_;refine aj h ac rfl ?_;refine gi (s := cv4) (l := cs) h ?_;refine aa (eF (by omega) (by omega)) ?_;rw [show ((cs.length : Nat) : Int).toNat = cs.length from xm _];refine aa (kp (by omega)) ?_;refine aa (jx (by omega)) ?_;exact aq ⟨(), rfl, h⟩
  exact ag k4 cell4 fun _ H5 h5 => hk H5 h5.to
 refine again fun H5 k5 => ?_;refine aH k5 k4 (by rfl) ?_;refine aJ k5 ?_;refine dA k4 k5 rfl ?_;refine TB (s := cv4) (l := cs) (i := n % cs.length) x k5 hlt (.inl ⟨rfl, rfl⟩) rfl (by omega) rfl rfl fun H6 k6 => ?_;refine aq ⟨(), rfl, ?_⟩;have h6 := AO (m := m) (i := i) (rp := rp) (cs := cs.set (n % cs.length) x) (cv := cv4) (R := bN m (μ.acc who 6 (16, (i : Int), ((n % cs.length : Nat) : Int))) * R) (H := H6) k6.to;exact h6.to
end
theorem yL (k a : Int) : Sp bB [vi k, vi a] emp (fun _ : Unit => fw (k, a, 0)) (fun _ => emp) := by
 refine br (zq _ _) fun R H h => ?_;refine bf h fun b H1 h1 => ?_;refine iz ?_;refine cX h1 rfl rfl fun H2 h2 => ?_;refine aJ h2 ?_;exact aq ⟨(), rfl, h2.to⟩
abbrev Mu.cnt (μ : Mu) (who : Int) (at' : cO) (n : Nat) : Mu := (μ.acc who 3 at').put at' ((μ.V at' + n) % 18446744073709551616)
section
variable (ib m nm : Nat) (c : eg) (nx : Int → Option Nat) (μ : Mu) (who : Int)
theorem L8 (hE : μ.N < 1099511627000) : Sp iH [vp ib, vi who] (l6 ib m nm c nx * bN m μ) (fun _ : Unit => .tuple #[]) (fun _ => l6 ib m nm c nx * bN m (μ.cnt who (3, 0, 0) 4294967296)) := by
 refine br (sa _ _) fun R H h => ?_;unfold l6 at h ⊢;refine bz ac ?_;refine aR h rfl ?_;refine ag h (yL 3 0) fun _ H1 h1 => ?_;refine aH h1 h (by rfl) ?_;refine ag h1 (aiH m μ who (3, 0, 0) 4294967296 (by omega)) fun _ H2 h2 => ?_;exact aq ⟨(), rfl, h2.to⟩
theorem Hf (hE : μ.N < 1099511627000) : Sp gI [vp ib, vi who] (l6 ib m nm c nx * bN m μ) (fun _ : Unit => .tuple #[]) (fun _ => l6 ib m nm c nx * bN m (μ.cnt who (3, 0, 0) 1)) := by
 refine br (uY _ _) fun R H h => ?_;unfold l6 at h ⊢;refine bz ac ?_;refine aR h rfl ?_;refine ag h (yL 3 0) fun _ H1 h1 => ?_;refine aH h1 h (by rfl) ?_;refine ag h1 (aiH m μ who (3, 0, 0) 1 (by omega)) fun _ H2 h2 => ?_;exact aq ⟨(), rfl, h2.to⟩
theorem VT (s : Int) (hE : μ.N < 1099511627000) : Sp jF [vp ib, vi who, vi s] (l6 ib m nm c nx * bN m μ) (fun _ : Unit => vu (μ.V (9, s, 0))) (fun _ => l6 ib m nm c nx * bN m (μ.acc who 1 (9, s, 0))) := by
 refine br (uZ _ _ _) fun R H h => ?_;unfold l6 at h ⊢;refine bz ac ?_;refine aR h rfl ?_;refine aj h ac rfl ?_;refine ah (show (di (.func (.func bB) #[vi 9] #[]) [vi s]).bind _ = _ from rfl) ?_;refine ag h (yL 9 s) fun _ H1 h1 => ?_;refine aH h1 h (by rfl) ?_;refine ag h1 (EJ m μ who (9, s, 0) (by omega)) fun _ H2 h2 => ?_;exact aq ⟨(), rfl, h2.to⟩
theorem OX (s : Int) (top obj : Nat) (ho : obj < 4294967296) (hE : μ.N < 1099511627000) : Sp je [vp ib, vi who, vi s, vu top, vi obj] (l6 ib m nm c nx * bN m μ) (fun _ : Unit => vb (decide (μ.V (9, s, 0) = top))) (fun _ => l6 ib m nm c nx * bN m (μ.swp who (9, s, 0) top (obj + 1))) := by
 refine br (tX _ _ _ _ _) fun R H h => ?_;unfold l6 at h ⊢;refine bz ac ?_;refine aR h rfl ?_;refine aj h ac rfl ?_;refine ah (show (di (.func (.func bB) #[vi 9] #[]) [vi s]).bind _ = _ from rfl) ?_;refine ag h (yL 9 s) fun _ H1 h1 => ?_;refine aH h1 h (by rfl) ?_;refine aa (eF (by omega) (by omega)) ?_;rw [show ((obj : Nat) : Int).toNat = obj from xm _];refine aa (gv (b := 1) (by omega)) ?_;refine ag h1 (Pe m μ who (9, s, 0) top (obj + 1) (by omega)) fun _ H2 h2 => ?_;exact aq ⟨(), rfl, h2.to⟩
theorem OU (obj : Int) (next : Nat) (hE : μ.N < 1099511627000) : Sp jd [vp ib, vi who, vi obj, vu next] (l6 ib m nm c nx * bN m μ) (fun _ : Unit => .tuple #[]) (fun _ => l6 ib m nm c (fun k => if k = obj then some next else nx k) * bN m (μ.acc who 6 (14, obj, 0))) := by
 refine br (tW _ _ _ _) fun R H h => ?_;unfold l6 at h ⊢;refine bz ac ?_;refine aR h rfl ?_;refine aj h ac rfl ?_;refine ah (show (di (.func (.func bB) #[vi 14] #[]) [vi obj]).bind _ = _ from rfl) ?_;refine ag h (yL 14 obj) fun _ H1 h1 => ?_;refine aH h1 h (by rfl) ?_;refine ag h1 ((tJ m μ who (14, obj, 0) (by omega)).imp fun _ R H h => jE (N' := μ.N + 2) (by simp) h) fun _ H2 h2 => ?_;refine aj h2 ac rfl ?_;refine adB (ek := Nm) obj (vu next) h2 fun H3 h3 => ?_;refine aq ⟨(), rfl, ?_⟩
 have e : (fun k => ((if k = obj then some next else nx k) : Option Nat).map fun n => vu n) = fun x => if x = obj then some (vu next) else (nx x).map fun n => vu n := by
  funext k
  split <;> rfl
 rw [e];exact h3.to
end
section
variable (ib m : Nat) (sh : Int) (nx : Int → Option Nat) (L : Nat) (μ : Mu) (who : Int)
theorem KI (hE : μ.N < 1099511627000) : Sp jM [vp ib, vi who] (jb ib m sh nx L * bS m μ) (fun _ : Unit => .tuple #[]) (fun _ => jb ib m sh nx L * bS m (μ.cnt who (3, 0, 0) 4294967296)) := by
 refine aP fun R H h => ?_;obtain ⟨kv, nv, ns, hn, h0⟩ := ph (ib := ib) (m := m) (sh := sh) (nx := nx) (L := L) (R := bS m μ * R) (H := H) h.to;refine bg (fun r => vK _ _ H) ?_;refine bz ac ?_;refine aR h0 rfl ?_;refine ag h0 (eG 3 0 0) fun _ H1 h1 => ?_;refine aH h1 h0 (by rfl) ?_;refine ag h1 (ST m μ who (3, 0, 0) 4294967296 (by omega)) fun _ H2 h2 => ?_;have h3 := jc (ib := ib) (m := m) (sh := sh) (nx := nx) (L := L) (kv := kv) (nv := nv) (ns := ns) (R := bS m (μ.cnt who (3, 0, 0) 4294967296) * R) (H := H2) hn h2.to;exact aq ⟨(), rfl, h3.to⟩
theorem FR (hE : μ.N < 1099511627000) : Sp iY [vp ib, vi who] (jb ib m sh nx L * bS m μ) (fun _ : Unit => .tuple #[]) (fun _ => jb ib m sh nx L * bS m (μ.cnt who (3, 0, 0) 1)) := by
 refine aP fun R H h => ?_;obtain ⟨kv, nv, ns, hn, h0⟩ := ph (ib := ib) (m := m) (sh := sh) (nx := nx) (L := L) (R := bS m μ * R) (H := H) h.to;refine bg (fun r => zM _ _ H) ?_;refine bz ac ?_;refine aR h0 rfl ?_;refine ag h0 (eG 3 0 0) fun _ H1 h1 => ?_;refine aH h1 h0 (by rfl) ?_;refine ag h1 (ST m μ who (3, 0, 0) 1 (by omega)) fun _ H2 h2 => ?_;have h3 := jc (ib := ib) (m := m) (sh := sh) (nx := nx) (L := L) (kv := kv) (nv := nv) (ns := ns) (R := bS m (μ.cnt who (3, 0, 0) 1) * R) (H := H2) hn h2.to;exact aq ⟨(), rfl, h3.to⟩
theorem Ql (s : Int) (hE : μ.N < 1099511627000) : Sp lJ [vp ib, vi who, vi s] (jb ib m sh nx L * bS m μ) (fun _ : Unit => vu (μ.V (9, s, 0))) (fun _ => jb ib m sh nx L * bS m (μ.acc who 1 (9, s, 0))) := by
 refine aP fun R H h => ?_;obtain ⟨kv, nv, ns, hn, h0⟩ := ph (ib := ib) (m := m) (sh := sh) (nx := nx) (L := L) (R := bS m μ * R) (H := H) h.to;refine bg (fun r => zN _ _ _ H) ?_;refine bz ac ?_;refine aR h0 rfl ?_;refine ag h0 (eG 9 s 0) fun _ H1 h1 => ?_;refine aH h1 h0 (by rfl) ?_;refine ag h1 (sR m μ who (9, s, 0) (by omega)) fun _ H2 h2 => ?_;have h3 := jc (ib := ib) (m := m) (sh := sh) (nx := nx) (L := L) (kv := kv) (nv := nv) (ns := ns) (R := bS m (μ.acc who 1 (9, s, 0)) * R) (H := H2) hn h2.to;exact aq ⟨(), rfl, h3.to⟩
theorem Ni (s : Int) (top obj : Nat) (ho : obj < 4294967296) (hE : μ.N < 1099511627000) : Sp kG [vp ib, vi who, vi s, vu top, vi obj] (jb ib m sh nx L * bS m μ) (fun _ : Unit => vb (decide (μ.V (9, s, 0) = top))) (fun _ => jb ib m sh nx L * bS m (μ.swp who (9, s, 0) top (obj + 1))) := by
 refine aP fun R H h => ?_;obtain ⟨kv, nv, ns, hn, h0⟩ := ph (ib := ib) (m := m) (sh := sh) (nx := nx) (L := L) (R := bS m μ * R) (H := H) h.to;refine bg (fun r => yh _ _ _ _ _ H) ?_;refine bz ac ?_;refine aR h0 rfl ?_;refine ag h0 (eG 9 s 0) fun _ H1 h1 => ?_;refine aH h1 h0 (by rfl) ?_;refine aa (eF (by omega) (by omega)) ?_;rw [show ((obj : Nat) : Int).toNat = obj from xm _];refine aa (gv (b := 1) (by omega)) ?_;refine ag h1 (E0 m μ who (9, s, 0) top (obj + 1) (by omega)) fun _ H2 h2 => ?_;have h3 := jc (ib := ib) (m := m) (sh := sh) (nx := nx) (L := L) (kv := kv) (nv := nv) (ns := ns) (R := bS m (μ.swp who (9, s, 0) top (obj + 1)) * R) (H := H2) hn h2.to;exact aq ⟨(), rfl, h3.to⟩
end
theorem To (a : Int) {n : Int} (h : 1 ≤ n) : -n < a.tmod n ∧ a.tmod n < n := by
 have e := Int.natAbs_tmod a n;have : a.natAbs % n.natAbs < n.natAbs := Nat.mod_lt _ (by omega);omega
section
variable (t m p e : Nat) (σ : aN)
theorem s7 (sh sl : Nat) (hs : 1 ≤ sh ∧ sh ≤ 4) (flow : Int) : Sp dK [vp t, vi flow] (tab t m sh sl) (fun _ : Unit => vi ((flow.tmod sh + sh).tmod sh)) (fun _ => tab t m sh sl) := by
 refine br (s5 _ _) fun R H h => ?_;unfold tab at h ⊢;have q := To flow (n := sh) (by omega);refine aj h ac rfl ?_;refine aa (nE (by omega)) ?_;refine aj h ac rfl ?_;refine aa (aM (by omega) (by omega)) ?_;refine aj h ac rfl ?_;refine aa (nE (by omega)) ?_;exact aq ⟨(), rfl, h⟩
theorem SG (μ : Mu) : Sp fA [vp m] (bN m μ) (fun _ : Unit => vi μ.E.length) (fun _ => bN m μ) := by
 refine aP fun R H h => ?_;obtain ⟨⟨c, l, al, es, ck⟩, h1⟩ := ae.ex.1 h;rw [ai, ae.pu] at h1;obtain ⟨hp, h1⟩ := h1;dsimp only at h1;have h2 : ae (blk m (.cells false [.map (some c), l]) * (blk c (.map es ck) * ts 5 Ev.cells l μ.E) * R) H := h1;refine bg (fun r => Ey _ H) ?_;refine aj h2 ac rfl ?_;refine tg (s := l) (l := μ.E) h2 ?_;exact aq ⟨(), rfl, h⟩
theorem wD (r : Value) (x : Int) : Sp mt [r, vi x] emp (fun _ : Unit => .tuple #[.agg (ef x).toArray, vb true]) (fun _ => emp) := by
 refine br (NP _ _) fun R H h => ?_;refine bf h fun b H1 h1 => ?_;refine iz ?_;refine cX h1 rfl rfl fun H2 h2 => ?_;refine aJ h2 ?_;exact aq ⟨(), rfl, h2.to⟩
def cL (x : Cl) : Option Int := if x.a < 1 ∨ 65536 < x.a then some 3 else if x.flow < 0 ∨ 1048576 < x.flow then some 5 else none
end
structure Tk where
 who : Int
 x : Cl
 s : Int
 at' : Nat
 i : Nat
 obj : Nat
 found : Bool
 w : Nat
 q : Nat
 mark : Int
 top : Nat
 code : Int
abbrev aN.mem (σ : aN) (μ : Mu) : aN := { σ with μ := μ }
def f9 (v : Nat) (flow : Int) : Bool := decide (v ≠ 0 ∧ ((v / 4294967296 : Nat) : Int) - 1 = flow)
def aW (σ : aN) (t : Tk) : Tk :=
 let v := σ.μ.V (10, t.s, (t.i : Int))
 { t with i := t.i + 1, found := f9 v t.x.flow, obj := if f9 v t.x.flow = true then v % 4294967296 else t.obj }
abbrev ba (σ : aN) (t : Tk) : aN := σ.mem (σ.μ.acc t.who 1 (10, t.s, (t.i : Int)))
def bK (σ : aN) (t : Tk) : Bool := decide (σ.c.sl ≤ (t.i : Int))
def au (σ : aN) (o : Nat) : List Pk := ((σ.obs[o]?).map (·.2)).getD []
def px (σ : aN) (t : Tk) : aN :=
 let n := (au σ t.obj).length
 let k := aL t.w % n
 { σ with μ := σ.μ.acc t.who 6 (16, (t.obj : Int), (k : Int)), obs := σ.obs.modify t.obj fun p => (p.1, p.2.set k ⟨t.x.flow, t.x.a, t.x.b⟩) }
abbrev s0 (σ : aN) (t : Tk) : aN :=
 let n := (au σ t.obj).length
 let k := aL t.w % n
 σ.mem ((σ.μ.acc t.who 2 (15, (t.obj : Int), (k : Int))).put (15, (t.obj : Int), (k : Int)) (aL t.w + 1))
abbrev dg (σ : aN) (t : Tk) : aN := σ.mem (σ.μ.acc t.who 1 (11, (t.obj : Int), 0))
abbrev jA (σ : aN) (t : Tk) : aN := σ.mem (σ.μ.acc t.who 1 (12, (t.obj : Int), 0))
def j9 (σ : aN) (t : Tk) : Bool := gG t.w (σ.μ.V (12, (t.obj : Int), 0)) (au σ t.obj).length
abbrev eL (σ : aN) (t : Tk) : aN := σ.mem (σ.μ.acc t.who 1 (2, 0, 0))
def ak (σ : aN) (t : Tk) (now : Int) : aN × Tk × Bool :=
 let scan (σ : aN) (t : Tk) : aN × Tk × Bool :=
  let t1 := aW σ t
  (ba σ t, { t1 with at' := if t1.found = true then 6 else if bK σ t1 = true then 3 else 2 }, false)
 match t.at' with
 | 0 => match cL t.x with
  | some e => (σ.note now t.who e, { t with code := e }, true)
  | none => scan σ t
 | 2 => scan σ t
 | 3 => let l : cO := (8, t.s, 0)
  (σ.mem (σ.μ.swp t.who l 0 1), (if σ.μ.V l = 0 then { t with at' := 4, i := 0 } else t), false)
 | 4 => let t1 := aW σ t
  if t1.found = true then (ba σ t, { t1 with at' := 5 }, false)
  else if bK σ t1 = true then ((ba σ t).note now t.who 5, { t1 with at' := 5, code := 5 }, false)
  else (ba σ t, t1, false)
 | 5 => let l : cO := (8, t.s, 0)
  (σ.mem ((σ.μ.acc t.who 2 l).put l 0), { t with at' := 6 }, !t.found)
 | 6 => (σ.mem (σ.μ.acc t.who 5 (13, (t.obj : Int), 0)), { t with at' := 7 }, false)
 | 7 => let w := σ.μ.V (11, (t.obj : Int), 0)
  (dg σ t, { t with w := w, at' := if aZ w = 2 then 3 else 8 }, false)
 | 8 => (jA σ t, { t with at' := if j9 σ t = true then 15 else if aZ t.w = 1 then 9 else 12 }, false)
 | 9 => let o := bd t.w 0
  let σ1 := σ.mem (σ.μ.turn t.who t.obj t.w o)
  if fD σ.μ t.obj t.w o = true then (σ1.note now t.who 0, { t with at' := 10, code := 0 }, false) else (σ1, { t with at' := 7 }, false)
 | 10 => (px σ t, { t with at' := 11 }, false)
 | 11 => (s0 σ t, t, true)
 | 12 => (σ.mem (σ.μ.cnt t.who (3, 0, 0) 4294967296), { t with at' := 13 }, false)
 | 13 => let o := bd t.w 0
  let σ1 := σ.mem (σ.μ.turn t.who t.obj t.w o)
  if fD σ.μ t.obj t.w o = true then (σ1.note now t.who 0, { t with at' := 14, code := 0 }, false) else (σ1, { t with at' := 20 }, false)
 | 14 => (px σ t, { t with at' := 21 }, false)
 | 15 => let q := σ.μ.V (2, 0, 0)
  (eL σ t, { t with q := q, at' := if q % 2 = 1 then 7 else 16 }, false)
 | 16 => let w := σ.μ.V (11, (t.obj : Int), 0)
  (dg σ t, { t with w := w, at' := if aZ w = 2 then 3 else 17 }, false)
 | 17 => (jA σ t, (if j9 σ t = true then { t with at' := 18, mark := now } else { t with at' := 7 }), false)
 | 18 => if σ.μ.V (2, 0, 0) = t.q then ((eL σ t).note t.mark t.who 9, { t with code := 9 }, true) else (eL σ t, { t with at' := 7 }, false)
 | 20 => (σ.mem (σ.μ.cnt t.who (3, 0, 0) 1), { t with at' := 7 }, false)
 | 21 => (s0 σ t, { t with at' := 22 }, false)
 | 22 => (σ.mem (σ.μ.acc t.who 1 (9, t.s, 0)), { t with top := σ.μ.V (9, t.s, 0), at' := 23 }, false)
 | 23 => ({ σ with μ := σ.μ.acc t.who 6 (14, (t.obj : Int), 0), nx := fun k => if k = (t.obj : Int) then some t.top else σ.nx k }, { t with at' := 24 }, false)
 | 24 => let l : cO := (9, t.s, 0)
  (σ.mem (σ.μ.swp t.who l t.top (t.obj + 1)), { t with at' := if σ.μ.V l = t.top then 25 else 22 }, false)
 | _ => (σ.mem (σ.μ.cnt t.who (3, 0, 0) 1), t, true)
def bn (p : Nat) (rp : List Nat) (σ : aN) : SP := ex fun g : PIds => pu (g.rp = rp ∧ rp.length = σ.obs.length) * aE p g σ
theorem dZ {p : Nat} {rp : List Nat} {σ : aN} {R : SP} {H : AH} (h : ae (bn p rp σ * R) H) : ∃ g : PIds, g.rp = rp ∧ rp.length = σ.obs.length ∧ ae (aE p g σ * R) H := by
 obtain ⟨g, h1⟩ := ae.ex.1 h;rw [ai, ae.pu] at h1;exact ⟨g, h1.1.1, h1.1.2, h1.2⟩
theorem bG {p : Nat} {rp : List Nat} {σ : aN} {R : SP} {H : AH} (g : PIds) (h1 : g.rp = rp) (h2 : rp.length = σ.obs.length) (h : ae (aE p g σ * R) H) : ae (bn p rp σ * R) H :=
 ae.ex.2 ⟨g, by rw [ai]; exact ae.pu.2 ⟨⟨h1, h2⟩, h⟩⟩
theorem EM {p : Nat} {σ : aN} {R : SP} {H : AH} (h : ae (fC p σ * R) H) : ∃ rp, ae (bn p rp σ * R) H := by
 obtain ⟨g, hg, h1⟩ := oc h;exact ⟨g.rp, bG g rfl hg h1⟩
theorem Ko (m : Nat) : ∀ {ps : List (Nat × List Pk)} {i j : Nat} (h : i < ps.length), ∃ R, nF m j ps = cH m (j + i) (ps[i]).1 (ps[i]).2 * R ∧ ∀ q : Nat × List Pk, nF m j (ps.set i q) = cH m (j + i) q.1 q.2 * R := by
 intro ps
 induction ps with
 | nil => intro i j h; simp at h
 | cons p ps ih =>
  intro i j h
  cases i with
  | zero => exact ⟨nF m (j + 1) ps, rfl, fun q => rfl⟩
  | succ i =>
   obtain ⟨R, e1, e2⟩ := ih (i := i) (j := j + 1) (by simpa using h);refine ⟨cH m j p.1 p.2 * R, ?_, fun q => ?_⟩
   ·show cH m j p.1 p.2 * nF m (j + 1) ps = _
    rw [e1, cr, show j + 1 + i = j + (i + 1) from by omega]; rfl
   ·show cH m j p.1 p.2 * nF m (j + 1) (ps.set i q) = _
    rw [e2, cr, show j + 1 + i = j + (i + 1) from by omega]
theorem Kp (m : Nat) : ∀ {ps : List (Nat × List Pk)} {i j : Nat} (h : i < ps.length), ∃ R, j0 m j ps = dk m (j + i) (ps[i]).1 (ps[i]).2 * R ∧ ∀ q : Nat × List Pk, j0 m j (ps.set i q) = dk m (j + i) q.1 q.2 * R := by
 intro ps
 induction ps with
 | nil => intro i j h; simp at h
 | cons p ps ih =>
  intro i j h
  cases i with
  | zero => exact ⟨j0 m (j + 1) ps, rfl, fun q => rfl⟩
  | succ i =>
   obtain ⟨R, e1, e2⟩ := ih (i := i) (j := j + 1) (by simpa using h);refine ⟨dk m j p.1 p.2 * R, ?_, fun q => ?_⟩
   ·show dk m j p.1 p.2 * j0 m (j + 1) ps = _
    rw [e1, cr, show j + 1 + i = j + (i + 1) from by omega]; rfl
   ·show dk m j p.1 p.2 * j0 m (j + 1) (ps.set i q) = _
    rw [e2, cr, show j + 1 + i = j + (i + 1) from by omega]
def atN (ns : List (Int × Nat)) (obj : Int) : Int := match ns.findIdx? fun p => p.1 == obj with
 | some i => i
 | none => -1
theorem K6 {ns : List (Int × Nat)} {obj : Int} {i : Nat} (h : ∀ j, j < i → ∀ p, ns[j]? = some p → p.1 ≠ obj) :
 (∀ (hi : i < ns.length), ns[i].1 = obj → atN ns obj = i) ∧ (ns.length ≤ i → atN ns obj = -1) := by
 constructor
 ·intro hi e
  unfold atN
  have : ns.findIdx? (fun p => p.1 == obj) = some i := by
   rw [List.findIdx?_eq_some_iff_getElem];refine ⟨hi, by simpa using e, fun j hj => ?_⟩;have := h j hj ns[j] (by rw [cS])
   simpa using this
  rw [this]
 ·intro hi
  unfold atN
  have : ns.findIdx? (fun p => p.1 == obj) = none := by
   rw [List.findIdx?_eq_none_iff];intro p hp;obtain ⟨j, hj, rfl⟩ := List.getElem_of_mem hp;have := h j (by omega) ns[j] (by rw [cS])
   simpa using this
  rw [this]
theorem W6 (ib m : Nat) (sh : Int) (kv nv : Value) (ns : List (Int × Nat)) (hn : ns.length < 1000000) (obj : Int) :
 Sp nb [vp ib, vi obj] (blk ib (.cells false [vp m, vi sh, kv, nv]) * ts 1 l5 kv (ns.map (·.1))) (fun _ : Unit => vi (atN ns obj)) (fun _ => blk ib (.cells false [vp m, vi sh, kv, nv]) * ts 1 l5 kv (ns.map (·.1))) := by
 refine br (BN _ _) fun R H h => ?_;refine ah (vL _ _ _ H) ?_;refine ah (vN _ _ _ _ H) ?_;have loop : ∀ (d i : Nat), i + d = ns.length → (∀ j, j < i → ∀ p, ns[j]? = some p → p.1 ≠ obj) →
  wp (i6 (vp ib) (vi obj) (vi 0) (vi i) H) fun v' H' => ∃ x : Unit, v' = vi (atN ns obj) ∧ ae (blk ib (.cells false [vp m, vi sh, kv, nv]) * ts 1 l5 kv (ns.map (·.1)) * R) H' := by
  intro d
  induction d with
  | zero =>
   intro i hi hj;refine ah (nu _ _ _ _ H) ?_;refine aj h ac rfl ?_;refine tg (s := kv) h ?_;rw [pw];refine aa (ch (by omega)) ?_;refine gs ?_;refine ah (sM _ H) ?_;refine ah (vM _ H) ?_;exact aq ⟨(), by rw [(K6 hj).2 (by omega)], h⟩
  | succ d ih =>
   intro i hi hj
   have hil : i < ns.length := by omega
   refine ah (nu _ _ _ _ H) ?_;refine aj h ac rfl ?_;refine tg (s := kv) h ?_;rw [pw];refine aa (cK (by omega)) ?_;refine gs ?_;refine ah (vO _ _ _ _ H) ?_;refine aj h ac rfl ?_;refine qv (s := kv) (enc := l5) (l := ns.map fun p : Int × Nat => p.1) (v := vi ns[i].1) h (i := i) (by simpa using hil) (by simp [l5]) ?_
   by_cases e : ns[i].1 = obj
   ·refine aa (bk e) ?_
    refine gs ?_;exact aq ⟨(), by rw [(K6 hj).1 hil e], h⟩
   ·refine aa (aG e) ?_
    refine gs ?_;refine ah (vP _ _ _ _ H) ?_;refine aa (aM (by omega) (by omega)) ?_;refine ih (i + 1) (by omega) fun j hj2 p hp => ?_
    rcases Nat.lt_succ_iff_lt_or_eq.1 hj2 with h1 | rfl
    ·exact hj j h1 p hp
    ·rw [cS hil] at hp
     obtain rfl := gr hp;exact e
 exact loop ns.length 0 (by omega) (fun j hj => by omega)
theorem Xt {ns : List (Int × Nat)} {obj : Int} (h : ns.findIdx? (fun p => p.1 == obj) = none) : atN ns obj = -1 := by unfold atN; rw [h]
theorem Xu {ns : List (Int × Nat)} {obj : Int} {i : Nat} (h : ns.findIdx? (fun p => p.1 == obj) = some i) : atN ns obj = i := by unfold atN; rw [h]
theorem V7 {ns : List (Int × Nat)} {obj : Int} (h : ns.findIdx? (fun p => p.1 == obj) = none) (n : Nat) (k : Int) : Gj (ns ++ [(obj, n)]) k = if k = obj then some n else Gj ns k := by
 have hn : ns.find? (fun p => p.1 == obj) = none := by
  rw [List.find?_eq_none];rw [List.findIdx?_eq_none_iff] at h;intro p hp;have := h p hp
  simpa using this
 unfold Gj;rw [List.find?_append]
 by_cases e : k = obj
 ·subst e
  rw [hn, if_pos rfl];simp
 ·rw [if_neg e]
  have : ([(obj, n)] : List (Int × Nat)).find? (fun p => p.1 == k) = none := by
   rw [List.find?_eq_none];intro p hp
   obtain rfl : p = (obj, n) := by simpa using hp
   simpa using fun q => e q.symm
  rw [this]
  cases ns.find? (fun p => p.1 == k) <;> rfl
theorem aa0 (obj : Int) (n : Nat) (k : Int) : ∀ {ns : List (Int × Nat)} {i : Nat}, ns.findIdx? (fun p => p.1 == obj) = some i → Gj (ns.set i (obj, n)) k = if k = obj then some n else Gj ns k := by
 intro ns
 induction ns with
 | nil => intro i h; simp at h
 | cons p ns ih =>
  intro i h;rw [List.findIdx?_cons] at h
  by_cases e : p.1 = obj
  ·rw [if_pos (by simpa using e)] at h
   obtain rfl := gr h;simp only [List.set_cons_zero, Gj, List.find?_cons]
   by_cases e2 : k = obj
   ·subst e2; simp
   ·have h1 : ((obj == k) : Bool) = false := by simpa using fun q => e2 q.symm
    have h2 : ((p.1 == k) : Bool) = false := by rw [e]; exact h1
    simp [h1, h2, e2]
  ·rw [if_neg (by simpa using e)] at h
   obtain ⟨j, hj, rfl⟩ := bm.1 h;have := ih hj;simp only [List.set_cons_succ, Gj, List.find?_cons] at this ⊢
   by_cases e2 : p.1 = k
   ·have h1 : ((p.1 == k) : Bool) = true := by simpa using e2
    simp only [h1];rw [if_neg (fun q => e (e2.trans q))]
   ·have h1 : ((p.1 == k) : Bool) = false := by simpa using e2
    simp only [h1];exact this
theorem Nh (ib m : Nat) (sh : Int) (nx : Int → Option Nat) (L : Nat) (μ : Mu) (who obj : Int) (next : Nat) (hL : L < 900000) (hE : μ.N < 1099511627000) :
 Sp kF [vp ib, vi who, vi obj, vu next] (jb ib m sh nx L * bS m μ) (fun _ : Unit => .tuple #[]) (fun _ => jb ib m sh (fun k => if k = obj then some next else nx k) (L + 1) * bS m (μ.acc who 6 (14, obj, 0))) := by
 refine aP fun R H h => ?_;obtain ⟨kv, nv, ns, ⟨hn, hl⟩, h0⟩ := ph (ib := ib) (m := m) (sh := sh) (nx := nx) (L := L) (R := bS m μ * R) (H := H) h.to;refine bg (fun r => yg _ _ _ _ H) ?_;refine bz ac ?_;refine aR h0 rfl ?_;refine ag h0 (eG 14 obj 0) fun _ H1 h1 => ?_;refine aH h1 h0 (by rfl) ?_;refine ag h1 ((W7 m μ who 6 (14, obj, 0) (by omega)).imp fun _ R H h => xy (N' := μ.N + 2) (by simp) h) fun _ H2 h2 => ?_;refine ag h2 (W6 ib m sh kv nv ns (by omega) obj) fun _ H3 h3 => ?_
 cases hf : ns.findIdx? (fun p => p.1 == obj) with
 | none =>
  rw [Xt hf];refine aa (cK (by omega)) ?_;refine gs ?_;refine aj h3 ac rfl ?_;refine Nq h3 fun b0 H4 h4 => ?_;refine iL (s := kv) (l := ns.map fun p : Int × Nat => p.1) (obj : Int) h4 rfl ?_ (by omega) fun a c H5 h5 => ?_
  ·unfold room; simp only [pw]; omega
  refine bz ac ?_;refine aR h5 rfl ?_;refine aH h4 h5 (by rfl) ?_;refine Nq h5 fun b1 H6 h6 => ?_;refine iL (s := nv) (l := ns.map fun p : Int × Nat => p.2) (next : Nat) h6 rfl ?_ (by omega) fun a2 c2 H7 h7 => ?_
  ·unfold room; simp only [pw]; omega
  refine bi h7 ac rfl rfl fun H8 h8 => ?_;refine bi h8 ac rfl rfl fun H9 h9 => ?_
  have e1 : (ns ++ [(obj, next)]).map (fun p : Int × Nat => p.1) = (ns.map fun p : Int × Nat => p.1) ++ [obj] := by rw [zw]; rfl
  have e2 : (ns ++ [(obj, next)]).map (fun p : Int × Nat => p.2) = (ns.map fun p : Int × Nat => p.2) ++ [next] := by rw [zw]; rfl
  refine aq ⟨(), rfl, ?_⟩;have h10 := jc (ib := ib) (m := m) (sh := sh) (nx := fun k => if k = obj then some next else nx k) (L := L + 1) (kv := .slice a ((ns.map fun p : Int × Nat => p.1).length + 1) c) (nv := .slice a2 ((ns.map fun p : Int × Nat => p.2).length + 1) c2) (ns := ns ++ [(obj, next)])
   (R := bS m (μ.acc who 6 (14, obj, 0)) * R) (H := H9) ⟨fun k => by rw [V7 hf, hn], by simp; omega⟩ (by rw [e1, e2]; exact h9.to)
  exact h10.to
 | some i =>
  rw [Xu hf];have hi := (List.findIdx?_eq_some_iff_getElem.1 hf);obtain ⟨hil, hk, _⟩ := hi;refine aa (ch (by omega)) ?_;refine gs ?_;refine aj h3 ac rfl ?_;refine TB (s := nv) (l := ns.map fun p : Int × Nat => p.2) (i := i) (next : Nat) h3 (by simpa using hil) (.inl ⟨rfl, rfl⟩) rfl (by omega) rfl (by simp [N0, splice]) fun H4 h4 => ?_
  have e1 : (ns.set i (obj, next)).map (fun p : Int × Nat => p.1) = ns.map fun p : Int × Nat => p.1 := by
   rw [List.map_set];apply List.ext_getElem?;intro j;rw [List.getElem?_set]
   split
   ·rename_i e
    subst e
    have hk : ns[i].1 = obj := by simpa using hk
    simp [hil, hk]
   ·rfl
  have e2 : (ns.set i (obj, next)).map (fun p : Int × Nat => p.2) = (ns.map fun p : Int × Nat => p.2).set i next := by rw [List.map_set]
  refine aq ⟨(), rfl, ?_⟩;have h10 := jc (ib := ib) (m := m) (sh := sh) (nx := fun k => if k = obj then some next else nx k) (L := L + 1) (kv := kv) (nv := nv) (ns := ns.set i (obj, next))
   (R := bS m (μ.acc who 6 (14, obj, 0)) * R) (H := H4) ⟨fun k => by rw [aa0 obj next k hf, hn], by rw [Mc]; omega⟩ (by rw [e1, e2]; exact h4.to)
  exact h10.to
theorem wz {σ : aN} {o : Nat} (ho : o < σ.obs.length) : au σ o = (σ.obs[o]).2 := by
 unfold au;rw [cS ho]; rfl
theorem AK (p : Nat) (g : PIds) (σ : aN) (o b : Nat) (hl : g.rp.length = σ.obs.length) (ho : o < σ.obs.length) (hb : g.rp[o]? = some b) :
 ∃ R, aE p g σ = cH g.m o b (au σ o) * bN g.m σ.μ * R ∧ ∀ μ' cs', aE p g { σ with μ := μ', obs := σ.obs.modify o fun q => (q.1, cs') } = cH g.m o b cs' * bN g.m μ' * R := by
 have hz : o < (g.rp.zip (σ.obs.map fun x => x.2)).length := by simp; omega
 obtain ⟨R, e1, e2⟩ := Ko g.m (ps := g.rp.zip (σ.obs.map fun x => x.2)) (j := 0) hz
 have hrp : g.rp[o]'(by omega) = b := by
  rw [cS (by omega)] at hb;exact gr hb
 have e3 : (g.rp.zip (σ.obs.map fun x => x.2))[o] = (b, au σ o) := by
  rw [List.getElem_zip, wz ho, List.getElem_map, hrp]
 rw [e3] at e1;rw [Nat.zero_add] at e1 e2
 refine ⟨blk p (.cells false [vp g.m, vp g.ib, vp g.tb, vp g.po, vp g.co, vi σ.c.sh, vi σ.c.sl, vi σ.c.wk, vi σ.c.wd, vu σ.c.un, g.ov, .map (some g.pm), g.pv]) * (l6 g.ib g.m g.nm σ.c σ.nx * (tab g.tb g.m σ.c.sh.toNat σ.c.sl.toNat * (ts 4 F6 g.ov ((σ.obs.map fun x => x.1).zip g.rp) * (R *
  (Xb Nm g.pm (fun k => (σ.places k).map fun n => vi n) * ts 7 Pt.cells g.pv σ.pts))))), ?_, fun μ' cs' => ?_⟩
 ·unfold aE
  rw [e1]
  ac_rfl
 ·unfold aE
  dsimp only
  have e4 : (σ.obs.modify o fun q => (q.1, cs')).map (fun x => x.1) = σ.obs.map fun x => x.1 := by
   apply List.ext_getElem?;intro j;simp only [Bp, List.getElem?_modify]
   cases σ.obs[j]? with
   | none => rfl
   | some q => simp only [fH]; split <;> rfl
  have e5 : g.rp.zip ((σ.obs.modify o fun q => (q.1, cs')).map fun x => x.2) = (g.rp.zip (σ.obs.map fun x => x.2)).set o (b, cs') := by
   apply List.ext_getElem?;intro j;rw [List.getElem?_set]
   by_cases hj : o = j
   ·subst hj
    rw [if_pos rfl, if_pos hz];exact List.getElem?_zip_eq_some.2 ⟨hb, by simp [List.getElem?_modify, cS ho]⟩
   ·rw [if_neg hj]
    have : (List.map (fun x => x.2) (σ.obs.modify o fun q => (q.1, cs')))[j]? = (σ.obs.map fun x => x.2)[j]? := by
     simp only [Bp, List.getElem?_modify]
     cases σ.obs[j]? with
     | none => rfl
     | some q => show some (if o = j then (q.1, cs') else q).2 = some q.2; rw [if_neg hj]
    simp only [List.zip, List.getElem?_zipWith, this]
  rw [e4, e5, e2]
  ac_rfl
theorem Mm {σ : aN} {o : Nat} (ho : o < σ.obs.length) : (σ.obs.modify o fun q => (q.1, au σ o)) = σ.obs := by
 apply List.ext_getElem?;intro j;rw [List.getElem?_modify]
 cases hj : σ.obs[j]? with
 | none => rfl
 | some q =>
  show some (if o = j then _ else _) = some q
  by_cases e : o = j
  ·subst e
   rw [if_pos rfl];unfold au;rw [hj]; rfl
  ·rw [if_neg e]
section
variable {f : Nat} {args : List Value} {v : Unit → Value} {p : Nat} {g : PIds} {σ : aN} {o b : Nat}
theorem Xd {μ' : Mu} {cs' : List Pk} (hl : g.rp.length = σ.obs.length) (ho : o < σ.obs.length) (hb : g.rp[o]? = some b)
 (s : Sp f args (cH g.m o b (au σ o) * bN g.m σ.μ) v (fun _ => cH g.m o b cs' * bN g.m μ')) :
 Sp f args (aE p g σ) v (fun _ => aE p g { σ with μ := μ', obs := σ.obs.modify o fun q => (q.1, cs') }) := by
 obtain ⟨R', e1, e2⟩ := AK p g σ o b hl ho hb;intro R H h;rw [e1, ai] at h;obtain ⟨x, H', h1, h2⟩ := s _ _ h;exact ⟨x, H', h1, by rw [e2, ai]; exact h2⟩
theorem kQ {μ' : Mu} (hl : g.rp.length = σ.obs.length) (ho : o < σ.obs.length) (hb : g.rp[o]? = some b)
 (s : Sp f args (cH g.m o b (au σ o) * bN g.m σ.μ) v (fun _ => cH g.m o b (au σ o) * bN g.m μ')) :
 Sp f args (aE p g σ) v (fun _ => aE p g (σ.mem μ')) := by
 have := Xd (p := p) hl ho hb s;rw [Mm ho] at this;exact this
theorem Ij (hl : g.rp.length = σ.obs.length) (ho : o < σ.obs.length) (hb : g.rp[o]? = some b)
 (s : Sp f args (cH g.m o b (au σ o)) v (fun _ => cH g.m o b (au σ o))) :
 Sp f args (aE p g σ) v (fun _ => aE p g σ) := by
 obtain ⟨R', e1, _⟩ := AK p g σ o b hl ho hb;intro R H h;rw [e1, ai, ai] at h;obtain ⟨x, H', h1, h2⟩ := s _ _ h;exact ⟨x, H', h1, by rw [e1, ai, ai]; exact h2⟩
theorem ue {μ' : Mu} (s : Sp f args (tab g.tb g.m σ.c.sh.toNat σ.c.sl.toNat * bN g.m σ.μ) v (fun _ => tab g.tb g.m σ.c.sh.toNat σ.c.sl.toNat * bN g.m μ')) :
 Sp f args (aE p g σ) v (fun _ => aE p g (σ.mem μ')) := by
 intro R H h;unfold aE at h;obtain ⟨x, H', h1, h2⟩ := s _ H (ae.fr (A := tab g.tb g.m σ.c.sh.toNat σ.c.sl.toNat * bN g.m σ.μ) h);refine ⟨x, H', h1, ?_⟩;unfold aE;exact h2.to
theorem CD (s : Sp f args (tab g.tb g.m σ.c.sh.toNat σ.c.sl.toNat) v (fun _ => tab g.tb g.m σ.c.sh.toNat σ.c.sl.toNat)) :
 Sp f args (aE p g σ) v (fun _ => aE p g σ) := by
 intro R H h;unfold aE at h;obtain ⟨x, H', h1, h2⟩ := s _ H (ae.fr (A := tab g.tb g.m σ.c.sh.toNat σ.c.sl.toNat) h);refine ⟨x, H', h1, ?_⟩;unfold aE;exact h2.to
theorem KO {μ' : Mu} (s : Sp f args (bN g.m σ.μ) v (fun _ => bN g.m μ')) : Sp f args (aE p g σ) v (fun _ => aE p g (σ.mem μ')) := by
 intro R H h;unfold aE at h;obtain ⟨x, H', h1, h2⟩ := s _ H (ae.fr (A := bN g.m σ.μ) h);refine ⟨x, H', h1, ?_⟩;unfold aE;exact h2.to
theorem GE {μ' : Mu} {nx' : Int → Option Nat} (s : Sp f args (l6 g.ib g.m g.nm σ.c σ.nx * bN g.m σ.μ) v (fun _ => l6 g.ib g.m g.nm σ.c nx' * bN g.m μ')) :
 Sp f args (aE p g σ) v (fun _ => aE p g { σ with μ := μ', nx := nx' }) := by
 intro R H h;unfold aE at h;obtain ⟨x, H', h1, h2⟩ := s _ H (ae.fr (A := l6 g.ib g.m g.nm σ.c σ.nx * bN g.m σ.μ) h);refine ⟨x, H', h1, ?_⟩;unfold aE;exact h2.to
end
instance akT (p : Nat) (g : PIds) (σ : aN) : Hs (aE p g σ) p (.cells false [vp g.m, vp g.ib, vp g.tb, vp g.po, vp g.co, vi σ.c.sh, vi σ.c.sl, vi σ.c.wk, vi σ.c.wd, vu σ.c.un, g.ov, .map (some g.pm), g.pv]) := ⟨by
 intro H h;unfold aE at h
 exact h.left.get⟩
theorem nG {P P0 R : SP} {H : AH} {b fn : Nat} {args : List Value} {c : Int} {d : Bool} {Q0 : Unit → SP} {Q : Value → AH → Prop} (h : ae P H)
 (s : Sp fn args P0 (fun _ : Unit => .tuple #[.agg (ef c).toArray, vb d]) Q0) [fr : Fr P (P0 * blk b (.cells false [vi 0, .slice none 0 0, vi 0, vw 0])) R]
 (hk : ∀ H', ae (Q0 () * R) H' → Q (.tuple #[.agg (ef c).toArray, vb d]) H') :
 wp ((FF fn args H).bind fun r2 => (af r2.1 0).bind fun v3 => (af r2.1 1).bind fun v4 => (cf 4 (vp b) v3 r2.2).bind fun H5 => (ay 4 (vp b) H5).bind fun v6 => some (Value.tuple #[v6, v4], H5)) Q := by
 have h0 : ae (P0 * (blk b (.cells false [vi 0, .slice none 0 0, vi 0, vw 0]) * R)) H := by
  have := ae.fr (A := P0 * blk b (.cells false [vi 0, .slice none 0 0, vi 0, vw 0])) h;rw [ai] at this;exact this
 refine ag h0 s fun _ H1 h1 => ?_;refine aa (v := .agg (ef c).toArray) rfl ?_;refine aa (v := vb d) rfl ?_;refine cX h1 rfl rfl fun H2 h2 => ?_;refine aJ h2 ?_;exact aq (hk H2 h2.to)
abbrev fE (e n : Nat) : Value := .func (.func n) #[vp e] #[]
abbrev eB (e p : Nat) (nx rv : Value) (t : Tk) : SP :=
 blk e (.cells false [vp p, vi t.who, vi t.x.op, vi t.x.flow, vi t.x.a, vi t.x.b, vi t.s, nx, vi t.i, vi t.obj, vb t.found, rv, vu t.w, vu t.q, vi t.mark, vu t.top])
def Bz : Nat → Nat
 | 0 => m6 | 2 => kz | 3 => dn | 4 => fc | 5 => fe | 6 => ii | 7 => cp | 8 => mu
 | 9 => ky | 10 => pC | 11 => mz | 12 => kw | 13 => mA | 14 => mr | 15 => pD | 16 => fN
 | 17 => fM | 18 => gy | 20 => mq | 21 => kA | 22 => dR | 23 => mv | 24 => my | _ => pB
def Kq (rp : List Nat) (t : Tk) (v : Value) : Prop := 7 ≤ t.at' → ∃ b, rp[t.obj]? = some b ∧ v = vp b
def eP (e p : Nat) (rp : List Nat) (σ : aN) (t : Tk) : SP := ex fun v : Value => pu (Kq rp t v) * (eB e p (fE e (Bz t.at')) v t * bn p rp σ)
def eQ (e p : Nat) (rp : List Nat) (r : aN × Tk × Bool) : SP := if r.2.2 = true then bn p rp r.1 else eP e p rp r.1 r.2.1
abbrev ce (r : aN × Tk × Bool) : Value := .tuple #[.agg (ef (if r.2.2 = true then r.2.1.code else 0)).toArray, vb r.2.2]
theorem QP {e p : Nat} {rp : List Nat} {σ : aN} {t : Tk} {R : SP} {H : AH} (h : ae (eP e p rp σ t * R) H) : ∃ v, Kq rp t v ∧ ae (eB e p (fE e (Bz t.at')) v t * (bn p rp σ * R)) H := by
 obtain ⟨v, h1⟩ := ae.ex.1 h;rw [ai, ae.pu] at h1;exact ⟨v, h1.1, h1.2.to⟩
theorem Lw {e p : Nat} {rp : List Nat} {σ : aN} {t : Tk} {R : SP} {H : AH} {v : Value} {n : Nat} (hv : Kq rp t v) (hn : Bz t.at' = n) (h : ae (eB e p (fE e n) v t * (bn p rp σ * R)) H) : ae (eP e p rp σ t * R) H := by
 subst hn;exact ae.ex.2 ⟨v, by rw [ai]; exact ae.pu.2 ⟨hv, h.to⟩⟩
section
variable (e p : Nat)
theorem ai8 (nx rv : Value) (n : Nat) (t : Tk) : Sp bJ [vp e, fE e n] (eB e p nx rv t) (fun _ : Unit => .tuple #[.agg (ef 0).toArray, vb false]) (fun _ => eB e p (fE e n) rv t) := by
 refine br (XS _ _) fun R H h => ?_;refine bf h fun b H1 h1 => ?_;refine bi h1 ac rfl rfl fun H2 h2 => ?_;refine iz ?_;refine cX h2 rfl rfl fun H3 h3 => ?_;refine aJ h3 ?_;exact aq ⟨(), rfl, h3.to⟩
theorem aiG (rp : List Nat) (σ : aN) (step who code : Int) (hp : σ.pts.length < 1000000) : Sp gc [vp p, vi step, vi who, .agg (ef code).toArray] (bn p rp σ) (fun _ : Unit => .tuple #[]) (fun _ => bn p rp (σ.note step who code)) := by
 refine aP fun R H h => ?_;obtain ⟨g, hrp, hg, h0⟩ := dZ h;unfold aE at h0;refine bg (fun r => t6 _ _ _ _ H) ?_;refine aS h0 fun b1 H1 h1 => ?_;refine bz ac ?_;refine aR h1 rfl ?_;refine bz ac ?_;refine aR h1 rfl ?_;refine Tx (ek := Nm) who h1 ?_;refine aJ h1 ?_;refine ag h1 (Gl code) fun _ H2 h2 => ?_;refine aH h2 h1 rfl ?_;refine aH h2 h1 rfl ?_;refine adA who h2 h1 ?_
 have ev : (((σ.places who).map fun n => vi n).getD (vi 0)) = vi ((σ.places who).getD 0) := by cases σ.places who <;> rfl
 rw [ev];refine iz ?_;refine Nq h2 fun b0 H3 h3 => ?_;refine iL (⟨step, who, (σ.places who).getD 0, code⟩ : Pt) h3 rfl ?_ (by omega) fun a cc H4 h4 => ?_
 ·unfold room; omega
 refine bi h4 ac rfl rfl fun H5 h5 => ?_;refine aq ⟨(), rfl, ?_⟩;refine bG { g with pv := .slice a (σ.pts.length + 1) cc } hrp hg ?_;unfold aE aN.note;exact h5.to
theorem wE (rp : List Nat) (σ : aN) (nx rv : Value) (t : Tk) (now code : Int) (hp : σ.pts.length < 1000000) :
 Sp mw [vp e, vi now, vi code] (eB e p nx rv t * bn p rp σ) (fun _ : Unit => .tuple #[]) (fun _ => eB e p nx rv t * bn p rp (σ.note now t.who code)) := by
 refine br (NU _ _ _) fun R H h => ?_;refine aj h ac rfl ?_;refine aj h ac rfl ?_;refine iz ?_;refine ag h (aiG p rp σ now t.who code hp) fun _ H1 h1 => ?_;exact aq ⟨(), rfl, h1.to⟩
theorem As (rp : List Nat) (σ : aN) (nx rv : Value) (t : Tk) (now code : Int) (hp : σ.pts.length < 1000000) :
 Sp jq [vp e, vi now, vi code] (eB e p nx rv t * bn p rp σ) (fun _ : Unit => .tuple #[.agg (ef code).toArray, vb true]) (fun _ => eB e p nx rv t * bn p rp (σ.note now t.who code)) := by
 refine br (Iu _ _ _) fun R H h => ?_;refine bf h fun b H1 h1 => ?_;refine ag h1 (wE e p rp σ nx rv t now code hp) fun _ H2 h2 => ?_;exact nG h2 (wD (vp e) code) fun H3 h3 => ⟨(), rfl, h3.to⟩
end
theorem Tz {α : Type} {P : SP} {H : AH} {e n g i : Nat} {enc : α → List Value} {l : List α} {s : Value} {Q : Value → AH → Prop} {k : Value → OV} {kk : IntKind} {cs : List Value} (h : ae P H) [r : Rd P s e enc l] [E : Enc enc e] (hi : i < l.length) (hg : g + n ≤ e)
 (hc : ((enc l[i]).drop g).take n = cs) (hk : wp (k (.agg cs.toArray)) Q) : wp (ldN n [.i e (.int kk (i : Int)), .f g] s H k) Q := by
 subst hc;obtain ⟨b, o, ro, row, rfl, h2, h3, h4⟩ := PH (s := s) (enc := enc) (l := l) h hi;unfold ldN;rw [Xp hi, ak0];have hm : (i + 1) * e ≤ l.length * e := Nat.mul_le_mul_right _ (by omega);rw [Nat.add_mul] at hm
 have : ay n (uH b (o + i * e + g)) H = some (.agg (((enc l[i]).drop g).take n).toArray) := by
  simp only [ay, vB, eK, bL, h2];rw [if_pos (by omega)]
  congr 3
  rw [← JB E.len l i hi, ← h4, List.drop_take, List.drop_take, List.drop_take, List.drop_drop, List.drop_drop, List.take_take, List.take_take, Nat.min_eq_left (by omega), Nat.min_eq_left (by omega), Nat.add_assoc]
 show wp ((ay n (uH b (o + i * e + g)) H).bind k) Q;rw [this]; exact hk
structure SOk (σ : aN) : Prop where
 c : bZ σ.c = true
 N : σ.μ.N < 800000
 pts : σ.pts.length < 900000
 V : ∀ l, σ.μ.V l < 18446744073709551616
 obs : σ.obs.length < 900000
 cells : ∀ o, o < σ.obs.length → 1 ≤ (au σ o).length ∧ (au σ o).length < 1000
 slot : ∀ s i, σ.μ.V (10, s, i) ≠ 0 → σ.μ.V (10, s, i) % 4294967296 < σ.obs.length
structure hU (σ : aN) (t : Tk) : Prop where
 obj : 6 ≤ t.at' ∨ t.at' = 5 ∧ t.found = true → t.obj < σ.obs.length
 s : t.s = (t.x.flow.tmod σ.c.sh + σ.c.sh).tmod σ.c.sh
 i : t.at' < 5 → t.at' ≠ 3 → (t.i : Int) < σ.c.sl
 w : t.w < 18446744073709551616
 c5 : t.at' = 5 → t.found = false → t.code = 5
 c0 : t.at' = 10 ∨ t.at' = 11 ∨ t.at' = 14 ∨ 21 ≤ t.at' → t.code = 0
 ats : t.at' = 0 ∨ t.at' = 2 ∨ t.at' = 3 ∨ t.at' = 4 ∨ t.at' = 5 ∨ t.at' = 6 ∨ t.at' = 7 ∨ t.at' = 8 ∨ t.at' = 9 ∨ t.at' = 10 ∨ t.at' = 11 ∨ t.at' = 12 ∨ t.at' = 13 ∨ t.at' = 14 ∨ t.at' = 15 ∨ t.at' = 16 ∨ t.at' = 17 ∨ t.at' = 18 ∨ t.at' = 20 ∨ t.at' = 21 ∨ t.at' = 22 ∨ t.at' = 23 ∨ t.at' = 24 ∨ t.at' = 25
section
variable (e p : Nat) (rp : List Nat) (g : PIds) (σ : aN) (nx rv : Value) (t : Tk) (now : Int)
theorem sG (hl : g.rp.length = σ.obs.length) (o : Nat) (ho : o < σ.obs.length) : Sp ge [vp p, vi o] (aE p g σ) (fun _ : Unit => vb true) (fun _ => aE p g σ) := by
 have hz : ((σ.obs.map fun x => x.1).zip g.rp).length = σ.obs.length := by simp [hl]
 refine aP fun R H h => ?_;have h0 := h;unfold aE at h0;refine bg (fun r => t8 _ _ H) ?_;refine aa (r7 (by omega)) ?_;refine gs ?_;refine aj h ac rfl ?_;refine gs ?_;refine yV (s := g.ov) h0 ?_;rw [hz];refine gs ?_;refine aa (cK (by omega)) ?_;refine gs ?_;exact aq ⟨(), rfl, h⟩
theorem od (hl : g.rp.length = σ.obs.length) (o b : Nat) (ho : o < σ.obs.length) (hb : g.rp[o]? = some b) : Sp dp [vp p, vi o] (aE p g σ) (fun _ : Unit => vp b) (fun _ => aE p g σ) := by
 have hz : ((σ.obs.map fun x => x.1).zip g.rp).length = σ.obs.length := by simp [hl]
 refine br (t7 _ _) fun R H h => ?_;refine ag h (sG p g σ hl o ho) fun _ H1 h1 => ?_;refine gs ?_;rw [Bool.not_true];refine gs ?_;refine aj h1 ac rfl ?_;have h2 := h1;unfold aE at h2
 have hb' : g.rp[o]'(by omega) = b := by rw [cS (by omega)] at hb; exact gr hb
 refine adC (v := vp b) (enc := F6) (l := (σ.obs.map fun x : Ob × List Pk => x.1).zip g.rp) h2 (by omega) (by omega) ?_ ?_
 ·show some (vp ((σ.obs.map fun x => x.1).zip g.rp)[o].2) = _
  rw [List.getElem_zip, hb']
 exact aq ⟨(), rfl, h1.to⟩
theorem Pj (hl : g.rp.length = σ.obs.length) (who : Int) (o : Nat) (ho : o < σ.obs.length) (hN : σ.μ.N < 800000) : Sp ff [vp p, vi who, vi o] (aE p g σ) (fun v : Value => v) (fun _ => aE p g (σ.mem (σ.μ.acc who 5 (13, (o : Int), 0)))) := by
 have hz : ((σ.obs.map fun x => x.1).zip g.rp).length = σ.obs.length := by simp [hl]
 refine br (nl _ _ _) fun R H h => ?_;refine bf h fun b H1 h1 => ?_;refine ag h1 (sG p g σ hl o ho) fun _ H2 h2 => ?_;refine gs ?_;rw [Bool.not_true];refine gs ?_;refine aj h2 ac rfl ?_;refine iz ?_;refine ag h2 (KO (p := p) (g := g) (σ := σ) ((Mi g.m σ.μ who (13, (o : Int), 0) (by omega)).imp fun _ R H h => jE (N' := σ.μ.N + 2) (by simp) h)) fun _ H3 h3 => ?_;refine aj h3 ac rfl ?_;have h4 := h3;unfold aE at h4;refine Tz (enc := F6) (l := (σ.obs.map fun x : Ob × List Pk => x.1).zip g.rp) h4 (by omega) (by omega) (show _ = [_, _, _] from rfl) ?_;refine cX h3 rfl rfl fun H5 h5 => ?_;refine aJ h5 ?_;exact aq ⟨_, rfl, h5.to⟩
theorem qn (who : Int) (hN : σ.μ.N < 800000) : Sp dD [vp p, vi who] (aE p g σ) (fun _ : Unit => vu (σ.μ.V (2, 0, 0))) (fun _ => aE p g (σ.mem (σ.μ.acc who 1 (2, 0, 0)))) := by
 refine br (vD _ _) fun R H h => ?_;refine aj h ac rfl ?_;refine iz ?_;refine ag h (KO (p := p) (g := g) (σ := σ) (EJ g.m σ.μ who (2, 0, 0) (by omega))) fun _ H1 h1 => ?_;exact aq ⟨(), rfl, h1.to⟩
theorem Fl (b : Bool) (h : f9 (σ.μ.V (10, t.s, (t.i : Int))) t.x.flow = b) : aW σ t = { t with i := t.i + 1, found := b, obj := if b = true then σ.μ.V (10, t.s, (t.i : Int)) % 4294967296 else t.obj } := by
 subst h
 rfl
theorem QR (S : SOk σ) (hi : (t.i : Int) < σ.c.sl) : Sp xC [vp e] (eB e p nx rv t * aE p g σ) (fun _ : Unit => vb (bK σ (aW σ t))) (fun _ => eB e p nx rv (aW σ t) * aE p g (ba σ t)) := by
 have hc := bo.1 S.c;refine br (T6 _) fun R H h => ?_;refine aj h ac rfl ?_;refine aj h ac rfl ?_;refine aj h ac rfl ?_;refine aj h ac rfl ?_;refine aj h ac rfl ?_;refine ag h (ue (p := p) (g := g) (σ := σ) (s8 g.tb g.m σ.c.sh.toNat σ.c.sl.toNat σ.μ t.who t.s t.i (by have := S.N; omega) (S.V _))) fun _ H1 h1 => ?_
 have fin : ∀ (t1 : Tk) (H' : AH), t1.i = t.i + 1 → ae (eB e p nx rv t1 * (aE p g (ba σ t) * R)) H' → wp (tx (vp e) (vb false) H') fun v' H' => ∃ _x : Unit, v' = vb (bK σ t1) ∧ ae (eB e p nx rv t1 * aE p g (ba σ t) * R) H' := by
  intro t1 H' hi1 h';refine ah (It _ _ H') ?_;refine bz ac ?_;refine aR h' rfl ?_;refine aj h' ac rfl ?_;refine aj h' ac rfl ?_;refine ag h' (CD (p := p) (g := g) (σ := ba σ t) (AT g.tb g.m σ.c.sh.toNat σ.c.sl.toNat)) fun _ H2 h2 => ?_;refine aH h2 h' (by rfl) ?_;refine aa (v := vb (bK σ t1)) ?_ ?_
  ·rw [tr]
   congr 3
   apply propext;omega
  exact aq ⟨(), rfl, h2.to⟩
 by_cases hv : σ.μ.V (10, t.s, (t.i : Int)) = 0
 ·have e1 : gP (σ.μ.V (10, t.s, (t.i : Int))) = .tuple #[vi 0, vi 0, vb false] := by rw [gP, if_pos hv]
  rw [e1];refine aa (v := vi 0) rfl ?_;refine aa (v := vi 0) rfl ?_;refine aa (v := vb false) rfl ?_;refine aj h1 ac rfl ?_;refine aa (aM (by omega) (by omega)) ?_;rw [show ((t.i : Nat) : Int) + 1 = ((t.i + 1 : Nat) : Int) from by omega];refine bi h1 ac rfl rfl fun H2 h2 => ?_;refine ah (wA _ _ _ _ _ H2) ?_;refine gs ?_;refine bi h2 ac rfl rfl fun H3 h3 => ?_;refine aj h3 ac rfl ?_;refine gs ?_
  have e2 : aW σ t = { t with i := t.i + 1, found := false } := by
   have : f9 (σ.μ.V (10, t.s, (t.i : Int))) t.x.flow = false := by simp [f9, hv]
   exact (Fl σ t _ this).trans rfl
  rw [e2];exact fin _ H3 rfl h3.to
 ·have e1 : gP (σ.μ.V (10, t.s, (t.i : Int))) = .tuple #[vi ((σ.μ.V (10, t.s, (t.i : Int)) / 4294967296 : Nat) - 1), vi (σ.μ.V (10, t.s, (t.i : Int)) % 4294967296 : Nat), vb true] := by rw [gP, if_neg hv]
  rw [e1];refine aa (v := vi ((σ.μ.V (10, t.s, (t.i : Int)) / 4294967296 : Nat) - 1)) rfl ?_;refine aa (v := vi (σ.μ.V (10, t.s, (t.i : Int)) % 4294967296 : Nat)) rfl ?_;refine aa (v := vb true) rfl ?_;refine aj h1 ac rfl ?_;refine aa (aM (by omega) (by omega)) ?_;rw [show ((t.i : Nat) : Int) + 1 = ((t.i + 1 : Nat) : Int) from by omega];refine bi h1 ac rfl rfl fun H2 h2 => ?_;refine ah (wA _ _ _ _ _ H2) ?_;refine gs ?_;refine aj h2 (bV (aO (aO aY))) rfl ?_
  by_cases hf : ((σ.μ.V (10, t.s, (t.i : Int)) / 4294967296 : Nat) : Int) - 1 = t.x.flow
  ·refine ml ?_
   refine aa (bk hf) ?_;refine gs ?_;refine bi h2 ac rfl rfl fun H3 h3 => ?_;refine aj h3 ac rfl ?_;refine gs ?_;refine bi h3 ac rfl rfl fun H4 h4 => ?_
   have e2 : aW σ t = { t with i := t.i + 1, found := true, obj := σ.μ.V (10, t.s, (t.i : Int)) % 4294967296 } := by
    have : f9 (σ.μ.V (10, t.s, (t.i : Int))) t.x.flow = true := dj ⟨hv, hf⟩;exact (Fl σ t _ this).trans rfl
   rw [e2];exact fin _ H4 rfl h4.to
  ·refine ml ?_
   refine aa (aG hf) ?_;refine gs ?_;refine bi h2 ac rfl rfl fun H3 h3 => ?_;refine aj h3 ac rfl ?_;refine gs ?_
   have e2 : aW σ t = { t with i := t.i + 1, found := false } := by
    have : f9 (σ.μ.V (10, t.s, (t.i : Int))) t.x.flow = false := dP fun q => hf q.2;exact (Fl σ t _ this).trans rfl
   rw [e2];exact fin _ H3 rfl h3.to
end
theorem i7 {rp : List Nat} {t : Tk} {v : Value} (h : t.at' < 7) : Kq rp t v := fun h' => by omega
theorem cU {rp : List Nat} {t : Tk} {b : Nat} (h : rp[t.obj]? = some b) : Kq rp t (vp b) := fun _ => ⟨b, h, rfl⟩
section
variable {e p : Nat} {rp : List Nat} {g : PIds} {σ σ' : aN} {t t' : Tk} {R P : SP} {H : AH} {r : aN × Tk × Bool} {v : Value} {n : Nat} {c : Int}
theorem dQ (h : ae (eP e p rp σ t * R) H) : ∃ (nx rv : Value) (g : PIds), Kq rp t rv ∧ g.rp = rp ∧ rp.length = σ.obs.length ∧ nx = fE e (Bz t.at') ∧ ae (eB e p nx rv t * (aE p g σ * R)) H := by
 obtain ⟨rv, h1, h2⟩ := QP h;obtain ⟨g, h3, h4, h5⟩ := dZ (p := p) (rp := rp) (σ := σ) (R := eB e p (fE e (Bz t.at')) rv t * R) (H := H) h2.to;exact ⟨_, rv, g, h1, h3, h4, rfl, h5.to⟩
theorem Ix (hr : r = (σ', t', false)) (hv : Kq rp t' v) (hn : Bz t'.at' = n) (h : ae (eB e p (fE e n) v t' * (bn p rp σ' * R)) H) :
 ∃ x : Unit, (.tuple #[.agg (ef 0).toArray, vb false]) = ce r ∧ ae (eQ e p rp r * R) H := by
 subst hr;exact ⟨(), rfl, Lw hv hn h⟩
theorem dX (hr : r = (σ', t', false)) (hv : Kq g.rp t' v) (hn : Bz t'.at' = n) (hl : g.rp.length = σ'.obs.length) (h : ae (eB e p (fE e n) v t' * (aE p g σ' * R)) H) :
 ∃ x : Unit, (.tuple #[.agg (ef 0).toArray, vb false]) = ce r ∧ ae (eQ e p g.rp r * R) H := by
 refine Ix hr hv hn ?_;have h1 := bG (p := p) (rp := g.rp) (σ := σ') (R := eB e p (fE e n) v t' * R) g rfl hl h.to;exact h1.to
theorem Do (hr : r = (σ', t', true)) (hc : t'.code = c) (h : ae (bn p rp σ' * R) H) :
 ∃ x : Unit, (.tuple #[.agg (ef c).toArray, vb true]) = ce r ∧ ae (eQ e p rp r * R) H := by
 subst hr;subst hc;exact ⟨(), rfl, h⟩
theorem hJ (nx rv : Value) (t' : Tk) (n : Nat) {b : Nat} {Q : Value → AH → Prop} (h : ae P H) [fr : Fr P (eB e p nx rv t' * blk b (.cells false [vi 0, .slice none 0 0, vi 0, vw 0])) R]
 (hk : ∀ H', ae (eB e p (fE e n) rv t' * R) H' → Q (.tuple #[.agg (ef 0).toArray, vb false]) H') :
 wp ((FF bJ [vp e, fE e n] H).bind fun r2 => (af r2.1 0).bind fun v3 => (af r2.1 1).bind fun v4 => (cf 4 (vp b) v3 r2.2).bind fun H5 => (ay 4 (vp b) H5).bind fun v6 => some (Value.tuple #[v6, v4], H5)) Q :=
 nG h (ai8 e p nx rv n t') hk
end
section
variable (e p : Nat) (rp : List Nat) (σ : aN) (t : Tk) (now : Int)
theorem WN (S : SOk σ) (T : hU σ t) (hat : t.at' = 3) : Sp dn [vp e, vi now] (eP e p rp σ t) (fun _ : Unit => ce (ak σ t now)) (fun _ => eQ e p rp (ak σ t now)) := by
 have hN : σ.μ.N < 1099511627000 := by have := S.N; omega
 refine aP fun R H h => ?_;obtain ⟨nx, rv, g, hv, rfl, hl, _, h0⟩ := dQ h;refine bg (fun r => NS _ _ H) ?_;refine bf h0 fun b1 H1 h1 => ?_;refine aj h1 ac rfl ?_;refine aj h1 ac rfl ?_;refine aj h1 ac rfl ?_;refine aj h1 ac rfl ?_;refine ag h1 (ue (p := p) (g := g) (σ := σ) (wh g.tb g.m σ.c.sh.toNat σ.c.sl.toNat σ.μ t.who t.s hN)) fun _ H2 h2 => ?_
 by_cases hw : σ.μ.V (8, t.s, 0) = 0
 ·rw [dj hw]
  refine gs ?_;rw [Bool.not_true];refine gs ?_;refine bi h2 ac rfl rfl fun H3 h3 => ?_;refine hJ (e := e) (p := p) nx rv { t with at' := 4, i := 0 } fc h3 fun H9 h9 => ?_;exact dX (σ' := σ.mem (σ.μ.swp t.who (8, t.s, 0) 0 1)) (t' := { t with at' := 4, i := 0 }) (v := rv) (n := fc) (by simp only [ak, hat]; rw [if_pos hw]) (i7 (by simp)) rfl hl h9.to
 ·rw [dP hw]
  refine gs ?_;rw [Bool.not_false];refine gs ?_;refine hJ (e := e) (p := p) nx rv t dn h2 fun H9 h9 => ?_;exact dX (σ' := σ.mem (σ.μ.swp t.who (8, t.s, 0) 0 1)) (t' := t) (v := rv) (n := dn) (by simp only [ak, hat]; rw [if_neg hw]) (i7 (by omega)) (by rw [hat]; rfl) hl h9.to
theorem MZ (S : SOk σ) (T : hU σ t) (hat : t.at' = 5) : Sp fe [vp e, vi now] (eP e p rp σ t) (fun _ : Unit => ce (ak σ t now)) (fun _ => eQ e p rp (ak σ t now)) := by
 have hN : σ.μ.N < 1099511627000 := by have := S.N; omega
 refine aP fun R H h => ?_;obtain ⟨nx, rv, g, hv, rfl, hl, _, h0⟩ := dQ h;refine bg (fun r => Iw _ _ H) ?_;refine bf h0 fun b1 H1 h1 => ?_;refine aj h1 ac rfl ?_;refine aj h1 ac rfl ?_;refine aj h1 ac rfl ?_;refine aj h1 ac rfl ?_;refine ag h1 (ue (p := p) (g := g) (σ := σ) (yQ g.tb g.m σ.c.sh.toNat σ.c.sl.toNat σ.μ t.who t.s hN)) fun _ H2 h2 => ?_;refine aj h2 ac rfl ?_;cases hf : t.found
 ·refine gs ?_
  rw [Bool.not_false];refine gs ?_;refine nG h2 (wD (vp e) 5) fun H9 h9 => ?_;exact Do (σ' := σ.mem ((σ.μ.acc t.who 2 (8, t.s, 0)).put (8, t.s, 0) 0)) (t' := { t with at' := 6 }) (by simp only [ak, hat, hf]; rfl) (T.c5 hat hf) (bG (p := p) (rp := g.rp) (R := R) g rfl hl h9.to)
 ·refine gs ?_
  rw [Bool.not_true];refine gs ?_;refine hJ (e := e) (p := p) nx rv { t with at' := 6 } ii h2 fun H9 h9 => ?_;exact dX (σ' := σ.mem ((σ.μ.acc t.who 2 (8, t.s, 0)).put (8, t.s, 0) 0)) (t' := { t with at' := 6 }) (v := rv) (n := ii) (by simp only [ak, hat, hf]; rfl) (i7 (by simp)) rfl hl h9.to
theorem WO (S : SOk σ) (T : hU σ t) (hat : t.at' = 6) : Sp ii [vp e, vi now] (eP e p rp σ t) (fun _ : Unit => ce (ak σ t now)) (fun _ => eQ e p rp (ak σ t now)) := by
 have hN : σ.μ.N < 1099511627000 := by have := S.N; omega
 refine aP fun R H h => ?_;obtain ⟨nx, rv, g, hv, rfl, hl, _, h0⟩ := dQ h;have ho := T.obj (.inl (by omega));obtain ⟨b, hb⟩ : ∃ b, g.rp[t.obj]? = some b := ⟨_, cS (by omega)⟩;refine bg (fun r => NT _ _ H) ?_;refine bf h0 fun b1 H1 h1 => ?_;refine aj h1 ac rfl ?_;refine aj h1 ac rfl ?_;refine aj h1 ac rfl ?_;refine ag h1 (Pj p g σ hl t.who t.obj ho S.N) fun _ H2 h2 => ?_;refine aj h2 ac rfl ?_;refine aj h2 ac rfl ?_;refine ag h2 (od p g (σ.mem (σ.μ.acc t.who 5 (13, (t.obj : Int), 0))) hl t.obj b ho hb) fun _ H3 h3 => ?_;refine bi h3 ac rfl rfl fun H4 h4 => ?_;refine hJ (e := e) (p := p) nx (vp b) { t with at' := 7 } cp h4 fun H9 h9 => ?_;exact dX (σ' := σ.mem (σ.μ.acc t.who 5 (13, (t.obj : Int), 0))) (t' := { t with at' := 7 }) (v := (vp b)) (n := cp) (by simp only [ak, hat]) (cU hb) rfl hl h9.to
theorem WS (S : SOk σ) (T : hU σ t) (hat : t.at' = 7) : Sp cp [vp e, vi now] (eP e p rp σ t) (fun _ : Unit => ce (ak σ t now)) (fun _ => eQ e p rp (ak σ t now)) := by
 have hN : σ.μ.N < 1099511627000 := by have := S.N; omega
 refine aP fun R H h => ?_;obtain ⟨nx, rv, g, hv, rfl, hl, _, h0⟩ := dQ h;obtain ⟨b, hb, rfl⟩ := hv (by omega);have ho := T.obj (.inl (by omega));refine bg (fun r => NZ _ _ H) ?_;refine bf h0 fun b1 H1 h1 => ?_;refine aj h1 ac rfl ?_;refine aj h1 ac rfl ?_;refine ag h1 (kQ (p := p) hl ho hb (Ab g.m t.obj b (au σ t.obj) σ.μ t.who hN)) fun _ H2 h2 => ?_;refine bi h2 ac rfl rfl fun H3 h3 => ?_;refine aj h3 ac rfl ?_;refine ag h3 (kO _ (S.V _)) fun _ H4 h4 => ?_
 by_cases hw : aZ (σ.μ.V (11, (t.obj : Int), 0)) = 2
 ·refine aa (bk hw) ?_
  refine gs ?_;refine hJ (e := e) (p := p) nx (vp b) { t with w := σ.μ.V (11, (t.obj : Int), 0), at' := 3 } dn h4 fun H9 h9 => ?_;exact dX (σ' := dg σ t) (t' := { t with w := σ.μ.V (11, (t.obj : Int), 0), at' := 3 }) (v := (vp b)) (n := dn) (by simp only [ak, hat]; rw [if_pos hw]) (i7 (by simp)) rfl hl h9.to
 ·refine aa (aG hw) ?_
  refine gs ?_;refine hJ (e := e) (p := p) nx (vp b) { t with w := σ.μ.V (11, (t.obj : Int), 0), at' := 8 } mu h4 fun H9 h9 => ?_;exact dX (σ' := dg σ t) (t' := { t with w := σ.μ.V (11, (t.obj : Int), 0), at' := 8 }) (v := (vp b)) (n := mu) (by simp only [ak, hat]; rw [if_neg hw]) (cU hb) rfl hl h9.to
theorem Fy (S : SOk σ) (T : hU σ t) (hat : t.at' = 16) : Sp fN [vp e, vi now] (eP e p rp σ t) (fun _ : Unit => ce (ak σ t now)) (fun _ => eQ e p rp (ak σ t now)) := by
 have hN : σ.μ.N < 1099511627000 := by have := S.N; omega
 refine aP fun R H h => ?_;obtain ⟨nx, rv, g, hv, rfl, hl, _, h0⟩ := dQ h;obtain ⟨b, hb, rfl⟩ := hv (by omega);have ho := T.obj (.inl (by omega));refine bg (fun r => Ba _ _ H) ?_;refine bf h0 fun b1 H1 h1 => ?_;refine aj h1 ac rfl ?_;refine aj h1 ac rfl ?_;refine ag h1 (kQ (p := p) hl ho hb (Ab g.m t.obj b (au σ t.obj) σ.μ t.who hN)) fun _ H2 h2 => ?_;refine bi h2 ac rfl rfl fun H3 h3 => ?_;refine aj h3 ac rfl ?_;refine ag h3 (kO _ (S.V _)) fun _ H4 h4 => ?_
 by_cases hw : aZ (σ.μ.V (11, (t.obj : Int), 0)) = 2
 ·refine aa (bk hw) ?_
  refine gs ?_;refine hJ (e := e) (p := p) nx (vp b) { t with w := σ.μ.V (11, (t.obj : Int), 0), at' := 3 } dn h4 fun H9 h9 => ?_;exact dX (σ' := dg σ t) (t' := { t with w := σ.μ.V (11, (t.obj : Int), 0), at' := 3 }) (v := (vp b)) (n := dn) (by simp only [ak, hat]; rw [if_pos hw]) (i7 (by simp)) rfl hl h9.to
 ·refine aa (aG hw) ?_
  refine gs ?_;refine hJ (e := e) (p := p) nx (vp b) { t with w := σ.μ.V (11, (t.obj : Int), 0), at' := 17 } fM h4 fun H9 h9 => ?_;exact dX (σ' := dg σ t) (t' := { t with w := σ.μ.V (11, (t.obj : Int), 0), at' := 17 }) (v := (vp b)) (n := fM) (by simp only [ak, hat]; rw [if_neg hw]) (cU hb) rfl hl h9.to
theorem WL (S : SOk σ) (T : hU σ t) (hat : t.at' = 8) : Sp mu [vp e, vi now] (eP e p rp σ t) (fun _ : Unit => ce (ak σ t now)) (fun _ => eQ e p rp (ak σ t now)) := by
 have hN : σ.μ.N < 1099511627000 := by have := S.N; omega
 refine aP fun R H h => ?_;obtain ⟨nx, rv, g, hv, rfl, hl, _, h0⟩ := dQ h;obtain ⟨b, hb, rfl⟩ := hv (by omega);have ho := T.obj (.inl (by omega));refine bg (fun r => NQ _ _ H) ?_;refine bf h0 fun b1 H1 h1 => ?_;refine aj h1 ac rfl ?_;refine aj h1 ac rfl ?_;refine ag h1 (kQ (p := p) hl ho hb (HM g.m t.obj b (au σ t.obj) σ.μ t.who hN)) fun _ H2 h2 => ?_;refine ah (F1 _ _ _ _ H2) ?_;refine aj h2 ac rfl ?_;refine aj h2 ac rfl ?_;refine ag h2 (Ij (p := p) (σ := jA σ t) hl ho hb (HL g.m t.obj b (au σ t.obj) t.w (σ.μ.V (12, (t.obj : Int), 0)) T.w (S.cells _ ho).2)) fun _ H3 h3 => ?_;cases hf : gG t.w (σ.μ.V (12, (t.obj : Int), 0)) (au σ t.obj).length
 ·refine gs ?_
  refine aj h3 ac rfl ?_;refine ag h3 (kO _ T.w) fun _ H4 h4 => ?_
  by_cases hw : aZ t.w = 1
  ·refine aa (bk hw) ?_
   refine gs ?_;refine hJ (e := e) (p := p) nx (vp b) { t with at' := 9 } ky h4 fun H9 h9 => ?_;exact dX (σ' := jA σ t) (t' := { t with at' := 9 }) (v := (vp b)) (n := ky) (by simp only [ak, hat, j9, hf]; rw [if_pos hw]; rfl) (cU hb) rfl hl h9.to
  ·refine aa (aG hw) ?_
   refine gs ?_;refine ah (F2 _ _ _ H4) ?_;refine hJ (e := e) (p := p) nx (vp b) { t with at' := 12 } kw h4 fun H9 h9 => ?_;exact dX (σ' := jA σ t) (t' := { t with at' := 12 }) (v := (vp b)) (n := kw) (by simp only [ak, hat, j9, hf]; rw [if_neg hw]; rfl) (cU hb) rfl hl h9.to
 ·refine gs ?_
  refine hJ (e := e) (p := p) nx (vp b) { t with at' := 15 } pD h3 fun H9 h9 => ?_;exact dX (σ' := jA σ t) (t' := { t with at' := 15 }) (v := (vp b)) (n := pD) (by simp only [ak, hat, j9, hf]; rfl) (cU hb) rfl hl h9.to
theorem P8 (S : SOk σ) (T : hU σ t) (hat : t.at' = 9) : Sp ky [vp e, vi now] (eP e p rp σ t) (fun _ : Unit => ce (ak σ t now)) (fun _ => eQ e p rp (ak σ t now)) := by
 have hN : σ.μ.N < 1099511627000 := by have := S.N; omega
 refine aP fun R H h => ?_;obtain ⟨nx, rv, g, hv, rfl, hl, _, h0⟩ := dQ h;obtain ⟨b, hb, rfl⟩ := hv (by omega);have ho := T.obj (.inl (by omega));refine bg (fun r => Lt _ _ H) ?_;refine bf h0 fun b1 H1 h1 => ?_;refine aj h1 ac rfl ?_;refine aj h1 ac rfl ?_;refine aj h1 ac rfl ?_;refine ag h1 (kQ (p := p) hl ho hb (Fk g.m t.obj b (au σ t.obj) σ.μ t.who t.w T.w hN)) fun _ H2 h2 => ?_;cases hw : fD σ.μ t.obj t.w (bd t.w 0)
 ·refine gs ?_
  rw [Bool.not_false];refine gs ?_;refine hJ (e := e) (p := p) nx (vp b) { t with at' := 7 } cp h2 fun H9 h9 => ?_;exact dX (σ' := σ.mem (σ.μ.turn t.who t.obj t.w (bd t.w 0))) (t' := { t with at' := 7 }) (v := (vp b)) (n := cp) (by simp only [ak, hat, hw]; rfl) (cU hb) rfl hl h9.to
 ·refine gs ?_
  rw [Bool.not_true];refine gs ?_;have k2 := bG (p := p) (rp := g.rp) (σ := σ.mem (σ.μ.turn t.who t.obj t.w (bd t.w 0))) (R := eB e p nx (vp b) t * (blk b1 (.cells false [vi 0, .slice none 0 0, vi 0, vw 0]) * R)) g rfl hl h2.to;refine ag k2 (wE e p g.rp (σ.mem (σ.μ.turn t.who t.obj t.w (bd t.w 0))) nx (vp b) t now 0 (by have := S.pts; show σ.pts.length < _; omega)) fun _ H3 h3 => ?_;refine hJ (e := e) (p := p) nx (vp b) { t with at' := 10, code := 0 } pC h3 fun H9 h9 => ?_;exact Ix (σ' := (σ.mem (σ.μ.turn t.who t.obj t.w (bd t.w 0))).note now t.who 0) (t' := { t with at' := 10, code := 0 }) (v := (vp b)) (n := pC) (by simp only [ak, hat, hw]; rfl) (cU hb) rfl h9.to
theorem WR (S : SOk σ) (T : hU σ t) (hat : t.at' = 13) : Sp mA [vp e, vi now] (eP e p rp σ t) (fun _ : Unit => ce (ak σ t now)) (fun _ => eQ e p rp (ak σ t now)) := by
 have hN : σ.μ.N < 1099511627000 := by have := S.N; omega
 refine aP fun R H h => ?_;obtain ⟨nx, rv, g, hv, rfl, hl, _, h0⟩ := dQ h;obtain ⟨b, hb, rfl⟩ := hv (by omega);have ho := T.obj (.inl (by omega));refine bg (fun r => NY _ _ H) ?_;refine bf h0 fun b1 H1 h1 => ?_;refine aj h1 ac rfl ?_;refine aj h1 ac rfl ?_;refine aj h1 ac rfl ?_;refine ag h1 (kQ (p := p) hl ho hb (Fk g.m t.obj b (au σ t.obj) σ.μ t.who t.w T.w hN)) fun _ H2 h2 => ?_;cases hw : fD σ.μ t.obj t.w (bd t.w 0)
 ·refine gs ?_
  rw [Bool.not_false];refine gs ?_;refine hJ (e := e) (p := p) nx (vp b) { t with at' := 20 } mq h2 fun H9 h9 => ?_;exact dX (σ' := σ.mem (σ.μ.turn t.who t.obj t.w (bd t.w 0))) (t' := { t with at' := 20 }) (v := (vp b)) (n := mq) (by simp only [ak, hat, hw]; rfl) (cU hb) rfl hl h9.to
 ·refine gs ?_
  rw [Bool.not_true];refine gs ?_;have k2 := bG (p := p) (rp := g.rp) (σ := σ.mem (σ.μ.turn t.who t.obj t.w (bd t.w 0))) (R := eB e p nx (vp b) t * (blk b1 (.cells false [vi 0, .slice none 0 0, vi 0, vw 0]) * R)) g rfl hl h2.to;refine ag k2 (wE e p g.rp (σ.mem (σ.μ.turn t.who t.obj t.w (bd t.w 0))) nx (vp b) t now 0 (by have := S.pts; show σ.pts.length < _; omega)) fun _ H3 h3 => ?_;refine hJ (e := e) (p := p) nx (vp b) { t with at' := 14, code := 0 } mr h3 fun H9 h9 => ?_;exact Ix (σ' := (σ.mem (σ.μ.turn t.who t.obj t.w (bd t.w 0))).note now t.who 0) (t' := { t with at' := 14, code := 0 }) (v := (vp b)) (n := mr) (by simp only [ak, hat, hw]; rfl) (cU hb) rfl h9.to
theorem Cq (σ : aN) (t : Tk) : px σ t = { σ with μ := σ.μ.acc t.who 6 (16, (t.obj : Int), ((aL t.w % (au σ t.obj).length : Nat) : Int)), obs := σ.obs.modify t.obj fun q => (q.1, (au σ t.obj).set (aL t.w % (au σ t.obj).length) ⟨t.x.flow, t.x.a, t.x.b⟩) } := by
 have eo : (σ.obs.modify t.obj fun q => (q.1, q.2.set (aL t.w % (au σ t.obj).length) (⟨t.x.flow, t.x.a, t.x.b⟩ : Pk))) = σ.obs.modify t.obj fun q => (q.1, (au σ t.obj).set (aL t.w % (au σ t.obj).length) ⟨t.x.flow, t.x.a, t.x.b⟩) := by
  apply List.ext_getElem?;intro j;rw [List.getElem?_modify, List.getElem?_modify]
  cases hj : σ.obs[j]? with
  | none => rfl
  | some q =>
   show some (if t.obj = j then _ else q) = some (if t.obj = j then _ else q)
   by_cases e : t.obj = j
   ·subst e
    rw [if_pos rfl, if_pos rfl];unfold au;rw [hj]; rfl
   ·rw [if_neg e, if_neg e]
 exact congrArg (fun o => ({ σ with μ := σ.μ.acc t.who 6 (16, (t.obj : Int), ((aL t.w % (au σ t.obj).length : Nat) : Int)), obs := o } : aN)) eo
theorem QT (S : SOk σ) (T : hU σ t) (nx : Value) (g : PIds) (b : Nat) (hl : g.rp.length = σ.obs.length) (ho : t.obj < σ.obs.length) (hb : g.rp[t.obj]? = some b) :
 Sp xD [vp e] (eB e p nx (vp b) t * aE p g σ) (fun _ : Unit => .tuple #[]) (fun _ => eB e p nx (vp b) t * aE p g (px σ t)) := by
 have hN : σ.μ.N < 1099511627000 := by have := S.N; omega
 refine br (T7 _) fun R H h => ?_;refine bz ac ?_;refine aR h rfl ?_;refine bz ac ?_;refine aR h rfl ?_;refine aj h ac rfl ?_;refine ag h (jj t.w T.w) fun _ H1 h1 => ?_;refine aH h1 h (by rfl) ?_;refine aH h1 h (by rfl) ?_;refine bz (bV (aO (aO aY))) ?_;refine aR h1 rfl ?_;refine aH h h1 (by rfl) ?_;refine bz (bV (aO (aO aY))) ?_;refine aR h1 rfl ?_;refine aH h h1 (by rfl) ?_;refine bz (bV (aO (aO aY))) ?_;refine aR h1 rfl ?_;refine aH h h1 (by rfl) ?_;refine iz ?_;refine ag h1 (Xd (p := p) hl ho hb (ab3 g.m t.obj b (au σ t.obj) σ.μ t.who (aL t.w) ⟨t.x.flow, t.x.a, t.x.b⟩ (S.cells _ ho) hN)) fun _ H2 h2 => ?_;refine aq ⟨(), rfl, ?_⟩;rw [Cq];exact h2.to
theorem jD (σ : aN) (t : Tk) : (px σ t).obs.length = σ.obs.length := by unfold px; simp
theorem acM (S : SOk σ) (T : hU σ t) (hat : t.at' = 10) : Sp pC [vp e, vi now] (eP e p rp σ t) (fun _ : Unit => ce (ak σ t now)) (fun _ => eQ e p rp (ak σ t now)) := by
 have hN : σ.μ.N < 1099511627000 := by have := S.N; omega
 refine aP fun R H h => ?_;obtain ⟨nx, rv, g, hv, rfl, hl, _, h0⟩ := dQ h;obtain ⟨b, hb, rfl⟩ := hv (by omega);have ho := T.obj (.inl (by omega));refine bg (fun r => T8 _ _ H) ?_;refine bf h0 fun b1 H1 h1 => ?_;refine ag h1 (QT e p σ t S T nx g b hl ho hb) fun _ H2 h2 => ?_;refine hJ (e := e) (p := p) nx (vp b) { t with at' := 11 } mz h2 fun H9 h9 => ?_;exact dX (σ' := px σ t) (t' := { t with at' := 11 }) (v := (vp b)) (n := mz) (by simp only [ak, hat]) (cU hb) rfl (by rw [jD]; exact hl) h9.to
theorem WK (S : SOk σ) (T : hU σ t) (hat : t.at' = 14) : Sp mr [vp e, vi now] (eP e p rp σ t) (fun _ : Unit => ce (ak σ t now)) (fun _ => eQ e p rp (ak σ t now)) := by
 have hN : σ.μ.N < 1099511627000 := by have := S.N; omega
 refine aP fun R H h => ?_;obtain ⟨nx, rv, g, hv, rfl, hl, _, h0⟩ := dQ h;obtain ⟨b, hb, rfl⟩ := hv (by omega);have ho := T.obj (.inl (by omega));refine bg (fun r => NO _ _ H) ?_;refine bf h0 fun b1 H1 h1 => ?_;refine ag h1 (QT e p σ t S T nx g b hl ho hb) fun _ H2 h2 => ?_;refine hJ (e := e) (p := p) nx (vp b) { t with at' := 21 } kA h2 fun H9 h9 => ?_;exact dX (σ' := px σ t) (t' := { t with at' := 21 }) (v := (vp b)) (n := kA) (by simp only [ak, hat]) (cU hb) rfl (by rw [jD]; exact hl) h9.to
theorem WQ (S : SOk σ) (T : hU σ t) (hat : t.at' = 11) : Sp mz [vp e, vi now] (eP e p rp σ t) (fun _ : Unit => ce (ak σ t now)) (fun _ => eQ e p rp (ak σ t now)) := by
 have hN : σ.μ.N < 1099511627000 := by have := S.N; omega
 refine aP fun R H h => ?_;obtain ⟨nx, rv, g, hv, rfl, hl, _, h0⟩ := dQ h;obtain ⟨b, hb, rfl⟩ := hv (by omega);have ho := T.obj (.inl (by omega));refine bg (fun r => NX _ _ H) ?_;refine bf h0 fun b1 H1 h1 => ?_;refine bz ac ?_;refine aR h1 rfl ?_;refine bz ac ?_;refine aR h1 rfl ?_;refine aj h1 ac rfl ?_;refine ag h1 (jj t.w T.w) fun _ H2 h2 => ?_;refine aH h2 h1 (by rfl) ?_;refine aH h2 h1 (by rfl) ?_;have hwc := eV t.w;refine ag h2 (kQ (p := p) hl ho hb (HN g.m t.obj b (au σ t.obj) σ.μ t.who (aL t.w) (by omega) (S.cells _ ho) hN)) fun _ H3 h3 => ?_;refine nG h3 (wD (vp e) 0) fun H9 h9 => ?_;exact Do (σ' := s0 σ t) (t' := t) (by simp only [ak, hat]) (T.c0 (by omega)) (bG (p := p) (rp := g.rp) (R := R) g rfl hl h9.to)
theorem Qa (S : SOk σ) (T : hU σ t) (hat : t.at' = 21) : Sp kA [vp e, vi now] (eP e p rp σ t) (fun _ : Unit => ce (ak σ t now)) (fun _ => eQ e p rp (ak σ t now)) := by
 have hN : σ.μ.N < 1099511627000 := by have := S.N; omega
 refine aP fun R H h => ?_;obtain ⟨nx, rv, g, hv, rfl, hl, _, h0⟩ := dQ h;obtain ⟨b, hb, rfl⟩ := hv (by omega);have ho := T.obj (.inl (by omega));refine bg (fun r => Lv _ _ H) ?_;refine bf h0 fun b1 H1 h1 => ?_;refine bz ac ?_;refine aR h1 rfl ?_;refine bz ac ?_;refine aR h1 rfl ?_;refine aj h1 ac rfl ?_;refine ag h1 (jj t.w T.w) fun _ H2 h2 => ?_;refine aH h2 h1 (by rfl) ?_;refine aH h2 h1 (by rfl) ?_;have hwc := eV t.w;refine ag h2 (kQ (p := p) hl ho hb (HN g.m t.obj b (au σ t.obj) σ.μ t.who (aL t.w) (by omega) (S.cells _ ho) hN)) fun _ H3 h3 => ?_;refine hJ (e := e) (p := p) nx (vp b) { t with at' := 22 } dR h3 fun H9 h9 => ?_;exact dX (σ' := s0 σ t) (t' := { t with at' := 22 }) (v := (vp b)) (n := dR) (by simp only [ak, hat]) (cU hb) rfl hl h9.to
theorem P7 (S : SOk σ) (T : hU σ t) (hat : t.at' = 12) : Sp kw [vp e, vi now] (eP e p rp σ t) (fun _ : Unit => ce (ak σ t now)) (fun _ => eQ e p rp (ak σ t now)) := by
 have hN : σ.μ.N < 1099511627000 := by have := S.N; omega
 refine aP fun R H h => ?_;obtain ⟨nx, rv, g, hv, rfl, hl, _, h0⟩ := dQ h;obtain ⟨b, hb, rfl⟩ := hv (by omega);have ho := T.obj (.inl (by omega));refine bg (fun r => Ls _ _ H) ?_;refine bf h0 fun b1 H1 h1 => ?_;refine aj h1 ac rfl ?_;refine aj h1 ac rfl ?_;refine aj h1 ac rfl ?_;refine ag h1 (GE (p := p) (g := g) (σ := σ) (L8 g.ib g.m g.nm σ.c σ.nx σ.μ t.who hN)) fun _ H2 h2 => ?_;refine hJ (e := e) (p := p) nx (vp b) { t with at' := 13 } mA h2 fun H9 h9 => ?_;exact dX (σ' := σ.mem (σ.μ.cnt t.who (3, 0, 0) 4294967296)) (t' := { t with at' := 13 }) (v := (vp b)) (n := mA) (by simp only [ak, hat]) (cU hb) rfl hl h9.to
theorem WI (S : SOk σ) (T : hU σ t) (hat : t.at' = 20) : Sp mq [vp e, vi now] (eP e p rp σ t) (fun _ : Unit => ce (ak σ t now)) (fun _ => eQ e p rp (ak σ t now)) := by
 have hN : σ.μ.N < 1099511627000 := by have := S.N; omega
 refine aP fun R H h => ?_;obtain ⟨nx, rv, g, hv, rfl, hl, _, h0⟩ := dQ h;obtain ⟨b, hb, rfl⟩ := hv (by omega);have ho := T.obj (.inl (by omega));refine bg (fun r => NN _ _ H) ?_;refine bf h0 fun b1 H1 h1 => ?_;refine aj h1 ac rfl ?_;refine aj h1 ac rfl ?_;refine aj h1 ac rfl ?_;refine ag h1 (GE (p := p) (g := g) (σ := σ) (Hf g.ib g.m g.nm σ.c σ.nx σ.μ t.who hN)) fun _ H2 h2 => ?_;refine hJ (e := e) (p := p) nx (vp b) { t with at' := 7 } cp h2 fun H9 h9 => ?_;exact dX (σ' := σ.mem (σ.μ.cnt t.who (3, 0, 0) 1)) (t' := { t with at' := 7 }) (v := (vp b)) (n := cp) (by simp only [ak, hat]) (cU hb) rfl hl h9.to
theorem acL (S : SOk σ) (T : hU σ t) (hat : t.at' = 25) : Sp pB [vp e, vi now] (eP e p rp σ t) (fun _ : Unit => ce (ak σ t now)) (fun _ => eQ e p rp (ak σ t now)) := by
 have hN : σ.μ.N < 1099511627000 := by have := S.N; omega
 refine aP fun R H h => ?_;obtain ⟨nx, rv, g, hv, rfl, hl, _, h0⟩ := dQ h;obtain ⟨b, hb, rfl⟩ := hv (by omega);have ho := T.obj (.inl (by omega));refine bg (fun r => T5 _ _ H) ?_;refine bf h0 fun b1 H1 h1 => ?_;refine aj h1 ac rfl ?_;refine aj h1 ac rfl ?_;refine aj h1 ac rfl ?_;refine ag h1 (GE (p := p) (g := g) (σ := σ) (Hf g.ib g.m g.nm σ.c σ.nx σ.μ t.who hN)) fun _ H2 h2 => ?_;refine nG h2 (wD (vp e) 0) fun H9 h9 => ?_;exact Do (σ' := σ.mem (σ.μ.cnt t.who (3, 0, 0) 1)) (t' := t) (by simp only [ak, hat]) (T.c0 (by omega)) (bG (p := p) (rp := g.rp) (R := R) g rfl hl h9.to)
theorem Ky (S : SOk σ) (T : hU σ t) (hat : t.at' = 22) : Sp dR [vp e, vi now] (eP e p rp σ t) (fun _ : Unit => ce (ak σ t now)) (fun _ => eQ e p rp (ak σ t now)) := by
 have hN : σ.μ.N < 1099511627000 := by have := S.N; omega
 refine aP fun R H h => ?_;obtain ⟨nx, rv, g, hv, rfl, hl, _, h0⟩ := dQ h;obtain ⟨b, hb, rfl⟩ := hv (by omega);have ho := T.obj (.inl (by omega));refine bg (fun r => F5 _ _ H) ?_;refine bf h0 fun b1 H1 h1 => ?_;refine aj h1 ac rfl ?_;refine aj h1 ac rfl ?_;refine aj h1 ac rfl ?_;refine aj h1 ac rfl ?_;refine ag h1 (GE (p := p) (g := g) (σ := σ) (VT g.ib g.m g.nm σ.c σ.nx σ.μ t.who t.s hN)) fun _ H2 h2 => ?_;refine bi h2 ac rfl rfl fun H3 h3 => ?_;refine hJ (e := e) (p := p) nx (vp b) { t with top := σ.μ.V (9, t.s, 0), at' := 23 } mv h3 fun H9 h9 => ?_;exact dX (σ' := σ.mem (σ.μ.acc t.who 1 (9, t.s, 0))) (t' := { t with top := σ.μ.V (9, t.s, 0), at' := 23 }) (v := (vp b)) (n := mv) (by simp only [ak, hat]) (cU hb) rfl hl h9.to
theorem WM (S : SOk σ) (T : hU σ t) (hat : t.at' = 23) : Sp mv [vp e, vi now] (eP e p rp σ t) (fun _ : Unit => ce (ak σ t now)) (fun _ => eQ e p rp (ak σ t now)) := by
 have hN : σ.μ.N < 1099511627000 := by have := S.N; omega
 refine aP fun R H h => ?_;obtain ⟨nx, rv, g, hv, rfl, hl, _, h0⟩ := dQ h;obtain ⟨b, hb, rfl⟩ := hv (by omega);have ho := T.obj (.inl (by omega));refine bg (fun r => NR _ _ H) ?_;refine bf h0 fun b1 H1 h1 => ?_;refine aj h1 ac rfl ?_;refine aj h1 ac rfl ?_;refine aj h1 ac rfl ?_;refine aj h1 ac rfl ?_;refine aj h1 ac rfl ?_;refine ag h1 (GE (p := p) (g := g) (σ := σ) (OU g.ib g.m g.nm σ.c σ.nx σ.μ t.who t.obj t.top hN)) fun _ H2 h2 => ?_;refine hJ (e := e) (p := p) nx (vp b) { t with at' := 24 } my h2 fun H9 h9 => ?_;exact dX (σ' := { σ with μ := σ.μ.acc t.who 6 (14, (t.obj : Int), 0), nx := fun k => if k = (t.obj : Int) then some t.top else σ.nx k }) (t' := { t with at' := 24 }) (v := (vp b)) (n := my) (by simp only [ak, hat]) (cU hb) rfl hl h9.to
theorem WP (S : SOk σ) (T : hU σ t) (hat : t.at' = 24) : Sp my [vp e, vi now] (eP e p rp σ t) (fun _ : Unit => ce (ak σ t now)) (fun _ => eQ e p rp (ak σ t now)) := by
 have hN : σ.μ.N < 1099511627000 := by have := S.N; omega
 refine aP fun R H h => ?_;obtain ⟨nx, rv, g, hv, rfl, hl, _, h0⟩ := dQ h;obtain ⟨b, hb, rfl⟩ := hv (by omega);have ho := T.obj (.inl (by omega));refine bg (fun r => NV _ _ H) ?_;refine bf h0 fun b1 H1 h1 => ?_;refine aj h1 ac rfl ?_;refine aj h1 ac rfl ?_;refine aj h1 ac rfl ?_;refine aj h1 ac rfl ?_;refine aj h1 ac rfl ?_;refine aj h1 ac rfl ?_;refine ag h1 (GE (p := p) (g := g) (σ := σ) (OX g.ib g.m g.nm σ.c σ.nx σ.μ t.who t.s t.top t.obj (by have := S.obs; omega) hN)) fun _ H2 h2 => ?_
 by_cases hw : σ.μ.V (9, t.s, 0) = t.top
 ·rw [dj hw]
  refine gs ?_;rw [Bool.not_true];refine gs ?_;refine hJ (e := e) (p := p) nx (vp b) { t with at' := 25 } pB h2 fun H9 h9 => ?_;exact dX (σ' := σ.mem (σ.μ.swp t.who (9, t.s, 0) t.top (t.obj + 1))) (t' := { t with at' := 25 }) (v := (vp b)) (n := pB) (by simp only [ak, hat]; rw [if_pos hw]) (cU hb) rfl hl h9.to
 ·rw [dP hw]
  refine gs ?_;rw [Bool.not_false];refine gs ?_;refine hJ (e := e) (p := p) nx (vp b) { t with at' := 22 } dR h2 fun H9 h9 => ?_;exact dX (σ' := σ.mem (σ.μ.swp t.who (9, t.s, 0) t.top (t.obj + 1))) (t' := { t with at' := 22 }) (v := (vp b)) (n := dR) (by simp only [ak, hat]; rw [if_neg hw]) (cU hb) rfl hl h9.to
theorem acN (S : SOk σ) (T : hU σ t) (hat : t.at' = 15) : Sp pD [vp e, vi now] (eP e p rp σ t) (fun _ : Unit => ce (ak σ t now)) (fun _ => eQ e p rp (ak σ t now)) := by
 have hN : σ.μ.N < 1099511627000 := by have := S.N; omega
 refine aP fun R H h => ?_;obtain ⟨nx, rv, g, hv, rfl, hl, _, h0⟩ := dQ h;obtain ⟨b, hb, rfl⟩ := hv (by omega);have ho := T.obj (.inl (by omega));refine bg (fun r => Ua _ _ H) ?_;refine bf h0 fun b1 H1 h1 => ?_;refine aj h1 ac rfl ?_;refine aj h1 ac rfl ?_;refine ag h1 (qn p g σ t.who S.N) fun _ H2 h2 => ?_;refine bi h2 ac rfl rfl fun H3 h3 => ?_;refine aj h3 ac rfl ?_;refine aa (HJ 2 (by omega)) ?_
 by_cases hw : σ.μ.V (2, 0, 0) % 2 = 1
 ·refine aa (bk (show ((σ.μ.V (2, 0, 0) % 2 : Nat) : Int) = 1 by omega)) ?_
  refine gs ?_;refine hJ (e := e) (p := p) nx (vp b) { t with q := σ.μ.V (2, 0, 0), at' := 7 } cp h3 fun H9 h9 => ?_;exact dX (σ' := eL σ t) (t' := { t with q := σ.μ.V (2, 0, 0), at' := 7 }) (v := (vp b)) (n := cp) (by simp only [ak, hat]; rw [if_pos hw]) (cU hb) rfl hl h9.to
 ·refine aa (aG (show ¬ ((σ.μ.V (2, 0, 0) % 2 : Nat) : Int) = 1 by omega)) ?_
  refine gs ?_;refine hJ (e := e) (p := p) nx (vp b) { t with q := σ.μ.V (2, 0, 0), at' := 16 } fN h3 fun H9 h9 => ?_;exact dX (σ' := eL σ t) (t' := { t with q := σ.μ.V (2, 0, 0), at' := 16 }) (v := (vp b)) (n := fN) (by simp only [ak, hat]; rw [if_neg hw]) (cU hb) rfl hl h9.to
theorem Fw (S : SOk σ) (T : hU σ t) (hat : t.at' = 17) : Sp fM [vp e, vi now] (eP e p rp σ t) (fun _ : Unit => ce (ak σ t now)) (fun _ => eQ e p rp (ak σ t now)) := by
 have hN : σ.μ.N < 1099511627000 := by have := S.N; omega
 refine aP fun R H h => ?_;obtain ⟨nx, rv, g, hv, rfl, hl, _, h0⟩ := dQ h;obtain ⟨b, hb, rfl⟩ := hv (by omega);have ho := T.obj (.inl (by omega));refine bg (fun r => A7 _ _ H) ?_;refine bf h0 fun b1 H1 h1 => ?_;refine bz ac ?_;refine aR h1 rfl ?_;refine bz ac ?_;refine aR h1 rfl ?_;refine aj h1 ac rfl ?_;refine aj h1 ac rfl ?_;refine ag h1 (kQ (p := p) hl ho hb (HM g.m t.obj b (au σ t.obj) σ.μ t.who hN)) fun _ H2 h2 => ?_;refine aH h2 h1 (by rfl) ?_;refine aH h2 h1 (by rfl) ?_;refine ag h2 (Ij (p := p) (σ := jA σ t) hl ho hb (HL g.m t.obj b (au σ t.obj) t.w (σ.μ.V (12, (t.obj : Int), 0)) T.w (S.cells _ ho).2)) fun _ H3 h3 => ?_;cases hf : gG t.w (σ.μ.V (12, (t.obj : Int), 0)) (au σ t.obj).length
 ·refine gs ?_
  rw [Bool.not_false];refine gs ?_;refine hJ (e := e) (p := p) nx (vp b) { t with at' := 7 } cp h3 fun H9 h9 => ?_;exact dX (σ' := jA σ t) (t' := { t with at' := 7 }) (v := (vp b)) (n := cp) (by simp only [ak, hat, j9, hf]; rfl) (cU hb) rfl hl h9.to
 ·refine gs ?_
  rw [Bool.not_true];refine gs ?_;refine bi h3 ac rfl rfl fun H4 h4 => ?_;refine hJ (e := e) (p := p) nx (vp b) { t with at' := 18, mark := now } gy h4 fun H9 h9 => ?_;exact dX (σ' := jA σ t) (t' := { t with at' := 18, mark := now }) (v := (vp b)) (n := gy) (by simp only [ak, hat, j9, hf]; rfl) (cU hb) rfl hl h9.to
theorem Gx (S : SOk σ) (T : hU σ t) (hat : t.at' = 18) : Sp gy [vp e, vi now] (eP e p rp σ t) (fun _ : Unit => ce (ak σ t now)) (fun _ => eQ e p rp (ak σ t now)) := by
 have hN : σ.μ.N < 1099511627000 := by have := S.N; omega
 refine aP fun R H h => ?_;obtain ⟨nx, rv, g, hv, rfl, hl, _, h0⟩ := dQ h;obtain ⟨b, hb, rfl⟩ := hv (by omega);have ho := T.obj (.inl (by omega));refine bg (fun r => Dm _ _ H) ?_;refine bf h0 fun b1 H1 h1 => ?_;refine aj h1 ac rfl ?_;refine aj h1 ac rfl ?_;refine ag h1 (qn p g σ t.who S.N) fun _ H2 h2 => ?_;refine bz ac ?_;refine aR h2 rfl ?_;refine aH h1 h2 (by rfl) ?_
 by_cases hw : σ.μ.V (2, 0, 0) = t.q
 ·refine aa (AJ (show ((σ.μ.V (2, 0, 0) : Nat) : Int) = (t.q : Int) by omega)) ?_
  refine gs ?_;refine aj h2 ac rfl ?_;have k2 := bG (p := p) (rp := g.rp) (σ := eL σ t) (R := eB e p nx (vp b) t * (blk b1 (.cells false [vi 0, .slice none 0 0, vi 0, vw 0]) * R)) g rfl hl h2.to;refine nG k2 (As e p g.rp (eL σ t) nx (vp b) t t.mark 9 (by have := S.pts; show σ.pts.length < _; omega)) fun H9 h9 => ?_;exact Do (σ' := (eL σ t).note t.mark t.who 9) (t' := { t with code := 9 }) (by simp only [ak, hat]; rw [if_pos hw]) rfl h9.to
 ·refine aa (Ml (show ¬ ((σ.μ.V (2, 0, 0) : Nat) : Int) = (t.q : Int) by omega)) ?_
  refine gs ?_;refine hJ (e := e) (p := p) nx (vp b) { t with at' := 7 } cp h2 fun H9 h9 => ?_;exact dX (σ' := eL σ t) (t' := { t with at' := 7 }) (v := (vp b)) (n := cp) (by simp only [ak, hat]; rw [if_neg hw]) (cU hb) rfl hl h9.to
def gO (σ : aN) (t : Tk) : aN × Tk × Bool :=
 (ba σ t, { aW σ t with at' := if (aW σ t).found = true then 6 else if bK σ (aW σ t) = true then 3 else 2 }, false)
theorem HX (S : SOk σ) (T : hU σ t) (hat : t.at' = 0 ∨ t.at' = 2) : Sp kz [vp e, vi now] (eP e p rp σ t) (fun _ : Unit => ce (gO σ t)) (fun _ => eQ e p rp (gO σ t)) := by
 have hN : σ.μ.N < 1099511627000 := by have := S.N; omega
 refine aP fun R H h => ?_;obtain ⟨nx, rv, g, hv, rfl, hl, _, h0⟩ := dQ h;have hi := T.i (by omega) (by omega);refine bg (fun r => NW _ _ H) ?_;refine bf h0 fun b1 H1 h1 => ?_;refine ag h1 (QR e p g σ nx rv t S hi) fun _ H2 h2 => ?_;refine ah (F3 _ _ _ _ H2) ?_;refine aj h2 ac rfl ?_;cases hf : (aW σ t).found
 ·refine gs ?_
  cases hla : bK σ (aW σ t)
  ·refine gs ?_
   refine ah (F4 _ _ _ H2) ?_;refine hJ (e := e) (p := p) nx rv { aW σ t with at' := 2 } kz h2 fun H9 h9 => ?_;exact dX (σ' := ba σ t) (t' := { aW σ t with at' := 2 }) (v := rv) (n := kz) (by simp only [gO, hf, hla]; rfl) (i7 (by simp)) rfl hl h9.to
  ·refine gs ?_
   refine hJ (e := e) (p := p) nx rv { aW σ t with at' := 3 } dn h2 fun H9 h9 => ?_;exact dX (σ' := ba σ t) (t' := { aW σ t with at' := 3 }) (v := rv) (n := dn) (by simp only [gO, hf, hla]; rfl) (i7 (by simp)) rfl hl h9.to
 ·refine gs ?_
  refine hJ (e := e) (p := p) nx rv { aW σ t with at' := 6 } ii h2 fun H9 h9 => ?_;exact dX (σ' := ba σ t) (t' := { aW σ t with at' := 6 }) (v := rv) (n := ii) (by simp only [gO, hf]; rfl) (i7 (by simp)) rfl hl h9.to
theorem MY (S : SOk σ) (T : hU σ t) (hat : t.at' = 4) : Sp fc [vp e, vi now] (eP e p rp σ t) (fun _ : Unit => ce (ak σ t now)) (fun _ => eQ e p rp (ak σ t now)) := by
 have hN : σ.μ.N < 1099511627000 := by have := S.N; omega
 refine aP fun R H h => ?_;obtain ⟨nx, rv, g, hv, rfl, hl, _, h0⟩ := dQ h;have hi := T.i (by omega) (by omega);refine bg (fun r => Iv _ _ H) ?_;refine bf h0 fun b1 H1 h1 => ?_;refine ag h1 (QR e p g σ nx rv t S hi) fun _ H2 h2 => ?_;refine ah (A8 _ _ _ _ _ H2) ?_;refine aj h2 ac rfl ?_;cases hf : (aW σ t).found
 ·refine gs ?_
  cases hla : bK σ (aW σ t)
  ·refine gs ?_
   refine ah (A9 _ _ _ H2) ?_;refine hJ (e := e) (p := p) nx rv (aW σ t) fc h2 fun H9 h9 => ?_;exact dX (σ' := ba σ t) (t' := (aW σ t)) (v := rv) (n := fc) (by simp only [ak, hat, hf, hla]; rfl) (i7 (show t.at' < 7 by omega)) (by show Bz t.at' = _; rw [hat]; rfl) hl h9.to
  ·refine gs ?_
   have k2 := bG (p := p) (rp := g.rp) (σ := ba σ t) (R := eB e p nx rv (aW σ t) * (blk b1 (.cells false [vi 0, .slice none 0 0, vi 0, vw 0]) * R)) g rfl hl h2.to;refine ag k2 (wE e p g.rp (ba σ t) nx rv (aW σ t) now 5 (by have := S.pts; show σ.pts.length < _; omega)) fun _ H3 h3 => ?_;refine hJ (e := e) (p := p) nx rv { aW σ t with at' := 5, code := 5 } fe h3 fun H9 h9 => ?_;exact Ix (σ' := (ba σ t).note now (aW σ t).who 5) (t' := { aW σ t with at' := 5, code := 5 }) (v := rv) (n := fe) (by simp only [ak, hat, hf, hla]; rfl) (i7 (by simp)) rfl h9.to
 ·refine gs ?_
  refine hJ (e := e) (p := p) nx rv { aW σ t with at' := 5 } fe h2 fun H9 h9 => ?_;exact dX (σ' := ba σ t) (t' := { aW σ t with at' := 5 }) (v := rv) (n := fe) (by simp only [ak, hat, hf]; rfl) (i7 (by simp)) rfl hl h9.to
theorem P9 (S : SOk σ) (T : hU σ t) (hat : t.at' = 0) : Sp m6 [vp e, vi now] (eP e p rp σ t) (fun _ : Unit => ce (ak σ t now)) (fun _ => eQ e p rp (ak σ t now)) := by
 have hN : σ.μ.N < 1099511627000 := by have := S.N; omega
 refine br (Lu _ _) fun R H h => ?_;refine bf h fun b H1 h1 => ?_;refine ah (Df _ _ _ _ H1) ?_;obtain ⟨nx, rv, g, hv, rfl, hl, _, k1⟩ := dQ (e := e) (p := p) (rp := rp) (σ := σ) (t := t) (R := blk b (.cells false [vi 0, .slice none 0 0, vi 0, vw 0]) * R) (H := H1) h1.to
 have fin : ∀ code, cL t.x = some code → wp ((FF jq [vp e, vi now, vi code] H1).bind fun r25 =>
  (af r25.1 0).bind fun v26 =>
  (af r25.1 1).bind fun v27 =>
  (cf 4 (vp b) v26 r25.2).bind fun H28 =>
  (ay 4 (vp b) H28).bind fun v29 => some (Value.tuple #[v29, v27], H28)) fun v' H' => ∃ x_1 : Unit, v' = ce (ak σ t now) ∧ ae (eQ e p g.rp (ak σ t now) * R) H' := by
  intro code hx;have k2 := bG (p := p) (rp := g.rp) (σ := σ) (R := eB e p nx rv t * (blk b (.cells false [vi 0, .slice none 0 0, vi 0, vw 0]) * R)) g rfl hl k1.to;refine nG k2 (As e p g.rp σ nx rv t now code (by have := S.pts; omega)) fun H9 h9 => ?_;exact Do (σ' := σ.note now t.who code) (t' := { t with code := code }) (by simp only [ak, hat, hx]) rfl h9.to
 have scan : cL t.x = none → wp (rD (vp e) (vi now) (vp b) (vb false) H1) fun v' H' => ∃ x_1 : Unit, v' = ce (ak σ t now) ∧ ae (eQ e p g.rp (ak σ t now) * R) H' := by
  intro hx
  have hs : ak σ t now = gO σ t := by simp only [ak, hat, hx, gO]
  rw [hs];refine ah (Dg _ _ _ _ H1) ?_;exact nG h1 (HX e p g.rp σ t now S T (.inl hat)) fun H9 h9 => ⟨(), rfl, h9.to⟩
 refine aj k1 (bV (aO (aO aY))) rfl ?_
 by_cases ha : t.x.a < 1
 ·refine aa (cK ha) ?_
  refine gs ?_;exact fin 3 (by rw [cL, if_pos (.inl ha)])
 ·refine aa (ch ha) ?_
  refine gs ?_;refine aj k1 (bV (aO (aO aY))) rfl ?_;refine gs ?_
  by_cases ha2 : 65536 < t.x.a
  ·refine aa (lq ha2) ?_
   refine gs ?_;exact fin 3 (by rw [cL, if_pos (.inr ha2)])
  ·refine aa (f7 ha2) ?_
   refine gs ?_;refine aj k1 (bV (aO (aO aY))) rfl ?_
   by_cases hf : t.x.flow < 0
   ·refine aa (cK hf) ?_
    refine gs ?_;exact fin 5 (by rw [cL, if_neg (by omega), if_pos (.inl hf)])
   ·refine aa (ch hf) ?_
    refine gs ?_;refine aj k1 (bV (aO (aO aY))) rfl ?_;refine gs ?_
    by_cases hf2 : 1048576 < t.x.flow
    ·refine aa (lq hf2) ?_
     refine gs ?_;exact fin 5 (by rw [cL, if_neg (by omega), if_pos (.inr hf2)])
    ·refine aa (f7 hf2) ?_
     refine gs ?_;exact scan (by rw [cL, if_neg (by omega), if_neg (by omega)])
theorem Lz (S : SOk σ) (T : hU σ t) : Sp tK [vp e, vi now] (eP e p rp σ t) (fun _ : Unit => ce (ak σ t now)) (fun _ => eQ e p rp (ak σ t now)) := by
 refine br (NM _ _) fun R H h => ?_;refine bf h fun b H1 h1 => ?_;obtain ⟨rv, hv, k1⟩ := QP (e := e) (p := p) (rp := rp) (σ := σ) (t := t) (R := blk b (.cells false [vi 0, .slice none 0 0, vi 0, vw 0]) * R) (H := H1) h1.to;refine aj k1 ac rfl ?_;refine ah (show (di (.func (.func (Bz t.at')) #[vp e] #[]) [vi now]).bind _ = _ from rfl) ?_
 have hs : Sp (Bz t.at') [vp e, vi now] (eP e p rp σ t) (fun _ : Unit => ce (ak σ t now)) (fun _ => eQ e p rp (ak σ t now)) := by
  rcases T.ats with hat | hat | hat | hat | hat | hat | hat | hat | hat | hat | hat | hat | hat | hat | hat | hat | hat | hat | hat | hat | hat | hat | hat | hat <;> rw [show Bz t.at' = _ from by rw [hat]]
  ·exact P9 e p rp σ t now S T hat
  ·have h := HX e p rp σ t now S T (.inr hat)
   have hs : ak σ t now = gO σ t := by simp only [ak, hat, gO]
   rw [hs]; exact h
  ·exact WN e p rp σ t now S T hat
  ·exact MY e p rp σ t now S T hat
  ·exact MZ e p rp σ t now S T hat
  ·exact WO e p rp σ t now S T hat
  ·exact WS e p rp σ t now S T hat
  ·exact WL e p rp σ t now S T hat
  ·exact P8 e p rp σ t now S T hat
  ·exact acM e p rp σ t now S T hat
  ·exact WQ e p rp σ t now S T hat
  ·exact P7 e p rp σ t now S T hat
  ·exact WR e p rp σ t now S T hat
  ·exact WK e p rp σ t now S T hat
  ·exact acN e p rp σ t now S T hat
  ·exact Fy e p rp σ t now S T hat
  ·exact Fw e p rp σ t now S T hat
  ·exact Gx e p rp σ t now S T hat
  ·exact WI e p rp σ t now S T hat
  ·exact Qa e p rp σ t now S T hat
  ·exact Ky e p rp σ t now S T hat
  ·exact WM e p rp σ t now S T hat
  ·exact WP e p rp σ t now S T hat
  ·exact acL e p rp σ t now S T hat
 exact nG h1 hs fun H9 h9 => ⟨(), rfl, h9.to⟩
end
theorem WX {a b : Nat} {x : Value} {k : Value → OV} {Q : Value → AH → Prop} (h : wp (k undef) Q) : wp (xe (vb false) true [.n, .f a, .f b] x k) Q := h
theorem aaD {P P2 : SP} {H H2 : AH} {ro ro2 : Bool} {b o : Nat} {cs cs2 : List Value} (h : ae P H) (h2 : ae P2 H2) [i : Hs P b (.cells ro cs)] [i2 : Hs P2 b (.cells ro2 cs2)] (e : cs[o]? = cs2[o]?) : ar (uH b o) H = ar (uH b o) H2 := by
 simp only [ar, vB, eK, bL, i.get h, i2.get h2];exact e
def lN (x : Cl) : Prop := x.flow < 0 ∨ 1048576 < x.flow
instance (x : Cl) : Decidable (lN x) := inferInstanceAs (Decidable (_ ∨ _))
def dM (x : Cl) : Option Int :=
 if x.op = 1 then (if lN x then some 1 else if x.a < 1 ∨ 65536 < x.a then some 4 else if x.b < 1 ∨ 8 < x.b then some 1 else none)
 else if lN x then some 5 else none
def aC (σ : aN) (t : Tk) : Tk :=
 let v := σ.μ.V (10, t.s, (t.i : Int))
 { t with i := if f9 v t.x.flow = true then t.i else t.i + 1, found := f9 v t.x.flow, obj := if f9 v t.x.flow = true then v % 4294967296 else t.obj, mark := if v = 0 ∧ t.mark < 0 then (t.i : Int) else t.mark }
abbrev lS (σ : aN) (t : Tk) : aN := σ.mem (σ.μ.swp t.who (8, t.s, 0) 0 1)
abbrev i8 (σ : aN) (t : Tk) : aN := σ.mem ((σ.μ.acc t.who 2 (8, t.s, 0)).put (8, t.s, 0) 0)
def fG (σ : aN) (t : Tk) : aN × Tk × Bool := (lS σ t, { t with at' := if σ.μ.V (8, t.s, 0) = 0 then 3 else 2 }, false)
abbrev obR (σ : aN) (t : Tk) : Ob := ⟨t.x.flow, t.x.b, max (σ.c.un / t.x.a.toNat) 1⟩
def yw (σ : aN) (t : Tk) (now : Int) : aN × Tk × Bool :=
 match t.at' with
 | 4 => (σ.make t.who (obR σ t), { t with obj := σ.obs.length, at' := 5 }, false)
 | 5 => ((σ.mem ((σ.μ.acc t.who 2 (10, t.s, t.mark)).put (10, t.s, t.mark) (cy t.x.flow t.obj))).note now t.who 0, { t with at' := 6, code := 0 }, false)
 | _ => (i8 σ t, t, true)
def eH (σ : aN) (t : Tk) (now : Int) : aN × Tk × Bool :=
 match t.at' with
 | 4 => let w := σ.μ.V (11, (t.obj : Int), 0)
  (dg σ t, { t with w := w, at' := if aZ w = 0 then 8 else 5 }, false)
 | 5 => let q := σ.μ.V (2, 0, 0)
  (eL σ t, { t with q := q, at' := if q % 2 = 1 then 4 else 6 }, false)
 | 6 => let w := σ.μ.V (11, (t.obj : Int), 0)
  (dg σ t, { t with w := w, mark := now, at' := if aZ w = 0 then 8 else 7 }, false)
 | 7 => if σ.μ.V (2, 0, 0) = t.q then ((eL σ t).note t.mark t.who 8, { t with at' := 10, code := 8 }, false) else (eL σ t, { t with at' := 4 }, false)
 | 8 => let o := bd t.w 2
  let σ1 := σ.mem (σ.μ.turn t.who t.obj t.w o)
  if fD σ.μ t.obj t.w o = true then (σ1.note now t.who 0, { t with at' := 9, code := 0 }, false) else (σ1, { t with at' := 4 }, false)
 | 9 => (σ.mem ((σ.μ.acc t.who 2 (10, t.s, (t.i : Int))).put (10, t.s, (t.i : Int)) 0), { t with at' := 10 }, false)
 | _ => (i8 σ t, t, true)
def az (σ : aN) (t : Tk) (now : Int) : aN × Tk × Bool :=
 match t.at' with
 | 0 => match dM t.x with
  | some e => (σ.note now t.who e, { t with code := e }, true)
  | none => fG σ t
 | 2 => fG σ t
 | 3 => let t1 := aC σ t
  if t1.found = true then (if t.x.op = 1 then ((ba σ t).note now t.who 6, { t1 with at' := 6, code := 6 }, false) else (ba σ t, { t1 with at' := 4 }, false))
  else if bK σ t1 = true then
   (if t.x.op = 1 then (if t1.mark < 0 then ((ba σ t).note now t.who 7, { t1 with at' := 6, code := 7 }, false) else (ba σ t, { t1 with at' := 4 }, false))
   else ((ba σ t).note now t.who 5, { t1 with at' := 10, code := 5 }, false))
  else (ba σ t, t1, false)
 | _ => if t.x.op = 1 then yw σ t now else eH σ t now
structure mJ (σ : aN) (t : Tk) : Prop where
 s : t.s = (t.x.flow.tmod σ.c.sh + σ.c.sh).tmod σ.c.sh
 i : t.at' < 4 → (t.i : Int) < σ.c.sl
 x : t.at' ≠ 0 → dM t.x = none
 ats : t.at' = 0 ∨ t.at' = 2 ∨ t.at' = 3 ∨ 4 ≤ t.at' ∧ t.at' < 7 ∨ t.x.op ≠ 1 ∧ 7 ≤ t.at' ∧ t.at' < 11
 mark : t.at' = 4 ∨ t.at' = 5 → t.x.op = 1 → 0 ≤ t.mark
 obj : t.at' = 5 ∧ t.x.op = 1 ∨ 4 ≤ t.at' ∧ t.at' < 10 ∧ t.x.op ≠ 1 → t.obj < σ.obs.length
 w : t.w < 18446744073709551616
structure Ek where
 I : Nat
 free : Int
 at' : Int
 obj : Nat
 rv : Value
 w : Nat
 q : Nat
 nw : Int
 told : Int
abbrev rB (e p : Nat) (nx : Value) (t : Tk) (k : Ek) : SP :=
 blk e (.cells false [vp p, vi t.who, vi t.x.op, vi t.x.flow, vi t.x.a, vi t.x.b, vi t.s, nx, vi k.I, vi k.free, vi k.at', vi k.obj, k.rv, vu k.w, vu k.q, vi k.nw, vi k.told])
def fY (t : Tk) : Nat := if t.x.op = 1 then
    (match t.at' with | 0 => fS | 2 => cP | 3 => bT | 4 => dz | 5 => fB | _ => aX)
 else match t.at' with | 0 => eS | 2 => da | 3 => ci | 4 => bv | 5 => dY | 6 => cu | 7 => cD | 8 => cj | 9 => dI | _ => aX
def Plt (rp : List Nat) (t : Tk) (k : Ek) : Prop :=
 (t.at' < 4 → k.I = t.i ∧ k.free = t.mark) ∧ (t.x.op = 1 → (t.at' = 4 ∨ t.at' = 5 → k.free = t.mark) ∧ (t.at' = 5 → k.obj = t.obj) ∧ (t.at' = 6 → k.told = t.code)) ∧
 (t.x.op ≠ 1 → (4 ≤ t.at' → t.at' < 10 → k.at' = t.i ∧ ∃ b, rp[t.obj]? = some b ∧ k.rv = vp b) ∧ (t.at' = 6 ∨ t.at' = 7 → k.q = t.q) ∧ (t.at' = 7 → k.nw = t.mark) ∧ (t.at' = 8 → k.w = t.w) ∧ (t.at' = 9 ∨ t.at' = 10 → k.told = t.code))
def rT (e p : Nat) (rp : List Nat) (t : Tk) : SP := ex fun k : Ek => pu (Plt rp t k) * rB e p (fE e (fY t)) t k
def rU (e p : Nat) (rp : List Nat) (r : aN × Tk × Bool) : SP := if r.2.2 = true then emp else rT e p rp r.2.1
def rQ (e p : Nat) (rp : List Nat) (r : aN × Tk × Bool) (rp' : List Nat) : SP := pu (rp <+: rp') * (rU e p rp' r * bn p rp' r.1)
section
variable {e p : Nat} {rp : List Nat} {g : PIds} {σ σ' : aN} {t t' : Tk} {R P : SP} {H : AH} {r : aN × Tk × Bool} {v : Value} {n : Nat} {c : Int} {k : Ek}
theorem iK (h : ae (rT e p rp t * bn p rp σ * R) H) : ∃ (k : Ek) (g : PIds), Plt rp t k ∧ g.rp = rp ∧ rp.length = σ.obs.length ∧ ae (rB e p (fE e (fY t)) t k * (aE p g σ * R)) H := by
 unfold rT at h;rw [ai] at h;obtain ⟨k, h1⟩ := ae.ex.1 h;rw [ai, ae.pu] at h1;obtain ⟨g, h3, h4, h5⟩ := dZ (p := p) (rp := rp) (σ := σ) (R := rB e p (fE e (fY t)) t k * R) (H := H) h1.2.to;exact ⟨k, g, h1.1, h3, h4, h5.to⟩
theorem gN (hr : r = (σ', t', false)) (hk : Plt g.rp t' k) (hn : fY t' = n) (hl : g.rp.length = σ'.obs.length) (hp : rp <+: g.rp) (h : ae (rB e p (fE e n) t' k * (aE p g σ' * R)) H) :
 ∃ x : List Nat, (.tuple #[.agg (ef 0).toArray, vb false]) = ce r ∧ ae (rQ e p rp r x * R) H := by
 subst hr hn;refine ⟨g.rp, rfl, ?_⟩;unfold rQ;rw [ai];refine ae.pu.2 ⟨hp, ?_⟩;have h1 := bG (p := p) (rp := g.rp) (σ := σ') (R := rB e p (fE e (fY t')) t' k * R) g rfl hl h.to;rw [show rU e p g.rp (σ', t', false) = rT e p g.rp t' from by unfold rU; rw [if_neg (by simp)]];unfold rT;rw [ai];refine ae.ex.2 ⟨k, ?_⟩;rw [ai];exact ae.pu.2 ⟨hk, h1.to⟩
theorem abK (hr : r = (σ', t', true)) (hc : t'.code = c) (hl : g.rp.length = σ'.obs.length) (hp : rp <+: g.rp) (h : ae (aE p g σ' * R) H) :
 ∃ x : List Nat, (.tuple #[.agg (ef c).toArray, vb true]) = ce r ∧ ae (rQ e p rp r x * R) H := by
 subst hr hc;refine ⟨g.rp, rfl, ?_⟩;unfold rQ;rw [ai];refine ae.pu.2 ⟨hp, ?_⟩;have h1 := bG (p := p) (rp := g.rp) (σ := σ') (R := R) g rfl hl h.to;rw [show rU e p g.rp (σ', t', true) = emp from by unfold rU; rw [if_pos rfl], kR];exact h1
theorem gQ (nx : Value) (t' : Tk) (k : Ek) (n : Nat) {b : Nat} {Q : Value → AH → Prop} (h : ae P H) [fr : Fr P (rB e p nx t' k * blk b (.cells false [vi 0, .slice none 0 0, vi 0, vw 0])) R]
 (hk : ∀ H', ae (rB e p (fE e n) t' k * R) H' → Q (.tuple #[.agg (ef 0).toArray, vb false]) H') :
 wp ((FF bj [vp e, fE e n] H).bind fun r2 => (af r2.1 0).bind fun v3 => (af r2.1 1).bind fun v4 => (cf 4 (vp b) v3 r2.2).bind fun H5 => (ay 4 (vp b) H5).bind fun v6 => some (Value.tuple #[v6, v4], H5)) Q := by
 have on : Sp bj [vp e, fE e n] (rB e p nx t' k) (fun _ : Unit => .tuple #[.agg (ef 0).toArray, vb false]) (fun _ => rB e p (fE e n) t' k) := by
  refine br (Gr _ _) fun R H h => ?_;refine bf h fun b H1 h1 => ?_;refine bi h1 ac rfl rfl fun H2 h2 => ?_;refine iz ?_;refine cX h2 rfl rfl fun H3 h3 => ?_;refine aJ h3 ?_;exact aq ⟨(), rfl, h3.to⟩
 exact nG h on hk
end
section
variable (e p : Nat) (rp : List Nat) (g : PIds) (σ : aN) (t : Tk) (k : Ek) (nx : Value) (now : Int)
theorem nD (code : Int) (hp : σ.pts.length < 1000000) (hl : g.rp.length = σ.obs.length) : Sp db [vp e, vi now, vi code] (rB e p nx t k * aE p g σ) (fun _ : PIds => .tuple #[]) (fun g' => pu (g'.rp = g.rp) * (rB e p nx t { k with told := code } * aE p g' (σ.note now t.who code))) := by
 refine br (B3 _ _ _) fun R H h => ?_;refine bi h ac rfl rfl fun H0 h0 => ?_;refine aj h0 ac rfl ?_;refine aj h0 ac rfl ?_;refine iz ?_;have h1 := bG (p := p) (rp := g.rp) (σ := σ) (R := rB e p nx t { k with told := code } * R) g rfl hl h0.to;refine ag h1 (aiG p g.rp σ now t.who code hp) fun _ H2 h2 => ?_;obtain ⟨g', hg', _, h3⟩ := dZ (p := p) (rp := g.rp) (σ := σ.note now t.who code) (R := rB e p nx t { k with told := code } * R) (H := H2) h2.to;refine aq ⟨g', rfl, ?_⟩;rw [ai];exact ae.pu.2 ⟨hg', h3.to⟩
theorem M3 (u : Nat) (w : Int) (hu : 1 ≤ u ∧ u ≤ 4611686018427387904) (hw : 1 ≤ w ∧ w ≤ 65536) : Sp oS [vu u, vi w] emp (fun _ : Unit => .tuple #[vu (max (u / w.toNat) 1), vb true]) (fun _ => emp) := by
 refine br (FD _ _) fun R H h => ?_;refine aa (ch (by omega)) ?_;refine gs ?_;refine aa (f7 ?_) ?_
 ·omega
 refine gs ?_;refine aa (ch ?_) ?_
 ·omega
 refine gs ?_;refine aa (f7 ?_) ?_
 ·omega
 refine gs ?_;refine aa (eF (by omega) (by omega)) ?_;refine aa (y4 (by omega) (by omega)) ?_;refine aa (aiB (b := 1)) ?_;exact aq ⟨(), rfl, ae.to (by assumption)⟩
theorem alF (who : Int) (o : Ob) (hE : σ.μ.N < 1099511627000) (ho : σ.obs.length < 1000000) (hg : g.rp.length = σ.obs.length) : Sp ei [vp p, vi who, .agg (#[vi o.flow, vi o.most, vu o.r] : Array Value)] (aE p g σ) (fun _ : PIds => vi σ.obs.length) (fun g' => pu (g.rp <+: g'.rp ∧ g'.rp.length = σ.obs.length + 1) * aE p g' (σ.make who o)) := by
 have hz : ((σ.obs.map fun x => x.1).zip g.rp).length = σ.obs.length := by simp [hg]
 refine aP fun R H h0 => ?_;unfold aE at h0;refine bg (fun r => lU _ _ _ H) ?_;refine aS (l := [vi o.flow, vi o.most, vu o.r]) h0 fun ob H1 h1 => ?_;refine aj h1 ac rfl ?_;refine tg (s := g.ov) h1 ?_;rw [hz];refine aj h1 ac rfl ?_;refine iz ?_;refine ag h1 ((tJ g.m σ.μ who (13, σ.obs.length, 0) (by omega)).imp fun _ R H h => jE (N' := σ.μ.N + 2) (by simp) h) fun _ H2 h2 => ?_;refine bz ac ?_;refine aR h2 rfl ?_;refine aJ h2 ?_;refine aj h2 ac rfl ?_;refine aj h2 aA rfl ?_;refine ag h2 (MO g.m σ.obs.length o.most) fun rb H3 h3 => ?_;refine aH h3 h2 rfl ?_;refine dA h3 h2 rfl ?_;refine iz ?_;refine Nq h3 fun b0 H4 h4 => ?_;refine iL ((o, rb) : Ob × Nat) h4 rfl ?_ (by omega) fun a cc H5 h5 => ?_
 ·unfold room; omega
 refine bi h5 ac rfl rfl fun H6 h6 => ?_;refine aq ⟨{ g with ov := .slice a (((σ.obs.map fun x => x.1).zip g.rp).length + 1) cc, rp := g.rp ++ [rb] }, rfl, ?_⟩;rw [ai];refine ae.pu.2 ⟨⟨List.prefix_append _ _, by simp [hg]⟩, ?_⟩;unfold aE aN.make;dsimp only
 have e1 : ((σ.obs ++ [(o, List.replicate (bP o.most) FW)]).map fun x => x.1).zip (g.rp ++ [rb]) = ((σ.obs.map fun x => x.1).zip g.rp) ++ [(o, rb)] := by
  rw [zw, List.zip_append (by simp [hg])]
  rfl
 have e2 : (g.rp ++ [rb]).zip ((σ.obs ++ [(o, List.replicate (bP o.most) FW)]).map fun x => x.2) = (g.rp.zip (σ.obs.map fun x => x.2)) ++ [(rb, List.replicate (bP o.most) FW)] := by
  rw [zw, List.zip_append (by simp [hg])]
  rfl
 have e3 : 0 + (g.rp.zip (σ.obs.map fun x => x.2)).length = σ.obs.length := by simp [hg]
 rw [e1, e2, AP, e3];exact h6.to
theorem S9 (S : SOk σ) (hi : (t.i : Int) < σ.c.sl) (hI : k.I = t.i) (hfr : k.free = t.mark) :
 Sp kU [vp e] (rB e p nx t k * aE p g σ) (fun _ : Unit => .tuple #[vb (aC σ t).found, vb (decide (σ.c.sl ≤ ((t.i + 1 : Nat) : Int)))])
  (fun _ => rB e p nx t { k with I := t.i + 1, free := (aC σ t).mark, at' := t.i, obj := σ.μ.V (10, t.s, (t.i : Int)) % 4294967296 } * aE p g (ba σ t)) := by
 have hc := bo.1 S.c;refine br (Fc _) fun R H h => ?_;refine aj h ac rfl ?_;refine aj h ac rfl ?_;refine aj h ac rfl ?_;refine aj h ac rfl ?_;refine aj h ac rfl ?_;rw [hI];refine ag h (ue (p := p) (g := g) (σ := σ) (s8 g.tb g.m σ.c.sh.toNat σ.c.sl.toNat σ.μ t.who t.s t.i (by have := S.N; omega) (S.V _))) fun _ H1 h1 => ?_;obtain ⟨v, hv⟩ : ∃ v, v = σ.μ.V (10, t.s, (t.i : Int)) := ⟨_, rfl⟩;rw [← hv];have fin : ∀ (y2 y3 fl : Value) (is : Bool) (k1 : Ek) (H' : AH), k1.I = t.i → (is = true → fl = vi ((v / 4294967296 : Nat) - 1)) → (aC σ t).found = (is && decide (((v / 4294967296 : Nat) : Int) - 1 = t.x.flow)) →
  { k1 with I := t.i + 1, at' := t.i, obj := v % 4294967296 } = { k with I := t.i + 1, free := (aC σ t).mark, at' := t.i, obj := v % 4294967296 } →
  ae (rB e p nx t k1 * (aE p g (ba σ t) * R)) H' → wp (jZ (vp e) y2 y3 fl (vi ((v % 4294967296 : Nat) : Int)) (vb is) H') fun v' H' => ∃ _x : Unit, v' = .tuple #[vb (aC σ t).found, vb (decide (σ.c.sl ≤ ((t.i + 1 : Nat) : Int)))] ∧
   ae (rB e p nx t { k with I := t.i + 1, free := (aC σ t).mark, at' := t.i, obj := v % 4294967296 } * aE p g (ba σ t) * R) H' := by
  intro y2 y3 fl is k1 H' hi1 hfl hfd hke h';refine ah (yx ..) ?_;refine aj h' ac rfl ?_;rw [hi1];refine bi h' ac rfl rfl fun H2 h2 => ?_;refine bi h2 ac rfl rfl fun H3 h3 => ?_;refine aj h3 ac rfl ?_;rw [hi1];refine aa (aM (by omega) (by omega)) ?_;rw [show ((t.i : Nat) : Int) + 1 = ((t.i + 1 : Nat) : Int) from by omega];refine bi h3 ac rfl rfl fun H4 h4 => ?_
  have h5 : ae (rB e p nx t { k with I := t.i + 1, free := (aC σ t).mark, at' := t.i, obj := v % 4294967296 } * (aE p g (ba σ t) * R)) H4 := by
   rw [← hke];exact h4.to
  have tail : ∀ (b : Bool) (x10 : Value) (H4 : AH), (aC σ t).found = b → ae (rB e p nx t { k with I := t.i + 1, free := (aC σ t).mark, at' := t.i, obj := v % 4294967296 } * (aE p g (ba σ t) * R)) H4 → (∀ H8, ae (rB e p nx t { k with I := t.i + 1, free := (aC σ t).mark, at' := t.i, obj := v % 4294967296 } * (aE p g (ba σ t) * R)) H8 → ar x10 H8 = ar x10 H4) → wp (ad [.n, .f 8] (vp e) fun v14 =>
   (ar v14 H4).bind fun v15 =>
   ld [.n, .f 0] (vp e) H4 fun v16 =>
   ld [.n, .f 2] v16 H4 fun v17 =>
   (FF dL [v17] H4).bind fun r18 =>
   bO (ar x10 r18.2) (ar x10 H4) <|
   bO (ar v14 r18.2) (ar v14 H4) <|
   (ap .other .geq v15 r18.1).bind fun v19 =>
   some (Value.tuple #[vb b, v19], r18.2)) fun v' H' => ∃ _x : Unit, v' = .tuple #[vb (aC σ t).found, vb (decide (σ.c.sl ≤ ((t.i + 1 : Nat) : Int)))] ∧
   ae (rB e p nx t { k with I := t.i + 1, free := (aC σ t).mark, at' := t.i, obj := v % 4294967296 } * aE p g (ba σ t) * R) H' := by
   intro b x10 H4 hb h5 hx;refine bz ac ?_;refine aR h5 rfl ?_;refine aj h5 ac rfl ?_;refine aj h5 ac rfl ?_;refine ag h5 (CD (p := p) (g := g) (σ := ba σ t) (AT g.tb g.m σ.c.sh.toNat σ.c.sl.toNat)) fun _ H6 h6 => ?_;refine FM (hx H6 h6.to) ?_;refine aH h6 h5 (by rfl) ?_;refine aa (v := vb (decide (σ.c.sl ≤ ((t.i + 1 : Nat) : Int)))) ?_ ?_
   ·show ap _ .geq (vi ((t.i + 1 : Nat) : Int)) _ = _
    rw [tr]
    congr 3
    apply propext;omega
   exact aq ⟨(), by rw [hb], h6.to⟩
  cases is with
  | false =>
   refine gs ?_;refine WX ?_;refine gs ?_;exact tail false _ H4 (by rw [hfd]; rfl) h5 (fun _ _ => rfl)
  | true =>
   rw [hfl rfl];refine gs ?_;refine j5 ?_;refine bz (bV (aO (aO aY))) ?_;refine gs ?_;refine aR h5 rfl ?_;refine gs ?_
   by_cases hf : ((v / 4294967296 : Nat) : Int) - 1 = t.x.flow
   ·refine aa (bk hf) ?_
    refine gs ?_;exact tail true _ H4 (by rw [hfd, dj hf]; rfl) h5 (fun H8 h8 => aaD h8 h5 rfl)
   ·refine aa (aG hf) ?_
    refine gs ?_;exact tail false _ H4 (by rw [hfd, dP hf]; rfl) h5 (fun H8 h8 => aaD h8 h5 rfl)
 by_cases hv0 : v = 0
 ·have e1 : gP v = .tuple #[vi 0, vi 0, vb false] := by rw [gP, if_pos hv0]
  rw [e1];refine aa (v := vi 0) rfl ?_;refine aa (v := vi 0) rfl ?_;refine aa (v := vb false) rfl ?_;refine ah (ou ..) ?_;refine gs ?_;rw [Bool.not_false];refine gs ?_;refine aj h1 ac rfl ?_;refine gs ?_
  have hfd : (aC σ t).found = (false && decide (((v / 4294967296 : Nat) : Int) - 1 = t.x.flow)) := by
   show f9 (σ.μ.V (10, t.s, (t.i : Int))) t.x.flow = _;rw [← hv, hv0]
   rfl
  have e0 : vi (0 : Int) = vi ((v % 4294967296 : Nat) : Int) := by rw [hv0]; rfl
  by_cases hm : k.free < 0
  ·refine aa (cK hm) ?_
   refine gs ?_;refine aj h1 ac rfl ?_;refine bi h1 ac rfl rfl fun H2 h2 => ?_
   have em : (aC σ t).mark = t.i := by
    show (if σ.μ.V (10, t.s, (t.i : Int)) = 0 ∧ t.mark < 0 then (t.i : Int) else t.mark) = _;rw [if_pos ⟨by rw [← hv, hv0], by rw [← hfr]; exact hm⟩]
   rw [e0];refine fin _ _ _ false { k with free := t.i } H2 hI (fun h => by cases h) hfd (by rw [em]) ?_;rw [← hI];exact h2.to
  ·refine aa (ch hm) ?_
   refine gs ?_
   have em : (aC σ t).mark = k.free := by
    show (if σ.μ.V (10, t.s, (t.i : Int)) = 0 ∧ t.mark < 0 then (t.i : Int) else t.mark) = _;rw [if_neg (fun h => hm (by rw [hfr]; exact h.2)), hfr]
   rw [e0];exact fin _ _ _ false k H1 hI (fun h => by cases h) hfd (by rw [em]) h1.to
 ·have e1 : gP v = .tuple #[vi ((v / 4294967296 : Nat) - 1), vi (v % 4294967296 : Nat), vb true] := by rw [gP, if_neg hv0]
  rw [e1];refine aa (v := vi ((v / 4294967296 : Nat) - 1)) rfl ?_;refine aa (v := vi (v % 4294967296 : Nat)) rfl ?_;refine aa (v := vb true) rfl ?_;refine ah (ou ..) ?_;refine gs ?_;rw [Bool.not_true];refine gs ?_
  have hfd : (aC σ t).found = (true && decide (((v / 4294967296 : Nat) : Int) - 1 = t.x.flow)) := by
   show f9 (σ.μ.V (10, t.s, (t.i : Int))) t.x.flow = _;rw [← hv];simp [f9, hv0]
  have em : (aC σ t).mark = k.free := by
   show (if σ.μ.V (10, t.s, (t.i : Int)) = 0 ∧ t.mark < 0 then (t.i : Int) else t.mark) = _;rw [if_neg (fun h => hv0 (hv.trans h.1)), hfr]
  exact fin _ _ _ true k H1 hI (fun _ => rfl) hfd (by rw [em]) h1.to
end
theorem uI {rp : List Nat} {t : Tk} {k : Ek} (ha : t.at' < 4) (h : k.I = t.i ∧ k.free = t.mark) : Plt rp t k :=
 ⟨fun _ => h, fun _ => ⟨fun h => by omega, fun h => by omega, fun h => by omega⟩, fun _ => ⟨fun h _ => by omega, fun h => by omega, fun h => by omega, fun h => by omega, fun h => by omega⟩⟩
theorem KQ {rp : List Nat} {t : Tk} {k : Ek} (ho : t.x.op = 1) (ha : 4 ≤ t.at') (h4 : t.at' = 4 ∨ t.at' = 5 → k.free = t.mark) (h5 : t.at' = 5 → k.obj = t.obj) (h6 : t.at' = 6 → k.told = t.code) : Plt rp t k :=
 ⟨fun h => by omega, fun _ => ⟨h4, h5, h6⟩, fun h => absurd ho h⟩
theorem uf {rp : List Nat} {t : Tk} {k : Ek} {b : Nat} (ho : t.x.op ≠ 1) (ha : 4 ≤ t.at') (h1 : k.at' = t.i) (h2 : rp[t.obj]? = some b) (h3 : k.rv = vp b) (hq : t.at' = 6 ∨ t.at' = 7 → k.q = t.q) (hn : t.at' = 7 → k.nw = t.mark) (hw : t.at' = 8 → k.w = t.w) (hb : t.at' < 10) (ht : t.at' = 9 → k.told = t.code) : Plt rp t k :=
 ⟨fun h => by omega, fun h => absurd h ho, fun _ => ⟨fun _ _ => ⟨h1, b, h2, h3⟩, hq, hn, hw, fun h => ht (by omega)⟩⟩
theorem Xf {rp : List Nat} {t : Tk} {k : Ek} (ho : t.x.op ≠ 1) (ha : t.at' = 10) (h : k.told = t.code) : Plt rp t k :=
 ⟨fun h => by omega, fun h => absurd h ho, fun _ => ⟨fun _ _ => by omega, fun h => by omega, fun h => by omega, fun h => by omega, fun _ => h⟩⟩
section
variable (e p : Nat) (rp : List Nat) (σ : aN) (t : Tk) (now : Int)
theorem HI (S : SOk σ) (T : mJ σ t) (ho : t.x.op = 1) (hat : t.at' < 4) : Sp cP [vp e, vi now] (rT e p rp t * bn p rp σ) (fun _ : List Nat => ce (fG σ t)) (fun x => rQ e p rp (fG σ t) x) := by
 have hN : σ.μ.N < 1099511627000 := by have := S.N; omega
 refine aP fun R H h => ?_;obtain ⟨k, g, hk, rfl, hl, h0⟩ := iK h;refine bg (fun r => z8 _ _ H) ?_;refine bf h0 fun b1 H1 h1 => ?_;refine aj h1 ac rfl ?_;refine aj h1 ac rfl ?_;refine aj h1 ac rfl ?_;refine aj h1 ac rfl ?_;refine ag h1 (ue (p := p) (g := g) (σ := σ) (wh g.tb g.m σ.c.sh.toNat σ.c.sl.toNat σ.μ t.who t.s hN)) fun _ H2 h2 => ?_
 by_cases hw : σ.μ.V (8, t.s, 0) = 0
 ·rw [dj hw]
  refine gs ?_;rw [Bool.not_true];refine gs ?_;refine gQ (e := e) (p := p) (fE e (fY t)) t (k) bT h2 fun H9 h9 => ?_;exact gN (g := g) (σ' := lS σ t) (t' := { t with at' := 3 }) (k := k) (n := bT) (by unfold fG; rw [if_pos hw]) (uI (by simp) (hk.1 hat)) (by simp [fY, aC, ho]) hl (lw _) (show ae (rB e p (fE e bT) t (k) * (aE p g (lS σ t) * R)) H9 from h9.to)
 ·rw [dP hw]
  refine gs ?_;rw [Bool.not_false];refine gs ?_;refine gQ (e := e) (p := p) (fE e (fY t)) t (k) cP h2 fun H9 h9 => ?_;exact gN (g := g) (σ' := lS σ t) (t' := { t with at' := 2 }) (k := k) (n := cP) (by unfold fG; rw [if_neg hw]) (uI (by simp) (hk.1 hat)) (by simp [fY, aC, ho]) hl (lw _) (show ae (rB e p (fE e cP) t (k) * (aE p g (lS σ t) * R)) H9 from h9.to)
theorem MJ (S : SOk σ) (T : mJ σ t) (ho : t.x.op ≠ 1) (hat : t.at' < 4) : Sp da [vp e, vi now] (rT e p rp t * bn p rp σ) (fun _ : List Nat => ce (fG σ t)) (fun x => rQ e p rp (fG σ t) x) := by
 have hN : σ.μ.N < 1099511627000 := by have := S.N; omega
 refine aP fun R H h => ?_;obtain ⟨k, g, hk, rfl, hl, h0⟩ := iK h;refine bg (fun r => B0 _ _ H) ?_;refine bf h0 fun b1 H1 h1 => ?_;refine aj h1 ac rfl ?_;refine aj h1 ac rfl ?_;refine aj h1 ac rfl ?_;refine aj h1 ac rfl ?_;refine ag h1 (ue (p := p) (g := g) (σ := σ) (wh g.tb g.m σ.c.sh.toNat σ.c.sl.toNat σ.μ t.who t.s hN)) fun _ H2 h2 => ?_
 by_cases hw : σ.μ.V (8, t.s, 0) = 0
 ·rw [dj hw]
  refine gs ?_;rw [Bool.not_true];refine gs ?_;refine gQ (e := e) (p := p) (fE e (fY t)) t (k) ci h2 fun H9 h9 => ?_;exact gN (g := g) (σ' := lS σ t) (t' := { t with at' := 3 }) (k := k) (n := ci) (by unfold fG; rw [if_pos hw]) (uI (by simp) (hk.1 hat)) (by simp [fY, aC, ho]) hl (lw _) (show ae (rB e p (fE e ci) t (k) * (aE p g (lS σ t) * R)) H9 from h9.to)
 ·rw [dP hw]
  refine gs ?_;rw [Bool.not_false];refine gs ?_;refine gQ (e := e) (p := p) (fE e (fY t)) t (k) da h2 fun H9 h9 => ?_;exact gN (g := g) (σ' := lS σ t) (t' := { t with at' := 2 }) (k := k) (n := da) (by unfold fG; rw [if_neg hw]) (uI (by simp) (hk.1 hat)) (by simp [fY, aC, ho]) hl (lw _) (show ae (rB e p (fE e da) t (k) * (aE p g (lS σ t) * R)) H9 from h9.to)
theorem AM (g : PIds) (k : Ek) (nx : Value) : Sp gJ [vp e] (rB e p nx t k) (fun _ : Unit => vb (decide (lN t.x))) (fun _ => rB e p nx t k) := by
 refine br (wb _) fun R H h => ?_;refine aj h (bV (aO (aO aY))) rfl ?_
 by_cases hf : t.x.flow < 0
 ·rw [show decide (lN t.x) = true from dj (.inl hf)]
  refine aa (cK hf) ?_;refine gs ?_;exact aq ⟨(), rfl, h⟩
 ·refine aa (ch hf) ?_
  refine gs ?_;refine aj h (bV (aO (aO aY))) rfl ?_;refine gs ?_
  by_cases hf2 : 1048576 < t.x.flow
  ·rw [show decide (lN t.x) = true from dj (.inr hf2)]
   refine aa (lq hf2) ?_;refine gs ?_;exact aq ⟨(), rfl, h⟩
  ·rw [show decide (lN t.x) = false from dP (fun h => h.elim hf hf2)]
   refine aa (f7 hf2) ?_;refine gs ?_;exact aq ⟨(), rfl, h⟩
theorem PL (g : PIds) (k : Ek) (nx : Value) (code : Int) (hp : σ.pts.length < 1000000) (hl : g.rp.length = σ.obs.length) : Sp dq [vp e, vi now, vi code] (rB e p nx t k * aE p g σ) (fun _ : Unit => .tuple #[.agg (ef code).toArray, vb true]) (fun _ => ex fun g' : PIds => pu (g'.rp = g.rp) * aE p g' (σ.note now t.who code)) := by
 refine br (yy _ _ _) fun R H h => ?_;refine bf h fun b H1 h1 => ?_;refine ag h1 (nD e p g σ t k nx now code hp hl) fun g' H2 h2 => ?_;rw [ai, ae.pu] at h2;obtain ⟨hg', h2⟩ := h2;refine iz ?_;refine cX h2 rfl rfl fun H4 h4 => ?_;refine aJ h4 ?_;refine aq ⟨(), rfl, ae.ex.2 ⟨g', ?_⟩⟩;rw [ai];exact ae.pu.2 ⟨hg', h4.to⟩
theorem mG {R : SP} {H : AH} {g : PIds} {k : Ek} {nx : Value} {b : Nat} (code : Int) (S : SOk σ) (hl : g.rp.length = σ.obs.length) (hx : dM t.x = some code) (h : ae (rB e p nx t k * (aE p g σ * (blk b (.cells false [vi 0, .slice none 0 0, vi 0, vw 0]) * R))) H) (hat : t.at' = 0) :
 wp ((FF dq [vp e, vi now, vi code] H).bind fun r2 => (af r2.1 0).bind fun v3 => (af r2.1 1).bind fun v4 => (cf 4 (vp b) v3 r2.2).bind fun H5 => (ay 4 (vp b) H5).bind fun v6 => some (Value.tuple #[v6, v4], H5)) fun v' H' => ∃ x : List Nat, v' = ce (az σ t now) ∧ ae (rQ e p g.rp (az σ t now) x * R) H' := by
 refine nG h (PL e p σ t now g k nx code (by have := S.pts; omega) hl) fun H9 h9 => ?_;obtain ⟨g', h1⟩ := ae.ex.1 h9;rw [ai, ae.pu] at h1
 have hs : az σ t now = (σ.note now t.who code, { t with code := code }, true) := by simp only [az, hat, hx]
 have := abK (e := e) (p := p) (rp := g.rp) (g := g') (r := az σ t now) (σ' := σ.note now t.who code) (t' := { t with code := code }) (R := R) (H := H9) hs rfl (by rw [h1.1]; exact hl) (by rw [h1.1]; exact lw _) h1.2.to;exact this
theorem nC {x : Cl} (ho : x.op = 1) : dM x = if lN x then some 1 else if x.a < 1 ∨ 65536 < x.a then some 4 else if x.b < 1 ∨ 8 < x.b then some 1 else none := if_pos ho
theorem Fa {x : Cl} (ho : x.op ≠ 1) : dM x = if lN x then some 5 else none := if_neg ho
theorem yr {k : Ek} {g : PIds} {R : SP} {H : AH} (hk : Plt g.rp t k) (hl : g.rp.length = σ.obs.length) (h : ae (rB e p (fE e (fY t)) t k * (aE p g σ * R)) H) : ae (rT e p g.rp t * bn p g.rp σ * R) H := by
 have h1 := bG (p := p) (rp := g.rp) (σ := σ) (R := rB e p (fE e (fY t)) t k * R) g rfl hl h.to;unfold rT;rw [ai];refine ae.ex.2 ⟨k, ?_⟩;rw [ai];exact ae.pu.2 ⟨hk, h1.to⟩
theorem KD {e p : Nat} {rp : List Nat} {r : aN × Tk × Bool} {P0 R : SP} {H : AH} {b fn : Nat} {args : List Value} (h : ae (P0 * (blk b (.cells false [vi 0, .slice none 0 0, vi 0, vw 0]) * R)) H)
 (s : Sp fn args P0 (fun _ : List Nat => ce r) (fun x => rQ e p rp r x)) :
 wp ((FF fn args H).bind fun r2 => (af r2.1 0).bind fun v3 => (af r2.1 1).bind fun v4 => (cf 4 (vp b) v3 r2.2).bind fun H5 => (ay 4 (vp b) H5).bind fun v6 => some (Value.tuple #[v6, v4], H5)) fun v' H' => ∃ x : List Nat, v' = ce r ∧ ae (rQ e p rp r x * R) H' := by
 refine ag h s fun y H2 h2 => ?_;refine aa (v := .agg (ef (if r.2.2 = true then r.2.1.code else 0)).toArray) rfl ?_;refine aa (v := vb r.2.2) rfl ?_;refine cX h2 rfl rfl fun H3 h3 => ?_;refine aJ h3 ?_;exact aq ⟨y, rfl, h3.to⟩
theorem abV (S : SOk σ) (T : mJ σ t) (ho : t.x.op = 1) (hat : t.at' = 0) : Sp fS [vp e, vi now] (rT e p rp t * bn p rp σ) (fun _ : List Nat => ce (az σ t now)) (fun x => rQ e p rp (az σ t now) x) := by
 refine aP fun R H h => ?_;obtain ⟨k, g, hk, rfl, hl, h0⟩ := iK h;refine bg (fun r => BY _ _ H) ?_;refine bf h0 fun b1 H1 h1 => ?_;refine ah (v7 ..) ?_;refine ag h1 (AM e p t g k (fE e (fY t))) fun _ H2 h2 => ?_
 by_cases hf : lN t.x
 ·rw [dj hf]
  refine gs ?_;exact mG e p σ t now (k := k) (nx := fE e (fY t)) 1 S hl (by rw [nC ho, if_pos hf]) h2.to hat
 rw [dP hf];refine gs ?_;refine aj h2 (bV (aO (aO aY))) rfl ?_
 have bad : (t.x.a < 1 ∨ 65536 < t.x.a) → dM t.x = some 4 := fun h => by rw [nC ho, if_neg hf, if_pos h]
 by_cases ha : t.x.a < 1
 ·refine aa (cK ha) ?_
  refine gs ?_;exact mG e p σ t now (k := k) (nx := fE e (fY t)) 4 S hl (bad (.inl ha)) h2.to hat
 refine aa (ch ha) ?_;refine gs ?_;refine aj h2 (bV (aO (aO aY))) rfl ?_;refine gs ?_
 by_cases ha2 : 65536 < t.x.a
 ·refine aa (lq ha2) ?_
  refine gs ?_;exact mG e p σ t now (k := k) (nx := fE e (fY t)) 4 S hl (bad (.inr ha2)) h2.to hat
 refine aa (f7 ha2) ?_;refine gs ?_;refine aj h2 (bV (aO (aO aY))) rfl ?_
 have bad2 : (t.x.b < 1 ∨ 8 < t.x.b) → dM t.x = some 1 := fun h => by rw [nC ho, if_neg hf, if_neg (by omega), if_pos h]
 by_cases hb : t.x.b < 1
 ·refine aa (cK hb) ?_
  refine gs ?_;exact mG e p σ t now (k := k) (nx := fE e (fY t)) 1 S hl (bad2 (.inl hb)) h2.to hat
 refine aa (ch hb) ?_;refine gs ?_;refine aj h2 (bV (aO (aO aY))) rfl ?_;refine gs ?_
 by_cases hb2 : 8 < t.x.b
 ·refine aa (lq hb2) ?_
  refine gs ?_;exact mG e p σ t now (k := k) (nx := fE e (fY t)) 1 S hl (bad2 (.inr hb2)) h2.to hat
 refine aa (f7 hb2) ?_;refine gs ?_;refine ah (v8 ..) ?_
 have hx : dM t.x = none := by rw [nC ho, if_neg hf, if_neg (by omega), if_neg (by omega)]
 have hs : az σ t now = fG σ t := by simp only [az, hat, hx]
 have h3 : ae (rT e p g.rp t * bn p g.rp σ * (blk b1 (.cells false [vi 0, .slice none 0 0, vi 0, vw 0]) * R)) H2 := yr e p σ t hk hl h2.to;rw [hs];exact KD h3 (HI e p g.rp σ t now S T ho (by omega))
theorem Wv (S : SOk σ) (T : mJ σ t) (ho : t.x.op ≠ 1) (hat : t.at' = 0) : Sp eS [vp e, vi now] (rT e p rp t * bn p rp σ) (fun _ : List Nat => ce (az σ t now)) (fun x => rQ e p rp (az σ t now) x) := by
 refine aP fun R H h => ?_;obtain ⟨k, g, hk, rfl, hl, h0⟩ := iK h;refine bg (fun r => z9 _ _ H) ?_;refine bf h0 fun b1 H1 h1 => ?_;refine ag h1 (AM e p t g k (fE e (fY t))) fun _ H2 h2 => ?_
 by_cases hf : lN t.x
 ·rw [dj hf]
  refine gs ?_;exact mG e p σ t now (k := k) (nx := fE e (fY t)) 5 S hl (by rw [Fa ho, if_pos hf]) h2.to hat
 rw [dP hf];refine gs ?_
 have hx : dM t.x = none := by rw [Fa ho, if_neg hf]
 have hs : az σ t now = fG σ t := by simp only [az, hat, hx]
 have h3 : ae (rT e p g.rp t * bn p g.rp σ * (blk b1 (.cells false [vi 0, .slice none 0 0, vi 0, vw 0]) * R)) H2 := yr e p σ t hk hl h2.to;rw [hs];exact KD h3 (MJ e p g.rp σ t now S T ho (by omega))
theorem PM (S : SOk σ) (T : mJ σ t) (ho : t.x.op = 1) (hat : t.at' = 3) : Sp bT [vp e, vi now] (rT e p rp t * bn p rp σ) (fun _ : List Nat => ce (az σ t now)) (fun x => rQ e p rp (az σ t now) x) := by
 have hN : σ.μ.N < 1099511627000 := by have := S.N; omega
 refine aP fun R H h => ?_;obtain ⟨k, g, hk, rfl, hl, h0⟩ := iK h;refine bg (fun r => yz _ _ H) ?_;refine bf h0 fun b1 H1 h1 => ?_;have hi := T.i (by omega);obtain ⟨hI, hfr⟩ := hk.1 (by omega);refine ag h1 (S9 e p g σ t k (fE e (fY t)) S hi hI hfr) fun _ H2 h2 => ?_;obtain ⟨k2, hk2⟩ : ∃ k2 : Ek, k2 = { k with I := t.i + 1, free := (aC σ t).mark, at' := t.i, obj := σ.μ.V (10, t.s, (t.i : Int)) % 4294967296 } := ⟨_, rfl⟩;rw [← hk2] at h2;refine aa (v := vb (aC σ t).found) rfl ?_;refine aa (v := vb (decide (σ.c.sl ≤ ((t.i + 1 : Nat) : Int)))) rfl ?_;refine ah (sU ..) ?_
 cases hfd : (aC σ t).found with
 | true =>
  refine gs ?_;refine ag h2 (nD e p g (ba σ t) t k2 (fE e (fY t)) now 6 (by have := S.pts; show σ.pts.length < _; omega) hl) fun g' H3 h3 => ?_;rw [ai, ae.pu] at h3;obtain ⟨hg', h3⟩ := h3;refine gQ (e := e) (p := p) (fE e (fY t)) t ({ k2 with told := 6 }) aX h3 fun H9 h9 => ?_;exact gN (g := g') (σ' := (ba σ t).note now t.who 6) (t' := { aC σ t with at' := 6, code := 6 }) (k := { k2 with told := 6 }) (n := aX) (by simp only [az, hat]; rw [if_pos hfd, if_pos ho]) (KQ ho (by simp) (by simp) (by simp) (by simp)) (by simp [fY, aC, ho]) (by rw [hg']; exact hl) (by rw [hg']; exact lw _) (show ae (rB e p (fE e aX) t ({ k2 with told := 6 }) * (aE p g' ((ba σ t).note now t.who 6) * R)) H9 from h9.to)
 | false =>
  refine gs ?_
  have hli : (aC σ t).i = t.i + 1 := by
   show (if (aC σ t).found = true then t.i else t.i + 1) = _;rw [if_neg (by rw [hfd]; simp)]
  have hla : bK σ (aC σ t) = decide (σ.c.sl ≤ ((t.i + 1 : Nat) : Int)) := by unfold bK; rw [hli]
  have nf : ¬ (aC σ t).found = true := by rw [hfd]; simp
  by_cases hL : σ.c.sl ≤ ((t.i + 1 : Nat) : Int)
  ·have hla' : bK σ (aC σ t) = true := hla.trans (dj hL)
   rw [dj hL];refine gs ?_;refine aj h2 ac (show _ = some (vi (aC σ t).mark) from by rw [hk2]; rfl) ?_;refine gs ?_
   by_cases hm : (aC σ t).mark < 0
   ·refine aa (cK hm) ?_
    refine gs ?_;refine ag h2 (nD e p g (ba σ t) t k2 (fE e (fY t)) now 7 (by have := S.pts; show σ.pts.length < _; omega) hl) fun g' H3 h3 => ?_;rw [ai, ae.pu] at h3;obtain ⟨hg', h3⟩ := h3;refine gQ (e := e) (p := p) (fE e (fY t)) t ({ k2 with told := 7 }) aX h3 fun H9 h9 => ?_;exact gN (g := g') (σ' := (ba σ t).note now t.who 7) (t' := { aC σ t with at' := 6, code := 7 }) (k := { k2 with told := 7 }) (n := aX) (by simp only [az, hat]; rw [if_neg nf, if_pos hla', if_pos ho, if_pos hm]) (KQ ho (by simp) (by simp) (by simp) (by simp)) (by simp [fY, aC, ho]) (by rw [hg']; exact hl) (by rw [hg']; exact lw _) (show ae (rB e p (fE e aX) t ({ k2 with told := 7 }) * (aE p g' ((ba σ t).note now t.who 7) * R)) H9 from h9.to)
   ·refine aa (ch hm) ?_
    refine gs ?_;refine gQ (e := e) (p := p) (fE e (fY t)) t (k2) dz h2 fun H9 h9 => ?_;exact gN (g := g) (σ' := ba σ t) (t' := { aC σ t with at' := 4 }) (k := k2) (n := dz) (by simp only [az, hat]; rw [if_neg nf, if_pos hla', if_pos ho, if_neg hm]) (KQ ho (by simp) (fun _ => by rw [hk2]) (by simp) (by simp)) (by simp [fY, aC, ho]) hl (lw _) (show ae (rB e p (fE e dz) t (k2) * (aE p g (ba σ t) * R)) H9 from h9.to)
  ·have hla' : ¬ bK σ (aC σ t) = true := by rw [hla, dP hL]; simp
   rw [dP hL];refine gs ?_;refine ah (sV ..) ?_;refine gQ (e := e) (p := p) (fE e (fY t)) t (k2) bT h2 fun H9 h9 => ?_;exact gN (g := g) (σ' := ba σ t) (t' := aC σ t) (k := k2) (n := bT) (by simp only [az, hat]; rw [if_neg nf, if_neg hla']) (uI (by show t.at' < 4; omega) ⟨by rw [hk2, hli], by rw [hk2]⟩) (by show fY (aC σ t) = _; unfold fY; rw [if_pos (show (aC σ t).x.op = 1 from ho), show (aC σ t).at' = 3 from hat]; rfl) hl (lw _) (show ae (rB e p (fE e bT) t (k2) * (aE p g (ba σ t) * R)) H9 from h9.to)
theorem abW (S : SOk σ) (T : mJ σ t) (ho : t.x.op ≠ 1) (hat : t.at' = 3) : Sp ci [vp e, vi now] (rT e p rp t * bn p rp σ) (fun _ : List Nat => ce (az σ t now)) (fun x => rQ e p rp (az σ t now) x) := by
 have hN : σ.μ.N < 1099511627000 := by have := S.N; omega
 refine aP fun R H h => ?_;obtain ⟨k, g, hk, rfl, hl, h0⟩ := iK h;refine bg (fun r => BZ _ _ H) ?_;refine bf h0 fun b1 H1 h1 => ?_;have hi := T.i (by omega);obtain ⟨hI, hfr⟩ := hk.1 (by omega);refine ag h1 (S9 e p g σ t k (fE e (fY t)) S hi hI hfr) fun _ H2 h2 => ?_;obtain ⟨k2, hk2⟩ : ∃ k2 : Ek, k2 = { k with I := t.i + 1, free := (aC σ t).mark, at' := t.i, obj := σ.μ.V (10, t.s, (t.i : Int)) % 4294967296 } := ⟨_, rfl⟩;rw [← hk2] at h2;refine aa (v := vb (aC σ t).found) rfl ?_;refine aa (v := vb (decide (σ.c.sl ≤ ((t.i + 1 : Nat) : Int)))) rfl ?_;refine ah (v9 ..) ?_
 cases hfd : (aC σ t).found with
 | true =>
  refine gs ?_
  have hob : (aC σ t).obj = σ.μ.V (10, t.s, (t.i : Int)) % 4294967296 := by
   show (if (aC σ t).found = true then σ.μ.V (10, t.s, (t.i : Int)) % 4294967296 else t.obj) = _;rw [if_pos hfd]
  have hi2 : (aC σ t).i = t.i := by
   show (if (aC σ t).found = true then t.i else t.i + 1) = _;rw [if_pos hfd]
  have ho2 : (aC σ t).obj < σ.obs.length := by
   rw [hob];refine S.slot t.s t.i fun h0 => ?_;have : f9 (σ.μ.V (10, t.s, (t.i : Int))) t.x.flow = true := hfd;rw [h0] at this;cases this
  obtain ⟨b, hb⟩ : ∃ b, g.rp[(aC σ t).obj]? = some b := ⟨_, cS (by omega)⟩;refine aj h2 ac rfl ?_;refine aj h2 ac (show _ = some (vi ((aC σ t).obj : Int)) from by rw [hk2, hob]; rfl) ?_;refine ag h2 (od p g (ba σ t) hl (aC σ t).obj b ho2 hb) fun _ H3 h3 => ?_;refine bi h3 ac rfl rfl fun H4 h4 => ?_;refine gQ (e := e) (p := p) (fE e (fY t)) t ({ k2 with rv := vp b }) bv h4 fun H9 h9 => ?_;exact gN (g := g) (σ' := ba σ t) (t' := { aC σ t with at' := 4 }) (k := { k2 with rv := vp b }) (n := bv) (by simp only [az, hat]; rw [if_pos hfd, if_neg ho]) (uf (b := b) ho (by simp) (show k2.at' = ((aC σ t).i : Int) from by rw [hk2, hi2]) hb rfl (by simp) (by simp) (by simp) (by simp) (by simp)) (by simp [fY, aC, ho]) hl (lw _) (show ae (rB e p (fE e bv) t ({ k2 with rv := vp b }) * (aE p g (ba σ t) * R)) H9 from h9.to)
 | false =>
  refine gs ?_
  have hli : (aC σ t).i = t.i + 1 := by
   show (if (aC σ t).found = true then t.i else t.i + 1) = _;rw [if_neg (by rw [hfd]; simp)]
  have hla : bK σ (aC σ t) = decide (σ.c.sl ≤ ((t.i + 1 : Nat) : Int)) := by unfold bK; rw [hli]
  have nf : ¬ (aC σ t).found = true := by rw [hfd]; simp
  by_cases hL : σ.c.sl ≤ ((t.i + 1 : Nat) : Int)
  ·have hla' : bK σ (aC σ t) = true := hla.trans (dj hL)
   rw [dj hL];refine gs ?_;refine ag h2 (nD e p g (ba σ t) t k2 (fE e (fY t)) now 5 (by have := S.pts; show σ.pts.length < _; omega) hl) fun g' H3 h3 => ?_;rw [ai, ae.pu] at h3;obtain ⟨hg', h3⟩ := h3;refine gQ (e := e) (p := p) (fE e (fY t)) t ({ k2 with told := 5 }) aX h3 fun H9 h9 => ?_;exact gN (g := g') (σ' := (ba σ t).note now t.who 5) (t' := { aC σ t with at' := 10, code := 5 }) (k := { k2 with told := 5 }) (n := aX) (by simp only [az, hat]; rw [if_neg nf, if_pos hla', if_neg ho]) (Xf ho rfl rfl) (by simp [fY, aC, ho]) (by rw [hg']; exact hl) (by rw [hg']; exact lw _) (show ae (rB e p (fE e aX) t ({ k2 with told := 5 }) * (aE p g' ((ba σ t).note now t.who 5) * R)) H9 from h9.to)
  ·have hla' : ¬ bK σ (aC σ t) = true := by rw [hla, dP hL]; simp
   rw [dP hL];refine gs ?_;refine ah (wa ..) ?_;refine gQ (e := e) (p := p) (fE e (fY t)) t (k2) ci h2 fun H9 h9 => ?_;exact gN (g := g) (σ' := ba σ t) (t' := aC σ t) (k := k2) (n := ci) (by simp only [az, hat]; rw [if_neg nf, if_neg hla']) (uI (by show t.at' < 4; omega) ⟨by rw [hk2, hli], by rw [hk2]⟩) (by show fY (aC σ t) = _; unfold fY; rw [if_neg (show ¬ (aC σ t).x.op = 1 from ho), show (aC σ t).at' = 3 from hat]; rfl) hl (lw _) (show ae (rB e p (fE e ci) t (k2) * (aE p g (ba σ t) * R)) H9 from h9.to)
theorem mi (ho : t.x.op = 1) (ha : 4 ≤ t.at') : az σ t now = yw σ t now := by
 unfold az
 split
 ·omega
 ·omega
 ·omega
 ·rw [if_pos ho]
theorem bR (ho : t.x.op ≠ 1) (ha : 4 ≤ t.at') : az σ t now = eH σ t now := by
 unfold az
 split
 ·omega
 ·omega
 ·omega
 ·rw [if_neg ho]
theorem yu {x : Cl} (h : dM x = none) : (0 ≤ x.flow ∧ x.flow ≤ 1048576) ∧ (x.op = 1 → (1 ≤ x.a ∧ x.a ≤ 65536) ∧ 1 ≤ x.b ∧ x.b ≤ 8) := by
 by_cases ho : x.op = 1
 ·rw [nC ho] at h
  by_cases hf : lN x
  ·rw [if_pos hf] at h; cases h
  rw [if_neg hf] at h
  by_cases ha : x.a < 1 ∨ 65536 < x.a
  ·rw [if_pos ha] at h; cases h
  rw [if_neg ha] at h
  by_cases hb : x.b < 1 ∨ 8 < x.b
  ·rw [if_pos hb] at h; cases h
  unfold lN at hf;omega
 ·rw [Fa ho] at h
  by_cases hf : lN x
  ·rw [if_pos hf] at h; cases h
  unfold lN at hf;omega
theorem abX (S : SOk σ) (T : mJ σ t) (ho : t.x.op = 1) (hat : t.at' = 4) : Sp dz [vp e, vi now] (rT e p rp t * bn p rp σ) (fun _ : List Nat => ce (az σ t now)) (fun x => rQ e p rp (az σ t now) x) := by
 have hN : σ.μ.N < 1099511627000 := by have := S.N; omega
 refine aP fun R H h => ?_;obtain ⟨k, g, hk, rfl, hl, h0⟩ := iK h;refine bg (fun r => B1 _ _ H) ?_;refine bf h0 fun b1 H1 h1 => ?_;have hx := yu (T.x (by omega));have hc := bo.1 S.c
 have hst : az σ t now = (σ.make t.who (obR σ t), { t with obj := σ.obs.length, at' := 5 }, false) := by rw [mi σ t now ho (by omega)]; simp only [yw, hat]
 refine aj h1 ac rfl ?_;refine aj h1 (bV (aO (aO aY))) rfl ?_;refine aj h1 (bV (aO (aO aY))) rfl ?_;refine ag h1 (M3 σ.c.un t.x.a (by omega) (hx.2 ho).1) fun _ H2 h2 => ?_;refine aa (v := vu (max (σ.c.un / t.x.a.toNat) 1)) rfl ?_;refine aa (v := vb true) rfl ?_;refine aj h2 ac rfl ?_;refine aj h2 ac rfl ?_;refine aj h2 (bV (aO (aO aY))) rfl ?_;refine aj h2 (bV (aO (aO aY))) rfl ?_;refine iz ?_;refine ag h2 (alF p g σ t.who (obR σ t) hN (by have := S.obs; omega) hl) fun g' H3 h3 => ?_;rw [ai, ae.pu] at h3;obtain ⟨⟨hpre, hl'⟩, h3⟩ := h3;refine bi h3 ac rfl rfl fun H4 h4 => ?_;refine gQ (e := e) (p := p) (fE e (fY t)) ({ t with obj := σ.obs.length, at' := 5 }) ({ k with obj := σ.obs.length }) fB h4 fun H9 h9 => ?_;exact gN (g := g') (σ' := σ.make t.who (obR σ t)) (t' := { t with obj := σ.obs.length, at' := 5 }) (k := { k with obj := σ.obs.length }) (n := fB) hst (KQ ho (by simp) (fun _ => (hk.2.1 ho).1 (.inl hat)) (by simp) (by simp)) (by simp [fY, aC, ho]) (by rw [hl']; simp) hpre h9.to
theorem agL (S : SOk σ) (T : mJ σ t) (ho : t.x.op = 1) (hat : t.at' = 5) : Sp fB [vp e, vi now] (rT e p rp t * bn p rp σ) (fun _ : List Nat => ce (az σ t now)) (fun x => rQ e p rp (az σ t now) x) := by
 have hN : σ.μ.N < 1099511627000 := by have := S.N; omega
 refine aP fun R H h => ?_;obtain ⟨k, g, hk, rfl, hl, h0⟩ := iK h;refine bg (fun r => Fe _ _ H) ?_;refine bf h0 fun b1 H1 h1 => ?_;have hx := yu (T.x (by omega));have hob := T.obj (.inl ⟨hat, ho⟩);have hso := S.obs;have hfm := (hk.2.1 ho).1 (.inr hat);have hko := (hk.2.1 ho).2.1 hat
 have hst : az σ t now = ((σ.mem ((σ.μ.acc t.who 2 (10, t.s, t.mark)).put (10, t.s, t.mark) (cy t.x.flow t.obj))).note now t.who 0, { t with at' := 6, code := 0 }, false) := by rw [mi σ t now ho (by omega)]; simp only [yw, hat]
 refine aj h1 ac rfl ?_;refine aj h1 ac rfl ?_;refine aj h1 ac rfl ?_;refine aj h1 ac rfl ?_;refine aj h1 ac rfl ?_;refine aj h1 (bV (aO (aO aY))) rfl ?_;refine aj h1 ac rfl ?_;rw [hfm, hko];refine ag h1 (ue (p := p) (g := g) (σ := σ) (Ia g.tb g.m σ.c.sh.toNat σ.c.sl.toNat σ.μ t.who t.s t.mark t.x.flow t.obj hN hx.1 (by omega))) fun _ H2 h2 => ?_;refine ag h2 (nD e p g (σ.mem ((σ.μ.acc t.who 2 (10, t.s, t.mark)).put (10, t.s, t.mark) (cy t.x.flow t.obj))) t k (fE e (fY t)) now 0 (by have := S.pts; show σ.pts.length < _; omega) hl) fun g' H3 h3 => ?_;rw [ai, ae.pu] at h3;obtain ⟨hg', h3⟩ := h3;refine gQ (e := e) (p := p) (fE e (fY t)) ({ t with at' := 6, code := 0 }) ({ k with told := 0 }) aX h3 fun H9 h9 => ?_;exact gN (g := g') (σ' := (σ.mem ((σ.μ.acc t.who 2 (10, t.s, t.mark)).put (10, t.s, t.mark) (cy t.x.flow t.obj))).note now t.who 0) (t' := { t with at' := 6, code := 0 }) (k := { k with told := 0 }) (n := aX) hst (KQ ho (by simp) (by simp) (by simp) (by simp)) (by simp [fY, aC, ho]) (by rw [hg']; exact hl) (by rw [hg']; exact lw _) h9.to
theorem Tb (S : SOk σ) (T : mJ σ t) (hat : t.at' = if t.x.op = 1 then 6 else 10) : Sp aX [vp e, vi now] (rT e p rp t * bn p rp σ) (fun _ : List Nat => ce (az σ t now)) (fun x => rQ e p rp (az σ t now) x) := by
 have hN : σ.μ.N < 1099511627000 := by have := S.N; omega
 refine aP fun R H h => ?_;obtain ⟨k, g, hk, rfl, hl, h0⟩ := iK h;refine bg (fun r => Fd _ _ H) ?_;refine bf h0 fun b1 H1 h1 => ?_
 have hst : az σ t now = (i8 σ t, t, true) := by
  by_cases ho : t.x.op = 1
  ·rw [if_pos ho] at hat
   rw [mi σ t now ho (by omega)]; simp only [yw, hat]
  ·rw [if_neg ho] at hat
   rw [bR σ t now ho (by omega)]; simp only [eH, hat]
 have hto : k.told = t.code := by
  by_cases ho : t.x.op = 1
  ·rw [if_pos ho] at hat
   exact (hk.2.1 ho).2.2 hat
  ·rw [if_neg ho] at hat
   exact (hk.2.2 ho).2.2.2.2 (.inr hat)
 refine aj h1 ac rfl ?_;refine aj h1 ac rfl ?_;refine aj h1 ac rfl ?_;refine aj h1 ac rfl ?_;refine ag h1 (ue (p := p) (g := g) (σ := σ) (yQ g.tb g.m σ.c.sh.toNat σ.c.sl.toNat σ.μ t.who t.s hN)) fun _ H2 h2 => ?_;refine aj h2 ac rfl ?_;rw [hto];refine iz ?_;refine cX h2 rfl rfl fun H3 h3 => ?_;refine aJ h3 ?_;exact aq (abK (g := g) (σ' := i8 σ t) (t' := t) hst rfl hl (lw _) h3.to)
theorem Tc (g : PIds) (k : Ek) (nx : Value) (S : SOk σ) (hl : g.rp.length = σ.obs.length) (b : Nat) (hob : t.obj < σ.obs.length) (hb : g.rp[t.obj]? = some b) (hrv : k.rv = vp b) :
 Sp kV [vp e] (rB e p nx t k * aE p g σ) (fun _ : Unit => vb (decide (aZ (σ.μ.V (11, (t.obj : Int), 0)) = 0))) (fun _ => rB e p nx t { k with w := σ.μ.V (11, (t.obj : Int), 0) } * aE p g (dg σ t)) := by
 have hN : σ.μ.N < 1099511627000 := by have := S.N; omega
 refine br (Fg _) fun R H h => ?_;refine aj (v := vp b) h ac (by rw [← hrv]; rfl) ?_;refine aj h ac rfl ?_;refine ag h (kQ (p := p) hl hob hb (Ab g.m t.obj b (au σ t.obj) σ.μ t.who hN)) fun _ H2 h2 => ?_;refine bi h2 ac rfl rfl fun H3 h3 => ?_;refine aj h3 ac rfl ?_;refine ag h3 (kO _ (S.V _)) fun _ H4 h4 => ?_
 by_cases hw : aZ (σ.μ.V (11, (t.obj : Int), 0)) = 0
 ·rw [dj hw]
  refine aa (bk hw) ?_;exact aq ⟨(), rfl, h4.to⟩
 ·rw [dP hw]
  refine aa (aG hw) ?_;exact aq ⟨(), rfl, h4.to⟩
theorem ab1 (S : SOk σ) (T : mJ σ t) (ho : t.x.op ≠ 1) (hat : t.at' = 4) : Sp bv [vp e, vi now] (rT e p rp t * bn p rp σ) (fun _ : List Nat => ce (az σ t now)) (fun x => rQ e p rp (az σ t now) x) := by
 have hN : σ.μ.N < 1099511627000 := by have := S.N; omega
 refine aP fun R H h => ?_;obtain ⟨k, g, hk, rfl, hl, h0⟩ := iK h;obtain ⟨hki, b, hb, hrv⟩ := (hk.2.2 ho).1 (by omega) (by omega);have hob := T.obj (.inr ⟨by omega, by omega, ho⟩);refine bg (fun r => B4 _ _ H) ?_;refine bf h0 fun b1 H1 h1 => ?_;refine ag h1 (Tc e p σ t g k (fE e (fY t)) S hl b hob hb hrv) fun _ H2 h2 => ?_
 by_cases hw : aZ (σ.μ.V (11, (t.obj : Int), 0)) = 0
 ·rw [dj hw]
  refine gs ?_;refine gQ (e := e) (p := p) (fE e (fY t)) t ({ k with w := σ.μ.V (11, (t.obj : Int), 0) }) cj h2 fun H9 h9 => ?_;exact gN (g := g) (σ' := dg σ t) (t' := { t with w := σ.μ.V (11, (t.obj : Int), 0), at' := 8 }) (k := { k with w := σ.μ.V (11, (t.obj : Int), 0) }) (n := cj) (by rw [bR σ t now ho (by omega)]; simp only [eH, hat]; rw [if_pos hw]) (uf (b := b) ho (by simp) hki hb hrv (by simp) (by simp) (fun _ => rfl) (by simp) (by simp)) (by simp [fY, aC, ho]) hl (lw _) (show ae (rB e p (fE e cj) t ({ k with w := σ.μ.V (11, (t.obj : Int), 0) }) * (aE p g (dg σ t) * R)) H9 from h9.to)
 ·rw [dP hw]
  refine gs ?_;refine gQ (e := e) (p := p) (fE e (fY t)) t ({ k with w := σ.μ.V (11, (t.obj : Int), 0) }) dY h2 fun H9 h9 => ?_;exact gN (g := g) (σ' := dg σ t) (t' := { t with w := σ.μ.V (11, (t.obj : Int), 0), at' := 5 }) (k := { k with w := σ.μ.V (11, (t.obj : Int), 0) }) (n := dY) (by rw [bR σ t now ho (by omega)]; simp only [eH, hat]; rw [if_neg hw]) (uf (b := b) ho (by simp) hki hb hrv (by simp) (by simp) (by simp) (by simp) (by simp)) (by simp [fY, aC, ho]) hl (lw _) (show ae (rB e p (fE e dY) t ({ k with w := σ.μ.V (11, (t.obj : Int), 0) }) * (aE p g (dg σ t) * R)) H9 from h9.to)
theorem Gu (S : SOk σ) (T : mJ σ t) (ho : t.x.op ≠ 1) (hat : t.at' = 6) : Sp cu [vp e, vi now] (rT e p rp t * bn p rp σ) (fun _ : List Nat => ce (az σ t now)) (fun x => rQ e p rp (az σ t now) x) := by
 have hN : σ.μ.N < 1099511627000 := by have := S.N; omega
 refine aP fun R H h => ?_;obtain ⟨k, g, hk, rfl, hl, h0⟩ := iK h;obtain ⟨hki, b, hb, hrv⟩ := (hk.2.2 ho).1 (by omega) (by omega);have hob := T.obj (.inr ⟨by omega, by omega, ho⟩);refine bg (fun r => sW _ _ H) ?_;refine bf h0 fun b1 H1 h1 => ?_;have hkq := (hk.2.2 ho).2.1 (.inl hat);refine ag h1 (Tc e p σ t g k (fE e (fY t)) S hl b hob hb hrv) fun _ H2 h2 => ?_
 by_cases hw : aZ (σ.μ.V (11, (t.obj : Int), 0)) = 0
 ·rw [dj hw]
  refine gs ?_;refine gQ (e := e) (p := p) (fE e (fY t)) t ({ k with w := σ.μ.V (11, (t.obj : Int), 0) }) cj h2 fun H9 h9 => ?_;exact gN (g := g) (σ' := dg σ t) (t' := { t with w := σ.μ.V (11, (t.obj : Int), 0), mark := now, at' := 8 }) (k := { k with w := σ.μ.V (11, (t.obj : Int), 0) }) (n := cj) (by rw [bR σ t now ho (by omega)]; simp only [eH, hat]; rw [if_pos hw]) (uf (b := b) ho (by simp) hki hb hrv (by simp) (by simp) (fun _ => rfl) (by simp) (by simp)) (by simp [fY, aC, ho]) hl (lw _) (show ae (rB e p (fE e cj) t ({ k with w := σ.μ.V (11, (t.obj : Int), 0) }) * (aE p g (dg σ t) * R)) H9 from h9.to)
 ·rw [dP hw]
  refine gs ?_;refine bi h2 ac rfl rfl fun H3 h3 => ?_;refine gQ (e := e) (p := p) (fE e (fY t)) t ({ k with w := σ.μ.V (11, (t.obj : Int), 0), nw := now }) cD h3 fun H9 h9 => ?_;exact gN (g := g) (σ' := dg σ t) (t' := { t with w := σ.μ.V (11, (t.obj : Int), 0), mark := now, at' := 7 }) (k := { k with w := σ.μ.V (11, (t.obj : Int), 0), nw := now }) (n := cD) (by rw [bR σ t now ho (by omega)]; simp only [eH, hat]; rw [if_neg hw]) (uf (b := b) ho (by simp) hki hb hrv (fun _ => hkq) (fun _ => rfl) (by simp) (by simp) (by simp)) (by simp [fY, aC, ho]) hl (lw _) (show ae (rB e p (fE e cD) t ({ k with w := σ.μ.V (11, (t.obj : Int), 0), nw := now }) * (aE p g (dg σ t) * R)) H9 from h9.to)
theorem agM (S : SOk σ) (T : mJ σ t) (ho : t.x.op ≠ 1) (hat : t.at' = 5) : Sp dY [vp e, vi now] (rT e p rp t * bn p rp σ) (fun _ : List Nat => ce (az σ t now)) (fun x => rQ e p rp (az σ t now) x) := by
 have hN : σ.μ.N < 1099511627000 := by have := S.N; omega
 refine aP fun R H h => ?_;obtain ⟨k, g, hk, rfl, hl, h0⟩ := iK h;obtain ⟨hki, b, hb, hrv⟩ := (hk.2.2 ho).1 (by omega) (by omega);have hob := T.obj (.inr ⟨by omega, by omega, ho⟩);refine bg (fun r => Fh _ _ H) ?_;refine bf h0 fun b1 H1 h1 => ?_;refine aj h1 ac rfl ?_;refine aj h1 ac rfl ?_;refine ag h1 (qn p g σ t.who S.N) fun _ H2 h2 => ?_;refine bi h2 ac rfl rfl fun H3 h3 => ?_;refine aj h3 ac rfl ?_;refine aa (HJ 2 (by omega)) ?_
 by_cases hq : σ.μ.V (2, 0, 0) % 2 = 1
 ·refine aa (bk (show ((σ.μ.V (2, 0, 0) % 2 : Nat) : Int) = 1 by omega)) ?_
  refine gs ?_;refine gQ (e := e) (p := p) (fE e (fY t)) t ({ k with q := σ.μ.V (2, 0, 0) }) bv h3 fun H9 h9 => ?_;exact gN (g := g) (σ' := eL σ t) (t' := { t with q := σ.μ.V (2, 0, 0), at' := 4 }) (k := { k with q := σ.μ.V (2, 0, 0) }) (n := bv) (by rw [bR σ t now ho (by omega)]; simp only [eH, hat]; rw [if_pos hq]) (uf (b := b) ho (by simp) hki hb hrv (by simp) (by simp) (by simp) (by simp) (by simp)) (by simp [fY, aC, ho]) hl (lw _) (show ae (rB e p (fE e bv) t ({ k with q := σ.μ.V (2, 0, 0) }) * (aE p g (eL σ t) * R)) H9 from h9.to)
 ·refine aa (aG (show ¬ ((σ.μ.V (2, 0, 0) % 2 : Nat) : Int) = 1 by omega)) ?_
  refine gs ?_;refine gQ (e := e) (p := p) (fE e (fY t)) t ({ k with q := σ.μ.V (2, 0, 0) }) cu h3 fun H9 h9 => ?_;exact gN (g := g) (σ' := eL σ t) (t' := { t with q := σ.μ.V (2, 0, 0), at' := 6 }) (k := { k with q := σ.μ.V (2, 0, 0) }) (n := cu) (by rw [bR σ t now ho (by omega)]; simp only [eH, hat]; rw [if_neg hq]) (uf (b := b) ho (by simp) hki hb hrv (fun _ => rfl) (by simp) (by simp) (by simp) (by simp)) (by simp [fY, aC, ho]) hl (lw _) (show ae (rB e p (fE e cu) t ({ k with q := σ.μ.V (2, 0, 0) }) * (aE p g (eL σ t) * R)) H9 from h9.to)
theorem Kn (S : SOk σ) (T : mJ σ t) (ho : t.x.op ≠ 1) (hat : t.at' = 7) : Sp cD [vp e, vi now] (rT e p rp t * bn p rp σ) (fun _ : List Nat => ce (az σ t now)) (fun x => rQ e p rp (az σ t now) x) := by
 have hN : σ.μ.N < 1099511627000 := by have := S.N; omega
 refine aP fun R H h => ?_;obtain ⟨k, g, hk, rfl, hl, h0⟩ := iK h;obtain ⟨hki, b, hb, hrv⟩ := (hk.2.2 ho).1 (by omega) (by omega);have hob := T.obj (.inr ⟨by omega, by omega, ho⟩);refine bg (fun r => ub _ _ H) ?_;refine bf h0 fun b1 H1 h1 => ?_;have hkq := (hk.2.2 ho).2.1 (.inr hat);have hkn := (hk.2.2 ho).2.2.1 hat;refine aj h1 ac rfl ?_;refine aj h1 ac rfl ?_;refine ag h1 (qn p g σ t.who S.N) fun _ H2 h2 => ?_;refine bz ac ?_;refine aR h2 rfl ?_;refine aH h1 h2 (by rfl) ?_;rw [hkq]
 by_cases hq : σ.μ.V (2, 0, 0) = t.q
 ·refine aa (AJ (show ((σ.μ.V (2, 0, 0) : Nat) : Int) = (t.q : Int) by omega)) ?_
  refine gs ?_;refine aj h2 ac rfl ?_;rw [hkn];refine ag h2 (nD e p g (eL σ t) t k (fE e (fY t)) t.mark 8 (by have := S.pts; show σ.pts.length < _; omega) hl) fun g' H3 h3 => ?_;rw [ai, ae.pu] at h3;obtain ⟨hg', h3⟩ := h3;refine gQ (e := e) (p := p) (fE e (fY t)) t ({ k with told := 8 }) aX h3 fun H9 h9 => ?_;exact gN (g := g') (σ' := (eL σ t).note t.mark t.who 8) (t' := { t with at' := 10, code := 8 }) (k := { k with told := 8 }) (n := aX) (by rw [bR σ t now ho (by omega)]; simp only [eH, hat]; rw [if_pos hq]) (Xf ho rfl rfl) (by simp [fY, aC, ho]) (by rw [hg']; exact hl) (by rw [hg']; exact lw _) (show ae (rB e p (fE e aX) t ({ k with told := 8 }) * (aE p g' ((eL σ t).note t.mark t.who 8) * R)) H9 from h9.to)
 ·refine aa (Ml (show ¬ ((σ.μ.V (2, 0, 0) : Nat) : Int) = (t.q : Int) by omega)) ?_
  refine gs ?_;refine gQ (e := e) (p := p) (fE e (fY t)) t (k) bv h2 fun H9 h9 => ?_;exact gN (g := g) (σ' := eL σ t) (t' := { t with at' := 4 }) (k := k) (n := bv) (by rw [bR σ t now ho (by omega)]; simp only [eH, hat]; rw [if_neg hq]) (uf (b := b) ho (by simp) hki hb hrv (by simp) (by simp) (by simp) (by simp) (by simp)) (by simp [fY, aC, ho]) hl (lw _) (show ae (rB e p (fE e bv) t (k) * (aE p g (eL σ t) * R)) H9 from h9.to)
theorem abZ (S : SOk σ) (T : mJ σ t) (ho : t.x.op ≠ 1) (hat : t.at' = 8) : Sp cj [vp e, vi now] (rT e p rp t * bn p rp σ) (fun _ : List Nat => ce (az σ t now)) (fun x => rQ e p rp (az σ t now) x) := by
 have hN : σ.μ.N < 1099511627000 := by have := S.N; omega
 refine aP fun R H h => ?_;obtain ⟨k, g, hk, rfl, hl, h0⟩ := iK h;obtain ⟨hki, b, hb, hrv⟩ := (hk.2.2 ho).1 (by omega) (by omega);have hob := T.obj (.inr ⟨by omega, by omega, ho⟩);refine bg (fun r => B2 _ _ H) ?_;refine bf h0 fun b1 H1 h1 => ?_;have hkw := (hk.2.2 ho).2.2.2.1 hat;refine aj h1 ac rfl ?_;refine aj h1 ac rfl ?_;refine aj h1 ac rfl ?_;rw [hkw, hrv];refine ag h1 (kQ (p := p) hl hob hb (WC g.m t.obj b (au σ t.obj) σ.μ t.who t.w T.w hN)) fun _ H2 h2 => ?_;cases hw : fD σ.μ t.obj t.w (bd t.w 2)
 ·refine gs ?_
  rw [Bool.not_false];refine gs ?_;refine gQ (e := e) (p := p) (fE e (fY t)) t (k) bv h2 fun H9 h9 => ?_;exact gN (g := g) (σ' := σ.mem (σ.μ.turn t.who t.obj t.w (bd t.w 2))) (t' := { t with at' := 4 }) (k := k) (n := bv) (by rw [bR σ t now ho (by omega)]; simp only [eH, hat]; rw [if_neg (by rw [hw]; simp)]) (uf (b := b) ho (by simp) hki hb hrv (by simp) (by simp) (by simp) (by simp) (by simp)) (by simp [fY, aC, ho]) hl (lw _) (show ae (rB e p (fE e bv) t (k) * (aE p g (σ.mem (σ.μ.turn t.who t.obj t.w (bd t.w 2))) * R)) H9 from h9.to)
 ·refine gs ?_
  rw [Bool.not_true];refine gs ?_;refine ag h2 (nD e p g (σ.mem (σ.μ.turn t.who t.obj t.w (bd t.w 2))) t k (fE e (fY t)) now 0 (by have := S.pts; show σ.pts.length < _; omega) hl) fun g' H3 h3 => ?_;rw [ai, ae.pu] at h3;obtain ⟨hg', h3⟩ := h3;refine gQ (e := e) (p := p) (fE e (fY t)) ({ t with at' := 9, code := 0 }) ({ k with told := 0 }) dI h3 fun H9 h9 => ?_;exact gN (g := g') (σ' := (σ.mem (σ.μ.turn t.who t.obj t.w (bd t.w 2))).note now t.who 0) (t' := { t with at' := 9, code := 0 }) (k := { k with told := 0 }) (n := dI) (by rw [bR σ t now ho (by omega)]; simp only [eH, hat]; rw [if_pos hw]) (uf (b := b) ho (by simp) hki (by rw [hg']; exact hb) hrv (by simp) (by simp) (by simp) (by simp) (fun _ => rfl)) (by simp [fY, aC, ho]) (by rw [hg']; exact hl) (by rw [hg']; exact lw _) h9.to
theorem Wu (S : SOk σ) (T : mJ σ t) (ho : t.x.op ≠ 1) (hat : t.at' = 9) : Sp dI [vp e, vi now] (rT e p rp t * bn p rp σ) (fun _ : List Nat => ce (az σ t now)) (fun x => rQ e p rp (az σ t now) x) := by
 have hN : σ.μ.N < 1099511627000 := by have := S.N; omega
 refine aP fun R H h => ?_;obtain ⟨k, g, hk, rfl, hl, h0⟩ := iK h;obtain ⟨hki, b, hb, hrv⟩ := (hk.2.2 ho).1 (by omega) (by omega);have hob := T.obj (.inr ⟨by omega, by omega, ho⟩);refine bg (fun r => z7 _ _ H) ?_;refine bf h0 fun b1 H1 h1 => ?_;refine aj h1 ac rfl ?_;refine aj h1 ac rfl ?_;refine aj h1 ac rfl ?_;refine aj h1 ac rfl ?_;refine aj h1 ac rfl ?_;rw [hki];refine ag h1 (ue (p := p) (g := g) (σ := σ) (M2 g.tb g.m σ.c.sh.toNat σ.c.sl.toNat σ.μ t.who t.s t.i hN)) fun _ H2 h2 => ?_;refine gQ (e := e) (p := p) (fE e (fY t)) ({ t with at' := 10 }) k aX h2 fun H9 h9 => ?_;exact gN (g := g) (σ' := σ.mem ((σ.μ.acc t.who 2 (10, t.s, (t.i : Int))).put (10, t.s, (t.i : Int)) 0)) (t' := { t with at' := 10 }) (k := k) (n := aX) (by rw [bR σ t now ho (by omega)]; simp only [eH, hat]) (Xf ho rfl ((hk.2.2 ho).2.2.2.2 (.inl hat))) (by simp [fY, aC, ho]) hl (lw _) h9.to
theorem ab0 (S : SOk σ) (T : mJ σ t) : Sp ni [vp e, vi now] (rT e p rp t * bn p rp σ) (fun _ : List Nat => ce (az σ t now)) (fun x => rQ e p rp (az σ t now) x) := by
 refine br (BW _ _) fun R H h => ?_;refine bf h fun b H1 h1 => ?_;obtain ⟨k, g, hk, rfl, hl, k1⟩ := iK (e := e) (p := p) (rp := rp) (σ := σ) (t := t) (R := blk b (.cells false [vi 0, .slice none 0 0, vi 0, vw 0]) * R) (H := H1) h1.to;refine aj k1 ac rfl ?_;refine ah (show (di (.func (.func (fY t)) #[vp e] #[]) [vi now]).bind _ = _ from rfl) ?_
 have hs : Sp (fY t) [vp e, vi now] (rT e p g.rp t * bn p g.rp σ) (fun _ : List Nat => ce (az σ t now)) (fun x => rQ e p g.rp (az σ t now) x) := by
  have s2 : t.at' = 2 → az σ t now = fG σ t := fun hat => by simp only [az, hat]
  by_cases ho : t.x.op = 1
  ·have nf : ∀ n, t.at' = n → fY t = (match n with | 0 => fS | 2 => cP | 3 => bT | 4 => dz | 5 => fB | _ => aX) := fun n h => by subst h; exact if_pos ho
   rcases T.ats with hat | hat | hat | hat | hat
   ·rw [nf _ hat]; exact abV e p g.rp σ t now S T ho hat
   ·rw [nf _ hat, s2 hat]; exact HI e p g.rp σ t now S T ho (by omega)
   ·rw [nf _ hat]; exact PM e p g.rp σ t now S T ho hat
   ·by_cases h4 : t.at' = 4
    ·rw [nf _ h4]; exact abX e p g.rp σ t now S T ho h4
    by_cases h5 : t.at' = 5
    ·rw [nf _ h5]; exact agL e p g.rp σ t now S T ho h5
    have h6 : t.at' = 6 := by omega
    rw [nf _ h6]; exact Tb e p g.rp σ t now S T (by rw [if_pos ho]; exact h6)
   ·exact absurd ho hat.1
  ·have nf : ∀ n, t.at' = n → fY t = (match n with | 0 => eS | 2 => da | 3 => ci | 4 => bv | 5 => dY | 6 => cu | 7 => cD | 8 => cj | 9 => dI | _ => aX) := fun n h => by subst h; exact if_neg ho
   rcases T.ats with hat | hat | hat | hat | hat
   ·rw [nf _ hat]; exact Wv e p g.rp σ t now S T ho hat
   ·rw [nf _ hat, s2 hat]; exact MJ e p g.rp σ t now S T ho (by omega)
   ·rw [nf _ hat]; exact abW e p g.rp σ t now S T ho hat
   ·by_cases h4 : t.at' = 4
    ·rw [nf _ h4]; exact ab1 e p g.rp σ t now S T ho h4
    by_cases h5 : t.at' = 5
    ·rw [nf _ h5]; exact agM e p g.rp σ t now S T ho h5
    have h6 : t.at' = 6 := by omega
    rw [nf _ h6]; exact Gu e p g.rp σ t now S T ho h6
   ·by_cases h7 : t.at' = 7
    ·rw [nf _ h7]; exact Kn e p g.rp σ t now S T ho h7
    by_cases h8 : t.at' = 8
    ·rw [nf _ h8]; exact abZ e p g.rp σ t now S T ho h8
    by_cases h9 : t.at' = 9
    ·rw [nf _ h9]; exact Wu e p g.rp σ t now S T ho h9
    have h10 : t.at' = 10 := by omega
    rw [nf _ h10]; exact Tb e p g.rp σ t now S T (by rw [if_neg ho]; exact h10)
 exact KD (yr e p σ t (R := blk b (.cells false [vi 0, .slice none 0 0, vi 0, vw 0]) * R) hk hl k1) hs
abbrev Tk.newR (c : eg) (who : Int) (x : Cl) : Tk := ⟨who, x, (x.flow.tmod c.sh + c.sh).tmod c.sh, 0, 0, 0, false, 0, 0, -1, 0, 0⟩
theorem abY (hc : bZ σ.c = true) (who : Int) (c : Cl) : Sp zB [vp p, vi who, .agg (Cl.cells c).toArray] (bn p rp σ) (fun e : Nat => vp e) (fun e => rT e p rp (Tk.newR σ.c who c) * bn p rp σ) := by
 have hr := bo.1 hc;refine br (PK _ _ _) fun R H h => ?_;refine aS h fun b H1 h1 => ?_;refine aJ h1 ?_;obtain ⟨g, rfl, hg, k1⟩ := dZ (p := p) (rp := rp) (σ := σ) (R := blk b (.cells false (Cl.cells c)) * R) (H := H1) h1.to;refine aj k1 ac rfl ?_;refine aj k1 aA rfl ?_;refine ag k1 (CD (p := p) (g := g) (σ := σ) (s7 g.tb g.m σ.c.sh.toNat σ.c.sl.toNat (by omega) c.flow)) fun _ H2 h2 => ?_;refine dA h2 k1 rfl ?_
 have es : vi ((c.flow.tmod (σ.c.sh.toNat : Int) + (σ.c.sh.toNat : Int)).tmod (σ.c.sh.toNat : Int)) = vi (Tk.newR σ.c who c).s := by rw [show ((σ.c.sh.toNat : Nat) : Int) = σ.c.sh from by omega]
 rw [es];refine iz ?_;refine aS h2 fun e H3 h3 => ?_;refine bi h3 ac rfl rfl fun H4 h4 => ?_;refine ah (Gq ..) ?_;refine aj h4 aA rfl ?_;have lt : Plt g.rp (Tk.newR σ.c who c) ⟨0, -1, 0, 0, .pointer none, 0, 0, 0, 0⟩ := uI (by simp) ⟨rfl, rfl⟩
 by_cases ho : c.op = 1
 ·refine aa (bk ho) ?_
  refine gs ?_;refine bi h4 ac rfl rfl fun H5 h5 => ?_;refine ah (uD ..) ?_;refine aq ⟨e, rfl, yr e p σ _ lt hg ?_⟩;rw [show fY (Tk.newR σ.c who c) = fS from if_pos ho];exact h5.to
 ·refine aa (aG ho) ?_
  refine gs ?_;refine ah (uD ..) ?_;refine aq ⟨e, rfl, yr e p σ _ lt hg ?_⟩;rw [show fY (Tk.newR σ.c who c) = eS from if_neg ho];exact h4.to
end
theorem xK (p : Nat) (g : XIds) (σ : aN) (o b : Nat) (hl : g.rp.length = σ.obs.length) (ho : o < σ.obs.length) (hb : g.rp[o]? = some b) :
 ∃ R, (∀ N, σ.μ.N = N → ax p g σ = dk g.m o b (au σ o) * bS g.m σ.μ * (jb g.ib g.m σ.c.sh σ.nx N * R)) ∧ ∀ μ' cs', ax p g { σ with μ := μ', obs := σ.obs.modify o fun q => (q.1, cs') } = dk g.m o b cs' * bS g.m μ' * (jb g.ib g.m σ.c.sh σ.nx μ'.N * R) := by
 have hz : o < (g.rp.zip (σ.obs.map fun x => x.2)).length := by simp; omega
 obtain ⟨R, e1, e2⟩ := Kp g.m (ps := g.rp.zip (σ.obs.map fun x => x.2)) (j := 0) hz
 have hrp : g.rp[o]'(by omega) = b := by
  rw [cS (by omega)] at hb;exact gr hb
 have e3 : (g.rp.zip (σ.obs.map fun x => x.2))[o] = (b, au σ o) := by
  rw [List.getElem_zip, wz ho, List.getElem_map, hrp]
 rw [e3] at e1;rw [Nat.zero_add] at e1 e2
 refine ⟨blk p (.cells false [vi σ.c.sh, vi σ.c.sl, vi σ.c.wk, vi σ.c.wd, vu σ.c.un, vp g.m, vp g.ib, vp g.tb, vp g.po, vp g.co, g.ov, g.rv, g.wv, g.pv]) * (tab g.tb g.m σ.c.sh.toNat σ.c.sl.toNat * (ts 3 uk g.ov (σ.obs.map fun x => x.1) * (ts 1 qA g.rv g.rp * (R *
  (ts 1 l5 g.wv (fU g.ws) * ts 7 Pt.cells g.pv (bY σ.pts)))))), fun N hN => ?_, fun μ' cs' => ?_⟩
 ·subst hN
  unfold ax;rw [e1]
  ac_rfl
 ·unfold ax
  dsimp only
  have e4 : (σ.obs.modify o fun q => (q.1, cs')).map (fun x => x.1) = σ.obs.map fun x => x.1 := by
   apply List.ext_getElem?;intro j;simp only [Bp, List.getElem?_modify]
   cases σ.obs[j]? with
   | none => rfl
   | some q => simp only [fH]; split <;> rfl
  have e5 : g.rp.zip ((σ.obs.modify o fun q => (q.1, cs')).map fun x => x.2) = (g.rp.zip (σ.obs.map fun x => x.2)).set o (b, cs') := by
   apply List.ext_getElem?;intro j;rw [List.getElem?_set]
   by_cases hj : o = j
   ·subst hj
    rw [if_pos rfl, if_pos hz];exact List.getElem?_zip_eq_some.2 ⟨hb, by simp [List.getElem?_modify, cS ho]⟩
   ·rw [if_neg hj]
    have : (List.map (fun x => x.2) (σ.obs.modify o fun q => (q.1, cs')))[j]? = (σ.obs.map fun x => x.2)[j]? := by
     simp only [Bp, List.getElem?_modify]
     cases σ.obs[j]? with
     | none => rfl
     | some q => show some (if o = j then (q.1, cs') else q).2 = some q.2; rw [if_neg hj]
    simp only [List.zip, List.getElem?_zipWith, this]
  rw [e4, e5, e2]
  ac_rfl
section
variable {f : Nat} {args : List Value} {v : Unit → Value} {p : Nat} {g : XIds} {σ : aN} {o b : Nat}
theorem Ik {μ' : Mu} {cs' : List Pk} (hN : σ.μ.N ≤ μ'.N) (hl : g.rp.length = σ.obs.length) (ho : o < σ.obs.length) (hb : g.rp[o]? = some b)
 (s : Sp f args (dk g.m o b (au σ o) * bS g.m σ.μ) v (fun _ => dk g.m o b cs' * bS g.m μ')) :
 Sp f args (ax p g σ) v (fun _ => ax p g { σ with μ := μ', obs := σ.obs.modify o fun q => (q.1, cs') }) := by
 obtain ⟨R', e1, e2⟩ := xK p g σ o b hl ho hb;intro R H h;rw [e1 _ rfl, ai] at h;obtain ⟨x, H', h1, h2⟩ := s _ _ h;refine ⟨x, H', h1, ?_⟩;rw [e2, ai];have h3 := qg hN (ae.fr (A := jb g.ib g.m σ.c.sh σ.nx σ.μ.N) h2);exact h3.to
theorem mK {μ' : Mu} (hN : σ.μ.N ≤ μ'.N) (hl : g.rp.length = σ.obs.length) (ho : o < σ.obs.length) (hb : g.rp[o]? = some b)
 (s : Sp f args (dk g.m o b (au σ o) * bS g.m σ.μ) v (fun _ => dk g.m o b (au σ o) * bS g.m μ')) :
 Sp f args (ax p g σ) v (fun _ => ax p g (σ.mem μ')) := by
 have := Ik (p := p) hN hl ho hb s;rw [Mm ho] at this;exact this
theorem KT (hl : g.rp.length = σ.obs.length) (ho : o < σ.obs.length) (hb : g.rp[o]? = some b)
 (s : Sp f args (dk g.m o b (au σ o)) v (fun _ => dk g.m o b (au σ o))) :
 Sp f args (ax p g σ) v (fun _ => ax p g σ) := by
 obtain ⟨R', e1, _⟩ := xK p g σ o b hl ho hb;intro R H h;rw [e1 _ rfl, ai, ai] at h;obtain ⟨x, H', h1, h2⟩ := s _ _ h;exact ⟨x, H', h1, by rw [e1 _ rfl, ai, ai]; exact h2⟩
theorem pQ {μ' : Mu} (hN : σ.μ.N ≤ μ'.N) (s : Sp f args (tab g.tb g.m σ.c.sh.toNat σ.c.sl.toNat * bS g.m σ.μ) v (fun _ => tab g.tb g.m σ.c.sh.toNat σ.c.sl.toNat * bS g.m μ')) :
 Sp f args (ax p g σ) v (fun _ => ax p g (σ.mem μ')) := by
 intro R H h;unfold ax at h;obtain ⟨x, H', h1, h2⟩ := s _ H (ae.fr (A := tab g.tb g.m σ.c.sh.toNat σ.c.sl.toNat * bS g.m σ.μ) h);refine ⟨x, H', h1, ?_⟩;unfold ax;have h3 := qg hN (ae.fr (A := jb g.ib g.m σ.c.sh σ.nx σ.μ.N) h2);exact h3.to
theorem B9 (s : Sp f args (tab g.tb g.m σ.c.sh.toNat σ.c.sl.toNat) v (fun _ => tab g.tb g.m σ.c.sh.toNat σ.c.sl.toNat)) :
 Sp f args (ax p g σ) v (fun _ => ax p g σ) := by
 intro R H h;unfold ax at h;obtain ⟨x, H', h1, h2⟩ := s _ H (ae.fr (A := tab g.tb g.m σ.c.sh.toNat σ.c.sl.toNat) h);refine ⟨x, H', h1, ?_⟩;unfold ax;exact h2.to
theorem Xj {μ' : Mu} (hN : σ.μ.N ≤ μ'.N) (s : Sp f args (bS g.m σ.μ) v (fun _ => bS g.m μ')) : Sp f args (ax p g σ) v (fun _ => ax p g (σ.mem μ')) := by
 intro R H h;unfold ax at h;obtain ⟨x, H', h1, h2⟩ := s _ H (ae.fr (A := bS g.m σ.μ) h);refine ⟨x, H', h1, ?_⟩;unfold ax;have h3 := qg hN (ae.fr (A := jb g.ib g.m σ.c.sh σ.nx σ.μ.N) h2);exact h3.to
theorem yZ {μ' : Mu} {nx' : Int → Option Nat} {L : Nat} (hL : L ≤ μ'.N) (s : Sp f args (jb g.ib g.m σ.c.sh σ.nx σ.μ.N * bS g.m σ.μ) v (fun _ => jb g.ib g.m σ.c.sh nx' L * bS g.m μ')) :
 Sp f args (ax p g σ) v (fun _ => ax p g { σ with μ := μ', nx := nx' }) := by
 intro R H h;unfold ax at h;obtain ⟨x, H', h1, h2⟩ := s _ H (ae.fr (A := jb g.ib g.m σ.c.sh σ.nx σ.μ.N * bS g.m σ.μ) h);refine ⟨x, H', h1, ?_⟩;unfold ax;have h3 := qg hL (ae.fr (A := jb g.ib g.m σ.c.sh nx' L) h2);exact h3.to
end
instance ajT (p : Nat) (g : XIds) (σ : aN) : Hs (ax p g σ) p (.cells false [vi σ.c.sh, vi σ.c.sl, vi σ.c.wk, vi σ.c.wd, vu σ.c.un, vp g.m, vp g.ib, vp g.tb, vp g.po, vp g.co, g.ov, g.rv, g.wv, g.pv]) := ⟨by
 intro H h;unfold ax at h
 exact h.left.get⟩
theorem Ih (m i rp : Nat) (cs : List Pk) (μ : Mu) (who : Int) (n : Nat) (x : Pk) (h0 : 1 ≤ cs.length ∧ cs.length < 1000) (hE : μ.N < 1099511627000) :
 Sp nh [vp rp, vi who, vu n, .agg (Pk.cells x).toArray] (dk m i rp cs * bS m μ) (fun _ : Unit => .tuple #[]) (fun _ => dk m i rp (cs.set (n % cs.length) x) * bS m (μ.acc who 6 (16, (i : Int), ((n % cs.length : Nat) : Int)))) := by
 have hlt : n % cs.length < cs.length := Nat.mod_lt _ (by omega);refine br (BT _ _ _ _) fun R H h => ?_;refine aS h fun b H1 h1 => ?_;obtain ⟨cv, k1⟩ := gg (m := m) (i := i) (rp := rp) (cs := cs) (R := bS m μ * (blk b (.cells false (Pk.cells x)) * R)) (H := H1) h1.to;refine bz ac ?_;refine aR k1 rfl ?_;refine bz ac ?_;refine aR k1 rfl ?_
 have cell : ∀ cv, Sp eO [vp rp, vu n] (blk rp (.cells false [vp m, vi i, vi cs.length, cv])) (fun _ : Unit => vi ((n % cs.length : Nat) : Int)) (fun _ => blk rp (.cells false [vp m, vi i, vi cs.length, cv])) := by
  intro cv;refine br (pI _ _) fun R H h => ?_;refine aj h ac rfl ?_;refine aa (eF (by omega) (by omega)) ?_;rw [show ((cs.length : Nat) : Int).toNat = cs.length from xm _];refine aa (kp (by omega)) ?_;refine aa (jx (by omega)) ?_;exact aq ⟨(), rfl, h⟩
 refine ag k1 (cell cv) fun _ H2 k2 => ?_;refine aH k2 k1 (by rfl) ?_;refine aH k2 k1 (by rfl) ?_;refine ag k2 (eG 16 (i : Int) ((n % cs.length : Nat) : Int)) fun _ H3 k3 => ?_;refine aH k3 k1 (by rfl) ?_;refine ag k3 ((W7 m μ who 6 (16, (i : Int), ((n % cs.length : Nat) : Int)) (by omega)).imp fun _ R H h => xy (N' := μ.N + 2) (by simp) h) fun _ H4 k4 => ?_;refine bz ac ?_;refine aR k4 rfl ?_;refine ag k4 (cell cv) fun _ H5 k5 => ?_;refine aH k5 k4 (by rfl) ?_;refine aJ k5 ?_;refine dA k4 k5 rfl ?_;refine TB (s := cv) (l := cs) (i := n % cs.length) x k5 hlt (.inl ⟨rfl, rfl⟩) rfl (by omega) rfl rfl fun H6 k6 => ?_;refine aq ⟨(), rfl, ?_⟩;have el : (cs.set (n % cs.length) x).length = cs.length := Mc;have h6 := oy (m := m) (i := i) (rp := rp) (cs := cs.set (n % cs.length) x) (cv := cv) (R := bS m (μ.acc who 6 (16, (i : Int), ((n % cs.length : Nat) : Int))) * R) (H := H6) (by rw [el]; exact k6.to);exact h6.to
section
variable (p : Nat) (g : XIds) (σ : aN)
theorem Qm (hl : g.rp.length = σ.obs.length) (who : Int) (o : Nat) (ho : o < σ.obs.length) (hN : σ.μ.N < 800000) : Sp lK [vp p, vi who, vi o] (ax p g σ) (fun v : Value => v) (fun _ => ax p g (σ.mem (σ.μ.acc who 5 (13, (o : Int), 0)))) := by
 refine br (zP _ _ _) fun R H h => ?_;refine bf h fun b H1 h1 => ?_;refine aa (ch (by omega)) ?_;refine gs ?_;refine aj h1 ac rfl ?_;refine gs ?_;have h2 := h1;unfold ax at h2;refine yV (s := g.ov) (enc := uk) (l := σ.obs.map fun x : Ob × List Pk => x.1) h2 ?_;rw [pw];refine gs ?_;refine aa (mV (by omega)) ?_;refine gs ?_;refine bz ac ?_;refine aR h1 rfl ?_;refine ag h1 (eG 13 (o : Int) 0) fun _ H3 h3 => ?_;refine aH h3 h1 (by rfl) ?_;refine ag h3 (Xj (p := p) (g := g) (σ := σ) (μ' := σ.μ.acc who 5 (13, (o : Int), 0)) (by simp) ((W7 g.m σ.μ who 5 (13, (o : Int), 0) (by omega)).imp fun _ R H h => xy (N' := σ.μ.N + 2) (by simp) h)) fun _ H4 h4 => ?_;refine aj h4 ac rfl ?_;have h5 := h4;unfold ax at h5;refine Qj (enc := uk) (l := σ.obs.map fun x : Ob × List Pk => x.1) h5 (by rw [pw]; exact ho) ?_;refine cX h4 rfl rfl fun H6 h6 => ?_;refine aJ h6 ?_;exact aq ⟨_, rfl, h6.to⟩
theorem qw (who : Int) (hN : σ.μ.N < 800000) : Sp eN [vp p, vi who] (ax p g σ) (fun _ : Unit => vu (σ.μ.V (2, 0, 0))) (fun _ => ax p g (σ.mem (σ.μ.acc who 1 (2, 0, 0)))) := by
 refine br (zQ _ _) fun R H h => ?_;refine bz ac ?_;refine aR h rfl ?_;refine ag h (eG 2 0 0) fun _ H1 h1 => ?_;refine aH h1 h (by rfl) ?_;refine ag h1 (Xj (p := p) (g := g) (σ := σ) (μ' := σ.μ.acc who 1 (2, 0, 0)) (by simp) (sR g.m σ.μ who (2, 0, 0) (by omega))) fun _ H2 h2 => ?_;exact aq ⟨(), rfl, h2.to⟩
theorem mm (t m sh sl : Nat) (hs : 1 ≤ sh ∧ sh ≤ 4) (flow : Int) : Sp fg [vp t, vi flow] (tab t m sh sl) (fun _ : Unit => vi ((flow.tmod sh + sh).tmod sh)) (fun _ => tab t m sh sl) := by
 have q := To flow (n := sh) (by omega);refine br (vS _ _) fun R H h => ?_;unfold tab at h ⊢;refine aj h ac rfl ?_;refine aa (nE (by omega)) ?_;refine ah (rr _ _ _ H) ?_
 by_cases hn : flow.tmod sh < 0
 ·refine aa (cK hn) ?_
  refine gs ?_;refine aj h ac rfl ?_;refine aa (aM (by omega) (by omega)) ?_;refine ah (kj _ _ H) ?_;refine aq ⟨(), ?_, h⟩;have : (flow.tmod sh + sh).tmod sh = flow.tmod sh + sh := Int.tmod_eq_of_lt (by omega) (by omega);rw [this]
 ·refine aa (ch hn) ?_
  refine gs ?_;refine ah (kj _ _ H) ?_;refine aq ⟨(), ?_, h⟩
  have : (flow.tmod sh + sh).tmod sh = flow.tmod sh := by
   rw [Int.tmod_eq_emod_of_nonneg (by omega), Int.add_emod_right];exact Int.emod_eq_of_lt (by omega) (by omega)
  rw [this]
end
theorem xL (w pl k : Int) : ∀ ws : List (Int × Int), iw (ws ++ [(w, pl)]) k = if k = w then pl else iw ws k := by
 intro ws
 induction ws with
 | nil =>
  simp only [List.nil_append, iw, List.any_nil]
  by_cases e : k = w
  ·subst e; simp
  ·have : ¬ w = k := fun q => e q.symm
   simp [e, this]
 | cons p ws ih =>
  simp only [List.cons_append, iw, ih, List.any_append, List.any_cons, List.any_nil, Bool.or_false]
  by_cases e : k = w
  ·subst e; simp
  ·have h1 : ((w == k) : Bool) = false := by simpa using fun q => e q.symm
   rw [h1, Bool.or_false];simp only [if_neg e]
theorem J0 (ws : List (Int × Int)) (k : Int) (j : Nat) (hj : j < ws.length) : iw (ws.take (j + 1)) k = if k = ws[j].1 then ws[j].2 else iw (ws.take j) k := by
 rw [List.take_succ_eq_append_getElem hj];exact xL ws[j].1 ws[j].2 k (ws.take j)
theorem ql (ws : List (Int × Int)) : (fU ws).length = 2 * ws.length := by
 unfold fU
 induction ws with
 | nil => rfl
 | cons p ws ih => rw [List.flatMap_cons, sn, ih]; simp; omega
theorem Wa : ∀ (ws : List (Int × Int)) (j : Nat) (hj : j < ws.length), (fU ws)[2 * j]? = some ws[j].1 ∧ (fU ws)[2 * j + 1]? = some ws[j].2 := by
 intro ws
 induction ws with
 | nil => intro j hj; simp at hj
 | cons p ws ih =>
  intro j hj
  cases j with
  | zero => exact ⟨rfl, rfl⟩
  | succ j =>
   have h := ih j (by simpa using hj);have e : fU (p :: ws) = p.1 :: p.2 :: fU ws := rfl;rw [e, show 2 * (j + 1) = 2 * j + 2 from by omega];exact h
theorem Z5 (x : Pt) : ∀ (l : List Pt) (k : Nat), k ≤ l.length → (∀ j p, k ≤ j → l[j]? = some p → x.step < p.step) → (∀ p, 0 < k → l[k - 1]? = some p → p.step ≤ x.step) → xn x l = l.take k ++ x :: l.drop k := by
 intro l
 induction l with
 | nil => intro k hk _ _; simp at hk; subst hk; rfl
 | cons y l ih =>
  intro k hk h1 h2
  cases k with
  | zero =>
   have hy := h1 0 y (bI _) rfl
   have hno : ¬ (y.step ≤ x.step ∨ (l.any fun z => decide (z.step ≤ x.step)) = true) := by
    rintro (h | h)
    ·omega
    ·obtain ⟨z, hz, hzs⟩ := List.any_eq_true.1 h
     obtain ⟨j, hj⟩ := List.mem_iff_getElem?.1 hz;have := h1 (j + 1) z (by omega) (by simpa using hj)
     have hzs : z.step ≤ x.step := by simpa using hzs
     omega
   rw [xn, if_neg hno]
   rfl
  | succ k =>
   have hyes : y.step ≤ x.step ∨ (l.any fun z => decide (z.step ≤ x.step)) = true := by
    cases k with
    | zero => exact .inl (h2 y (by omega) rfl)
    | succ k =>
     right
     have hkl : k < l.length := by simp at hk; omega
     rw [List.any_eq_true];refine ⟨l[k], Mb hkl, ?_⟩;have := h2 l[k] (by omega) (by simp [hkl])
     simpa using this
   rw [xn, if_pos hyes, ih k (by simpa using hk) (fun j p hj hp => h1 (j + 1) p (by omega) (by simpa using hp)) (fun p hk0 hp => h2 p (by omega) (by
    rw [show k + 1 - 1 = (k - 1) + 1 from by omega]; simpa using hp))]
   rfl
theorem Lk (l : List Pt) (x : Pt) : bY (l ++ [x]) = xn x (bY l) := by
 unfold bY;rw [List.foldl_append]; rfl
theorem VU (x : Pt) : ∀ l : List Pt, (xn x l).length = l.length + 1 := by
 intro l
 induction l with
 | nil => rfl
 | cons y l ih => rw [xn]; split <;> simp [ih]
theorem NG (l : List Pt) : (bY l).length = l.length := by
 have : ∀ (l acc : List Pt), (l.foldl (fun acc x => xn x acc) acc).length = acc.length + l.length := by
  intro l
  induction l with
  | nil => intro acc; rfl
  | cons x l ih => intro acc; rw [List.foldl_cons, ih, VU]; simp; omega
 have h := this l []
 simpa [bY] using h
theorem ad5 (e b : Nat) (he : 0 < e) (H : AH) : fj e b (.slice none 0 0) (.slice none 0 0) H = some (.slice none 0 0, H) := by
 unfold fj
 have : md e (.slice none 0 0) H = some (0, []) := by simp [md]
 rw [this];simp [he]
theorem acX {α : Type} {P R : SP} {H : AH} {e : Nat} {enc : α → List Value} {l : List α} {s : Value} (h : ae P H) [f : Ts P s α e enc l R] : s.cells.toList = [s] ∧ [s].all Value.oneCell' = true := by
 rcases oC h (enc := enc) (s := s) with ⟨rfl, _, _⟩ | ⟨bb, rfl, _⟩ <;> exact ⟨rfl, rfl⟩
theorem pO {α : Type} {P R : SP} {H : AH} {e : Nat} {enc : α → List Value} {l : List α} {s : Value} {lo hi : Option Value} {a b : Nat} (h : ae P H) [f : Ts P s α e enc l R] [E : Enc enc e] (hlo : (lo = none ∧ a = 0) ∨ ∃ k, lo = some (.int k (a : Int)))
 (hhi : (hi = none ∧ b = l.length) ∨ ∃ k, hi = some (.int k (b : Int))) (h1 : a ≤ b) (h2 : b ≤ l.length) : ∃ s', dT e s lo hi = some s' ∧ Rd P s' e enc ((l.take b).drop a) := by
 haveI : Rd P s e enc l := by rw [f.eq]; infer_instance
 by_cases h0 : 0 < l.length
 ·exact abS h hlo hhi h1 h2 h0
 ·have hl : l = [] := List.eq_nil_of_length_eq_zero (by omega)
  subst hl
  have hb0 : b = 0 := by simpa using h2
  subst hb0
  have ha0 : a = 0 := by omega
  subst ha0;have hpos := E.pos
  have rd0 : ∀ s', (∃ a c, s' = .slice a 0 c ∧ (a = none → c = 0) ∧ (∀ x, a = some x → ∃ b o, x = ⟨b, o, none⟩)) → Rd P s' e enc (([] : List α).take 0 |>.drop 0) := by
   rintro s' ⟨a, c, rfl, q1, q2⟩
   exact ⟨fun {H'} _ => ⟨by simp, .inl ⟨a, c, rfl, rfl, q1, q2⟩⟩⟩
  rcases oC h (enc := enc) (s := s) with ⟨rfl, _, _⟩ | ⟨bb, rfl, _⟩
  ·refine ⟨.slice none 0 0, ?_, rd0 _ ⟨none, 0, rfl, fun _ => rfl, fun x hx => (by cases hx)⟩⟩
   rcases hlo with ⟨rfl, _⟩ | ⟨k1, rfl⟩ <;> rcases hhi with ⟨rfl, _⟩ | ⟨k2, rfl⟩ <;> simp [dT, n8]
  ·refine ⟨.slice (some ⟨bb, 0, none⟩) 0 e, ?_, rd0 _ ⟨some ⟨bb, 0, none⟩, e, rfl, fun h => (by cases h), fun x hx => ⟨bb, 0, (gr hx).symm⟩⟩⟩
   rcases hlo with ⟨rfl, _⟩ | ⟨k1, rfl⟩ <;> rcases hhi with ⟨rfl, _⟩ | ⟨k2, rfl⟩ <;> simp [dT, n8, hpos]
abbrev aN.begin (σ : aN) (who place : Int) : aN := { σ with places := fun k => if k = who then some place else σ.places k, μ := { σ.μ with N := σ.μ.N + 1 } }
theorem aiZ (p : Nat) (rp : List Nat) (σ : aN) (who place : Int) : Sp iI [vp p, vi who, vi place] (bn p rp σ) (fun _ : Unit => .tuple #[]) (fun _ => bn p rp (σ.begin who place)) := by
 refine aP fun R H h => ?_;obtain ⟨g, hrp, hg, h0⟩ := dZ h;unfold aE at h0;refine bg (fun r => sF _ _ _ H) ?_;refine aj h0 ac rfl ?_;refine adB (ek := Nm) who (vi place) h0 fun H1 h1 => ?_;refine aq ⟨(), rfl, ?_⟩;refine bG g hrp hg ?_;unfold aE;dsimp only
 have e : (fun k => ((if k = who then some place else σ.places k) : Option Int).map fun n => vi n) = fun x => if x = who then some (vi place) else (σ.places x).map fun n => vi n := by
  funext k
  split <;> rfl
 rw [e];have h2 := jE (V := σ.μ.V) (E := σ.μ.E) (N := σ.μ.N) (N' := σ.μ.N + 1) (by omega) (ae.fr (A := bN g.m σ.μ) h1);exact h2.to
theorem akE (p : Nat) (σ : aN) (who place : Int) (hN : σ.μ.N < 1000000000) : Sp jN [vp p, vi who, vi place] (aK p σ) (fun _ : Unit => .tuple #[]) (fun _ => aK p (σ.begin who place)) := by
 refine aP fun R H h => ?_;obtain ⟨g, ⟨hg1, hg2, hg3⟩, h0⟩ := fq h;unfold ax at h0;refine bg (fun r => vQ _ _ _ H) ?_;refine aj h0 ac rfl ?_;refine ac9 (cs := [vi who, vi place]) h0 rfl fun b H1 h1 => ?_;have h2 := KC (e := 1) (enc := l5) (l := [who, place]) h1;refine tf (s := g.wv) (l := fU g.ws) (m := [who, place]) h2 ?_ (by omega) fun v H2 h3 => ?_
 ·rw [ql]; unfold room; simp; omega
 have hc := acX (s := v) (enc := l5) (l := fU g.ws ++ [who, place]) h3
 haveI : yX v [v] := ⟨hc.1⟩
 dsimp only;refine bi h3 ac rfl hc.2 fun H3 h4 => ?_;refine aq ⟨(), rfl, ?_⟩
 have e2 : fU (g.ws ++ [(who, place)]) = fU g.ws ++ [who, place] := by simp [fU]
 refine dd { g with wv := v, ws := g.ws ++ [(who, place)] } ⟨hg1, fun k => ?_, by simp; omega⟩ ?_
 ·show iw (g.ws ++ [(who, place)]) k = _
  rw [xL, hg2];show _ = ((if k = who then some place else σ.places k)).getD 0
  split <;> rfl
 unfold ax;dsimp only;rw [e2];have h5 := xy (V := σ.μ.V) (E := σ.μ.E) (N := σ.μ.N) (N' := σ.μ.N + 1) (by omega) (ae.fr (A := bS g.m σ.μ) h4);have h6 := qg (L' := σ.μ.N + 1) (by omega) (ae.fr (A := jb g.ib g.m σ.c.sh σ.nx σ.μ.N) h5);exact h6.to
theorem alX (p : Nat) (g : XIds) (σ : aN) (step who code : Int) (hpl : iw g.ws who = (σ.places who).getD 0) (hw : g.ws.length < 1000000000) (hp : σ.pts.length < 900000) :
 Sp aaV [vp p, vi step, vi who, .agg (ef code).toArray] (ax p g σ) (fun _ : Value => .tuple #[]) (fun v => ax p { g with pv := v } (σ.note step who code)) := by
 refine br (ajY _ _ _ _) fun R H h => ?_;refine aS h fun rb H1 h1 => ?_;refine ah (Wp _ _ _ _ _ H1) ?_;refine ah (PA _ _ _ _ _ _ H1) ?_;have place : ∀ (d j : Nat), j + d = g.ws.length → wp (Px (vp p) (vi step) (vi who) (vp rb) (vi (iw g.ws who)) H1) (fun v' H' => ∃ x : Value, v' = .tuple #[] ∧ ae (ax p { g with pv := x } (σ.note step who code) * R) H') →
  wp (Cw (vp p) (vi step) (vi who) (vp rb) (vi (iw (g.ws.take j) who)) (vi ((2 * j : Nat) : Int)) H1) (fun v' H' => ∃ x : Value, v' = .tuple #[] ∧ ae (ax p { g with pv := x } (σ.note step who code) * R) H') := by
  have h2 := h1;unfold ax at h2;intro d
  induction d with
  | zero =>
   intro j hj hk;refine ah (E5 _ _ _ _ _ _ H1) ?_;refine aj h1 ac rfl ?_;refine gi (s := g.wv) (l := fU g.ws) h2 ?_;rw [ql];refine aa (ch (by omega)) ?_;refine gs ?_;refine ah (Ke _ _ _ _ _ H1) ?_;rw [List.take_of_length_le (by omega)];exact hk
  | succ d ih =>
   intro j hj hk
   have hjl : j < g.ws.length := by omega
   obtain ⟨a1, a2⟩ := Wa g.ws j hjl;have hlen := ql g.ws;refine ah (E5 _ _ _ _ _ _ H1) ?_;refine aj h1 ac rfl ?_;refine gi (s := g.wv) (l := fU g.ws) h2 ?_;rw [ql];refine aa (cK (by omega)) ?_;refine gs ?_;refine ah (PB _ _ _ _ _ _ H1) ?_;refine aj h1 ac rfl ?_;refine qv (s := g.wv) (l := fU g.ws) (i := 2 * j) (v := vi g.ws[j].1) h2 (by omega) ?_ ?_
   ·rw [cS (by omega)] at a1
    rw [gr a1]; rfl
   have next : ∀ pl : Int, iw (g.ws.take (j + 1)) who = pl → wp (Cx (vp p) (vi step) (vi who) (vp rb) (vi pl) (vi ((2 * j : Nat) : Int)) H1) (fun v' H' => ∃ x : Value, v' = .tuple #[] ∧ ae (ax p { g with pv := x } (σ.note step who code) * R) H') := by
    intro pl hpl2;refine ah (PC _ _ _ _ _ _ H1) ?_;refine aa (aM (by omega) (by omega)) ?_;have := ih (j + 1) (by omega) hk;rw [hpl2] at this;rw [show ((2 * j : Nat) : Int) + 2 = ((2 * (j + 1) : Nat) : Int) from by omega];exact this
   have ht := J0 g.ws who j hjl
   by_cases hwho : g.ws[j].1 = who
   ·refine aa (bk hwho) ?_
    refine gs ?_;refine aj h1 ac rfl ?_;refine aa (aM (by omega) (by omega)) ?_;rw [show ((2 * j : Nat) : Int) + 1 = ((2 * j + 1 : Nat) : Int) from by omega];refine qv (s := g.wv) (l := fU g.ws) (i := 2 * j + 1) (v := vi g.ws[j].2) h2 (by omega) ?_ ?_
    ·rw [cS (by omega)] at a2
     rw [gr a2]; rfl
    exact next _ (by rw [ht, if_pos hwho.symm])
   ·refine aa (aG hwho) ?_
    refine gs ?_;exact next _ (by rw [ht, if_neg (fun q => hwho q.symm)])
 refine place g.ws.length 0 (by omega) ?_;rw [hpl];refine ah (Wq _ _ _ _ _ H1) ?_;refine aj h1 aA rfl ?_;refine ah (show ((fj 3 24 (.slice none 0 0) (.slice none 0 0) H1).bind _) = _ from by rw [ad5 3 24 (by omega)]) ?_;refine bi h1 aA rfl rfl fun H2 h2 => ?_;refine aj h2 ac rfl ?_;have h2u := h2;unfold ax at h2u;have hlen := NG σ.pts;refine gi (s := g.pv) (l := bY σ.pts) h2u ?_;refine ah (Wr _ _ _ _ _ _ H2) ?_
 -- behind all that are not behind it
 have put : ∀ k, k ≤ (bY σ.pts).length → (∀ j p, k ≤ j → (bY σ.pts)[j]? = some p → step < p.step) → (∀ p, 0 < k → (bY σ.pts)[k - 1]? = some p → p.step ≤ step) →
  wp (Pz (vp p) (vi step) (vi who) (vp rb) (vi ((σ.places who).getD 0)) (vi (k : Int)) H2) (fun v' H' => ∃ x : Value, v' = .tuple #[] ∧ ae (ax p { g with pv := x } (σ.note step who code) * R) H') := by
  intro k hk ha hb;have hins := Z5 ⟨step, who, (σ.places who).getD 0, code⟩ (bY σ.pts) k hk ha hb;refine ah (Ws _ _ _ _ _ _ H2) ?_;refine aj h2 ac rfl ?_;have q1 : ae (ts 7 Pt.cells g.pv (bY σ.pts)) H2 := h2u.to;obtain ⟨s1, e1, r1⟩ := pO (s := g.pv) (l := bY σ.pts) (lo := none) (hi := some (vi (k : Int))) (a := 0) (b := k) q1 (.inl ⟨rfl, rfl⟩) (.inr ⟨_, rfl⟩) (Nat.zero_le _) hk;refine aa e1 ?_;have h3 := fX 7 Pt.cells h2u;refine tf (s := .slice none 0 0) (l := ([] : List Pt)) (m := ((bY σ.pts).take k).drop 0) h3 ?_ (by omega) fun v3 H3 h4 => ?_
  ·unfold room; simp only [List.length_drop, List.length_take, List.length_nil]; omega
  rw [List.nil_append, List.drop_zero] at h4;refine aJ h4 ?_;refine iz ?_;refine Nq h4 fun b0 H5 h5 => ?_;refine iL (s := v3) (l := (bY σ.pts).take k) (⟨step, who, (σ.places who).getD 0, code⟩ : Pt) h5 rfl ?_ (by omega) fun a cc H6 h6 => ?_
  ·unfold room; simp only [List.length_take]; omega
  refine aj h6 ac rfl ?_;have q2 : ae (ts 7 Pt.cells g.pv (bY σ.pts)) H6 := h6.to;obtain ⟨s2, e2, r2⟩ := pO (s := g.pv) (l := bY σ.pts) (lo := some (vi (k : Int))) (hi := none) (a := k) (b := (bY σ.pts).length) q2 (.inr ⟨_, rfl⟩) (.inl ⟨rfl, rfl⟩) hk (bI _);refine aa e2 ?_;refine tf (s := .slice a (((bY σ.pts).take k).length + 1) cc) (l := (bY σ.pts).take k ++ [(⟨step, who, (σ.places who).getD 0, code⟩ : Pt)]) (m := ((bY σ.pts).take (bY σ.pts).length).drop k) h6 ?_ (by omega) fun v4 H7 h7 => ?_
  ·unfold room; simp only [List.length_drop, List.length_take, sn, List.length_cons, List.length_nil]; omega
  have hc := acX (s := v4) (enc := Pt.cells) (l := ((bY σ.pts).take k ++ [(⟨step, who, (σ.places who).getD 0, code⟩ : Pt)]) ++ ((bY σ.pts).take (bY σ.pts).length).drop k) h7
  haveI : yX v4 [v4] := ⟨hc.1⟩
  dsimp only;refine bi h7 ac rfl hc.2 fun H8 h8 => ?_;refine aq ⟨v4, rfl, ?_⟩
  have e3 : bY (σ.note step who code).pts = ((bY σ.pts).take k ++ [(⟨step, who, (σ.places who).getD 0, code⟩ : Pt)]) ++ ((bY σ.pts).take (bY σ.pts).length).drop k := by
   show bY (σ.pts ++ [_]) = _;rw [Lk, hins, List.take_length];simp
  unfold ax;dsimp only;rw [e3];exact h8.to
 have down : ∀ (k : Nat), k ≤ (bY σ.pts).length → (∀ j p, k ≤ j → (bY σ.pts)[j]? = some p → step < p.step) →
  wp (Cv (vp p) (vi step) (vi who) (vp rb) (vi ((σ.places who).getD 0)) (vi (k : Int)) H2) (fun v' H' => ∃ x : Value, v' = .tuple #[] ∧ ae (ax p { g with pv := x } (σ.note step who code) * R) H') := by
  intro k
  induction k with
  | zero =>
   intro hk ha;refine ah (E4 _ _ _ _ _ _ H2) ?_;refine aa (f7 (by omega)) ?_;refine gs ?_;refine ah (yp _ _ _ _ _ _ H2) ?_;exact put 0 hk ha (fun p h => absurd h (by omega))
  | succ k ih =>
   intro hk ha
   have hkl : k < (bY σ.pts).length := by omega
   refine ah (E4 _ _ _ _ _ _ H2) ?_;refine aa (lq (by omega)) ?_;refine gs ?_;refine aj h2 ac rfl ?_;refine gs ?_;refine aa (o4 (by omega) (by omega)) ?_;rw [show ((k + 1 : Nat) : Int) - 1 = (k : Int) from by omega];refine gs ?_;refine adC (s := g.pv) (l := bY σ.pts) (v := vi ((bY σ.pts)[k]).step) h2u hkl (by omega) rfl ?_;refine gs ?_
   by_cases hs : step < ((bY σ.pts)[k]).step
   ·refine aa (lq hs) ?_
    refine gs ?_;refine ah (Py _ _ _ _ _ _ H2) ?_;refine aa (o4 (by omega) (by omega)) ?_;rw [show ((k + 1 : Nat) : Int) - 1 = (k : Int) from by omega];refine ih (by omega) fun j p hj hp => ?_
    by_cases e : j = k
    ·subst e
     rw [cS hkl] at hp;rw [← gr hp]; exact hs
    ·exact ha j p (by omega) hp
   ·refine aa (f7 hs) ?_
    refine gs ?_;refine ah (yp _ _ _ _ _ _ H2) ?_;refine put (k + 1) hk ha fun p _ hp => ?_;rw [show k + 1 - 1 = k from by omega, cS hkl] at hp;rw [← gr hp]; omega
 exact down (bY σ.pts).length (bI _) fun j p hj hp => by
  rw [List.getElem?_eq_none hj] at hp; cases hp
structure Xk where
 a : Nat
 I : Nat
 free : Int
 hit : Bool
 obj : Nat
 w : Nat
 h : Nat
 q : Nat
 top : Nat
 mark : Int
 code : Int
abbrev xB (x P : Nat) (t : Tk) (k : Xk) : SP :=
 blk x (.cells false [vp P, vi t.who, vi t.x.op, vi t.x.flow, vi t.x.a, vi t.x.b, vi k.a, vi k.I, vi k.free, vb k.hit, vi k.obj, vu k.w, vu k.h, vu k.q, vw 0, vu k.top, vi k.mark, vi k.code, .slice none 0 0, vi 0, vw 0,
  vi 0, vi 0, .slice none 0 0, vw 0, vw 0, vi 0, vi 0, vi 0, vb false, vi 0, .slice none 0 0, vi 0, vw 0])
def iM (t : Tk) (k : Xk) : Prop := k.a = t.at' ∧ match t.at' with
 | 0 => k.I = t.i ∧ k.hit = false
 | 2 => k.I = t.i ∧ k.hit = false
 | 4 => k.I = t.i ∧ k.hit = false
 | 5 => k.hit = t.found ∧ (t.found = true → k.obj = t.obj) ∧ (t.found = false → k.code = t.code)
 | 6 => k.obj = t.obj
 | 7 => k.obj = t.obj
 | 8 => k.obj = t.obj ∧ k.w = t.w
 | 9 => k.obj = t.obj ∧ k.w = t.w
 | 10 => k.obj = t.obj ∧ k.w = t.w ∧ k.q = 0 ∧ k.code = t.code
 | 11 => k.obj = t.obj ∧ k.w = t.w ∧ k.code = t.code
 | 12 => k.obj = t.obj ∧ k.w = t.w
 | 13 => k.obj = t.obj ∧ k.w = t.w
 | 14 => k.obj = t.obj ∧ k.w = t.w ∧ k.q = 1 ∧ k.code = t.code
 | 15 => k.obj = t.obj
 | 16 => k.obj = t.obj ∧ k.q = t.q
 | 17 => k.obj = t.obj ∧ k.w = t.w ∧ k.q = t.q
 | 18 => k.obj = t.obj ∧ k.q = t.q ∧ k.mark = t.mark
 | 20 => k.obj = t.obj
 | 21 => k.obj = t.obj ∧ k.w = t.w ∧ k.code = t.code
 | 22 => k.obj = t.obj ∧ k.code = t.code
 | 23 => k.obj = t.obj ∧ k.top = t.top ∧ k.code = t.code
 | 24 => k.obj = t.obj ∧ k.top = t.top ∧ k.code = t.code
 | 25 => k.code = t.code
 | _ => True
def xP (x P : Nat) (σ : aN) (t : Tk) : SP := ex fun k : Xk => pu (iM t k) * (xB x P t k * aK P σ)
def xQ (x P : Nat) (r : aN × Tk × Bool) : SP := ex fun k : Xk => pu (if r.2.2 = true then k.code = r.2.1.code else iM r.2.1 k) * (xB x P r.2.1 k * aK P r.1)
section
variable {x P : Nat} {g : XIds} {σ σ' : aN} {t t' : Tk} {R : SP} {H : AH} {r : aN × Tk × Bool} {k : Xk}
theorem cV (h : ae (xP x P σ t * R) H) : ∃ (k : Xk) (g : XIds), iM t k ∧ fp g σ ∧ ae (xB x P t k * (ax P g σ * R)) H := by
 obtain ⟨k, h1⟩ := ae.ex.1 h;rw [ai, ae.pu] at h1;obtain ⟨g, h2, h3⟩ := fq (p := P) (σ := σ) (R := xB x P t k * R) (H := H) h1.2.to;exact ⟨k, g, h1.1, h2, h3.to⟩
theorem dB (hr : r = (σ', t', false)) (hR : iM t' k) (hg : fp g σ') (h : ae (xB x P t' k * (ax P g σ' * R)) H) : ∃ y : Unit, (vb false : Value) = vb r.2.2 ∧ ae (xQ x P r * R) H := by
 subst hr;refine ⟨(), rfl, ae.ex.2 ⟨k, ?_⟩⟩;rw [ai, ae.pu];have h1 := dd (p := P) (σ := σ') (R := xB x P t' k * R) g hg h.to;exact ⟨hR, h1.to⟩
theorem FQ (hr : r = (σ', t', true)) (hc : k.code = t'.code) (hg : fp g σ') (h : ae (xB x P t' k * (ax P g σ' * R)) H) : ∃ y : Unit, (vb true : Value) = vb r.2.2 ∧ ae (xQ x P r * R) H := by
 subst hr;refine ⟨(), rfl, ae.ex.2 ⟨k, ?_⟩⟩;rw [ai, ae.pu];have h1 := dd (p := P) (σ := σ') (R := xB x P t' k * R) g hg h.to;exact ⟨hc, h1.to⟩
theorem dJ {c : eg} {μ' : Mu} {obs' : List (Ob × List Pk)} {nx' : Int → Option Nat} {pts' : List Pt} {pv : Value} (h : fp g σ) (hN : σ.μ.N ≤ μ'.N) (ho : obs'.length = σ.obs.length) : fp { g with pv := pv } ⟨c, μ', obs', nx', σ.places, pts'⟩ :=
 ⟨h.1.trans ho.symm, h.2.1, fy h.2.2 hN⟩
theorem aB {c : eg} {μ' : Mu} {obs' : List (Ob × List Pk)} {nx' : Int → Option Nat} {pts' : List Pt} (h : fp g σ) (hN : σ.μ.N ≤ μ'.N) (ho : obs'.length = σ.obs.length) : fp g ⟨c, μ', obs', nx', σ.places, pts'⟩ :=
 ⟨h.1.trans ho.symm, h.2.1, fy h.2.2 hN⟩
end
section
variable (x P : Nat) (g : XIds) (σ : aN) (t : Tk) (k : Xk)
theorem j7 (hl : g.rp.length = σ.obs.length) (b : Nat) (ho : k.obj < σ.obs.length) (hb : g.rp[k.obj]? = some b) : Sp bX [vp x] (xB x P t k * ax P g σ) (fun _ : Unit => vp b) (fun _ => xB x P t k * ax P g σ) := by
 refine br (z0 _) fun R H h => ?_;refine aj h ac rfl ?_;refine aj h ac rfl ?_;refine aj h ac rfl ?_;have h2 := h;unfold ax at h2;refine qv (s := g.rv) (l := g.rp) (v := vp b) h2 (by omega) ?_ ?_
 ·rw [cS (by omega)] at hb
  rw [gr hb]
 exact aq ⟨(), rfl, h⟩
theorem yW (hw : k.w < 18446744073709551616) : Sp fR [vp x] (xB x P t k) (fun _ : Unit => vu (aL k.w)) (fun _ => xB x P t k) := by
 refine br (yn _) fun R H h => ?_;refine aj h ac rfl ?_;refine ag h (pG k.w hw) fun _ H1 h1 => ?_;refine aa (v := vu (aL k.w)) rfl ?_;refine aa (v := vi (aZ k.w)) rfl ?_;refine aa (v := vb (cI k.w)) rfl ?_;exact aq ⟨(), rfl, h1.to⟩
theorem CC (S : SOk σ) (hl : g.rp.length = σ.obs.length) (b : Nat) (ho : k.obj < σ.obs.length) (hb : g.rp[k.obj]? = some b) :
 Sp eR [vp x] (xB x P t k * ax P g σ) (fun _ : Unit => vi (aZ (σ.μ.V (11, (k.obj : Int), 0)))) (fun _ => xB x P t { k with w := σ.μ.V (11, (k.obj : Int), 0) } * ax P g (σ.mem (σ.μ.acc t.who 1 (11, (k.obj : Int), 0)))) := by
 have hN : σ.μ.N < 1099511627000 := by have := S.N; omega
 refine br (z5 _) fun R H h => ?_;refine ag h (j7 x P g σ t k hl b ho hb) fun _ H1 h1 => ?_;refine bz ac ?_;refine aR h1 rfl ?_;refine aH h h1 (by rfl) ?_;refine ag h1 (mK (p := P) (μ' := σ.μ.acc t.who 1 (11, (k.obj : Int), 0)) (by simp) hl ho hb (Qo g.m k.obj b (au σ k.obj) σ.μ t.who hN)) fun _ H2 h2 => ?_;refine bi h2 ac rfl rfl fun H3 h3 => ?_;refine aj h3 ac rfl ?_;refine ag h3 (pG _ (S.V _)) fun _ H4 h4 => ?_;refine aa (v := vu (aL (σ.μ.V (11, (k.obj : Int), 0)))) rfl ?_;refine aa (v := vi (aZ (σ.μ.V (11, (k.obj : Int), 0)))) rfl ?_;refine aa (v := vb (cI (σ.μ.V (11, (k.obj : Int), 0)))) rfl ?_;exact aq ⟨(), rfl, h4.to⟩
theorem j6 (hg : fp g σ) (now e : Int) (hN : σ.μ.N < 1000000000) (hp : σ.pts.length < 900000) :
 Sp bC [vp x, vi now, vi e] (xB x P t k * ax P g σ) (fun _ : Value => .tuple #[]) (fun v => xB x P t { k with code := e } * ax P { g with pv := v } (σ.note now t.who e)) := by
 refine br (zZ _ _ _) fun R H h => ?_;refine iz ?_;refine bi h ac rfl rfl fun H1 h1 => ?_;refine aj h1 ac rfl ?_;refine aj h1 ac rfl ?_;refine Tv h1 ac ?_;refine ag h1 (alX P g σ now t.who e (hg.2.1 _) (by have := hg.2.2; omega) hp) fun v H2 h2 => ?_;exact aq ⟨v, rfl, h2.to⟩
def Al (t1 : Tk) (k k' : Xk) : Prop := k'.a = k.a ∧ k'.w = k.w ∧ k'.q = k.q ∧ k'.top = k.top ∧ k'.mark = k.mark ∧ k'.code = k.code ∧ (t1.found = true → k'.hit = true ∧ k'.obj = t1.obj) ∧ (t1.found = false → k'.hit = k.hit ∧ k'.I = k.I + 1)
theorem TC (S : SOk σ) (T : hU σ t) (hI : k.I = t.i) (hi : (t.i : Int) < σ.c.sl) :
 Sp EG [vp x] (xB x P t k * ax P g σ) (fun _ : Xk => .tuple #[vb (aW σ t).found, vb (!(aW σ t).found && bK σ (aW σ t))]) (fun k' => pu (Al (aW σ t) k k') * (xB x P t k' * ax P g (ba σ t))) := by
 have hN : σ.μ.N < 1099511627000 := by have := S.N; omega
 have hc := bo.1 S.c;refine br (abO _) fun R H h => ?_;refine bz ac ?_;refine aR h rfl ?_;refine bz ac ?_;refine aR h rfl ?_;refine bz ac ?_;refine aR h rfl ?_;refine aj h ac rfl ?_;refine aj h ac rfl ?_;refine aj h (bV (aO (aO aY))) rfl ?_;refine ag h (B9 (p := P) (g := g) (σ := σ) (mm g.tb g.m σ.c.sh.toNat σ.c.sl.toNat (by omega) t.x.flow)) fun _ H1 h1 => ?_;refine aH h1 h (by rfl) ?_;refine aH h1 h (by rfl) ?_;refine aH h1 h (by rfl) ?_
 have es : vi ((t.x.flow.tmod (σ.c.sh.toNat : Int) + (σ.c.sh.toNat : Int)).tmod (σ.c.sh.toNat : Int)) = vi t.s := by rw [T.s, show ((σ.c.sh.toNat : Nat) : Int) = σ.c.sh from by omega]
 rw [es];refine bz ac ?_;refine aR h1 rfl ?_;refine aH h h1 (by rfl) ?_;rw [hI]
 have ek : k = { k with I := t.i } := by rw [← hI]
 rw [ek] at h1;refine ag h1 (pQ (p := P) (g := g) (σ := σ) (μ' := σ.μ.acc t.who 1 (10, t.s, (t.i : Int))) (by simp) (Hw g.tb g.m σ.c.sh.toNat σ.c.sl.toNat σ.μ t.who t.s t.i hN (S.V _))) fun _ H2 h2 => ?_;have tail : ∀ (k' : Xk) (H' : AH), Al { aW σ t with found := false } { k with I := t.i } { k' with I := t.i + 1 } → k'.I = t.i → (aW σ t).found = false → ae (xB x P t k' * (ax P g (ba σ t) * R)) H' →
  wp (E9 (vp x) (vb false) (vb false) H') fun v' H' => ∃ k' : Xk, v' = .tuple #[vb (aW σ t).found, vb (!(aW σ t).found && bK σ (aW σ t))] ∧ ae (pu (Al (aW σ t) k k') * (xB x P t k' * ax P g (ba σ t)) * R) H' := by
  intro k' H' hX hI' hf h';refine ah (HG ..) ?_;refine aj h' ac rfl ?_;rw [hI'];refine aa (aM (by omega) (by omega)) ?_;rw [show ((t.i : Nat) : Int) + 1 = ((t.i + 1 : Nat) : Int) from by omega];refine bi h' ac rfl rfl fun H3 h3 => ?_;refine aj h3 ac rfl ?_;refine aj h3 ac rfl ?_;refine aj h3 ac rfl ?_;have h4 := h3;unfold ax tab at h4;refine aj h4 ac rfl ?_;refine aa (v := vb (bK σ (aW σ t))) ?_ ?_
  ·rw [tr]
   congr 3
   show ((σ.c.sl.toNat : Int) ≤ _) = (σ.c.sl ≤ ((t.i + 1 : Nat) : Int));apply propext;omega
  refine aq ⟨{ k' with I := t.i + 1 }, by rw [hf]; rfl, ?_⟩;rw [ai, ae.pu];refine ⟨?_, h3.to⟩
  have e0 : aW σ t = { aW σ t with found := false } := by rw [← hf]
  rw [e0]
  simpa [Al, hI] using hX
 by_cases hv : σ.μ.V (10, t.s, (t.i : Int)) = 0
 ·have e1 : gP (σ.μ.V (10, t.s, (t.i : Int))) = .tuple #[vi 0, vi 0, vb false] := by rw [gP, if_pos hv]
  have hf : (aW σ t).found = false := dP fun q => q.1 hv;rw [e1];refine aa (v := vi 0) rfl ?_;refine aa (v := vi 0) rfl ?_;refine aa (v := vb false) rfl ?_;refine gs ?_;refine ah (tT ..) ?_;refine gs ?_;rw [Bool.not_false];refine gs ?_;refine aj h2 ac rfl ?_
  by_cases hfr : k.free < 0
  ·refine ml ?_
   refine aa (cK hfr) ?_;refine gs ?_;refine aj h2 ac rfl ?_;refine bi h2 ac rfl rfl fun H3 h3 => ?_;exact tail { k with I := t.i, free := t.i } H3 (by simp [Al]) rfl hf h3.to
  ·refine ml ?_
   refine aa (ch hfr) ?_;refine gs ?_;exact tail { k with I := t.i } H2 (by simp [Al]) rfl hf h2.to
 ·have e1 : gP (σ.μ.V (10, t.s, (t.i : Int))) = .tuple #[vi ((σ.μ.V (10, t.s, (t.i : Int)) / 4294967296 : Nat) - 1), vi (σ.μ.V (10, t.s, (t.i : Int)) % 4294967296 : Nat), vb true] := by rw [gP, if_neg hv]
  rw [e1];refine aa (v := vi ((σ.μ.V (10, t.s, (t.i : Int)) / 4294967296 : Nat) - 1)) rfl ?_;refine aa (v := vi (σ.μ.V (10, t.s, (t.i : Int)) % 4294967296 : Nat)) rfl ?_;refine aa (v := vb true) rfl ?_;refine gs ?_;refine aj h2 (bV (aO (aO aY))) rfl ?_;refine ml ?_
  by_cases hf : ((σ.μ.V (10, t.s, (t.i : Int)) / 4294967296 : Nat) : Int) - 1 = t.x.flow
  ·have hfo : (aW σ t).found = true := dj ⟨hv, hf⟩
   have hob : (aW σ t).obj = σ.μ.V (10, t.s, (t.i : Int)) % 4294967296 := if_pos hfo;refine aa (bk hf) ?_;refine gs ?_;refine bi h2 ac rfl rfl fun H3 h3 => ?_;refine bi h3 ac rfl rfl fun H4 h4 => ?_;refine aq ⟨{ k with I := t.i, hit := true, obj := σ.μ.V (10, t.s, (t.i : Int)) % 4294967296 }, by rw [hfo]; rfl, ?_⟩;rw [ai, ae.pu];exact ⟨by simp [Al, hfo, hob], h4.to⟩
  ·have hfo : (aW σ t).found = false := dP fun q => hf q.2
   refine aa (aG hf) ?_;refine gs ?_;refine ah (tT ..) ?_;refine gs ?_;rw [Bool.not_true];refine gs ?_;exact tail { k with I := t.i } H2 (by simp [Al]) rfl hfo h2.to
theorem Ng {R : SP} {H : AH} {Q : Value → AH → Prop} (now : Int) (S : SOk σ) (T : hU σ t) (h : ae (xB x P t k * (ax P g σ * R)) H)
 (hk : ∀ b H', ae (blk b (.cells false [vi t.x.flow, vi t.x.a, vi t.x.b]) * (xB x P t k * (ax P g σ * R))) H' → wp (PD (vp x) (vi now) (vb false) (vp P) (vi t.s) (vp b) H') Q) :
 wp (FF eI [vp x, vi now] H) Q := by
 have hc := bo.1 S.c;refine bg (fun r => ajZ _ _ H) ?_;refine bz ac ?_;refine aR h rfl ?_;refine aj h ac rfl ?_;refine aj h ac rfl ?_;refine aj h (bV (aO (aO aY))) rfl ?_;refine ag h (B9 (p := P) (g := g) (σ := σ) (mm g.tb g.m σ.c.sh.toNat σ.c.sl.toNat (by omega) t.x.flow)) fun _ H1 h1 => ?_;refine aH h1 h (by rfl) ?_
 have es : vi ((t.x.flow.tmod (σ.c.sh.toNat : Int) + (σ.c.sh.toNat : Int)).tmod (σ.c.sh.toNat : Int)) = vi t.s := by rw [T.s, show ((σ.c.sh.toNat : Nat) : Int) = σ.c.sh from by omega]
 rw [es];refine aj h1 (bV (aO (aO aY))) rfl ?_;refine aj h1 (bV (aO (aO aY))) rfl ?_;refine aj h1 (bV (aO (aO aY))) rfl ?_;refine iz ?_;refine bf h1 fun b H2 h2 => ?_;refine cX h2 rfl rfl fun H3 h3 => ?_;exact hk b H3 h3.to
theorem ca {R : SP} {H : AH} {Q : Value → AH → Prop} (now : Int) (S : SOk σ) (T : hU σ t) (ha : k.a ≠ 0) (h : ae (xB x P t k * (ax P g σ * R)) H)
 (hk : ∀ b H', ae (blk b (.cells false [vi t.x.flow, vi t.x.a, vi t.x.b]) * (xB x P t k * (ax P g σ * R))) H' → wp (qp (vp x) (vi now) (vb false) (vp P) (vi t.s) (vp b) (vi k.a) H') Q) :
 wp (FF eI [vp x, vi now] H) Q := by
 refine Ng x P g σ t k now S T h fun b H1 h1 => ?_;refine ah (HE ..) ?_;refine aj h1 ac rfl ?_;refine aa (aG (by omega)) ?_;refine gs ?_;refine ah (HF ..) ?_;refine aj h1 ac rfl ?_;exact hk b H1 h1
end
theorem oY {f : Nat} {args : List Value} {H : AH} {Q : Value → AH → Prop} (h : wp (FF f args H) Q) : wp ((FF f args H).bind fun r => some (r.1, r.2)) Q := by
 obtain ⟨v, H', e, q⟩ := h;rw [e]; exact ⟨v, H', rfl, q⟩
section
variable (x P : Nat) (σ : aN) (t : Tk) (now : Int)
theorem ch6 {x0 x1 x4 x5 x6 x7 : Value} {a : Nat} {H : AH} {Q : Value → AH → Prop} (h : a ≠ 2 ∧ a ≠ 3 ∧ a ≠ 4 ∧ a ≠ 5) (hk : wp ((ap .other .eql (vi (a : Int)) (vi 6)).bind fun v => Kf x0 x1 x4 x5 x6 x7 (vi (a : Int)) v H) Q) : wp (qp x0 x1 x4 x5 x6 x7 (vi (a : Int)) H) Q := by
 refine ah (mB ..) ?_;refine aa (aG (by omega)) ?_;refine ah (pN ..) ?_;refine gs ?_;refine aa (aG (by omega)) ?_;refine ah (qo ..) ?_;refine gs ?_;refine aa (aG (by omega)) ?_;refine ah (vV ..) ?_;refine gs ?_;refine aa (aG (by omega)) ?_;refine ah (E6 ..) ?_;refine gs ?_;exact hk
theorem ch8 {x0 x1 x4 x5 x6 x7 : Value} {a : Nat} {H : AH} {Q : Value → AH → Prop} (h : a ≠ 2 ∧ a ≠ 3 ∧ a ≠ 4 ∧ a ≠ 5 ∧ a ≠ 6 ∧ a ≠ 7) (hk : wp ((ap .other .eql (vi (a : Int)) (vi 8)).bind fun v => Kg x0 x1 x4 x5 x6 x7 (vi (a : Int)) v H) Q) : wp (qp x0 x1 x4 x5 x6 x7 (vi (a : Int)) H) Q := by
 refine ch6 (by omega) ?_;refine aa (aG (by omega)) ?_;refine ah (vW ..) ?_;refine gs ?_;refine aa (aG (by omega)) ?_;refine ah (E7 ..) ?_;refine gs ?_;exact hk
theorem ai1 {x0 x1 x4 x5 x6 x7 : Value} {a : Nat} {H : AH} {Q : Value → AH → Prop} (h : a ≠ 2 ∧ a ≠ 3 ∧ a ≠ 4 ∧ a ≠ 5 ∧ a ≠ 6 ∧ a ≠ 7 ∧ a ≠ 8 ∧ a ≠ 9 ∧ a ≠ 13) (hk : wp ((ap .other .eql (vi (a : Int)) (vi 10)).bind fun v98 => av v98 (yq x0 x1 x4 x5 x6 x7 (vi (a : Int)) v98 H) ((ap .other .eql (vi (a : Int)) (vi 14)).bind fun v99 => yq x0 x1 x4 x5 x6 x7 (vi (a : Int)) v99 H)) Q) : wp (qp x0 x1 x4 x5 x6 x7 (vi (a : Int)) H) Q := by
 refine ch8 (by omega) ?_;refine aa (aG (by omega)) ?_;refine ah (qq ..) ?_;refine gs ?_;refine aa (aG (by omega)) ?_;refine gs ?_;refine aa (aG (by omega)) ?_;refine ah (vX ..) ?_;refine gs ?_;exact hk
theorem ai2 {x0 x1 x4 x5 x6 x7 : Value} {a : Nat} {H : AH} {Q : Value → AH → Prop} (h : a ≠ 2 ∧ a ≠ 3 ∧ a ≠ 4 ∧ a ≠ 5 ∧ a ≠ 6 ∧ a ≠ 7 ∧ a ≠ 8 ∧ a ≠ 9 ∧ a ≠ 10 ∧ a ≠ 13 ∧ a ≠ 14) (hk : wp ((ap .other .eql (vi (a : Int)) (vi 11)).bind fun v => Ki x0 x1 x4 x5 x6 (vi (a : Int)) v H) Q) : wp (qp x0 x1 x4 x5 x6 x7 (vi (a : Int)) H) Q := by
 refine ai1 (by omega) ?_;refine aa (aG (by omega)) ?_;refine gs ?_;refine aa (aG (by omega)) ?_;refine ah (vY ..) ?_;refine gs ?_;exact hk
theorem XJ {x0 x1 x4 x5 x6 x7 : Value} {a : Nat} {H : AH} {Q : Value → AH → Prop} (h : a ≠ 2 ∧ a ≠ 3 ∧ a ≠ 4 ∧ a ≠ 5 ∧ a ≠ 6 ∧ a ≠ 7 ∧ a ≠ 8 ∧ a ≠ 9 ∧ a ≠ 10 ∧ a ≠ 11 ∧ a ≠ 12 ∧ a ≠ 13 ∧ a ≠ 14) (hk : wp ((ap .other .eql (vi (a : Int)) (vi 15)).bind fun v92 => av v92 (mh x0 x1 x4 x6 v92 H) ((ap .other .eql (vi (a : Int)) (vi 16)).bind fun v93 => av v93 (mh x0 x1 x4 x6 v93 H) ((ap .other .eql (vi (a : Int)) (vi 17)).bind fun v94 => av v94 (mh x0 x1 x4 x6 v94 H) ((ap .other .eql (vi (a : Int)) (vi 18)).bind fun v95 => mh x0 x1 x4 x6 v95 H)))) Q) : wp (qp x0 x1 x4 x5 x6 x7 (vi (a : Int)) H) Q := by
 refine ai2 (by omega) ?_;refine aa (aG (by omega)) ?_;refine ah (vZ ..) ?_;refine gs ?_;refine aa (aG (by omega)) ?_;refine ah (E8 ..) ?_;refine gs ?_;exact hk
theorem chw {x0 x1 x4 x5 x6 x7 : Value} {a : Nat} {H : AH} {Q : Value → AH → Prop} (h : a ≠ 2 ∧ a ≠ 3 ∧ a ≠ 4 ∧ a ≠ 5 ∧ a ≠ 6 ∧ a ≠ 7 ∧ a ≠ 8 ∧ a ≠ 9 ∧ a ≠ 10 ∧ a ≠ 11 ∧ a ≠ 12 ∧ a ≠ 13 ∧ a ≠ 14 ∧ a ≠ 15 ∧ a ≠ 16 ∧ a ≠ 17 ∧ a ≠ 18) (hk : wp ((FF aaW [x0, x6] H).bind fun r91 => some (r91.1, r91.2)) Q) : wp (qp x0 x1 x4 x5 x6 x7 (vi (a : Int)) H) Q := by
 refine XJ (by omega) ?_;refine aa (aG (by omega)) ?_;refine gs ?_;refine aa (aG (by omega)) ?_;refine gs ?_;refine aa (aG (by omega)) ?_;refine gs ?_;refine aa (aG (by omega)) ?_;refine ah (nB ..) ?_;refine gs ?_;exact hk
theorem ahA (S : SOk σ) (T : hU σ t) (hat : t.at' = 3) : Sp eI [vp x, vi now] (xP x P σ t) (fun _ : Unit => vb (ak σ t now).2.2) (fun _ => xQ x P (ak σ t now)) := by
 have hN : σ.μ.N < 1099511627000 := by have := S.N; omega
 refine aP fun R H h => ?_;obtain ⟨k, g, hR, hg, h0⟩ := cV h;have hl := hg.1;simp only [iM, hat] at hR;obtain ⟨ha, _⟩ := hR;refine ca x P g σ t k now S T (by omega) h0 fun b1 H1 h1 => ?_;refine ah (mB ..) ?_;refine aa (aG (by omega)) ?_;refine ah (pN ..) ?_;refine gs ?_;refine aa (bk (by omega)) ?_;refine ah (qo ..) ?_;refine gs ?_;refine aj h1 ac rfl ?_;refine aj h1 ac rfl ?_;refine ag h1 (pQ (p := P) (g := g) (σ := σ) (μ' := σ.μ.swp t.who (8, t.s, 0) 0 1) (by simp) (MD g.tb g.m σ.c.sh.toNat σ.c.sl.toNat σ.μ t.who t.s hN)) fun _ H2 h2 => ?_
 by_cases hw : σ.μ.V (8, t.s, 0) = 0
 ·rw [dj hw]
  refine gs ?_;refine bi h2 ac rfl rfl fun H3 h3 => ?_;refine bi h3 ac rfl rfl fun H4 h4 => ?_;refine bi h4 ac rfl rfl fun H5 h5 => ?_;refine ah (cB ..) ?_;exact aq (dB (g := g) (σ' := σ.mem (σ.μ.swp t.who (8, t.s, 0) 0 1)) (t' := { t with at' := 4, i := 0 }) (k := { k with a := 4, I := 0, hit := false }) (by simp only [ak, hat]; rw [if_pos hw]) (by simp [iM]) (aB (σ := σ) hg (by simp) rfl) h5.to)
 ·rw [dP hw]
  refine gs ?_;refine ah (cB ..) ?_;exact aq (dB (g := g) (σ' := σ.mem (σ.μ.swp t.who (8, t.s, 0) 0 1)) (t' := t) (k := k) (by simp only [ak, hat]; rw [if_neg hw]) (by simp only [iM, hat]; exact ⟨ha, trivial⟩) (aB (σ := σ) hg (by simp) rfl) h2.to)
theorem ahC (S : SOk σ) (T : hU σ t) (hat : t.at' = 5) : Sp eI [vp x, vi now] (xP x P σ t) (fun _ : Unit => vb (ak σ t now).2.2) (fun _ => xQ x P (ak σ t now)) := by
 have hN : σ.μ.N < 1099511627000 := by have := S.N; omega
 refine aP fun R H h => ?_;obtain ⟨k, g, hR, hg, h0⟩ := cV h;have hl := hg.1;simp only [iM, hat] at hR;obtain ⟨ha, hhit, hobj, hcode⟩ := hR;refine ca x P g σ t k now S T (by omega) h0 fun b1 H1 h1 => ?_;refine ah (mB ..) ?_;refine aa (aG (by omega)) ?_;refine ah (pN ..) ?_;refine gs ?_;refine aa (aG (by omega)) ?_;refine ah (qo ..) ?_;refine gs ?_;refine aa (aG (by omega)) ?_;refine ah (vV ..) ?_;refine gs ?_;refine aa (bk (by omega)) ?_;refine ah (E6 ..) ?_;refine gs ?_;refine aj h1 ac rfl ?_;refine aj h1 ac rfl ?_;refine ag h1 (pQ (p := P) (g := g) (σ := σ) (μ' := (σ.μ.acc t.who 2 (8, t.s, 0)).put (8, t.s, 0) 0) (by simp) (vU g.tb g.m σ.c.sh.toNat σ.c.sl.toNat σ.μ t.who t.s hN)) fun _ H2 h2 => ?_;refine aj h2 ac rfl ?_;cases hf : t.found
 ·rw [hf] at hhit
  rw [hhit];refine gs ?_;rw [Bool.not_false];refine gs ?_;exact aq (FQ (g := g) (k := k) (σ' := σ.mem ((σ.μ.acc t.who 2 (8, t.s, 0)).put (8, t.s, 0) 0)) (t' := { t with at' := 6 }) (by simp only [ak, hat, hf]; rfl) (hcode hf) (aB (σ := σ) hg (by simp) rfl) h2.to)
 ·rw [hf] at hhit
  rw [hhit];refine gs ?_;rw [Bool.not_true];refine gs ?_;refine bi h2 ac rfl rfl fun H3 h3 => ?_;refine ah (cB ..) ?_;exact aq (dB (g := g) (σ' := σ.mem ((σ.μ.acc t.who 2 (8, t.s, 0)).put (8, t.s, 0) 0)) (t' := { t with at' := 6 }) (k := { k with a := 6 }) (by simp only [ak, hat, hf]; rfl) (by simp [iM, hobj hf]) (aB (σ := σ) hg (by simp) rfl) h3.to)
theorem ahD (S : SOk σ) (T : hU σ t) (hat : t.at' = 6) : Sp eI [vp x, vi now] (xP x P σ t) (fun _ : Unit => vb (ak σ t now).2.2) (fun _ => xQ x P (ak σ t now)) := by
 have hN : σ.μ.N < 1099511627000 := by have := S.N; omega
 refine aP fun R H h => ?_;obtain ⟨k, g, hR, hg, h0⟩ := cV h;have hl := hg.1;simp only [iM, hat] at hR;obtain ⟨ha, hobj⟩ := hR;have ho := T.obj (.inl (by omega))
 have hob : k.obj < σ.obs.length := by omega
 obtain ⟨b, hb⟩ : ∃ b, g.rp[k.obj]? = some b := ⟨_, cS (by omega)⟩;refine ca x P g σ t k now S T (by omega) h0 fun b1 H1 h1 => ?_;refine ch6 (by omega) ?_;refine aa (bk (by omega)) ?_;refine ah (vW ..) ?_;refine gs ?_;refine aj h1 ac rfl ?_;refine aj h1 ac rfl ?_;refine ag h1 (Qm P g σ hl t.who k.obj hob S.N) fun _ H2 h2 => ?_;refine bi h2 ac rfl rfl fun H3 h3 => ?_;refine ah (cB ..) ?_;rw [hobj] at h3;exact aq (dB (g := g) (σ' := σ.mem (σ.μ.acc t.who 5 (13, (t.obj : Int), 0))) (t' := { t with at' := 7 }) (k := { k with a := 7, obj := t.obj }) (by simp only [ak, hat]) (by simp [iM]) (aB (σ := σ) hg (by simp) rfl) h3.to)
theorem ahE (S : SOk σ) (T : hU σ t) (hat : t.at' = 7) : Sp eI [vp x, vi now] (xP x P σ t) (fun _ : Unit => vb (ak σ t now).2.2) (fun _ => xQ x P (ak σ t now)) := by
 have hN : σ.μ.N < 1099511627000 := by have := S.N; omega
 refine aP fun R H h => ?_;obtain ⟨k, g, hR, hg, h0⟩ := cV h;have hl := hg.1;simp only [iM, hat] at hR;obtain ⟨ha, hobj⟩ := hR;have ho := T.obj (.inl (by omega))
 have hob : k.obj < σ.obs.length := by omega
 obtain ⟨b, hb⟩ : ∃ b, g.rp[k.obj]? = some b := ⟨_, cS (by omega)⟩;refine ca x P g σ t k now S T (by omega) h0 fun b1 H1 h1 => ?_;refine ch6 (by omega) ?_;refine aa (aG (by omega)) ?_;refine ah (vW ..) ?_;refine gs ?_;refine aa (bk (by omega)) ?_;refine ah (E7 ..) ?_;refine gs ?_;refine bi h1 ac rfl rfl fun H2 h2 => ?_;refine ag h2 (CC x P g σ t { k with a := 8 } S hl b hob hb) fun _ H3 h3 => ?_;dsimp only at h3;rw [hobj] at h3
 by_cases hw : aZ (σ.μ.V (11, (t.obj : Int), 0)) = 2
 ·refine aa (bk (by rw [hobj]; exact hw)) ?_
  refine gs ?_;refine bi h3 ac rfl rfl fun H4 h4 => ?_;refine ah (cB ..) ?_;exact aq (dB (g := g) (σ' := dg σ t) (t' := { t with at' := 3, w := σ.μ.V (11, (t.obj : Int), 0) }) (k := { k with a := 3, obj := t.obj, w := σ.μ.V (11, (t.obj : Int), 0) }) (by simp only [ak, hat]; rw [if_pos hw]) (by simp [iM]) (aB (σ := σ) hg (by simp) rfl) h4.to)
 ·refine aa (aG (by rw [hobj]; exact hw)) ?_
  refine gs ?_;refine ah (cB ..) ?_;exact aq (dB (g := g) (σ' := dg σ t) (t' := { t with at' := 8, w := σ.μ.V (11, (t.obj : Int), 0) }) (k := { k with a := 8, obj := t.obj, w := σ.μ.V (11, (t.obj : Int), 0) }) (by simp only [ak, hat]; rw [if_neg hw]) (by simp [iM]) (aB (σ := σ) hg (by simp) rfl) h3.to)
theorem ahF (S : SOk σ) (T : hU σ t) (hat : t.at' = 8) : Sp eI [vp x, vi now] (xP x P σ t) (fun _ : Unit => vb (ak σ t now).2.2) (fun _ => xQ x P (ak σ t now)) := by
 have hN : σ.μ.N < 1099511627000 := by have := S.N; omega
 refine aP fun R H h => ?_;obtain ⟨k, g, hR, hg, h0⟩ := cV h;have hl := hg.1;simp only [iM, hat] at hR;obtain ⟨ha, hobj, hw0⟩ := hR;have ho := T.obj (.inl (by omega))
 have hob : k.obj < σ.obs.length := by omega
 obtain ⟨b, hb⟩ : ∃ b, g.rp[k.obj]? = some b := ⟨_, cS (by omega)⟩;refine ca x P g σ t k now S T (by omega) h0 fun b1 H1 h1 => ?_;refine ch8 (by omega) ?_;refine aa (bk (by omega)) ?_;refine ah (qq ..) ?_;refine gs ?_;refine ag h1 (j7 x P g σ t k hl b hob hb) fun _ H2 h2 => ?_;refine bz ac ?_;refine aR h2 rfl ?_;refine aH h1 h2 (by rfl) ?_;refine ag h2 (mK (p := P) (μ' := σ.μ.acc t.who 1 (12, (k.obj : Int), 0)) (by simp) hl hob hb (FT g.m k.obj b (au σ k.obj) σ.μ t.who hN)) fun _ H3 h3 => ?_;refine bi h3 ac rfl rfl fun H4 h4 => ?_;refine aj h4 ac rfl ?_;refine ag h4 (pG k.w (by rw [hw0]; exact T.w)) fun _ H5 h5 => ?_;refine aa (v := vu (aL k.w)) rfl ?_;refine aa (v := vi (aZ k.w)) rfl ?_;refine aa (v := vb (cI k.w)) rfl ?_;refine ah (PF ..) ?_;refine ag h5 (j7 x P g (σ.mem (σ.μ.acc t.who 1 (12, (k.obj : Int), 0))) t { k with h := σ.μ.V (12, (k.obj : Int), 0) } hl b hob hb) fun _ H6 h6 => ?_;refine bz ac ?_;refine aR h6 rfl ?_;refine aH h5 h6 (by rfl) ?_;refine bz ac ?_;refine aR h6 rfl ?_;refine aH h5 h6 (by rfl) ?_;refine ag h6 (KT (p := P) (σ := σ.mem (σ.μ.acc t.who 1 (12, (k.obj : Int), 0))) hl hob hb (FS g.m k.obj b (au σ k.obj) k.w (σ.μ.V (12, (k.obj : Int), 0)) (by rw [hw0]; exact T.w) (S.cells _ hob).2)) fun _ H7 h7 => ?_;rw [hobj, hw0] at h7;rw [hobj, hw0];cases hf : gG t.w (σ.μ.V (12, (t.obj : Int), 0)) (au σ t.obj).length
 ·refine gs ?_
  by_cases hw : aZ t.w = 1
  ·refine aa (bk hw) ?_
   refine gs ?_;refine bi h7 ac rfl rfl fun H8 h8 => ?_;refine ah (cB ..) ?_;exact aq (dB (g := g) (σ' := jA σ t) (t' := { t with at' := 9 }) (k := { k with a := 9, obj := t.obj, w := t.w, h := σ.μ.V (12, (t.obj : Int), 0) }) (by simp only [ak, hat, j9, hf]; rw [if_pos hw]; rfl) (by simp [iM]) (aB (σ := σ) hg (by simp) rfl) h8.to)
  ·refine aa (aG hw) ?_
   refine gs ?_;refine bi h7 ac rfl rfl fun H8 h8 => ?_;refine ah (cB ..) ?_;exact aq (dB (g := g) (σ' := jA σ t) (t' := { t with at' := 12 }) (k := { k with a := 12, obj := t.obj, w := t.w, h := σ.μ.V (12, (t.obj : Int), 0) }) (by simp only [ak, hat, j9, hf]; rw [if_neg hw]; rfl) (by simp [iM]) (aB (σ := σ) hg (by simp) rfl) h8.to)
 ·refine gs ?_
  refine bi h7 ac rfl rfl fun H8 h8 => ?_;refine ah (cB ..) ?_;exact aq (dB (g := g) (σ' := jA σ t) (t' := { t with at' := 15 }) (k := { k with a := 15, obj := t.obj, w := t.w, h := σ.μ.V (12, (t.obj : Int), 0) }) (by simp only [ak, hat, j9, hf]; rfl) (by simp [iM]) (aB (σ := σ) hg (by simp) rfl) h8.to)
theorem Nk (g : XIds) (k : Xk) (S : SOk σ) (hg : fp g σ) (ha : k.a = 9 ∨ k.a = 13) (b : Nat) (ho : k.obj < σ.obs.length) (hb : g.rp[k.obj]? = some b) (hw0 : k.w < 18446744073709551616) :
 Sp kI [vp x, vi now] (xB x P t k * ax P g σ) (fun _ : Value => .tuple #[]) (fun v => if fD σ.μ k.obj k.w (bd k.w 0) = true then
  xB x P t { k with q := if k.a = 13 then 1 else 0, a := k.a + 1, code := 0 } * ax P { g with pv := v } ((σ.mem (σ.μ.turn t.who k.obj k.w (bd k.w 0))).note now t.who 0)
  else xB x P t { k with q := if k.a = 13 then 1 else 0, a := if k.a = 13 then 20 else 7 } * ax P g (σ.mem (σ.μ.turn t.who k.obj k.w (bd k.w 0)))) := by
 have hN : σ.μ.N < 1099511627000 := by have := S.N; omega
 have hl := hg.1
 have hturn : σ.μ.N ≤ (σ.μ.turn t.who k.obj k.w (bd k.w 0)).N := by cases bd k.w 0 <;> simp
 have hturn2 : (σ.μ.turn t.who k.obj k.w (bd k.w 0)).N ≤ σ.μ.N + 2 := by cases bd k.w 0 <;> simp
 refine br (ym _ _) fun R H h => ?_;refine bi h ac rfl rfl fun H1 h1 => ?_;refine ah (sO ..) ?_;refine aj h1 ac rfl ?_
 have main : ∀ (q : Nat) (H2 : AH), q = (if k.a = 13 then 1 else 0) → ae (xB x P t { k with q := q } * (ax P g σ * R)) H2 → wp (gM (vp x) (vi now) H2) fun v' H' => ∃ v : Value, v' = .tuple #[] ∧ ae ((if fD σ.μ k.obj k.w (bd k.w 0) = true then
  xB x P t { k with q := if k.a = 13 then 1 else 0, a := k.a + 1, code := 0 } * ax P { g with pv := v } ((σ.mem (σ.μ.turn t.who k.obj k.w (bd k.w 0))).note now t.who 0)
  else xB x P t { k with q := if k.a = 13 then 1 else 0, a := if k.a = 13 then 20 else 7 } * ax P g (σ.mem (σ.μ.turn t.who k.obj k.w (bd k.w 0)))) * R) H' := by
  intro q H2 hq h2;refine ah (sP ..) ?_;refine ag h2 (j7 x P g σ t { k with q := q } hl b ho hb) fun _ H3 h3 => ?_;refine bz ac ?_;refine aR h3 rfl ?_;refine aH h2 h3 (by rfl) ?_;refine bz ac ?_;refine aR h3 rfl ?_;refine aH h2 h3 (by rfl) ?_;refine ag h3 (mK (p := P) (μ' := σ.μ.turn t.who k.obj k.w (bd k.w 0)) hturn hl ho hb (FV g.m k.obj b (au σ k.obj) σ.μ t.who k.w 0 (by omega) hw0 hN)) fun _ H4 h4 => ?_;cases hw : fD σ.μ k.obj k.w (bd k.w 0)
  ·refine gs ?_
   refine aj h4 ac rfl ?_
   rcases ha with ha | ha
   ·refine aa (bk (show ((k.a : Nat) : Int) = 9 by omega)) ?_
    refine gs ?_;refine bi h4 ac rfl rfl fun H5 h5 => ?_;refine aq ⟨.bool true, rfl, ?_⟩;rw [if_neg (by simp)];simp only [hq] at h5;rw [if_neg (by omega)] at h5 ⊢;rw [if_neg (by omega)];exact h5.to
   ·refine aa (aG (show ¬ ((k.a : Nat) : Int) = 9 by omega)) ?_
    refine gs ?_;refine bi h4 ac rfl rfl fun H5 h5 => ?_;refine aq ⟨.bool true, rfl, ?_⟩;rw [if_neg (by simp)];simp only [hq] at h5;rw [if_pos ha] at h5 ⊢;rw [if_pos ha];exact h5.to
  ·refine gs ?_
   refine ag h4 (j6 x P g (σ.mem (σ.μ.turn t.who k.obj k.w (bd k.w 0))) t { k with q := q } (aB (σ := σ) hg hturn rfl) now 0 (by have := S.N; show (σ.μ.turn t.who k.obj k.w (bd k.w 0)).N < _; omega) S.pts) fun v H5 h5 => ?_;refine aj h5 ac rfl ?_;refine aa (aM (a := ((k.a : Nat) : Int)) (b := 1) (by omega) (by omega)) ?_;rw [show ((k.a : Nat) : Int) + 1 = ((k.a + 1 : Nat) : Int) from by omega];refine bi h5 ac rfl rfl fun H6 h6 => ?_;refine aq ⟨v, rfl, ?_⟩;rw [if_pos rfl];simp only [hq] at h6;exact h6.to
 rcases ha with ha | ha
 ·refine aa (aG (by omega)) ?_
  refine gs ?_;exact main 0 H1 (by rw [if_neg (by omega)]) h1.to
 ·refine aa (bk (by omega)) ?_
  refine gs ?_;refine bi h1 ac rfl rfl fun H2 h2 => ?_;exact main 1 H2 (by rw [if_pos ha]) h2.to
theorem ahG (S : SOk σ) (T : hU σ t) (hat : t.at' = 9) : Sp eI [vp x, vi now] (xP x P σ t) (fun _ : Unit => vb (ak σ t now).2.2) (fun _ => xQ x P (ak σ t now)) := by
 have hN : σ.μ.N < 1099511627000 := by have := S.N; omega
 refine aP fun R H h => ?_;obtain ⟨k, g, hR, hg, h0⟩ := cV h;have hl := hg.1;simp only [iM, hat] at hR;obtain ⟨ha, hobj, hw0⟩ := hR;have ho := T.obj (.inl (by omega))
 have hob : k.obj < σ.obs.length := by omega
 obtain ⟨b, hb⟩ : ∃ b, g.rp[k.obj]? = some b := ⟨_, cS (by omega)⟩;refine ca x P g σ t k now S T (by omega) h0 fun b1 H1 h1 => ?_;refine ch8 (by omega) ?_;refine aa (aG (by omega)) ?_;refine ah (qq ..) ?_;refine gs ?_;refine aa (bk (by omega)) ?_;refine gs ?_;refine ah (vX ..) ?_;refine gs ?_
 have hturn : σ.μ.N ≤ (σ.μ.turn t.who k.obj k.w (bd k.w 0)).N := by cases bd k.w 0 <;> simp
 refine ag h1 (Nk x P σ t now g k S hg (by omega) b hob hb (by rw [hw0]; exact T.w)) fun v H2 h2 => ?_;refine ah (cB ..) ?_;cases hw : fD σ.μ t.obj t.w (bd t.w 0)
 ·rw [if_neg (by rw [hobj, hw0, hw]; simp)] at h2
  rw [hobj, hw0, ha, if_neg (by omega), if_neg (by omega)] at h2;exact aq (dB (g := g) (σ' := σ.mem (σ.μ.turn t.who t.obj t.w (bd t.w 0))) (t' := { t with at' := 7 }) (k := { k with a := 7, obj := t.obj, w := t.w, q := 0 }) (by simp only [ak, hat, hw]; rfl) (by simp [iM]) (aB (σ := σ) hg (by rw [hobj, hw0] at hturn; exact hturn) rfl) h2.to)
 ·rw [if_pos (by rw [hobj, hw0, hw])] at h2
  rw [hobj, hw0, ha, if_neg (by omega)] at h2;exact aq (dB (g := { g with pv := v }) (σ' := (σ.mem (σ.μ.turn t.who t.obj t.w (bd t.w 0))).note now t.who 0) (t' := { t with at' := 10, code := 0 }) (k := { k with a := 10, obj := t.obj, w := t.w, q := 0, code := 0 }) (by simp only [ak, hat, hw]; rfl) (by simp [iM]) (dJ (σ := σ) hg (by rw [hobj, hw0] at hturn; exact hturn) rfl) h2.to)
theorem adJ (S : SOk σ) (T : hU σ t) (hat : t.at' = 13) : Sp eI [vp x, vi now] (xP x P σ t) (fun _ : Unit => vb (ak σ t now).2.2) (fun _ => xQ x P (ak σ t now)) := by
 have hN : σ.μ.N < 1099511627000 := by have := S.N; omega
 refine aP fun R H h => ?_;obtain ⟨k, g, hR, hg, h0⟩ := cV h;have hl := hg.1;simp only [iM, hat] at hR;obtain ⟨ha, hobj, hw0⟩ := hR;have ho := T.obj (.inl (by omega))
 have hob : k.obj < σ.obs.length := by omega
 obtain ⟨b, hb⟩ : ∃ b, g.rp[k.obj]? = some b := ⟨_, cS (by omega)⟩;refine ca x P g σ t k now S T (by omega) h0 fun b1 H1 h1 => ?_;refine ch8 (by omega) ?_;refine aa (aG (by omega)) ?_;refine ah (qq ..) ?_;refine gs ?_;refine aa (aG (by omega)) ?_;refine gs ?_;refine aa (bk (by omega)) ?_;refine ah (vX ..) ?_;refine gs ?_
 have hturn : σ.μ.N ≤ (σ.μ.turn t.who k.obj k.w (bd k.w 0)).N := by cases bd k.w 0 <;> simp
 refine ag h1 (Nk x P σ t now g k S hg (by omega) b hob hb (by rw [hw0]; exact T.w)) fun v H2 h2 => ?_;refine ah (cB ..) ?_;cases hw : fD σ.μ t.obj t.w (bd t.w 0)
 ·rw [if_neg (by rw [hobj, hw0, hw]; simp)] at h2
  rw [hobj, hw0, ha, if_pos rfl, if_pos rfl] at h2;exact aq (dB (g := g) (σ' := σ.mem (σ.μ.turn t.who t.obj t.w (bd t.w 0))) (t' := { t with at' := 20 }) (k := { k with a := 20, obj := t.obj, w := t.w, q := 1 }) (by simp only [ak, hat, hw]; rfl) (by simp [iM]) (aB (σ := σ) hg (by rw [hobj, hw0] at hturn; exact hturn) rfl) h2.to)
 ·rw [if_pos (by rw [hobj, hw0, hw])] at h2
  rw [hobj, hw0, ha, if_pos rfl] at h2;exact aq (dB (g := { g with pv := v }) (σ' := (σ.mem (σ.μ.turn t.who t.obj t.w (bd t.w 0))).note now t.who 0) (t' := { t with at' := 14, code := 0 }) (k := { k with a := 14, obj := t.obj, w := t.w, q := 1, code := 0 }) (by simp only [ak, hat, hw]; rfl) (by simp [iM]) (dJ (σ := σ) hg (by rw [hobj, hw0] at hturn; exact hturn) rfl) h2.to)
theorem adG (S : SOk σ) (T : hU σ t) (hat : t.at' = 10) : Sp eI [vp x, vi now] (xP x P σ t) (fun _ : Unit => vb (ak σ t now).2.2) (fun _ => xQ x P (ak σ t now)) := by
 have hN : σ.μ.N < 1099511627000 := by have := S.N; omega
 refine aP fun R H h => ?_;obtain ⟨k, g, hR, hg, h0⟩ := cV h;have hl := hg.1;simp only [iM, hat] at hR;obtain ⟨ha, hobj, hw0, hq, hcode⟩ := hR;have ho := T.obj (.inl (by omega))
 have hob : k.obj < σ.obs.length := by omega
 obtain ⟨b, hb⟩ : ∃ b, g.rp[k.obj]? = some b := ⟨_, cS (by omega)⟩;refine ca x P g σ t k now S T (by omega) h0 fun b1 H1 h1 => ?_;refine ai1 (by omega) ?_;refine aa (bk (by omega)) ?_;refine gs ?_;refine ah (vY ..) ?_;refine gs ?_;refine ag h1 (j7 x P g σ t k hl b hob hb) fun _ H2 h2 => ?_;refine bz ac ?_;refine aR h2 rfl ?_;refine aH h1 h2 (by rfl) ?_;refine ag h2 (yW x P t k (by rw [hw0]; exact T.w)) fun _ H3 h3 => ?_;refine aH h3 h2 (by rfl) ?_;refine aJ h3 ?_;refine dA h1 h3 rfl ?_;refine dA h2 h3 rfl ?_;refine ag h3 (Ik (p := P) (μ' := σ.μ.acc t.who 6 (16, (k.obj : Int), ((aL k.w % (au σ k.obj).length : Nat) : Int))) (by simp) hl hob hb (Ih g.m k.obj b (au σ k.obj) σ.μ t.who (aL k.w) ⟨t.x.flow, t.x.a, t.x.b⟩ (S.cells _ hob) hN)) fun _ H4 h4 => ?_;refine bi h4 ac rfl rfl fun H5 h5 => ?_;refine aj h5 ac rfl ?_;refine aa (aG (by omega)) ?_;refine gs ?_;refine ah (cB ..) ?_;have e1 := Cq σ t;rw [hobj, hw0, ← e1] at h5;exact aq (dB (g := g) (σ' := px σ t) (t' := { t with at' := 11 }) (k := { k with a := 11, obj := t.obj, w := t.w }) (by simp only [ak, hat]) (by simp [iM, hcode]) (aB (σ := σ) hg (by simp) (jD σ t)) h5.to)
theorem adK (S : SOk σ) (T : hU σ t) (hat : t.at' = 14) : Sp eI [vp x, vi now] (xP x P σ t) (fun _ : Unit => vb (ak σ t now).2.2) (fun _ => xQ x P (ak σ t now)) := by
 have hN : σ.μ.N < 1099511627000 := by have := S.N; omega
 refine aP fun R H h => ?_;obtain ⟨k, g, hR, hg, h0⟩ := cV h;have hl := hg.1;simp only [iM, hat] at hR;obtain ⟨ha, hobj, hw0, hq, hcode⟩ := hR;have ho := T.obj (.inl (by omega))
 have hob : k.obj < σ.obs.length := by omega
 obtain ⟨b, hb⟩ : ∃ b, g.rp[k.obj]? = some b := ⟨_, cS (by omega)⟩;refine ca x P g σ t k now S T (by omega) h0 fun b1 H1 h1 => ?_;refine ai1 (by omega) ?_;refine aa (aG (by omega)) ?_;refine gs ?_;refine aa (bk (by omega)) ?_;refine ah (vY ..) ?_;refine gs ?_;refine ag h1 (j7 x P g σ t k hl b hob hb) fun _ H2 h2 => ?_;refine bz ac ?_;refine aR h2 rfl ?_;refine aH h1 h2 (by rfl) ?_;refine ag h2 (yW x P t k (by rw [hw0]; exact T.w)) fun _ H3 h3 => ?_;refine aH h3 h2 (by rfl) ?_;refine aJ h3 ?_;refine dA h1 h3 rfl ?_;refine dA h2 h3 rfl ?_;refine ag h3 (Ik (p := P) (μ' := σ.μ.acc t.who 6 (16, (k.obj : Int), ((aL k.w % (au σ k.obj).length : Nat) : Int))) (by simp) hl hob hb (Ih g.m k.obj b (au σ k.obj) σ.μ t.who (aL k.w) ⟨t.x.flow, t.x.a, t.x.b⟩ (S.cells _ hob) hN)) fun _ H4 h4 => ?_;refine bi h4 ac rfl rfl fun H5 h5 => ?_;refine aj h5 ac rfl ?_;refine aa (bk (by omega)) ?_;refine gs ?_;refine bi h5 ac rfl rfl fun H6 h6 => ?_;refine ah (cB ..) ?_;have e1 := Cq σ t;rw [hobj, hw0, ← e1] at h6;exact aq (dB (g := g) (σ' := px σ t) (t' := { t with at' := 21 }) (k := { k with a := 21, obj := t.obj, w := t.w }) (by simp only [ak, hat]) (by simp [iM, hcode]) (aB (σ := σ) hg (by simp) (jD σ t)) h6.to)
theorem adH (S : SOk σ) (T : hU σ t) (hat : t.at' = 11) : Sp eI [vp x, vi now] (xP x P σ t) (fun _ : Unit => vb (ak σ t now).2.2) (fun _ => xQ x P (ak σ t now)) := by
 have hN : σ.μ.N < 1099511627000 := by have := S.N; omega
 refine aP fun R H h => ?_;obtain ⟨k, g, hR, hg, h0⟩ := cV h;have hl := hg.1;simp only [iM, hat] at hR;obtain ⟨ha, hobj, hw0, hcode⟩ := hR;have ho := T.obj (.inl (by omega))
 have hob : k.obj < σ.obs.length := by omega
 obtain ⟨b, hb⟩ : ∃ b, g.rp[k.obj]? = some b := ⟨_, cS (by omega)⟩;refine ca x P g σ t k now S T (by omega) h0 fun b1 H1 h1 => ?_;refine ai2 (by omega) ?_;refine aa (bk (by omega)) ?_;refine ah (vZ ..) ?_;refine gs ?_;refine ag h1 (j7 x P g σ t k hl b hob hb) fun _ H2 h2 => ?_;refine bz ac ?_;refine aR h2 rfl ?_;refine aH h1 h2 (by rfl) ?_;refine ag h2 (yW x P t k (by rw [hw0]; exact T.w)) fun _ H3 h3 => ?_;refine aH h3 h2 (by rfl) ?_;have hwc := eV k.w;refine ag h3 (mK (p := P) (μ' := (σ.μ.acc t.who 2 (15, (k.obj : Int), ((aL k.w % (au σ k.obj).length : Nat) : Int))).put (15, (k.obj : Int), ((aL k.w % (au σ k.obj).length : Nat) : Int)) (aL k.w + 1)) (by simp) hl hob hb (FU g.m k.obj b (au σ k.obj) σ.μ t.who (aL k.w) (by omega) (S.cells _ hob) hN)) fun _ H4 h4 => ?_;rw [hobj, hw0] at h4;exact aq (FQ (g := g) (k := k) (σ' := s0 σ t) (t' := t) (by simp only [ak, hat]) hcode (aB (σ := σ) hg (by simp) rfl) h4.to)
theorem adI (S : SOk σ) (T : hU σ t) (hat : t.at' = 12) : Sp eI [vp x, vi now] (xP x P σ t) (fun _ : Unit => vb (ak σ t now).2.2) (fun _ => xQ x P (ak σ t now)) := by
 have hN : σ.μ.N < 1099511627000 := by have := S.N; omega
 refine aP fun R H h => ?_;obtain ⟨k, g, hR, hg, h0⟩ := cV h;have hl := hg.1;simp only [iM, hat] at hR;obtain ⟨ha, hobj, hw0⟩ := hR;have ho := T.obj (.inl (by omega))
 have hob : k.obj < σ.obs.length := by omega
 obtain ⟨b, hb⟩ : ∃ b, g.rp[k.obj]? = some b := ⟨_, cS (by omega)⟩;refine ca x P g σ t k now S T (by omega) h0 fun b1 H1 h1 => ?_;refine ai2 (by omega) ?_;refine aa (aG (by omega)) ?_;refine ah (vZ ..) ?_;refine gs ?_;refine aa (bk (by omega)) ?_;refine ah (E8 ..) ?_;refine gs ?_;refine aj h1 ac rfl ?_;refine aj h1 ac rfl ?_;refine ag h1 (yZ (p := P) (g := g) (σ := σ) (μ' := σ.μ.cnt t.who (3, 0, 0) 4294967296) (L := σ.μ.N) (by simp) (KI g.ib g.m σ.c.sh σ.nx σ.μ.N σ.μ t.who hN)) fun _ H2 h2 => ?_;refine bi h2 ac rfl rfl fun H3 h3 => ?_;refine ah (cB ..) ?_;exact aq (dB (g := g) (σ' := σ.mem (σ.μ.cnt t.who (3, 0, 0) 4294967296)) (t' := { t with at' := 13 }) (k := { k with a := 13 }) (by simp only [ak, hat]) (by simp [iM, hobj, hw0]) (aB (σ := σ) hg (by simp) rfl) h3.to)
theorem adL (S : SOk σ) (T : hU σ t) (hat : t.at' = 15) : Sp eI [vp x, vi now] (xP x P σ t) (fun _ : Unit => vb (ak σ t now).2.2) (fun _ => xQ x P (ak σ t now)) := by
 have hN : σ.μ.N < 1099511627000 := by have := S.N; omega
 refine aP fun R H h => ?_;obtain ⟨k, g, hR, hg, h0⟩ := cV h;have hl := hg.1;simp only [iM, hat] at hR;obtain ⟨ha, hobj⟩ := hR;have ho := T.obj (.inl (by omega))
 have hob : k.obj < σ.obs.length := by omega
 obtain ⟨b, hb⟩ : ∃ b, g.rp[k.obj]? = some b := ⟨_, cS (by omega)⟩;refine ca x P g σ t k now S T (by omega) h0 fun b1 H1 h1 => ?_;refine XJ (by omega) ?_;refine aa (bk (by omega)) ?_;refine gs ?_;refine ah (nB ..) ?_;refine gs ?_;refine oY ?_;refine bg (fun r => Kj _ _ H1) ?_;refine ah (tR ..) ?_;refine aj h1 ac rfl ?_;refine ah (tS ..) ?_;refine aa (bk (by omega)) ?_;refine gs ?_;refine aj h1 ac rfl ?_;refine aj h1 ac rfl ?_;refine ag h1 (qw P g σ t.who S.N) fun _ H2 h2 => ?_;refine bi h2 ac rfl rfl fun H3 h3 => ?_;refine bi h3 ac rfl rfl fun H4 h4 => ?_;refine aj h4 ac rfl ?_;refine aa (HJ 2 (by omega)) ?_
 by_cases hw : σ.μ.V (2, 0, 0) % 2 = 1
 ·refine aa (bk (show ((σ.μ.V (2, 0, 0) % 2 : Nat) : Int) = 1 by omega)) ?_
  refine gs ?_;refine bi h4 ac rfl rfl fun H5 h5 => ?_;refine ah (kN ..) ?_;exact aq (dB (g := g) (σ' := eL σ t) (t' := { t with at' := 7, q := σ.μ.V (2, 0, 0) }) (k := { k with a := 7, q := σ.μ.V (2, 0, 0) }) (by simp only [ak, hat]; rw [if_pos hw]) (by simp [iM, hobj]) (aB (σ := σ) hg (by simp) rfl) h5.to)
 ·refine aa (aG (show ¬ ((σ.μ.V (2, 0, 0) % 2 : Nat) : Int) = 1 by omega)) ?_
  refine gs ?_;refine ah (kN ..) ?_;exact aq (dB (g := g) (σ' := eL σ t) (t' := { t with at' := 16, q := σ.μ.V (2, 0, 0) }) (k := { k with a := 16, q := σ.μ.V (2, 0, 0) }) (by simp only [ak, hat]; rw [if_neg hw]) (by simp [iM, hobj]) (aB (σ := σ) hg (by simp) rfl) h4.to)
theorem adM (S : SOk σ) (T : hU σ t) (hat : t.at' = 16) : Sp eI [vp x, vi now] (xP x P σ t) (fun _ : Unit => vb (ak σ t now).2.2) (fun _ => xQ x P (ak σ t now)) := by
 have hN : σ.μ.N < 1099511627000 := by have := S.N; omega
 refine aP fun R H h => ?_;obtain ⟨k, g, hR, hg, h0⟩ := cV h;have hl := hg.1;simp only [iM, hat] at hR;obtain ⟨ha, hobj, hq⟩ := hR;have ho := T.obj (.inl (by omega))
 have hob : k.obj < σ.obs.length := by omega
 obtain ⟨b, hb⟩ : ∃ b, g.rp[k.obj]? = some b := ⟨_, cS (by omega)⟩;refine ca x P g σ t k now S T (by omega) h0 fun b1 H1 h1 => ?_;refine XJ (by omega) ?_;refine aa (aG (by omega)) ?_;refine gs ?_;refine aa (bk (by omega)) ?_;refine gs ?_;refine ah (nB ..) ?_;refine gs ?_;refine oY ?_;refine bg (fun r => Kj _ _ H1) ?_;refine ah (tR ..) ?_;refine aj h1 ac rfl ?_;refine ah (tS ..) ?_;refine aa (aG (by omega)) ?_;refine gs ?_;refine aa (bk (by omega)) ?_;refine gs ?_;refine bi h1 ac rfl rfl fun H2 h2 => ?_;refine ag h2 (CC x P g σ t { k with a := 17 } S hl b hob hb) fun _ H3 h3 => ?_;dsimp only at h3;rw [hobj] at h3
 by_cases hw : aZ (σ.μ.V (11, (t.obj : Int), 0)) = 2
 ·refine aa (bk (by rw [hobj]; exact hw)) ?_
  refine gs ?_;refine bi h3 ac rfl rfl fun H4 h4 => ?_;refine ah (kN ..) ?_;exact aq (dB (g := g) (σ' := dg σ t) (t' := { t with at' := 3, w := σ.μ.V (11, (t.obj : Int), 0) }) (k := { k with a := 3, obj := t.obj, w := σ.μ.V (11, (t.obj : Int), 0) }) (by simp only [ak, hat]; rw [if_pos hw]) (by simp [iM]) (aB (σ := σ) hg (by simp) rfl) h4.to)
 ·refine aa (aG (by rw [hobj]; exact hw)) ?_
  refine gs ?_;refine ah (kN ..) ?_;exact aq (dB (g := g) (σ' := dg σ t) (t' := { t with at' := 17, w := σ.μ.V (11, (t.obj : Int), 0) }) (k := { k with a := 17, obj := t.obj, w := σ.μ.V (11, (t.obj : Int), 0) }) (by simp only [ak, hat]; rw [if_neg hw]) (by simp [iM, hq]) (aB (σ := σ) hg (by simp) rfl) h3.to)
theorem adN (S : SOk σ) (T : hU σ t) (hat : t.at' = 17) : Sp eI [vp x, vi now] (xP x P σ t) (fun _ : Unit => vb (ak σ t now).2.2) (fun _ => xQ x P (ak σ t now)) := by
 have hN : σ.μ.N < 1099511627000 := by have := S.N; omega
 refine aP fun R H h => ?_;obtain ⟨k, g, hR, hg, h0⟩ := cV h;have hl := hg.1;simp only [iM, hat] at hR;obtain ⟨ha, hobj, hw0, hq⟩ := hR;have ho := T.obj (.inl (by omega))
 have hob : k.obj < σ.obs.length := by omega
 obtain ⟨b, hb⟩ : ∃ b, g.rp[k.obj]? = some b := ⟨_, cS (by omega)⟩;refine ca x P g σ t k now S T (by omega) h0 fun b1 H1 h1 => ?_;refine XJ (by omega) ?_;refine aa (aG (by omega)) ?_;refine gs ?_;refine aa (aG (by omega)) ?_;refine gs ?_;refine aa (bk (by omega)) ?_;refine gs ?_;refine ah (nB ..) ?_;refine gs ?_;refine oY ?_;refine bg (fun r => Kj _ _ H1) ?_;refine ah (tR ..) ?_;refine aj h1 ac rfl ?_;refine ah (tS ..) ?_;refine aa (aG (by omega)) ?_;refine gs ?_;refine aa (aG (by omega)) ?_;refine gs ?_;refine aa (bk (by omega)) ?_;refine gs ?_;refine ag h1 (j7 x P g σ t k hl b hob hb) fun _ H2 h2 => ?_;refine bz ac ?_;refine aR h2 rfl ?_;refine aH h1 h2 (by rfl) ?_;refine ag h2 (mK (p := P) (μ' := σ.μ.acc t.who 1 (12, (k.obj : Int), 0)) (by simp) hl hob hb (FT g.m k.obj b (au σ k.obj) σ.μ t.who hN)) fun _ H3 h3 => ?_;refine bi h3 ac rfl rfl fun H4 h4 => ?_;refine bi h4 ac rfl rfl fun H5 h5 => ?_;refine bi h5 ac rfl rfl fun H6 h6 => ?_;refine ag h6 (j7 x P g (σ.mem (σ.μ.acc t.who 1 (12, (k.obj : Int), 0))) t { k with h := σ.μ.V (12, (k.obj : Int), 0), mark := now, a := 18 } hl b hob hb) fun _ H7 h7 => ?_;refine bz ac ?_;refine aR h7 rfl ?_;refine aH h6 h7 (by rfl) ?_;refine bz ac ?_;refine aR h7 rfl ?_;refine aH h6 h7 (by rfl) ?_;refine ag h7 (KT (p := P) (σ := σ.mem (σ.μ.acc t.who 1 (12, (k.obj : Int), 0))) hl hob hb (FS g.m k.obj b (au σ k.obj) k.w (σ.μ.V (12, (k.obj : Int), 0)) (by rw [hw0]; exact T.w) (S.cells _ hob).2)) fun _ H8 h8 => ?_;rw [hobj, hw0] at h8;rw [hobj, hw0];cases hf : gG t.w (σ.μ.V (12, (t.obj : Int), 0)) (au σ t.obj).length
 ·refine gs ?_
  rw [Bool.not_false];refine gs ?_;refine bi h8 ac rfl rfl fun H9 h9 => ?_;refine ah (kN ..) ?_;exact aq (dB (g := g) (σ' := jA σ t) (t' := { t with at' := 7 }) (k := { k with a := 7, obj := t.obj, w := t.w, h := σ.μ.V (12, (t.obj : Int), 0), mark := now }) (by simp only [ak, hat, j9, hf]; rfl) (by simp [iM]) (aB (σ := σ) hg (by simp) rfl) h9.to)
 ·refine gs ?_
  rw [Bool.not_true];refine gs ?_;refine ah (kN ..) ?_;exact aq (dB (g := g) (σ' := jA σ t) (t' := { t with at' := 18, mark := now }) (k := { k with a := 18, obj := t.obj, w := t.w, h := σ.μ.V (12, (t.obj : Int), 0), mark := now }) (by simp only [ak, hat, j9, hf]; rfl) (by simp [iM, hq]) (aB (σ := σ) hg (by simp) rfl) h8.to)
theorem adO (S : SOk σ) (T : hU σ t) (hat : t.at' = 18) : Sp eI [vp x, vi now] (xP x P σ t) (fun _ : Unit => vb (ak σ t now).2.2) (fun _ => xQ x P (ak σ t now)) := by
 have hN : σ.μ.N < 1099511627000 := by have := S.N; omega
 refine aP fun R H h => ?_;obtain ⟨k, g, hR, hg, h0⟩ := cV h;have hl := hg.1;simp only [iM, hat] at hR;obtain ⟨ha, hobj, hq, hm⟩ := hR;have ho := T.obj (.inl (by omega))
 have hob : k.obj < σ.obs.length := by omega
 obtain ⟨b, hb⟩ : ∃ b, g.rp[k.obj]? = some b := ⟨_, cS (by omega)⟩;refine ca x P g σ t k now S T (by omega) h0 fun b1 H1 h1 => ?_;refine XJ (by omega) ?_;refine aa (aG (by omega)) ?_;refine gs ?_;refine aa (aG (by omega)) ?_;refine gs ?_;refine aa (aG (by omega)) ?_;refine gs ?_;refine aa (bk (by omega)) ?_;refine ah (nB ..) ?_;refine gs ?_;refine oY ?_;refine bg (fun r => Kj _ _ H1) ?_;refine ah (tR ..) ?_;refine aj h1 ac rfl ?_;refine ah (tS ..) ?_;refine aa (aG (by omega)) ?_;refine gs ?_;refine aa (aG (by omega)) ?_;refine gs ?_;refine aa (aG (by omega)) ?_;refine gs ?_;refine aa (bk (by omega)) ?_;refine gs ?_;refine aj h1 ac rfl ?_;refine aj h1 ac rfl ?_;refine ag h1 (qw P g σ t.who S.N) fun _ H2 h2 => ?_;refine bz ac ?_;refine aR h2 rfl ?_;refine aH h1 h2 (by rfl) ?_
 by_cases hw : σ.μ.V (2, 0, 0) = t.q
 ·refine aa (bk (show ((σ.μ.V (2, 0, 0) : Nat) : Int) = (k.q : Int) by omega)) ?_
  refine gs ?_;refine aj h2 ac rfl ?_;rw [hm];refine ag h2 (j6 x P g (eL σ t) t k (aB (σ := σ) hg (by simp) rfl) t.mark 9 (by have := S.N; show σ.μ.N + 2 < _; omega) S.pts) fun v H3 h3 => ?_;exact aq (FQ (g := { g with pv := v }) (k := { k with code := 9 }) (σ' := (eL σ t).note t.mark t.who 9) (t' := { t with code := 9 }) (by simp only [ak, hat]; rw [if_pos hw]) rfl (dJ (σ := σ) hg (by simp) rfl) h3.to)
 ·refine aa (aG (show ¬ ((σ.μ.V (2, 0, 0) : Nat) : Int) = (k.q : Int) by omega)) ?_
  refine gs ?_;refine bi h2 ac rfl rfl fun H3 h3 => ?_;refine ah (kN ..) ?_;exact aq (dB (g := g) (σ' := eL σ t) (t' := { t with at' := 7 }) (k := { k with a := 7 }) (by simp only [ak, hat]; rw [if_neg hw]) (by simp [iM, hobj]) (aB (σ := σ) hg (by simp) rfl) h3.to)
theorem adP (S : SOk σ) (T : hU σ t) (hat : t.at' = 20) : Sp eI [vp x, vi now] (xP x P σ t) (fun _ : Unit => vb (ak σ t now).2.2) (fun _ => xQ x P (ak σ t now)) := by
 have hN : σ.μ.N < 1099511627000 := by have := S.N; omega
 refine aP fun R H h => ?_;obtain ⟨k, g, hR, hg, h0⟩ := cV h;have hl := hg.1;simp only [iM, hat] at hR;obtain ⟨ha, hobj⟩ := hR;have ho := T.obj (.inl (by omega))
 have hob : k.obj < σ.obs.length := by omega
 obtain ⟨b, hb⟩ : ∃ b, g.rp[k.obj]? = some b := ⟨_, cS (by omega)⟩;refine ca x P g σ t k now S T (by omega) h0 fun b1 H1 h1 => ?_;refine chw (by omega) ?_;refine oY ?_;refine bg (fun r => z6 _ _ H1) ?_;refine aj h1 ac rfl ?_;refine ah (mC ..) ?_;refine aj h1 ac rfl ?_;refine ah (mE ..) ?_;refine aa (bk (by omega)) ?_;refine gs ?_;refine aj h1 ac rfl ?_;refine aj h1 ac rfl ?_;refine ag h1 (yZ (p := P) (g := g) (σ := σ) (μ' := σ.μ.cnt t.who (3, 0, 0) 1) (L := σ.μ.N) (by simp) (FR g.ib g.m σ.c.sh σ.nx σ.μ.N σ.μ t.who hN)) fun _ H2 h2 => ?_;refine bi h2 ac rfl rfl fun H3 h3 => ?_;refine ah (mD ..) ?_;exact aq (dB (g := g) (σ' := σ.mem (σ.μ.cnt t.who (3, 0, 0) 1)) (t' := { t with at' := 7 }) (k := { k with a := 7 }) (by simp only [ak, hat]) (by simp [iM, hobj]) (aB (σ := σ) hg (by simp) rfl) h3.to)
theorem adQ (S : SOk σ) (T : hU σ t) (hat : t.at' = 21) : Sp eI [vp x, vi now] (xP x P σ t) (fun _ : Unit => vb (ak σ t now).2.2) (fun _ => xQ x P (ak σ t now)) := by
 have hN : σ.μ.N < 1099511627000 := by have := S.N; omega
 refine aP fun R H h => ?_;obtain ⟨k, g, hR, hg, h0⟩ := cV h;have hl := hg.1;simp only [iM, hat] at hR;obtain ⟨ha, hobj, hw0, hcode⟩ := hR;have ho := T.obj (.inl (by omega))
 have hob : k.obj < σ.obs.length := by omega
 obtain ⟨b, hb⟩ : ∃ b, g.rp[k.obj]? = some b := ⟨_, cS (by omega)⟩;refine ca x P g σ t k now S T (by omega) h0 fun b1 H1 h1 => ?_;refine chw (by omega) ?_;refine oY ?_;refine bg (fun r => z6 _ _ H1) ?_;refine aj h1 ac rfl ?_;refine ah (mC ..) ?_;refine aj h1 ac rfl ?_;refine ah (mE ..) ?_;refine aa (aG (by omega)) ?_;refine gs ?_;refine aa (bk (by omega)) ?_;refine gs ?_;refine ag h1 (j7 x P g σ t k hl b hob hb) fun _ H2 h2 => ?_;refine bz ac ?_;refine aR h2 rfl ?_;refine aH h1 h2 (by rfl) ?_;refine ag h2 (yW x P t k (by rw [hw0]; exact T.w)) fun _ H3 h3 => ?_;refine aH h3 h2 (by rfl) ?_;have hwc := eV k.w;refine ag h3 (mK (p := P) (μ' := (σ.μ.acc t.who 2 (15, (k.obj : Int), ((aL k.w % (au σ k.obj).length : Nat) : Int))).put (15, (k.obj : Int), ((aL k.w % (au σ k.obj).length : Nat) : Int)) (aL k.w + 1)) (by simp) hl hob hb (FU g.m k.obj b (au σ k.obj) σ.μ t.who (aL k.w) (by omega) (S.cells _ hob) hN)) fun _ H4 h4 => ?_;refine bi h4 ac rfl rfl fun H5 h5 => ?_;refine ah (mD ..) ?_;rw [hobj, hw0] at h5;exact aq (dB (g := g) (σ' := s0 σ t) (t' := { t with at' := 22 }) (k := { k with a := 22, obj := t.obj, w := t.w }) (by simp only [ak, hat]) (by simp [iM, hcode]) (aB (σ := σ) hg (by simp) rfl) h5.to)
theorem adR (S : SOk σ) (T : hU σ t) (hat : t.at' = 22) : Sp eI [vp x, vi now] (xP x P σ t) (fun _ : Unit => vb (ak σ t now).2.2) (fun _ => xQ x P (ak σ t now)) := by
 have hN : σ.μ.N < 1099511627000 := by have := S.N; omega
 refine aP fun R H h => ?_;obtain ⟨k, g, hR, hg, h0⟩ := cV h;have hl := hg.1;simp only [iM, hat] at hR;obtain ⟨ha, hobj, hcode⟩ := hR;have ho := T.obj (.inl (by omega))
 have hob : k.obj < σ.obs.length := by omega
 obtain ⟨b, hb⟩ : ∃ b, g.rp[k.obj]? = some b := ⟨_, cS (by omega)⟩;refine ca x P g σ t k now S T (by omega) h0 fun b1 H1 h1 => ?_;refine chw (by omega) ?_;refine oY ?_;refine bg (fun r => z6 _ _ H1) ?_;refine aj h1 ac rfl ?_;refine ah (mC ..) ?_;refine aj h1 ac rfl ?_;refine ah (mE ..) ?_;refine aa (aG (by omega)) ?_;refine gs ?_;refine aa (aG (by omega)) ?_;refine gs ?_;refine aa (bk (by omega)) ?_;refine gs ?_;refine aj h1 ac rfl ?_;refine aj h1 ac rfl ?_;refine ag h1 (yZ (p := P) (g := g) (σ := σ) (μ' := σ.μ.acc t.who 1 (9, t.s, 0)) (L := σ.μ.N) (by simp) (Ql g.ib g.m σ.c.sh σ.nx σ.μ.N σ.μ t.who t.s hN)) fun _ H2 h2 => ?_;refine bi h2 ac rfl rfl fun H3 h3 => ?_;refine bi h3 ac rfl rfl fun H4 h4 => ?_;refine ah (mD ..) ?_;exact aq (dB (g := g) (σ' := σ.mem (σ.μ.acc t.who 1 (9, t.s, 0))) (t' := { t with at' := 23, top := σ.μ.V (9, t.s, 0) }) (k := { k with a := 23, top := σ.μ.V (9, t.s, 0) }) (by simp only [ak, hat]) (by simp [iM, hobj, hcode]) (aB (σ := σ) hg (by simp) rfl) h4.to)
theorem adS (S : SOk σ) (T : hU σ t) (hat : t.at' = 23) : Sp eI [vp x, vi now] (xP x P σ t) (fun _ : Unit => vb (ak σ t now).2.2) (fun _ => xQ x P (ak σ t now)) := by
 have hN : σ.μ.N < 1099511627000 := by have := S.N; omega
 refine aP fun R H h => ?_;obtain ⟨k, g, hR, hg, h0⟩ := cV h;have hl := hg.1;simp only [iM, hat] at hR;obtain ⟨ha, hobj, htop, hcode⟩ := hR;have ho := T.obj (.inl (by omega))
 have hob : k.obj < σ.obs.length := by omega
 obtain ⟨b, hb⟩ : ∃ b, g.rp[k.obj]? = some b := ⟨_, cS (by omega)⟩;refine ca x P g σ t k now S T (by omega) h0 fun b1 H1 h1 => ?_;refine chw (by omega) ?_;refine oY ?_;refine bg (fun r => z6 _ _ H1) ?_;refine aj h1 ac rfl ?_;refine ah (mC ..) ?_;refine aj h1 ac rfl ?_;refine ah (mE ..) ?_;refine aa (aG (by omega)) ?_;refine gs ?_;refine aa (aG (by omega)) ?_;refine gs ?_;refine aa (aG (by omega)) ?_;refine gs ?_;refine aa (bk (by omega)) ?_;refine gs ?_;refine aj h1 ac rfl ?_;refine aj h1 ac rfl ?_;refine aj h1 ac rfl ?_;refine aj h1 ac rfl ?_;refine ag h1 (yZ (p := P) (g := g) (σ := σ) (μ' := σ.μ.acc t.who 6 (14, (k.obj : Int), 0)) (L := σ.μ.N + 1) (by simp) (Nh g.ib g.m σ.c.sh σ.nx σ.μ.N σ.μ t.who k.obj k.top (by have := S.N; omega) hN)) fun _ H2 h2 => ?_;refine bi h2 ac rfl rfl fun H3 h3 => ?_;refine ah (mD ..) ?_;rw [hobj, htop] at h3;exact aq (dB (g := g) (σ' := { σ with μ := σ.μ.acc t.who 6 (14, (t.obj : Int), 0), nx := fun k => if k = (t.obj : Int) then some t.top else σ.nx k }) (t' := { t with at' := 24 }) (k := { k with a := 24, obj := t.obj, top := t.top }) (by simp only [ak, hat]) (by simp [iM, hcode]) (aB (σ := σ) hg (by simp) rfl) h3.to)
theorem adT (S : SOk σ) (T : hU σ t) (hat : t.at' = 24) : Sp eI [vp x, vi now] (xP x P σ t) (fun _ : Unit => vb (ak σ t now).2.2) (fun _ => xQ x P (ak σ t now)) := by
 have hN : σ.μ.N < 1099511627000 := by have := S.N; omega
 refine aP fun R H h => ?_;obtain ⟨k, g, hR, hg, h0⟩ := cV h;have hl := hg.1;simp only [iM, hat] at hR;obtain ⟨ha, hobj, htop, hcode⟩ := hR;have ho := T.obj (.inl (by omega))
 have hob : k.obj < σ.obs.length := by omega
 obtain ⟨b, hb⟩ : ∃ b, g.rp[k.obj]? = some b := ⟨_, cS (by omega)⟩;refine ca x P g σ t k now S T (by omega) h0 fun b1 H1 h1 => ?_;refine chw (by omega) ?_;refine oY ?_;refine bg (fun r => z6 _ _ H1) ?_;refine aj h1 ac rfl ?_;refine ah (mC ..) ?_;refine aj h1 ac rfl ?_;refine ah (mE ..) ?_;refine aa (aG (by omega)) ?_;refine gs ?_;refine aa (aG (by omega)) ?_;refine gs ?_;refine aa (aG (by omega)) ?_;refine gs ?_;refine aa (aG (by omega)) ?_;refine gs ?_;refine aa (bk (by omega)) ?_;refine gs ?_;refine bi h1 ac rfl rfl fun H2 h2 => ?_;refine aj h2 ac rfl ?_;refine aj h2 ac rfl ?_;refine aj h2 ac rfl ?_;refine aj h2 ac rfl ?_;refine ag h2 (yZ (p := P) (g := g) (σ := σ) (μ' := σ.μ.swp t.who (9, t.s, 0) k.top (k.obj + 1)) (L := σ.μ.N) (by simp) (Ni g.ib g.m σ.c.sh σ.nx σ.μ.N σ.μ t.who t.s k.top k.obj (by have := S.obs; omega) hN)) fun _ H3 h3 => ?_;rw [hobj, htop] at h3;rw [htop]
 by_cases hw : σ.μ.V (9, t.s, 0) = t.top
 ·rw [dj hw]
  refine gs ?_;refine bi h3 ac rfl rfl fun H4 h4 => ?_;refine ah (mD ..) ?_;exact aq (dB (g := g) (σ' := σ.mem (σ.μ.swp t.who (9, t.s, 0) t.top (t.obj + 1))) (t' := { t with at' := 25 }) (k := { k with a := 25, obj := t.obj, top := t.top }) (by simp only [ak, hat]; rw [if_pos hw]) (by simp [iM, hcode]) (aB (σ := σ) hg (by simp) rfl) h4.to)
 ·rw [dP hw]
  refine gs ?_;refine ah (mD ..) ?_;exact aq (dB (g := g) (σ' := σ.mem (σ.μ.swp t.who (9, t.s, 0) t.top (t.obj + 1))) (t' := { t with at' := 22 }) (k := { k with a := 22, obj := t.obj, top := t.top }) (by simp only [ak, hat]; rw [if_neg hw]) (by simp [iM, hcode]) (aB (σ := σ) hg (by simp) rfl) h3.to)
theorem adU (S : SOk σ) (T : hU σ t) (hat : t.at' = 25) : Sp eI [vp x, vi now] (xP x P σ t) (fun _ : Unit => vb (ak σ t now).2.2) (fun _ => xQ x P (ak σ t now)) := by
 have hN : σ.μ.N < 1099511627000 := by have := S.N; omega
 refine aP fun R H h => ?_;obtain ⟨k, g, hR, hg, h0⟩ := cV h;have hl := hg.1;simp only [iM, hat] at hR;obtain ⟨ha, hcode⟩ := hR;refine ca x P g σ t k now S T (by omega) h0 fun b1 H1 h1 => ?_;refine chw (by omega) ?_;refine oY ?_;refine bg (fun r => z6 _ _ H1) ?_;refine aj h1 ac rfl ?_;refine ah (mC ..) ?_;refine aj h1 ac rfl ?_;refine ah (mE ..) ?_;refine aa (aG (by omega)) ?_;refine gs ?_;refine aa (aG (by omega)) ?_;refine gs ?_;refine aa (aG (by omega)) ?_;refine gs ?_;refine aa (aG (by omega)) ?_;refine gs ?_;refine aa (aG (by omega)) ?_;refine gs ?_;refine aa (bk (by omega)) ?_;refine gs ?_;refine aj h1 ac rfl ?_;refine aj h1 ac rfl ?_;refine ag h1 (yZ (p := P) (g := g) (σ := σ) (μ' := σ.μ.cnt t.who (3, 0, 0) 1) (L := σ.μ.N) (by simp) (FR g.ib g.m σ.c.sh σ.nx σ.μ.N σ.μ t.who hN)) fun _ H2 h2 => ?_;exact aq (FQ (g := g) (k := k) (σ' := σ.mem (σ.μ.cnt t.who (3, 0, 0) 1)) (t' := t) (by simp only [ak, hat]) hcode (aB (σ := σ) hg (by simp) rfl) h2.to)
theorem adF {R : SP} {H1 : AH} {b1 : Nat} {sv : Value} (g : XIds) (k : Xk) (S : SOk σ) (T : hU σ t) (hg : fp g σ) (ha : k.a = 2) (hI : k.I = t.i) (hh : k.hit = false) (hi : (t.i : Int) < σ.c.sl)
 (h1 : ae (blk b1 (.cells false [vi t.x.flow, vi t.x.a, vi t.x.b]) * (xB x P t k * (ax P g σ * R))) H1) :
 wp (PG (vp x) (vi now) (vb false) (vp P) sv (vp b1) (vi k.a) (vb true) H1) fun v' H' => ∃ y : Unit, v' = vb (gO σ t).2.2 ∧ ae (xQ x P (gO σ t) * R) H' := by
 refine ah (pN ..) ?_;refine gs ?_;refine ag h1 (TC x P g σ t k S T hI hi) fun k2 H2 h2 => ?_;rw [ai, ae.pu] at h2;obtain ⟨hX, h2⟩ := h2;obtain ⟨x1, x2, x3, x4, x5, x6, x7, x8⟩ := hX;refine aa (v := vb (aW σ t).found) rfl ?_;refine aa (v := vb (!(aW σ t).found && bK σ (aW σ t))) rfl ?_;cases hf : (aW σ t).found
 ·obtain ⟨y1, y2⟩ := x8 hf
  refine gs ?_;rw [Bool.not_false, Bool.true_and];cases hla : bK σ (aW σ t)
  ·refine gs ?_
   refine ah (cB ..) ?_;exact aq (dB (g := g) (k := k2) (σ' := ba σ t) (t' := { aW σ t with at' := 2 }) (by simp only [gO, hf, hla]; rfl) (by simp [iM, x1, ha, y1, y2, hh, hI, aW]) (aB (σ := σ) hg (by simp) rfl) (show ae (xB x P t k2 * (ax P g (ba σ t) * R)) H2 from h2.to))
  ·refine gs ?_
   refine bi h2 ac rfl rfl fun H3 h3 => ?_;refine ah (cB ..) ?_;exact aq (dB (g := g) (k := { k2 with a := 3 }) (σ' := ba σ t) (t' := { aW σ t with at' := 3 }) (by simp only [gO, hf, hla]; rfl) (by simp [iM]) (aB (σ := σ) hg (by simp) rfl) (show ae (xB x P t { k2 with a := 3 } * (ax P g (ba σ t) * R)) H3 from h3.to))
 ·obtain ⟨y1, y2⟩ := x7 hf
  refine gs ?_;refine bi h2 ac rfl rfl fun H3 h3 => ?_;refine ah (cB ..) ?_;exact aq (dB (g := g) (k := { k2 with a := 6 }) (σ' := ba σ t) (t' := { aW σ t with at' := 6 }) (by simp only [gO, hf]; rfl) (by simp [iM, y2]) (aB (σ := σ) hg (by simp) rfl) (show ae (xB x P t { k2 with a := 6 } * (ax P g (ba σ t) * R)) H3 from h3.to))
theorem ag9 (S : SOk σ) (T : hU σ t) (hat : t.at' = 2) : Sp eI [vp x, vi now] (xP x P σ t) (fun _ : Unit => vb (ak σ t now).2.2) (fun _ => xQ x P (ak σ t now)) := by
 have hN : σ.μ.N < 1099511627000 := by have := S.N; omega
 refine aP fun R H h => ?_;obtain ⟨k, g, hR, hg, h0⟩ := cV h;have hl := hg.1;simp only [iM, hat] at hR;obtain ⟨ha, hI, hh⟩ := hR;have hi := T.i (by omega) (by omega)
 have hs : ak σ t now = gO σ t := by simp only [ak, hat, gO]
 rw [hs];refine ca x P g σ t k now S T (by omega) h0 fun b1 H1 h1 => ?_;refine ah (mB ..) ?_;refine aa (bk (by omega)) ?_;exact adF x P σ t now g k S T hg ha hI hh hi h1
theorem ahB (S : SOk σ) (T : hU σ t) (hat : t.at' = 4) : Sp eI [vp x, vi now] (xP x P σ t) (fun _ : Unit => vb (ak σ t now).2.2) (fun _ => xQ x P (ak σ t now)) := by
 have hN : σ.μ.N < 1099511627000 := by have := S.N; omega
 refine aP fun R H h => ?_;obtain ⟨k, g, hR, hg, h0⟩ := cV h;have hl := hg.1;simp only [iM, hat] at hR;obtain ⟨ha, hI, hh⟩ := hR;have hi := T.i (by omega) (by omega);refine ca x P g σ t k now S T (by omega) h0 fun b1 H1 h1 => ?_;refine ah (mB ..) ?_;refine aa (aG (by omega)) ?_;refine ah (pN ..) ?_;refine gs ?_;refine aa (aG (by omega)) ?_;refine ah (qo ..) ?_;refine gs ?_;refine aa (bk (by omega)) ?_;refine ah (vV ..) ?_;refine gs ?_;refine ag h1 (TC x P g σ t k S T hI hi) fun k2 H2 h2 => ?_;rw [ai, ae.pu] at h2;obtain ⟨hX, h2⟩ := h2;obtain ⟨x1, x2, x3, x4, x5, x6, x7, x8⟩ := hX;refine aa (v := vb (aW σ t).found) rfl ?_;refine aa (v := vb (!(aW σ t).found && bK σ (aW σ t))) rfl ?_;cases hf : (aW σ t).found
 ·obtain ⟨y1, y2⟩ := x8 hf
  refine gs ?_;rw [Bool.not_false, Bool.true_and];cases hla : bK σ (aW σ t)
  ·refine gs ?_
   refine ah (cB ..) ?_;exact aq (dB (g := g) (k := k2) (σ' := ba σ t) (t' := aW σ t) (by simp only [ak, hat, hf, hla]; rfl) (by simp [iM, x1, ha, y1, y2, hh, hI, aW, hat]) (aB (σ := σ) hg (by simp) rfl) (show ae (xB x P t k2 * (ax P g (ba σ t) * R)) H2 from h2.to))
  ·refine gs ?_
   refine ag h2 (j6 x P g (ba σ t) t k2 (aB (σ := σ) hg (by simp) rfl) now 5 (by have := S.N; show σ.μ.N + 2 < _; omega) S.pts) fun v H3 h3 => ?_;refine bi h3 ac rfl rfl fun H4 h4 => ?_;refine ah (cB ..) ?_;exact aq (dB (g := { g with pv := v }) (k := { k2 with a := 5, code := 5 }) (σ' := (ba σ t).note now t.who 5) (t' := { aW σ t with at' := 5, code := 5 }) (by simp only [ak, hat, hf, hla]; rfl) (by simp [iM, hf, y1, hh]) (dJ (σ := σ) hg (by simp) rfl) (show ae (xB x P t { k2 with a := 5, code := 5 } * (ax P { g with pv := v } ((ba σ t).note now t.who 5) * R)) H4 from h4.to))
 ·obtain ⟨y1, y2⟩ := x7 hf
  refine gs ?_;refine bi h2 ac rfl rfl fun H3 h3 => ?_;refine ah (cB ..) ?_;exact aq (dB (g := g) (k := { k2 with a := 5 }) (σ' := ba σ t) (t' := { aW σ t with at' := 5 }) (by simp only [ak, hat, hf]; rfl) (by simp [iM, hf, y1, y2]) (aB (σ := σ) hg (by simp) rfl) (show ae (xB x P t { k2 with a := 5 } * (ax P g (ba σ t) * R)) H3 from h3.to))
theorem ag8 (S : SOk σ) (T : hU σ t) (hat : t.at' = 0) : Sp eI [vp x, vi now] (xP x P σ t) (fun _ : Unit => vb (ak σ t now).2.2) (fun _ => xQ x P (ak σ t now)) := by
 have hN : σ.μ.N < 1099511627000 := by have := S.N; omega
 refine aP fun R H h => ?_;obtain ⟨k, g, hR, hg, h0⟩ := cV h;have hl := hg.1;simp only [iM, hat] at hR;obtain ⟨ha, hI, hh⟩ := hR;have hi := T.i (by omega) (by omega);refine Ng x P g σ t k now S T h0 fun b1 H1 h1 => ?_;refine ah (HE ..) ?_;refine aj h1 ac rfl ?_;refine aa (bk (by omega)) ?_;refine gs ?_
 have fin : ∀ code, cL t.x = some code → wp ((FF bC [vp x, vi now, vi code] H1).bind fun r125 => some ((vb true), r125.2)) fun v' H' => ∃ y : Unit, v' = vb (ak σ t now).2.2 ∧ ae (xQ x P (ak σ t now) * R) H' := by
  intro code hx;refine ag h1 (j6 x P g σ t k hg now code (by have := S.N; omega) S.pts) fun v H2 h2 => ?_;exact aq (FQ (g := { g with pv := v }) (k := { k with code := code }) (σ' := σ.note now t.who code) (t' := { t with code := code }) (by simp only [ak, hat, hx]) rfl (dJ (σ := σ) hg (bI _) rfl) h2.to)
 refine aj h1 (bV (aO (aO aY))) rfl ?_
 by_cases ha1 : t.x.a < 1
 ·refine aa (cK ha1) ?_
  refine gs ?_;exact fin 3 (by rw [cL, if_pos (.inl ha1)])
 ·refine aa (ch ha1) ?_
  refine gs ?_;refine aj h1 (bV (aO (aO aY))) rfl ?_;refine gs ?_
  by_cases ha2 : 65536 < t.x.a
  ·refine aa (lq ha2) ?_
   refine gs ?_;exact fin 3 (by rw [cL, if_pos (.inr ha2)])
  ·refine aa (f7 ha2) ?_
   refine gs ?_;refine aj h1 (bV (aO (aO aY))) rfl ?_
   by_cases hf : t.x.flow < 0
   ·refine aa (cK hf) ?_
    refine gs ?_;exact fin 5 (by rw [cL, if_neg (by omega), if_pos (.inl hf)])
   ·refine aa (ch hf) ?_
    refine gs ?_;refine aj h1 (bV (aO (aO aY))) rfl ?_;refine gs ?_
    by_cases hf2 : 1048576 < t.x.flow
    ·refine aa (lq hf2) ?_
     refine gs ?_;exact fin 5 (by rw [cL, if_neg (by omega), if_pos (.inr hf2)])
    ·refine aa (f7 hf2) ?_
     refine gs ?_
     have hx : cL t.x = none := by rw [cL, if_neg (by omega), if_neg (by omega)]
     have hs : ak σ t now = gO σ t := by simp only [ak, hat, hx, gO]
     rw [hs];refine bi h1 ac rfl rfl fun H2 h2 => ?_;refine ah (HF ..) ?_;refine aj h2 ac rfl ?_;refine ah (mB ..) ?_;refine aa (bk (by omega)) ?_;exact adF x P σ t now g { k with a := 2 } S T hg rfl hI hh hi h2.to
theorem If (S : SOk σ) (T : hU σ t) : Sp eI [vp x, vi now] (xP x P σ t) (fun _ : Unit => vb (ak σ t now).2.2) (fun _ => xQ x P (ak σ t now)) := by
 rcases T.ats with hat | hat | hat | hat | hat | hat | hat | hat | hat | hat | hat | hat | hat | hat | hat | hat | hat | hat | hat | hat | hat | hat | hat | hat
 ·exact ag8 x P σ t now S T hat
 ·exact ag9 x P σ t now S T hat
 ·exact ahA x P σ t now S T hat
 ·exact ahB x P σ t now S T hat
 ·exact ahC x P σ t now S T hat
 ·exact ahD x P σ t now S T hat
 ·exact ahE x P σ t now S T hat
 ·exact ahF x P σ t now S T hat
 ·exact ahG x P σ t now S T hat
 ·exact adG x P σ t now S T hat
 ·exact adH x P σ t now S T hat
 ·exact adI x P σ t now S T hat
 ·exact adJ x P σ t now S T hat
 ·exact adK x P σ t now S T hat
 ·exact adL x P σ t now S T hat
 ·exact adM x P σ t now S T hat
 ·exact adN x P σ t now S T hat
 ·exact adO x P σ t now S T hat
 ·exact adP x P σ t now S T hat
 ·exact adQ x P σ t now S T hat
 ·exact adR x P σ t now S T hat
 ·exact adS x P σ t now S T hat
 ·exact adT x P σ t now S T hat
 ·exact adU x P σ t now S T hat
end
end Go.Proofs.YtghoamdlcjdfjaaGreatDoor.Gst
