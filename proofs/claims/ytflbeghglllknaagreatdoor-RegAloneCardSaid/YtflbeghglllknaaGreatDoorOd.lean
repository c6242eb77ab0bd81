/- Several texts in one. -/
import Derived.Test.YtflbeghglllknaaGreatDoorOc
namespace Go.Proofs.YtflbeghglllknaaGreatDoor.Gst
open Go Go.RowKit
set_option linter.unusedSimpArgs false
set_option linter.unusedVariables false
set_option maxHeartbeats 1000000
set_option synthInstance.maxSize 2000
set_option synthInstance.maxHeartbeats 400000
structure Pk where
 flow : Int
 len : Int
 mark : Int
abbrev Pk.cells (x : Pk) : List Value := [vi x.flow, vi x.len, vi x.mark]
instance : Enc Pk.cells 3 := ⟨fun _ => rfl, fun _ => rfl, by omega⟩
structure Ob where
 flow : Int
 most : Int
 r : Nat
structure Pt where
 step : Int
 who : Int
 place : Int
 e : Int
abbrev gm (e : Int) : List Value := [vi e, .slice none 0 0, vi 0, vw 0]
abbrev Pt.cells (x : Pt) : List Value := [vi x.step, vi x.who, vi x.place, vi x.e, .slice none 0 0, vi 0, vw 0]
instance : Enc Pt.cells 7 := ⟨fun _ => rfl, fun _ => rfl, by omega⟩
structure aS where
 c : i6
 μ : Mu
 obs : List (Ob × List Pk)
 nx : Int → Option Nat
 places : Int → Option Int
 pts : List Pt
def dS (n : Int) : Nat := (min (max n 1) 8).toNat
theorem s0 (n : Int) : 1 ≤ dS n ∧ dS n ≤ 8 ∧ (dS n : Int) = min (max n 1) 8 := by unfold dS; omega
abbrev G8 : Pk := ⟨0, 0, 0⟩
abbrev N9 (k : Int) : Value := vi k
instance : KeyE .int N9 where
 eq a b := by
  simp only [kO, N9, if_true]
  congr 1
 ok a := rfl
def cM (m i rp : Nat) (cs : List Pk) : SP := ex fun cv : Value => blk rp (.cells false [vp m, vi i, cv]) * ts 3 Pk.cells cv cs
def mS (m : Nat) : Nat → List (Nat × List Pk) → SP
 | _, [] => emp
 | i, p :: ps => cM m i p.1 p.2 * mS m (i + 1) ps
theorem zM (m : Nat) : ∀ (ps : List (Nat × List Pk)) (i : Nat) (q : Nat × List Pk), mS m i (ps ++ [q]) = mS m i ps * cM m (i + ps.length) q.1 q.2 := by
 intro ps
 induction ps with
 | nil => intro i q; show cM m i q.1 q.2 * emp = emp * cM m (i + 0) q.1 q.2; rw [f5, lG]; rfl
 | cons p ps ih =>
  intro i q;show cM m i p.1 p.2 * mS m (i + 1) (ps ++ [q]) = cM m i p.1 p.2 * mS m (i + 1) ps * _;rw [ih, ak, List.length_cons, show i + 1 + ps.length = i + (ps.length + 1) from by omega]
abbrev LE (x : Ob × Nat) : List Value := [vi x.1.flow, vi x.1.most, vu x.1.r, vp x.2]
instance : Enc LE 4 := ⟨fun _ => rfl, fun _ => rfl, by omega⟩
structure PIds where
 m : Nat
 ib : Nat
 tb : Nat
 po : Nat
 co : Nat
 ov : Value
 pm : Nat
 pv : Value
 nm : Nat
 rp : List Nat
def lI (ib m nm : Nat) (c : i6) (nx : Int → Option Nat) : SP :=
 blk ib (.cells false [vp m, vi c.sh, .map (some nm), .func (.func bI) #[vi 9] #[], .func (.func bI) #[vi 14] #[]]) * ZK N9 nm (fun k => (nx k).map fun n => vu n)
def aD (p : Nat) (g : PIds) (σ : aS) : SP :=
 blk p (.cells false [vp g.m, vp g.ib, vp g.tb, vp g.po, vp g.co, vi σ.c.sh, vi σ.c.sl, vi σ.c.wk, vi σ.c.wd, vu σ.c.un, g.ov, .map (some g.pm), g.pv]) *
 (bL g.m σ.μ * (lI g.ib g.m g.nm σ.c σ.nx * (tab g.tb g.m σ.c.sh.toNat σ.c.sl.toNat * (ts 4 LE g.ov ((σ.obs.map fun x => x.1).zip g.rp) * (mS g.m 0 (g.rp.zip (σ.obs.map fun x => x.2)) *
 (ZK N9 g.pm (fun k => (σ.places k).map fun n => vi n) * ts 7 Pt.cells g.pv σ.pts))))))
def gl (p : Nat) (σ : aS) : SP := ex fun g : PIds => pu (g.rp.length = σ.obs.length) * aD p g σ
theorem nA {p : Nat} {σ : aS} {R : SP} {H : AH} (h : ae (gl p σ * R) H) : ∃ g : PIds, g.rp.length = σ.obs.length ∧ ae (aD p g σ * R) H := by
 obtain ⟨g, h1⟩ := ae.ex.1 h;rw [ak, ae.pu] at h1;exact ⟨g, h1⟩
theorem pL {p : Nat} {σ : aS} {R : SP} {H : AH} (g : PIds) (hl : g.rp.length = σ.obs.length) (h : ae (aD p g σ * R) H) : ae (gl p σ * R) H :=
 ae.ex.2 ⟨g, by rw [ak]; exact ae.pu.2 ⟨hl, h⟩⟩
abbrev aS.new (c : i6) : aS := ⟨c, ⟨fun _ => 0, [], 0⟩, [], fun _ => none, fun _ => none, []⟩
theorem afC : Sp yr [] emp (fun b : Nat => vp b) (fun b => bL b ⟨fun _ => 0, [], 0⟩) := by
 refine bh Qc fun R H h => ?_;refine xv h fun mb H2 h2 => ?_;refine je ?_;refine aX h2 fun b H3 h3 => ?_;refine aq ⟨b, rfl, ae.ex.2 ⟨(mb, .slice none 0 0, [], [], 0), ?_⟩⟩;rw [ak, ae.pu];refine ⟨⟨.nil, fun _ => rfl, bB _⟩, ?_⟩;have := Vn 5 h3;show ae (blk b (.cells false [.map (some mb), .slice none 0 0]) * (blk mb (.map [] 0) * sl 5 (.slice none 0 0) 0 []) * R) H3;exact this.to
theorem P3 (m : Nat) (c : i6) (hc : cI c = true) : Sp rx [vp m, vi c.sh] emp (fun b : Nat => vp b) (fun b => ex fun nm : Nat => lI b m nm c fun _ => none) := by
 have hc := bD.1 hc;refine bh (JF _ _) fun R H h => ?_;refine aa (lu) ?_;refine aa (lw) ?_;rw [show min (max c.sh 1) 4 = c.sh from by omega];refine xv h fun mb H2 h2 => ?_;refine je ?_;refine aX h2 fun b H3 h3 => ?_;refine aq ⟨b, rfl, ae.ex.2 ⟨mb, ?_⟩⟩;unfold lI;have h4 : ae (blk mb (.map [] 0) * (blk b (.cells false [vp m, vi c.sh, .map (some mb), .func (.func bI) #[vi 9] #[], .func (.func bI) #[vi 14] #[]]) * (emp * R))) H3 := h3.to;have h5 := Uy N9 h4;show ae (blk b (.cells false [vp m, vi c.sh, .map (some mb), .func (.func bI) #[vi 9] #[], .func (.func bI) #[vi 14] #[]]) * ZK N9 mb (fun _ => none) * R) H3;exact h5.to
theorem RD (m : Nat) (c : i6) (hc : cI c = true) : Sp rH [vp m, vi c.sh, vi c.sl] emp (fun b : Nat => vp b) (fun b => tab b m c.sh.toNat c.sl.toNat) := by
 have hc := bD.1 hc;refine bh (KL _ _ _) fun R H h => ?_;refine aa (lu) ?_;refine aa (lw) ?_;refine aa (lu) ?_;refine aa (lw) ?_;rw [show min (max c.sh 1) 4 = ((c.sh.toNat : Nat) : Int) from by omega, show min (max c.sl 1) 4 = ((c.sl.toNat : Nat) : Int) from by omega];refine je ?_;refine aX h fun b H3 h3 => ?_;exact aq ⟨b, rfl, by unfold tab; exact h3.to⟩
theorem Qm (c : i6) (hc : cI c = true) : Sp rC [.agg (i6.cells c).toArray] emp (fun b : Nat => .tuple #[vp b, vi 0]) (fun b => gl b (aS.new c)) := by
 refine bh (JW _) fun R H h => ?_;refine aX h fun cb H1 h1 => ?_;refine aR h1 ?_;refine af h1 (MS c) fun _ H2 h2 => ?_;rw [hc];refine gs ?_;rw [Bool.not_true];refine gs ?_;refine af h2 afC fun m H3 h3 => ?_;refine ap h3 aE rfl ?_;refine af h3 (P3 m c hc) fun ib H4 h4 => ?_;obtain ⟨nm, h4b⟩ := ae.ex.1 h4;refine bE aE ?_;refine aQ h4b rfl ?_;refine aJ h3 h4b rfl ?_;refine bE aE ?_;refine aQ h4b rfl ?_;refine aJ h3 h4b rfl ?_;refine af h4b (RD m c hc) fun tb H5 h5 => ?_;refine bE aE ?_;refine aQ h5 rfl ?_;refine aJ h3 h5 rfl ?_;refine aJ h4b h5 rfl ?_;refine af h5 (af7 m c.wk) fun pb H6 h6 => ?_;refine aR h6 ?_;refine dZ h3 h6 rfl ?_;refine dZ h4b h6 rfl ?_;refine dZ h5 h6 rfl ?_;refine af h6 (aaS c) fun kb H7 h7 => ?_;refine aR h7 ?_;refine dZ h3 h7 rfl ?_;refine dZ h4b h7 rfl ?_;refine dZ h5 h7 rfl ?_;refine dZ h6 h7 rfl ?_;refine xv h7 fun mb H8 h8 => ?_;refine je ?_;refine aX h8 fun b H9 h9 => ?_;refine aq ⟨b, rfl, ?_⟩;refine pL ⟨m, ib, tb, pb, kb, .slice none 0 0, mb, .slice none 0 0, nm, []⟩ rfl ?_;have h10 := f6 4 LE (f6 7 Pt.cells h9);have h11 : ae (blk mb (.map [] 0) * (ts 4 LE (.slice none 0 0) [] * (ts 7 Pt.cells (.slice none 0 0) [] * (blk b (.cells false [vp m, vp ib, vp tb, vp pb, vp kb, vi c.sh, vi c.sl, vi c.wk, vi c.wd, vu c.un, .slice none 0 0, .map (some mb), .slice none 0 0]) * (bL m ⟨fun _ => 0, [], 0⟩ * (lI ib m nm c (fun _ => none) * (tab tb m c.sh.toNat c.sl.toNat * (emp * R)))))))) H9 := h10.to;have h12 := Uy N9 h11;show ae (blk b (.cells false [vp m, vp ib, vp tb, vp pb, vp kb, vi c.sh, vi c.sl, vi c.wk, vi c.wd, vu c.un, .slice none 0 0, .map (some mb), .slice none 0 0]) * (bL m ⟨fun _ => 0, [], 0⟩ * (lI ib m nm c (fun _ => none) * (tab tb m c.sh.toNat c.sl.toNat * (ts 4 LE (.slice none 0 0) [] * (emp * (ZK N9 mb (fun _ => none) * ts 7 Pt.cells (.slice none 0 0) [])))))) * R) H9;exact h12.to
section
variable (p : Nat) (σ : aS)
theorem No (m i : Nat) (most : Int) : Sp uu [vp m, vi i, vi most] emp (fun b : Nat => vp b) (fun b => cM m i b (List.replicate (dS most) G8)) := by
 obtain ⟨q1, q2, q3⟩ := s0 most;refine bh (Nn _ _ _) fun R H h => ?_;refine aa (lu) ?_;refine aa (lw) ?_;rw [← q3];refine RG (enc := Pk.cells) G8 h rfl (by unfold dr; omega) (by omega) fun cb H1 h1 => ?_;refine je ?_;refine aX h1 fun b H2 h2 => ?_;refine aq ⟨b, rfl, ?_⟩;unfold cM;exact ae.ex.2 ⟨vs cb (dS most) 3, h2.to⟩
abbrev aS.make (σ : aS) (who : Int) (o : Ob) : aS := { σ with μ := σ.μ.acc who 6 (13, σ.obs.length, 0), obs := σ.obs ++ [(o, List.replicate (dS o.most) G8)] }
theorem Ql (who : Int) (o : Ob) (hE : σ.μ.N < 1099511627000) (ho : σ.obs.length < 1000000) : Sp d8 [vp p, vi who, .agg (#[vi o.flow, vi o.most, vu o.r] : Array Value)] (gl p σ) (fun _ : Unit => vi σ.obs.length) (fun _ => gl p (σ.make who o)) := by
 refine aK fun R H h => ?_;obtain ⟨g, hg, h0⟩ := nA h
 have hz : ((σ.obs.map fun x => x.1).zip g.rp).length = σ.obs.length := by simp [hg]
 unfold aD at h0;refine bm (fun r => lA _ _ _ H) ?_;refine aX (l := [vi o.flow, vi o.most, vu o.r]) h0 fun ob H1 h1 => ?_;refine ap h1 ac rfl ?_;refine oa (s := g.ov) h1 ?_;rw [hz];refine ap h1 ac rfl ?_;refine je ?_;refine af h1 ((sZ g.m σ.μ who (13, σ.obs.length, 0) (by omega)).imp fun _ R H h => kp (N' := σ.μ.N + 2) (by simp) h) fun _ H2 h2 => ?_;refine bE ac ?_;refine aQ h2 rfl ?_;refine aR h2 ?_;refine ap h2 ac rfl ?_;refine ap h2 aE rfl ?_;refine af h2 (No g.m σ.obs.length o.most) fun rb H3 h3 => ?_;refine aJ h3 h2 rfl ?_;refine dZ h3 h2 rfl ?_;refine je ?_;refine RF h3 fun b0 H4 h4 => ?_;refine i1 ((o, rb) : Ob × Nat) h4 rfl ?_ (by omega) fun a cc H5 h5 => ?_
 ·unfold dr; omega
 refine bj h5 ac rfl rfl fun H6 h6 => ?_;refine aq ⟨(), rfl, ?_⟩;refine pL { g with ov := .slice a (((σ.obs.map fun x => x.1).zip g.rp).length + 1) cc, rp := g.rp ++ [rb] } (by simp [aS.make, hg]) ?_;unfold aD aS.make;dsimp only
 have e1 : ((σ.obs ++ [(o, List.replicate (dS o.most) G8)]).map fun x => x.1).zip (g.rp ++ [rb]) = ((σ.obs.map fun x => x.1).zip g.rp) ++ [(o, rb)] := by
  rw [FT, List.zip_append (by simp [hg])]
  rfl
 have e2 : (g.rp ++ [rb]).zip ((σ.obs ++ [(o, List.replicate (dS o.most) G8)]).map fun x => x.2) = (g.rp.zip (σ.obs.map fun x => x.2)) ++ [(rb, List.replicate (dS o.most) G8)] := by
  rw [FT, List.zip_append (by simp [hg])]
  rfl
 have e3 : 0 + (g.rp.zip (σ.obs.map fun x => x.2)).length = σ.obs.length := by simp [hg]
 rw [e1, e2, zM, e3];exact h6.to
theorem y4 : Sp afJ [.slice none 0 0] emp (fun _ : Unit => .slice none 0 0) (fun _ => emp) := by
 refine bh (apD _) fun R H h => ?_;refine aa (v := vb true) rfl ?_;refine gs ?_;exact aq ⟨(), rfl, ae.to (by assumption)⟩
theorem tM (e : Int) : Sp nk [.agg (gm e).toArray] emp (fun _ : Unit => .agg (gm e).toArray) (fun _ => emp) := by
 refine bh (JX _) fun R H h => ?_;refine aX h fun b1 H1 h1 => ?_;refine br h1 fun b2 H2 h2 => ?_;refine ap h2 aE rfl ?_;refine af h2 y4 fun _ H3 h3 => ?_;refine bj h3 aE rfl rfl fun H4 h4 => ?_;refine aR h4 ?_;refine ej h4 rfl rfl fun H5 h5 => ?_;refine aR h5 ?_;exact aq ⟨(), rfl, h5.to⟩
abbrev aS.note (σ : aS) (step who e : Int) : aS := { σ with pts := σ.pts ++ [⟨step, who, (σ.places who).getD 0, e⟩] }
theorem aiN {P R P2 R2 : SP} {H H2 : AH} {b : Nat} {f : Int → Option Value} {zero : Value} {kk : OV} {Q : Value → AH → Prop} (k : Int) (h : ae P H) [m : Mp P b N9 f R] (h2 : ae P2 H2) [m2 : Mp P2 b N9 f R2] (hk : wp kk Q) :
 wp (b7 (db .int zero (.map (some b)) (vi k) false H) (db .int zero (.map (some b)) (vi k) false H2) kk) Q := by
 have one : ∀ {P R : SP} {H : AH} (h : ae P H) [m : Mp P b N9 f R], db .int zero (.map (some b)) (vi k) false H = some ((f k).getD zero) := by
  intro P R H h m;obtain ⟨v, H', e, q⟩ : wp ((db .int zero (.map (some b)) (vi k) false H).bind fun v => some (v, H)) (fun v _ => v = (f k).getD zero) := Vz (ek := N9) k h (aq rfl);obtain ⟨v', e1, e2⟩ := aI.1 e
  have : v' = v := by simpa using congrArg (fun x => x.map Prod.fst) e2
  have e1' : db .int zero (.map (some b)) (vi k) false H = some v' := e1;rw [e1', this, q]
 exact Fq (by rw [one h, one h2]) hk
end
theorem uX {cl : TCls} {a b : Int} (h : b ≠ 0) : ai cl .rem (vi a) (vi b) = some (vi (a.tmod b)) := by
 simp only [ai, mV, if_true];rw [if_neg h]
theorem anG {a b : Nat} : iC [vu a, vu b] = some (vu (max a b)) := by
 simp only [iC]
 congr 2
 split <;> omega
abbrev tB (x : Ob) : List Value := [vi x.flow, vi x.most, vu x.r]
instance : Enc tB 3 := ⟨fun _ => rfl, fun _ => rfl, by omega⟩
abbrev OP (n : Nat) : List Value := [vu n]
instance : Enc OP 1 := ⟨fun _ => rfl, fun _ => rfl, by omega⟩
def g9 : List (Int × Int) → Int → Int
 | [], _ => 0
 | p :: ps, who => if (ps.any fun q => q.1 == who) = true then g9 ps who else if p.1 = who then p.2 else 0
def fI (l : List (Int × Int)) : List Int := l.flatMap fun p => [p.1, p.2]
def FW (l : List (Int × Nat)) (k : Int) : Option Nat := (l.find? fun p => p.1 == k).map (·.2)
def tJ (x : Pt) : List Pt → List Pt
 | [] => [x]
 | y :: l => if y.step ≤ x.step ∨ (l.any fun z => decide (z.step ≤ x.step)) = true then y :: tJ x l else x :: y :: l
def bC (l : List Pt) : List Pt := l.foldl (fun acc x => tJ x acc) []
def dj (m i rp : Nat) (cs : List Pk) : SP := ex fun cv : Value => blk rp (.cells false [vp m, vi i, vi cs.length, cv]) * ts 3 Pk.cells cv cs
def jF (m : Nat) : Nat → List (Nat × List Pk) → SP
 | _, [] => emp
 | i, p :: ps => dj m i p.1 p.2 * jF m (i + 1) ps
theorem Np (m : Nat) : ∀ (ps : List (Nat × List Pk)) (i : Nat) (q : Nat × List Pk), jF m i (ps ++ [q]) = jF m i ps * dj m (i + ps.length) q.1 q.2 := by
 intro ps
 induction ps with
 | nil => intro i q; show dj m i q.1 q.2 * emp = emp * dj m (i + 0) q.1 q.2; rw [f5, lG]; rfl
 | cons p ps ih =>
  intro i q;show dj m i p.1 p.2 * jF m (i + 1) (ps ++ [q]) = dj m i p.1 p.2 * jF m (i + 1) ps * _;rw [ih, ak, List.length_cons, show i + 1 + ps.length = i + (ps.length + 1) from by omega]
def iS (ib m : Nat) (sh : Int) (nx : Int → Option Nat) (L : Nat) : SP := ex fun g : Value × Value × List (Int × Nat) =>
 pu ((∀ k, FW g.2.2 k = nx k) ∧ g.2.2.length ≤ L) * (blk ib (.cells false [vp m, vi sh, g.1, g.2.1]) * (ts 1 lH g.1 (g.2.2.map (·.1)) * ts 1 OP g.2.1 (g.2.2.map (·.2))))
theorem oH {ib m : Nat} {sh : Int} {nx : Int → Option Nat} {L : Nat} {R : SP} {H : AH} (h : ae (iS ib m sh nx L * R) H) :
 ∃ (kv nv : Value) (ns : List (Int × Nat)), ((∀ k, FW ns k = nx k) ∧ ns.length ≤ L) ∧ ae (blk ib (.cells false [vp m, vi sh, kv, nv]) * (ts 1 lH kv (ns.map (·.1)) * (ts 1 OP nv (ns.map (·.2)) * R))) H := by
 obtain ⟨⟨kv, nv, ns⟩, h1⟩ := ae.ex.1 h;rw [ak, ae.pu] at h1;exact ⟨kv, nv, ns, h1.1, h1.2.to⟩
theorem iT {ib m : Nat} {sh : Int} {nx : Int → Option Nat} {L : Nat} {R : SP} {H : AH} {kv nv : Value} {ns : List (Int × Nat)} (hn : (∀ k, FW ns k = nx k) ∧ ns.length ≤ L)
 (h : ae (blk ib (.cells false [vp m, vi sh, kv, nv]) * (ts 1 lH kv (ns.map (·.1)) * (ts 1 OP nv (ns.map (·.2)) * R))) H) : ae (iS ib m sh nx L * R) H := by
 refine ae.ex.2 ⟨(kv, nv, ns), ?_⟩;rw [ak, ae.pu];exact ⟨hn, h.to⟩
theorem pC {ib m : Nat} {sh : Int} {nx : Int → Option Nat} {L L' : Nat} {R : SP} {H : AH} (hL : L ≤ L') (h : ae (iS ib m sh nx L * R) H) : ae (iS ib m sh nx L' * R) H := by
 obtain ⟨g, h1⟩ := ae.ex.1 h;rw [ak, ae.pu] at h1;exact ae.ex.2 ⟨g, by rw [ak]; exact ae.pu.2 ⟨⟨h1.1.1, fT h1.1.2 hL⟩, h1.2⟩⟩
structure XIds where
 m : Nat
 ib : Nat
 tb : Nat
 po : Nat
 co : Nat
 ov : Value
 rv : Value
 rp : List Nat
 wv : Value
 ws : List (Int × Int)
 pv : Value
def aw (x : Nat) (g : XIds) (σ : aS) : SP :=
 blk x (.cells false [vi σ.c.sh, vi σ.c.sl, vi σ.c.wk, vi σ.c.wd, vu σ.c.un, vp g.m, vp g.ib, vp g.tb, vp g.po, vp g.co, g.ov, g.rv, g.wv, g.pv]) *
 (bT g.m σ.μ * (iS g.ib g.m σ.c.sh σ.nx σ.μ.N * (tab g.tb g.m σ.c.sh.toNat σ.c.sl.toNat *
 (ts 3 tB g.ov (σ.obs.map fun x => x.1) * (ts 1 pX g.rv g.rp * (jF g.m 0 (g.rp.zip (σ.obs.map fun x => x.2)) * (ts 1 lH g.wv (fI g.ws) * ts 7 Pt.cells g.pv (bC σ.pts))))))))
def e8 (g : XIds) (σ : aS) : Prop := g.rp.length = σ.obs.length ∧ (∀ k, g9 g.ws k = (σ.places k).getD 0) ∧ g.ws.length ≤ σ.μ.N
def aM (x : Nat) (σ : aS) : SP := ex fun g : XIds => pu (e8 g σ) * aw x g σ
theorem fc {p : Nat} {σ : aS} {R : SP} {H : AH} (h : ae (aM p σ * R) H) : ∃ g : XIds, e8 g σ ∧ ae (aw p g σ * R) H := by
 obtain ⟨g, h1⟩ := ae.ex.1 h;rw [ak, ae.pu] at h1;exact ⟨g, h1⟩
theorem dc {p : Nat} {σ : aS} {R : SP} {H : AH} (g : XIds) (hl : e8 g σ) (h : ae (aw p g σ * R) H) : ae (aM p σ * R) H :=
 ae.ex.2 ⟨g, by rw [ak]; exact ae.pu.2 ⟨hl, h⟩⟩
theorem J6 (m : Nat) (c : i6) (hc : cI c = true) : Sp mF [vp m, vi c.sh] emp (fun b : Nat => vp b) (fun b => blk b (.cells false [vp m, vi c.sh, .slice none 0 0, .slice none 0 0])) := by
 have hc := bD.1 hc;refine bh (AP _ _) fun R H h => ?_;refine aa (lu) ?_;refine aa (lw) ?_;rw [show min (max c.sh 1) 4 = c.sh from by omega];refine je ?_;refine aX h fun b H3 h3 => ?_;exact aq ⟨b, rfl, h3.to⟩
theorem J8 (m : Nat) (c : i6) (hc : cI c = true) : Sp mH [vp m, vi c.sh, vi c.sl] emp (fun b : Nat => vp b) (fun b => tab b m c.sh.toNat c.sl.toNat) := by
 have hc := bD.1 hc;refine bh (AS _ _ _) fun R H h => ?_;refine aa (lu) ?_;refine aa (lw) ?_;refine aa (lu) ?_;refine aa (lw) ?_;rw [show min (max c.sh 1) 4 = ((c.sh.toNat : Nat) : Int) from by omega, show min (max c.sl 1) 4 = ((c.sl.toNat : Nat) : Int) from by omega];refine je ?_;refine aX h fun b H3 h3 => ?_;exact aq ⟨b, rfl, by unfold tab; exact h3.to⟩
theorem Nf (m : Nat) (w : Int) : Sp nY [vp m, vi w] emp (fun b : Nat => vp b) (fun _ => emp) := by
 refine bh (Eu _ _) fun R H h => ?_;refine aa (lu) ?_;refine aa (lw) ?_;refine je ?_;refine aX h fun b H3 h3 => ?_;exact aq ⟨b, rfl, h3.to⟩
theorem Ym (w : Int) : Sp rF [vi w] emp (fun x : Int => vi x) (fun _ => emp) := by
 refine bh (J2 _) fun R H h => ?_;refine aa (lu) ?_;refine aa (lw) ?_;exact aq ⟨_, rfl, h⟩
theorem J3 (n w : Int) : Sp afG [vi n, vi w] emp (fun b : Nat => vp b) (fun _ => emp) := by
 refine bh (ao8 _ _) fun R H h => ?_;refine je ?_;refine aX h fun q H2 h2 => ?_;refine ah (Yr _ _ _ _ H2) ?_;refine ah (Yt _ _ _ _ _ H2) ?_;obtain ⟨k, hk⟩ : ∃ k : Nat, min (max n 1) 16 = k := ⟨(min (max n 1) 16).toNat, by omega⟩
 have hk16 : k ≤ 16 := by omega
 have loop : ∀ (d i : Nat) (nv : Value) (m : List Nat) (H : AH), i + d = k → m.length = i → ae (blk q (.cells false [nv]) * ts 1 pX nv m * R) H → wp (Ka (vi n) (vi w) (.pointer none) (vp q) (vi i) H) fun v' H' => ∃ b : Nat, v' = vp b ∧ ae (emp * R) H' := by
  intro d
  induction d with
  | zero =>
   intro i nv m H hi hm h;refine ah (Hb _ _ _ _ _ H) ?_;refine aa (lu) ?_;refine aa (lw) ?_;refine aa (bW (by omega)) ?_;refine gs ?_;refine ah (Ni _ _ H) ?_;refine ah (Ys _ _ H) ?_;exact aq ⟨q, rfl, h.to⟩
  | succ d ih =>
   intro i nv m H hi hm h;refine ah (Hb _ _ _ _ _ H) ?_;refine aa (lu) ?_;refine aa (lw) ?_;refine aa (cz (by omega)) ?_;refine gs ?_;refine ah (Yu _ _ _ _ _ H) ?_;refine bE ac ?_;refine aQ h rfl ?_;refine af h (Ym w) fun x H3 h3 => ?_;refine aJ h3 h rfl ?_;refine je ?_;refine aX h3 fun sb H3b h3b => ?_;refine RF h3b fun b0 H4 h4 => ?_;refine i1 (sb : Nat) h4 rfl ?_ (by omega) fun a c H5 h5 => ?_
   ·unfold dr; omega
   refine bj h5 ac rfl rfl fun H6 h6 => ?_;refine ah (Yv _ _ _ _ _ H6) ?_;refine aa (aH (by omega) (by omega)) ?_;exact ih (i + 1) (.slice a (m.length + 1) c) (m ++ [sb]) H6 (by omega) (by simp; omega) h6.to
 refine loop k 0 (.slice none 0 0) [] H2 (by omega) rfl ?_;have h3 := f6 1 pX h2;exact h3.to
theorem Ne (c : i6) : Sp nX [.agg (i6.cells c).toArray] emp (fun b : Nat => vp b) (fun _ => emp) := by
 refine bh (Et _) fun R H h => ?_;refine aX h fun cb H1 h1 => ?_;refine ap h1 aE rfl ?_;refine ap h1 aE rfl ?_;refine af h1 (J3 c.sh c.wd) fun q H2 h2 => ?_;refine je ?_;refine aX h2 fun b H5 h5 => ?_;exact aq ⟨b, rfl, h5.to⟩
theorem afA {b : Nat} {R : SP} {H : AH} (h : ae (blk b (.cells false [.slice none 0 0, .slice none 0 0, .slice none 0 0]) * R) H) : ae (bT b ⟨fun _ => 0, [], 0⟩ * R) H := by
 refine ae.ex.2 ⟨[], ?_⟩;rw [ak, ae.pu];refine ⟨⟨fun _ => rfl, bB _⟩, ae.ex.2 ⟨(.slice none 0 0, .slice none 0 0, .slice none 0 0), ?_⟩⟩;have h1 := f6 3 Iq (f6 1 LF (f6 5 Ev.cells h));exact h1.to
theorem J7 (c : i6) (hc : cI c = true) : Sp mG [.agg (i6.cells c).toArray] emp (fun b : Nat => vp b) (fun b => aM b (aS.new c)) := by
 refine bh (AQ _) fun R H h => ?_;refine aX h fun cb H1 h1 => ?_;refine je ?_;refine aX h1 fun m H2 h2 => ?_;refine aR h2 ?_;refine ap h2 aE rfl ?_;refine af h2 (J6 m c hc) fun ib H3 h3 => ?_;refine dZ h3 h2 rfl ?_;refine bE aE ?_;refine aQ h3 rfl ?_;refine aJ h2 h3 rfl ?_;refine bE aE ?_;refine aQ h3 rfl ?_;refine aJ h2 h3 rfl ?_;refine af h3 (J8 m c hc) fun tb H4 h4 => ?_;refine dZ h4 h2 rfl ?_;refine bE aE ?_;refine aQ h4 rfl ?_;refine aJ h2 h4 rfl ?_;refine aJ h3 h4 rfl ?_;refine af h4 (Nf m c.wk) fun pb H5 h5 => ?_;refine dZ h5 h2 rfl ?_;refine aR h5 ?_;refine dZ h2 h5 rfl ?_;refine dZ h3 h5 rfl ?_;refine dZ h4 h5 rfl ?_;refine af h5 (Ne c) fun kb H6 h6 => ?_;refine dZ h6 h2 rfl ?_;refine je ?_;refine aX h6 fun b H7 h7 => ?_;refine aq ⟨b, rfl, ?_⟩;refine dc ⟨m, ib, tb, pb, kb, .slice none 0 0, .slice none 0 0, [], .slice none 0 0, [], .slice none 0 0⟩ ⟨rfl, fun _ => rfl, bB _⟩ ?_;have h8 := afA (b := m) (R := blk b (.cells false [vi c.sh, vi c.sl, vi c.wk, vi c.wd, vu c.un, vp m, vp ib, vp tb, vp pb, vp kb, .slice none 0 0, .slice none 0 0, .slice none 0 0, .slice none 0 0]) * (tab tb m c.sh.toNat c.sl.toNat * (blk ib (.cells false [vp m, vi c.sh, .slice none 0 0, .slice none 0 0]) * R))) (ae.to h7);have h8a := f6 1 lH (f6 1 OP h8);have h8b := iT (ib := ib) (m := m) (sh := c.sh) (nx := fun _ => none) (L := 0) (kv := .slice none 0 0) (nv := .slice none 0 0) (ns := []) (R := bT m ⟨fun _ => 0, [], 0⟩ * (blk b (.cells false [vi c.sh, vi c.sl, vi c.wk, vi c.wd, vu c.un, vp m, vp ib, vp tb, vp pb, vp kb, .slice none 0 0, .slice none 0 0, .slice none 0 0, .slice none 0 0]) * (tab tb m c.sh.toNat c.sl.toNat * R))) (H := H7) ⟨fun _ => rfl, bB _⟩ (show ae (blk ib (.cells false [vp m, vi c.sh, .slice none 0 0, .slice none 0 0]) * (ts 1 lH (.slice none 0 0) [] * (ts 1 OP (.slice none 0 0) [] * (bT m ⟨fun _ => 0, [], 0⟩ * (blk b (.cells false [vi c.sh, vi c.sl, vi c.wk, vi c.wd, vu c.un, vp m, vp ib, vp tb, vp pb, vp kb, .slice none 0 0, .slice none 0 0, .slice none 0 0, .slice none 0 0]) * (tab tb m c.sh.toNat c.sl.toNat * R)))))) H7 from h8a.to);have h9 := f6 3 tB (f6 1 pX (f6 1 lH (f6 7 Pt.cells h8b)));unfold aw
 show ae (blk b (.cells false [vi c.sh, vi c.sl, vi c.wk, vi c.wd, vu c.un, vp m, vp ib, vp tb, vp pb, vp kb, .slice none 0 0, .slice none 0 0, .slice none 0 0, .slice none 0 0]) * (bT m ⟨fun _ => 0, [], 0⟩ * (iS ib m c.sh (fun _ => none) 0 * (tab tb m c.sh.toNat c.sl.toNat *
  (ts 3 tB (.slice none 0 0) [] * (ts 1 pX (.slice none 0 0) [] * (emp * (ts 1 lH (.slice none 0 0) [] * ts 7 Pt.cells (.slice none 0 0) [])))))))  * R) H7
 exact h9.to
theorem Qs {cl : TCls} {a b : Int} (h : b ≠ 0) (h0 : -9223372036854775808 ≤ a.tdiv b) (h1 : a.tdiv b < 9223372036854775808) : ai cl .quo (vi a) (vi b) = some (vi (a.tdiv b)) := by
 simp only [ai, mV, if_true];rw [if_neg h, oX h0 h1]
theorem wj {m : Nat} {V : cO → Nat} {E : List Ev} {N N' : Nat} {R : SP} {H : AH} (hN : N ≤ N') (h : ae (bT m ⟨V, E, N⟩ * R) H) : ae (bT m ⟨V, E, N'⟩ * R) H := by
 obtain ⟨al, h1⟩ := ae.ex.1 h;rw [ak, ae.pu] at h1;exact ae.ex.2 ⟨al, by rw [ak]; exact ae.pu.2 ⟨⟨h1.1.1, fT h1.1.2 hN⟩, h1.2⟩⟩
def dk (flow : Int) (obj : Nat) : Nat := (flow + 1).toNat * 4294967296 + obj
section
variable (t m : Nat) (sh sl : Nat) (μ : Mu) (who s i flow : Int) (obj : Nat)
theorem HQ (hE : μ.N < 1099511627000) (hf : 0 ≤ flow ∧ flow ≤ 1048576) (ho : obj < 4294967296) :
 Sp gy [vp t, vi who, vi s, vi i, vi flow, vi obj] (tab t m sh sl * bL m μ) (fun _ : Unit => vb true) (fun _ => tab t m sh sl * bL m ((μ.acc who 2 (10, s, i)).put (10, s, i) (dk flow obj))) := by
 refine bh (u1 _ _ _ _ _ _) fun R H h => ?_;unfold tab at h ⊢;refine aa (bW (by omega)) ?_;refine gs ?_;refine aa (fQ ?_) ?_
 ·omega
 refine gs ?_;refine aa (bW ?_) ?_
 ·omega
 refine gs ?_;refine aa (q9 ?_) ?_
 ·omega
 refine gs ?_;refine bE ac ?_;refine aQ h rfl ?_;refine af h (u3 s i) fun _ H1 h1 => ?_;refine aJ h1 h rfl ?_;refine aa (aH (by omega) (by omega)) ?_;refine aa (dQ (by omega) (by omega)) ?_
 have hn : (flow + 1).toNat ≤ 1048577 := by omega
 have e1 : ai .other .shl (vu (flow + 1).toNat) (vw 32) = some (vu ((flow + 1).toNat * 4294967296)) := by
  have := Gk (cl := .other) (a := (flow + 1).toNat) (k := .u64) (n := 32) (by omega);simp only [Nat.reducePow] at this;rw [Nat.mod_eq_of_lt (by omega)] at this;exact this
 refine aa (e1) ?_;refine aa (dQ (by omega) (by omega)) ?_;rw [show ((obj : Nat) : Int).toNat = obj from v9 obj]
 have e2 : ai .other .or (vu ((flow + 1).toNat * 4294967296)) (vu obj) = some (vu (dk flow obj)) := by
  rw [aaE (by omega) (by omega)]
  congr 3
  have := Nat.two_pow_add_eq_or_of_lt (i := 32) (b := obj) (by simp only [Nat.reducePow]; omega) (flow + 1).toNat;simp only [Nat.reducePow] at this;rw [dk, Nat.mul_comm, ← this]
 refine aa (e2) ?_;refine af h1 (BD m μ who (10, s, i) (dk flow obj) (by omega)) fun _ H2 h2 => ?_;exact aq ⟨(), rfl, h2.to⟩
theorem UJ (hE : μ.N < 1099511627000) (hf : 0 ≤ flow ∧ flow ≤ 1048576) (ho : obj < 4294967296) :
 Sp iM [vp t, vi who, vi s, vi i, vi flow, vi obj] (tab t m sh sl * bT m μ) (fun _ : Unit => vb true) (fun _ => tab t m sh sl * bT m ((μ.acc who 2 (10, s, i)).put (10, s, i) (dk flow obj))) := by
 refine bh (yL _ _ _ _ _ _) fun R H h => ?_;unfold tab at h ⊢;refine aa (bW (by omega)) ?_;refine gs ?_;refine aa (fQ ?_) ?_
 ·omega
 refine gs ?_;refine aa (bW ?_) ?_
 ·omega
 refine gs ?_;refine aa (dQ (by omega) (by omega)) ?_;rw [show ((obj : Nat) : Int).toNat = obj from v9 obj];refine gs ?_;refine aa (q9 ?_) ?_
 ·omega
 refine gs ?_;refine bE ac ?_;refine aQ h rfl ?_;refine af h (eh 10 s i) fun _ H1 h1 => ?_;refine aJ h1 h rfl ?_;refine aa (aH (by omega) (by omega)) ?_;refine aa (dQ (by omega) (by omega)) ?_
 have hn : (flow + 1).toNat ≤ 1048577 := by omega
 refine aa (aqV) ?_;rw [Nat.mod_eq_of_lt (by omega)];refine aa (dQ (by omega) (by omega)) ?_;rw [show ((obj : Nat) : Int).toNat = obj from v9 obj];refine aa (gi (by omega)) ?_;refine af h1 (s7 m μ who (10, s, i) (dk flow obj) (by omega)) fun _ H2 h2 => ?_;exact aq ⟨(), rfl, h2.to⟩
end
section
variable (p : Nat) (σ : aS)
theorem YH (m i : Nat) (most : Int) : Sp nZ [vp m, vi i, vi most] emp (fun b : Nat => vp b) (fun b => dj m i b (List.replicate (dS most) G8)) := by
 obtain ⟨q1, q2, q3⟩ := s0 most;refine bh (Ew _ _ _) fun R H h => ?_;refine aa (lu) ?_;refine aa (lw) ?_;rw [← q3];refine RG (enc := Pk.cells) G8 h rfl (by unfold dr; omega) (by omega) fun cb H1 h1 => ?_;refine je ?_;refine aX h1 fun b H2 h2 => ?_;refine aq ⟨b, rfl, ?_⟩;unfold dj;refine ae.ex.2 ⟨vs cb (dS most) 3, ?_⟩;rw [List.length_replicate];exact h2.to
theorem anF (who : Int) (o : Ob) (hE : σ.μ.N < 1099511627000) (ho : σ.obs.length < 1000000) : Sp gX [vp p, vi who, .agg [vi o.flow, vi o.most, vu o.r].toArray] (aM p σ) (fun _ : Unit => vi σ.obs.length) (fun _ => aM p (σ.make who o)) := by
 refine aK fun R H h => ?_;obtain ⟨g, ⟨hg, hg2⟩, h0⟩ := fc h;unfold aw at h0;refine bm (fun r => wM _ _ _ H) ?_;refine aX (l := [vi o.flow, vi o.most, vu o.r]) h0 fun ob H1 h1 => ?_;refine ap h1 ac rfl ?_;refine oa (s := g.ov) h1 ?_;rw [tg];refine bE ac ?_;refine aQ h1 rfl ?_;refine af h1 (eh 13 σ.obs.length 0) fun _ H2 h2 => ?_;refine aJ h2 h1 rfl ?_;refine af h2 ((ZG g.m σ.μ who 6 (13, σ.obs.length, 0) (by omega)).imp fun _ R H h => wj (N' := σ.μ.N + 2) (by simp) h) fun _ H3 h3 => ?_;refine ap h3 ac rfl ?_;refine aR h3 ?_;refine RF h3 fun b0 H4 h4 => ?_;refine i1 (o : Ob) h4 rfl ?_ (by omega) fun a cc H5 h5 => ?_
 ·unfold dr; simp only [tg]; omega
 refine bE ac ?_;refine aQ h5 rfl ?_;refine aJ h4 h5 rfl ?_;refine bE ac ?_;refine aQ h5 rfl ?_;refine aJ h4 h5 rfl ?_;refine bE aE ?_;refine aQ h5 rfl ?_;refine aJ h4 h5 rfl ?_;refine af h5 (YH g.m σ.obs.length o.most) fun rb H6 h6 => ?_;refine aJ h6 h5 rfl ?_;refine RF h6 fun b1 H7 h7 => ?_;refine i1 (rb : Nat) h7 rfl ?_ (by omega) fun a2 c2 H8 h8 => ?_
 ·unfold dr; omega
 refine bj h8 ac rfl rfl fun H9 h9 => ?_;refine bj h9 ac rfl rfl fun H10 h10 => ?_;refine aq ⟨(), rfl, ?_⟩;refine dc { g with ov := .slice a ((σ.obs.map fun x => x.1).length + 1) cc, rv := .slice a2 (g.rp.length + 1) c2, rp := g.rp ++ [rb] } ⟨by simp [aS.make, hg], hg2.1, fT hg2.2 (by simp [aS.make])⟩ ?_;unfold aw aS.make;dsimp only
 have e2 : (g.rp ++ [rb]).zip ((σ.obs ++ [(o, List.replicate (dS o.most) G8)]).map fun x => x.2) = (g.rp.zip (σ.obs.map fun x => x.2)) ++ [(rb, List.replicate (dS o.most) G8)] := by
  rw [FT, List.zip_append (by simp [hg])]
  rfl
 have e1 : (σ.obs ++ [(o, List.replicate (dS o.most) G8)]).map (fun x => x.1) = (σ.obs.map fun x => x.1) ++ [o] := by rw [FT]; rfl
 have e3 : 0 + (g.rp.zip (σ.obs.map fun x => x.2)).length = σ.obs.length := by simp [hg]
 rw [e1, e2, Np, e3];dsimp only;have h11 := pC (L' := σ.μ.N + 2) (by omega) (ae.fr (A := iS g.ib g.m σ.c.sh σ.nx σ.μ.N) h10);exact h11.to
theorem zI (u : Nat) (w : Int) (hu : 1 ≤ u ∧ u ≤ 4611686018427387904) (hw : 1 ≤ w ∧ w ≤ 65536) : Sp ks [vu u, vi w] emp (fun _ : Unit => .tuple #[vu (max (u / w.toNat) 1), vb true]) (fun _ => emp) := by
 refine bh (Eo _ _) fun R H h => ?_;refine aa (bW (by omega)) ?_;refine gs ?_;refine aa (fQ ?_) ?_
 ·omega
 refine gs ?_;refine aa (bW ?_) ?_
 ·omega
 refine gs ?_;refine aa (fQ ?_) ?_
 ·omega
 refine gs ?_;refine aa (dQ (by omega) (by omega)) ?_;refine aa (xC (by omega) (by omega)) ?_;refine aa (anG (b := 1)) ?_;exact aq ⟨(), rfl, h.to⟩
abbrev aS.lay (σ : aS) (f w most : Int) : aS :=
 { σ.make 0 ⟨f, most, max (σ.c.un / w.toNat) 1⟩ with
  μ := ((σ.make 0 ⟨f, most, max (σ.c.un / w.toNat) 1⟩).μ.acc 0 2 (10, f.tmod σ.c.sh, f.tdiv σ.c.sh)).put (10, f.tmod σ.c.sh, f.tdiv σ.c.sh) (dk f σ.obs.length) }
theorem alC (x : Nat) (f w most : Int) (hc : cI σ.c = true) (hE : σ.μ.N < 1099511620000) (ho : σ.obs.length < 1000000) (hf : 0 ≤ f ∧ f ≤ 1048576) (hw : 1 ≤ w ∧ w ≤ 65536) :
 Sp mB [.agg [vp p, vp x].toArray, vi f, vi w, vi most] (gl p σ * aM x σ) (fun _ : Unit => vb true) (fun _ => gl p (σ.lay f w most) * aM x (σ.lay f w most)) := by
 have hr := bD.1 hc;have q0 : 0 ≤ f.tdiv σ.c.sh := Int.tdiv_nonneg hf.1 (by omega);have q1 : f.tdiv σ.c.sh ≤ f := Int.tdiv_le_self _ hf.1;refine bh (Ah _ _ _ _) fun R H h => ?_;refine aX (l := [vp p, vp x]) h fun b H1 h1 => ?_;refine ap h1 aE rfl ?_;obtain ⟨g, hg, k1⟩ := fc (p := x) (σ := σ) (R := blk b (.cells false [vp p, vp x]) * (gl p σ * R)) (H := H1) h1.to;unfold aw at k1;refine HV k1 ac ?_;refine br h1 fun b2 H2 h2 => ?_;refine ej h2 rfl rfl fun H3 h3 => ?_;refine ap h3 aE rfl ?_;refine af h3 (zI σ.c.un w ⟨by omega, by omega⟩ hw) fun _ H4 h4 => ?_;refine aa (v := vu (max (σ.c.un / w.toNat) 1)) rfl ?_;refine aa (v := vb true) rfl ?_;refine je ?_;refine br h4 fun b3 H5 h5 => ?_;refine ej h5 rfl rfl fun H6 h6 => ?_;refine ap h6 aE rfl ?_;refine aR h6 ?_;refine af h6 (Ql p σ 0 ⟨f, most, max (σ.c.un / w.toNat) 1⟩ (by omega) ho) fun _ H7 h7 => ?_;refine bE aE ?_;refine aQ h7 rfl ?_;refine aJ h6 h7 rfl ?_;refine aR h7 ?_;refine dZ h6 h7 rfl ?_;refine af h7 (anF x σ 0 ⟨f, most, max (σ.c.un / w.toNat) 1⟩ (by omega) ho) fun _ H8 h8 => ?_;refine aa (bo rfl) ?_;refine gs ?_;refine ap h8 aE rfl ?_;obtain ⟨gp, hgp, k8⟩ := nA (p := p) (σ := σ.make 0 ⟨f, most, max (σ.c.un / w.toNat) 1⟩) (R := blk b (.cells false [vp p, vp x]) * (blk b2 (.cells false (i6.cells σ.c)) * (aM x (σ.make 0 ⟨f, most, max (σ.c.un / w.toNat) 1⟩) * R))) (H := H8) h8.to;unfold aD at k8;refine gs ?_;refine ap k8 ac rfl ?_;refine gs ?_;refine ap k8 aE rfl ?_;refine gs ?_;refine aa (uX (by omega)) ?_;refine gs ?_;refine ap k8 aE rfl ?_;refine gs ?_;refine aa (Qs (by omega) (by omega) (by omega)) ?_;refine gs ?_;refine af k8 (HQ gp.tb gp.m σ.c.sh.toNat σ.c.sl.toNat (σ.make 0 ⟨f, most, max (σ.c.un / w.toNat) 1⟩).μ 0 (f.tmod σ.c.sh) (f.tdiv σ.c.sh) f σ.obs.length (by simp [aS.make]; omega) hf (by omega)) fun _ H9 k9 => ?_
 have h9 : ae (gl p (σ.lay f w most) * (blk b (.cells false [vp p, vp x]) * (blk b2 (.cells false (i6.cells σ.c)) * (aM x (σ.make 0 ⟨f, most, max (σ.c.un / w.toNat) 1⟩) * R)))) H9 := by
  refine pL gp hgp ?_;unfold aD;exact k9.to
 refine gs ?_;refine ap h9 aE rfl ?_;obtain ⟨gx, hgx, l9⟩ := fc (p := x) (σ := σ.make 0 ⟨f, most, max (σ.c.un / w.toNat) 1⟩) (R := blk b (.cells false [vp p, vp x]) * (blk b2 (.cells false (i6.cells σ.c)) * (gl p (σ.lay f w most) * R))) (H := H9) h9.to;unfold aw at l9;refine gs ?_;refine ap l9 ac rfl ?_;refine gs ?_;refine ap l9 aE rfl ?_;refine gs ?_;refine aa (uX (by omega)) ?_;refine gs ?_;refine ap l9 aE rfl ?_;refine gs ?_;refine aa (Qs (by omega) (by omega) (by omega)) ?_;refine gs ?_;refine af l9 (UJ gx.tb gx.m σ.c.sh.toNat σ.c.sl.toNat (σ.make 0 ⟨f, most, max (σ.c.un / w.toNat) 1⟩).μ 0 (f.tmod σ.c.sh) (f.tdiv σ.c.sh) f σ.obs.length (by simp [aS.make]; omega) hf (by omega)) fun _ H10 l10 => ?_
 have h10 : ae (aM x (σ.lay f w most) * (blk b (.cells false [vp p, vp x]) * (blk b2 (.cells false (i6.cells σ.c)) * (gl p (σ.lay f w most) * R)))) H10 := by
  refine dc gx ⟨hgx.1, hgx.2.1, fT hgx.2.2 (by simp [aS.lay, aS.make])⟩ ?_;unfold aw;have l11 := pC (L' := σ.μ.N + 2 + 2) (by omega) (ae.fr (A := iS gx.ib gx.m σ.c.sh σ.nx (σ.μ.N + 2)) l10);exact l11.to
 refine gs ?_;exact aq ⟨(), rfl, h10.to⟩
end
def aS.made (c : i6) : Nat → aS
 | 0 => aS.new c
 | f + 1 => if (f : Int).tdiv c.sh < c.sl then (aS.made c f).lay f (1 + f) (2 + (f : Int).tmod 2) else aS.made c f
theorem Qa (c : i6) : ∀ n, (aS.made c n).c = c ∧ (aS.made c n).μ.N ≤ 4 * n ∧ (aS.made c n).obs.length ≤ n := by
 intro n
 induction n with
 | zero => exact ⟨rfl, bB _, bB _⟩
 | succ n ih =>
  obtain ⟨h1, h2, h3⟩ := ih;unfold aS.made
  split
  ·refine ⟨h1, ?_, ?_⟩
   ·simp [aS.lay, aS.make]; omega
   ·simp [aS.lay, aS.make]; omega
  ·exact ⟨h1, by omega, by omega⟩
theorem yz (b : Nat) : ai .ptr .eql (vp b) (.pointer none) = some (vb false) := rfl
theorem ae1 (c0 : i6) (n : Nat) (hn : n ≤ 16) : Sp uq [.agg (i6.cells c0).toArray, vi n] emp (fun g : Nat × Nat × i6 => .tuple #[.agg [vp g.1, vp g.2.1].toArray, vb true])
 (fun g => pu (cI g.2.2 = true) * (gl g.1 (aS.made g.2.2 n) * aM g.2.1 (aS.made g.2.2 n))) := by
 refine bh (MH _ _) fun R H h => ?_;refine aX h fun b H1 h1 => ?_;refine br h1 fun b2 H2 h2 => ?_;refine aR h2 ?_;refine af h2 (M6 c0) fun c H3 h3 => ?_;rw [ae.pu] at h3;obtain ⟨hc, h3⟩ := h3;refine ej h3 rfl rfl fun H4 h4 => ?_;refine aR h4 ?_;refine af h4 (Qm c hc) fun p H5 h5 => ?_;refine aa (v := vp p) rfl ?_;refine aa (v := vi 0) rfl ?_;refine aa (rJ rfl) ?_;refine gs ?_;refine aa (yz _) ?_;refine gs ?_;obtain ⟨g, hg, k5⟩ := nA (p := p) (σ := aS.new c) (R := blk b2 (.cells false [.pointer none, .pointer none]) * (blk b (.cells false (i6.cells c)) * R)) (H := H5) h5.to;unfold aD at k5;refine ap k5 ac rfl ?_;refine gs ?_;refine aa (yz _) ?_;refine gs ?_;refine ap k5 ac rfl ?_;refine gs ?_;refine aa (yz _) ?_;refine gs ?_;refine ap k5 ac rfl ?_;refine gs ?_;refine aa (yz _) ?_;refine gs ?_;refine ap k5 ac rfl ?_;refine gs ?_;refine aa (yz _) ?_;refine gs ?_;refine ap k5 ac rfl ?_;refine gs ?_;refine aa (yz _) ?_;refine gs ?_;refine aR h5 ?_;refine af h5 (J7 c hc) fun x H6 h6 => ?_;refine je ?_;refine br h6 fun b3 H7 h7 => ?_;refine ej h7 rfl rfl fun H8 h8 => ?_;refine ah (DY _ _ _ _ _ H8) ?_;refine ah (D0 _ _ _ _ _ _ H8) ?_;have hr := bD.1 hc;have loop : ∀ (d i : Nat) (H : AH), i + d = n → ae (blk b3 (.cells false [vp p, vp x]) * (blk b2 (.cells false [.pointer none, .pointer none]) * (blk b (.cells false (i6.cells c)) * (gl p (aS.made c i) * (aM x (aS.made c i) * R))))) H →
  wp (nh (vi n) (vp b) (vp b2) (vb false) (vp b3) (vi i) H) fun v' H' => ∃ g : Nat × Nat × i6, v' = .tuple #[.agg [vp g.1, vp g.2.1].toArray, vb true] ∧ ae (pu (cI g.2.2 = true) * (gl g.1 (aS.made g.2.2 n) * aM g.2.1 (aS.made g.2.2 n)) * R) H' := by
  intro d
  induction d with
  | zero =>
   intro i H hi h;refine ah (rk _ _ _ _ _ _ H) ?_;refine aa (bW (by omega)) ?_;refine gs ?_;refine ah (yh _ _ _ H) ?_;refine ah (DZ _ _ _ H) ?_;refine aR h ?_;refine ej h rfl rfl fun H2 h2 => ?_;refine aR h2 ?_;refine aq ⟨(p, x, c), rfl, ?_⟩;rw [ak, ae.pu]
   have e : i = n := by omega
   subst e;exact ⟨hc, h2.to⟩
  | succ d ih =>
   intro i H hi h;obtain ⟨m1, m2, m3⟩ := Qa c i;have q0 : 0 ≤ (i : Int).tdiv c.sh := Int.tdiv_nonneg (by omega) (by omega);have q1 : (i : Int).tdiv c.sh ≤ i := Int.tdiv_le_self _ (by omega);have t0 : 0 ≤ (i : Int).tmod 2 := Int.tmod_nonneg _ (by omega);have t1 : (i : Int).tmod 2 < 2 := Int.tmod_lt_of_pos _ (by omega);have next : ∀ {H : AH}, ae (blk b3 (.cells false [vp p, vp x]) * (blk b2 (.cells false [.pointer none, .pointer none]) * (blk b (.cells false (i6.cells c)) * (gl p (aS.made c (i + 1)) * (aM x (aS.made c (i + 1)) * R))))) H →
    wp (rm (vi n) (vp b) (vp b2) (vb false) (vp b3) (vi i) H) fun v' H' => ∃ g : Nat × Nat × i6, v' = .tuple #[.agg [vp g.1, vp g.2.1].toArray, vb true] ∧ ae (pu (cI g.2.2 = true) * (gl g.1 (aS.made g.2.2 n) * aM g.2.1 (aS.made g.2.2 n)) * R) H' := by
    intro H h;refine ah (D4 _ _ _ _ _ _ H) ?_;refine aa (aH (by omega) (by omega)) ?_;exact ih (i + 1) H (by omega) h
   refine ah (rk _ _ _ _ _ _ H) ?_;refine aa (cz (by omega)) ?_;refine gs ?_;refine ah (D3 _ _ _ _ _ _ H) ?_;refine ap h aE rfl ?_;refine aa (Qs (by omega) (by omega) (by omega)) ?_;refine ap h aE rfl ?_
   by_cases hf : (i : Int).tdiv c.sh < c.sl
   ·have e : aS.made c (i + 1) = (aS.made c i).lay i (1 + i) (2 + (i : Int).tmod 2) := by show (if _ then _ else _) = _; rw [if_pos hf]
    rw [e] at next;refine aa (cz hf) ?_;refine gs ?_;refine aR h ?_;refine gs ?_;refine aa (aH (by omega) (by omega)) ?_;refine gs ?_;refine aa (uX (by omega)) ?_;refine gs ?_;refine aa (aH (by omega) (by omega)) ?_;refine gs ?_;refine af h (alC p (aS.made c i) x i (1 + i) (2 + (i : Int).tmod 2) (by rw [m1]; exact hc) (by omega) (by omega) (by omega) (by omega)) fun _ H2 h2 => ?_;refine gs ?_;rw [Bool.not_true];refine gs ?_;exact next h2.to
   ·have e : aS.made c (i + 1) = aS.made c i := by show (if _ then _ else _) = _; rw [if_neg hf]
    rw [e] at next;refine aa (bW hf) ?_;refine gs ?_;exact next h
 exact loop n 0 H8 (by omega) (show ae (blk b3 (.cells false [vp p, vp x]) * (blk b2 (.cells false [.pointer none, .pointer none]) * (blk b (.cells false (i6.cells c)) * (gl p (aS.new c) * (aM x (aS.new c) * R))))) H8 from h8.to)
theorem NV {o : Nat} {x : Value} {k : Value → OV} {Q : Value → AH → Prop} (h : wp (k undef) Q) : wp (FQ (vb false) true [.n, .f o] x k) Q := h
theorem kW {p : List Stp} {x : Value} {k : Value → OV} {Q : Value → AH → Prop} (h : wp (ad p x k) Q) : wp (FQ (vb true) true p x k) Q := by rw [PY]; exact h
section
variable {m i rp : Nat} {cs : List Pk} {R : SP} {H : AH}
theorem cJ (h : ae (cM m i rp cs * R) H) : ∃ cv, ae (blk rp (.cells false [vp m, vi i, cv]) * (ts 3 Pk.cells cv cs * R)) H := by
 obtain ⟨cv, h1⟩ := ae.ex.1 h;exact ⟨cv, h1.to⟩
theorem zL {cv : Value} (h : ae (blk rp (.cells false [vp m, vi i, cv]) * (ts 3 Pk.cells cv cs * R)) H) : ae (cM m i rp cs * R) H :=
 ae.ex.2 ⟨cv, h.to⟩
theorem fZ (h : ae (dj m i rp cs * R) H) : ∃ cv, ae (blk rp (.cells false [vp m, vi i, vi cs.length, cv]) * (ts 3 Pk.cells cv cs * R)) H := by
 obtain ⟨cv, h1⟩ := ae.ex.1 h;exact ⟨cv, h1.to⟩
theorem nG {cv : Value} (h : ae (blk rp (.cells false [vp m, vi i, vi cs.length, cv]) * (ts 3 Pk.cells cv cs * R)) H) : ae (dj m i rp cs * R) H :=
 ae.ex.2 ⟨cv, h.to⟩
end
section
variable (m i rp : Nat) (cs : List Pk) (μ : Mu)
theorem xd (kind cell : Int) : Sp ed [vp rp, vi kind, vi cell] (cM m i rp cs) (fun _ : Unit => fg (kind, (i : Int), cell)) (fun _ => cM m i rp cs) := by
 refine aK fun R H h => ?_;obtain ⟨cv, h0⟩ := cJ h;refine bm (fun r => A8 _ _ _ H) ?_;refine br h0 fun b H1 h1 => ?_;refine ap h1 ac rfl ?_;refine je ?_;refine ej h1 rfl rfl fun H2 h2 => ?_;refine aR h2 ?_;exact aq ⟨(), rfl, zL (cv := cv) h2.to⟩
theorem yX (who : Int) (hE : μ.N < 1099511627000) : Sp fG [vp rp, vi who] (cM m i rp cs * bL m μ) (fun _ : Unit => vu (μ.V (11, (i : Int), 0))) (fun _ => cM m i rp cs * bL m (μ.acc who 1 (11, (i : Int), 0))) := by
 refine aK fun R H h => ?_;obtain ⟨cv, h0⟩ := cJ (m := m) (i := i) (rp := rp) (cs := cs) (R := bL m μ * R) (H := H) h.to;refine bm (fun r => w9 _ _ H) ?_;refine bE ac ?_;refine aQ h0 rfl ?_;refine af h (xd m i rp cs 11 0) fun _ H1 h1 => ?_;obtain ⟨cv1, k1⟩ := cJ h1;refine aJ k1 h0 (by rfl) ?_;refine af h1 (El m μ who (11, (i : Int), 0) (by omega)) fun _ H2 h2 => ?_;exact aq ⟨(), rfl, h2.to⟩
theorem Hn (who : Int) (hE : μ.N < 1099511627000) : Sp g6 [vp rp, vi who] (cM m i rp cs * bL m μ) (fun _ : Unit => vu (μ.V (12, (i : Int), 0))) (fun _ => cM m i rp cs * bL m (μ.acc who 1 (12, (i : Int), 0))) := by
 refine aK fun R H h => ?_;obtain ⟨cv, h0⟩ := cJ (m := m) (i := i) (rp := rp) (cs := cs) (R := bL m μ * R) (H := H) h.to;refine bm (fun r => w6 _ _ H) ?_;refine bE ac ?_;refine aQ h0 rfl ?_;refine af h (xd m i rp cs 12 0) fun _ H1 h1 => ?_;obtain ⟨cv1, k1⟩ := cJ h1;refine aJ k1 h0 (by rfl) ?_;refine af h1 (El m μ who (12, (i : Int), 0) (by omega)) fun _ H2 h2 => ?_;exact aq ⟨(), rfl, h2.to⟩
def gq (w h k : Nat) : Bool := decide (h ≤ aL w ∧ k ≤ aL w - h)
theorem Hm (w h : Nat) (hw : w < 18446744073709551616) (hc : cs.length < 1000) : Sp gZ [vp rp, vu w, vu h] (cM m i rp cs) (fun _ : Unit => vb (gq w h cs.length)) (fun _ => cM m i rp cs) := by
 refine aK fun R H hh => ?_;have hl := eG w;refine bm (fun r => w5 _ _ _ H) ?_;refine af hh (i3 w hw) fun _ H1 h1 => ?_
 by_cases hle : h ≤ aL w
 ·refine aa (zm (by omega)) ?_
  refine gs ?_;refine aa (Gl hle (by omega)) ?_;obtain ⟨cv, h2⟩ := cJ (m := m) (i := i) (rp := rp) (cs := cs) (R := R) (H := H1) h1.to;refine gs ?_;refine ap h2 ac rfl ?_;refine gs ?_;refine BO (s := cv) (l := cs) h2 ?_;refine gs ?_;refine aa (dQ (by omega) (by omega)) ?_;rw [show ((cs.length : Nat) : Int).toNat = cs.length from v9 _];refine gs ?_
  by_cases hk : cs.length ≤ aL w - h
  ·refine aa (zm (by omega)) ?_
   refine gs ?_;exact aq ⟨(), by rw [gq, d4 ⟨hle, hk⟩], h1.to⟩
  ·refine aa (q9 (by omega)) ?_
   refine gs ?_;exact aq ⟨(), by rw [gq, d6 (fun q => hk q.2)], h1.to⟩
 ·refine aa (q9 (by omega)) ?_
  refine gs ?_;exact aq ⟨(), by rw [gq, d6 (fun q => hle q.1)], h1.to⟩
abbrev Mu.turn (μ : Mu) (who : Int) (i w : Nat) (o : Option Nat) : Mu := match o with
 | none => μ
 | some n => μ.swp who (11, (i : Int), 0) w n
def fi (μ : Mu) (i w : Nat) (o : Option Nat) : Bool := o.isSome && decide (μ.V (11, (i : Int), 0) = w)
theorem Hq (who : Int) (w fn : Nat) (o : Option Nat) (hf : Sp fn [vu w] emp (fun _ : Unit => JU o) (fun _ => emp)) (hE : μ.N < 1099511627000) :
 Sp g8 [vp rp, vi who, vu w, .func (.func fn) #[] #[]] (cM m i rp cs * bL m μ) (fun _ : Unit => vb (fi μ i w o)) (fun _ => cM m i rp cs * bL m (μ.turn who i w o)) := by
 refine bh (xa _ _ _ _) fun R H h => ?_;refine ah (show (cf (.func (.func fn) #[] #[]) [vu w]).bind _ = _ from rfl) ?_;refine af h hf fun _ H1 h1 => ?_
 cases o with
 | none =>
  refine aa (v := vw 0) rfl ?_;refine aa (v := vb false) rfl ?_;refine gs ?_;refine NV ?_;refine gs ?_;refine Fq rfl ?_;refine gs ?_;exact aq ⟨(), rfl, h1.to⟩
 | some n =>
  refine aa (v := vu n) rfl ?_;refine aa (v := vb true) rfl ?_;refine gs ?_;refine kW ?_;obtain ⟨cv, k1⟩ := cJ (m := m) (i := i) (rp := rp) (cs := cs) (R := bL m μ * R) (H := H1) h1.to;refine bE ac ?_;refine gs ?_;refine aQ k1 rfl ?_;refine gs ?_;refine af h1 (xd m i rp cs 11 0) fun _ H2 h2 => ?_;obtain ⟨cv2, k2⟩ := cJ (m := m) (i := i) (rp := rp) (cs := cs) (R := bL m μ * R) (H := H2) h2.to;refine aJ k2 k1 (by rfl) ?_;refine gs ?_;refine af h2 (Qj m μ who (11, (i : Int), 0) w n (by omega)) fun _ H3 h3 => ?_;refine gs ?_;exact aq ⟨(), rfl, h3.to⟩
theorem ES (who : Int) (w : Nat) (hw : w < 18446744073709551616) (hE : μ.N < 1099511627000) : Sp gv [vp rp, vi who, vu w] (cM m i rp cs * bL m μ) (fun _ : Unit => vb (fi μ i w (aY w 0))) (fun _ => cM m i rp cs * bL m (μ.turn who i w (aY w 0))) := by
 refine bh (uY _ _ _) fun R H h => ?_;refine af h (Hq m i rp cs μ who w nl (aY w 0) (ZB w hw) hE) fun _ H1 h1 => ?_;exact aq ⟨(), rfl, h1.to⟩
theorem YI (who : Int) (w : Nat) (hw : w < 18446744073709551616) (hE : μ.N < 1099511627000) : Sp ka [vp rp, vi who, vu w] (cM m i rp cs * bL m μ) (fun _ : Unit => vb (fi μ i w (aY w 2))) (fun _ => cM m i rp cs * bL m (μ.turn who i w (aY w 2))) := by
 refine bh (w8 _ _ _) fun R H h => ?_;refine af h (Hq m i rp cs μ who w nq (aY w 2) (ZC w hw) hE) fun _ H1 h1 => ?_;exact aq ⟨(), rfl, h1.to⟩
end
section
variable (m i rp : Nat) (cs : List Pk) (μ : Mu)
theorem RN (who : Int) (hE : μ.N < 1099511627000) : Sp lk [vp rp, vi who] (dj m i rp cs * bT m μ) (fun _ : Unit => vu (μ.V (11, (i : Int), 0))) (fun _ => dj m i rp cs * bT m (μ.acc who 1 (11, (i : Int), 0))) := by
 refine aK fun R H h => ?_;obtain ⟨cv, h0⟩ := fZ (m := m) (i := i) (rp := rp) (cs := cs) (R := bT m μ * R) (H := H) h.to;refine bm (fun r => yK _ _ H) ?_;refine bE ac ?_;refine aQ h0 rfl ?_;refine ap h0 ac rfl ?_;refine af h0 (eh 11 (i : Int) 0) fun _ H1 h1 => ?_;refine aJ h1 h0 (by rfl) ?_;refine af h1 (rX m μ who (11, (i : Int), 0) (by omega)) fun _ H2 h2 => ?_;exact aq ⟨(), rfl, (nG (m := m) (i := i) (rp := rp) (cs := cs) (cv := cv) (R := bT m (μ.acc who 1 (11, (i : Int), 0)) * R) h2.to).to⟩
theorem FA (who : Int) (hE : μ.N < 1099511627000) : Sp iJ [vp rp, vi who] (dj m i rp cs * bT m μ) (fun _ : Unit => vu (μ.V (12, (i : Int), 0))) (fun _ => dj m i rp cs * bT m (μ.acc who 1 (12, (i : Int), 0))) := by
 refine aK fun R H h => ?_;obtain ⟨cv, h0⟩ := fZ (m := m) (i := i) (rp := rp) (cs := cs) (R := bT m μ * R) (H := H) h.to;refine bm (fun r => yH _ _ H) ?_;refine bE ac ?_;refine aQ h0 rfl ?_;refine ap h0 ac rfl ?_;refine af h0 (eh 12 (i : Int) 0) fun _ H1 h1 => ?_;refine aJ h1 h0 (by rfl) ?_;refine af h1 (rX m μ who (12, (i : Int), 0) (by omega)) fun _ H2 h2 => ?_;exact aq ⟨(), rfl, (nG (m := m) (i := i) (rp := rp) (cs := cs) (cv := cv) (R := bT m (μ.acc who 1 (12, (i : Int), 0)) * R) h2.to).to⟩
theorem Fz (w h : Nat) (hw : w < 18446744073709551616) (hc : cs.length < 1000) : Sp iI [vp rp, vu w, vu h] (dj m i rp cs) (fun _ : Unit => vb (gq w h cs.length)) (fun _ => dj m i rp cs) := by
 refine aK fun R H hh => ?_;have hl := eG w;refine bm (fun r => yG _ _ _ H) ?_;refine af hh (oQ w hw) fun _ H1 h1 => ?_;refine aa (v := vu (aL w)) rfl ?_;refine aa (v := vi (ba w)) rfl ?_;refine aa (v := vb (cS w)) rfl ?_
 by_cases hle : h ≤ aL w
 ·refine aa (zm (by omega)) ?_
  refine gs ?_;refine aa (Gl hle (by omega)) ?_;obtain ⟨cv, h2⟩ := fZ (m := m) (i := i) (rp := rp) (cs := cs) (R := R) (H := H1) h1.to;refine gs ?_;refine ap h2 ac rfl ?_;refine gs ?_;refine aa (dQ (by omega) (by omega)) ?_;rw [show ((cs.length : Nat) : Int).toNat = cs.length from v9 _];refine gs ?_
  by_cases hk : cs.length ≤ aL w - h
  ·refine aa (zm (by omega)) ?_
   refine gs ?_;exact aq ⟨(), by rw [gq, d4 ⟨hle, hk⟩], h1.to⟩
  ·refine aa (q9 (by omega)) ?_
   refine gs ?_;exact aq ⟨(), by rw [gq, d6 (fun q => hk q.2)], h1.to⟩
 ·refine aa (q9 (by omega)) ?_
  refine gs ?_;exact aq ⟨(), by rw [gq, d6 (fun q => hle q.1)], h1.to⟩
theorem FC (who : Int) (w how : Nat) (hh : how < 3) (hw : w < 18446744073709551616) (hE : μ.N < 1099511627000) :
 Sp iL [vp rp, vi who, vu w, vi (how : Int)] (dj m i rp cs * bT m μ) (fun _ : Unit => vb (fi μ i w (aY w how))) (fun _ => dj m i rp cs * bT m (μ.turn who i w (aY w how))) := by
 refine bh (yJ _ _ _ _) fun R H h => ?_;refine af h (Qu w how hw hh) fun _ H1 h1 => ?_
 generalize aY w how = o at h1 ⊢
 cases o with
 | none =>
  refine aa (v := vw 0) rfl ?_;refine aa (v := vb false) rfl ?_;refine gs ?_;refine NV ?_;refine gs ?_;refine Fq rfl ?_;refine gs ?_;exact aq ⟨(), rfl, h1.to⟩
 | some n =>
  refine aa (v := vu n) rfl ?_;refine aa (v := vb true) rfl ?_;refine gs ?_;refine kW ?_;obtain ⟨cv, k1⟩ := fZ (m := m) (i := i) (rp := rp) (cs := cs) (R := bT m μ * R) (H := H1) h1.to;refine bE ac ?_;refine gs ?_;refine aQ k1 rfl ?_;refine gs ?_;refine ap k1 ac rfl ?_;refine gs ?_;refine af k1 (eh 11 (i : Int) 0) fun _ H2 k2 => ?_;refine aJ k2 k1 (by rfl) ?_;refine gs ?_;refine af k2 (Ey m μ who (11, (i : Int), 0) w n (by omega)) fun _ H3 k3 => ?_;refine gs ?_;refine aq ⟨(), rfl, ?_⟩;have h3 := nG (m := m) (i := i) (rp := rp) (cs := cs) (cv := cv) (R := bT m (μ.swp who (11, (i : Int), 0) w n) * R) (H := H3) k3.to;exact h3.to
end
section
variable (m i rp : Nat) (cs : List Pk) (μ : Mu)
theorem Hl (n : Nat) (h0 : 1 ≤ cs.length ∧ cs.length < 1000) : Sp dq [vp rp, vu n] (cM m i rp cs) (fun _ : Unit => vi ((n % cs.length : Nat) : Int)) (fun _ => cM m i rp cs) := by
 have hlt : n % cs.length < cs.length := Nat.mod_lt _ (by omega);refine aK fun R H h => ?_;obtain ⟨cv, k⟩ := cJ h;refine bm (fun r => nH _ _ H) ?_;refine ap k ac rfl ?_;refine i0 (s := cv) (l := cs) k ?_;refine aa (dQ (by omega) (by omega)) ?_;rw [show ((cs.length : Nat) : Int).toNat = cs.length from v9 _];refine aa (jU (by omega)) ?_;refine aa (iE (by omega)) ?_;exact aq ⟨(), rfl, h⟩
theorem RM (n : Nat) (h0 : 1 ≤ cs.length ∧ cs.length < 1000) : Sp eD [vp rp, vu n] (dj m i rp cs) (fun _ : Unit => vi ((n % cs.length : Nat) : Int)) (fun _ => dj m i rp cs) := by
 have hlt : n % cs.length < cs.length := Nat.mod_lt _ (by omega);refine aK fun R H h => ?_;obtain ⟨cv, k⟩ := fZ h;refine bm (fun r => oR _ _ H) ?_;refine ap k ac rfl ?_;refine aa (dQ (by omega) (by omega)) ?_;rw [show ((cs.length : Nat) : Int).toNat = cs.length from v9 _];refine aa (jU (by omega)) ?_;refine aa (iE (by omega)) ?_;exact aq ⟨(), rfl, h⟩
theorem Ho (who : Int) (n : Nat) (hn : n < 18446744073709551615) (h0 : 1 ≤ cs.length ∧ cs.length < 1000) (hE : μ.N < 1099511627000) :
 Sp g7 [vp rp, vi who, vu n] (cM m i rp cs * bL m μ) (fun _ : Unit => .tuple #[]) (fun _ => cM m i rp cs * bL m ((μ.acc who 2 (15, (i : Int), ((n % cs.length : Nat) : Int))).put (15, (i : Int), ((n % cs.length : Nat) : Int)) (n + 1))) := by
 refine aK fun R H h => ?_;obtain ⟨cv, k0⟩ := cJ (m := m) (i := i) (rp := rp) (cs := cs) (R := bL m μ * R) (H := H) h.to;refine bm (fun r => w7 _ _ _ H) ?_;refine bE ac ?_;refine aQ k0 rfl ?_;refine af h (Hl m i rp cs n h0) fun _ H1 h1 => ?_;obtain ⟨cv1, k1⟩ := cJ h1;refine aJ k1 k0 (by rfl) ?_;refine af h1 (xd m i rp cs 15 ((n % cs.length : Nat) : Int)) fun _ H2 h2 => ?_;obtain ⟨cv2, k2⟩ := cJ h2;refine aJ k2 k0 (by rfl) ?_;refine aa (gi (b := 1) (by omega)) ?_;refine af h2 (BD m μ who (15, (i : Int), ((n % cs.length : Nat) : Int)) (n + 1) (by omega)) fun _ H3 h3 => ?_;exact aq ⟨(), rfl, h3.to⟩
theorem FB (who : Int) (n : Nat) (hn : n < 18446744073709551615) (h0 : 1 ≤ cs.length ∧ cs.length < 1000) (hE : μ.N < 1099511627000) :
 Sp iK [vp rp, vi who, vu n] (dj m i rp cs * bT m μ) (fun _ : Unit => .tuple #[]) (fun _ => dj m i rp cs * bT m ((μ.acc who 2 (15, (i : Int), ((n % cs.length : Nat) : Int))).put (15, (i : Int), ((n % cs.length : Nat) : Int)) (n + 1))) := by
 refine aK fun R H h => ?_;obtain ⟨cv, k0⟩ := fZ (m := m) (i := i) (rp := rp) (cs := cs) (R := bT m μ * R) (H := H) h.to;refine bm (fun r => yI _ _ _ H) ?_;refine bE ac ?_;refine aQ k0 rfl ?_;refine bE ac ?_;refine aQ k0 rfl ?_;refine af h (RM m i rp cs n h0) fun _ H1 h1 => ?_;obtain ⟨cv1, k1⟩ := fZ h1;refine aJ k1 k0 (by rfl) ?_;refine aJ k1 k0 (by rfl) ?_;refine af h1 (eh 15 (i : Int) ((n % cs.length : Nat) : Int)) fun _ H2 h2 => ?_;obtain ⟨cv2, k2⟩ := fZ (m := m) (i := i) (rp := rp) (cs := cs) (R := bT m μ * R) (H := H2) h2.to;refine aJ k2 k0 (by rfl) ?_;refine aa (gi (b := 1) (by omega)) ?_;refine af h2 (s7 m μ who (15, (i : Int), ((n % cs.length : Nat) : Int)) (n + 1) (by omega)) fun _ H3 h3 => ?_;exact aq ⟨(), rfl, h3.to⟩
theorem agZ (who : Int) (n : Nat) (x : Pk) (h0 : 1 ≤ cs.length ∧ cs.length < 1000) (hE : μ.N < 1099511627000) :
 Sp ll [vp rp, vi who, vu n, .agg (Pk.cells x).toArray] (cM m i rp cs * bL m μ) (fun _ : Unit => .tuple #[]) (fun _ => cM m i rp (cs.set (n % cs.length) x) * bL m (μ.acc who 6 (16, (i : Int), ((n % cs.length : Nat) : Int)))) := by
 have hlt : n % cs.length < cs.length := Nat.mod_lt _ (by omega);refine bh (yW _ _ _ _) fun R H h => ?_;refine aX h fun b H1 h1 => ?_;obtain ⟨cv, k1⟩ := cJ (m := m) (i := i) (rp := rp) (cs := cs) (R := bL m μ * (blk b (.cells false (Pk.cells x)) * R)) (H := H1) h1.to;refine bE ac ?_;refine aQ k1 rfl ?_;refine af h1 (Hl m i rp cs n h0) fun _ H2 h2 => ?_;obtain ⟨cv2, k2⟩ := cJ h2;refine aJ k2 k1 (by rfl) ?_;refine af h2 (xd m i rp cs 16 ((n % cs.length : Nat) : Int)) fun _ H3 h3 => ?_;obtain ⟨cv3, k3⟩ := cJ h3;refine aJ k3 k1 (by rfl) ?_;refine af h3 ((sZ m μ who (16, (i : Int), ((n % cs.length : Nat) : Int)) (by omega)).imp fun _ R H h => kp (N' := μ.N + 2) (by simp) h) fun _ H4 h4 => ?_;obtain ⟨cv4, k4⟩ := cJ (m := m) (i := i) (rp := rp) (cs := cs) (R := bL m (μ.acc who 6 (16, (i : Int), ((n % cs.length : Nat) : Int))) * (blk b (.cells false (Pk.cells x)) * R)) (H := H4) h4.to;refine bE ac ?_;refine aQ k4 rfl ?_
 -- a cell is told once more, of the same ring
 have again : ∀ {k : Value × AH → OV} {Q : Value → AH → Prop}, (∀ H5, ae (blk rp (.cells false [vp m, vi i, cv4]) * (ts 3 Pk.cells cv4 cs * (bL m (μ.acc who 6 (16, (i : Int), ((n % cs.length : Nat) : Int))) * (blk b (.cells false (Pk.cells x)) * R)))) H5 → wp (k (vi ((n % cs.length : Nat) : Int), H5)) Q) → wp ((FF dq [vp rp, vu n] H4).bind k) Q := by
  intro k Q hk
  have cell4 : Sp dq [vp rp, vu n] (blk rp (.cells false [vp m, vi i, cv4]) * ts 3 Pk.cells cv4 cs) (fun _ : Unit => vi ((n % cs.length : Nat) : Int)) (fun _ => blk rp (.cells false [vp m, vi i, cv4]) * ts 3 Pk.cells cv4 cs) := by
   refine bh (nH _ _) fun R H h => ?_;refine ap h ac rfl ?_;refine i0 (s := cv4) (l := cs) h ?_;refine aa (dQ (by omega) (by omega)) ?_;rw [show ((cs.length : Nat) : Int).toNat = cs.length from v9 _];refine aa (jU (by omega)) ?_;refine aa (iE (by omega)) ?_;exact aq ⟨(), rfl, h⟩
  exact af k4 cell4 fun _ H5 h5 => hk H5 h5.to
 refine again fun H5 k5 => ?_;refine aJ k5 k4 (by rfl) ?_;refine aR k5 ?_;refine dZ k4 k5 rfl ?_;refine N2 (s := cv4) (l := cs) (i := n % cs.length) x k5 hlt (.inl ⟨rfl, rfl⟩) rfl (by omega) rfl rfl fun H6 k6 => ?_;refine aq ⟨(), rfl, ?_⟩;have h6 := zL (m := m) (i := i) (rp := rp) (cs := cs.set (n % cs.length) x) (cv := cv4) (R := bL m (μ.acc who 6 (16, (i : Int), ((n % cs.length : Nat) : Int))) * R) (H := H6) k6.to;exact h6.to
end
theorem xl (k a : Int) : Sp bI [vi k, vi a] emp (fun _ : Unit => fg (k, a, 0)) (fun _ => emp) := by
 refine bh (yf _ _) fun R H h => ?_;refine br h fun b H1 h1 => ?_;refine je ?_;refine ej h1 rfl rfl fun H2 h2 => ?_;refine aR h2 ?_;exact aq ⟨(), rfl, h2.to⟩
abbrev Mu.cnt (μ : Mu) (who : Int) (at' : cO) (n : Nat) : Mu := (μ.acc who 3 at').put at' ((μ.V at' + n) % 18446744073709551616)
section
variable (ib m nm : Nat) (c : i6) (nx : Int → Option Nat) (μ : Mu) (who : Int)
theorem MF (hE : μ.N < 1099511627000) : Sp ip [vp ib, vi who] (lI ib m nm c nx * bL m μ) (fun _ : Unit => .tuple #[]) (fun _ => lI ib m nm c nx * bL m (μ.cnt who (3, 0, 0) 4294967296)) := by
 refine bh (rh _ _) fun R H h => ?_;unfold lI at h ⊢;refine bE ac ?_;refine aQ h rfl ?_;refine af h (xl 3 0) fun _ H1 h1 => ?_;refine aJ h1 h (by rfl) ?_;refine af h1 (anM m μ who (3, 0, 0) 4294967296 (by omega)) fun _ H2 h2 => ?_;exact aq ⟨(), rfl, h2.to⟩
theorem GS (hE : μ.N < 1099511627000) : Sp gr [vp ib, vi who] (lI ib m nm c nx * bL m μ) (fun _ : Unit => .tuple #[]) (fun _ => lI ib m nm c nx * bL m (μ.cnt who (3, 0, 0) 1)) := by
 refine bh (uc _ _) fun R H h => ?_;unfold lI at h ⊢;refine bE ac ?_;refine aQ h rfl ?_;refine af h (xl 3 0) fun _ H1 h1 => ?_;refine aJ h1 h (by rfl) ?_;refine af h1 (anM m μ who (3, 0, 0) 1 (by omega)) fun _ H2 h2 => ?_;exact aq ⟨(), rfl, h2.to⟩
theorem XW (s : Int) (hE : μ.N < 1099511627000) : Sp jp [vp ib, vi who, vi s] (lI ib m nm c nx * bL m μ) (fun _ : Unit => vu (μ.V (9, s, 0))) (fun _ => lI ib m nm c nx * bL m (μ.acc who 1 (9, s, 0))) := by
 refine bh (ud _ _ _) fun R H h => ?_;unfold lI at h ⊢;refine bE ac ?_;refine aQ h rfl ?_;refine ap h ac rfl ?_;refine ah (show (cf (.func (.func bI) #[vi 9] #[]) [vi s]).bind _ = _ from rfl) ?_;refine af h (xl 9 s) fun _ H1 h1 => ?_;refine aJ h1 h (by rfl) ?_;refine af h1 (El m μ who (9, s, 0) (by omega)) fun _ H2 h2 => ?_;exact aq ⟨(), rfl, h2.to⟩
theorem P4 (s : Int) (top obj : Nat) (ho : obj < 4294967296) (hE : μ.N < 1099511627000) : Sp iV [vp ib, vi who, vi s, vu top, vi obj] (lI ib m nm c nx * bL m μ) (fun _ : Unit => vb (decide (μ.V (9, s, 0) = top))) (fun _ => lI ib m nm c nx * bL m (μ.swp who (9, s, 0) top (obj + 1))) := by
 refine bh (te _ _ _ _ _) fun R H h => ?_;unfold lI at h ⊢;refine bE ac ?_;refine aQ h rfl ?_;refine ap h ac rfl ?_;refine ah (show (cf (.func (.func bI) #[vi 9] #[]) [vi s]).bind _ = _ from rfl) ?_;refine af h (xl 9 s) fun _ H1 h1 => ?_;refine aJ h1 h (by rfl) ?_;refine aa (dQ (by omega) (by omega)) ?_;rw [show ((obj : Nat) : Int).toNat = obj from v9 _];refine aa (gi (b := 1) (by omega)) ?_;refine af h1 (Qj m μ who (9, s, 0) top (obj + 1) (by omega)) fun _ H2 h2 => ?_;exact aq ⟨(), rfl, h2.to⟩
theorem P1 (obj : Int) (next : Nat) (hE : μ.N < 1099511627000) : Sp iU [vp ib, vi who, vi obj, vu next] (lI ib m nm c nx * bL m μ) (fun _ : Unit => .tuple #[]) (fun _ => lI ib m nm c (fun k => if k = obj then some next else nx k) * bL m (μ.acc who 6 (14, obj, 0))) := by
 refine bh (td _ _ _ _) fun R H h => ?_;unfold lI at h ⊢;refine bE ac ?_;refine aQ h rfl ?_;refine ap h ac rfl ?_;refine ah (show (cf (.func (.func bI) #[vi 14] #[]) [vi obj]).bind _ = _ from rfl) ?_;refine af h (xl 14 obj) fun _ H1 h1 => ?_;refine aJ h1 h (by rfl) ?_;refine af h1 ((sZ m μ who (14, obj, 0) (by omega)).imp fun _ R H h => kp (N' := μ.N + 2) (by simp) h) fun _ H2 h2 => ?_;refine ap h2 ac rfl ?_;refine aiO (ek := N9) obj (vu next) h2 fun H3 h3 => ?_;refine aq ⟨(), rfl, ?_⟩
 have e : (fun k => ((if k = obj then some next else nx k) : Option Nat).map fun n => vu n) = fun x => if x = obj then some (vu next) else (nx x).map fun n => vu n := by
  funext k
  split <;> rfl
 rw [e];exact h3.to
end
section
variable (ib m : Nat) (sh : Int) (nx : Int → Option Nat) (L : Nat) (μ : Mu) (who : Int)
theorem KV (hE : μ.N < 1099511627000) : Sp ju [vp ib, vi who] (iS ib m sh nx L * bT m μ) (fun _ : Unit => .tuple #[]) (fun _ => iS ib m sh nx L * bT m (μ.cnt who (3, 0, 0) 4294967296)) := by
 refine aK fun R H h => ?_;obtain ⟨kv, nv, ns, hn, h0⟩ := oH (ib := ib) (m := m) (sh := sh) (nx := nx) (L := L) (R := bT m μ * R) (H := H) h.to;refine bm (fun r => uB _ _ H) ?_;refine bE ac ?_;refine aQ h0 rfl ?_;refine af h0 (eh 3 0 0) fun _ H1 h1 => ?_;refine aJ h1 h0 (by rfl) ?_;refine af h1 (UH m μ who (3, 0, 0) 4294967296 (by omega)) fun _ H2 h2 => ?_;have h3 := iT (ib := ib) (m := m) (sh := sh) (nx := nx) (L := L) (kv := kv) (nv := nv) (ns := ns) (R := bT m (μ.cnt who (3, 0, 0) 4294967296) * R) (H := H2) hn h2.to;exact aq ⟨(), rfl, h3.to⟩
theorem Fy (hE : μ.N < 1099511627000) : Sp iH [vp ib, vi who] (iS ib m sh nx L * bT m μ) (fun _ : Unit => .tuple #[]) (fun _ => iS ib m sh nx L * bT m (μ.cnt who (3, 0, 0) 1)) := by
 refine aK fun R H h => ?_;obtain ⟨kv, nv, ns, hn, h0⟩ := oH (ib := ib) (m := m) (sh := sh) (nx := nx) (L := L) (R := bT m μ * R) (H := H) h.to;refine bm (fun r => yB _ _ H) ?_;refine bE ac ?_;refine aQ h0 rfl ?_;refine af h0 (eh 3 0 0) fun _ H1 h1 => ?_;refine aJ h1 h0 (by rfl) ?_;refine af h1 (UH m μ who (3, 0, 0) 1 (by omega)) fun _ H2 h2 => ?_;have h3 := iT (ib := ib) (m := m) (sh := sh) (nx := nx) (L := L) (kv := kv) (nv := nv) (ns := ns) (R := bT m (μ.cnt who (3, 0, 0) 1) * R) (H := H2) hn h2.to;exact aq ⟨(), rfl, h3.to⟩
theorem RK (s : Int) (hE : μ.N < 1099511627000) : Sp lh [vp ib, vi who, vi s] (iS ib m sh nx L * bT m μ) (fun _ : Unit => vu (μ.V (9, s, 0))) (fun _ => iS ib m sh nx L * bT m (μ.acc who 1 (9, s, 0))) := by
 refine aK fun R H h => ?_;obtain ⟨kv, nv, ns, hn, h0⟩ := oH (ib := ib) (m := m) (sh := sh) (nx := nx) (L := L) (R := bT m μ * R) (H := H) h.to;refine bm (fun r => yC _ _ _ H) ?_;refine bE ac ?_;refine aQ h0 rfl ?_;refine af h0 (eh 9 s 0) fun _ H1 h1 => ?_;refine aJ h1 h0 (by rfl) ?_;refine af h1 (rX m μ who (9, s, 0) (by omega)) fun _ H2 h2 => ?_;have h3 := iT (ib := ib) (m := m) (sh := sh) (nx := nx) (L := L) (kv := kv) (nv := nv) (ns := ns) (R := bT m (μ.acc who 1 (9, s, 0)) * R) (H := H2) hn h2.to;exact aq ⟨(), rfl, h3.to⟩
theorem N5 (s : Int) (top obj : Nat) (ho : obj < 4294967296) (hE : μ.N < 1099511627000) : Sp j7 [vp ib, vi who, vi s, vu top, vi obj] (iS ib m sh nx L * bT m μ) (fun _ : Unit => vb (decide (μ.V (9, s, 0) = top))) (fun _ => iS ib m sh nx L * bT m (μ.swp who (9, s, 0) top (obj + 1))) := by
 refine aK fun R H h => ?_;obtain ⟨kv, nv, ns, hn, h0⟩ := oH (ib := ib) (m := m) (sh := sh) (nx := nx) (L := L) (R := bT m μ * R) (H := H) h.to;refine bm (fun r => wL _ _ _ _ _ H) ?_;refine bE ac ?_;refine aQ h0 rfl ?_;refine af h0 (eh 9 s 0) fun _ H1 h1 => ?_;refine aJ h1 h0 (by rfl) ?_;refine aa (dQ (by omega) (by omega)) ?_;rw [show ((obj : Nat) : Int).toNat = obj from v9 _];refine aa (gi (b := 1) (by omega)) ?_;refine af h1 (Ey m μ who (9, s, 0) top (obj + 1) (by omega)) fun _ H2 h2 => ?_;have h3 := iT (ib := ib) (m := m) (sh := sh) (nx := nx) (L := L) (kv := kv) (nv := nv) (ns := ns) (R := bT m (μ.swp who (9, s, 0) top (obj + 1)) * R) (H := H2) hn h2.to;exact aq ⟨(), rfl, h3.to⟩
end
theorem Vt (a : Int) {n : Int} (h : 1 ≤ n) : -n < a.tmod n ∧ a.tmod n < n := by
 have e := Int.natAbs_tmod a n;have : a.natAbs % n.natAbs < n.natAbs := Nat.mod_lt _ (by omega);omega
section
variable (t m p e : Nat) (σ : aS)
theorem zR (sh sl : Nat) (hs : 1 ≤ sh ∧ sh ≤ 4) (flow : Int) : Sp ft [vp t, vi flow] (tab t m sh sl) (fun _ : Unit => vi ((flow.tmod sh + sh).tmod sh)) (fun _ => tab t m sh sl) := by
 refine bh (sf _ _) fun R H h => ?_;unfold tab at h ⊢;have q := Vt flow (n := sh) (by omega);refine ap h ac rfl ?_;refine aa (uX (by omega)) ?_;refine ap h ac rfl ?_;refine aa (aH (by omega) (by omega)) ?_;refine ap h ac rfl ?_;refine aa (uX (by omega)) ?_;exact aq ⟨(), rfl, h⟩
theorem alI (μ : Mu) : Sp kq [vp m] (bL m μ) (fun _ : Unit => vi μ.E.length) (fun _ => bL m μ) := by
 refine aK fun R H h => ?_;obtain ⟨⟨c, l, al, es, ck⟩, h1⟩ := ae.ex.1 h;rw [ak, ae.pu] at h1;obtain ⟨hp, h1⟩ := h1;dsimp only at h1;have h2 : ae (blk m (.cells false [.map (some c), l]) * (blk c (.map es ck) * ts 5 Ev.cells l μ.E) * R) H := h1;refine bm (fun r => Ef _ H) ?_;refine ap h2 ac rfl ?_;refine oa (s := l) (l := μ.E) h2 ?_;exact aq ⟨(), rfl, h⟩
theorem vx (r : Value) (x : Int) : Sp lV [r, vi x] emp (fun _ : Unit => .tuple #[.agg (gm x).toArray, vb true]) (fun _ => emp) := by
 refine bh (OE _ _) fun R H h => ?_;refine br h fun b H1 h1 => ?_;refine je ?_;refine ej h1 rfl rfl fun H2 h2 => ?_;refine aR h2 ?_;exact aq ⟨(), rfl, h2.to⟩
def dd (x : Cl) : Option Int := if x.a < 1 ∨ 65536 < x.a then some 3 else if x.flow < 0 ∨ 1048576 < x.flow then some 5 else none
end
structure Tk where
 who : Int
 x : Cl
 s : Int
 at' : Nat
 i : Nat
 obj : Nat
 found : Bool
 w : Nat
 q : Nat
 mark : Int
 top : Nat
 code : Int
abbrev aS.mem (σ : aS) (μ : Mu) : aS := { σ with μ := μ }
def gf (v : Nat) (flow : Int) : Bool := decide (v ≠ 0 ∧ ((v / 4294967296 : Nat) : Int) - 1 = flow)
def aN (σ : aS) (t : Tk) : Tk :=
 let v := σ.μ.V (10, t.s, (t.i : Int))
 { t with i := t.i + 1, found := gf v t.x.flow, obj := if gf v t.x.flow = true then v % 4294967296 else t.obj }
abbrev aW (σ : aS) (t : Tk) : aS := σ.mem (σ.μ.acc t.who 1 (10, t.s, (t.i : Int)))
def bO (σ : aS) (t : Tk) : Bool := decide (σ.c.sl ≤ (t.i : Int))
def ay (σ : aS) (o : Nat) : List Pk := ((σ.obs[o]?).map (·.2)).getD []
def rr (σ : aS) (t : Tk) : aS :=
 let n := (ay σ t.obj).length
 let k := aL t.w % n
 { σ with μ := σ.μ.acc t.who 6 (16, (t.obj : Int), (k : Int)), obs := σ.obs.modify t.obj fun p => (p.1, p.2.set k ⟨t.x.flow, t.x.a, t.x.b⟩) }
abbrev sd (σ : aS) (t : Tk) : aS :=
 let n := (ay σ t.obj).length
 let k := aL t.w % n
 σ.mem ((σ.μ.acc t.who 2 (15, (t.obj : Int), (k : Int))).put (15, (t.obj : Int), (k : Int)) (aL t.w + 1))
abbrev dh (σ : aS) (t : Tk) : aS := σ.mem (σ.μ.acc t.who 1 (11, (t.obj : Int), 0))
abbrev jl (σ : aS) (t : Tk) : aS := σ.mem (σ.μ.acc t.who 1 (12, (t.obj : Int), 0))
def jP (σ : aS) (t : Tk) : Bool := gq t.w (σ.μ.V (12, (t.obj : Int), 0)) (ay σ t.obj).length
abbrev ez (σ : aS) (t : Tk) : aS := σ.mem (σ.μ.acc t.who 1 (2, 0, 0))
def aj (σ : aS) (t : Tk) (now : Int) : aS × Tk × Bool :=
 let scan (σ : aS) (t : Tk) : aS × Tk × Bool :=
  let t1 := aN σ t
  (aW σ t, { t1 with at' := if t1.found = true then 6 else if bO σ t1 = true then 3 else 2 }, false)
 match t.at' with
 | 0 => match dd t.x with
  | some e => (σ.note now t.who e, { t with code := e }, true)
  | none => scan σ t
 | 2 => scan σ t
 | 3 => let l : cO := (8, t.s, 0)
  (σ.mem (σ.μ.swp t.who l 0 1), (if σ.μ.V l = 0 then { t with at' := 4, i := 0 } else t), false)
 | 4 => let t1 := aN σ t
  if t1.found = true then (aW σ t, { t1 with at' := 5 }, false)
  else if bO σ t1 = true then ((aW σ t).note now t.who 5, { t1 with at' := 5, code := 5 }, false)
  else (aW σ t, t1, false)
 | 5 => let l : cO := (8, t.s, 0)
  (σ.mem ((σ.μ.acc t.who 2 l).put l 0), { t with at' := 6 }, !t.found)
 | 6 => (σ.mem (σ.μ.acc t.who 5 (13, (t.obj : Int), 0)), { t with at' := 7 }, false)
 | 7 => let w := σ.μ.V (11, (t.obj : Int), 0)
  (dh σ t, { t with w := w, at' := if ba w = 2 then 3 else 8 }, false)
 | 8 => (jl σ t, { t with at' := if jP σ t = true then 15 else if ba t.w = 1 then 9 else 12 }, false)
 | 9 => let o := aY t.w 0
  let σ1 := σ.mem (σ.μ.turn t.who t.obj t.w o)
  if fi σ.μ t.obj t.w o = true then (σ1.note now t.who 0, { t with at' := 10, code := 0 }, false) else (σ1, { t with at' := 7 }, false)
 | 10 => (rr σ t, { t with at' := 11 }, false)
 | 11 => (sd σ t, t, true)
 | 12 => (σ.mem (σ.μ.cnt t.who (3, 0, 0) 4294967296), { t with at' := 13 }, false)
 | 13 => let o := aY t.w 0
  let σ1 := σ.mem (σ.μ.turn t.who t.obj t.w o)
  if fi σ.μ t.obj t.w o = true then (σ1.note now t.who 0, { t with at' := 14, code := 0 }, false) else (σ1, { t with at' := 20 }, false)
 | 14 => (rr σ t, { t with at' := 21 }, false)
 | 15 => let q := σ.μ.V (2, 0, 0)
  (ez σ t, { t with q := q, at' := if q % 2 = 1 then 7 else 16 }, false)
 | 16 => let w := σ.μ.V (11, (t.obj : Int), 0)
  (dh σ t, { t with w := w, at' := if ba w = 2 then 3 else 17 }, false)
 | 17 => (jl σ t, (if jP σ t = true then { t with at' := 18, mark := now } else { t with at' := 7 }), false)
 | 18 => if σ.μ.V (2, 0, 0) = t.q then ((ez σ t).note t.mark t.who 9, { t with code := 9 }, true) else (ez σ t, { t with at' := 7 }, false)
 | 20 => (σ.mem (σ.μ.cnt t.who (3, 0, 0) 1), { t with at' := 7 }, false)
 | 21 => (sd σ t, { t with at' := 22 }, false)
 | 22 => (σ.mem (σ.μ.acc t.who 1 (9, t.s, 0)), { t with top := σ.μ.V (9, t.s, 0), at' := 23 }, false)
 | 23 => ({ σ with μ := σ.μ.acc t.who 6 (14, (t.obj : Int), 0), nx := fun k => if k = (t.obj : Int) then some t.top else σ.nx k }, { t with at' := 24 }, false)
 | 24 => let l : cO := (9, t.s, 0)
  (σ.mem (σ.μ.swp t.who l t.top (t.obj + 1)), { t with at' := if σ.μ.V l = t.top then 25 else 22 }, false)
 | _ => (σ.mem (σ.μ.cnt t.who (3, 0, 0) 1), t, true)
def bk (p : Nat) (rp : List Nat) (σ : aS) : SP := ex fun g : PIds => pu (g.rp = rp ∧ rp.length = σ.obs.length) * aD p g σ
theorem dY {p : Nat} {rp : List Nat} {σ : aS} {R : SP} {H : AH} (h : ae (bk p rp σ * R) H) : ∃ g : PIds, g.rp = rp ∧ rp.length = σ.obs.length ∧ ae (aD p g σ * R) H := by
 obtain ⟨g, h1⟩ := ae.ex.1 h;rw [ak, ae.pu] at h1;exact ⟨g, h1.1.1, h1.1.2, h1.2⟩
theorem bG {p : Nat} {rp : List Nat} {σ : aS} {R : SP} {H : AH} (g : PIds) (h1 : g.rp = rp) (h2 : rp.length = σ.obs.length) (h : ae (aD p g σ * R) H) : ae (bk p rp σ * R) H :=
 ae.ex.2 ⟨g, by rw [ak]; exact ae.pu.2 ⟨⟨h1, h2⟩, h⟩⟩
theorem af5 {p : Nat} {σ : aS} {R : SP} {H : AH} (h : ae (gl p σ * R) H) : ∃ rp, ae (bk p rp σ * R) H := by
 obtain ⟨g, hg, h1⟩ := nA h;exact ⟨g.rp, bG g rfl hg h1⟩
theorem Kl (m : Nat) : ∀ {ps : List (Nat × List Pk)} {i j : Nat} (h : i < ps.length), ∃ R, mS m j ps = cM m (j + i) (ps[i]).1 (ps[i]).2 * R ∧ ∀ q : Nat × List Pk, mS m j (ps.set i q) = cM m (j + i) q.1 q.2 * R := by
 intro ps
 induction ps with
 | nil => intro i j h; simp at h
 | cons p ps ih =>
  intro i j h
  cases i with
  | zero => exact ⟨mS m (j + 1) ps, rfl, fun q => rfl⟩
  | succ i =>
   obtain ⟨R, e1, e2⟩ := ih (i := i) (j := j + 1) (by simpa using h);refine ⟨cM m j p.1 p.2 * R, ?_, fun q => ?_⟩
   ·show cM m j p.1 p.2 * mS m (j + 1) ps = _
    rw [e1, cN, show j + 1 + i = j + (i + 1) from by omega]; rfl
   ·show cM m j p.1 p.2 * mS m (j + 1) (ps.set i q) = _
    rw [e2, cN, show j + 1 + i = j + (i + 1) from by omega]
theorem Km (m : Nat) : ∀ {ps : List (Nat × List Pk)} {i j : Nat} (h : i < ps.length), ∃ R, jF m j ps = dj m (j + i) (ps[i]).1 (ps[i]).2 * R ∧ ∀ q : Nat × List Pk, jF m j (ps.set i q) = dj m (j + i) q.1 q.2 * R := by
 intro ps
 induction ps with
 | nil => intro i j h; simp at h
 | cons p ps ih =>
  intro i j h
  cases i with
  | zero => exact ⟨jF m (j + 1) ps, rfl, fun q => rfl⟩
  | succ i =>
   obtain ⟨R, e1, e2⟩ := ih (i := i) (j := j + 1) (by simpa using h);refine ⟨dj m j p.1 p.2 * R, ?_, fun q => ?_⟩
   ·show dj m j p.1 p.2 * jF m (j + 1) ps = _
    rw [e1, cN, show j + 1 + i = j + (i + 1) from by omega]; rfl
   ·show dj m j p.1 p.2 * jF m (j + 1) (ps.set i q) = _
    rw [e2, cN, show j + 1 + i = j + (i + 1) from by omega]
def atN (ns : List (Int × Nat)) (obj : Int) : Int := match ns.findIdx? fun p => p.1 == obj with
 | some i => i
 | none => -1
theorem Le {ns : List (Int × Nat)} {obj : Int} {i : Nat} (h : ∀ j, j < i → ∀ p, ns[j]? = some p → p.1 ≠ obj) :
 (∀ (hi : i < ns.length), ns[i].1 = obj → atN ns obj = i) ∧ (ns.length ≤ i → atN ns obj = -1) := by
 constructor
 ·intro hi e
  unfold atN
  have : ns.findIdx? (fun p => p.1 == obj) = some i := by
   rw [List.findIdx?_eq_some_iff_getElem];refine ⟨hi, by simpa using e, fun j hj => ?_⟩;have := h j hj ns[j] (by rw [cT])
   simpa using this
  rw [this]
 ·intro hi
  unfold atN
  have : ns.findIdx? (fun p => p.1 == obj) = none := by
   rw [List.findIdx?_eq_none_iff];intro p hp;obtain ⟨j, hj, rfl⟩ := List.getElem_of_mem hp;have := h j (by omega) ns[j] (by rw [cT])
   simpa using this
  rw [this]
theorem ZF (ib m : Nat) (sh : Int) (kv nv : Value) (ns : List (Int × Nat)) (hn : ns.length < 1000000) (obj : Int) :
 Sp mE [vp ib, vi obj] (blk ib (.cells false [vp m, vi sh, kv, nv]) * ts 1 lH kv (ns.map (·.1))) (fun _ : Unit => vi (atN ns obj)) (fun _ => blk ib (.cells false [vp m, vi sh, kv, nv]) * ts 1 lH kv (ns.map (·.1))) := by
 refine bh (AM _ _) fun R H h => ?_;refine ah (uC _ _ _ H) ?_;refine ah (uE _ _ _ _ H) ?_;have loop : ∀ (d i : Nat), i + d = ns.length → (∀ j, j < i → ∀ p, ns[j]? = some p → p.1 ≠ obj) →
  wp (iN (vp ib) (vi obj) (vi 0) (vi i) H) fun v' H' => ∃ x : Unit, v' = vi (atN ns obj) ∧ ae (blk ib (.cells false [vp m, vi sh, kv, nv]) * ts 1 lH kv (ns.map (·.1)) * R) H' := by
  intro d
  induction d with
  | zero =>
   intro i hi hj;refine ah (mL _ _ _ _ H) ?_;refine ap h ac rfl ?_;refine oa (s := kv) h ?_;rw [tg];refine aa (bW (by omega)) ?_;refine gs ?_;refine ah (rP _ H) ?_;refine ah (uD _ H) ?_;exact aq ⟨(), by rw [(Le hj).2 (by omega)], h⟩
  | succ d ih =>
   intro i hi hj
   have hil : i < ns.length := by omega
   refine ah (mL _ _ _ _ H) ?_;refine ap h ac rfl ?_;refine oa (s := kv) h ?_;rw [tg];refine aa (cz (by omega)) ?_;refine gs ?_;refine ah (uF _ _ _ _ H) ?_;refine ap h ac rfl ?_;refine KN (s := kv) (enc := lH) (l := ns.map fun p : Int × Nat => p.1) (v := vi ns[i].1) h (i := i) (by simpa using hil) (by simp [lH]) ?_
   by_cases e : ns[i].1 = obj
   ·refine aa (bo e) ?_
    refine gs ?_;exact aq ⟨(), by rw [(Le hj).1 hil e], h⟩
   ·refine aa (aG e) ?_
    refine gs ?_;refine ah (uG _ _ _ _ H) ?_;refine aa (aH (by omega) (by omega)) ?_;refine ih (i + 1) (by omega) fun j hj2 p hp => ?_
    rcases Nat.lt_succ_iff_lt_or_eq.1 hj2 with h1 | rfl
    ·exact hj j h1 p hp
    ·rw [cT hil] at hp
     obtain rfl := iu hp;exact e
 exact loop ns.length 0 (by omega) (fun j hj => by omega)
theorem Z5 {ns : List (Int × Nat)} {obj : Int} (h : ns.findIdx? (fun p => p.1 == obj) = none) : atN ns obj = -1 := by unfold atN; rw [h]
theorem Z6 {ns : List (Int × Nat)} {obj : Int} {i : Nat} (h : ns.findIdx? (fun p => p.1 == obj) = some i) : atN ns obj = i := by unfold atN; rw [h]
theorem X7 {ns : List (Int × Nat)} {obj : Int} (h : ns.findIdx? (fun p => p.1 == obj) = none) (n : Nat) (k : Int) : FW (ns ++ [(obj, n)]) k = if k = obj then some n else FW ns k := by
 have hn : ns.find? (fun p => p.1 == obj) = none := by
  rw [List.find?_eq_none];rw [List.findIdx?_eq_none_iff] at h;intro p hp;have := h p hp
  simpa using this
 unfold FW;rw [List.find?_append]
 by_cases e : k = obj
 ·subst e
  rw [hn, if_pos rfl];simp
 ·rw [if_neg e]
  have : ([(obj, n)] : List (Int × Nat)).find? (fun p => p.1 == k) = none := by
   rw [List.find?_eq_none];intro p hp
   obtain rfl : p = (obj, n) := by simpa using hp
   simpa using fun q => e q.symm
  rw [this]
  cases ns.find? (fun p => p.1 == k) <;> rfl
theorem afQ (obj : Int) (n : Nat) (k : Int) : ∀ {ns : List (Int × Nat)} {i : Nat}, ns.findIdx? (fun p => p.1 == obj) = some i → FW (ns.set i (obj, n)) k = if k = obj then some n else FW ns k := by
 intro ns
 induction ns with
 | nil => intro i h; simp at h
 | cons p ns ih =>
  intro i h;rw [List.findIdx?_cons] at h
  by_cases e : p.1 = obj
  ·rw [if_pos (by simpa using e)] at h
   obtain rfl := iu h;simp only [List.set_cons_zero, FW, List.find?_cons]
   by_cases e2 : k = obj
   ·subst e2; simp
   ·have h1 : ((obj == k) : Bool) = false := by simpa using fun q => e2 q.symm
    have h2 : ((p.1 == k) : Bool) = false := by rw [e]; exact h1
    simp [h1, h2, e2]
  ·rw [if_neg (by simpa using e)] at h
   obtain ⟨j, hj, rfl⟩ := bi.1 h;have := ih hj;simp only [List.set_cons_succ, FW, List.find?_cons] at this ⊢
   by_cases e2 : p.1 = k
   ·have h1 : ((p.1 == k) : Bool) = true := by simpa using e2
    simp only [h1];rw [if_neg (fun q => e (e2.trans q))]
   ·have h1 : ((p.1 == k) : Bool) = false := by simpa using e2
    simp only [h1];exact this
theorem N4 (ib m : Nat) (sh : Int) (nx : Int → Option Nat) (L : Nat) (μ : Mu) (who obj : Int) (next : Nat) (hL : L < 900000) (hE : μ.N < 1099511627000) :
 Sp j6 [vp ib, vi who, vi obj, vu next] (iS ib m sh nx L * bT m μ) (fun _ : Unit => .tuple #[]) (fun _ => iS ib m sh (fun k => if k = obj then some next else nx k) (L + 1) * bT m (μ.acc who 6 (14, obj, 0))) := by
 refine aK fun R H h => ?_;obtain ⟨kv, nv, ns, ⟨hn, hl⟩, h0⟩ := oH (ib := ib) (m := m) (sh := sh) (nx := nx) (L := L) (R := bT m μ * R) (H := H) h.to;refine bm (fun r => wK _ _ _ _ H) ?_;refine bE ac ?_;refine aQ h0 rfl ?_;refine af h0 (eh 14 obj 0) fun _ H1 h1 => ?_;refine aJ h1 h0 (by rfl) ?_;refine af h1 ((ZG m μ who 6 (14, obj, 0) (by omega)).imp fun _ R H h => wj (N' := μ.N + 2) (by simp) h) fun _ H2 h2 => ?_;refine af h2 (ZF ib m sh kv nv ns (by omega) obj) fun _ H3 h3 => ?_
 cases hf : ns.findIdx? (fun p => p.1 == obj) with
 | none =>
  rw [Z5 hf];refine aa (cz (by omega)) ?_;refine gs ?_;refine ap h3 ac rfl ?_;refine RF h3 fun b0 H4 h4 => ?_;refine i1 (s := kv) (l := ns.map fun p : Int × Nat => p.1) (obj : Int) h4 rfl ?_ (by omega) fun a c H5 h5 => ?_
  ·unfold dr; simp only [tg]; omega
  refine bE ac ?_;refine aQ h5 rfl ?_;refine aJ h4 h5 (by rfl) ?_;refine RF h5 fun b1 H6 h6 => ?_;refine i1 (s := nv) (l := ns.map fun p : Int × Nat => p.2) (next : Nat) h6 rfl ?_ (by omega) fun a2 c2 H7 h7 => ?_
  ·unfold dr; simp only [tg]; omega
  refine bj h7 ac rfl rfl fun H8 h8 => ?_;refine bj h8 ac rfl rfl fun H9 h9 => ?_
  have e1 : (ns ++ [(obj, next)]).map (fun p : Int × Nat => p.1) = (ns.map fun p : Int × Nat => p.1) ++ [obj] := by rw [FT]; rfl
  have e2 : (ns ++ [(obj, next)]).map (fun p : Int × Nat => p.2) = (ns.map fun p : Int × Nat => p.2) ++ [next] := by rw [FT]; rfl
  refine aq ⟨(), rfl, ?_⟩;have h10 := iT (ib := ib) (m := m) (sh := sh) (nx := fun k => if k = obj then some next else nx k) (L := L + 1) (kv := .slice a ((ns.map fun p : Int × Nat => p.1).length + 1) c) (nv := .slice a2 ((ns.map fun p : Int × Nat => p.2).length + 1) c2) (ns := ns ++ [(obj, next)])
   (R := bT m (μ.acc who 6 (14, obj, 0)) * R) (H := H9) ⟨fun k => by rw [X7 hf, hn], by simp; omega⟩ (by rw [e1, e2]; exact h9.to)
  exact h10.to
 | some i =>
  rw [Z6 hf];have hi := (List.findIdx?_eq_some_iff_getElem.1 hf);obtain ⟨hil, hk, _⟩ := hi;refine aa (bW (by omega)) ?_;refine gs ?_;refine ap h3 ac rfl ?_;refine N2 (s := nv) (l := ns.map fun p : Int × Nat => p.2) (i := i) (next : Nat) h3 (by simpa using hil) (.inl ⟨rfl, rfl⟩) rfl (by omega) rfl (by simp [OP, splice]) fun H4 h4 => ?_
  have e1 : (ns.set i (obj, next)).map (fun p : Int × Nat => p.1) = ns.map fun p : Int × Nat => p.1 := by
   rw [List.map_set];apply List.ext_getElem?;intro j;rw [List.getElem?_set]
   split
   ·rename_i e
    subst e
    have hk : ns[i].1 = obj := by simpa using hk
    simp [hil, hk]
   ·rfl
  have e2 : (ns.set i (obj, next)).map (fun p : Int × Nat => p.2) = (ns.map fun p : Int × Nat => p.2).set i next := by rw [List.map_set]
  refine aq ⟨(), rfl, ?_⟩;have h10 := iT (ib := ib) (m := m) (sh := sh) (nx := fun k => if k = obj then some next else nx k) (L := L + 1) (kv := kv) (nv := nv) (ns := ns.set i (obj, next))
   (R := bT m (μ.acc who 6 (14, obj, 0)) * R) (H := H4) ⟨fun k => by rw [afQ obj next k hf, hn], by rw [P5]; omega⟩ (by rw [e1, e2]; exact h4.to)
  exact h10.to
theorem vl {σ : aS} {o : Nat} (ho : o < σ.obs.length) : ay σ o = (σ.obs[o]).2 := by
 unfold ay;rw [cT ho]; rfl
theorem zF (p : Nat) (g : PIds) (σ : aS) (o b : Nat) (hl : g.rp.length = σ.obs.length) (ho : o < σ.obs.length) (hb : g.rp[o]? = some b) :
 ∃ R, aD p g σ = cM g.m o b (ay σ o) * bL g.m σ.μ * R ∧ ∀ μ' cs', aD p g { σ with μ := μ', obs := σ.obs.modify o fun q => (q.1, cs') } = cM g.m o b cs' * bL g.m μ' * R := by
 have hz : o < (g.rp.zip (σ.obs.map fun x => x.2)).length := by simp; omega
 obtain ⟨R, e1, e2⟩ := Kl g.m (ps := g.rp.zip (σ.obs.map fun x => x.2)) (j := 0) hz
 have hrp : g.rp[o]'(by omega) = b := by
  rw [cT (by omega)] at hb;exact iu hb
 have e3 : (g.rp.zip (σ.obs.map fun x => x.2))[o] = (b, ay σ o) := by
  rw [List.getElem_zip, vl ho, List.getElem_map, hrp]
 rw [e3] at e1;rw [Nat.zero_add] at e1 e2
 refine ⟨blk p (.cells false [vp g.m, vp g.ib, vp g.tb, vp g.po, vp g.co, vi σ.c.sh, vi σ.c.sl, vi σ.c.wk, vi σ.c.wd, vu σ.c.un, g.ov, .map (some g.pm), g.pv]) * (lI g.ib g.m g.nm σ.c σ.nx * (tab g.tb g.m σ.c.sh.toNat σ.c.sl.toNat * (ts 4 LE g.ov ((σ.obs.map fun x => x.1).zip g.rp) * (R *
  (ZK N9 g.pm (fun k => (σ.places k).map fun n => vi n) * ts 7 Pt.cells g.pv σ.pts))))), ?_, fun μ' cs' => ?_⟩
 ·unfold aD
  rw [e1]
  ac_rfl
 ·unfold aD
  dsimp only
  have e4 : (σ.obs.modify o fun q => (q.1, cs')).map (fun x => x.1) = σ.obs.map fun x => x.1 := by
   apply List.ext_getElem?;intro j;simp only [yj, List.getElem?_modify]
   cases σ.obs[j]? with
   | none => rfl
   | some q => simp only [fp]; split <;> rfl
  have e5 : g.rp.zip ((σ.obs.modify o fun q => (q.1, cs')).map fun x => x.2) = (g.rp.zip (σ.obs.map fun x => x.2)).set o (b, cs') := by
   apply List.ext_getElem?;intro j;rw [List.getElem?_set]
   by_cases hj : o = j
   ·subst hj
    rw [if_pos rfl, if_pos hz];exact List.getElem?_zip_eq_some.2 ⟨hb, by simp [List.getElem?_modify, cT ho]⟩
   ·rw [if_neg hj]
    have : (List.map (fun x => x.2) (σ.obs.modify o fun q => (q.1, cs')))[j]? = (σ.obs.map fun x => x.2)[j]? := by
     simp only [yj, List.getElem?_modify]
     cases σ.obs[j]? with
     | none => rfl
     | some q => show some (if o = j then (q.1, cs') else q).2 = some q.2; rw [if_neg hj]
    simp only [List.zip, List.getElem?_zipWith, this]
  rw [e4, e5, e2]
  ac_rfl
theorem MV {σ : aS} {o : Nat} (ho : o < σ.obs.length) : (σ.obs.modify o fun q => (q.1, ay σ o)) = σ.obs := by
 apply List.ext_getElem?;intro j;rw [List.getElem?_modify]
 cases hj : σ.obs[j]? with
 | none => rfl
 | some q =>
  show some (if o = j then _ else _) = some q
  by_cases e : o = j
  ·subst e
   rw [if_pos rfl];unfold ay;rw [hj]; rfl
  ·rw [if_neg e]
section
variable {f : Nat} {args : List Value} {v : Unit → Value} {p : Nat} {g : PIds} {σ : aS} {o b : Nat}
theorem ZO {μ' : Mu} {cs' : List Pk} (hl : g.rp.length = σ.obs.length) (ho : o < σ.obs.length) (hb : g.rp[o]? = some b)
 (s : Sp f args (cM g.m o b (ay σ o) * bL g.m σ.μ) v (fun _ => cM g.m o b cs' * bL g.m μ')) :
 Sp f args (aD p g σ) v (fun _ => aD p g { σ with μ := μ', obs := σ.obs.modify o fun q => (q.1, cs') }) := by
 obtain ⟨R', e1, e2⟩ := zF p g σ o b hl ho hb;intro R H h;rw [e1, ak] at h;obtain ⟨x, H', h1, h2⟩ := s _ _ h;exact ⟨x, H', h1, by rw [e2, ak]; exact h2⟩
theorem km {μ' : Mu} (hl : g.rp.length = σ.obs.length) (ho : o < σ.obs.length) (hb : g.rp[o]? = some b)
 (s : Sp f args (cM g.m o b (ay σ o) * bL g.m σ.μ) v (fun _ => cM g.m o b (ay σ o) * bL g.m μ')) :
 Sp f args (aD p g σ) v (fun _ => aD p g (σ.mem μ')) := by
 have := ZO (p := p) hl ho hb s;rw [MV ho] at this;exact this
theorem RP (hl : g.rp.length = σ.obs.length) (ho : o < σ.obs.length) (hb : g.rp[o]? = some b)
 (s : Sp f args (cM g.m o b (ay σ o)) v (fun _ => cM g.m o b (ay σ o))) :
 Sp f args (aD p g σ) v (fun _ => aD p g σ) := by
 obtain ⟨R', e1, _⟩ := zF p g σ o b hl ho hb;intro R H h;rw [e1, ak, ak] at h;obtain ⟨x, H', h1, h2⟩ := s _ _ h;exact ⟨x, H', h1, by rw [e1, ak, ak]; exact h2⟩
theorem u6 {μ' : Mu} (s : Sp f args (tab g.tb g.m σ.c.sh.toNat σ.c.sl.toNat * bL g.m σ.μ) v (fun _ => tab g.tb g.m σ.c.sh.toNat σ.c.sl.toNat * bL g.m μ')) :
 Sp f args (aD p g σ) v (fun _ => aD p g (σ.mem μ')) := by
 intro R H h;unfold aD at h;obtain ⟨x, H', h1, h2⟩ := s _ H (ae.fr (A := tab g.tb g.m σ.c.sh.toNat σ.c.sl.toNat * bL g.m σ.μ) h);refine ⟨x, H', h1, ?_⟩;unfold aD;exact h2.to
theorem Ib (s : Sp f args (tab g.tb g.m σ.c.sh.toNat σ.c.sl.toNat) v (fun _ => tab g.tb g.m σ.c.sh.toNat σ.c.sl.toNat)) :
 Sp f args (aD p g σ) v (fun _ => aD p g σ) := by
 intro R H h;unfold aD at h;obtain ⟨x, H', h1, h2⟩ := s _ H (ae.fr (A := tab g.tb g.m σ.c.sh.toNat σ.c.sl.toNat) h);refine ⟨x, H', h1, ?_⟩;unfold aD;exact h2.to
theorem ZN {μ' : Mu} (s : Sp f args (bL g.m σ.μ) v (fun _ => bL g.m μ')) : Sp f args (aD p g σ) v (fun _ => aD p g (σ.mem μ')) := by
 intro R H h;unfold aD at h;obtain ⟨x, H', h1, h2⟩ := s _ H (ae.fr (A := bL g.m σ.μ) h);refine ⟨x, H', h1, ?_⟩;unfold aD;exact h2.to
theorem Ge {μ' : Mu} {nx' : Int → Option Nat} (s : Sp f args (lI g.ib g.m g.nm σ.c σ.nx * bL g.m σ.μ) v (fun _ => lI g.ib g.m g.nm σ.c nx' * bL g.m μ')) :
 Sp f args (aD p g σ) v (fun _ => aD p g { σ with μ := μ', nx := nx' }) := by
 intro R H h;unfold aD at h;obtain ⟨x, H', h1, h2⟩ := s _ H (ae.fr (A := lI g.ib g.m g.nm σ.c σ.nx * bL g.m σ.μ) h);refine ⟨x, H', h1, ?_⟩;unfold aD;exact h2.to
end
instance ap9 (p : Nat) (g : PIds) (σ : aS) : Hs (aD p g σ) p (.cells false [vp g.m, vp g.ib, vp g.tb, vp g.po, vp g.co, vi σ.c.sh, vi σ.c.sl, vi σ.c.wk, vi σ.c.wd, vu σ.c.un, g.ov, .map (some g.pm), g.pv]) := ⟨by
 intro H h;unfold aD at h
 exact h.left.get⟩
theorem mT {P P0 R : SP} {H : AH} {b fn : Nat} {args : List Value} {c : Int} {d : Bool} {Q0 : Unit → SP} {Q : Value → AH → Prop} (h : ae P H)
 (s : Sp fn args P0 (fun _ : Unit => .tuple #[.agg (gm c).toArray, vb d]) Q0) [fr : Fr P (P0 * blk b (.cells false [vi 0, .slice none 0 0, vi 0, vw 0])) R]
 (hk : ∀ H', ae (Q0 () * R) H' → Q (.tuple #[.agg (gm c).toArray, vb d]) H') :
 wp ((FF fn args H).bind fun r2 => (ag r2.1 0).bind fun v3 => (ag r2.1 1).bind fun v4 => (cG 4 (vp b) v3 r2.2).bind fun H5 => (aA 4 (vp b) H5).bind fun v6 => some (Value.tuple #[v6, v4], H5)) Q := by
 have h0 : ae (P0 * (blk b (.cells false [vi 0, .slice none 0 0, vi 0, vw 0]) * R)) H := by
  have := ae.fr (A := P0 * blk b (.cells false [vi 0, .slice none 0 0, vi 0, vw 0])) h;rw [ak] at this;exact this
 refine af h0 s fun _ H1 h1 => ?_;refine aa (v := .agg (gm c).toArray) rfl ?_;refine aa (v := vb d) rfl ?_;refine ej h1 rfl rfl fun H2 h2 => ?_;refine aR h2 ?_;exact aq (hk H2 h2.to)
abbrev fj (e n : Nat) : Value := .func (.func n) #[vp e] #[]
abbrev eB (e p : Nat) (nx rv : Value) (t : Tk) : SP :=
 blk e (.cells false [vp p, vi t.who, vi t.x.op, vi t.x.flow, vi t.x.a, vi t.x.b, vi t.s, nx, vi t.i, vi t.obj, vb t.found, rv, vu t.w, vu t.q, vi t.mark, vu t.top])
def Az : Nat → Nat
 | 0 => mA | 2 => j3 | 3 => dn | 4 => eJ | 5 => eK | 6 => gU | 7 => cr | 8 => lW
 | 9 => j2 | 10 => oM | 11 => l5 | 12 => j1 | 13 => l6 | 14 => lU | 15 => oN | 16 => fA
 | 17 => fy | 18 => gj | 20 => lT | 21 => j4 | 22 => dT | 23 => lX | 24 => lZ | _ => oL
def Kn (rp : List Nat) (t : Tk) (v : Value) : Prop := 7 ≤ t.at' → ∃ b, rp[t.obj]? = some b ∧ v = vp b
def eP (e p : Nat) (rp : List Nat) (σ : aS) (t : Tk) : SP := ex fun v : Value => pu (Kn rp t v) * (eB e p (fj e (Az t.at')) v t * bk p rp σ)
def eQ (e p : Nat) (rp : List Nat) (r : aS × Tk × Bool) : SP := if r.2.2 = true then bk p rp r.1 else eP e p rp r.1 r.2.1
abbrev ch (r : aS × Tk × Bool) : Value := .tuple #[.agg (gm (if r.2.2 = true then r.2.1.code else 0)).toArray, vb r.2.2]
theorem Si {e p : Nat} {rp : List Nat} {σ : aS} {t : Tk} {R : SP} {H : AH} (h : ae (eP e p rp σ t * R) H) : ∃ v, Kn rp t v ∧ ae (eB e p (fj e (Az t.at')) v t * (bk p rp σ * R)) H := by
 obtain ⟨v, h1⟩ := ae.ex.1 h;rw [ak, ae.pu] at h1;exact ⟨v, h1.1, h1.2.to⟩
theorem LD {e p : Nat} {rp : List Nat} {σ : aS} {t : Tk} {R : SP} {H : AH} {v : Value} {n : Nat} (hv : Kn rp t v) (hn : Az t.at' = n) (h : ae (eB e p (fj e n) v t * (bk p rp σ * R)) H) : ae (eP e p rp σ t * R) H := by
 subst hn;exact ae.ex.2 ⟨v, by rw [ak]; exact ae.pu.2 ⟨hv, h.to⟩⟩
section
variable (e p : Nat)
theorem aoH (nx rv : Value) (n : Nat) (t : Tk) : Sp bN [vp e, fj e n] (eB e p nx rv t) (fun _ : Unit => .tuple #[.agg (gm 0).toArray, vb false]) (fun _ => eB e p (fj e n) rv t) := by
 refine bh (aaV _ _) fun R H h => ?_;refine br h fun b H1 h1 => ?_;refine bj h1 ac rfl rfl fun H2 h2 => ?_;refine je ?_;refine ej h2 rfl rfl fun H3 h3 => ?_;refine aR h3 ?_;exact aq ⟨(), rfl, h3.to⟩
theorem anL (rp : List Nat) (σ : aS) (step who code : Int) (hp : σ.pts.length < 1000000) : Sp fV [vp p, vi step, vi who, .agg (gm code).toArray] (bk p rp σ) (fun _ : Unit => .tuple #[]) (fun _ => bk p rp (σ.note step who code)) := by
 refine aK fun R H h => ?_;obtain ⟨g, hrp, hg, h0⟩ := dY h;unfold aD at h0;refine bm (fun r => ti _ _ _ _ H) ?_;refine aX h0 fun b1 H1 h1 => ?_;refine bE ac ?_;refine aQ h1 rfl ?_;refine bE ac ?_;refine aQ h1 rfl ?_;refine Vz (ek := N9) who h1 ?_;refine aR h1 ?_;refine af h1 (tM code) fun _ H2 h2 => ?_;refine aJ h2 h1 rfl ?_;refine aJ h2 h1 rfl ?_;refine aiN who h2 h1 ?_
 have ev : (((σ.places who).map fun n => vi n).getD (vi 0)) = vi ((σ.places who).getD 0) := by cases σ.places who <;> rfl
 rw [ev];refine je ?_;refine RF h2 fun b0 H3 h3 => ?_;refine i1 (⟨step, who, (σ.places who).getD 0, code⟩ : Pt) h3 rfl ?_ (by omega) fun a cc H4 h4 => ?_
 ·unfold dr; omega
 refine bj h4 ac rfl rfl fun H5 h5 => ?_;refine aq ⟨(), rfl, ?_⟩;refine bG { g with pv := .slice a (σ.pts.length + 1) cc } hrp hg ?_;unfold aD aS.note;exact h5.to
theorem vy (rp : List Nat) (σ : aS) (nx rv : Value) (t : Tk) (now code : Int) (hp : σ.pts.length < 1000000) :
 Sp lY [vp e, vi now, vi code] (eB e p nx rv t * bk p rp σ) (fun _ : Unit => .tuple #[]) (fun _ => eB e p nx rv t * bk p rp (σ.note now t.who code)) := by
 refine bh (OJ _ _ _) fun R H h => ?_;refine ap h ac rfl ?_;refine ap h ac rfl ?_;refine je ?_;refine af h (anL p rp σ now t.who code hp) fun _ H1 h1 => ?_;exact aq ⟨(), rfl, h1.to⟩
theorem zi (rp : List Nat) (σ : aS) (nx rv : Value) (t : Tk) (now code : Int) (hp : σ.pts.length < 1000000) :
 Sp jb [vp e, vi now, vi code] (eB e p nx rv t * bk p rp σ) (fun _ : Unit => .tuple #[.agg (gm code).toArray, vb true]) (fun _ => eB e p nx rv t * bk p rp (σ.note now t.who code)) := by
 refine bh (Il _ _ _) fun R H h => ?_;refine br h fun b H1 h1 => ?_;refine af h1 (vy e p rp σ nx rv t now code hp) fun _ H2 h2 => ?_;exact mT h2 (vx (vp e) code) fun H3 h3 => ⟨(), rfl, h3.to⟩
end
theorem al9 {α : Type} {P : SP} {H : AH} {e n g i : Nat} {enc : α → List Value} {l : List α} {s : Value} {Q : Value → AH → Prop} {k : Value → OV} {kk : IntKind} {cs : List Value} (h : ae P H) [r : Rd P s e enc l] [E : Enc enc e] (hi : i < l.length) (hg : g + n ≤ e)
 (hc : ((enc l[i]).drop g).take n = cs) (hk : wp (k (.agg cs.toArray)) Q) : wp (ldN n [.i e (.int kk (i : Int)), .f g] s H k) Q := by
 subst hc;obtain ⟨b, o, ro, row, rfl, h2, h3, h4⟩ := QJ (s := s) (enc := enc) (l := l) h hi;unfold ldN;rw [ZY hi, aqG];have hm : (i + 1) * e ≤ l.length * e := Nat.mul_le_mul_right _ (by omega);rw [Nat.add_mul] at hm
 have : aA n (tV b (o + i * e + g)) H = some (.agg (((enc l[i]).drop g).take n).toArray) := by
  simp only [aA, ux, eu, bP, h2];rw [if_pos (by omega)]
  congr 3
  rw [← JB E.len l i hi, ← h4, List.drop_take, List.drop_take, List.drop_take, List.drop_drop, List.drop_drop, List.take_take, List.take_take, Nat.min_eq_left (by omega), Nat.min_eq_left (by omega), Nat.add_assoc]
 show wp ((aA n (tV b (o + i * e + g)) H).bind k) Q;rw [this]; exact hk
structure SOk (σ : aS) : Prop where
 c : cI σ.c = true
 N : σ.μ.N < 800000
 pts : σ.pts.length < 900000
 V : ∀ l, σ.μ.V l < 18446744073709551616
 obs : σ.obs.length < 900000
 cells : ∀ o, o < σ.obs.length → 1 ≤ (ay σ o).length ∧ (ay σ o).length < 1000
 slot : ∀ s i, σ.μ.V (10, s, i) ≠ 0 → σ.μ.V (10, s, i) % 4294967296 < σ.obs.length
structure ia (σ : aS) (t : Tk) : Prop where
 obj : 6 ≤ t.at' ∨ t.at' = 5 ∧ t.found = true → t.obj < σ.obs.length
 s : t.s = (t.x.flow.tmod σ.c.sh + σ.c.sh).tmod σ.c.sh
 i : t.at' < 5 → t.at' ≠ 3 → (t.i : Int) < σ.c.sl
 w : t.w < 18446744073709551616
 c5 : t.at' = 5 → t.found = false → t.code = 5
 c0 : t.at' = 10 ∨ t.at' = 11 ∨ t.at' = 14 ∨ 21 ≤ t.at' → t.code = 0
 ats : t.at' = 0 ∨ t.at' = 2 ∨ t.at' = 3 ∨ t.at' = 4 ∨ t.at' = 5 ∨ t.at' = 6 ∨ t.at' = 7 ∨ t.at' = 8 ∨ t.at' = 9 ∨ t.at' = 10 ∨ t.at' = 11 ∨ t.at' = 12 ∨ t.at' = 13 ∨ t.at' = 14 ∨ t.at' = 15 ∨ t.at' = 16 ∨ t.at' = 17 ∨ t.at' = 18 ∨ t.at' = 20 ∨ t.at' = 21 ∨ t.at' = 22 ∨ t.at' = 23 ∨ t.at' = 24 ∨ t.at' = 25
section
variable (e p : Nat) (rp : List Nat) (g : PIds) (σ : aS) (nx rv : Value) (t : Tk) (now : Int)
theorem zG (hl : g.rp.length = σ.obs.length) (o : Nat) (ho : o < σ.obs.length) : Sp fX [vp p, vi o] (aD p g σ) (fun _ : Unit => vb true) (fun _ => aD p g σ) := by
 have hz : ((σ.obs.map fun x => x.1).zip g.rp).length = σ.obs.length := by simp [hl]
 refine aK fun R H h => ?_;have h0 := h;unfold aD at h0;refine bm (fun r => tk _ _ H) ?_;refine aa (zm (by omega)) ?_;refine gs ?_;refine ap h ac rfl ?_;refine gs ?_;refine BO (s := g.ov) h0 ?_;rw [hz];refine gs ?_;refine aa (cz (by omega)) ?_;refine gs ?_;exact aq ⟨(), rfl, h⟩
theorem zH (hl : g.rp.length = σ.obs.length) (o b : Nat) (ho : o < σ.obs.length) (hb : g.rp[o]? = some b) : Sp fW [vp p, vi o] (aD p g σ) (fun _ : Unit => vp b) (fun _ => aD p g σ) := by
 have hz : ((σ.obs.map fun x => x.1).zip g.rp).length = σ.obs.length := by simp [hl]
 refine bh (tj _ _) fun R H h => ?_;refine af h (zG p g σ hl o ho) fun _ H1 h1 => ?_;refine gs ?_;rw [Bool.not_true];refine gs ?_;refine ap h1 ac rfl ?_;have h2 := h1;unfold aD at h2
 have hb' : g.rp[o]'(by omega) = b := by rw [cT (by omega)] at hb; exact iu hb
 refine aiP (v := vp b) (enc := LE) (l := (σ.obs.map fun x : Ob × List Pk => x.1).zip g.rp) h2 (by omega) (by omega) ?_ ?_
 ·show some (vp ((σ.obs.map fun x => x.1).zip g.rp)[o].2) = _
  rw [List.getElem_zip, hb']
 exact aq ⟨(), rfl, h1.to⟩
theorem Qn (hl : g.rp.length = σ.obs.length) (who : Int) (o : Nat) (ho : o < σ.obs.length) (hN : σ.μ.N < 800000) : Sp jt [vp p, vi who, vi o] (aD p g σ) (fun v : Value => v) (fun _ => aD p g (σ.mem (σ.μ.acc who 5 (13, (o : Int), 0)))) := by
 have hz : ((σ.obs.map fun x => x.1).zip g.rp).length = σ.obs.length := by simp [hl]
 refine bh (uz _ _ _) fun R H h => ?_;refine br h fun b H1 h1 => ?_;refine af h1 (zG p g σ hl o ho) fun _ H2 h2 => ?_;refine gs ?_;rw [Bool.not_true];refine gs ?_;refine ap h2 ac rfl ?_;refine je ?_;refine af h2 (ZN (p := p) (g := g) (σ := σ) ((afD g.m σ.μ who (13, (o : Int), 0) (by omega)).imp fun _ R H h => kp (N' := σ.μ.N + 2) (by simp) h)) fun _ H3 h3 => ?_;refine ap h3 ac rfl ?_;have h4 := h3;unfold aD at h4;refine al9 (enc := LE) (l := (σ.obs.map fun x : Ob × List Pk => x.1).zip g.rp) h4 (by omega) (by omega) (show _ = [_, _, _] from rfl) ?_;refine ej h3 rfl rfl fun H5 h5 => ?_;refine aR h5 ?_;exact aq ⟨_, rfl, h5.to⟩
theorem pM (who : Int) (hN : σ.μ.N < 800000) : Sp dE [vp p, vi who] (aD p g σ) (fun _ : Unit => vu (σ.μ.V (2, 0, 0))) (fun _ => aD p g (σ.mem (σ.μ.acc who 1 (2, 0, 0)))) := by
 refine bh (uA _ _) fun R H h => ?_;refine ap h ac rfl ?_;refine je ?_;refine af h (ZN (p := p) (g := g) (σ := σ) (El g.m σ.μ who (2, 0, 0) (by omega))) fun _ H1 h1 => ?_;exact aq ⟨(), rfl, h1.to⟩
theorem EZ (b : Bool) (h : gf (σ.μ.V (10, t.s, (t.i : Int))) t.x.flow = b) : aN σ t = { t with i := t.i + 1, found := b, obj := if b = true then σ.μ.V (10, t.s, (t.i : Int)) % 4294967296 else t.obj } := by
 subst h
 rfl
theorem Sk (S : SOk σ) (hi : (t.i : Int) < σ.c.sl) : Sp wn [vp e] (eB e p nx rv t * aD p g σ) (fun _ : Unit => vb (bO σ (aN σ t))) (fun _ => eB e p nx rv (aN σ t) * aD p g (aW σ t)) := by
 have hc := bD.1 S.c;refine bh (V3 _) fun R H h => ?_;refine ap h ac rfl ?_;refine ap h ac rfl ?_;refine ap h ac rfl ?_;refine ap h ac rfl ?_;refine ap h ac rfl ?_;refine af h (u6 (p := p) (g := g) (σ := σ) (zS g.tb g.m σ.c.sh.toNat σ.c.sl.toNat σ.μ t.who t.s t.i (by have := S.N; omega) (S.V _))) fun _ H1 h1 => ?_
 have fin : ∀ (t1 : Tk) (H' : AH), t1.i = t.i + 1 → ae (eB e p nx rv t1 * (aD p g (aW σ t) * R)) H' → wp (sI (vp e) (vb false) H') fun v' H' => ∃ _x : Unit, v' = vb (bO σ t1) ∧ ae (eB e p nx rv t1 * aD p g (aW σ t) * R) H' := by
  intro t1 H' hi1 h';refine ah (Ik _ _ H') ?_;refine bE ac ?_;refine aQ h' rfl ?_;refine ap h' ac rfl ?_;refine ap h' ac rfl ?_;refine af h' (Ib (p := p) (g := g) (σ := aW σ t) (zV g.tb g.m σ.c.sh.toNat σ.c.sl.toNat)) fun _ H2 h2 => ?_;refine aJ h2 h' (by rfl) ?_;refine aa (v := vb (bO σ t1)) ?_ ?_
  ·rw [sE]
   congr 3
   apply propext;omega
  exact aq ⟨(), rfl, h2.to⟩
 by_cases hv : σ.μ.V (10, t.s, (t.i : Int)) = 0
 ·have e1 : ig (σ.μ.V (10, t.s, (t.i : Int))) = .tuple #[vi 0, vi 0, vb false] := by rw [ig, if_pos hv]
  rw [e1];refine aa (v := vi 0) rfl ?_;refine aa (v := vi 0) rfl ?_;refine aa (v := vb false) rfl ?_;refine ap h1 ac rfl ?_;refine aa (aH (by omega) (by omega)) ?_;rw [show ((t.i : Nat) : Int) + 1 = ((t.i + 1 : Nat) : Int) from by omega];refine bj h1 ac rfl rfl fun H2 h2 => ?_;refine ah (vq _ _ _ _ _ H2) ?_;refine gs ?_;refine bj h2 ac rfl rfl fun H3 h3 => ?_;refine ap h3 ac rfl ?_;refine gs ?_
  have e2 : aN σ t = { t with i := t.i + 1, found := false } := by
   have : gf (σ.μ.V (10, t.s, (t.i : Int))) t.x.flow = false := by simp [gf, hv]
   exact (EZ σ t _ this).trans rfl
  rw [e2];exact fin _ H3 rfl h3.to
 ·have e1 : ig (σ.μ.V (10, t.s, (t.i : Int))) = .tuple #[vi ((σ.μ.V (10, t.s, (t.i : Int)) / 4294967296 : Nat) - 1), vi (σ.μ.V (10, t.s, (t.i : Int)) % 4294967296 : Nat), vb true] := by rw [ig, if_neg hv]
  rw [e1];refine aa (v := vi ((σ.μ.V (10, t.s, (t.i : Int)) / 4294967296 : Nat) - 1)) rfl ?_;refine aa (v := vi (σ.μ.V (10, t.s, (t.i : Int)) % 4294967296 : Nat)) rfl ?_;refine aa (v := vb true) rfl ?_;refine ap h1 ac rfl ?_;refine aa (aH (by omega) (by omega)) ?_;rw [show ((t.i : Nat) : Int) + 1 = ((t.i + 1 : Nat) : Int) from by omega];refine bj h1 ac rfl rfl fun H2 h2 => ?_;refine ah (vq _ _ _ _ _ H2) ?_;refine gs ?_;refine ap h2 (ci (aP (aP be))) rfl ?_
  by_cases hf : ((σ.μ.V (10, t.s, (t.i : Int)) / 4294967296 : Nat) : Int) - 1 = t.x.flow
  ·refine hZ ?_
   refine aa (bo hf) ?_;refine gs ?_;refine bj h2 ac rfl rfl fun H3 h3 => ?_;refine ap h3 ac rfl ?_;refine gs ?_;refine bj h3 ac rfl rfl fun H4 h4 => ?_
   have e2 : aN σ t = { t with i := t.i + 1, found := true, obj := σ.μ.V (10, t.s, (t.i : Int)) % 4294967296 } := by
    have : gf (σ.μ.V (10, t.s, (t.i : Int))) t.x.flow = true := d4 ⟨hv, hf⟩;exact (EZ σ t _ this).trans rfl
   rw [e2];exact fin _ H4 rfl h4.to
  ·refine hZ ?_
   refine aa (aG hf) ?_;refine gs ?_;refine bj h2 ac rfl rfl fun H3 h3 => ?_;refine ap h3 ac rfl ?_;refine gs ?_
   have e2 : aN σ t = { t with i := t.i + 1, found := false } := by
    have : gf (σ.μ.V (10, t.s, (t.i : Int))) t.x.flow = false := d6 fun q => hf q.2;exact (EZ σ t _ this).trans rfl
   rw [e2];exact fin _ H3 rfl h3.to
end
theorem iO {rp : List Nat} {t : Tk} {v : Value} (h : t.at' < 7) : Kn rp t v := fun h' => by omega
theorem cV {rp : List Nat} {t : Tk} {b : Nat} (h : rp[t.obj]? = some b) : Kn rp t (vp b) := fun _ => ⟨b, h, rfl⟩
section
variable {e p : Nat} {rp : List Nat} {g : PIds} {σ σ' : aS} {t t' : Tk} {R P : SP} {H : AH} {r : aS × Tk × Bool} {v : Value} {n : Nat} {c : Int}
theorem dR (h : ae (eP e p rp σ t * R) H) : ∃ (nx rv : Value) (g : PIds), Kn rp t rv ∧ g.rp = rp ∧ rp.length = σ.obs.length ∧ nx = fj e (Az t.at') ∧ ae (eB e p nx rv t * (aD p g σ * R)) H := by
 obtain ⟨rv, h1, h2⟩ := Si h;obtain ⟨g, h3, h4, h5⟩ := dY (p := p) (rp := rp) (σ := σ) (R := eB e p (fj e (Az t.at')) rv t * R) (H := H) h2.to;exact ⟨_, rv, g, h1, h3, h4, rfl, h5.to⟩
theorem Io (hr : r = (σ', t', false)) (hv : Kn rp t' v) (hn : Az t'.at' = n) (h : ae (eB e p (fj e n) v t' * (bk p rp σ' * R)) H) :
 ∃ x : Unit, (.tuple #[.agg (gm 0).toArray, vb false]) = ch r ∧ ae (eQ e p rp r * R) H := by
 subst hr;exact ⟨(), rfl, LD hv hn h⟩
theorem dW (hr : r = (σ', t', false)) (hv : Kn g.rp t' v) (hn : Az t'.at' = n) (hl : g.rp.length = σ'.obs.length) (h : ae (eB e p (fj e n) v t' * (aD p g σ' * R)) H) :
 ∃ x : Unit, (.tuple #[.agg (gm 0).toArray, vb false]) = ch r ∧ ae (eQ e p g.rp r * R) H := by
 refine Io hr hv hn ?_;have h1 := bG (p := p) (rp := g.rp) (σ := σ') (R := eB e p (fj e n) v t' * R) g rfl hl h.to;exact h1.to
theorem Cw (hr : r = (σ', t', true)) (hc : t'.code = c) (h : ae (bk p rp σ' * R) H) :
 ∃ x : Unit, (.tuple #[.agg (gm c).toArray, vb true]) = ch r ∧ ae (eQ e p rp r * R) H := by
 subst hr;subst hc;exact ⟨(), rfl, h⟩
theorem gQ (nx rv : Value) (t' : Tk) (n : Nat) {b : Nat} {Q : Value → AH → Prop} (h : ae P H) [fr : Fr P (eB e p nx rv t' * blk b (.cells false [vi 0, .slice none 0 0, vi 0, vw 0])) R]
 (hk : ∀ H', ae (eB e p (fj e n) rv t' * R) H' → Q (.tuple #[.agg (gm 0).toArray, vb false]) H') :
 wp ((FF bN [vp e, fj e n] H).bind fun r2 => (ag r2.1 0).bind fun v3 => (ag r2.1 1).bind fun v4 => (cG 4 (vp b) v3 r2.2).bind fun H5 => (aA 4 (vp b) H5).bind fun v6 => some (Value.tuple #[v6, v4], H5)) Q :=
 mT h (aoH e p nx rv n t') hk
end
section
variable (e p : Nat) (rp : List Nat) (σ : aS) (t : Tk) (now : Int)
theorem Zl (S : SOk σ) (T : ia σ t) (hat : t.at' = 3) : Sp dn [vp e, vi now] (eP e p rp σ t) (fun _ : Unit => ch (aj σ t now)) (fun _ => eQ e p rp (aj σ t now)) := by
 have hN : σ.μ.N < 1099511627000 := by have := S.N; omega
 refine aK fun R H h => ?_;obtain ⟨nx, rv, g, hv, rfl, hl, _, h0⟩ := dR h;refine bm (fun r => OH _ _ H) ?_;refine br h0 fun b1 H1 h1 => ?_;refine ap h1 ac rfl ?_;refine ap h1 ac rfl ?_;refine ap h1 ac rfl ?_;refine ap h1 ac rfl ?_;refine af h1 (u6 (p := p) (g := g) (σ := σ) (u2 g.tb g.m σ.c.sh.toNat σ.c.sl.toNat σ.μ t.who t.s hN)) fun _ H2 h2 => ?_
 by_cases hw : σ.μ.V (8, t.s, 0) = 0
 ·rw [d4 hw]
  refine gs ?_;rw [Bool.not_true];refine gs ?_;refine bj h2 ac rfl rfl fun H3 h3 => ?_;refine gQ (e := e) (p := p) nx rv { t with at' := 4, i := 0 } eJ h3 fun H9 h9 => ?_;exact dW (σ' := σ.mem (σ.μ.swp t.who (8, t.s, 0) 0 1)) (t' := { t with at' := 4, i := 0 }) (v := rv) (n := eJ) (by simp only [aj, hat]; rw [if_pos hw]) (iO (by simp)) rfl hl h9.to
 ·rw [d6 hw]
  refine gs ?_;rw [Bool.not_false];refine gs ?_;refine gQ (e := e) (p := p) nx rv t dn h2 fun H9 h9 => ?_;exact dW (σ' := σ.mem (σ.μ.swp t.who (8, t.s, 0) 0 1)) (t' := t) (v := rv) (n := dn) (by simp only [aj, hat]; rw [if_neg hw]) (iO (by omega)) (by rw [hat]; rfl) hl h9.to
theorem NJ (S : SOk σ) (T : ia σ t) (hat : t.at' = 5) : Sp eK [vp e, vi now] (eP e p rp σ t) (fun _ : Unit => ch (aj σ t now)) (fun _ => eQ e p rp (aj σ t now)) := by
 have hN : σ.μ.N < 1099511627000 := by have := S.N; omega
 refine aK fun R H h => ?_;obtain ⟨nx, rv, g, hv, rfl, hl, _, h0⟩ := dR h;refine bm (fun r => In _ _ H) ?_;refine br h0 fun b1 H1 h1 => ?_;refine ap h1 ac rfl ?_;refine ap h1 ac rfl ?_;refine ap h1 ac rfl ?_;refine ap h1 ac rfl ?_;refine af h1 (u6 (p := p) (g := g) (σ := σ) (xq g.tb g.m σ.c.sh.toNat σ.c.sl.toNat σ.μ t.who t.s hN)) fun _ H2 h2 => ?_;refine ap h2 ac rfl ?_;cases hf : t.found
 ·refine gs ?_
  rw [Bool.not_false];refine gs ?_;refine mT h2 (vx (vp e) 5) fun H9 h9 => ?_;exact Cw (σ' := σ.mem ((σ.μ.acc t.who 2 (8, t.s, 0)).put (8, t.s, 0) 0)) (t' := { t with at' := 6 }) (by simp only [aj, hat, hf]; rfl) (T.c5 hat hf) (bG (p := p) (rp := g.rp) (R := R) g rfl hl h9.to)
 ·refine gs ?_
  rw [Bool.not_true];refine gs ?_;refine gQ (e := e) (p := p) nx rv { t with at' := 6 } gU h2 fun H9 h9 => ?_;exact dW (σ' := σ.mem ((σ.μ.acc t.who 2 (8, t.s, 0)).put (8, t.s, 0) 0)) (t' := { t with at' := 6 }) (v := rv) (n := gU) (by simp only [aj, hat, hf]; rfl) (iO (by simp)) rfl hl h9.to
theorem Zm (S : SOk σ) (T : ia σ t) (hat : t.at' = 6) : Sp gU [vp e, vi now] (eP e p rp σ t) (fun _ : Unit => ch (aj σ t now)) (fun _ => eQ e p rp (aj σ t now)) := by
 have hN : σ.μ.N < 1099511627000 := by have := S.N; omega
 refine aK fun R H h => ?_;obtain ⟨nx, rv, g, hv, rfl, hl, _, h0⟩ := dR h;have ho := T.obj (.inl (by omega));obtain ⟨b, hb⟩ : ∃ b, g.rp[t.obj]? = some b := ⟨_, cT (by omega)⟩;refine bm (fun r => OI _ _ H) ?_;refine br h0 fun b1 H1 h1 => ?_;refine ap h1 ac rfl ?_;refine ap h1 ac rfl ?_;refine ap h1 ac rfl ?_;refine af h1 (Qn p g σ hl t.who t.obj ho S.N) fun _ H2 h2 => ?_;refine ap h2 ac rfl ?_;refine ap h2 ac rfl ?_;refine af h2 (zH p g (σ.mem (σ.μ.acc t.who 5 (13, (t.obj : Int), 0))) hl t.obj b ho hb) fun _ H3 h3 => ?_;refine bj h3 ac rfl rfl fun H4 h4 => ?_;refine gQ (e := e) (p := p) nx (vp b) { t with at' := 7 } cr h4 fun H9 h9 => ?_;exact dW (σ' := σ.mem (σ.μ.acc t.who 5 (13, (t.obj : Int), 0))) (t' := { t with at' := 7 }) (v := (vp b)) (n := cr) (by simp only [aj, hat]) (cV hb) rfl hl h9.to
theorem Zq (S : SOk σ) (T : ia σ t) (hat : t.at' = 7) : Sp cr [vp e, vi now] (eP e p rp σ t) (fun _ : Unit => ch (aj σ t now)) (fun _ => eQ e p rp (aj σ t now)) := by
 have hN : σ.μ.N < 1099511627000 := by have := S.N; omega
 refine aK fun R H h => ?_;obtain ⟨nx, rv, g, hv, rfl, hl, _, h0⟩ := dR h;obtain ⟨b, hb, rfl⟩ := hv (by omega);have ho := T.obj (.inl (by omega));refine bm (fun r => OO _ _ H) ?_;refine br h0 fun b1 H1 h1 => ?_;refine ap h1 ac rfl ?_;refine ap h1 ac rfl ?_;refine af h1 (km (p := p) hl ho hb (yX g.m t.obj b (ay σ t.obj) σ.μ t.who hN)) fun _ H2 h2 => ?_;refine bj h2 ac rfl rfl fun H3 h3 => ?_;refine ap h3 ac rfl ?_;refine af h3 (ki _ (S.V _)) fun _ H4 h4 => ?_
 by_cases hw : ba (σ.μ.V (11, (t.obj : Int), 0)) = 2
 ·refine aa (bo hw) ?_
  refine gs ?_;refine gQ (e := e) (p := p) nx (vp b) { t with w := σ.μ.V (11, (t.obj : Int), 0), at' := 3 } dn h4 fun H9 h9 => ?_;exact dW (σ' := dh σ t) (t' := { t with w := σ.μ.V (11, (t.obj : Int), 0), at' := 3 }) (v := (vp b)) (n := dn) (by simp only [aj, hat]; rw [if_pos hw]) (iO (by simp)) rfl hl h9.to
 ·refine aa (aG hw) ?_
  refine gs ?_;refine gQ (e := e) (p := p) nx (vp b) { t with w := σ.μ.V (11, (t.obj : Int), 0), at' := 8 } lW h4 fun H9 h9 => ?_;exact dW (σ' := dh σ t) (t' := { t with w := σ.μ.V (11, (t.obj : Int), 0), at' := 8 }) (v := (vp b)) (n := lW) (by simp only [aj, hat]; rw [if_neg hw]) (cV hb) rfl hl h9.to
theorem Fb (S : SOk σ) (T : ia σ t) (hat : t.at' = 16) : Sp fA [vp e, vi now] (eP e p rp σ t) (fun _ : Unit => ch (aj σ t now)) (fun _ => eQ e p rp (aj σ t now)) := by
 have hN : σ.μ.N < 1099511627000 := by have := S.N; omega
 refine aK fun R H h => ?_;obtain ⟨nx, rv, g, hv, rfl, hl, _, h0⟩ := dR h;obtain ⟨b, hb, rfl⟩ := hv (by omega);have ho := T.obj (.inl (by omega));refine bm (fun r => Ac _ _ H) ?_;refine br h0 fun b1 H1 h1 => ?_;refine ap h1 ac rfl ?_;refine ap h1 ac rfl ?_;refine af h1 (km (p := p) hl ho hb (yX g.m t.obj b (ay σ t.obj) σ.μ t.who hN)) fun _ H2 h2 => ?_;refine bj h2 ac rfl rfl fun H3 h3 => ?_;refine ap h3 ac rfl ?_;refine af h3 (ki _ (S.V _)) fun _ H4 h4 => ?_
 by_cases hw : ba (σ.μ.V (11, (t.obj : Int), 0)) = 2
 ·refine aa (bo hw) ?_
  refine gs ?_;refine gQ (e := e) (p := p) nx (vp b) { t with w := σ.μ.V (11, (t.obj : Int), 0), at' := 3 } dn h4 fun H9 h9 => ?_;exact dW (σ' := dh σ t) (t' := { t with w := σ.μ.V (11, (t.obj : Int), 0), at' := 3 }) (v := (vp b)) (n := dn) (by simp only [aj, hat]; rw [if_pos hw]) (iO (by simp)) rfl hl h9.to
 ·refine aa (aG hw) ?_
  refine gs ?_;refine gQ (e := e) (p := p) nx (vp b) { t with w := σ.μ.V (11, (t.obj : Int), 0), at' := 17 } fy h4 fun H9 h9 => ?_;exact dW (σ' := dh σ t) (t' := { t with w := σ.μ.V (11, (t.obj : Int), 0), at' := 17 }) (v := (vp b)) (n := fy) (by simp only [aj, hat]; rw [if_neg hw]) (cV hb) rfl hl h9.to
theorem Zi (S : SOk σ) (T : ia σ t) (hat : t.at' = 8) : Sp lW [vp e, vi now] (eP e p rp σ t) (fun _ : Unit => ch (aj σ t now)) (fun _ => eQ e p rp (aj σ t now)) := by
 have hN : σ.μ.N < 1099511627000 := by have := S.N; omega
 refine aK fun R H h => ?_;obtain ⟨nx, rv, g, hv, rfl, hl, _, h0⟩ := dR h;obtain ⟨b, hb, rfl⟩ := hv (by omega);have ho := T.obj (.inl (by omega));refine bm (fun r => OF _ _ H) ?_;refine br h0 fun b1 H1 h1 => ?_;refine ap h1 ac rfl ?_;refine ap h1 ac rfl ?_;refine af h1 (km (p := p) hl ho hb (Hn g.m t.obj b (ay σ t.obj) σ.μ t.who hN)) fun _ H2 h2 => ?_;refine ah (FH _ _ _ _ H2) ?_;refine ap h2 ac rfl ?_;refine ap h2 ac rfl ?_;refine af h2 (RP (p := p) (σ := jl σ t) hl ho hb (Hm g.m t.obj b (ay σ t.obj) t.w (σ.μ.V (12, (t.obj : Int), 0)) T.w (S.cells _ ho).2)) fun _ H3 h3 => ?_;cases hf : gq t.w (σ.μ.V (12, (t.obj : Int), 0)) (ay σ t.obj).length
 ·refine gs ?_
  refine ap h3 ac rfl ?_;refine af h3 (ki _ T.w) fun _ H4 h4 => ?_
  by_cases hw : ba t.w = 1
  ·refine aa (bo hw) ?_
   refine gs ?_;refine gQ (e := e) (p := p) nx (vp b) { t with at' := 9 } j2 h4 fun H9 h9 => ?_;exact dW (σ' := jl σ t) (t' := { t with at' := 9 }) (v := (vp b)) (n := j2) (by simp only [aj, hat, jP, hf]; rw [if_pos hw]; rfl) (cV hb) rfl hl h9.to
  ·refine aa (aG hw) ?_
   refine gs ?_;refine ah (FI _ _ _ H4) ?_;refine gQ (e := e) (p := p) nx (vp b) { t with at' := 12 } j1 h4 fun H9 h9 => ?_;exact dW (σ' := jl σ t) (t' := { t with at' := 12 }) (v := (vp b)) (n := j1) (by simp only [aj, hat, jP, hf]; rw [if_neg hw]; rfl) (cV hb) rfl hl h9.to
 ·refine gs ?_
  refine gQ (e := e) (p := p) nx (vp b) { t with at' := 15 } oN h3 fun H9 h9 => ?_;exact dW (σ' := jl σ t) (t' := { t with at' := 15 }) (v := (vp b)) (n := oN) (by simp only [aj, hat, jP, hf]; rfl) (cV hb) rfl hl h9.to
theorem Ry (S : SOk σ) (T : ia σ t) (hat : t.at' = 9) : Sp j2 [vp e, vi now] (eP e p rp σ t) (fun _ : Unit => ch (aj σ t now)) (fun _ => eQ e p rp (aj σ t now)) := by
 have hN : σ.μ.N < 1099511627000 := by have := S.N; omega
 refine aK fun R H h => ?_;obtain ⟨nx, rv, g, hv, rfl, hl, _, h0⟩ := dR h;obtain ⟨b, hb, rfl⟩ := hv (by omega);have ho := T.obj (.inl (by omega));refine bm (fun r => LA _ _ H) ?_;refine br h0 fun b1 H1 h1 => ?_;refine ap h1 ac rfl ?_;refine ap h1 ac rfl ?_;refine ap h1 ac rfl ?_;refine af h1 (km (p := p) hl ho hb (ES g.m t.obj b (ay σ t.obj) σ.μ t.who t.w T.w hN)) fun _ H2 h2 => ?_;cases hw : fi σ.μ t.obj t.w (aY t.w 0)
 ·refine gs ?_
  rw [Bool.not_false];refine gs ?_;refine gQ (e := e) (p := p) nx (vp b) { t with at' := 7 } cr h2 fun H9 h9 => ?_;exact dW (σ' := σ.mem (σ.μ.turn t.who t.obj t.w (aY t.w 0))) (t' := { t with at' := 7 }) (v := (vp b)) (n := cr) (by simp only [aj, hat, hw]; rfl) (cV hb) rfl hl h9.to
 ·refine gs ?_
  rw [Bool.not_true];refine gs ?_;have k2 := bG (p := p) (rp := g.rp) (σ := σ.mem (σ.μ.turn t.who t.obj t.w (aY t.w 0))) (R := eB e p nx (vp b) t * (blk b1 (.cells false [vi 0, .slice none 0 0, vi 0, vw 0]) * R)) g rfl hl h2.to;refine af k2 (vy e p g.rp (σ.mem (σ.μ.turn t.who t.obj t.w (aY t.w 0))) nx (vp b) t now 0 (by have := S.pts; show σ.pts.length < _; omega)) fun _ H3 h3 => ?_;refine gQ (e := e) (p := p) nx (vp b) { t with at' := 10, code := 0 } oM h3 fun H9 h9 => ?_;exact Io (σ' := (σ.mem (σ.μ.turn t.who t.obj t.w (aY t.w 0))).note now t.who 0) (t' := { t with at' := 10, code := 0 }) (v := (vp b)) (n := oM) (by simp only [aj, hat, hw]; rfl) (cV hb) rfl h9.to
theorem Zp (S : SOk σ) (T : ia σ t) (hat : t.at' = 13) : Sp l6 [vp e, vi now] (eP e p rp σ t) (fun _ : Unit => ch (aj σ t now)) (fun _ => eQ e p rp (aj σ t now)) := by
 have hN : σ.μ.N < 1099511627000 := by have := S.N; omega
 refine aK fun R H h => ?_;obtain ⟨nx, rv, g, hv, rfl, hl, _, h0⟩ := dR h;obtain ⟨b, hb, rfl⟩ := hv (by omega);have ho := T.obj (.inl (by omega));refine bm (fun r => ON _ _ H) ?_;refine br h0 fun b1 H1 h1 => ?_;refine ap h1 ac rfl ?_;refine ap h1 ac rfl ?_;refine ap h1 ac rfl ?_;refine af h1 (km (p := p) hl ho hb (ES g.m t.obj b (ay σ t.obj) σ.μ t.who t.w T.w hN)) fun _ H2 h2 => ?_;cases hw : fi σ.μ t.obj t.w (aY t.w 0)
 ·refine gs ?_
  rw [Bool.not_false];refine gs ?_;refine gQ (e := e) (p := p) nx (vp b) { t with at' := 20 } lT h2 fun H9 h9 => ?_;exact dW (σ' := σ.mem (σ.μ.turn t.who t.obj t.w (aY t.w 0))) (t' := { t with at' := 20 }) (v := (vp b)) (n := lT) (by simp only [aj, hat, hw]; rfl) (cV hb) rfl hl h9.to
 ·refine gs ?_
  rw [Bool.not_true];refine gs ?_;have k2 := bG (p := p) (rp := g.rp) (σ := σ.mem (σ.μ.turn t.who t.obj t.w (aY t.w 0))) (R := eB e p nx (vp b) t * (blk b1 (.cells false [vi 0, .slice none 0 0, vi 0, vw 0]) * R)) g rfl hl h2.to;refine af k2 (vy e p g.rp (σ.mem (σ.μ.turn t.who t.obj t.w (aY t.w 0))) nx (vp b) t now 0 (by have := S.pts; show σ.pts.length < _; omega)) fun _ H3 h3 => ?_;refine gQ (e := e) (p := p) nx (vp b) { t with at' := 14, code := 0 } lU h3 fun H9 h9 => ?_;exact Io (σ' := (σ.mem (σ.μ.turn t.who t.obj t.w (aY t.w 0))).note now t.who 0) (t' := { t with at' := 14, code := 0 }) (v := (vp b)) (n := lU) (by simp only [aj, hat, hw]; rfl) (cV hb) rfl h9.to
theorem BB (σ : aS) (t : Tk) : rr σ t = { σ with μ := σ.μ.acc t.who 6 (16, (t.obj : Int), ((aL t.w % (ay σ t.obj).length : Nat) : Int)), obs := σ.obs.modify t.obj fun q => (q.1, (ay σ t.obj).set (aL t.w % (ay σ t.obj).length) ⟨t.x.flow, t.x.a, t.x.b⟩) } := by
 have eo : (σ.obs.modify t.obj fun q => (q.1, q.2.set (aL t.w % (ay σ t.obj).length) (⟨t.x.flow, t.x.a, t.x.b⟩ : Pk))) = σ.obs.modify t.obj fun q => (q.1, (ay σ t.obj).set (aL t.w % (ay σ t.obj).length) ⟨t.x.flow, t.x.a, t.x.b⟩) := by
  apply List.ext_getElem?;intro j;rw [List.getElem?_modify, List.getElem?_modify]
  cases hj : σ.obs[j]? with
  | none => rfl
  | some q =>
   show some (if t.obj = j then _ else q) = some (if t.obj = j then _ else q)
   by_cases e : t.obj = j
   ·subst e
    rw [if_pos rfl, if_pos rfl];unfold ay;rw [hj]; rfl
   ·rw [if_neg e, if_neg e]
 exact congrArg (fun o => ({ σ with μ := σ.μ.acc t.who 6 (16, (t.obj : Int), ((aL t.w % (ay σ t.obj).length : Nat) : Int)), obs := o } : aS)) eo
theorem Sn (S : SOk σ) (T : ia σ t) (nx : Value) (g : PIds) (b : Nat) (hl : g.rp.length = σ.obs.length) (ho : t.obj < σ.obs.length) (hb : g.rp[t.obj]? = some b) :
 Sp wo [vp e] (eB e p nx (vp b) t * aD p g σ) (fun _ : Unit => .tuple #[]) (fun _ => eB e p nx (vp b) t * aD p g (rr σ t)) := by
 have hN : σ.μ.N < 1099511627000 := by have := S.N; omega
 refine bh (V5 _) fun R H h => ?_;refine bE ac ?_;refine aQ h rfl ?_;refine bE ac ?_;refine aQ h rfl ?_;refine ap h ac rfl ?_;refine af h (i3 t.w T.w) fun _ H1 h1 => ?_;refine aJ h1 h (by rfl) ?_;refine aJ h1 h (by rfl) ?_;refine bE (ci (aP (aP be))) ?_;refine aQ h1 rfl ?_;refine aJ h h1 (by rfl) ?_;refine bE (ci (aP (aP be))) ?_;refine aQ h1 rfl ?_;refine aJ h h1 (by rfl) ?_;refine bE (ci (aP (aP be))) ?_;refine aQ h1 rfl ?_;refine aJ h h1 (by rfl) ?_;refine je ?_;refine af h1 (ZO (p := p) hl ho hb (agZ g.m t.obj b (ay σ t.obj) σ.μ t.who (aL t.w) ⟨t.x.flow, t.x.a, t.x.b⟩ (S.cells _ ho) hN)) fun _ H2 h2 => ?_;refine aq ⟨(), rfl, ?_⟩;rw [BB];exact h2.to
theorem jn (σ : aS) (t : Tk) : (rr σ t).obs.length = σ.obs.length := by unfold rr; simp
theorem ah0 (S : SOk σ) (T : ia σ t) (hat : t.at' = 10) : Sp oM [vp e, vi now] (eP e p rp σ t) (fun _ : Unit => ch (aj σ t now)) (fun _ => eQ e p rp (aj σ t now)) := by
 have hN : σ.μ.N < 1099511627000 := by have := S.N; omega
 refine aK fun R H h => ?_;obtain ⟨nx, rv, g, hv, rfl, hl, _, h0⟩ := dR h;obtain ⟨b, hb, rfl⟩ := hv (by omega);have ho := T.obj (.inl (by omega));refine bm (fun r => V6 _ _ H) ?_;refine br h0 fun b1 H1 h1 => ?_;refine af h1 (Sn e p σ t S T nx g b hl ho hb) fun _ H2 h2 => ?_;refine gQ (e := e) (p := p) nx (vp b) { t with at' := 11 } l5 h2 fun H9 h9 => ?_;exact dW (σ' := rr σ t) (t' := { t with at' := 11 }) (v := (vp b)) (n := l5) (by simp only [aj, hat]) (cV hb) rfl (by rw [jn]; exact hl) h9.to
theorem Zh (S : SOk σ) (T : ia σ t) (hat : t.at' = 14) : Sp lU [vp e, vi now] (eP e p rp σ t) (fun _ : Unit => ch (aj σ t now)) (fun _ => eQ e p rp (aj σ t now)) := by
 have hN : σ.μ.N < 1099511627000 := by have := S.N; omega
 refine aK fun R H h => ?_;obtain ⟨nx, rv, g, hv, rfl, hl, _, h0⟩ := dR h;obtain ⟨b, hb, rfl⟩ := hv (by omega);have ho := T.obj (.inl (by omega));refine bm (fun r => OD _ _ H) ?_;refine br h0 fun b1 H1 h1 => ?_;refine af h1 (Sn e p σ t S T nx g b hl ho hb) fun _ H2 h2 => ?_;refine gQ (e := e) (p := p) nx (vp b) { t with at' := 21 } j4 h2 fun H9 h9 => ?_;exact dW (σ' := rr σ t) (t' := { t with at' := 21 }) (v := (vp b)) (n := j4) (by simp only [aj, hat]) (cV hb) rfl (by rw [jn]; exact hl) h9.to
theorem Zo (S : SOk σ) (T : ia σ t) (hat : t.at' = 11) : Sp l5 [vp e, vi now] (eP e p rp σ t) (fun _ : Unit => ch (aj σ t now)) (fun _ => eQ e p rp (aj σ t now)) := by
 have hN : σ.μ.N < 1099511627000 := by have := S.N; omega
 refine aK fun R H h => ?_;obtain ⟨nx, rv, g, hv, rfl, hl, _, h0⟩ := dR h;obtain ⟨b, hb, rfl⟩ := hv (by omega);have ho := T.obj (.inl (by omega));refine bm (fun r => OM _ _ H) ?_;refine br h0 fun b1 H1 h1 => ?_;refine bE ac ?_;refine aQ h1 rfl ?_;refine bE ac ?_;refine aQ h1 rfl ?_;refine ap h1 ac rfl ?_;refine af h1 (i3 t.w T.w) fun _ H2 h2 => ?_;refine aJ h2 h1 (by rfl) ?_;refine aJ h2 h1 (by rfl) ?_;have hwc := eG t.w;refine af h2 (km (p := p) hl ho hb (Ho g.m t.obj b (ay σ t.obj) σ.μ t.who (aL t.w) (by omega) (S.cells _ ho) hN)) fun _ H3 h3 => ?_;refine mT h3 (vx (vp e) 0) fun H9 h9 => ?_;exact Cw (σ' := sd σ t) (t' := t) (by simp only [aj, hat]) (T.c0 (by omega)) (bG (p := p) (rp := g.rp) (R := R) g rfl hl h9.to)
theorem RA (S : SOk σ) (T : ia σ t) (hat : t.at' = 21) : Sp j4 [vp e, vi now] (eP e p rp σ t) (fun _ : Unit => ch (aj σ t now)) (fun _ => eQ e p rp (aj σ t now)) := by
 have hN : σ.μ.N < 1099511627000 := by have := S.N; omega
 refine aK fun R H h => ?_;obtain ⟨nx, rv, g, hv, rfl, hl, _, h0⟩ := dR h;obtain ⟨b, hb, rfl⟩ := hv (by omega);have ho := T.obj (.inl (by omega));refine bm (fun r => LC _ _ H) ?_;refine br h0 fun b1 H1 h1 => ?_;refine bE ac ?_;refine aQ h1 rfl ?_;refine bE ac ?_;refine aQ h1 rfl ?_;refine ap h1 ac rfl ?_;refine af h1 (i3 t.w T.w) fun _ H2 h2 => ?_;refine aJ h2 h1 (by rfl) ?_;refine aJ h2 h1 (by rfl) ?_;have hwc := eG t.w;refine af h2 (km (p := p) hl ho hb (Ho g.m t.obj b (ay σ t.obj) σ.μ t.who (aL t.w) (by omega) (S.cells _ ho) hN)) fun _ H3 h3 => ?_;refine gQ (e := e) (p := p) nx (vp b) { t with at' := 22 } dT h3 fun H9 h9 => ?_;exact dW (σ' := sd σ t) (t' := { t with at' := 22 }) (v := (vp b)) (n := dT) (by simp only [aj, hat]) (cV hb) rfl hl h9.to
theorem Rx (S : SOk σ) (T : ia σ t) (hat : t.at' = 12) : Sp j1 [vp e, vi now] (eP e p rp σ t) (fun _ : Unit => ch (aj σ t now)) (fun _ => eQ e p rp (aj σ t now)) := by
 have hN : σ.μ.N < 1099511627000 := by have := S.N; omega
 refine aK fun R H h => ?_;obtain ⟨nx, rv, g, hv, rfl, hl, _, h0⟩ := dR h;obtain ⟨b, hb, rfl⟩ := hv (by omega);have ho := T.obj (.inl (by omega));refine bm (fun r => Lz _ _ H) ?_;refine br h0 fun b1 H1 h1 => ?_;refine ap h1 ac rfl ?_;refine ap h1 ac rfl ?_;refine ap h1 ac rfl ?_;refine af h1 (Ge (p := p) (g := g) (σ := σ) (MF g.ib g.m g.nm σ.c σ.nx σ.μ t.who hN)) fun _ H2 h2 => ?_;refine gQ (e := e) (p := p) nx (vp b) { t with at' := 13 } l6 h2 fun H9 h9 => ?_;exact dW (σ' := σ.mem (σ.μ.cnt t.who (3, 0, 0) 4294967296)) (t' := { t with at' := 13 }) (v := (vp b)) (n := l6) (by simp only [aj, hat]) (cV hb) rfl hl h9.to
theorem Zf (S : SOk σ) (T : ia σ t) (hat : t.at' = 20) : Sp lT [vp e, vi now] (eP e p rp σ t) (fun _ : Unit => ch (aj σ t now)) (fun _ => eQ e p rp (aj σ t now)) := by
 have hN : σ.μ.N < 1099511627000 := by have := S.N; omega
 refine aK fun R H h => ?_;obtain ⟨nx, rv, g, hv, rfl, hl, _, h0⟩ := dR h;obtain ⟨b, hb, rfl⟩ := hv (by omega);have ho := T.obj (.inl (by omega));refine bm (fun r => OC _ _ H) ?_;refine br h0 fun b1 H1 h1 => ?_;refine ap h1 ac rfl ?_;refine ap h1 ac rfl ?_;refine ap h1 ac rfl ?_;refine af h1 (Ge (p := p) (g := g) (σ := σ) (GS g.ib g.m g.nm σ.c σ.nx σ.μ t.who hN)) fun _ H2 h2 => ?_;refine gQ (e := e) (p := p) nx (vp b) { t with at' := 7 } cr h2 fun H9 h9 => ?_;exact dW (σ' := σ.mem (σ.μ.cnt t.who (3, 0, 0) 1)) (t' := { t with at' := 7 }) (v := (vp b)) (n := cr) (by simp only [aj, hat]) (cV hb) rfl hl h9.to
theorem ahZ (S : SOk σ) (T : ia σ t) (hat : t.at' = 25) : Sp oL [vp e, vi now] (eP e p rp σ t) (fun _ : Unit => ch (aj σ t now)) (fun _ => eQ e p rp (aj σ t now)) := by
 have hN : σ.μ.N < 1099511627000 := by have := S.N; omega
 refine aK fun R H h => ?_;obtain ⟨nx, rv, g, hv, rfl, hl, _, h0⟩ := dR h;obtain ⟨b, hb, rfl⟩ := hv (by omega);have ho := T.obj (.inl (by omega));refine bm (fun r => V1 _ _ H) ?_;refine br h0 fun b1 H1 h1 => ?_;refine ap h1 ac rfl ?_;refine ap h1 ac rfl ?_;refine ap h1 ac rfl ?_;refine af h1 (Ge (p := p) (g := g) (σ := σ) (GS g.ib g.m g.nm σ.c σ.nx σ.μ t.who hN)) fun _ H2 h2 => ?_;refine mT h2 (vx (vp e) 0) fun H9 h9 => ?_;exact Cw (σ' := σ.mem (σ.μ.cnt t.who (3, 0, 0) 1)) (t' := t) (by simp only [aj, hat]) (T.c0 (by omega)) (bG (p := p) (rp := g.rp) (R := R) g rfl hl h9.to)
theorem KJ (S : SOk σ) (T : ia σ t) (hat : t.at' = 22) : Sp dT [vp e, vi now] (eP e p rp σ t) (fun _ : Unit => ch (aj σ t now)) (fun _ => eQ e p rp (aj σ t now)) := by
 have hN : σ.μ.N < 1099511627000 := by have := S.N; omega
 refine aK fun R H h => ?_;obtain ⟨nx, rv, g, hv, rfl, hl, _, h0⟩ := dR h;obtain ⟨b, hb, rfl⟩ := hv (by omega);have ho := T.obj (.inl (by omega));refine bm (fun r => FL _ _ H) ?_;refine br h0 fun b1 H1 h1 => ?_;refine ap h1 ac rfl ?_;refine ap h1 ac rfl ?_;refine ap h1 ac rfl ?_;refine ap h1 ac rfl ?_;refine af h1 (Ge (p := p) (g := g) (σ := σ) (XW g.ib g.m g.nm σ.c σ.nx σ.μ t.who t.s hN)) fun _ H2 h2 => ?_;refine bj h2 ac rfl rfl fun H3 h3 => ?_;refine gQ (e := e) (p := p) nx (vp b) { t with top := σ.μ.V (9, t.s, 0), at' := 23 } lX h3 fun H9 h9 => ?_;exact dW (σ' := σ.mem (σ.μ.acc t.who 1 (9, t.s, 0))) (t' := { t with top := σ.μ.V (9, t.s, 0), at' := 23 }) (v := (vp b)) (n := lX) (by simp only [aj, hat]) (cV hb) rfl hl h9.to
theorem Zk (S : SOk σ) (T : ia σ t) (hat : t.at' = 23) : Sp lX [vp e, vi now] (eP e p rp σ t) (fun _ : Unit => ch (aj σ t now)) (fun _ => eQ e p rp (aj σ t now)) := by
 have hN : σ.μ.N < 1099511627000 := by have := S.N; omega
 refine aK fun R H h => ?_;obtain ⟨nx, rv, g, hv, rfl, hl, _, h0⟩ := dR h;obtain ⟨b, hb, rfl⟩ := hv (by omega);have ho := T.obj (.inl (by omega));refine bm (fun r => OG _ _ H) ?_;refine br h0 fun b1 H1 h1 => ?_;refine ap h1 ac rfl ?_;refine ap h1 ac rfl ?_;refine ap h1 ac rfl ?_;refine ap h1 ac rfl ?_;refine ap h1 ac rfl ?_;refine af h1 (Ge (p := p) (g := g) (σ := σ) (P1 g.ib g.m g.nm σ.c σ.nx σ.μ t.who t.obj t.top hN)) fun _ H2 h2 => ?_;refine gQ (e := e) (p := p) nx (vp b) { t with at' := 24 } lZ h2 fun H9 h9 => ?_;exact dW (σ' := { σ with μ := σ.μ.acc t.who 6 (14, (t.obj : Int), 0), nx := fun k => if k = (t.obj : Int) then some t.top else σ.nx k }) (t' := { t with at' := 24 }) (v := (vp b)) (n := lZ) (by simp only [aj, hat]) (cV hb) rfl hl h9.to
theorem Zn (S : SOk σ) (T : ia σ t) (hat : t.at' = 24) : Sp lZ [vp e, vi now] (eP e p rp σ t) (fun _ : Unit => ch (aj σ t now)) (fun _ => eQ e p rp (aj σ t now)) := by
 have hN : σ.μ.N < 1099511627000 := by have := S.N; omega
 refine aK fun R H h => ?_;obtain ⟨nx, rv, g, hv, rfl, hl, _, h0⟩ := dR h;obtain ⟨b, hb, rfl⟩ := hv (by omega);have ho := T.obj (.inl (by omega));refine bm (fun r => OK _ _ H) ?_;refine br h0 fun b1 H1 h1 => ?_;refine ap h1 ac rfl ?_;refine ap h1 ac rfl ?_;refine ap h1 ac rfl ?_;refine ap h1 ac rfl ?_;refine ap h1 ac rfl ?_;refine ap h1 ac rfl ?_;refine af h1 (Ge (p := p) (g := g) (σ := σ) (P4 g.ib g.m g.nm σ.c σ.nx σ.μ t.who t.s t.top t.obj (by have := S.obs; omega) hN)) fun _ H2 h2 => ?_
 by_cases hw : σ.μ.V (9, t.s, 0) = t.top
 ·rw [d4 hw]
  refine gs ?_;rw [Bool.not_true];refine gs ?_;refine gQ (e := e) (p := p) nx (vp b) { t with at' := 25 } oL h2 fun H9 h9 => ?_;exact dW (σ' := σ.mem (σ.μ.swp t.who (9, t.s, 0) t.top (t.obj + 1))) (t' := { t with at' := 25 }) (v := (vp b)) (n := oL) (by simp only [aj, hat]; rw [if_pos hw]) (cV hb) rfl hl h9.to
 ·rw [d6 hw]
  refine gs ?_;rw [Bool.not_false];refine gs ?_;refine gQ (e := e) (p := p) nx (vp b) { t with at' := 22 } dT h2 fun H9 h9 => ?_;exact dW (σ' := σ.mem (σ.μ.swp t.who (9, t.s, 0) t.top (t.obj + 1))) (t' := { t with at' := 22 }) (v := (vp b)) (n := dT) (by simp only [aj, hat]; rw [if_neg hw]) (cV hb) rfl hl h9.to
theorem ah1 (S : SOk σ) (T : ia σ t) (hat : t.at' = 15) : Sp oN [vp e, vi now] (eP e p rp σ t) (fun _ : Unit => ch (aj σ t now)) (fun _ => eQ e p rp (aj σ t now)) := by
 have hN : σ.μ.N < 1099511627000 := by have := S.N; omega
 refine aK fun R H h => ?_;obtain ⟨nx, rv, g, hv, rfl, hl, _, h0⟩ := dR h;obtain ⟨b, hb, rfl⟩ := hv (by omega);have ho := T.obj (.inl (by omega));refine bm (fun r => V8 _ _ H) ?_;refine br h0 fun b1 H1 h1 => ?_;refine ap h1 ac rfl ?_;refine ap h1 ac rfl ?_;refine af h1 (pM p g σ t.who S.N) fun _ H2 h2 => ?_;refine bj h2 ac rfl rfl fun H3 h3 => ?_;refine ap h3 ac rfl ?_;refine aa (Hk 2 (by omega)) ?_
 by_cases hw : σ.μ.V (2, 0, 0) % 2 = 1
 ·refine aa (bo (show ((σ.μ.V (2, 0, 0) % 2 : Nat) : Int) = 1 by omega)) ?_
  refine gs ?_;refine gQ (e := e) (p := p) nx (vp b) { t with q := σ.μ.V (2, 0, 0), at' := 7 } cr h3 fun H9 h9 => ?_;exact dW (σ' := ez σ t) (t' := { t with q := σ.μ.V (2, 0, 0), at' := 7 }) (v := (vp b)) (n := cr) (by simp only [aj, hat]; rw [if_pos hw]) (cV hb) rfl hl h9.to
 ·refine aa (aG (show ¬ ((σ.μ.V (2, 0, 0) % 2 : Nat) : Int) = 1 by omega)) ?_
  refine gs ?_;refine gQ (e := e) (p := p) nx (vp b) { t with q := σ.μ.V (2, 0, 0), at' := 16 } fA h3 fun H9 h9 => ?_;exact dW (σ' := ez σ t) (t' := { t with q := σ.μ.V (2, 0, 0), at' := 16 }) (v := (vp b)) (n := fA) (by simp only [aj, hat]; rw [if_neg hw]) (cV hb) rfl hl h9.to
theorem Fa (S : SOk σ) (T : ia σ t) (hat : t.at' = 17) : Sp fy [vp e, vi now] (eP e p rp σ t) (fun _ : Unit => ch (aj σ t now)) (fun _ => eQ e p rp (aj σ t now)) := by
 have hN : σ.μ.N < 1099511627000 := by have := S.N; omega
 refine aK fun R H h => ?_;obtain ⟨nx, rv, g, hv, rfl, hl, _, h0⟩ := dR h;obtain ⟨b, hb, rfl⟩ := hv (by omega);have ho := T.obj (.inl (by omega));refine bm (fun r => z9 _ _ H) ?_;refine br h0 fun b1 H1 h1 => ?_;refine bE ac ?_;refine aQ h1 rfl ?_;refine bE ac ?_;refine aQ h1 rfl ?_;refine ap h1 ac rfl ?_;refine ap h1 ac rfl ?_;refine af h1 (km (p := p) hl ho hb (Hn g.m t.obj b (ay σ t.obj) σ.μ t.who hN)) fun _ H2 h2 => ?_;refine aJ h2 h1 (by rfl) ?_;refine aJ h2 h1 (by rfl) ?_;refine af h2 (RP (p := p) (σ := jl σ t) hl ho hb (Hm g.m t.obj b (ay σ t.obj) t.w (σ.μ.V (12, (t.obj : Int), 0)) T.w (S.cells _ ho).2)) fun _ H3 h3 => ?_;cases hf : gq t.w (σ.μ.V (12, (t.obj : Int), 0)) (ay σ t.obj).length
 ·refine gs ?_
  rw [Bool.not_false];refine gs ?_;refine gQ (e := e) (p := p) nx (vp b) { t with at' := 7 } cr h3 fun H9 h9 => ?_;exact dW (σ' := jl σ t) (t' := { t with at' := 7 }) (v := (vp b)) (n := cr) (by simp only [aj, hat, jP, hf]; rfl) (cV hb) rfl hl h9.to
 ·refine gs ?_
  rw [Bool.not_true];refine gs ?_;refine bj h3 ac rfl rfl fun H4 h4 => ?_;refine gQ (e := e) (p := p) nx (vp b) { t with at' := 18, mark := now } gj h4 fun H9 h9 => ?_;exact dW (σ' := jl σ t) (t' := { t with at' := 18, mark := now }) (v := (vp b)) (n := gj) (by simp only [aj, hat, jP, hf]; rfl) (cV hb) rfl hl h9.to
theorem F6 (S : SOk σ) (T : ia σ t) (hat : t.at' = 18) : Sp gj [vp e, vi now] (eP e p rp σ t) (fun _ : Unit => ch (aj σ t now)) (fun _ => eQ e p rp (aj σ t now)) := by
 have hN : σ.μ.N < 1099511627000 := by have := S.N; omega
 refine aK fun R H h => ?_;obtain ⟨nx, rv, g, hv, rfl, hl, _, h0⟩ := dR h;obtain ⟨b, hb, rfl⟩ := hv (by omega);have ho := T.obj (.inl (by omega));refine bm (fun r => Cv _ _ H) ?_;refine br h0 fun b1 H1 h1 => ?_;refine ap h1 ac rfl ?_;refine ap h1 ac rfl ?_;refine af h1 (pM p g σ t.who S.N) fun _ H2 h2 => ?_;refine bE ac ?_;refine aQ h2 rfl ?_;refine aJ h1 h2 (by rfl) ?_
 by_cases hw : σ.μ.V (2, 0, 0) = t.q
 ·refine aa (rJ (show ((σ.μ.V (2, 0, 0) : Nat) : Int) = (t.q : Int) by omega)) ?_
  refine gs ?_;refine ap h2 ac rfl ?_;have k2 := bG (p := p) (rp := g.rp) (σ := ez σ t) (R := eB e p nx (vp b) t * (blk b1 (.cells false [vi 0, .slice none 0 0, vi 0, vw 0]) * R)) g rfl hl h2.to;refine mT k2 (zi e p g.rp (ez σ t) nx (vp b) t t.mark 9 (by have := S.pts; show σ.pts.length < _; omega)) fun H9 h9 => ?_;exact Cw (σ' := (ez σ t).note t.mark t.who 9) (t' := { t with code := 9 }) (by simp only [aj, hat]; rw [if_pos hw]) rfl h9.to
 ·refine aa (G1 (show ¬ ((σ.μ.V (2, 0, 0) : Nat) : Int) = (t.q : Int) by omega)) ?_
  refine gs ?_;refine gQ (e := e) (p := p) nx (vp b) { t with at' := 7 } cr h2 fun H9 h9 => ?_;exact dW (σ' := ez σ t) (t' := { t with at' := 7 }) (v := (vp b)) (n := cr) (by simp only [aj, hat]; rw [if_neg hw]) (cV hb) rfl hl h9.to
def gC (σ : aS) (t : Tk) : aS × Tk × Bool :=
 (aW σ t, { aN σ t with at' := if (aN σ t).found = true then 6 else if bO σ (aN σ t) = true then 3 else 2 }, false)
theorem HM (S : SOk σ) (T : ia σ t) (hat : t.at' = 0 ∨ t.at' = 2) : Sp j3 [vp e, vi now] (eP e p rp σ t) (fun _ : Unit => ch (gC σ t)) (fun _ => eQ e p rp (gC σ t)) := by
 have hN : σ.μ.N < 1099511627000 := by have := S.N; omega
 refine aK fun R H h => ?_;obtain ⟨nx, rv, g, hv, rfl, hl, _, h0⟩ := dR h;have hi := T.i (by omega) (by omega);refine bm (fun r => OL _ _ H) ?_;refine br h0 fun b1 H1 h1 => ?_;refine af h1 (Sk e p g σ nx rv t S hi) fun _ H2 h2 => ?_;refine ah (FJ _ _ _ _ H2) ?_;refine ap h2 ac rfl ?_;cases hf : (aN σ t).found
 ·refine gs ?_
  cases hla : bO σ (aN σ t)
  ·refine gs ?_
   refine ah (FK _ _ _ H2) ?_;refine gQ (e := e) (p := p) nx rv { aN σ t with at' := 2 } j3 h2 fun H9 h9 => ?_;exact dW (σ' := aW σ t) (t' := { aN σ t with at' := 2 }) (v := rv) (n := j3) (by simp only [gC, hf, hla]; rfl) (iO (by simp)) rfl hl h9.to
  ·refine gs ?_
   refine gQ (e := e) (p := p) nx rv { aN σ t with at' := 3 } dn h2 fun H9 h9 => ?_;exact dW (σ' := aW σ t) (t' := { aN σ t with at' := 3 }) (v := rv) (n := dn) (by simp only [gC, hf, hla]; rfl) (iO (by simp)) rfl hl h9.to
 ·refine gs ?_
  refine gQ (e := e) (p := p) nx rv { aN σ t with at' := 6 } gU h2 fun H9 h9 => ?_;exact dW (σ' := aW σ t) (t' := { aN σ t with at' := 6 }) (v := rv) (n := gU) (by simp only [gC, hf]; rfl) (iO (by simp)) rfl hl h9.to
theorem NI (S : SOk σ) (T : ia σ t) (hat : t.at' = 4) : Sp eJ [vp e, vi now] (eP e p rp σ t) (fun _ : Unit => ch (aj σ t now)) (fun _ => eQ e p rp (aj σ t now)) := by
 have hN : σ.μ.N < 1099511627000 := by have := S.N; omega
 refine aK fun R H h => ?_;obtain ⟨nx, rv, g, hv, rfl, hl, _, h0⟩ := dR h;have hi := T.i (by omega) (by omega);refine bm (fun r => Im _ _ H) ?_;refine br h0 fun b1 H1 h1 => ?_;refine af h1 (Sk e p g σ nx rv t S hi) fun _ H2 h2 => ?_;refine ah (Aa _ _ _ _ _ H2) ?_;refine ap h2 ac rfl ?_;cases hf : (aN σ t).found
 ·refine gs ?_
  cases hla : bO σ (aN σ t)
  ·refine gs ?_
   refine ah (Ab _ _ _ H2) ?_;refine gQ (e := e) (p := p) nx rv (aN σ t) eJ h2 fun H9 h9 => ?_;exact dW (σ' := aW σ t) (t' := (aN σ t)) (v := rv) (n := eJ) (by simp only [aj, hat, hf, hla]; rfl) (iO (show t.at' < 7 by omega)) (by show Az t.at' = _; rw [hat]; rfl) hl h9.to
  ·refine gs ?_
   have k2 := bG (p := p) (rp := g.rp) (σ := aW σ t) (R := eB e p nx rv (aN σ t) * (blk b1 (.cells false [vi 0, .slice none 0 0, vi 0, vw 0]) * R)) g rfl hl h2.to;refine af k2 (vy e p g.rp (aW σ t) nx rv (aN σ t) now 5 (by have := S.pts; show σ.pts.length < _; omega)) fun _ H3 h3 => ?_;refine gQ (e := e) (p := p) nx rv { aN σ t with at' := 5, code := 5 } eK h3 fun H9 h9 => ?_;exact Io (σ' := (aW σ t).note now (aN σ t).who 5) (t' := { aN σ t with at' := 5, code := 5 }) (v := rv) (n := eK) (by simp only [aj, hat, hf, hla]; rfl) (iO (by simp)) rfl h9.to
 ·refine gs ?_
  refine gQ (e := e) (p := p) nx rv { aN σ t with at' := 5 } eK h2 fun H9 h9 => ?_;exact dW (σ' := aW σ t) (t' := { aN σ t with at' := 5 }) (v := rv) (n := eK) (by simp only [aj, hat, hf]; rfl) (iO (by simp)) rfl hl h9.to
theorem Rz (S : SOk σ) (T : ia σ t) (hat : t.at' = 0) : Sp mA [vp e, vi now] (eP e p rp σ t) (fun _ : Unit => ch (aj σ t now)) (fun _ => eQ e p rp (aj σ t now)) := by
 have hN : σ.μ.N < 1099511627000 := by have := S.N; omega
 refine bh (LB _ _) fun R H h => ?_;refine br h fun b H1 h1 => ?_;refine ah (Cp _ _ _ _ H1) ?_;obtain ⟨nx, rv, g, hv, rfl, hl, _, k1⟩ := dR (e := e) (p := p) (rp := rp) (σ := σ) (t := t) (R := blk b (.cells false [vi 0, .slice none 0 0, vi 0, vw 0]) * R) (H := H1) h1.to
 have fin : ∀ code, dd t.x = some code → wp ((FF jb [vp e, vi now, vi code] H1).bind fun r25 =>
  (ag r25.1 0).bind fun v26 =>
  (ag r25.1 1).bind fun v27 =>
  (cG 4 (vp b) v26 r25.2).bind fun H28 =>
  (aA 4 (vp b) H28).bind fun v29 => some (Value.tuple #[v29, v27], H28)) fun v' H' => ∃ x_1 : Unit, v' = ch (aj σ t now) ∧ ae (eQ e p g.rp (aj σ t now) * R) H' := by
  intro code hx;have k2 := bG (p := p) (rp := g.rp) (σ := σ) (R := eB e p nx rv t * (blk b (.cells false [vi 0, .slice none 0 0, vi 0, vw 0]) * R)) g rfl hl k1.to;refine mT k2 (zi e p g.rp σ nx rv t now code (by have := S.pts; omega)) fun H9 h9 => ?_;exact Cw (σ' := σ.note now t.who code) (t' := { t with code := code }) (by simp only [aj, hat, hx]) rfl h9.to
 have scan : dd t.x = none → wp (qF (vp e) (vi now) (vp b) (vb false) H1) fun v' H' => ∃ x_1 : Unit, v' = ch (aj σ t now) ∧ ae (eQ e p g.rp (aj σ t now) * R) H' := by
  intro hx
  have hs : aj σ t now = gC σ t := by simp only [aj, hat, hx, gC]
  rw [hs];refine ah (Cq _ _ _ _ H1) ?_;exact mT h1 (HM e p g.rp σ t now S T (.inl hat)) fun H9 h9 => ⟨(), rfl, h9.to⟩
 refine ap k1 (ci (aP (aP be))) rfl ?_
 by_cases ha : t.x.a < 1
 ·refine aa (cz ha) ?_
  refine gs ?_;exact fin 3 (by rw [dd, if_pos (.inl ha)])
 ·refine aa (bW ha) ?_
  refine gs ?_;refine ap k1 (ci (aP (aP be))) rfl ?_;refine gs ?_
  by_cases ha2 : 65536 < t.x.a
  ·refine aa (kN ha2) ?_
   refine gs ?_;exact fin 3 (by rw [dd, if_pos (.inr ha2)])
  ·refine aa (fQ ha2) ?_
   refine gs ?_;refine ap k1 (ci (aP (aP be))) rfl ?_
   by_cases hf : t.x.flow < 0
   ·refine aa (cz hf) ?_
    refine gs ?_;exact fin 5 (by rw [dd, if_neg (by omega), if_pos (.inl hf)])
   ·refine aa (bW hf) ?_
    refine gs ?_;refine ap k1 (ci (aP (aP be))) rfl ?_;refine gs ?_
    by_cases hf2 : 1048576 < t.x.flow
    ·refine aa (kN hf2) ?_
     refine gs ?_;exact fin 5 (by rw [dd, if_neg (by omega), if_pos (.inr hf2)])
    ·refine aa (fQ hf2) ?_
     refine gs ?_;exact scan (by rw [dd, if_neg (by omega), if_neg (by omega)])
theorem aa1 (S : SOk σ) (T : ia σ t) : Sp yp [vp e, vi now] (eP e p rp σ t) (fun _ : Unit => ch (aj σ t now)) (fun _ => eQ e p rp (aj σ t now)) := by
 refine bh (OB _ _) fun R H h => ?_;refine br h fun b H1 h1 => ?_;obtain ⟨rv, hv, k1⟩ := Si (e := e) (p := p) (rp := rp) (σ := σ) (t := t) (R := blk b (.cells false [vi 0, .slice none 0 0, vi 0, vw 0]) * R) (H := H1) h1.to;refine ap k1 ac rfl ?_;refine ah (show (cf (.func (.func (Az t.at')) #[vp e] #[]) [vi now]).bind _ = _ from rfl) ?_
 have hs : Sp (Az t.at') [vp e, vi now] (eP e p rp σ t) (fun _ : Unit => ch (aj σ t now)) (fun _ => eQ e p rp (aj σ t now)) := by
  rcases T.ats with hat | hat | hat | hat | hat | hat | hat | hat | hat | hat | hat | hat | hat | hat | hat | hat | hat | hat | hat | hat | hat | hat | hat | hat <;> rw [show Az t.at' = _ from by rw [hat]]
  ·exact Rz e p rp σ t now S T hat
  ·have h := HM e p rp σ t now S T (.inr hat)
   have hs : aj σ t now = gC σ t := by simp only [aj, hat, gC]
   rw [hs]; exact h
  ·exact Zl e p rp σ t now S T hat
  ·exact NI e p rp σ t now S T hat
  ·exact NJ e p rp σ t now S T hat
  ·exact Zm e p rp σ t now S T hat
  ·exact Zq e p rp σ t now S T hat
  ·exact Zi e p rp σ t now S T hat
  ·exact Ry e p rp σ t now S T hat
  ·exact ah0 e p rp σ t now S T hat
  ·exact Zo e p rp σ t now S T hat
  ·exact Rx e p rp σ t now S T hat
  ·exact Zp e p rp σ t now S T hat
  ·exact Zh e p rp σ t now S T hat
  ·exact ah1 e p rp σ t now S T hat
  ·exact Fb e p rp σ t now S T hat
  ·exact Fa e p rp σ t now S T hat
  ·exact F6 e p rp σ t now S T hat
  ·exact Zf e p rp σ t now S T hat
  ·exact RA e p rp σ t now S T hat
  ·exact KJ e p rp σ t now S T hat
  ·exact Zk e p rp σ t now S T hat
  ·exact Zn e p rp σ t now S T hat
  ·exact ahZ e p rp σ t now S T hat
 exact mT h1 hs fun H9 h9 => ⟨(), rfl, h9.to⟩
end
theorem Zv {a b : Nat} {x : Value} {k : Value → OV} {Q : Value → AH → Prop} (h : wp (k undef) Q) : wp (FQ (vb false) true [.n, .f a, .f b] x k) Q := h
theorem ae3 {P P2 : SP} {H H2 : AH} {ro ro2 : Bool} {b o : Nat} {cs cs2 : List Value} (h : ae P H) (h2 : ae P2 H2) [i : Hs P b (.cells ro cs)] [i2 : Hs P2 b (.cells ro2 cs2)] (e : cs[o]? = cs2[o]?) : au (tV b o) H = au (tV b o) H2 := by
 simp only [au, ux, eu, bP, i.get h, i2.get h2];exact e
def rK (x : Cl) : Prop := x.flow < 0 ∨ 1048576 < x.flow
instance (x : Cl) : Decidable (rK x) := inferInstanceAs (Decidable (_ ∨ _))
def jN (x : Cl) : Option Int :=
 if x.op = 1 then (if rK x then some 1 else if x.a < 1 ∨ 65536 < x.a then some 4 else if x.b < 1 ∨ 8 < x.b then some 1 else none)
 else if rK x then some 5 else none
def aC (σ : aS) (t : Tk) : Tk :=
 let v := σ.μ.V (10, t.s, (t.i : Int))
 { t with i := if gf v t.x.flow = true then t.i else t.i + 1, found := gf v t.x.flow, obj := if gf v t.x.flow = true then v % 4294967296 else t.obj, mark := if v = 0 ∧ t.mark < 0 then (t.i : Int) else t.mark }
abbrev lr (σ : aS) (t : Tk) : aS := σ.mem (σ.μ.swp t.who (8, t.s, 0) 0 1)
abbrev iP (σ : aS) (t : Tk) : aS := σ.mem ((σ.μ.acc t.who 2 (8, t.s, 0)).put (8, t.s, 0) 0)
def fm (σ : aS) (t : Tk) : aS × Tk × Bool := (lr σ t, { t with at' := if σ.μ.V (8, t.s, 0) = 0 then 3 else 2 }, false)
abbrev obR (σ : aS) (t : Tk) : Ob := ⟨t.x.flow, t.x.b, max (σ.c.un / t.x.a.toNat) 1⟩
def wX (σ : aS) (t : Tk) (now : Int) : aS × Tk × Bool :=
 match t.at' with
 | 4 => (σ.make t.who (obR σ t), { t with obj := σ.obs.length, at' := 5 }, false)
 | 5 => ((σ.mem ((σ.μ.acc t.who 2 (10, t.s, t.mark)).put (10, t.s, t.mark) (dk t.x.flow t.obj))).note now t.who 0, { t with at' := 6, code := 0 }, false)
 | _ => (iP σ t, t, true)
def ei (σ : aS) (t : Tk) (now : Int) : aS × Tk × Bool :=
 match t.at' with
 | 4 => let w := σ.μ.V (11, (t.obj : Int), 0)
  (dh σ t, { t with w := w, at' := if ba w = 0 then 8 else 5 }, false)
 | 5 => let q := σ.μ.V (2, 0, 0)
  (ez σ t, { t with q := q, at' := if q % 2 = 1 then 4 else 6 }, false)
 | 6 => let w := σ.μ.V (11, (t.obj : Int), 0)
  (dh σ t, { t with w := w, mark := now, at' := if ba w = 0 then 8 else 7 }, false)
 | 7 => if σ.μ.V (2, 0, 0) = t.q then ((ez σ t).note t.mark t.who 8, { t with at' := 10, code := 8 }, false) else (ez σ t, { t with at' := 4 }, false)
 | 8 => let o := aY t.w 2
  let σ1 := σ.mem (σ.μ.turn t.who t.obj t.w o)
  if fi σ.μ t.obj t.w o = true then (σ1.note now t.who 0, { t with at' := 9, code := 0 }, false) else (σ1, { t with at' := 4 }, false)
 | 9 => (σ.mem ((σ.μ.acc t.who 2 (10, t.s, (t.i : Int))).put (10, t.s, (t.i : Int)) 0), { t with at' := 10 }, false)
 | _ => (iP σ t, t, true)
def ax (σ : aS) (t : Tk) (now : Int) : aS × Tk × Bool :=
 match t.at' with
 | 0 => match jN t.x with
  | some e => (σ.note now t.who e, { t with code := e }, true)
  | none => fm σ t
 | 2 => fm σ t
 | 3 => let t1 := aC σ t
  if t1.found = true then (if t.x.op = 1 then ((aW σ t).note now t.who 6, { t1 with at' := 6, code := 6 }, false) else (aW σ t, { t1 with at' := 4 }, false))
  else if bO σ t1 = true then
   (if t.x.op = 1 then (if t1.mark < 0 then ((aW σ t).note now t.who 7, { t1 with at' := 6, code := 7 }, false) else (aW σ t, { t1 with at' := 4 }, false))
   else ((aW σ t).note now t.who 5, { t1 with at' := 10, code := 5 }, false))
  else (aW σ t, t1, false)
 | _ => if t.x.op = 1 then wX σ t now else ei σ t now
structure mi (σ : aS) (t : Tk) : Prop where
 s : t.s = (t.x.flow.tmod σ.c.sh + σ.c.sh).tmod σ.c.sh
 i : t.at' < 4 → (t.i : Int) < σ.c.sl
 x : t.at' ≠ 0 → jN t.x = none
 ats : t.at' = 0 ∨ t.at' = 2 ∨ t.at' = 3 ∨ 4 ≤ t.at' ∧ t.at' < 7 ∨ t.x.op ≠ 1 ∧ 7 ≤ t.at' ∧ t.at' < 11
 mark : t.at' = 4 ∨ t.at' = 5 → t.x.op = 1 → 0 ≤ t.mark
 obj : t.at' = 5 ∧ t.x.op = 1 ∨ 4 ≤ t.at' ∧ t.at' < 10 ∧ t.x.op ≠ 1 → t.obj < σ.obs.length
 w : t.w < 18446744073709551616
structure Ek where
 I : Nat
 free : Int
 at' : Int
 obj : Nat
 rv : Value
 w : Nat
 q : Nat
 nw : Int
 told : Int
abbrev rB (e p : Nat) (nx : Value) (t : Tk) (k : Ek) : SP :=
 blk e (.cells false [vp p, vi t.who, vi t.x.op, vi t.x.flow, vi t.x.a, vi t.x.b, vi t.s, nx, vi k.I, vi k.free, vi k.at', vi k.obj, k.rv, vu k.w, vu k.q, vi k.nw, vi k.told])
def fM (t : Tk) : Nat := if t.x.op = 1 then
    (match t.at' with | 0 => fF | 2 => cP | 3 => bV | 4 => dA | 5 => fh | _ => aO)
 else match t.at' with | 0 => eF | 2 => cZ | 3 => cj | 4 => bu | 5 => dX | 6 => cw | 7 => cE | 8 => cm | 9 => dJ | _ => aO
def Plt (rp : List Nat) (t : Tk) (k : Ek) : Prop :=
 (t.at' < 4 → k.I = t.i ∧ k.free = t.mark) ∧ (t.x.op = 1 → (t.at' = 4 ∨ t.at' = 5 → k.free = t.mark) ∧ (t.at' = 5 → k.obj = t.obj) ∧ (t.at' = 6 → k.told = t.code)) ∧
 (t.x.op ≠ 1 → (4 ≤ t.at' → t.at' < 10 → k.at' = t.i ∧ ∃ b, rp[t.obj]? = some b ∧ k.rv = vp b) ∧ (t.at' = 6 ∨ t.at' = 7 → k.q = t.q) ∧ (t.at' = 7 → k.nw = t.mark) ∧ (t.at' = 8 → k.w = t.w) ∧ (t.at' = 9 ∨ t.at' = 10 → k.told = t.code))
def rT (e p : Nat) (rp : List Nat) (t : Tk) : SP := ex fun k : Ek => pu (Plt rp t k) * rB e p (fj e (fM t)) t k
def rU (e p : Nat) (rp : List Nat) (r : aS × Tk × Bool) : SP := if r.2.2 = true then emp else rT e p rp r.2.1
def rQ (e p : Nat) (rp : List Nat) (r : aS × Tk × Bool) (rp' : List Nat) : SP := pu (rp <+: rp') * (rU e p rp' r * bk p rp' r.1)
section
variable {e p : Nat} {rp : List Nat} {g : PIds} {σ σ' : aS} {t t' : Tk} {R P : SP} {H : AH} {r : aS × Tk × Bool} {v : Value} {n : Nat} {c : Int} {k : Ek}
theorem iv (h : ae (rT e p rp t * bk p rp σ * R) H) : ∃ (k : Ek) (g : PIds), Plt rp t k ∧ g.rp = rp ∧ rp.length = σ.obs.length ∧ ae (rB e p (fj e (fM t)) t k * (aD p g σ * R)) H := by
 unfold rT at h;rw [ak] at h;obtain ⟨k, h1⟩ := ae.ex.1 h;rw [ak, ae.pu] at h1;obtain ⟨g, h3, h4, h5⟩ := dY (p := p) (rp := rp) (σ := σ) (R := rB e p (fj e (fM t)) t k * R) (H := H) h1.2.to;exact ⟨k, g, h1.1, h3, h4, h5.to⟩
theorem gA (hr : r = (σ', t', false)) (hk : Plt g.rp t' k) (hn : fM t' = n) (hl : g.rp.length = σ'.obs.length) (hp : rp <+: g.rp) (h : ae (rB e p (fj e n) t' k * (aD p g σ' * R)) H) :
 ∃ x : List Nat, (.tuple #[.agg (gm 0).toArray, vb false]) = ch r ∧ ae (rQ e p rp r x * R) H := by
 subst hr hn;refine ⟨g.rp, rfl, ?_⟩;unfold rQ;rw [ak];refine ae.pu.2 ⟨hp, ?_⟩;have h1 := bG (p := p) (rp := g.rp) (σ := σ') (R := rB e p (fj e (fM t')) t' k * R) g rfl hl h.to;rw [show rU e p g.rp (σ', t', false) = rT e p g.rp t' from by unfold rU; rw [if_neg (by simp)]];unfold rT;rw [ak];refine ae.ex.2 ⟨k, ?_⟩;rw [ak];exact ae.pu.2 ⟨hk, h1.to⟩
theorem agH (hr : r = (σ', t', true)) (hc : t'.code = c) (hl : g.rp.length = σ'.obs.length) (hp : rp <+: g.rp) (h : ae (aD p g σ' * R) H) :
 ∃ x : List Nat, (.tuple #[.agg (gm c).toArray, vb true]) = ch r ∧ ae (rQ e p rp r x * R) H := by
 subst hr hc;refine ⟨g.rp, rfl, ?_⟩;unfold rQ;rw [ak];refine ae.pu.2 ⟨hp, ?_⟩;have h1 := bG (p := p) (rp := g.rp) (σ := σ') (R := R) g rfl hl h.to;rw [show rU e p g.rp (σ', t', true) = emp from by unfold rU; rw [if_pos rfl], lG];exact h1
theorem gD (nx : Value) (t' : Tk) (k : Ek) (n : Nat) {b : Nat} {Q : Value → AH → Prop} (h : ae P H) [fr : Fr P (rB e p nx t' k * blk b (.cells false [vi 0, .slice none 0 0, vi 0, vw 0])) R]
 (hk : ∀ H', ae (rB e p (fj e n) t' k * R) H' → Q (.tuple #[.agg (gm 0).toArray, vb false]) H') :
 wp ((FF bg [vp e, fj e n] H).bind fun r2 => (ag r2.1 0).bind fun v3 => (ag r2.1 1).bind fun v4 => (cG 4 (vp b) v3 r2.2).bind fun H5 => (aA 4 (vp b) H5).bind fun v6 => some (Value.tuple #[v6, v4], H5)) Q := by
 have on : Sp bg [vp e, fj e n] (rB e p nx t' k) (fun _ : Unit => .tuple #[.agg (gm 0).toArray, vb false]) (fun _ => rB e p (fj e n) t' k) := by
  refine bh (F1 _ _) fun R H h => ?_;refine br h fun b H1 h1 => ?_;refine bj h1 ac rfl rfl fun H2 h2 => ?_;refine je ?_;refine ej h2 rfl rfl fun H3 h3 => ?_;refine aR h3 ?_;exact aq ⟨(), rfl, h3.to⟩
 exact mT h on hk
end
section
variable (e p : Nat) (rp : List Nat) (g : PIds) (σ : aS) (t : Tk) (k : Ek) (nx : Value) (now : Int)
theorem mR (code : Int) (hp : σ.pts.length < 1000000) (hl : g.rp.length = σ.obs.length) : Sp da [vp e, vi now, vi code] (rB e p nx t k * aD p g σ) (fun _ : PIds => .tuple #[]) (fun g' => pu (g'.rp = g.rp) * (rB e p nx t { k with told := code } * aD p g' (σ.note now t.who code))) := by
 refine bh (A6 _ _ _) fun R H h => ?_;refine bj h ac rfl rfl fun H0 h0 => ?_;refine ap h0 ac rfl ?_;refine ap h0 ac rfl ?_;refine je ?_;have h1 := bG (p := p) (rp := g.rp) (σ := σ) (R := rB e p nx t { k with told := code } * R) g rfl hl h0.to;refine af h1 (anL p g.rp σ now t.who code hp) fun _ H2 h2 => ?_;obtain ⟨g', hg', _, h3⟩ := dY (p := p) (rp := g.rp) (σ := σ.note now t.who code) (R := rB e p nx t { k with told := code } * R) (H := H2) h2.to;refine aq ⟨g', rfl, ?_⟩;rw [ak];exact ae.pu.2 ⟨hg', h3.to⟩
theorem NO (u : Nat) (w : Int) (hu : 1 ≤ u ∧ u ≤ 4611686018427387904) (hw : 1 ≤ w ∧ w ≤ 65536) : Sp n0 [vu u, vi w] emp (fun _ : Unit => .tuple #[vu (max (u / w.toNat) 1), vb true]) (fun _ => emp) := by
 refine bh (Ff _ _) fun R H h => ?_;refine aa (bW (by omega)) ?_;refine gs ?_;refine aa (fQ ?_) ?_
 ·omega
 refine gs ?_;refine aa (bW ?_) ?_
 ·omega
 refine gs ?_;refine aa (fQ ?_) ?_
 ·omega
 refine gs ?_;refine aa (dQ (by omega) (by omega)) ?_;refine aa (xC (by omega) (by omega)) ?_;refine aa (anG (b := 1)) ?_;exact aq ⟨(), rfl, ae.to (by assumption)⟩
theorem aqU (who : Int) (o : Ob) (hE : σ.μ.N < 1099511627000) (ho : σ.obs.length < 1000000) (hg : g.rp.length = σ.obs.length) : Sp d8 [vp p, vi who, .agg (#[vi o.flow, vi o.most, vu o.r] : Array Value)] (aD p g σ) (fun _ : PIds => vi σ.obs.length) (fun g' => pu (g.rp <+: g'.rp ∧ g'.rp.length = σ.obs.length + 1) * aD p g' (σ.make who o)) := by
 have hz : ((σ.obs.map fun x => x.1).zip g.rp).length = σ.obs.length := by simp [hg]
 refine aK fun R H h0 => ?_;unfold aD at h0;refine bm (fun r => lA _ _ _ H) ?_;refine aX (l := [vi o.flow, vi o.most, vu o.r]) h0 fun ob H1 h1 => ?_;refine ap h1 ac rfl ?_;refine oa (s := g.ov) h1 ?_;rw [hz];refine ap h1 ac rfl ?_;refine je ?_;refine af h1 ((sZ g.m σ.μ who (13, σ.obs.length, 0) (by omega)).imp fun _ R H h => kp (N' := σ.μ.N + 2) (by simp) h) fun _ H2 h2 => ?_;refine bE ac ?_;refine aQ h2 rfl ?_;refine aR h2 ?_;refine ap h2 ac rfl ?_;refine ap h2 aE rfl ?_;refine af h2 (No g.m σ.obs.length o.most) fun rb H3 h3 => ?_;refine aJ h3 h2 rfl ?_;refine dZ h3 h2 rfl ?_;refine je ?_;refine RF h3 fun b0 H4 h4 => ?_;refine i1 ((o, rb) : Ob × Nat) h4 rfl ?_ (by omega) fun a cc H5 h5 => ?_
 ·unfold dr; omega
 refine bj h5 ac rfl rfl fun H6 h6 => ?_;refine aq ⟨{ g with ov := .slice a (((σ.obs.map fun x => x.1).zip g.rp).length + 1) cc, rp := g.rp ++ [rb] }, rfl, ?_⟩;rw [ak];refine ae.pu.2 ⟨⟨List.prefix_append _ _, by simp [hg]⟩, ?_⟩;unfold aD aS.make;dsimp only
 have e1 : ((σ.obs ++ [(o, List.replicate (dS o.most) G8)]).map fun x => x.1).zip (g.rp ++ [rb]) = ((σ.obs.map fun x => x.1).zip g.rp) ++ [(o, rb)] := by
  rw [FT, List.zip_append (by simp [hg])]
  rfl
 have e2 : (g.rp ++ [rb]).zip ((σ.obs ++ [(o, List.replicate (dS o.most) G8)]).map fun x => x.2) = (g.rp.zip (σ.obs.map fun x => x.2)) ++ [(rb, List.replicate (dS o.most) G8)] := by
  rw [FT, List.zip_append (by simp [hg])]
  rfl
 have e3 : 0 + (g.rp.zip (σ.obs.map fun x => x.2)).length = σ.obs.length := by simp [hg]
 rw [e1, e2, zM, e3];exact h6.to
theorem UW (S : SOk σ) (hi : (t.i : Int) < σ.c.sl) (hI : k.I = t.i) (hfr : k.free = t.mark) :
 Sp ky [vp e] (rB e p nx t k * aD p g σ) (fun _ : Unit => .tuple #[vb (aC σ t).found, vb (decide (σ.c.sl ≤ ((t.i + 1 : Nat) : Int)))])
  (fun _ => rB e p nx t { k with I := t.i + 1, free := (aC σ t).mark, at' := t.i, obj := σ.μ.V (10, t.s, (t.i : Int)) % 4294967296 } * aD p g (aW σ t)) := by
 have hc := bD.1 S.c;refine bh (EJ _) fun R H h => ?_;refine ap h ac rfl ?_;refine ap h ac rfl ?_;refine ap h ac rfl ?_;refine ap h ac rfl ?_;refine ap h ac rfl ?_;rw [hI];refine af h (u6 (p := p) (g := g) (σ := σ) (zS g.tb g.m σ.c.sh.toNat σ.c.sl.toNat σ.μ t.who t.s t.i (by have := S.N; omega) (S.V _))) fun _ H1 h1 => ?_;obtain ⟨v, hv⟩ : ∃ v, v = σ.μ.V (10, t.s, (t.i : Int)) := ⟨_, rfl⟩;rw [← hv];have fin : ∀ (y2 y3 fl : Value) (is : Bool) (k1 : Ek) (H' : AH), k1.I = t.i → (is = true → fl = vi ((v / 4294967296 : Nat) - 1)) → (aC σ t).found = (is && decide (((v / 4294967296 : Nat) : Int) - 1 = t.x.flow)) →
  { k1 with I := t.i + 1, at' := t.i, obj := v % 4294967296 } = { k with I := t.i + 1, free := (aC σ t).mark, at' := t.i, obj := v % 4294967296 } →
  ae (rB e p nx t k1 * (aD p g (aW σ t) * R)) H' → wp (jE (vp e) y2 y3 fl (vi ((v % 4294967296 : Nat) : Int)) (vb is) H') fun v' H' => ∃ _x : Unit, v' = .tuple #[vb (aC σ t).found, vb (decide (σ.c.sl ≤ ((t.i + 1 : Nat) : Int)))] ∧
   ae (rB e p nx t { k with I := t.i + 1, free := (aC σ t).mark, at' := t.i, obj := v % 4294967296 } * aD p g (aW σ t) * R) H' := by
  intro y2 y3 fl is k1 H' hi1 hfl hfd hke h';refine ah (wY ..) ?_;refine ap h' ac rfl ?_;rw [hi1];refine bj h' ac rfl rfl fun H2 h2 => ?_;refine bj h2 ac rfl rfl fun H3 h3 => ?_;refine ap h3 ac rfl ?_;rw [hi1];refine aa (aH (by omega) (by omega)) ?_;rw [show ((t.i : Nat) : Int) + 1 = ((t.i + 1 : Nat) : Int) from by omega];refine bj h3 ac rfl rfl fun H4 h4 => ?_
  have h5 : ae (rB e p nx t { k with I := t.i + 1, free := (aC σ t).mark, at' := t.i, obj := v % 4294967296 } * (aD p g (aW σ t) * R)) H4 := by
   rw [← hke];exact h4.to
  have tail : ∀ (b : Bool) (x10 : Value) (H4 : AH), (aC σ t).found = b → ae (rB e p nx t { k with I := t.i + 1, free := (aC σ t).mark, at' := t.i, obj := v % 4294967296 } * (aD p g (aW σ t) * R)) H4 → (∀ H8, ae (rB e p nx t { k with I := t.i + 1, free := (aC σ t).mark, at' := t.i, obj := v % 4294967296 } * (aD p g (aW σ t) * R)) H8 → au x10 H8 = au x10 H4) → wp (ad [.n, .f 8] (vp e) fun v14 =>
   (au v14 H4).bind fun v15 =>
   ld [.n, .f 0] (vp e) H4 fun v16 =>
   ld [.n, .f 2] v16 H4 fun v17 =>
   (FF dN [v17] H4).bind fun r18 =>
   b7 (au x10 r18.2) (au x10 H4) <|
   b7 (au v14 r18.2) (au v14 H4) <|
   (ai .other .geq v15 r18.1).bind fun v19 =>
   some (Value.tuple #[vb b, v19], r18.2)) fun v' H' => ∃ _x : Unit, v' = .tuple #[vb (aC σ t).found, vb (decide (σ.c.sl ≤ ((t.i + 1 : Nat) : Int)))] ∧
   ae (rB e p nx t { k with I := t.i + 1, free := (aC σ t).mark, at' := t.i, obj := v % 4294967296 } * aD p g (aW σ t) * R) H' := by
   intro b x10 H4 hb h5 hx;refine bE ac ?_;refine aQ h5 rfl ?_;refine ap h5 ac rfl ?_;refine ap h5 ac rfl ?_;refine af h5 (Ib (p := p) (g := g) (σ := aW σ t) (zV g.tb g.m σ.c.sh.toNat σ.c.sl.toNat)) fun _ H6 h6 => ?_;refine Fq (hx H6 h6.to) ?_;refine aJ h6 h5 (by rfl) ?_;refine aa (v := vb (decide (σ.c.sl ≤ ((t.i + 1 : Nat) : Int)))) ?_ ?_
   ·show ai _ .geq (vi ((t.i + 1 : Nat) : Int)) _ = _
    rw [sE]
    congr 3
    apply propext;omega
   exact aq ⟨(), by rw [hb], h6.to⟩
  cases is with
  | false =>
   refine gs ?_;refine Zv ?_;refine gs ?_;exact tail false _ H4 (by rw [hfd]; rfl) h5 (fun _ _ => rfl)
  | true =>
   rw [hfl rfl];refine gs ?_;refine kW ?_;refine bE (ci (aP (aP be))) ?_;refine gs ?_;refine aQ h5 rfl ?_;refine gs ?_
   by_cases hf : ((v / 4294967296 : Nat) : Int) - 1 = t.x.flow
   ·refine aa (bo hf) ?_
    refine gs ?_;exact tail true _ H4 (by rw [hfd, d4 hf]; rfl) h5 (fun H8 h8 => ae3 h8 h5 rfl)
   ·refine aa (aG hf) ?_
    refine gs ?_;exact tail false _ H4 (by rw [hfd, d6 hf]; rfl) h5 (fun H8 h8 => ae3 h8 h5 rfl)
 by_cases hv0 : v = 0
 ·have e1 : ig v = .tuple #[vi 0, vi 0, vb false] := by rw [ig, if_pos hv0]
  rw [e1];refine aa (v := vi 0) rfl ?_;refine aa (v := vi 0) rfl ?_;refine aa (v := vb false) rfl ?_;refine ah (nD ..) ?_;refine gs ?_;rw [Bool.not_false];refine gs ?_;refine ap h1 ac rfl ?_;refine gs ?_
  have hfd : (aC σ t).found = (false && decide (((v / 4294967296 : Nat) : Int) - 1 = t.x.flow)) := by
   show gf (σ.μ.V (10, t.s, (t.i : Int))) t.x.flow = _;rw [← hv, hv0]
   rfl
  have e0 : vi (0 : Int) = vi ((v % 4294967296 : Nat) : Int) := by rw [hv0]; rfl
  by_cases hm : k.free < 0
  ·refine aa (cz hm) ?_
   refine gs ?_;refine ap h1 ac rfl ?_;refine bj h1 ac rfl rfl fun H2 h2 => ?_
   have em : (aC σ t).mark = t.i := by
    show (if σ.μ.V (10, t.s, (t.i : Int)) = 0 ∧ t.mark < 0 then (t.i : Int) else t.mark) = _;rw [if_pos ⟨by rw [← hv, hv0], by rw [← hfr]; exact hm⟩]
   rw [e0];refine fin _ _ _ false { k with free := t.i } H2 hI (fun h => by cases h) hfd (by rw [em]) ?_;rw [← hI];exact h2.to
  ·refine aa (bW hm) ?_
   refine gs ?_
   have em : (aC σ t).mark = k.free := by
    show (if σ.μ.V (10, t.s, (t.i : Int)) = 0 ∧ t.mark < 0 then (t.i : Int) else t.mark) = _;rw [if_neg (fun h => hm (by rw [hfr]; exact h.2)), hfr]
   rw [e0];exact fin _ _ _ false k H1 hI (fun h => by cases h) hfd (by rw [em]) h1.to
 ·have e1 : ig v = .tuple #[vi ((v / 4294967296 : Nat) - 1), vi (v % 4294967296 : Nat), vb true] := by rw [ig, if_neg hv0]
  rw [e1];refine aa (v := vi ((v / 4294967296 : Nat) - 1)) rfl ?_;refine aa (v := vi (v % 4294967296 : Nat)) rfl ?_;refine aa (v := vb true) rfl ?_;refine ah (nD ..) ?_;refine gs ?_;rw [Bool.not_true];refine gs ?_
  have hfd : (aC σ t).found = (true && decide (((v / 4294967296 : Nat) : Int) - 1 = t.x.flow)) := by
   show gf (σ.μ.V (10, t.s, (t.i : Int))) t.x.flow = _;rw [← hv];simp [gf, hv0]
  have em : (aC σ t).mark = k.free := by
   show (if σ.μ.V (10, t.s, (t.i : Int)) = 0 ∧ t.mark < 0 then (t.i : Int) else t.mark) = _;rw [if_neg (fun h => hv0 (hv.trans h.1)), hfr]
  exact fin _ _ _ true k H1 hI (fun _ => rfl) hfd (by rw [em]) h1.to
end
theorem tW {rp : List Nat} {t : Tk} {k : Ek} (ha : t.at' < 4) (h : k.I = t.i ∧ k.free = t.mark) : Plt rp t k :=
 ⟨fun _ => h, fun _ => ⟨fun h => by omega, fun h => by omega, fun h => by omega⟩, fun _ => ⟨fun h _ => by omega, fun h => by omega, fun h => by omega, fun h => by omega, fun h => by omega⟩⟩
theorem KZ {rp : List Nat} {t : Tk} {k : Ek} (ho : t.x.op = 1) (ha : 4 ≤ t.at') (h4 : t.at' = 4 ∨ t.at' = 5 → k.free = t.mark) (h5 : t.at' = 5 → k.obj = t.obj) (h6 : t.at' = 6 → k.told = t.code) : Plt rp t k :=
 ⟨fun h => by omega, fun _ => ⟨h4, h5, h6⟩, fun h => absurd ho h⟩
theorem tt {rp : List Nat} {t : Tk} {k : Ek} {b : Nat} (ho : t.x.op ≠ 1) (ha : 4 ≤ t.at') (h1 : k.at' = t.i) (h2 : rp[t.obj]? = some b) (h3 : k.rv = vp b) (hq : t.at' = 6 ∨ t.at' = 7 → k.q = t.q) (hn : t.at' = 7 → k.nw = t.mark) (hw : t.at' = 8 → k.w = t.w) (hb : t.at' < 10) (ht : t.at' = 9 → k.told = t.code) : Plt rp t k :=
 ⟨fun h => by omega, fun h => absurd h ho, fun _ => ⟨fun _ _ => ⟨h1, b, h2, h3⟩, hq, hn, hw, fun h => ht (by omega)⟩⟩
theorem ZQ {rp : List Nat} {t : Tk} {k : Ek} (ho : t.x.op ≠ 1) (ha : t.at' = 10) (h : k.told = t.code) : Plt rp t k :=
 ⟨fun h => by omega, fun h => absurd h ho, fun _ => ⟨fun _ _ => by omega, fun h => by omega, fun h => by omega, fun h => by omega, fun _ => h⟩⟩
section
variable (e p : Nat) (rp : List Nat) (σ : aS) (t : Tk) (now : Int)
theorem Hj (S : SOk σ) (T : mi σ t) (ho : t.x.op = 1) (hat : t.at' < 4) : Sp cP [vp e, vi now] (rT e p rp t * bk p rp σ) (fun _ : List Nat => ch (fm σ t)) (fun x => rQ e p rp (fm σ t) x) := by
 have hN : σ.μ.N < 1099511627000 := by have := S.N; omega
 refine aK fun R H h => ?_;obtain ⟨k, g, hk, rfl, hl, h0⟩ := iv h;refine bm (fun r => yS _ _ H) ?_;refine br h0 fun b1 H1 h1 => ?_;refine ap h1 ac rfl ?_;refine ap h1 ac rfl ?_;refine ap h1 ac rfl ?_;refine ap h1 ac rfl ?_;refine af h1 (u6 (p := p) (g := g) (σ := σ) (u2 g.tb g.m σ.c.sh.toNat σ.c.sl.toNat σ.μ t.who t.s hN)) fun _ H2 h2 => ?_
 by_cases hw : σ.μ.V (8, t.s, 0) = 0
 ·rw [d4 hw]
  refine gs ?_;rw [Bool.not_true];refine gs ?_;refine gD (e := e) (p := p) (fj e (fM t)) t (k) bV h2 fun H9 h9 => ?_;exact gA (g := g) (σ' := lr σ t) (t' := { t with at' := 3 }) (k := k) (n := bV) (by unfold fm; rw [if_pos hw]) (tW (by simp) (hk.1 hat)) (by simp [fM, aC, ho]) hl (kQ _) (show ae (rB e p (fj e bV) t (k) * (aD p g (lr σ t) * R)) H9 from h9.to)
 ·rw [d6 hw]
  refine gs ?_;rw [Bool.not_false];refine gs ?_;refine gD (e := e) (p := p) (fj e (fM t)) t (k) cP h2 fun H9 h9 => ?_;exact gA (g := g) (σ' := lr σ t) (t' := { t with at' := 2 }) (k := k) (n := cP) (by unfold fm; rw [if_neg hw]) (tW (by simp) (hk.1 hat)) (by simp [fM, aC, ho]) hl (kQ _) (show ae (rB e p (fj e cP) t (k) * (aD p g (lr σ t) * R)) H9 from h9.to)
theorem Nk (S : SOk σ) (T : mi σ t) (ho : t.x.op ≠ 1) (hat : t.at' < 4) : Sp cZ [vp e, vi now] (rT e p rp t * bk p rp σ) (fun _ : List Nat => ch (fm σ t)) (fun x => rQ e p rp (fm σ t) x) := by
 have hN : σ.μ.N < 1099511627000 := by have := S.N; omega
 refine aK fun R H h => ?_;obtain ⟨k, g, hk, rfl, hl, h0⟩ := iv h;refine bm (fun r => AZ _ _ H) ?_;refine br h0 fun b1 H1 h1 => ?_;refine ap h1 ac rfl ?_;refine ap h1 ac rfl ?_;refine ap h1 ac rfl ?_;refine ap h1 ac rfl ?_;refine af h1 (u6 (p := p) (g := g) (σ := σ) (u2 g.tb g.m σ.c.sh.toNat σ.c.sl.toNat σ.μ t.who t.s hN)) fun _ H2 h2 => ?_
 by_cases hw : σ.μ.V (8, t.s, 0) = 0
 ·rw [d4 hw]
  refine gs ?_;rw [Bool.not_true];refine gs ?_;refine gD (e := e) (p := p) (fj e (fM t)) t (k) cj h2 fun H9 h9 => ?_;exact gA (g := g) (σ' := lr σ t) (t' := { t with at' := 3 }) (k := k) (n := cj) (by unfold fm; rw [if_pos hw]) (tW (by simp) (hk.1 hat)) (by simp [fM, aC, ho]) hl (kQ _) (show ae (rB e p (fj e cj) t (k) * (aD p g (lr σ t) * R)) H9 from h9.to)
 ·rw [d6 hw]
  refine gs ?_;rw [Bool.not_false];refine gs ?_;refine gD (e := e) (p := p) (fj e (fM t)) t (k) cZ h2 fun H9 h9 => ?_;exact gA (g := g) (σ' := lr σ t) (t' := { t with at' := 2 }) (k := k) (n := cZ) (by unfold fm; rw [if_neg hw]) (tW (by simp) (hk.1 hat)) (by simp [fM, aC, ho]) hl (kQ _) (show ae (rB e p (fj e cZ) t (k) * (aD p g (lr σ t) * R)) H9 from h9.to)
theorem zJ (g : PIds) (k : Ek) (nx : Value) : Sp gu [vp e] (rB e p nx t k) (fun _ : Unit => vb (decide (rK t.x))) (fun _ => rB e p nx t k) := by
 refine bh (uW _) fun R H h => ?_;refine ap h (ci (aP (aP be))) rfl ?_
 by_cases hf : t.x.flow < 0
 ·rw [show decide (rK t.x) = true from d4 (.inl hf)]
  refine aa (cz hf) ?_;refine gs ?_;exact aq ⟨(), rfl, h⟩
 ·refine aa (bW hf) ?_
  refine gs ?_;refine ap h (ci (aP (aP be))) rfl ?_;refine gs ?_
  by_cases hf2 : 1048576 < t.x.flow
  ·rw [show decide (rK t.x) = true from d4 (.inr hf2)]
   refine aa (kN hf2) ?_;refine gs ?_;exact aq ⟨(), rfl, h⟩
  ·rw [show decide (rK t.x) = false from d6 (fun h => h.elim hf hf2)]
   refine aa (fQ hf2) ?_;refine gs ?_;exact aq ⟨(), rfl, h⟩
theorem QN (g : PIds) (k : Ek) (nx : Value) (code : Int) (hp : σ.pts.length < 1000000) (hl : g.rp.length = σ.obs.length) : Sp dp [vp e, vi now, vi code] (rB e p nx t k * aD p g σ) (fun _ : Unit => .tuple #[.agg (gm code).toArray, vb true]) (fun _ => ex fun g' : PIds => pu (g'.rp = g.rp) * aD p g' (σ.note now t.who code)) := by
 refine bh (wZ _ _ _) fun R H h => ?_;refine br h fun b H1 h1 => ?_;refine af h1 (mR e p g σ t k nx now code hp hl) fun g' H2 h2 => ?_;rw [ak, ae.pu] at h2;obtain ⟨hg', h2⟩ := h2;refine je ?_;refine ej h2 rfl rfl fun H4 h4 => ?_;refine aR h4 ?_;refine aq ⟨(), rfl, ae.ex.2 ⟨g', ?_⟩⟩;rw [ak];exact ae.pu.2 ⟨hg', h4.to⟩
theorem mf {R : SP} {H : AH} {g : PIds} {k : Ek} {nx : Value} {b : Nat} (code : Int) (S : SOk σ) (hl : g.rp.length = σ.obs.length) (hx : jN t.x = some code) (h : ae (rB e p nx t k * (aD p g σ * (blk b (.cells false [vi 0, .slice none 0 0, vi 0, vw 0]) * R))) H) (hat : t.at' = 0) :
 wp ((FF dp [vp e, vi now, vi code] H).bind fun r2 => (ag r2.1 0).bind fun v3 => (ag r2.1 1).bind fun v4 => (cG 4 (vp b) v3 r2.2).bind fun H5 => (aA 4 (vp b) H5).bind fun v6 => some (Value.tuple #[v6, v4], H5)) fun v' H' => ∃ x : List Nat, v' = ch (ax σ t now) ∧ ae (rQ e p g.rp (ax σ t now) x * R) H' := by
 refine mT h (QN e p σ t now g k nx code (by have := S.pts; omega) hl) fun H9 h9 => ?_;obtain ⟨g', h1⟩ := ae.ex.1 h9;rw [ak, ae.pu] at h1
 have hs : ax σ t now = (σ.note now t.who code, { t with code := code }, true) := by simp only [ax, hat, hx]
 have := agH (e := e) (p := p) (rp := g.rp) (g := g') (r := ax σ t now) (σ' := σ.note now t.who code) (t' := { t with code := code }) (R := R) (H := H9) hs rfl (by rw [h1.1]; exact hl) (by rw [h1.1]; exact kQ _) h1.2.to;exact this
theorem mQ {x : Cl} (ho : x.op = 1) : jN x = if rK x then some 1 else if x.a < 1 ∨ 65536 < x.a then some 4 else if x.b < 1 ∨ 8 < x.b then some 1 else none := if_pos ho
theorem EG {x : Cl} (ho : x.op ≠ 1) : jN x = if rK x then some 5 else none := if_neg ho
theorem wV {k : Ek} {g : PIds} {R : SP} {H : AH} (hk : Plt g.rp t k) (hl : g.rp.length = σ.obs.length) (h : ae (rB e p (fj e (fM t)) t k * (aD p g σ * R)) H) : ae (rT e p g.rp t * bk p g.rp σ * R) H := by
 have h1 := bG (p := p) (rp := g.rp) (σ := σ) (R := rB e p (fj e (fM t)) t k * R) g rfl hl h.to;unfold rT;rw [ak];refine ae.ex.2 ⟨k, ?_⟩;rw [ak];exact ae.pu.2 ⟨hk, h1.to⟩
theorem KO {e p : Nat} {rp : List Nat} {r : aS × Tk × Bool} {P0 R : SP} {H : AH} {b fn : Nat} {args : List Value} (h : ae (P0 * (blk b (.cells false [vi 0, .slice none 0 0, vi 0, vw 0]) * R)) H)
 (s : Sp fn args P0 (fun _ : List Nat => ch r) (fun x => rQ e p rp r x)) :
 wp ((FF fn args H).bind fun r2 => (ag r2.1 0).bind fun v3 => (ag r2.1 1).bind fun v4 => (cG 4 (vp b) v3 r2.2).bind fun H5 => (aA 4 (vp b) H5).bind fun v6 => some (Value.tuple #[v6, v4], H5)) fun v' H' => ∃ x : List Nat, v' = ch r ∧ ae (rQ e p rp r x * R) H' := by
 refine af h s fun y H2 h2 => ?_;refine aa (v := .agg (gm (if r.2.2 = true then r.2.1.code else 0)).toArray) rfl ?_;refine aa (v := vb r.2.2) rfl ?_;refine ej h2 rfl rfl fun H3 h3 => ?_;refine aR h3 ?_;exact aq ⟨y, rfl, h3.to⟩
theorem agR (S : SOk σ) (T : mi σ t) (ho : t.x.op = 1) (hat : t.at' = 0) : Sp fF [vp e, vi now] (rT e p rp t * bk p rp σ) (fun _ : List Nat => ch (ax σ t now)) (fun x => rQ e p rp (ax σ t now) x) := by
 refine aK fun R H h => ?_;obtain ⟨k, g, hk, rfl, hl, h0⟩ := iv h;refine bm (fun r => AX _ _ H) ?_;refine br h0 fun b1 H1 h1 => ?_;refine ah (uS ..) ?_;refine af h1 (zJ e p t g k (fj e (fM t))) fun _ H2 h2 => ?_
 by_cases hf : rK t.x
 ·rw [d4 hf]
  refine gs ?_;exact mf e p σ t now (k := k) (nx := fj e (fM t)) 1 S hl (by rw [mQ ho, if_pos hf]) h2.to hat
 rw [d6 hf];refine gs ?_;refine ap h2 (ci (aP (aP be))) rfl ?_
 have bad : (t.x.a < 1 ∨ 65536 < t.x.a) → jN t.x = some 4 := fun h => by rw [mQ ho, if_neg hf, if_pos h]
 by_cases ha : t.x.a < 1
 ·refine aa (cz ha) ?_
  refine gs ?_;exact mf e p σ t now (k := k) (nx := fj e (fM t)) 4 S hl (bad (.inl ha)) h2.to hat
 refine aa (bW ha) ?_;refine gs ?_;refine ap h2 (ci (aP (aP be))) rfl ?_;refine gs ?_
 by_cases ha2 : 65536 < t.x.a
 ·refine aa (kN ha2) ?_
  refine gs ?_;exact mf e p σ t now (k := k) (nx := fj e (fM t)) 4 S hl (bad (.inr ha2)) h2.to hat
 refine aa (fQ ha2) ?_;refine gs ?_;refine ap h2 (ci (aP (aP be))) rfl ?_
 have bad2 : (t.x.b < 1 ∨ 8 < t.x.b) → jN t.x = some 1 := fun h => by rw [mQ ho, if_neg hf, if_neg (by omega), if_pos h]
 by_cases hb : t.x.b < 1
 ·refine aa (cz hb) ?_
  refine gs ?_;exact mf e p σ t now (k := k) (nx := fj e (fM t)) 1 S hl (bad2 (.inl hb)) h2.to hat
 refine aa (bW hb) ?_;refine gs ?_;refine ap h2 (ci (aP (aP be))) rfl ?_;refine gs ?_
 by_cases hb2 : 8 < t.x.b
 ·refine aa (kN hb2) ?_
  refine gs ?_;exact mf e p σ t now (k := k) (nx := fj e (fM t)) 1 S hl (bad2 (.inr hb2)) h2.to hat
 refine aa (fQ hb2) ?_;refine gs ?_;refine ah (uT ..) ?_
 have hx : jN t.x = none := by rw [mQ ho, if_neg hf, if_neg (by omega), if_neg (by omega)]
 have hs : ax σ t now = fm σ t := by simp only [ax, hat, hx]
 have h3 : ae (rT e p g.rp t * bk p g.rp σ * (blk b1 (.cells false [vi 0, .slice none 0 0, vi 0, vw 0]) * R)) H2 := wV e p σ t hk hl h2.to;rw [hs];exact KO h3 (Hj e p g.rp σ t now S T ho (by omega))
theorem YC (S : SOk σ) (T : mi σ t) (ho : t.x.op ≠ 1) (hat : t.at' = 0) : Sp eF [vp e, vi now] (rT e p rp t * bk p rp σ) (fun _ : List Nat => ch (ax σ t now)) (fun x => rQ e p rp (ax σ t now) x) := by
 refine aK fun R H h => ?_;obtain ⟨k, g, hk, rfl, hl, h0⟩ := iv h;refine bm (fun r => yV _ _ H) ?_;refine br h0 fun b1 H1 h1 => ?_;refine af h1 (zJ e p t g k (fj e (fM t))) fun _ H2 h2 => ?_
 by_cases hf : rK t.x
 ·rw [d4 hf]
  refine gs ?_;exact mf e p σ t now (k := k) (nx := fj e (fM t)) 5 S hl (by rw [EG ho, if_pos hf]) h2.to hat
 rw [d6 hf];refine gs ?_
 have hx : jN t.x = none := by rw [EG ho, if_neg hf]
 have hs : ax σ t now = fm σ t := by simp only [ax, hat, hx]
 have h3 : ae (rT e p g.rp t * bk p g.rp σ * (blk b1 (.cells false [vi 0, .slice none 0 0, vi 0, vw 0]) * R)) H2 := wV e p σ t hk hl h2.to;rw [hs];exact KO h3 (Nk e p g.rp σ t now S T ho (by omega))
theorem QO (S : SOk σ) (T : mi σ t) (ho : t.x.op = 1) (hat : t.at' = 3) : Sp bV [vp e, vi now] (rT e p rp t * bk p rp σ) (fun _ : List Nat => ch (ax σ t now)) (fun x => rQ e p rp (ax σ t now) x) := by
 have hN : σ.μ.N < 1099511627000 := by have := S.N; omega
 refine aK fun R H h => ?_;obtain ⟨k, g, hk, rfl, hl, h0⟩ := iv h;refine bm (fun r => w4 _ _ H) ?_;refine br h0 fun b1 H1 h1 => ?_;have hi := T.i (by omega);obtain ⟨hI, hfr⟩ := hk.1 (by omega);refine af h1 (UW e p g σ t k (fj e (fM t)) S hi hI hfr) fun _ H2 h2 => ?_;obtain ⟨k2, hk2⟩ : ∃ k2 : Ek, k2 = { k with I := t.i + 1, free := (aC σ t).mark, at' := t.i, obj := σ.μ.V (10, t.s, (t.i : Int)) % 4294967296 } := ⟨_, rfl⟩;rw [← hk2] at h2;refine aa (v := vb (aC σ t).found) rfl ?_;refine aa (v := vb (decide (σ.c.sl ≤ ((t.i + 1 : Nat) : Int)))) rfl ?_;refine ah (r7 ..) ?_
 cases hfd : (aC σ t).found with
 | true =>
  refine gs ?_;refine af h2 (mR e p g (aW σ t) t k2 (fj e (fM t)) now 6 (by have := S.pts; show σ.pts.length < _; omega) hl) fun g' H3 h3 => ?_;rw [ak, ae.pu] at h3;obtain ⟨hg', h3⟩ := h3;refine gD (e := e) (p := p) (fj e (fM t)) t ({ k2 with told := 6 }) aO h3 fun H9 h9 => ?_;exact gA (g := g') (σ' := (aW σ t).note now t.who 6) (t' := { aC σ t with at' := 6, code := 6 }) (k := { k2 with told := 6 }) (n := aO) (by simp only [ax, hat]; rw [if_pos hfd, if_pos ho]) (KZ ho (by simp) (by simp) (by simp) (by simp)) (by simp [fM, aC, ho]) (by rw [hg']; exact hl) (by rw [hg']; exact kQ _) (show ae (rB e p (fj e aO) t ({ k2 with told := 6 }) * (aD p g' ((aW σ t).note now t.who 6) * R)) H9 from h9.to)
 | false =>
  refine gs ?_
  have hli : (aC σ t).i = t.i + 1 := by
   show (if (aC σ t).found = true then t.i else t.i + 1) = _;rw [if_neg (by rw [hfd]; simp)]
  have hla : bO σ (aC σ t) = decide (σ.c.sl ≤ ((t.i + 1 : Nat) : Int)) := by unfold bO; rw [hli]
  have nf : ¬ (aC σ t).found = true := by rw [hfd]; simp
  by_cases hL : σ.c.sl ≤ ((t.i + 1 : Nat) : Int)
  ·have hla' : bO σ (aC σ t) = true := hla.trans (d4 hL)
   rw [d4 hL];refine gs ?_;refine ap h2 ac (show _ = some (vi (aC σ t).mark) from by rw [hk2]; rfl) ?_;refine gs ?_
   by_cases hm : (aC σ t).mark < 0
   ·refine aa (cz hm) ?_
    refine gs ?_;refine af h2 (mR e p g (aW σ t) t k2 (fj e (fM t)) now 7 (by have := S.pts; show σ.pts.length < _; omega) hl) fun g' H3 h3 => ?_;rw [ak, ae.pu] at h3;obtain ⟨hg', h3⟩ := h3;refine gD (e := e) (p := p) (fj e (fM t)) t ({ k2 with told := 7 }) aO h3 fun H9 h9 => ?_;exact gA (g := g') (σ' := (aW σ t).note now t.who 7) (t' := { aC σ t with at' := 6, code := 7 }) (k := { k2 with told := 7 }) (n := aO) (by simp only [ax, hat]; rw [if_neg nf, if_pos hla', if_pos ho, if_pos hm]) (KZ ho (by simp) (by simp) (by simp) (by simp)) (by simp [fM, aC, ho]) (by rw [hg']; exact hl) (by rw [hg']; exact kQ _) (show ae (rB e p (fj e aO) t ({ k2 with told := 7 }) * (aD p g' ((aW σ t).note now t.who 7) * R)) H9 from h9.to)
   ·refine aa (bW hm) ?_
    refine gs ?_;refine gD (e := e) (p := p) (fj e (fM t)) t (k2) dA h2 fun H9 h9 => ?_;exact gA (g := g) (σ' := aW σ t) (t' := { aC σ t with at' := 4 }) (k := k2) (n := dA) (by simp only [ax, hat]; rw [if_neg nf, if_pos hla', if_pos ho, if_neg hm]) (KZ ho (by simp) (fun _ => by rw [hk2]) (by simp) (by simp)) (by simp [fM, aC, ho]) hl (kQ _) (show ae (rB e p (fj e dA) t (k2) * (aD p g (aW σ t) * R)) H9 from h9.to)
  ·have hla' : ¬ bO σ (aC σ t) = true := by rw [hla, d6 hL]; simp
   rw [d6 hL];refine gs ?_;refine ah (r8 ..) ?_;refine gD (e := e) (p := p) (fj e (fM t)) t (k2) bV h2 fun H9 h9 => ?_;exact gA (g := g) (σ' := aW σ t) (t' := aC σ t) (k := k2) (n := bV) (by simp only [ax, hat]; rw [if_neg nf, if_neg hla']) (tW (by show t.at' < 4; omega) ⟨by rw [hk2, hli], by rw [hk2]⟩) (by show fM (aC σ t) = _; unfold fM; rw [if_pos (show (aC σ t).x.op = 1 from ho), show (aC σ t).at' = 3 from hat]; rfl) hl (kQ _) (show ae (rB e p (fj e bV) t (k2) * (aD p g (aW σ t) * R)) H9 from h9.to)
theorem agS (S : SOk σ) (T : mi σ t) (ho : t.x.op ≠ 1) (hat : t.at' = 3) : Sp cj [vp e, vi now] (rT e p rp t * bk p rp σ) (fun _ : List Nat => ch (ax σ t now)) (fun x => rQ e p rp (ax σ t now) x) := by
 have hN : σ.μ.N < 1099511627000 := by have := S.N; omega
 refine aK fun R H h => ?_;obtain ⟨k, g, hk, rfl, hl, h0⟩ := iv h;refine bm (fun r => AY _ _ H) ?_;refine br h0 fun b1 H1 h1 => ?_;have hi := T.i (by omega);obtain ⟨hI, hfr⟩ := hk.1 (by omega);refine af h1 (UW e p g σ t k (fj e (fM t)) S hi hI hfr) fun _ H2 h2 => ?_;obtain ⟨k2, hk2⟩ : ∃ k2 : Ek, k2 = { k with I := t.i + 1, free := (aC σ t).mark, at' := t.i, obj := σ.μ.V (10, t.s, (t.i : Int)) % 4294967296 } := ⟨_, rfl⟩;rw [← hk2] at h2;refine aa (v := vb (aC σ t).found) rfl ?_;refine aa (v := vb (decide (σ.c.sl ≤ ((t.i + 1 : Nat) : Int)))) rfl ?_;refine ah (uU ..) ?_
 cases hfd : (aC σ t).found with
 | true =>
  refine gs ?_
  have hob : (aC σ t).obj = σ.μ.V (10, t.s, (t.i : Int)) % 4294967296 := by
   show (if (aC σ t).found = true then σ.μ.V (10, t.s, (t.i : Int)) % 4294967296 else t.obj) = _;rw [if_pos hfd]
  have hi2 : (aC σ t).i = t.i := by
   show (if (aC σ t).found = true then t.i else t.i + 1) = _;rw [if_pos hfd]
  have ho2 : (aC σ t).obj < σ.obs.length := by
   rw [hob];refine S.slot t.s t.i fun h0 => ?_;have : gf (σ.μ.V (10, t.s, (t.i : Int))) t.x.flow = true := hfd;rw [h0] at this;cases this
  obtain ⟨b, hb⟩ : ∃ b, g.rp[(aC σ t).obj]? = some b := ⟨_, cT (by omega)⟩;refine ap h2 ac rfl ?_;refine ap h2 ac (show _ = some (vi ((aC σ t).obj : Int)) from by rw [hk2, hob]; rfl) ?_;refine af h2 (zH p g (aW σ t) hl (aC σ t).obj b ho2 hb) fun _ H3 h3 => ?_;refine bj h3 ac rfl rfl fun H4 h4 => ?_;refine gD (e := e) (p := p) (fj e (fM t)) t ({ k2 with rv := vp b }) bu h4 fun H9 h9 => ?_;exact gA (g := g) (σ' := aW σ t) (t' := { aC σ t with at' := 4 }) (k := { k2 with rv := vp b }) (n := bu) (by simp only [ax, hat]; rw [if_pos hfd, if_neg ho]) (tt (b := b) ho (by simp) (show k2.at' = ((aC σ t).i : Int) from by rw [hk2, hi2]) hb rfl (by simp) (by simp) (by simp) (by simp) (by simp)) (by simp [fM, aC, ho]) hl (kQ _) (show ae (rB e p (fj e bu) t ({ k2 with rv := vp b }) * (aD p g (aW σ t) * R)) H9 from h9.to)
 | false =>
  refine gs ?_
  have hli : (aC σ t).i = t.i + 1 := by
   show (if (aC σ t).found = true then t.i else t.i + 1) = _;rw [if_neg (by rw [hfd]; simp)]
  have hla : bO σ (aC σ t) = decide (σ.c.sl ≤ ((t.i + 1 : Nat) : Int)) := by unfold bO; rw [hli]
  have nf : ¬ (aC σ t).found = true := by rw [hfd]; simp
  by_cases hL : σ.c.sl ≤ ((t.i + 1 : Nat) : Int)
  ·have hla' : bO σ (aC σ t) = true := hla.trans (d4 hL)
   rw [d4 hL];refine gs ?_;refine af h2 (mR e p g (aW σ t) t k2 (fj e (fM t)) now 5 (by have := S.pts; show σ.pts.length < _; omega) hl) fun g' H3 h3 => ?_;rw [ak, ae.pu] at h3;obtain ⟨hg', h3⟩ := h3;refine gD (e := e) (p := p) (fj e (fM t)) t ({ k2 with told := 5 }) aO h3 fun H9 h9 => ?_;exact gA (g := g') (σ' := (aW σ t).note now t.who 5) (t' := { aC σ t with at' := 10, code := 5 }) (k := { k2 with told := 5 }) (n := aO) (by simp only [ax, hat]; rw [if_neg nf, if_pos hla', if_neg ho]) (ZQ ho rfl rfl) (by simp [fM, aC, ho]) (by rw [hg']; exact hl) (by rw [hg']; exact kQ _) (show ae (rB e p (fj e aO) t ({ k2 with told := 5 }) * (aD p g' ((aW σ t).note now t.who 5) * R)) H9 from h9.to)
  ·have hla' : ¬ bO σ (aC σ t) = true := by rw [hla, d6 hL]; simp
   rw [d6 hL];refine gs ?_;refine ah (uV ..) ?_;refine gD (e := e) (p := p) (fj e (fM t)) t (k2) cj h2 fun H9 h9 => ?_;exact gA (g := g) (σ' := aW σ t) (t' := aC σ t) (k := k2) (n := cj) (by simp only [ax, hat]; rw [if_neg nf, if_neg hla']) (tW (by show t.at' < 4; omega) ⟨by rw [hk2, hli], by rw [hk2]⟩) (by show fM (aC σ t) = _; unfold fM; rw [if_neg (show ¬ (aC σ t).x.op = 1 from ho), show (aC σ t).at' = 3 from hat]; rfl) hl (kQ _) (show ae (rB e p (fj e cj) t (k2) * (aD p g (aW σ t) * R)) H9 from h9.to)
theorem lP (ho : t.x.op = 1) (ha : 4 ≤ t.at') : ax σ t now = wX σ t now := by
 unfold ax
 split
 ·omega
 ·omega
 ·omega
 ·rw [if_pos ho]
theorem bS (ho : t.x.op ≠ 1) (ha : 4 ≤ t.at') : ax σ t now = ei σ t now := by
 unfold ax
 split
 ·omega
 ·omega
 ·omega
 ·rw [if_neg ho]
theorem wW {x : Cl} (h : jN x = none) : (0 ≤ x.flow ∧ x.flow ≤ 1048576) ∧ (x.op = 1 → (1 ≤ x.a ∧ x.a ≤ 65536) ∧ 1 ≤ x.b ∧ x.b ≤ 8) := by
 by_cases ho : x.op = 1
 ·rw [mQ ho] at h
  by_cases hf : rK x
  ·rw [if_pos hf] at h; cases h
  rw [if_neg hf] at h
  by_cases ha : x.a < 1 ∨ 65536 < x.a
  ·rw [if_pos ha] at h; cases h
  rw [if_neg ha] at h
  by_cases hb : x.b < 1 ∨ 8 < x.b
  ·rw [if_pos hb] at h; cases h
  unfold rK at hf;omega
 ·rw [EG ho] at h
  by_cases hf : rK x
  ·rw [if_pos hf] at h; cases h
  unfold rK at hf;omega
theorem agT (S : SOk σ) (T : mi σ t) (ho : t.x.op = 1) (hat : t.at' = 4) : Sp dA [vp e, vi now] (rT e p rp t * bk p rp σ) (fun _ : List Nat => ch (ax σ t now)) (fun x => rQ e p rp (ax σ t now) x) := by
 have hN : σ.μ.N < 1099511627000 := by have := S.N; omega
 refine aK fun R H h => ?_;obtain ⟨k, g, hk, rfl, hl, h0⟩ := iv h;refine bm (fun r => A4 _ _ H) ?_;refine br h0 fun b1 H1 h1 => ?_;have hx := wW (T.x (by omega));have hc := bD.1 S.c
 have hst : ax σ t now = (σ.make t.who (obR σ t), { t with obj := σ.obs.length, at' := 5 }, false) := by rw [lP σ t now ho (by omega)]; simp only [wX, hat]
 refine ap h1 ac rfl ?_;refine ap h1 (ci (aP (aP be))) rfl ?_;refine ap h1 (ci (aP (aP be))) rfl ?_;refine af h1 (NO σ.c.un t.x.a (by omega) (hx.2 ho).1) fun _ H2 h2 => ?_;refine aa (v := vu (max (σ.c.un / t.x.a.toNat) 1)) rfl ?_;refine aa (v := vb true) rfl ?_;refine ap h2 ac rfl ?_;refine ap h2 ac rfl ?_;refine ap h2 (ci (aP (aP be))) rfl ?_;refine ap h2 (ci (aP (aP be))) rfl ?_;refine je ?_;refine af h2 (aqU p g σ t.who (obR σ t) hN (by have := S.obs; omega) hl) fun g' H3 h3 => ?_;rw [ak, ae.pu] at h3;obtain ⟨⟨hpre, hl'⟩, h3⟩ := h3;refine bj h3 ac rfl rfl fun H4 h4 => ?_;refine gD (e := e) (p := p) (fj e (fM t)) ({ t with obj := σ.obs.length, at' := 5 }) ({ k with obj := σ.obs.length }) fh h4 fun H9 h9 => ?_;exact gA (g := g') (σ' := σ.make t.who (obR σ t)) (t' := { t with obj := σ.obs.length, at' := 5 }) (k := { k with obj := σ.obs.length }) (n := fh) hst (KZ ho (by simp) (fun _ => (hk.2.1 ho).1 (.inl hat)) (by simp) (by simp)) (by simp [fM, aC, ho]) (by rw [hl']; simp) hpre h9.to
theorem alR (S : SOk σ) (T : mi σ t) (ho : t.x.op = 1) (hat : t.at' = 5) : Sp fh [vp e, vi now] (rT e p rp t * bk p rp σ) (fun _ : List Nat => ch (ax σ t now)) (fun x => rQ e p rp (ax σ t now) x) := by
 have hN : σ.μ.N < 1099511627000 := by have := S.N; omega
 refine aK fun R H h => ?_;obtain ⟨k, g, hk, rfl, hl, h0⟩ := iv h;refine bm (fun r => EL _ _ H) ?_;refine br h0 fun b1 H1 h1 => ?_;have hx := wW (T.x (by omega));have hob := T.obj (.inl ⟨hat, ho⟩);have hso := S.obs;have hfm := (hk.2.1 ho).1 (.inr hat);have hko := (hk.2.1 ho).2.1 hat
 have hst : ax σ t now = ((σ.mem ((σ.μ.acc t.who 2 (10, t.s, t.mark)).put (10, t.s, t.mark) (dk t.x.flow t.obj))).note now t.who 0, { t with at' := 6, code := 0 }, false) := by rw [lP σ t now ho (by omega)]; simp only [wX, hat]
 refine ap h1 ac rfl ?_;refine ap h1 ac rfl ?_;refine ap h1 ac rfl ?_;refine ap h1 ac rfl ?_;refine ap h1 ac rfl ?_;refine ap h1 (ci (aP (aP be))) rfl ?_;refine ap h1 ac rfl ?_;rw [hfm, hko];refine af h1 (u6 (p := p) (g := g) (σ := σ) (HQ g.tb g.m σ.c.sh.toNat σ.c.sl.toNat σ.μ t.who t.s t.mark t.x.flow t.obj hN hx.1 (by omega))) fun _ H2 h2 => ?_;refine af h2 (mR e p g (σ.mem ((σ.μ.acc t.who 2 (10, t.s, t.mark)).put (10, t.s, t.mark) (dk t.x.flow t.obj))) t k (fj e (fM t)) now 0 (by have := S.pts; show σ.pts.length < _; omega) hl) fun g' H3 h3 => ?_;rw [ak, ae.pu] at h3;obtain ⟨hg', h3⟩ := h3;refine gD (e := e) (p := p) (fj e (fM t)) ({ t with at' := 6, code := 0 }) ({ k with told := 0 }) aO h3 fun H9 h9 => ?_;exact gA (g := g') (σ' := (σ.mem ((σ.μ.acc t.who 2 (10, t.s, t.mark)).put (10, t.s, t.mark) (dk t.x.flow t.obj))).note now t.who 0) (t' := { t with at' := 6, code := 0 }) (k := { k with told := 0 }) (n := aO) hst (KZ ho (by simp) (by simp) (by simp) (by simp)) (by simp [fM, aC, ho]) (by rw [hg']; exact hl) (by rw [hg']; exact kQ _) h9.to
theorem UX (S : SOk σ) (T : mi σ t) (hat : t.at' = if t.x.op = 1 then 6 else 10) : Sp aO [vp e, vi now] (rT e p rp t * bk p rp σ) (fun _ : List Nat => ch (ax σ t now)) (fun x => rQ e p rp (ax σ t now) x) := by
 have hN : σ.μ.N < 1099511627000 := by have := S.N; omega
 refine aK fun R H h => ?_;obtain ⟨k, g, hk, rfl, hl, h0⟩ := iv h;refine bm (fun r => EK _ _ H) ?_;refine br h0 fun b1 H1 h1 => ?_
 have hst : ax σ t now = (iP σ t, t, true) := by
  by_cases ho : t.x.op = 1
  ·rw [if_pos ho] at hat
   rw [lP σ t now ho (by omega)]; simp only [wX, hat]
  ·rw [if_neg ho] at hat
   rw [bS σ t now ho (by omega)]; simp only [ei, hat]
 have hto : k.told = t.code := by
  by_cases ho : t.x.op = 1
  ·rw [if_pos ho] at hat
   exact (hk.2.1 ho).2.2 hat
  ·rw [if_neg ho] at hat
   exact (hk.2.2 ho).2.2.2.2 (.inr hat)
 refine ap h1 ac rfl ?_;refine ap h1 ac rfl ?_;refine ap h1 ac rfl ?_;refine ap h1 ac rfl ?_;refine af h1 (u6 (p := p) (g := g) (σ := σ) (xq g.tb g.m σ.c.sh.toNat σ.c.sl.toNat σ.μ t.who t.s hN)) fun _ H2 h2 => ?_;refine ap h2 ac rfl ?_;rw [hto];refine je ?_;refine ej h2 rfl rfl fun H3 h3 => ?_;refine aR h3 ?_;exact aq (agH (g := g) (σ' := iP σ t) (t' := t) hst rfl hl (kQ _) h3.to)
theorem UY (g : PIds) (k : Ek) (nx : Value) (S : SOk σ) (hl : g.rp.length = σ.obs.length) (b : Nat) (hob : t.obj < σ.obs.length) (hb : g.rp[t.obj]? = some b) (hrv : k.rv = vp b) :
 Sp kz [vp e] (rB e p nx t k * aD p g σ) (fun _ : Unit => vb (decide (ba (σ.μ.V (11, (t.obj : Int), 0)) = 0))) (fun _ => rB e p nx t { k with w := σ.μ.V (11, (t.obj : Int), 0) } * aD p g (dh σ t)) := by
 have hN : σ.μ.N < 1099511627000 := by have := S.N; omega
 refine bh (EN _) fun R H h => ?_;refine ap (v := vp b) h ac (by rw [← hrv]; rfl) ?_;refine ap h ac rfl ?_;refine af h (km (p := p) hl hob hb (yX g.m t.obj b (ay σ t.obj) σ.μ t.who hN)) fun _ H2 h2 => ?_;refine bj h2 ac rfl rfl fun H3 h3 => ?_;refine ap h3 ac rfl ?_;refine af h3 (ki _ (S.V _)) fun _ H4 h4 => ?_
 by_cases hw : ba (σ.μ.V (11, (t.obj : Int), 0)) = 0
 ·rw [d4 hw]
  refine aa (bo hw) ?_;exact aq ⟨(), rfl, h4.to⟩
 ·rw [d6 hw]
  refine aa (aG hw) ?_;exact aq ⟨(), rfl, h4.to⟩
theorem agX (S : SOk σ) (T : mi σ t) (ho : t.x.op ≠ 1) (hat : t.at' = 4) : Sp bu [vp e, vi now] (rT e p rp t * bk p rp σ) (fun _ : List Nat => ch (ax σ t now)) (fun x => rQ e p rp (ax σ t now) x) := by
 have hN : σ.μ.N < 1099511627000 := by have := S.N; omega
 refine aK fun R H h => ?_;obtain ⟨k, g, hk, rfl, hl, h0⟩ := iv h;obtain ⟨hki, b, hb, hrv⟩ := (hk.2.2 ho).1 (by omega) (by omega);have hob := T.obj (.inr ⟨by omega, by omega, ho⟩);refine bm (fun r => A7 _ _ H) ?_;refine br h0 fun b1 H1 h1 => ?_;refine af h1 (UY e p σ t g k (fj e (fM t)) S hl b hob hb hrv) fun _ H2 h2 => ?_
 by_cases hw : ba (σ.μ.V (11, (t.obj : Int), 0)) = 0
 ·rw [d4 hw]
  refine gs ?_;refine gD (e := e) (p := p) (fj e (fM t)) t ({ k with w := σ.μ.V (11, (t.obj : Int), 0) }) cm h2 fun H9 h9 => ?_;exact gA (g := g) (σ' := dh σ t) (t' := { t with w := σ.μ.V (11, (t.obj : Int), 0), at' := 8 }) (k := { k with w := σ.μ.V (11, (t.obj : Int), 0) }) (n := cm) (by rw [bS σ t now ho (by omega)]; simp only [ei, hat]; rw [if_pos hw]) (tt (b := b) ho (by simp) hki hb hrv (by simp) (by simp) (fun _ => rfl) (by simp) (by simp)) (by simp [fM, aC, ho]) hl (kQ _) (show ae (rB e p (fj e cm) t ({ k with w := σ.μ.V (11, (t.obj : Int), 0) }) * (aD p g (dh σ t) * R)) H9 from h9.to)
 ·rw [d6 hw]
  refine gs ?_;refine gD (e := e) (p := p) (fj e (fM t)) t ({ k with w := σ.μ.V (11, (t.obj : Int), 0) }) dX h2 fun H9 h9 => ?_;exact gA (g := g) (σ' := dh σ t) (t' := { t with w := σ.μ.V (11, (t.obj : Int), 0), at' := 5 }) (k := { k with w := σ.μ.V (11, (t.obj : Int), 0) }) (n := dX) (by rw [bS σ t now ho (by omega)]; simp only [ei, hat]; rw [if_neg hw]) (tt (b := b) ho (by simp) hki hb hrv (by simp) (by simp) (by simp) (by simp) (by simp)) (by simp [fM, aC, ho]) hl (kQ _) (show ae (rB e p (fj e dX) t ({ k with w := σ.μ.V (11, (t.obj : Int), 0) }) * (aD p g (dh σ t) * R)) H9 from h9.to)
theorem F2 (S : SOk σ) (T : mi σ t) (ho : t.x.op ≠ 1) (hat : t.at' = 6) : Sp cw [vp e, vi now] (rT e p rp t * bk p rp σ) (fun _ : List Nat => ch (ax σ t now)) (fun x => rQ e p rp (ax σ t now) x) := by
 have hN : σ.μ.N < 1099511627000 := by have := S.N; omega
 refine aK fun R H h => ?_;obtain ⟨k, g, hk, rfl, hl, h0⟩ := iv h;obtain ⟨hki, b, hb, hrv⟩ := (hk.2.2 ho).1 (by omega) (by omega);have hob := T.obj (.inr ⟨by omega, by omega, ho⟩);refine bm (fun r => r9 _ _ H) ?_;refine br h0 fun b1 H1 h1 => ?_;have hkq := (hk.2.2 ho).2.1 (.inl hat);refine af h1 (UY e p σ t g k (fj e (fM t)) S hl b hob hb hrv) fun _ H2 h2 => ?_
 by_cases hw : ba (σ.μ.V (11, (t.obj : Int), 0)) = 0
 ·rw [d4 hw]
  refine gs ?_;refine gD (e := e) (p := p) (fj e (fM t)) t ({ k with w := σ.μ.V (11, (t.obj : Int), 0) }) cm h2 fun H9 h9 => ?_;exact gA (g := g) (σ' := dh σ t) (t' := { t with w := σ.μ.V (11, (t.obj : Int), 0), mark := now, at' := 8 }) (k := { k with w := σ.μ.V (11, (t.obj : Int), 0) }) (n := cm) (by rw [bS σ t now ho (by omega)]; simp only [ei, hat]; rw [if_pos hw]) (tt (b := b) ho (by simp) hki hb hrv (by simp) (by simp) (fun _ => rfl) (by simp) (by simp)) (by simp [fM, aC, ho]) hl (kQ _) (show ae (rB e p (fj e cm) t ({ k with w := σ.μ.V (11, (t.obj : Int), 0) }) * (aD p g (dh σ t) * R)) H9 from h9.to)
 ·rw [d6 hw]
  refine gs ?_;refine bj h2 ac rfl rfl fun H3 h3 => ?_;refine gD (e := e) (p := p) (fj e (fM t)) t ({ k with w := σ.μ.V (11, (t.obj : Int), 0), nw := now }) cE h3 fun H9 h9 => ?_;exact gA (g := g) (σ' := dh σ t) (t' := { t with w := σ.μ.V (11, (t.obj : Int), 0), mark := now, at' := 7 }) (k := { k with w := σ.μ.V (11, (t.obj : Int), 0), nw := now }) (n := cE) (by rw [bS σ t now ho (by omega)]; simp only [ei, hat]; rw [if_neg hw]) (tt (b := b) ho (by simp) hki hb hrv (fun _ => hkq) (fun _ => rfl) (by simp) (by simp) (by simp)) (by simp [fM, aC, ho]) hl (kQ _) (show ae (rB e p (fj e cE) t ({ k with w := σ.μ.V (11, (t.obj : Int), 0), nw := now }) * (aD p g (dh σ t) * R)) H9 from h9.to)
theorem alS (S : SOk σ) (T : mi σ t) (ho : t.x.op ≠ 1) (hat : t.at' = 5) : Sp dX [vp e, vi now] (rT e p rp t * bk p rp σ) (fun _ : List Nat => ch (ax σ t now)) (fun x => rQ e p rp (ax σ t now) x) := by
 have hN : σ.μ.N < 1099511627000 := by have := S.N; omega
 refine aK fun R H h => ?_;obtain ⟨k, g, hk, rfl, hl, h0⟩ := iv h;obtain ⟨hki, b, hb, hrv⟩ := (hk.2.2 ho).1 (by omega) (by omega);have hob := T.obj (.inr ⟨by omega, by omega, ho⟩);refine bm (fun r => EO _ _ H) ?_;refine br h0 fun b1 H1 h1 => ?_;refine ap h1 ac rfl ?_;refine ap h1 ac rfl ?_;refine af h1 (pM p g σ t.who S.N) fun _ H2 h2 => ?_;refine bj h2 ac rfl rfl fun H3 h3 => ?_;refine ap h3 ac rfl ?_;refine aa (Hk 2 (by omega)) ?_
 by_cases hq : σ.μ.V (2, 0, 0) % 2 = 1
 ·refine aa (bo (show ((σ.μ.V (2, 0, 0) % 2 : Nat) : Int) = 1 by omega)) ?_
  refine gs ?_;refine gD (e := e) (p := p) (fj e (fM t)) t ({ k with q := σ.μ.V (2, 0, 0) }) bu h3 fun H9 h9 => ?_;exact gA (g := g) (σ' := ez σ t) (t' := { t with q := σ.μ.V (2, 0, 0), at' := 4 }) (k := { k with q := σ.μ.V (2, 0, 0) }) (n := bu) (by rw [bS σ t now ho (by omega)]; simp only [ei, hat]; rw [if_pos hq]) (tt (b := b) ho (by simp) hki hb hrv (by simp) (by simp) (by simp) (by simp) (by simp)) (by simp [fM, aC, ho]) hl (kQ _) (show ae (rB e p (fj e bu) t ({ k with q := σ.μ.V (2, 0, 0) }) * (aD p g (ez σ t) * R)) H9 from h9.to)
 ·refine aa (aG (show ¬ ((σ.μ.V (2, 0, 0) % 2 : Nat) : Int) = 1 by omega)) ?_
  refine gs ?_;refine gD (e := e) (p := p) (fj e (fM t)) t ({ k with q := σ.μ.V (2, 0, 0) }) cw h3 fun H9 h9 => ?_;exact gA (g := g) (σ' := ez σ t) (t' := { t with q := σ.μ.V (2, 0, 0), at' := 6 }) (k := { k with q := σ.μ.V (2, 0, 0) }) (n := cw) (by rw [bS σ t now ho (by omega)]; simp only [ei, hat]; rw [if_neg hq]) (tt (b := b) ho (by simp) hki hb hrv (fun _ => rfl) (by simp) (by simp) (by simp) (by simp)) (by simp [fM, aC, ho]) hl (kQ _) (show ae (rB e p (fj e cw) t ({ k with q := σ.μ.V (2, 0, 0) }) * (aD p g (ez σ t) * R)) H9 from h9.to)
theorem Kk (S : SOk σ) (T : mi σ t) (ho : t.x.op ≠ 1) (hat : t.at' = 7) : Sp cE [vp e, vi now] (rT e p rp t * bk p rp σ) (fun _ : List Nat => ch (ax σ t now)) (fun x => rQ e p rp (ax σ t now) x) := by
 have hN : σ.μ.N < 1099511627000 := by have := S.N; omega
 refine aK fun R H h => ?_;obtain ⟨k, g, hk, rfl, hl, h0⟩ := iv h;obtain ⟨hki, b, hb, hrv⟩ := (hk.2.2 ho).1 (by omega) (by omega);have hob := T.obj (.inr ⟨by omega, by omega, ho⟩);refine bm (fun r => tn _ _ H) ?_;refine br h0 fun b1 H1 h1 => ?_;have hkq := (hk.2.2 ho).2.1 (.inr hat);have hkn := (hk.2.2 ho).2.2.1 hat;refine ap h1 ac rfl ?_;refine ap h1 ac rfl ?_;refine af h1 (pM p g σ t.who S.N) fun _ H2 h2 => ?_;refine bE ac ?_;refine aQ h2 rfl ?_;refine aJ h1 h2 (by rfl) ?_;rw [hkq]
 by_cases hq : σ.μ.V (2, 0, 0) = t.q
 ·refine aa (rJ (show ((σ.μ.V (2, 0, 0) : Nat) : Int) = (t.q : Int) by omega)) ?_
  refine gs ?_;refine ap h2 ac rfl ?_;rw [hkn];refine af h2 (mR e p g (ez σ t) t k (fj e (fM t)) t.mark 8 (by have := S.pts; show σ.pts.length < _; omega) hl) fun g' H3 h3 => ?_;rw [ak, ae.pu] at h3;obtain ⟨hg', h3⟩ := h3;refine gD (e := e) (p := p) (fj e (fM t)) t ({ k with told := 8 }) aO h3 fun H9 h9 => ?_;exact gA (g := g') (σ' := (ez σ t).note t.mark t.who 8) (t' := { t with at' := 10, code := 8 }) (k := { k with told := 8 }) (n := aO) (by rw [bS σ t now ho (by omega)]; simp only [ei, hat]; rw [if_pos hq]) (ZQ ho rfl rfl) (by simp [fM, aC, ho]) (by rw [hg']; exact hl) (by rw [hg']; exact kQ _) (show ae (rB e p (fj e aO) t ({ k with told := 8 }) * (aD p g' ((ez σ t).note t.mark t.who 8) * R)) H9 from h9.to)
 ·refine aa (G1 (show ¬ ((σ.μ.V (2, 0, 0) : Nat) : Int) = (t.q : Int) by omega)) ?_
  refine gs ?_;refine gD (e := e) (p := p) (fj e (fM t)) t (k) bu h2 fun H9 h9 => ?_;exact gA (g := g) (σ' := ez σ t) (t' := { t with at' := 4 }) (k := k) (n := bu) (by rw [bS σ t now ho (by omega)]; simp only [ei, hat]; rw [if_neg hq]) (tt (b := b) ho (by simp) hki hb hrv (by simp) (by simp) (by simp) (by simp) (by simp)) (by simp [fM, aC, ho]) hl (kQ _) (show ae (rB e p (fj e bu) t (k) * (aD p g (ez σ t) * R)) H9 from h9.to)
theorem agV (S : SOk σ) (T : mi σ t) (ho : t.x.op ≠ 1) (hat : t.at' = 8) : Sp cm [vp e, vi now] (rT e p rp t * bk p rp σ) (fun _ : List Nat => ch (ax σ t now)) (fun x => rQ e p rp (ax σ t now) x) := by
 have hN : σ.μ.N < 1099511627000 := by have := S.N; omega
 refine aK fun R H h => ?_;obtain ⟨k, g, hk, rfl, hl, h0⟩ := iv h;obtain ⟨hki, b, hb, hrv⟩ := (hk.2.2 ho).1 (by omega) (by omega);have hob := T.obj (.inr ⟨by omega, by omega, ho⟩);refine bm (fun r => A5 _ _ H) ?_;refine br h0 fun b1 H1 h1 => ?_;have hkw := (hk.2.2 ho).2.2.2.1 hat;refine ap h1 ac rfl ?_;refine ap h1 ac rfl ?_;refine ap h1 ac rfl ?_;rw [hkw, hrv];refine af h1 (km (p := p) hl hob hb (YI g.m t.obj b (ay σ t.obj) σ.μ t.who t.w T.w hN)) fun _ H2 h2 => ?_;cases hw : fi σ.μ t.obj t.w (aY t.w 2)
 ·refine gs ?_
  rw [Bool.not_false];refine gs ?_;refine gD (e := e) (p := p) (fj e (fM t)) t (k) bu h2 fun H9 h9 => ?_;exact gA (g := g) (σ' := σ.mem (σ.μ.turn t.who t.obj t.w (aY t.w 2))) (t' := { t with at' := 4 }) (k := k) (n := bu) (by rw [bS σ t now ho (by omega)]; simp only [ei, hat]; rw [if_neg (by rw [hw]; simp)]) (tt (b := b) ho (by simp) hki hb hrv (by simp) (by simp) (by simp) (by simp) (by simp)) (by simp [fM, aC, ho]) hl (kQ _) (show ae (rB e p (fj e bu) t (k) * (aD p g (σ.mem (σ.μ.turn t.who t.obj t.w (aY t.w 2))) * R)) H9 from h9.to)
 ·refine gs ?_
  rw [Bool.not_true];refine gs ?_;refine af h2 (mR e p g (σ.mem (σ.μ.turn t.who t.obj t.w (aY t.w 2))) t k (fj e (fM t)) now 0 (by have := S.pts; show σ.pts.length < _; omega) hl) fun g' H3 h3 => ?_;rw [ak, ae.pu] at h3;obtain ⟨hg', h3⟩ := h3;refine gD (e := e) (p := p) (fj e (fM t)) ({ t with at' := 9, code := 0 }) ({ k with told := 0 }) dJ h3 fun H9 h9 => ?_;exact gA (g := g') (σ' := (σ.mem (σ.μ.turn t.who t.obj t.w (aY t.w 2))).note now t.who 0) (t' := { t with at' := 9, code := 0 }) (k := { k with told := 0 }) (n := dJ) (by rw [bS σ t now ho (by omega)]; simp only [ei, hat]; rw [if_pos hw]) (tt (b := b) ho (by simp) hki (by rw [hg']; exact hb) hrv (by simp) (by simp) (by simp) (by simp) (fun _ => rfl)) (by simp [fM, aC, ho]) (by rw [hg']; exact hl) (by rw [hg']; exact kQ _) h9.to
theorem YB (S : SOk σ) (T : mi σ t) (ho : t.x.op ≠ 1) (hat : t.at' = 9) : Sp dJ [vp e, vi now] (rT e p rp t * bk p rp σ) (fun _ : List Nat => ch (ax σ t now)) (fun x => rQ e p rp (ax σ t now) x) := by
 have hN : σ.μ.N < 1099511627000 := by have := S.N; omega
 refine aK fun R H h => ?_;obtain ⟨k, g, hk, rfl, hl, h0⟩ := iv h;obtain ⟨hki, b, hb, hrv⟩ := (hk.2.2 ho).1 (by omega) (by omega);have hob := T.obj (.inr ⟨by omega, by omega, ho⟩);refine bm (fun r => yR _ _ H) ?_;refine br h0 fun b1 H1 h1 => ?_;refine ap h1 ac rfl ?_;refine ap h1 ac rfl ?_;refine ap h1 ac rfl ?_;refine ap h1 ac rfl ?_;refine ap h1 ac rfl ?_;rw [hki];refine af h1 (u6 (p := p) (g := g) (σ := σ) (NN g.tb g.m σ.c.sh.toNat σ.c.sl.toNat σ.μ t.who t.s t.i hN)) fun _ H2 h2 => ?_;refine gD (e := e) (p := p) (fj e (fM t)) ({ t with at' := 10 }) k aO h2 fun H9 h9 => ?_;exact gA (g := g) (σ' := σ.mem ((σ.μ.acc t.who 2 (10, t.s, (t.i : Int))).put (10, t.s, (t.i : Int)) 0)) (t' := { t with at' := 10 }) (k := k) (n := aO) (by rw [bS σ t now ho (by omega)]; simp only [ei, hat]) (ZQ ho rfl ((hk.2.2 ho).2.2.2.2 (.inl hat))) (by simp [fM, aC, ho]) hl (kQ _) h9.to
theorem agW (S : SOk σ) (T : mi σ t) : Sp mJ [vp e, vi now] (rT e p rp t * bk p rp σ) (fun _ : List Nat => ch (ax σ t now)) (fun x => rQ e p rp (ax σ t now) x) := by
 refine bh (AW _ _) fun R H h => ?_;refine br h fun b H1 h1 => ?_;obtain ⟨k, g, hk, rfl, hl, k1⟩ := iv (e := e) (p := p) (rp := rp) (σ := σ) (t := t) (R := blk b (.cells false [vi 0, .slice none 0 0, vi 0, vw 0]) * R) (H := H1) h1.to;refine ap k1 ac rfl ?_;refine ah (show (cf (.func (.func (fM t)) #[vp e] #[]) [vi now]).bind _ = _ from rfl) ?_
 have hs : Sp (fM t) [vp e, vi now] (rT e p g.rp t * bk p g.rp σ) (fun _ : List Nat => ch (ax σ t now)) (fun x => rQ e p g.rp (ax σ t now) x) := by
  have s2 : t.at' = 2 → ax σ t now = fm σ t := fun hat => by simp only [ax, hat]
  by_cases ho : t.x.op = 1
  ·have nf : ∀ n, t.at' = n → fM t = (match n with | 0 => fF | 2 => cP | 3 => bV | 4 => dA | 5 => fh | _ => aO) := fun n h => by subst h; exact if_pos ho
   rcases T.ats with hat | hat | hat | hat | hat
   ·rw [nf _ hat]; exact agR e p g.rp σ t now S T ho hat
   ·rw [nf _ hat, s2 hat]; exact Hj e p g.rp σ t now S T ho (by omega)
   ·rw [nf _ hat]; exact QO e p g.rp σ t now S T ho hat
   ·by_cases h4 : t.at' = 4
    ·rw [nf _ h4]; exact agT e p g.rp σ t now S T ho h4
    by_cases h5 : t.at' = 5
    ·rw [nf _ h5]; exact alR e p g.rp σ t now S T ho h5
    have h6 : t.at' = 6 := by omega
    rw [nf _ h6]; exact UX e p g.rp σ t now S T (by rw [if_pos ho]; exact h6)
   ·exact absurd ho hat.1
  ·have nf : ∀ n, t.at' = n → fM t = (match n with | 0 => eF | 2 => cZ | 3 => cj | 4 => bu | 5 => dX | 6 => cw | 7 => cE | 8 => cm | 9 => dJ | _ => aO) := fun n h => by subst h; exact if_neg ho
   rcases T.ats with hat | hat | hat | hat | hat
   ·rw [nf _ hat]; exact YC e p g.rp σ t now S T ho hat
   ·rw [nf _ hat, s2 hat]; exact Nk e p g.rp σ t now S T ho (by omega)
   ·rw [nf _ hat]; exact agS e p g.rp σ t now S T ho hat
   ·by_cases h4 : t.at' = 4
    ·rw [nf _ h4]; exact agX e p g.rp σ t now S T ho h4
    by_cases h5 : t.at' = 5
    ·rw [nf _ h5]; exact alS e p g.rp σ t now S T ho h5
    have h6 : t.at' = 6 := by omega
    rw [nf _ h6]; exact F2 e p g.rp σ t now S T ho h6
   ·by_cases h7 : t.at' = 7
    ·rw [nf _ h7]; exact Kk e p g.rp σ t now S T ho h7
    by_cases h8 : t.at' = 8
    ·rw [nf _ h8]; exact agV e p g.rp σ t now S T ho h8
    by_cases h9 : t.at' = 9
    ·rw [nf _ h9]; exact YB e p g.rp σ t now S T ho h9
    have h10 : t.at' = 10 := by omega
    rw [nf _ h10]; exact UX e p g.rp σ t now S T (by rw [if_neg ho]; exact h10)
 exact KO (wV e p σ t (R := blk b (.cells false [vi 0, .slice none 0 0, vi 0, vw 0]) * R) hk hl k1) hs
abbrev Tk.newR (c : i6) (who : Int) (x : Cl) : Tk := ⟨who, x, (x.flow.tmod c.sh + c.sh).tmod c.sh, 0, 0, 0, false, 0, 0, -1, 0, 0⟩
theorem agU (hc : cI σ.c = true) (who : Int) (c : Cl) : Sp yu [vp p, vi who, .agg (Cl.cells c).toArray] (bk p rp σ) (fun e : Nat => vp e) (fun e => rT e p rp (Tk.newR σ.c who c) * bk p rp σ) := by
 have hr := bD.1 hc;refine bh (QM _ _ _) fun R H h => ?_;refine aX h fun b H1 h1 => ?_;refine aR h1 ?_;obtain ⟨g, rfl, hg, k1⟩ := dY (p := p) (rp := rp) (σ := σ) (R := blk b (.cells false (Cl.cells c)) * R) (H := H1) h1.to;refine ap k1 ac rfl ?_;refine ap k1 aE rfl ?_;refine af k1 (Ib (p := p) (g := g) (σ := σ) (zR g.tb g.m σ.c.sh.toNat σ.c.sl.toNat (by omega) c.flow)) fun _ H2 h2 => ?_;refine dZ h2 k1 rfl ?_
 have es : vi ((c.flow.tmod (σ.c.sh.toNat : Int) + (σ.c.sh.toNat : Int)).tmod (σ.c.sh.toNat : Int)) = vi (Tk.newR σ.c who c).s := by rw [show ((σ.c.sh.toNat : Nat) : Int) = σ.c.sh from by omega]
 rw [es];refine je ?_;refine aX h2 fun e H3 h3 => ?_;refine bj h3 ac rfl rfl fun H4 h4 => ?_;refine ah (F0 ..) ?_;refine ap h4 aE rfl ?_;have lt : Plt g.rp (Tk.newR σ.c who c) ⟨0, -1, 0, 0, .pointer none, 0, 0, 0, 0⟩ := tW (by simp) ⟨rfl, rfl⟩
 by_cases ho : c.op = 1
 ·refine aa (bo ho) ?_
  refine gs ?_;refine bj h4 ac rfl rfl fun H5 h5 => ?_;refine ah (tR ..) ?_;refine aq ⟨e, rfl, wV e p σ _ lt hg ?_⟩;rw [show fM (Tk.newR σ.c who c) = fF from if_pos ho];exact h5.to
 ·refine aa (aG ho) ?_
  refine gs ?_;refine ah (tR ..) ?_;refine aq ⟨e, rfl, wV e p σ _ lt hg ?_⟩;rw [show fM (Tk.newR σ.c who c) = eF from if_neg ho];exact h4.to
end
theorem wx (p : Nat) (g : XIds) (σ : aS) (o b : Nat) (hl : g.rp.length = σ.obs.length) (ho : o < σ.obs.length) (hb : g.rp[o]? = some b) :
 ∃ R, (∀ N, σ.μ.N = N → aw p g σ = dj g.m o b (ay σ o) * bT g.m σ.μ * (iS g.ib g.m σ.c.sh σ.nx N * R)) ∧ ∀ μ' cs', aw p g { σ with μ := μ', obs := σ.obs.modify o fun q => (q.1, cs') } = dj g.m o b cs' * bT g.m μ' * (iS g.ib g.m σ.c.sh σ.nx μ'.N * R) := by
 have hz : o < (g.rp.zip (σ.obs.map fun x => x.2)).length := by simp; omega
 obtain ⟨R, e1, e2⟩ := Km g.m (ps := g.rp.zip (σ.obs.map fun x => x.2)) (j := 0) hz
 have hrp : g.rp[o]'(by omega) = b := by
  rw [cT (by omega)] at hb;exact iu hb
 have e3 : (g.rp.zip (σ.obs.map fun x => x.2))[o] = (b, ay σ o) := by
  rw [List.getElem_zip, vl ho, List.getElem_map, hrp]
 rw [e3] at e1;rw [Nat.zero_add] at e1 e2
 refine ⟨blk p (.cells false [vi σ.c.sh, vi σ.c.sl, vi σ.c.wk, vi σ.c.wd, vu σ.c.un, vp g.m, vp g.ib, vp g.tb, vp g.po, vp g.co, g.ov, g.rv, g.wv, g.pv]) * (tab g.tb g.m σ.c.sh.toNat σ.c.sl.toNat * (ts 3 tB g.ov (σ.obs.map fun x => x.1) * (ts 1 pX g.rv g.rp * (R *
  (ts 1 lH g.wv (fI g.ws) * ts 7 Pt.cells g.pv (bC σ.pts)))))), fun N hN => ?_, fun μ' cs' => ?_⟩
 ·subst hN
  unfold aw;rw [e1]
  ac_rfl
 ·unfold aw
  dsimp only
  have e4 : (σ.obs.modify o fun q => (q.1, cs')).map (fun x => x.1) = σ.obs.map fun x => x.1 := by
   apply List.ext_getElem?;intro j;simp only [yj, List.getElem?_modify]
   cases σ.obs[j]? with
   | none => rfl
   | some q => simp only [fp]; split <;> rfl
  have e5 : g.rp.zip ((σ.obs.modify o fun q => (q.1, cs')).map fun x => x.2) = (g.rp.zip (σ.obs.map fun x => x.2)).set o (b, cs') := by
   apply List.ext_getElem?;intro j;rw [List.getElem?_set]
   by_cases hj : o = j
   ·subst hj
    rw [if_pos rfl, if_pos hz];exact List.getElem?_zip_eq_some.2 ⟨hb, by simp [List.getElem?_modify, cT ho]⟩
   ·rw [if_neg hj]
    have : (List.map (fun x => x.2) (σ.obs.modify o fun q => (q.1, cs')))[j]? = (σ.obs.map fun x => x.2)[j]? := by
     simp only [yj, List.getElem?_modify]
     cases σ.obs[j]? with
     | none => rfl
     | some q => show some (if o = j then (q.1, cs') else q).2 = some q.2; rw [if_neg hj]
    simp only [List.zip, List.getElem?_zipWith, this]
  rw [e4, e5, e2]
  ac_rfl
section
variable {f : Nat} {args : List Value} {v : Unit → Value} {p : Nat} {g : XIds} {σ : aS} {o b : Nat}
theorem Ic {μ' : Mu} {cs' : List Pk} (hN : σ.μ.N ≤ μ'.N) (hl : g.rp.length = σ.obs.length) (ho : o < σ.obs.length) (hb : g.rp[o]? = some b)
 (s : Sp f args (dj g.m o b (ay σ o) * bT g.m σ.μ) v (fun _ => dj g.m o b cs' * bT g.m μ')) :
 Sp f args (aw p g σ) v (fun _ => aw p g { σ with μ := μ', obs := σ.obs.modify o fun q => (q.1, cs') }) := by
 obtain ⟨R', e1, e2⟩ := wx p g σ o b hl ho hb;intro R H h;rw [e1 _ rfl, ak] at h;obtain ⟨x, H', h1, h2⟩ := s _ _ h;refine ⟨x, H', h1, ?_⟩;rw [e2, ak];have h3 := pC hN (ae.fr (A := iS g.ib g.m σ.c.sh σ.nx σ.μ.N) h2);exact h3.to
theorem mj {μ' : Mu} (hN : σ.μ.N ≤ μ'.N) (hl : g.rp.length = σ.obs.length) (ho : o < σ.obs.length) (hb : g.rp[o]? = some b)
 (s : Sp f args (dj g.m o b (ay σ o) * bT g.m σ.μ) v (fun _ => dj g.m o b (ay σ o) * bT g.m μ')) :
 Sp f args (aw p g σ) v (fun _ => aw p g (σ.mem μ')) := by
 have := Ic (p := p) hN hl ho hb s;rw [MV ho] at this;exact this
theorem K5 (hl : g.rp.length = σ.obs.length) (ho : o < σ.obs.length) (hb : g.rp[o]? = some b)
 (s : Sp f args (dj g.m o b (ay σ o)) v (fun _ => dj g.m o b (ay σ o))) :
 Sp f args (aw p g σ) v (fun _ => aw p g σ) := by
 obtain ⟨R', e1, _⟩ := wx p g σ o b hl ho hb;intro R H h;rw [e1 _ rfl, ak, ak] at h;obtain ⟨x, H', h1, h2⟩ := s _ _ h;exact ⟨x, H', h1, by rw [e1 _ rfl, ak, ak]; exact h2⟩
theorem oY {μ' : Mu} (hN : σ.μ.N ≤ μ'.N) (s : Sp f args (tab g.tb g.m σ.c.sh.toNat σ.c.sl.toNat * bT g.m σ.μ) v (fun _ => tab g.tb g.m σ.c.sh.toNat σ.c.sl.toNat * bT g.m μ')) :
 Sp f args (aw p g σ) v (fun _ => aw p g (σ.mem μ')) := by
 intro R H h;unfold aw at h;obtain ⟨x, H', h1, h2⟩ := s _ H (ae.fr (A := tab g.tb g.m σ.c.sh.toNat σ.c.sl.toNat * bT g.m σ.μ) h);refine ⟨x, H', h1, ?_⟩;unfold aw;have h3 := pC hN (ae.fr (A := iS g.ib g.m σ.c.sh σ.nx σ.μ.N) h2);exact h3.to
theorem Bc (s : Sp f args (tab g.tb g.m σ.c.sh.toNat σ.c.sl.toNat) v (fun _ => tab g.tb g.m σ.c.sh.toNat σ.c.sl.toNat)) :
 Sp f args (aw p g σ) v (fun _ => aw p g σ) := by
 intro R H h;unfold aw at h;obtain ⟨x, H', h1, h2⟩ := s _ H (ae.fr (A := tab g.tb g.m σ.c.sh.toNat σ.c.sl.toNat) h);refine ⟨x, H', h1, ?_⟩;unfold aw;exact h2.to
theorem ZT {μ' : Mu} (hN : σ.μ.N ≤ μ'.N) (s : Sp f args (bT g.m σ.μ) v (fun _ => bT g.m μ')) : Sp f args (aw p g σ) v (fun _ => aw p g (σ.mem μ')) := by
 intro R H h;unfold aw at h;obtain ⟨x, H', h1, h2⟩ := s _ H (ae.fr (A := bT g.m σ.μ) h);refine ⟨x, H', h1, ?_⟩;unfold aw;have h3 := pC hN (ae.fr (A := iS g.ib g.m σ.c.sh σ.nx σ.μ.N) h2);exact h3.to
theorem xA {μ' : Mu} {nx' : Int → Option Nat} {L : Nat} (hL : L ≤ μ'.N) (s : Sp f args (iS g.ib g.m σ.c.sh σ.nx σ.μ.N * bT g.m σ.μ) v (fun _ => iS g.ib g.m σ.c.sh nx' L * bT g.m μ')) :
 Sp f args (aw p g σ) v (fun _ => aw p g { σ with μ := μ', nx := nx' }) := by
 intro R H h;unfold aw at h;obtain ⟨x, H', h1, h2⟩ := s _ H (ae.fr (A := iS g.ib g.m σ.c.sh σ.nx σ.μ.N * bT g.m σ.μ) h);refine ⟨x, H', h1, ?_⟩;unfold aw;have h3 := pC hL (ae.fr (A := iS g.ib g.m σ.c.sh nx' L) h2);exact h3.to
end
instance ao4 (p : Nat) (g : XIds) (σ : aS) : Hs (aw p g σ) p (.cells false [vi σ.c.sh, vi σ.c.sl, vi σ.c.wk, vi σ.c.wd, vu σ.c.un, vp g.m, vp g.ib, vp g.tb, vp g.po, vp g.co, g.ov, g.rv, g.wv, g.pv]) := ⟨by
 intro H h;unfold aw at h
 exact h.left.get⟩
theorem HY (m i rp : Nat) (cs : List Pk) (μ : Mu) (who : Int) (n : Nat) (x : Pk) (h0 : 1 ≤ cs.length ∧ cs.length < 1000) (hE : μ.N < 1099511627000) :
 Sp mI [vp rp, vi who, vu n, .agg (Pk.cells x).toArray] (dj m i rp cs * bT m μ) (fun _ : Unit => .tuple #[]) (fun _ => dj m i rp (cs.set (n % cs.length) x) * bT m (μ.acc who 6 (16, (i : Int), ((n % cs.length : Nat) : Int)))) := by
 have hlt : n % cs.length < cs.length := Nat.mod_lt _ (by omega);refine bh (AT _ _ _ _) fun R H h => ?_;refine aX h fun b H1 h1 => ?_;obtain ⟨cv, k1⟩ := fZ (m := m) (i := i) (rp := rp) (cs := cs) (R := bT m μ * (blk b (.cells false (Pk.cells x)) * R)) (H := H1) h1.to;refine bE ac ?_;refine aQ k1 rfl ?_;refine bE ac ?_;refine aQ k1 rfl ?_
 have cell : ∀ cv, Sp eD [vp rp, vu n] (blk rp (.cells false [vp m, vi i, vi cs.length, cv])) (fun _ : Unit => vi ((n % cs.length : Nat) : Int)) (fun _ => blk rp (.cells false [vp m, vi i, vi cs.length, cv])) := by
  intro cv;refine bh (oR _ _) fun R H h => ?_;refine ap h ac rfl ?_;refine aa (dQ (by omega) (by omega)) ?_;rw [show ((cs.length : Nat) : Int).toNat = cs.length from v9 _];refine aa (jU (by omega)) ?_;refine aa (iE (by omega)) ?_;exact aq ⟨(), rfl, h⟩
 refine af k1 (cell cv) fun _ H2 k2 => ?_;refine aJ k2 k1 (by rfl) ?_;refine aJ k2 k1 (by rfl) ?_;refine af k2 (eh 16 (i : Int) ((n % cs.length : Nat) : Int)) fun _ H3 k3 => ?_;refine aJ k3 k1 (by rfl) ?_;refine af k3 ((ZG m μ who 6 (16, (i : Int), ((n % cs.length : Nat) : Int)) (by omega)).imp fun _ R H h => wj (N' := μ.N + 2) (by simp) h) fun _ H4 k4 => ?_;refine bE ac ?_;refine aQ k4 rfl ?_;refine af k4 (cell cv) fun _ H5 k5 => ?_;refine aJ k5 k4 (by rfl) ?_;refine aR k5 ?_;refine dZ k4 k5 rfl ?_;refine N2 (s := cv) (l := cs) (i := n % cs.length) x k5 hlt (.inl ⟨rfl, rfl⟩) rfl (by omega) rfl rfl fun H6 k6 => ?_;refine aq ⟨(), rfl, ?_⟩;have el : (cs.set (n % cs.length) x).length = cs.length := P5;have h6 := nG (m := m) (i := i) (rp := rp) (cs := cs.set (n % cs.length) x) (cv := cv) (R := bT m (μ.acc who 6 (16, (i : Int), ((n % cs.length : Nat) : Int))) * R) (H := H6) (by rw [el]; exact k6.to);exact h6.to
section
variable (p : Nat) (g : XIds) (σ : aS)
theorem RL (hl : g.rp.length = σ.obs.length) (who : Int) (o : Nat) (ho : o < σ.obs.length) (hN : σ.μ.N < 800000) : Sp lj [vp p, vi who, vi o] (aw p g σ) (fun v : Value => v) (fun _ => aw p g (σ.mem (σ.μ.acc who 5 (13, (o : Int), 0)))) := by
 refine bh (yE _ _ _) fun R H h => ?_;refine br h fun b H1 h1 => ?_;refine aa (bW (by omega)) ?_;refine gs ?_;refine ap h1 ac rfl ?_;refine gs ?_;have h2 := h1;unfold aw at h2;refine BO (s := g.ov) (enc := tB) (l := σ.obs.map fun x : Ob × List Pk => x.1) h2 ?_;rw [tg];refine gs ?_;refine aa (q9 (by omega)) ?_;refine gs ?_;refine bE ac ?_;refine aQ h1 rfl ?_;refine af h1 (eh 13 (o : Int) 0) fun _ H3 h3 => ?_;refine aJ h3 h1 (by rfl) ?_;refine af h3 (ZT (p := p) (g := g) (σ := σ) (μ' := σ.μ.acc who 5 (13, (o : Int), 0)) (by simp) ((ZG g.m σ.μ who 5 (13, (o : Int), 0) (by omega)).imp fun _ R H h => wj (N' := σ.μ.N + 2) (by simp) h)) fun _ H4 h4 => ?_;refine ap h4 ac rfl ?_;have h5 := h4;unfold aw at h5;refine y9 (enc := tB) (l := σ.obs.map fun x : Ob × List Pk => x.1) h5 (by rw [tg]; exact ho) ?_;refine ej h4 rfl rfl fun H6 h6 => ?_;refine aR h6 ?_;exact aq ⟨_, rfl, h6.to⟩
theorem pT (who : Int) (hN : σ.μ.N < 800000) : Sp eC [vp p, vi who] (aw p g σ) (fun _ : Unit => vu (σ.μ.V (2, 0, 0))) (fun _ => aw p g (σ.mem (σ.μ.acc who 1 (2, 0, 0)))) := by
 refine bh (yF _ _) fun R H h => ?_;refine bE ac ?_;refine aQ h rfl ?_;refine af h (eh 2 0 0) fun _ H1 h1 => ?_;refine aJ h1 h (by rfl) ?_;refine af h1 (ZT (p := p) (g := g) (σ := σ) (μ' := σ.μ.acc who 1 (2, 0, 0)) (by simp) (rX g.m σ.μ who (2, 0, 0) (by omega))) fun _ H2 h2 => ?_;exact aq ⟨(), rfl, h2.to⟩
theorem lR (t m sh sl : Nat) (hs : 1 ≤ sh ∧ sh ≤ 4) (flow : Int) : Sp eN [vp t, vi flow] (tab t m sh sl) (fun _ : Unit => vi ((flow.tmod sh + sh).tmod sh)) (fun _ => tab t m sh sl) := by
 have q := Vt flow (n := sh) (by omega);refine bh (uJ _ _) fun R H h => ?_;unfold tab at h ⊢;refine ap h ac rfl ?_;refine aa (uX (by omega)) ?_;refine ah (qx _ _ _ H) ?_
 by_cases hn : flow.tmod sh < 0
 ·refine aa (cz hn) ?_
  refine gs ?_;refine ap h ac rfl ?_;refine aa (aH (by omega) (by omega)) ?_;refine ah (jR _ _ H) ?_;refine aq ⟨(), ?_, h⟩;have : (flow.tmod sh + sh).tmod sh = flow.tmod sh + sh := Int.tmod_eq_of_lt (by omega) (by omega);rw [this]
 ·refine aa (bW hn) ?_
  refine gs ?_;refine ah (jR _ _ H) ?_;refine aq ⟨(), ?_, h⟩
  have : (flow.tmod sh + sh).tmod sh = flow.tmod sh := by
   rw [Int.tmod_eq_emod_of_nonneg (by omega), Int.add_emod_right];exact Int.emod_eq_of_lt (by omega) (by omega)
  rw [this]
end
theorem wy (w pl k : Int) : ∀ ws : List (Int × Int), g9 (ws ++ [(w, pl)]) k = if k = w then pl else g9 ws k := by
 intro ws
 induction ws with
 | nil =>
  simp only [List.nil_append, g9, List.any_nil]
  by_cases e : k = w
  ·subst e; simp
  ·have : ¬ w = k := fun q => e q.symm
   simp [e, this]
 | cons p ws ih =>
  simp only [List.cons_append, g9, ih, List.any_append, List.any_cons, List.any_nil, Bool.or_false]
  by_cases e : k = w
  ·subst e; simp
  ·have h1 : ((w == k) : Bool) = false := by simpa using fun q => e q.symm
   rw [h1, Bool.or_false];simp only [if_neg e]
theorem JY (ws : List (Int × Int)) (k : Int) (j : Nat) (hj : j < ws.length) : g9 (ws.take (j + 1)) k = if k = ws[j].1 then ws[j].2 else g9 (ws.take j) k := by
 rw [List.take_succ_eq_append_getElem hj];exact wy ws[j].1 ws[j].2 k (ws.take j)
theorem pK (ws : List (Int × Int)) : (fI ws).length = 2 * ws.length := by
 unfold fI
 induction ws with
 | nil => rfl
 | cons p ws ih => rw [List.flatMap_cons, fL, ih]; simp; omega
theorem Yh : ∀ (ws : List (Int × Int)) (j : Nat) (hj : j < ws.length), (fI ws)[2 * j]? = some ws[j].1 ∧ (fI ws)[2 * j + 1]? = some ws[j].2 := by
 intro ws
 induction ws with
 | nil => intro j hj; simp at hj
 | cons p ws ih =>
  intro j hj
  cases j with
  | zero => exact ⟨rfl, rfl⟩
  | succ j =>
   have h := ih j (by simpa using hj);have e : fI (p :: ws) = p.1 :: p.2 :: fI ws := rfl;rw [e, show 2 * (j + 1) = 2 * j + 2 from by omega];exact h
theorem aeY (x : Pt) : ∀ (l : List Pt) (k : Nat), k ≤ l.length → (∀ j p, k ≤ j → l[j]? = some p → x.step < p.step) → (∀ p, 0 < k → l[k - 1]? = some p → p.step ≤ x.step) → tJ x l = l.take k ++ x :: l.drop k := by
 intro l
 induction l with
 | nil => intro k hk _ _; simp at hk; subst hk; rfl
 | cons y l ih =>
  intro k hk h1 h2
  cases k with
  | zero =>
   have hy := h1 0 y (bB _) rfl
   have hno : ¬ (y.step ≤ x.step ∨ (l.any fun z => decide (z.step ≤ x.step)) = true) := by
    rintro (h | h)
    ·omega
    ·obtain ⟨z, hz, hzs⟩ := List.any_eq_true.1 h
     obtain ⟨j, hj⟩ := List.mem_iff_getElem?.1 hz;have := h1 (j + 1) z (by omega) (by simpa using hj)
     have hzs : z.step ≤ x.step := by simpa using hzs
     omega
   rw [tJ, if_neg hno]
   rfl
  | succ k =>
   have hyes : y.step ≤ x.step ∨ (l.any fun z => decide (z.step ≤ x.step)) = true := by
    cases k with
    | zero => exact .inl (h2 y (by omega) rfl)
    | succ k =>
     right
     have hkl : k < l.length := by simp at hk; omega
     rw [List.any_eq_true];refine ⟨l[k], X0 hkl, ?_⟩;have := h2 l[k] (by omega) (by simp [hkl])
     simpa using this
   rw [tJ, if_pos hyes, ih k (by simpa using hk) (fun j p hj hp => h1 (j + 1) p (by omega) (by simpa using hp)) (fun p hk0 hp => h2 p (by omega) (by
    rw [show k + 1 - 1 = (k - 1) + 1 from by omega]; simpa using hp))]
   rfl
theorem zf (l : List Pt) (x : Pt) : bC (l ++ [x]) = tJ x (bC l) := by
 unfold bC;rw [List.foldl_append]; rfl
theorem XX (x : Pt) : ∀ l : List Pt, (tJ x l).length = l.length + 1 := by
 intro l
 induction l with
 | nil => rfl
 | cons y l ih => rw [tJ]; split <;> simp [ih]
theorem tX (l : List Pt) : (bC l).length = l.length := by
 have : ∀ (l acc : List Pt), (l.foldl (fun acc x => tJ x acc) acc).length = acc.length + l.length := by
  intro l
  induction l with
  | nil => intro acc; rfl
  | cons x l ih => intro acc; rw [List.foldl_cons, ih, XX]; simp; omega
 have h := this l []
 simpa [bC] using h
theorem ajI (e b : Nat) (he : 0 < e) (H : AH) : fN e b (.slice none 0 0) (.slice none 0 0) H = some (.slice none 0 0, H) := by
 unfold fN
 have : lM e (.slice none 0 0) H = some (0, []) := by simp [lM]
 rw [this];simp [he]
theorem aiC {α : Type} {P R : SP} {H : AH} {e : Nat} {enc : α → List Value} {l : List α} {s : Value} (h : ae P H) [f : Ts P s α e enc l R] : s.cells.toList = [s] ∧ [s].all Value.oneCell' = true := by
 rcases nK h (enc := enc) (s := s) with ⟨rfl, _, _⟩ | ⟨bb, rfl, _⟩ <;> exact ⟨rfl, rfl⟩
theorem NR {α : Type} {P R : SP} {H : AH} {e : Nat} {enc : α → List Value} {l : List α} {s : Value} {lo hi : Option Value} {a b : Nat} (h : ae P H) [f : Ts P s α e enc l R] [E : Enc enc e] (hlo : (lo = none ∧ a = 0) ∨ ∃ k, lo = some (.int k (a : Int)))
 (hhi : (hi = none ∧ b = l.length) ∨ ∃ k, hi = some (.int k (b : Int))) (h1 : a ≤ b) (h2 : b ≤ l.length) : ∃ s', fH e s lo hi = some s' ∧ Rd P s' e enc ((l.take b).drop a) := by
 haveI : Rd P s e enc l := by rw [f.eq]; infer_instance
 by_cases h0 : 0 < l.length
 ·exact agP h hlo hhi h1 h2 h0
 ·have hl : l = [] := List.eq_nil_of_length_eq_zero (by omega)
  subst hl
  have hb0 : b = 0 := by simpa using h2
  subst hb0
  have ha0 : a = 0 := by omega
  subst ha0;have hpos := E.pos
  have rd0 : ∀ s', (∃ a c, s' = .slice a 0 c ∧ (a = none → c = 0) ∧ (∀ x, a = some x → ∃ b o, x = ⟨b, o, none⟩)) → Rd P s' e enc (([] : List α).take 0 |>.drop 0) := by
   rintro s' ⟨a, c, rfl, q1, q2⟩
   exact ⟨fun {H'} _ => ⟨by simp, .inl ⟨a, c, rfl, rfl, q1, q2⟩⟩⟩
  rcases nK h (enc := enc) (s := s) with ⟨rfl, _, _⟩ | ⟨bb, rfl, _⟩
  ·refine ⟨.slice none 0 0, ?_, rd0 _ ⟨none, 0, rfl, fun _ => rfl, fun x hx => (by cases hx)⟩⟩
   rcases hlo with ⟨rfl, _⟩ | ⟨k1, rfl⟩ <;> rcases hhi with ⟨rfl, _⟩ | ⟨k2, rfl⟩ <;> simp [fH, nu]
  ·refine ⟨.slice (some ⟨bb, 0, none⟩) 0 e, ?_, rd0 _ ⟨some ⟨bb, 0, none⟩, e, rfl, fun h => (by cases h), fun x hx => ⟨bb, 0, (iu hx).symm⟩⟩⟩
   rcases hlo with ⟨rfl, _⟩ | ⟨k1, rfl⟩ <;> rcases hhi with ⟨rfl, _⟩ | ⟨k2, rfl⟩ <;> simp [fH, nu, hpos]
abbrev aS.begin (σ : aS) (who place : Int) : aS := { σ with places := fun k => if k = who then some place else σ.places k, μ := { σ.μ with N := σ.μ.N + 1 } }
theorem an4 (p : Nat) (rp : List Nat) (σ : aS) (who place : Int) : Sp iq [vp p, vi who, vi place] (bk p rp σ) (fun _ : Unit => .tuple #[]) (fun _ => bk p rp (σ.begin who place)) := by
 refine aK fun R H h => ?_;obtain ⟨g, hrp, hg, h0⟩ := dY h;unfold aD at h0;refine bm (fun r => rL _ _ _ H) ?_;refine ap h0 ac rfl ?_;refine aiO (ek := N9) who (vi place) h0 fun H1 h1 => ?_;refine aq ⟨(), rfl, ?_⟩;refine bG g hrp hg ?_;unfold aD;dsimp only
 have e : (fun k => ((if k = who then some place else σ.places k) : Option Int).map fun n => vi n) = fun x => if x = who then some (vi place) else (σ.places x).map fun n => vi n := by
  funext k
  split <;> rfl
 rw [e];have h2 := kp (V := σ.μ.V) (E := σ.μ.E) (N := σ.μ.N) (N' := σ.μ.N + 1) (by omega) (ae.fr (A := bL g.m σ.μ) h1);exact h2.to
theorem apV (p : Nat) (σ : aS) (who place : Int) (hN : σ.μ.N < 1000000000) : Sp jv [vp p, vi who, vi place] (aM p σ) (fun _ : Unit => .tuple #[]) (fun _ => aM p (σ.begin who place)) := by
 refine aK fun R H h => ?_;obtain ⟨g, ⟨hg1, hg2, hg3⟩, h0⟩ := fc h;unfold aw at h0;refine bm (fun r => uH _ _ _ H) ?_;refine ap h0 ac rfl ?_;refine NW (cs := [vi who, vi place]) h0 rfl fun b H1 h1 => ?_;have h2 := xt (e := 1) (enc := lH) (l := [who, place]) h1;refine Ft (s := g.wv) (l := fI g.ws) (m := [who, place]) h2 ?_ (by omega) fun v H2 h3 => ?_
 ·rw [pK]; unfold dr; simp; omega
 have hc := aiC (s := v) (enc := lH) (l := fI g.ws ++ [who, place]) h3
 haveI : xx v [v] := ⟨hc.1⟩
 dsimp only;refine bj h3 ac rfl hc.2 fun H3 h4 => ?_;refine aq ⟨(), rfl, ?_⟩
 have e2 : fI (g.ws ++ [(who, place)]) = fI g.ws ++ [who, place] := by simp [fI]
 refine dc { g with wv := v, ws := g.ws ++ [(who, place)] } ⟨hg1, fun k => ?_, by simp; omega⟩ ?_
 ·show g9 (g.ws ++ [(who, place)]) k = _
  rw [wy, hg2];show _ = ((if k = who then some place else σ.places k)).getD 0
  split <;> rfl
 unfold aw;dsimp only;rw [e2];have h5 := wj (V := σ.μ.V) (E := σ.μ.E) (N := σ.μ.N) (N' := σ.μ.N + 1) (by omega) (ae.fr (A := bT g.m σ.μ) h4);have h6 := pC (L' := σ.μ.N + 1) (by omega) (ae.fr (A := iS g.ib g.m σ.c.sh σ.nx σ.μ.N) h5);exact h6.to
theorem arF (p : Nat) (g : XIds) (σ : aS) (step who code : Int) (hpl : g9 g.ws who = (σ.places who).getD 0) (hw : g.ws.length < 1000000000) (hp : σ.pts.length < 900000) :
 Sp afH [vp p, vi step, vi who, .agg (gm code).toArray] (aw p g σ) (fun _ : Value => .tuple #[]) (fun v => aw p { g with pv := v } (σ.note step who code)) := by
 refine bh (ao9 _ _ _ _) fun R H h => ?_;refine aX h fun rb H1 h1 => ?_;refine ah (Yw _ _ _ _ _ H1) ?_;refine ah (QC _ _ _ _ _ _ H1) ?_;have place : ∀ (d j : Nat), j + d = g.ws.length → wp (Qz (vp p) (vi step) (vi who) (vp rb) (vi (g9 g.ws who)) H1) (fun v' H' => ∃ x : Value, v' = .tuple #[] ∧ ae (aw p { g with pv := x } (σ.note step who code) * R) H') →
  wp (BG (vp p) (vi step) (vi who) (vp rb) (vi (g9 (g.ws.take j) who)) (vi ((2 * j : Nat) : Int)) H1) (fun v' H' => ∃ x : Value, v' = .tuple #[] ∧ ae (aw p { g with pv := x } (σ.note step who code) * R) H') := by
  have h2 := h1;unfold aw at h2;intro d
  induction d with
  | zero =>
   intro j hj hk;refine ah (EB _ _ _ _ _ _ H1) ?_;refine ap h1 ac rfl ?_;refine i0 (s := g.wv) (l := fI g.ws) h2 ?_;rw [pK];refine aa (bW (by omega)) ?_;refine gs ?_;refine ah (Kb _ _ _ _ _ H1) ?_;rw [List.take_of_length_le (by omega)];exact hk
  | succ d ih =>
   intro j hj hk
   have hjl : j < g.ws.length := by omega
   obtain ⟨a1, a2⟩ := Yh g.ws j hjl;have hlen := pK g.ws;refine ah (EB _ _ _ _ _ _ H1) ?_;refine ap h1 ac rfl ?_;refine i0 (s := g.wv) (l := fI g.ws) h2 ?_;rw [pK];refine aa (cz (by omega)) ?_;refine gs ?_;refine ah (QD _ _ _ _ _ _ H1) ?_;refine ap h1 ac rfl ?_;refine KN (s := g.wv) (l := fI g.ws) (i := 2 * j) (v := vi g.ws[j].1) h2 (by omega) ?_ ?_
   ·rw [cT (by omega)] at a1
    rw [iu a1]; rfl
   have next : ∀ pl : Int, g9 (g.ws.take (j + 1)) who = pl → wp (BH (vp p) (vi step) (vi who) (vp rb) (vi pl) (vi ((2 * j : Nat) : Int)) H1) (fun v' H' => ∃ x : Value, v' = .tuple #[] ∧ ae (aw p { g with pv := x } (σ.note step who code) * R) H') := by
    intro pl hpl2;refine ah (QE _ _ _ _ _ _ H1) ?_;refine aa (aH (by omega) (by omega)) ?_;have := ih (j + 1) (by omega) hk;rw [hpl2] at this;rw [show ((2 * j : Nat) : Int) + 2 = ((2 * (j + 1) : Nat) : Int) from by omega];exact this
   have ht := JY g.ws who j hjl
   by_cases hwho : g.ws[j].1 = who
   ·refine aa (bo hwho) ?_
    refine gs ?_;refine ap h1 ac rfl ?_;refine aa (aH (by omega) (by omega)) ?_;rw [show ((2 * j : Nat) : Int) + 1 = ((2 * j + 1 : Nat) : Int) from by omega];refine KN (s := g.wv) (l := fI g.ws) (i := 2 * j + 1) (v := vi g.ws[j].2) h2 (by omega) ?_ ?_
    ·rw [cT (by omega)] at a2
     rw [iu a2]; rfl
    exact next _ (by rw [ht, if_pos hwho.symm])
   ·refine aa (aG hwho) ?_
    refine gs ?_;exact next _ (by rw [ht, if_neg (fun q => hwho q.symm)])
 refine place g.ws.length 0 (by omega) ?_;rw [hpl];refine ah (Yx _ _ _ _ _ H1) ?_;refine ap h1 aE rfl ?_;refine ah (show ((fN 3 24 (.slice none 0 0) (.slice none 0 0) H1).bind _) = _ from by rw [ajI 3 24 (by omega)]) ?_;refine bj h1 aE rfl rfl fun H2 h2 => ?_;refine ap h2 ac rfl ?_;have h2u := h2;unfold aw at h2u;have hlen := tX σ.pts;refine i0 (s := g.pv) (l := bC σ.pts) h2u ?_;refine ah (Yy _ _ _ _ _ _ H2) ?_
 -- behind all that are not behind it
 have put : ∀ k, k ≤ (bC σ.pts).length → (∀ j p, k ≤ j → (bC σ.pts)[j]? = some p → step < p.step) → (∀ p, 0 < k → (bC σ.pts)[k - 1]? = some p → p.step ≤ step) →
  wp (QB (vp p) (vi step) (vi who) (vp rb) (vi ((σ.places who).getD 0)) (vi (k : Int)) H2) (fun v' H' => ∃ x : Value, v' = .tuple #[] ∧ ae (aw p { g with pv := x } (σ.note step who code) * R) H') := by
  intro k hk ha hb;have hins := aeY ⟨step, who, (σ.places who).getD 0, code⟩ (bC σ.pts) k hk ha hb;refine ah (Yz _ _ _ _ _ _ H2) ?_;refine ap h2 ac rfl ?_;have q1 : ae (ts 7 Pt.cells g.pv (bC σ.pts)) H2 := h2u.to;obtain ⟨s1, e1, r1⟩ := NR (s := g.pv) (l := bC σ.pts) (lo := none) (hi := some (vi (k : Int))) (a := 0) (b := k) q1 (.inl ⟨rfl, rfl⟩) (.inr ⟨_, rfl⟩) (Nat.zero_le _) hk;refine aa e1 ?_;have h3 := f6 7 Pt.cells h2u;refine Ft (s := .slice none 0 0) (l := ([] : List Pt)) (m := ((bC σ.pts).take k).drop 0) h3 ?_ (by omega) fun v3 H3 h4 => ?_
  ·unfold dr; simp only [List.length_drop, List.length_take, List.length_nil]; omega
  rw [List.nil_append, List.drop_zero] at h4;refine aR h4 ?_;refine je ?_;refine RF h4 fun b0 H5 h5 => ?_;refine i1 (s := v3) (l := (bC σ.pts).take k) (⟨step, who, (σ.places who).getD 0, code⟩ : Pt) h5 rfl ?_ (by omega) fun a cc H6 h6 => ?_
  ·unfold dr; simp only [List.length_take]; omega
  refine ap h6 ac rfl ?_;have q2 : ae (ts 7 Pt.cells g.pv (bC σ.pts)) H6 := h6.to;obtain ⟨s2, e2, r2⟩ := NR (s := g.pv) (l := bC σ.pts) (lo := some (vi (k : Int))) (hi := none) (a := k) (b := (bC σ.pts).length) q2 (.inr ⟨_, rfl⟩) (.inl ⟨rfl, rfl⟩) hk (bB _);refine aa e2 ?_;refine Ft (s := .slice a (((bC σ.pts).take k).length + 1) cc) (l := (bC σ.pts).take k ++ [(⟨step, who, (σ.places who).getD 0, code⟩ : Pt)]) (m := ((bC σ.pts).take (bC σ.pts).length).drop k) h6 ?_ (by omega) fun v4 H7 h7 => ?_
  ·unfold dr; simp only [List.length_drop, List.length_take, fL, List.length_cons, List.length_nil]; omega
  have hc := aiC (s := v4) (enc := Pt.cells) (l := ((bC σ.pts).take k ++ [(⟨step, who, (σ.places who).getD 0, code⟩ : Pt)]) ++ ((bC σ.pts).take (bC σ.pts).length).drop k) h7
  haveI : xx v4 [v4] := ⟨hc.1⟩
  dsimp only;refine bj h7 ac rfl hc.2 fun H8 h8 => ?_;refine aq ⟨v4, rfl, ?_⟩
  have e3 : bC (σ.note step who code).pts = ((bC σ.pts).take k ++ [(⟨step, who, (σ.places who).getD 0, code⟩ : Pt)]) ++ ((bC σ.pts).take (bC σ.pts).length).drop k := by
   show bC (σ.pts ++ [_]) = _;rw [zf, hins, List.take_length];simp
  unfold aw;dsimp only;rw [e3];exact h8.to
 have down : ∀ (k : Nat), k ≤ (bC σ.pts).length → (∀ j p, k ≤ j → (bC σ.pts)[j]? = some p → step < p.step) →
  wp (BF (vp p) (vi step) (vi who) (vp rb) (vi ((σ.places who).getD 0)) (vi (k : Int)) H2) (fun v' H' => ∃ x : Value, v' = .tuple #[] ∧ ae (aw p { g with pv := x } (σ.note step who code) * R) H') := by
  intro k
  induction k with
  | zero =>
   intro hk ha;refine ah (EA _ _ _ _ _ _ H2) ?_;refine aa (fQ (by omega)) ?_;refine gs ?_;refine ah (wT _ _ _ _ _ _ H2) ?_;exact put 0 hk ha (fun p h => absurd h (by omega))
  | succ k ih =>
   intro hk ha
   have hkl : k < (bC σ.pts).length := by omega
   refine ah (EA _ _ _ _ _ _ H2) ?_;refine aa (kN (by omega)) ?_;refine gs ?_;refine ap h2 ac rfl ?_;refine gs ?_;refine aa (bF (by omega) (by omega)) ?_;rw [show ((k + 1 : Nat) : Int) - 1 = (k : Int) from by omega];refine gs ?_;refine aiP (s := g.pv) (l := bC σ.pts) (v := vi ((bC σ.pts)[k]).step) h2u hkl (by omega) rfl ?_;refine gs ?_
   by_cases hs : step < ((bC σ.pts)[k]).step
   ·refine aa (kN hs) ?_
    refine gs ?_;refine ah (QA _ _ _ _ _ _ H2) ?_;refine aa (bF (by omega) (by omega)) ?_;rw [show ((k + 1 : Nat) : Int) - 1 = (k : Int) from by omega];refine ih (by omega) fun j p hj hp => ?_
    by_cases e : j = k
    ·subst e
     rw [cT hkl] at hp;rw [← iu hp]; exact hs
    ·exact ha j p (by omega) hp
   ·refine aa (fQ hs) ?_
    refine gs ?_;refine ah (wT _ _ _ _ _ _ H2) ?_;refine put (k + 1) hk ha fun p _ hp => ?_;rw [show k + 1 - 1 = k from by omega, cT hkl] at hp;rw [← iu hp]; omega
 exact down (bC σ.pts).length (bB _) fun j p hj hp => by
  rw [List.getElem?_eq_none hj] at hp; cases hp
structure Xk where
 a : Nat
 I : Nat
 free : Int
 hit : Bool
 obj : Nat
 w : Nat
 h : Nat
 q : Nat
 top : Nat
 mark : Int
 code : Int
abbrev xB (x P : Nat) (t : Tk) (k : Xk) : SP :=
 blk x (.cells false [vp P, vi t.who, vi t.x.op, vi t.x.flow, vi t.x.a, vi t.x.b, vi k.a, vi k.I, vi k.free, vb k.hit, vi k.obj, vu k.w, vu k.h, vu k.q, vw 0, vu k.top, vi k.mark, vi k.code, .slice none 0 0, vi 0, vw 0,
  vi 0, vi 0, .slice none 0 0, vw 0, vw 0, vi 0, vi 0, vi 0, vb false, vi 0, .slice none 0 0, vi 0, vw 0])
def iw (t : Tk) (k : Xk) : Prop := k.a = t.at' ∧ match t.at' with
 | 0 => k.I = t.i ∧ k.hit = false
 | 2 => k.I = t.i ∧ k.hit = false
 | 4 => k.I = t.i ∧ k.hit = false
 | 5 => k.hit = t.found ∧ (t.found = true → k.obj = t.obj) ∧ (t.found = false → k.code = t.code)
 | 6 => k.obj = t.obj
 | 7 => k.obj = t.obj
 | 8 => k.obj = t.obj ∧ k.w = t.w
 | 9 => k.obj = t.obj ∧ k.w = t.w
 | 10 => k.obj = t.obj ∧ k.w = t.w ∧ k.q = 0 ∧ k.code = t.code
 | 11 => k.obj = t.obj ∧ k.w = t.w ∧ k.code = t.code
 | 12 => k.obj = t.obj ∧ k.w = t.w
 | 13 => k.obj = t.obj ∧ k.w = t.w
 | 14 => k.obj = t.obj ∧ k.w = t.w ∧ k.q = 1 ∧ k.code = t.code
 | 15 => k.obj = t.obj
 | 16 => k.obj = t.obj ∧ k.q = t.q
 | 17 => k.obj = t.obj ∧ k.w = t.w ∧ k.q = t.q
 | 18 => k.obj = t.obj ∧ k.q = t.q ∧ k.mark = t.mark
 | 20 => k.obj = t.obj
 | 21 => k.obj = t.obj ∧ k.w = t.w ∧ k.code = t.code
 | 22 => k.obj = t.obj ∧ k.code = t.code
 | 23 => k.obj = t.obj ∧ k.top = t.top ∧ k.code = t.code
 | 24 => k.obj = t.obj ∧ k.top = t.top ∧ k.code = t.code
 | 25 => k.code = t.code
 | _ => True
def xP (x P : Nat) (σ : aS) (t : Tk) : SP := ex fun k : Xk => pu (iw t k) * (xB x P t k * aM P σ)
def xQ (x P : Nat) (r : aS × Tk × Bool) : SP := ex fun k : Xk => pu (if r.2.2 = true then k.code = r.2.1.code else iw r.2.1 k) * (xB x P r.2.1 k * aM P r.1)
section
variable {x P : Nat} {g : XIds} {σ σ' : aS} {t t' : Tk} {R : SP} {H : AH} {r : aS × Tk × Bool} {k : Xk}
theorem cW (h : ae (xP x P σ t * R) H) : ∃ (k : Xk) (g : XIds), iw t k ∧ e8 g σ ∧ ae (xB x P t k * (aw P g σ * R)) H := by
 obtain ⟨k, h1⟩ := ae.ex.1 h;rw [ak, ae.pu] at h1;obtain ⟨g, h2, h3⟩ := fc (p := P) (σ := σ) (R := xB x P t k * R) (H := H) h1.2.to;exact ⟨k, g, h1.1, h2, h3.to⟩
theorem dC (hr : r = (σ', t', false)) (hR : iw t' k) (hg : e8 g σ') (h : ae (xB x P t' k * (aw P g σ' * R)) H) : ∃ y : Unit, (vb false : Value) = vb r.2.2 ∧ ae (xQ x P r * R) H := by
 subst hr;refine ⟨(), rfl, ae.ex.2 ⟨k, ?_⟩⟩;rw [ak, ae.pu];have h1 := dc (p := P) (σ := σ') (R := xB x P t' k * R) g hg h.to;exact ⟨hR, h1.to⟩
theorem Fw (hr : r = (σ', t', true)) (hc : k.code = t'.code) (hg : e8 g σ') (h : ae (xB x P t' k * (aw P g σ' * R)) H) : ∃ y : Unit, (vb true : Value) = vb r.2.2 ∧ ae (xQ x P r * R) H := by
 subst hr;refine ⟨(), rfl, ae.ex.2 ⟨k, ?_⟩⟩;rw [ak, ae.pu];have h1 := dc (p := P) (σ := σ') (R := xB x P t' k * R) g hg h.to;exact ⟨hc, h1.to⟩
theorem dK {c : i6} {μ' : Mu} {obs' : List (Ob × List Pk)} {nx' : Int → Option Nat} {pts' : List Pt} {pv : Value} (h : e8 g σ) (hN : σ.μ.N ≤ μ'.N) (ho : obs'.length = σ.obs.length) : e8 { g with pv := pv } ⟨c, μ', obs', nx', σ.places, pts'⟩ :=
 ⟨h.1.trans ho.symm, h.2.1, fT h.2.2 hN⟩
theorem az {c : i6} {μ' : Mu} {obs' : List (Ob × List Pk)} {nx' : Int → Option Nat} {pts' : List Pt} (h : e8 g σ) (hN : σ.μ.N ≤ μ'.N) (ho : obs'.length = σ.obs.length) : e8 g ⟨c, μ', obs', nx', σ.places, pts'⟩ :=
 ⟨h.1.trans ho.symm, h.2.1, fT h.2.2 hN⟩
end
section
variable (x P : Nat) (g : XIds) (σ : aS) (t : Tk) (k : Xk)
theorem jK (hl : g.rp.length = σ.obs.length) (b : Nat) (ho : k.obj < σ.obs.length) (hb : g.rp[k.obj]? = some b) : Sp b8 [vp x] (xB x P t k * aw P g σ) (fun _ : Unit => vp b) (fun _ => xB x P t k * aw P g σ) := by
 refine bh (yN _) fun R H h => ?_;refine ap h ac rfl ?_;refine ap h ac rfl ?_;refine ap h ac rfl ?_;have h2 := h;unfold aw at h2;refine KN (s := g.rv) (l := g.rp) (v := vp b) h2 (by omega) ?_ ?_
 ·rw [cT (by omega)] at hb
  rw [iu hb]
 exact aq ⟨(), rfl, h⟩
theorem xw (hw : k.w < 18446744073709551616) : Sp fE [vp x] (xB x P t k) (fun _ : Unit => vu (aL k.w)) (fun _ => xB x P t k) := by
 refine bh (wQ _) fun R H h => ?_;refine ap h ac rfl ?_;refine af h (oQ k.w hw) fun _ H1 h1 => ?_;refine aa (v := vu (aL k.w)) rfl ?_;refine aa (v := vi (ba k.w)) rfl ?_;refine aa (v := vb (cS k.w)) rfl ?_;exact aq ⟨(), rfl, h1.to⟩
theorem BP (S : SOk σ) (hl : g.rp.length = σ.obs.length) (b : Nat) (ho : k.obj < σ.obs.length) (hb : g.rp[k.obj]? = some b) :
 Sp eE [vp x] (xB x P t k * aw P g σ) (fun _ : Unit => vi (ba (σ.μ.V (11, (k.obj : Int), 0)))) (fun _ => xB x P t { k with w := σ.μ.V (11, (k.obj : Int), 0) } * aw P g (σ.mem (σ.μ.acc t.who 1 (11, (k.obj : Int), 0)))) := by
 have hN : σ.μ.N < 1099511627000 := by have := S.N; omega
 refine bh (yP _) fun R H h => ?_;refine af h (jK x P g σ t k hl b ho hb) fun _ H1 h1 => ?_;refine bE ac ?_;refine aQ h1 rfl ?_;refine aJ h h1 (by rfl) ?_;refine af h1 (mj (p := P) (μ' := σ.μ.acc t.who 1 (11, (k.obj : Int), 0)) (by simp) hl ho hb (RN g.m k.obj b (ay σ k.obj) σ.μ t.who hN)) fun _ H2 h2 => ?_;refine bj h2 ac rfl rfl fun H3 h3 => ?_;refine ap h3 ac rfl ?_;refine af h3 (oQ _ (S.V _)) fun _ H4 h4 => ?_;refine aa (v := vu (aL (σ.μ.V (11, (k.obj : Int), 0)))) rfl ?_;refine aa (v := vi (ba (σ.μ.V (11, (k.obj : Int), 0)))) rfl ?_;refine aa (v := vb (cS (σ.μ.V (11, (k.obj : Int), 0)))) rfl ?_;exact aq ⟨(), rfl, h4.to⟩
theorem jJ (hg : e8 g σ) (now e : Int) (hN : σ.μ.N < 1000000000) (hp : σ.pts.length < 900000) :
 Sp bJ [vp x, vi now, vi e] (xB x P t k * aw P g σ) (fun _ : Value => .tuple #[]) (fun v => xB x P t { k with code := e } * aw P { g with pv := v } (σ.note now t.who e)) := by
 refine bh (yM _ _ _) fun R H h => ?_;refine je ?_;refine bj h ac rfl rfl fun H1 h1 => ?_;refine ap h1 ac rfl ?_;refine ap h1 ac rfl ?_;refine HV h1 ac ?_;refine af h1 (arF P g σ now t.who e (hg.2.1 _) (by have := hg.2.2; omega) hp) fun v H2 h2 => ?_;exact aq ⟨v, rfl, h2.to⟩
def zb (t1 : Tk) (k k' : Xk) : Prop := k'.a = k.a ∧ k'.w = k.w ∧ k'.q = k.q ∧ k'.top = k.top ∧ k'.mark = k.mark ∧ k'.code = k.code ∧ (t1.found = true → k'.hit = true ∧ k'.obj = t1.obj) ∧ (t1.found = false → k'.hit = k.hit ∧ k'.I = k.I + 1)
theorem VC (S : SOk σ) (T : ia σ t) (hI : k.I = t.i) (hi : (t.i : Int) < σ.c.sl) :
 Sp Ej [vp x] (xB x P t k * aw P g σ) (fun _ : Xk => .tuple #[vb (aN σ t).found, vb (!(aN σ t).found && bO σ (aN σ t))]) (fun k' => pu (zb (aN σ t) k k') * (xB x P t k' * aw P g (aW σ t))) := by
 have hN : σ.μ.N < 1099511627000 := by have := S.N; omega
 have hc := bD.1 S.c;refine bh (agL _) fun R H h => ?_;refine bE ac ?_;refine aQ h rfl ?_;refine bE ac ?_;refine aQ h rfl ?_;refine bE ac ?_;refine aQ h rfl ?_;refine ap h ac rfl ?_;refine ap h ac rfl ?_;refine ap h (ci (aP (aP be))) rfl ?_;refine af h (Bc (p := P) (g := g) (σ := σ) (lR g.tb g.m σ.c.sh.toNat σ.c.sl.toNat (by omega) t.x.flow)) fun _ H1 h1 => ?_;refine aJ h1 h (by rfl) ?_;refine aJ h1 h (by rfl) ?_;refine aJ h1 h (by rfl) ?_
 have es : vi ((t.x.flow.tmod (σ.c.sh.toNat : Int) + (σ.c.sh.toNat : Int)).tmod (σ.c.sh.toNat : Int)) = vi t.s := by rw [T.s, show ((σ.c.sh.toNat : Nat) : Int) = σ.c.sh from by omega]
 rw [es];refine bE ac ?_;refine aQ h1 rfl ?_;refine aJ h h1 (by rfl) ?_;rw [hI]
 have ek : k = { k with I := t.i } := by rw [← hI]
 rw [ek] at h1;refine af h1 (oY (p := P) (g := g) (σ := σ) (μ' := σ.μ.acc t.who 1 (10, t.s, (t.i : Int))) (by simp) (G9 g.tb g.m σ.c.sh.toNat σ.c.sl.toNat σ.μ t.who t.s t.i hN (S.V _))) fun _ H2 h2 => ?_;have tail : ∀ (k' : Xk) (H' : AH), zb { aN σ t with found := false } { k with I := t.i } { k' with I := t.i + 1 } → k'.I = t.i → (aN σ t).found = false → ae (xB x P t k' * (aw P g (aW σ t) * R)) H' →
  wp (EF (vp x) (vb false) (vb false) H') fun v' H' => ∃ k' : Xk, v' = .tuple #[vb (aN σ t).found, vb (!(aN σ t).found && bO σ (aN σ t))] ∧ ae (pu (zb (aN σ t) k k') * (xB x P t k' * aw P g (aW σ t)) * R) H' := by
  intro k' H' hX hI' hf h';refine ah (Hh ..) ?_;refine ap h' ac rfl ?_;rw [hI'];refine aa (aH (by omega) (by omega)) ?_;rw [show ((t.i : Nat) : Int) + 1 = ((t.i + 1 : Nat) : Int) from by omega];refine bj h' ac rfl rfl fun H3 h3 => ?_;refine ap h3 ac rfl ?_;refine ap h3 ac rfl ?_;refine ap h3 ac rfl ?_;have h4 := h3;unfold aw tab at h4;refine ap h4 ac rfl ?_;refine aa (v := vb (bO σ (aN σ t))) ?_ ?_
  ·rw [sE]
   congr 3
   show ((σ.c.sl.toNat : Int) ≤ _) = (σ.c.sl ≤ ((t.i + 1 : Nat) : Int));apply propext;omega
  refine aq ⟨{ k' with I := t.i + 1 }, by rw [hf]; rfl, ?_⟩;rw [ak, ae.pu];refine ⟨?_, h3.to⟩
  have e0 : aN σ t = { aN σ t with found := false } := by rw [← hf]
  rw [e0]
  simpa [zb, hI] using hX
 by_cases hv : σ.μ.V (10, t.s, (t.i : Int)) = 0
 ·have e1 : ig (σ.μ.V (10, t.s, (t.i : Int))) = .tuple #[vi 0, vi 0, vb false] := by rw [ig, if_pos hv]
  have hf : (aN σ t).found = false := d6 fun q => q.1 hv;rw [e1];refine aa (v := vi 0) rfl ?_;refine aa (v := vi 0) rfl ?_;refine aa (v := vb false) rfl ?_;refine gs ?_;refine ah (ta ..) ?_;refine gs ?_;rw [Bool.not_false];refine gs ?_;refine ap h2 ac rfl ?_
  by_cases hfr : k.free < 0
  ·refine hZ ?_
   refine aa (cz hfr) ?_;refine gs ?_;refine ap h2 ac rfl ?_;refine bj h2 ac rfl rfl fun H3 h3 => ?_;exact tail { k with I := t.i, free := t.i } H3 (by simp [zb]) rfl hf h3.to
  ·refine hZ ?_
   refine aa (bW hfr) ?_;refine gs ?_;exact tail { k with I := t.i } H2 (by simp [zb]) rfl hf h2.to
 ·have e1 : ig (σ.μ.V (10, t.s, (t.i : Int))) = .tuple #[vi ((σ.μ.V (10, t.s, (t.i : Int)) / 4294967296 : Nat) - 1), vi (σ.μ.V (10, t.s, (t.i : Int)) % 4294967296 : Nat), vb true] := by rw [ig, if_neg hv]
  rw [e1];refine aa (v := vi ((σ.μ.V (10, t.s, (t.i : Int)) / 4294967296 : Nat) - 1)) rfl ?_;refine aa (v := vi (σ.μ.V (10, t.s, (t.i : Int)) % 4294967296 : Nat)) rfl ?_;refine aa (v := vb true) rfl ?_;refine gs ?_;refine ap h2 (ci (aP (aP be))) rfl ?_;refine hZ ?_
  by_cases hf : ((σ.μ.V (10, t.s, (t.i : Int)) / 4294967296 : Nat) : Int) - 1 = t.x.flow
  ·have hfo : (aN σ t).found = true := d4 ⟨hv, hf⟩
   have hob : (aN σ t).obj = σ.μ.V (10, t.s, (t.i : Int)) % 4294967296 := if_pos hfo;refine aa (bo hf) ?_;refine gs ?_;refine bj h2 ac rfl rfl fun H3 h3 => ?_;refine bj h3 ac rfl rfl fun H4 h4 => ?_;refine aq ⟨{ k with I := t.i, hit := true, obj := σ.μ.V (10, t.s, (t.i : Int)) % 4294967296 }, by rw [hfo]; rfl, ?_⟩;rw [ak, ae.pu];exact ⟨by simp [zb, hfo, hob], h4.to⟩
  ·have hfo : (aN σ t).found = false := d6 fun q => hf q.2
   refine aa (aG hf) ?_;refine gs ?_;refine ah (ta ..) ?_;refine gs ?_;rw [Bool.not_true];refine gs ?_;exact tail { k with I := t.i } H2 (by simp [zb]) rfl hfo h2.to
theorem N3 {R : SP} {H : AH} {Q : Value → AH → Prop} (now : Int) (S : SOk σ) (T : ia σ t) (h : ae (xB x P t k * (aw P g σ * R)) H)
 (hk : ∀ b H', ae (blk b (.cells false [vi t.x.flow, vi t.x.a, vi t.x.b]) * (xB x P t k * (aw P g σ * R))) H' → wp (QF (vp x) (vi now) (vb false) (vp P) (vi t.s) (vp b) H') Q) :
 wp (FF eO [vp x, vi now] H) Q := by
 have hc := bD.1 S.c;refine bm (fun r => apA _ _ H) ?_;refine bE ac ?_;refine aQ h rfl ?_;refine ap h ac rfl ?_;refine ap h ac rfl ?_;refine ap h (ci (aP (aP be))) rfl ?_;refine af h (Bc (p := P) (g := g) (σ := σ) (lR g.tb g.m σ.c.sh.toNat σ.c.sl.toNat (by omega) t.x.flow)) fun _ H1 h1 => ?_;refine aJ h1 h (by rfl) ?_
 have es : vi ((t.x.flow.tmod (σ.c.sh.toNat : Int) + (σ.c.sh.toNat : Int)).tmod (σ.c.sh.toNat : Int)) = vi t.s := by rw [T.s, show ((σ.c.sh.toNat : Nat) : Int) = σ.c.sh from by omega]
 rw [es];refine ap h1 (ci (aP (aP be))) rfl ?_;refine ap h1 (ci (aP (aP be))) rfl ?_;refine ap h1 (ci (aP (aP be))) rfl ?_;refine je ?_;refine br h1 fun b H2 h2 => ?_;refine ej h2 rfl rfl fun H3 h3 => ?_;exact hk b H3 h3.to
theorem ce {R : SP} {H : AH} {Q : Value → AH → Prop} (now : Int) (S : SOk σ) (T : ia σ t) (ha : k.a ≠ 0) (h : ae (xB x P t k * (aw P g σ * R)) H)
 (hk : ∀ b H', ae (blk b (.cells false [vi t.x.flow, vi t.x.a, vi t.x.b]) * (xB x P t k * (aw P g σ * R))) H' → wp (pO (vp x) (vi now) (vb false) (vp P) (vi t.s) (vp b) (vi k.a) H') Q) :
 wp (FF eO [vp x, vi now] H) Q := by
 refine N3 x P g σ t k now S T h fun b H1 h1 => ?_;refine ah (Hf ..) ?_;refine ap h1 ac rfl ?_;refine aa (aG (by omega)) ?_;refine gs ?_;refine ah (Hg ..) ?_;refine ap h1 ac rfl ?_;exact hk b H1 h1
end
end Go.Proofs.YtflbeghglllknaaGreatDoor.Gst
