/- Several texts in one. -/
import Derived.Test.YtflbeghglllknaaGreatDoorPd
namespace Go.Proofs.YtflbeghglllknaaGreatDoor.Gst
open Go Go.RowKit
set_option linter.unusedSimpArgs false
set_option linter.unusedVariables false
set_option maxHeartbeats 1000000
set_option synthInstance.maxSize 2000
set_option synthInstance.maxHeartbeats 400000
theorem yi (w pl k : Int) : ∀ ws : List (Int × Int), il (ws ++ [(w, pl)]) k = if k = w then pl else il ws k := by
 intro ws
 induction ws with
 | nil =>
  simp only [List.nil_append, il, List.any_nil]
  by_cases e : k = w
  ·subst e; simp
  ·have : ¬ w = k := fun q => e q.symm
   simp [e, this]
 | cons p ws ih =>
  simp only [List.cons_append, il, ih, List.any_append, List.any_cons, List.any_nil, Bool.or_false]
  by_cases e : k = w
  ·subst e; simp
  ·have h1 : ((w == k) : Bool) = false := by simpa using fun q => e q.symm
   rw [h1, Bool.or_false];simp only [if_neg e]
theorem Mg (ws : List (Int × Int)) (k : Int) (j : Nat) (hj : j < ws.length) : il (ws.take (j + 1)) k = if k = ws[j].1 then ws[j].2 else il (ws.take j) k := by
 rw [List.take_succ_eq_append_getElem hj];exact yi ws[j].1 ws[j].2 k (ws.take j)
theorem qC (ws : List (Int × Int)) : (fW ws).length = 2 * ws.length := by
 unfold fW
 induction ws with
 | nil => rfl
 | cons p ws ih => rw [List.flatMap_cons, f2, ih]; simp; omega
theorem acL : ∀ (ws : List (Int × Int)) (j : Nat) (hj : j < ws.length), (fW ws)[2 * j]? = some ws[j].1 ∧ (fW ws)[2 * j + 1]? = some ws[j].2 := by
 intro ws
 induction ws with
 | nil => intro j hj; simp at hj
 | cons p ws ih =>
  intro j hj
  cases j with
  | zero => exact ⟨rfl, rfl⟩
  | succ j =>
   have h := ih j (by simpa using hj);have e : fW (p :: ws) = p.1 :: p.2 :: fW ws := rfl;rw [e, show 2 * (j + 1) = 2 * j + 2 from by omega];exact h
theorem ak3 (x : Pt) : ∀ (l : List Pt) (k : Nat), k ≤ l.length → (∀ j p, k ≤ j → l[j]? = some p → x.step < p.step) → (∀ p, 0 < k → l[k - 1]? = some p → p.step ≤ x.step) → uQ x l = l.take k ++ x :: l.drop k := by
 intro l
 induction l with
 | nil => intro k hk _ _; simp at hk; subst hk; rfl
 | cons y l ih =>
  intro k hk h1 h2
  cases k with
  | zero =>
   have hy := h1 0 y (bA _) rfl
   have hno : ¬ (y.step ≤ x.step ∨ (l.any fun z => decide (z.step ≤ x.step)) = true) := by
    rintro (h | h)
    ·omega
    ·obtain ⟨z, hz, hzs⟩ := List.any_eq_true.1 h
     obtain ⟨j, hj⟩ := List.mem_iff_getElem?.1 hz;have := h1 (j + 1) z (by omega) (by simpa using hj)
     have hzs : z.step ≤ x.step := by simpa using hzs
     omega
   rw [uQ, if_neg hno]
   rfl
  | succ k =>
   have hyes : y.step ≤ x.step ∨ (l.any fun z => decide (z.step ≤ x.step)) = true := by
    cases k with
    | zero => exact .inl (h2 y (by omega) rfl)
    | succ k =>
     right
     have hkl : k < l.length := by simp at hk; omega
     rw [List.any_eq_true];refine ⟨l[k], OX hkl, ?_⟩;have := h2 l[k] (by omega) (by simp [hkl])
     simpa using this
   rw [uQ, if_pos hyes, ih k (by simpa using hk) (fun j p hj hp => h1 (j + 1) p (by omega) (by simpa using hp)) (fun p hk0 hp => h2 p (by omega) (by
    rw [show k + 1 - 1 = (k - 1) + 1 from by omega]; simpa using hp))]
   rfl
theorem AV (l : List Pt) (x : Pt) : bF (l ++ [x]) = uQ x (bF l) := by
 unfold bF;rw [List.foldl_append]; rfl
theorem abZ (x : Pt) : ∀ l : List Pt, (uQ x l).length = l.length + 1 := by
 intro l
 induction l with
 | nil => rfl
 | cons y l ih => rw [uQ]; split <;> simp [ih]
theorem u9 (l : List Pt) : (bF l).length = l.length := by
 have : ∀ (l acc : List Pt), (l.foldl (fun acc x => uQ x acc) acc).length = acc.length + l.length := by
  intro l
  induction l with
  | nil => intro acc; rfl
  | cons x l ih => intro acc; rw [List.foldl_cons, ih, abZ]; simp; omega
 have h := this l []
 simpa [bF] using h
theorem apQ (e b : Nat) (he : 0 < e) (H : AH) : eJ e b (.slice none 0 0) (.slice none 0 0) H = some (.slice none 0 0, H) := by
 unfold eJ
 have : mj e (.slice none 0 0) H = some (0, []) := by simp [mj]
 rw [this];simp [he]
theorem aoN {α : Type} {P R : SP} {H : AH} {e : Nat} {enc : α → List Value} {l : List α} {s : Value} (h : ac P H) [f : Ts P s α e enc l R] : s.cells.toList = [s] ∧ [s].all Value.oneCell' = true := by
 rcases oE h (enc := enc) (s := s) with ⟨rfl, _, _⟩ | ⟨bb, rfl, _⟩ <;> exact ⟨rfl, rfl⟩
theorem Qe {α : Type} {P R : SP} {H : AH} {e : Nat} {enc : α → List Value} {l : List α} {s : Value} {lo hi : Option Value} {a b : Nat} (h : ac P H) [f : Ts P s α e enc l R] [E : Enc enc e] (hlo : (lo = none ∧ a = 0) ∨ ∃ k, lo = some (.int k (a : Int)))
 (hhi : (hi = none ∧ b = l.length) ∨ ∃ k, hi = some (.int k (b : Int))) (h1 : a ≤ b) (h2 : b ≤ l.length) : ∃ s', fV e s lo hi = some s' ∧ Rd P s' e enc ((l.take b).drop a) := by
 haveI : Rd P s e enc l := by rw [f.eq]; infer_instance
 by_cases h0 : 0 < l.length
 ·exact am1 h hlo hhi h1 h2 h0
 ·have hl : l = [] := List.eq_nil_of_length_eq_zero (by omega)
  subst hl
  have hb0 : b = 0 := by simpa using h2
  subst hb0
  have ha0 : a = 0 := by omega
  subst ha0;have hpos := E.pos
  have rd0 : ∀ s', (∃ a c, s' = .slice a 0 c ∧ (a = none → c = 0) ∧ (∀ x, a = some x → ∃ b o, x = ⟨b, o, none⟩)) → Rd P s' e enc (([] : List α).take 0 |>.drop 0) := by
   rintro s' ⟨a, c, rfl, q1, q2⟩
   exact ⟨fun {H'} _ => ⟨by simp, .inl ⟨a, c, rfl, rfl, q1, q2⟩⟩⟩
  rcases oE h (enc := enc) (s := s) with ⟨rfl, _, _⟩ | ⟨bb, rfl, _⟩
  ·refine ⟨.slice none 0 0, ?_, rd0 _ ⟨none, 0, rfl, fun _ => rfl, fun x hx => (by cases hx)⟩⟩
   rcases hlo with ⟨rfl, _⟩ | ⟨k1, rfl⟩ <;> rcases hhi with ⟨rfl, _⟩ | ⟨k2, rfl⟩ <;> simp [fV, oo]
  ·refine ⟨.slice (some ⟨bb, 0, none⟩) 0 e, ?_, rd0 _ ⟨some ⟨bb, 0, none⟩, e, rfl, fun h => (by cases h), fun x hx => ⟨bb, 0, (iP hx).symm⟩⟩⟩
   rcases hlo with ⟨rfl, _⟩ | ⟨k1, rfl⟩ <;> rcases hhi with ⟨rfl, _⟩ | ⟨k2, rfl⟩ <;> simp [fV, oo, hpos]
abbrev bd.begin (σ : bd) (who place : Int) : bd := { σ with places := fun k => if k = who then some place else σ.places k, μ := { σ.μ with N := σ.μ.N + 1 } }
theorem auC (p : Nat) (rp : List Nat) (σ : bd) (who place : Int) : Sp iC [vp p, vi who, vi place] (aM p rp σ) (fun _ : Unit => .tuple #[]) (fun _ => aM p rp (σ.begin who place)) := by
 refine aK fun R H h => ?_;obtain ⟨g, hrp, hg, h0⟩ := dh h;unfold az at h0;refine bj (fun r => sS _ _ _ H) ?_;refine ak h0 ae rfl ?_;refine aoW (ek := Qz) who (vi place) h0 fun H1 h1 => ?_;refine am ⟨(), rfl, ?_⟩;refine bz g hrp hg ?_;unfold az;dsimp only
 have e : (fun k => ((if k = who then some place else σ.places k) : Option Int).map fun n => vi n) = fun x => if x = who then some (vi place) else (σ.places x).map fun n => vi n := by
  funext k
  split <;> rfl
 rw [e];have h2 := jD (V := σ.μ.V) (E := σ.μ.E) (N := σ.μ.N) (N' := σ.μ.N + 1) (by omega) (ac.fr (A := bL g.m σ.μ) h1);exact h2.to
theorem av7 (p : Nat) (σ : bd) (who place : Int) (hN : σ.μ.N < 1000000000) : Sp jL [vp p, vi who, vi place] (aJ p σ) (fun _ : Unit => .tuple #[]) (fun _ => aJ p (σ.begin who place)) := by
 refine aK fun R H h => ?_;obtain ⟨g, ⟨hg1, hg2, hg3⟩, h0⟩ := dz h;unfold au at h0;refine bj (fun r => vW _ _ _ H) ?_;refine ak h0 ae rfl ?_;refine JV (cs := [vi who, vi place]) h0 rfl fun b H1 h1 => ?_;have h2 := ue (e := 1) (enc := eF) (l := [who, place]) h1;refine AM (s := g.wv) (l := fW g.ws) (m := [who, place]) h2 ?_ (by omega) fun v H2 h3 => ?_
 ·rw [qC]; unfold dc; simp; omega
 have hc := aoN (s := v) (enc := eF) (l := fW g.ws ++ [who, place]) h3
 haveI : wD v [v] := ⟨hc.1⟩
 dsimp only;refine bg h3 ae rfl hc.2 fun H3 h4 => ?_;refine am ⟨(), rfl, ?_⟩
 have e2 : fW (g.ws ++ [(who, place)]) = fW g.ws ++ [who, place] := by simp [fW]
 refine cH { g with wv := v, ws := g.ws ++ [(who, place)] } ⟨hg1, fun k => ?_, by simp; omega⟩ ?_
 ·show il (g.ws ++ [(who, place)]) k = _
  rw [yi, hg2];show _ = ((if k = who then some place else σ.places k)).getD 0
  split <;> rfl
 unfold au;dsimp only;rw [e2];have h5 := xX (V := σ.μ.V) (E := σ.μ.E) (N := σ.μ.N) (N' := σ.μ.N + 1) (by omega) (ac.fr (A := bP g.m σ.μ) h4);have h6 := nX (L' := σ.μ.N + 1) (by omega) (ac.fr (A := g8 g.ib g.m σ.c.sh σ.nx σ.μ.N) h5);exact h6.to
theorem axM (p : Nat) (g : XIds) (σ : bd) (step who code : Int) (hpl : il g.ws who = (σ.places who).getD 0) (hw : g.ws.length < 1000000000) (hp : σ.pts.length < 900000) :
 Sp alM [vp p, vi step, vi who, .agg (ip code).toArray] (au p g σ) (fun _ : Value => .tuple #[]) (fun v => au p { g with pv := v } (σ.note step who code)) := by
 refine aY (avI _ _ _ _) fun R H h => ?_;refine aS h fun rb H1 h1 => ?_;refine ah (ac0 _ _ _ _ _ H1) ?_;refine ah (To _ _ _ _ _ _ H1) ?_;have place : ∀ (d j : Nat), j + d = g.ws.length → wp (Tl (vp p) (vi step) (vi who) (vp rb) (vi (il g.ws who)) H1) (fun v' H' => ∃ x : Value, v' = .tuple #[] ∧ ac (au p { g with pv := x } (σ.note step who code) * R) H') →
  wp (Dw (vp p) (vi step) (vi who) (vp rb) (vi (il (g.ws.take j) who)) (vi ((2 * j : Nat) : Int)) H1) (fun v' H' => ∃ x : Value, v' = .tuple #[] ∧ ac (au p { g with pv := x } (σ.note step who code) * R) H') := by
  have h2 := h1;unfold au at h2;intro d
  induction d with
  | zero =>
   intro j hj hk;refine ah (Gz _ _ _ _ _ _ H1) ?_;refine ak h1 ae rfl ?_;refine fv (s := g.wv) (l := fW g.ws) h2 ?_;rw [qC];refine aa (bE (by omega)) ?_;refine gs ?_;refine ah (Mx _ _ _ _ _ H1) ?_;rw [List.take_of_length_le (by omega)];exact hk
  | succ d ih =>
   intro j hj hk
   have hjl : j < g.ws.length := by omega
   obtain ⟨a1, a2⟩ := acL g.ws j hjl;have hlen := qC g.ws;refine ah (Gz _ _ _ _ _ _ H1) ?_;refine ak h1 ae rfl ?_;refine fv (s := g.wv) (l := fW g.ws) h2 ?_;rw [qC];refine aa (bS (by omega)) ?_;refine gs ?_;refine ah (Tp _ _ _ _ _ _ H1) ?_;refine ak h1 ae rfl ?_;refine jf (s := g.wv) (l := fW g.ws) (i := 2 * j) (v := vi g.ws[j].1) h2 (by omega) ?_ ?_
   ·rw [cG (by omega)] at a1
    rw [iP a1]; rfl
   have next : ∀ pl : Int, il (g.ws.take (j + 1)) who = pl → wp (Dy (vp p) (vi step) (vi who) (vp rb) (vi pl) (vi ((2 * j : Nat) : Int)) H1) (fun v' H' => ∃ x : Value, v' = .tuple #[] ∧ ac (au p { g with pv := x } (σ.note step who code) * R) H') := by
    intro pl hpl2;refine ah (Tq _ _ _ _ _ _ H1) ?_;refine aa (aE (by omega) (by omega)) ?_;have := ih (j + 1) (by omega) hk;rw [hpl2] at this;rw [show ((2 * j : Nat) : Int) + 2 = ((2 * (j + 1) : Nat) : Int) from by omega];exact this
   have ht := Mg g.ws who j hjl
   by_cases hwho : g.ws[j].1 = who
   ·refine aa (bi hwho) ?_
    refine gs ?_;refine ak h1 ae rfl ?_;refine aa (aE (by omega) (by omega)) ?_;rw [show ((2 * j : Nat) : Int) + 1 = ((2 * j + 1 : Nat) : Int) from by omega];refine jf (s := g.wv) (l := fW g.ws) (i := 2 * j + 1) (v := vi g.ws[j].2) h2 (by omega) ?_ ?_
    ·rw [cG (by omega)] at a2
     rw [iP a2]; rfl
    exact next _ (by rw [ht, if_pos hwho.symm])
   ·refine aa (aG hwho) ?_
    refine gs ?_;exact next _ (by rw [ht, if_neg (fun q => hwho q.symm)])
 refine place g.ws.length 0 (by omega) ?_;rw [hpl];refine ah (ac1 _ _ _ _ _ H1) ?_;refine ak h1 aB rfl ?_;refine ah (show ((eJ 3 24 (.slice none 0 0) (.slice none 0 0) H1).bind _) = _ from by rw [apQ 3 24 (by omega)]) ?_;refine bg h1 aB rfl rfl fun H2 h2 => ?_;refine ak h2 ae rfl ?_;have h2u := h2;unfold au at h2u;have hlen := u9 σ.pts;refine fv (s := g.pv) (l := bF σ.pts) h2u ?_;refine ah (ac2 _ _ _ _ _ _ H2) ?_
 -- behind all that are not behind it
 have put : ∀ k, k ≤ (bF σ.pts).length → (∀ j p, k ≤ j → (bF σ.pts)[j]? = some p → step < p.step) → (∀ p, 0 < k → (bF σ.pts)[k - 1]? = some p → p.step ≤ step) →
  wp (Tn (vp p) (vi step) (vi who) (vp rb) (vi ((σ.places who).getD 0)) (vi (k : Int)) H2) (fun v' H' => ∃ x : Value, v' = .tuple #[] ∧ ac (au p { g with pv := x } (σ.note step who code) * R) H') := by
  intro k hk ha hb;have hins := ak3 ⟨step, who, (σ.places who).getD 0, code⟩ (bF σ.pts) k hk ha hb;refine ah (ac3 _ _ _ _ _ _ H2) ?_;refine ak h2 ae rfl ?_;have q1 : ac (ts 7 Pt.cells g.pv (bF σ.pts)) H2 := h2u.to;obtain ⟨s1, e1, r1⟩ := Qe (s := g.pv) (l := bF σ.pts) (lo := none) (hi := some (vi (k : Int))) (a := 0) (b := k) q1 (.inl ⟨rfl, rfl⟩) (.inr ⟨_, rfl⟩) (Nat.zero_le _) hk;refine aa e1 ?_;have h3 := dZ 7 Pt.cells h2u;refine AM (s := .slice none 0 0) (l := ([] : List Pt)) (m := ((bF σ.pts).take k).drop 0) h3 ?_ (by omega) fun v3 H3 h4 => ?_
  ·unfold dc; simp only [List.length_drop, List.length_take, List.length_nil]; omega
  rw [List.nil_append, List.drop_zero] at h4;refine aR h4 ?_;refine jq ?_;refine Qi h4 fun b0 H5 h5 => ?_;refine gY (s := v3) (l := (bF σ.pts).take k) (⟨step, who, (σ.places who).getD 0, code⟩ : Pt) h5 rfl ?_ (by omega) fun a cc H6 h6 => ?_
  ·unfold dc; simp only [List.length_take]; omega
  refine ak h6 ae rfl ?_;have q2 : ac (ts 7 Pt.cells g.pv (bF σ.pts)) H6 := h6.to;obtain ⟨s2, e2, r2⟩ := Qe (s := g.pv) (l := bF σ.pts) (lo := some (vi (k : Int))) (hi := none) (a := k) (b := (bF σ.pts).length) q2 (.inr ⟨_, rfl⟩) (.inl ⟨rfl, rfl⟩) hk (bA _);refine aa e2 ?_;refine AM (s := .slice a (((bF σ.pts).take k).length + 1) cc) (l := (bF σ.pts).take k ++ [(⟨step, who, (σ.places who).getD 0, code⟩ : Pt)]) (m := ((bF σ.pts).take (bF σ.pts).length).drop k) h6 ?_ (by omega) fun v4 H7 h7 => ?_
  ·unfold dc; simp only [List.length_drop, List.length_take, f2, List.length_cons, List.length_nil]; omega
  have hc := aoN (s := v4) (enc := Pt.cells) (l := ((bF σ.pts).take k ++ [(⟨step, who, (σ.places who).getD 0, code⟩ : Pt)]) ++ ((bF σ.pts).take (bF σ.pts).length).drop k) h7
  haveI : wD v4 [v4] := ⟨hc.1⟩
  dsimp only;refine bg h7 ae rfl hc.2 fun H8 h8 => ?_;refine am ⟨v4, rfl, ?_⟩
  have e3 : bF (σ.note step who code).pts = ((bF σ.pts).take k ++ [(⟨step, who, (σ.places who).getD 0, code⟩ : Pt)]) ++ ((bF σ.pts).take (bF σ.pts).length).drop k := by
   show bF (σ.pts ++ [_]) = _;rw [AV, hins, List.take_length];simp
  unfold au;dsimp only;rw [e3];exact h8.to
 have down : ∀ (k : Nat), k ≤ (bF σ.pts).length → (∀ j p, k ≤ j → (bF σ.pts)[j]? = some p → step < p.step) →
  wp (Dv (vp p) (vi step) (vi who) (vp rb) (vi ((σ.places who).getD 0)) (vi (k : Int)) H2) (fun v' H' => ∃ x : Value, v' = .tuple #[] ∧ ac (au p { g with pv := x } (σ.note step who code) * R) H') := by
  intro k
  induction k with
  | zero =>
   intro hk ha;refine ah (Gy _ _ _ _ _ _ H2) ?_;refine aa (fJ (by omega)) ?_;refine gs ?_;refine ah (yH _ _ _ _ _ _ H2) ?_;exact put 0 hk ha (fun p h => absurd h (by omega))
  | succ k ih =>
   intro hk ha
   have hkl : k < (bF σ.pts).length := by omega
   refine ah (Gy _ _ _ _ _ _ H2) ?_;refine aa (j5 (by omega)) ?_;refine gs ?_;refine ak h2 ae rfl ?_;refine gs ?_;refine aa (bG (by omega) (by omega)) ?_;rw [show ((k + 1 : Nat) : Int) - 1 = (k : Int) from by omega];refine gs ?_;refine aoY (s := g.pv) (l := bF σ.pts) (v := vi ((bF σ.pts)[k]).step) h2u hkl (by omega) rfl ?_;refine gs ?_
   by_cases hs : step < ((bF σ.pts)[k]).step
   ·refine aa (j5 hs) ?_
    refine gs ?_;refine ah (Tm _ _ _ _ _ _ H2) ?_;refine aa (bG (by omega) (by omega)) ?_;rw [show ((k + 1 : Nat) : Int) - 1 = (k : Int) from by omega];refine ih (by omega) fun j p hj hp => ?_
    by_cases e : j = k
    ·subst e
     rw [cG hkl] at hp;rw [← iP hp]; exact hs
    ·exact ha j p (by omega) hp
   ·refine aa (fJ hs) ?_
    refine gs ?_;refine ah (yH _ _ _ _ _ _ H2) ?_;refine put (k + 1) hk ha fun p _ hp => ?_;rw [show k + 1 - 1 = k from by omega, cG hkl] at hp;rw [← iP hp]; omega
 exact down (bF σ.pts).length (bA _) fun j p hj hp => by
  rw [List.getElem?_eq_none hj] at hp; cases hp
structure Xk where
 a : Nat
 I : Nat
 free : Int
 hit : Bool
 obj : Nat
 w : Nat
 h : Nat
 q : Nat
 top : Nat
 mark : Int
 code : Int
abbrev xB (x P : Nat) (t : Tk) (k : Xk) : SP :=
 blk x (.cells false [vp P, vi t.who, vi t.x.op, vi t.x.flow, vi t.x.a, vi t.x.b, vi k.a, vi k.I, vi k.free, vb k.hit, vi k.obj, vu k.w, vu k.h, vu k.q, vw 0, vu k.top, vi k.mark, vi k.code, .slice none 0 0, vi 0, vw 0,
  vi 0, vi 0, .slice none 0 0, vw 0, vw 0, vi 0, vi 0, vi 0, vb false, vi 0, .slice none 0 0, vi 0, vw 0])
def iG (t : Tk) (k : Xk) : Prop := k.a = t.at' ∧ match t.at' with
 | 0 => k.I = t.i ∧ k.hit = false
 | 2 => k.I = t.i ∧ k.hit = false
 | 4 => k.I = t.i ∧ k.hit = false
 | 5 => k.hit = t.found ∧ (t.found = true → k.obj = t.obj) ∧ (t.found = false → k.code = t.code)
 | 6 => k.obj = t.obj
 | 7 => k.obj = t.obj
 | 8 => k.obj = t.obj ∧ k.w = t.w
 | 9 => k.obj = t.obj ∧ k.w = t.w
 | 10 => k.obj = t.obj ∧ k.w = t.w ∧ k.q = 0 ∧ k.code = t.code
 | 11 => k.obj = t.obj ∧ k.w = t.w ∧ k.code = t.code
 | 12 => k.obj = t.obj ∧ k.w = t.w
 | 13 => k.obj = t.obj ∧ k.w = t.w
 | 14 => k.obj = t.obj ∧ k.w = t.w ∧ k.q = 1 ∧ k.code = t.code
 | 15 => k.obj = t.obj
 | 16 => k.obj = t.obj ∧ k.q = t.q
 | 17 => k.obj = t.obj ∧ k.w = t.w ∧ k.q = t.q
 | 18 => k.obj = t.obj ∧ k.q = t.q ∧ k.mark = t.mark
 | 20 => k.obj = t.obj
 | 21 => k.obj = t.obj ∧ k.w = t.w ∧ k.code = t.code
 | 22 => k.obj = t.obj ∧ k.code = t.code
 | 23 => k.obj = t.obj ∧ k.top = t.top ∧ k.code = t.code
 | 24 => k.obj = t.obj ∧ k.top = t.top ∧ k.code = t.code
 | 25 => k.code = t.code
 | _ => True
def xP (x P : Nat) (σ : bd) (t : Tk) : SP := ex fun k : Xk => pu (iG t k) * (xB x P t k * aJ P σ)
def xQ (x P : Nat) (r : bd × Tk × Bool) : SP := ex fun k : Xk => pu (if r.2.2 = true then k.code = r.2.1.code else iG r.2.1 k) * (xB x P r.2.1 k * aJ P r.1)
section
variable {x P : Nat} {g : XIds} {σ σ' : bd} {t t' : Tk} {R : SP} {H : AH} {r : bd × Tk × Bool} {k : Xk}
theorem cT (h : ac (xP x P σ t * R) H) : ∃ (k : Xk) (g : XIds), iG t k ∧ fm g σ ∧ ac (xB x P t k * (au P g σ * R)) H := by
 obtain ⟨k, h1⟩ := ac.ex.1 h;rw [aj, ac.pu] at h1;obtain ⟨g, h2, h3⟩ := dz (p := P) (σ := σ) (R := xB x P t k * R) (H := H) h1.2.to;exact ⟨k, g, h1.1, h2, h3.to⟩
theorem dC (hr : r = (σ', t', false)) (hR : iG t' k) (hg : fm g σ') (h : ac (xB x P t' k * (au P g σ' * R)) H) : ∃ y : Unit, (vb false : Value) = vb r.2.2 ∧ ac (xQ x P r * R) H := by
 subst hr;refine ⟨(), rfl, ac.ex.2 ⟨k, ?_⟩⟩;rw [aj, ac.pu];have h1 := cH (p := P) (σ := σ') (R := xB x P t' k * R) g hg h.to;exact ⟨hR, h1.to⟩
theorem Hq (hr : r = (σ', t', true)) (hc : k.code = t'.code) (hg : fm g σ') (h : ac (xB x P t' k * (au P g σ' * R)) H) : ∃ y : Unit, (vb true : Value) = vb r.2.2 ∧ ac (xQ x P r * R) H := by
 subst hr;refine ⟨(), rfl, ac.ex.2 ⟨k, ?_⟩⟩;rw [aj, ac.pu];have h1 := cH (p := P) (σ := σ') (R := xB x P t' k * R) g hg h.to;exact ⟨hc, h1.to⟩
theorem dN {c : iF} {μ' : Mu} {obs' : List (Ob × List Pk)} {nx' : Int → Option Nat} {pts' : List Pt} {pv : Value} (h : fm g σ) (hN : σ.μ.N ≤ μ'.N) (ho : obs'.length = σ.obs.length) : fm { g with pv := pv } ⟨c, μ', obs', nx', σ.places, pts'⟩ :=
 ⟨h.1.trans ho.symm, h.2.1, eE h.2.2 hN⟩
theorem ay {c : iF} {μ' : Mu} {obs' : List (Ob × List Pk)} {nx' : Int → Option Nat} {pts' : List Pt} (h : fm g σ) (hN : σ.μ.N ≤ μ'.N) (ho : obs'.length = σ.obs.length) : fm g ⟨c, μ', obs', nx', σ.places, pts'⟩ :=
 ⟨h.1.trans ho.symm, h.2.1, eE h.2.2 hN⟩
end
section
variable (x P : Nat) (g : XIds) (σ : bd) (t : Tk) (k : Xk)
theorem j1 (hl : g.rp.length = σ.obs.length) (b : Nat) (ho : k.obj < σ.obs.length) (hb : g.rp[k.obj]? = some b) : Sp b7 [vp x] (xB x P t k * au P g σ) (fun _ : Unit => vp b) (fun _ => xB x P t k * au P g σ) := by
 refine aY (At _) fun R H h => ?_;refine ak h ae rfl ?_;refine ak h ae rfl ?_;refine ak h ae rfl ?_;have h2 := h;unfold au at h2;refine jf (s := g.rv) (l := g.rp) (v := vp b) h2 (by omega) ?_ ?_
 ·rw [cG (by omega)] at hb
  rw [iP hb]
 exact am ⟨(), rfl, h⟩
theorem zh (hw : k.w < 18446744073709551616) : Sp fR [vp x] (xB x P t k) (fun _ : Unit => vu (bn k.w)) (fun _ => xB x P t k) := by
 refine aY (yF _) fun R H h => ?_;refine ak h ae rfl ?_;refine af h (pL k.w hw) fun _ H1 h1 => ?_;refine aa (v := vu (bn k.w)) rfl ?_;refine aa (v := vi (bC k.w)) rfl ?_;refine aa (v := vb (d6 k.w)) rfl ?_;exact am ⟨(), rfl, h1.to⟩
theorem DF (S : SOk σ) (hl : g.rp.length = σ.obs.length) (b : Nat) (ho : k.obj < σ.obs.length) (hb : g.rp[k.obj]? = some b) :
 Sp eW [vp x] (xB x P t k * au P g σ) (fun _ : Unit => vi (bC (σ.μ.V (11, (k.obj : Int), 0)))) (fun _ => xB x P t { k with w := σ.μ.V (11, (k.obj : Int), 0) } * au P g (σ.mem (σ.μ.acc t.who 1 (11, (k.obj : Int), 0)))) := by
 have hN : σ.μ.N < 1099511627000 := by have := S.N; omega
 refine aY (Av _) fun R H h => ?_;refine af h (j1 x P g σ t k hl b ho hb) fun _ H1 h1 => ?_;refine bD ae ?_;refine aN h1 rfl ?_;refine aH h h1 (by rfl) ?_;refine af h1 (kY (p := P) (μ' := σ.μ.acc t.who 1 (11, (k.obj : Int), 0)) (by simp) hl ho hb (UH g.m k.obj b (aC σ k.obj) σ.μ t.who hN)) fun _ H2 h2 => ?_;refine bg h2 ae rfl rfl fun H3 h3 => ?_;refine ak h3 ae rfl ?_;refine af h3 (pL _ (S.V _)) fun _ H4 h4 => ?_;refine aa (v := vu (bn (σ.μ.V (11, (k.obj : Int), 0)))) rfl ?_;refine aa (v := vi (bC (σ.μ.V (11, (k.obj : Int), 0)))) rfl ?_;refine aa (v := vb (d6 (σ.μ.V (11, (k.obj : Int), 0)))) rfl ?_;exact am ⟨(), rfl, h4.to⟩
theorem j0 (hg : fm g σ) (now e : Int) (hN : σ.μ.N < 1000000000) (hp : σ.pts.length < 900000) :
 Sp bJ [vp x, vi now, vi e] (xB x P t k * au P g σ) (fun _ : Value => .tuple #[]) (fun v => xB x P t { k with code := e } * au P { g with pv := v } (σ.note now t.who e)) := by
 refine aY (As _ _ _) fun R H h => ?_;refine jq ?_;refine bg h ae rfl rfl fun H1 h1 => ?_;refine ak h1 ae rfl ?_;refine ak h1 ae rfl ?_;refine Hm h1 ae ?_;refine af h1 (axM P g σ now t.who e (hg.2.1 _) (by have := hg.2.2; omega) hp) fun v H2 h2 => ?_;exact am ⟨v, rfl, h2.to⟩
def AP (t1 : Tk) (k k' : Xk) : Prop := k'.a = k.a ∧ k'.w = k.w ∧ k'.q = k.q ∧ k'.top = k.top ∧ k'.mark = k.mark ∧ k'.code = k.code ∧ (t1.found = true → k'.hit = true ∧ k'.obj = t1.obj) ∧ (t1.found = false → k'.hit = k.hit ∧ k'.I = k.I + 1)
theorem YG (S : SOk σ) (T : ir σ t) (hI : k.I = t.i) (hi : (t.i : Int) < σ.c.sl) :
 Sp Gc [vp x] (xB x P t k * au P g σ) (fun _ : Xk => .tuple #[vb (aV σ t).found, vb (!(aV σ t).found && cD σ (aV σ t))]) (fun k' => pu (AP (aV σ t) k k') * (xB x P t k' * au P g (aZ σ t))) := by
 have hN : σ.μ.N < 1099511627000 := by have := S.N; omega
 have hc := bQ.1 S.c;refine aY (amX _) fun R H h => ?_;refine bD ae ?_;refine aN h rfl ?_;refine bD ae ?_;refine aN h rfl ?_;refine bD ae ?_;refine aN h rfl ?_;refine ak h ae rfl ?_;refine ak h ae rfl ?_;refine ak h (cj (aP (aP be))) rfl ?_;refine af h (CT (p := P) (g := g) (σ := σ) (mp g.tb g.m σ.c.sh.toNat σ.c.sl.toNat (by omega) t.x.flow)) fun _ H1 h1 => ?_;refine aH h1 h (by rfl) ?_;refine aH h1 h (by rfl) ?_;refine aH h1 h (by rfl) ?_
 have es : vi ((t.x.flow.tmod (σ.c.sh.toNat : Int) + (σ.c.sh.toNat : Int)).tmod (σ.c.sh.toNat : Int)) = vi t.s := by rw [T.s, show ((σ.c.sh.toNat : Nat) : Int) = σ.c.sh from by omega]
 rw [es];refine bD ae ?_;refine aN h1 rfl ?_;refine aH h h1 (by rfl) ?_;rw [hI]
 have ek : k = { k with I := t.i } := by rw [← hI]
 rw [ek] at h1;refine af h1 (pT (p := P) (g := g) (σ := σ) (μ' := σ.μ.acc t.who 1 (10, t.s, (t.i : Int))) (by simp) (Je g.tb g.m σ.c.sh.toNat σ.c.sl.toNat σ.μ t.who t.s t.i hN (S.V _))) fun _ H2 h2 => ?_;have tail : ∀ (k' : Xk) (H' : AH), AP { aV σ t with found := false } { k with I := t.i } { k' with I := t.i + 1 } → k'.I = t.i → (aV σ t).found = false → ac (xB x P t k' * (au P g (aZ σ t) * R)) H' →
  wp (GD (vp x) (vb false) (vb false) H') fun v' H' => ∃ k' : Xk, v' = .tuple #[vb (aV σ t).found, vb (!(aV σ t).found && cD σ (aV σ t))] ∧ ac (pu (AP (aV σ t) k k') * (xB x P t k' * au P g (aZ σ t)) * R) H' := by
  intro k' H' hX hI' hf h';refine ah (Jl ..) ?_;refine ak h' ae rfl ?_;rw [hI'];refine aa (aE (by omega) (by omega)) ?_;rw [show ((t.i : Nat) : Int) + 1 = ((t.i + 1 : Nat) : Int) from by omega];refine bg h' ae rfl rfl fun H3 h3 => ?_;refine ak h3 ae rfl ?_;refine ak h3 ae rfl ?_;refine ak h3 ae rfl ?_;have h4 := h3;unfold au tab at h4;refine ak h4 ae rfl ?_;refine aa (v := vb (cD σ (aV σ t))) ?_ ?_
  ·rw [tB]
   congr 3
   show ((σ.c.sl.toNat : Int) ≤ _) = (σ.c.sl ≤ ((t.i + 1 : Nat) : Int));apply propext;omega
  refine am ⟨{ k' with I := t.i + 1 }, by rw [hf]; rfl, ?_⟩;rw [aj, ac.pu];refine ⟨?_, h3.to⟩
  have e0 : aV σ t = { aV σ t with found := false } := by rw [← hf]
  rw [e0]
  simpa [AP, hI] using hX
 by_cases hv : σ.μ.V (10, t.s, (t.i : Int)) = 0
 ·have e1 : iw (σ.μ.V (10, t.s, (t.i : Int))) = .tuple #[vi 0, vi 0, vb false] := by rw [iw, if_pos hv]
  have hf : (aV σ t).found = false := e7 fun q => q.1 hv;rw [e1];refine aa (v := vi 0) rfl ?_;refine aa (v := vi 0) rfl ?_;refine aa (v := vb false) rfl ?_;refine gs ?_;refine ah (uc ..) ?_;refine gs ?_;rw [Bool.not_false];refine gs ?_;refine ak h2 ae rfl ?_
  by_cases hfr : k.free < 0
  ·refine iq ?_
   refine aa (bS hfr) ?_;refine gs ?_;refine ak h2 ae rfl ?_;refine bg h2 ae rfl rfl fun H3 h3 => ?_;exact tail { k with I := t.i, free := t.i } H3 (by simp [AP]) rfl hf h3.to
  ·refine iq ?_
   refine aa (bE hfr) ?_;refine gs ?_;exact tail { k with I := t.i } H2 (by simp [AP]) rfl hf h2.to
 ·have e1 : iw (σ.μ.V (10, t.s, (t.i : Int))) = .tuple #[vi ((σ.μ.V (10, t.s, (t.i : Int)) / 4294967296 : Nat) - 1), vi (σ.μ.V (10, t.s, (t.i : Int)) % 4294967296 : Nat), vb true] := by rw [iw, if_neg hv]
  rw [e1];refine aa (v := vi ((σ.μ.V (10, t.s, (t.i : Int)) / 4294967296 : Nat) - 1)) rfl ?_;refine aa (v := vi (σ.μ.V (10, t.s, (t.i : Int)) % 4294967296 : Nat)) rfl ?_;refine aa (v := vb true) rfl ?_;refine gs ?_;refine ak h2 (cj (aP (aP be))) rfl ?_;refine iq ?_
  by_cases hf : ((σ.μ.V (10, t.s, (t.i : Int)) / 4294967296 : Nat) : Int) - 1 = t.x.flow
  ·have hfo : (aV σ t).found = true := fH ⟨hv, hf⟩
   have hob : (aV σ t).obj = σ.μ.V (10, t.s, (t.i : Int)) % 4294967296 := if_pos hfo;refine aa (bi hf) ?_;refine gs ?_;refine bg h2 ae rfl rfl fun H3 h3 => ?_;refine bg h3 ae rfl rfl fun H4 h4 => ?_;refine am ⟨{ k with I := t.i, hit := true, obj := σ.μ.V (10, t.s, (t.i : Int)) % 4294967296 }, by rw [hfo]; rfl, ?_⟩;rw [aj, ac.pu];exact ⟨by simp [AP, hfo, hob], h4.to⟩
  ·have hfo : (aV σ t).found = false := e7 fun q => hf q.2
   refine aa (aG hf) ?_;refine gs ?_;refine ah (uc ..) ?_;refine gs ?_;rw [Bool.not_true];refine gs ?_;exact tail { k with I := t.i } H2 (by simp [AP]) rfl hfo h2.to
theorem Qr {R : SP} {H : AH} {Q : Value → AH → Prop} (now : Int) (S : SOk σ) (T : ir σ t) (h : ac (xB x P t k * (au P g σ * R)) H)
 (hk : ∀ b H', ac (blk b (.cells false [vi t.x.flow, vi t.x.a, vi t.x.b]) * (xB x P t k * (au P g σ * R))) H' → wp (Tt (vp x) (vi now) (vb false) (vp P) (vi t.s) (vp b) H') Q) :
 wp (FF fh [vp x, vi now] H) Q := by
 have hc := bQ.1 S.c;refine bj (fun r => avJ _ _ H) ?_;refine bD ae ?_;refine aN h rfl ?_;refine ak h ae rfl ?_;refine ak h ae rfl ?_;refine ak h (cj (aP (aP be))) rfl ?_;refine af h (CT (p := P) (g := g) (σ := σ) (mp g.tb g.m σ.c.sh.toNat σ.c.sl.toNat (by omega) t.x.flow)) fun _ H1 h1 => ?_;refine aH h1 h (by rfl) ?_
 have es : vi ((t.x.flow.tmod (σ.c.sh.toNat : Int) + (σ.c.sh.toNat : Int)).tmod (σ.c.sh.toNat : Int)) = vi t.s := by rw [T.s, show ((σ.c.sh.toNat : Nat) : Int) = σ.c.sh from by omega]
 rw [es];refine ak h1 (cj (aP (aP be))) rfl ?_;refine ak h1 (cj (aP (aP be))) rfl ?_;refine ak h1 (cj (aP (aP be))) rfl ?_;refine jq ?_;refine bo h1 fun b H2 h2 => ?_;refine eM h2 rfl rfl fun H3 h3 => ?_;exact hk b H3 h3.to
theorem ca {R : SP} {H : AH} {Q : Value → AH → Prop} (now : Int) (S : SOk σ) (T : ir σ t) (ha : k.a ≠ 0) (h : ac (xB x P t k * (au P g σ * R)) H)
 (hk : ∀ b H', ac (blk b (.cells false [vi t.x.flow, vi t.x.a, vi t.x.b]) * (xB x P t k * (au P g σ * R))) H' → wp (qH (vp x) (vi now) (vb false) (vp P) (vi t.s) (vp b) (vi k.a) H') Q) :
 wp (FF fh [vp x, vi now] H) Q := by
 refine Qr x P g σ t k now S T h fun b H1 h1 => ?_;refine ah (Jj ..) ?_;refine ak h1 ae rfl ?_;refine aa (aG (by omega)) ?_;refine gs ?_;refine ah (Jk ..) ?_;refine ak h1 ae rfl ?_;exact hk b H1 h1
end
theorem oV {f : Nat} {args : List Value} {H : AH} {Q : Value → AH → Prop} (h : wp (FF f args H) Q) : wp ((FF f args H).bind fun r => some (r.1, r.2)) Q := by
 obtain ⟨v, H', e, q⟩ := h;rw [e]; exact ⟨v, H', rfl, q⟩
section
variable (x P : Nat) (σ : bd) (t : Tk) (now : Int)
theorem ch6 {x0 x1 x4 x5 x6 x7 : Value} {a : Nat} {H : AH} {Q : Value → AH → Prop} (h : a ≠ 2 ∧ a ≠ 3 ∧ a ≠ 4 ∧ a ≠ 5) (hk : wp ((ai .other .eql (vi (a : Int)) (vi 6)).bind fun v => My x0 x1 x4 x5 x6 x7 (vi (a : Int)) v H) Q) : wp (qH x0 x1 x4 x5 x6 x7 (vi (a : Int)) H) Q := by
 refine ah (mD ..) ?_;refine aa (aG (by omega)) ?_;refine ah (pR ..) ?_;refine gs ?_;refine aa (aG (by omega)) ?_;refine ah (qG ..) ?_;refine gs ?_;refine aa (aG (by omega)) ?_;refine ah (v8 ..) ?_;refine gs ?_;refine aa (aG (by omega)) ?_;refine ah (GA ..) ?_;refine gs ?_;exact hk
theorem ch8 {x0 x1 x4 x5 x6 x7 : Value} {a : Nat} {H : AH} {Q : Value → AH → Prop} (h : a ≠ 2 ∧ a ≠ 3 ∧ a ≠ 4 ∧ a ≠ 5 ∧ a ≠ 6 ∧ a ≠ 7) (hk : wp ((ai .other .eql (vi (a : Int)) (vi 8)).bind fun v => Mz x0 x1 x4 x5 x6 x7 (vi (a : Int)) v H) Q) : wp (qH x0 x1 x4 x5 x6 x7 (vi (a : Int)) H) Q := by
 refine ch6 (by omega) ?_;refine aa (aG (by omega)) ?_;refine ah (wa ..) ?_;refine gs ?_;refine aa (aG (by omega)) ?_;refine ah (GB ..) ?_;refine gs ?_;exact hk
theorem auF {x0 x1 x4 x5 x6 x7 : Value} {a : Nat} {H : AH} {Q : Value → AH → Prop} (h : a ≠ 2 ∧ a ≠ 3 ∧ a ≠ 4 ∧ a ≠ 5 ∧ a ≠ 6 ∧ a ≠ 7 ∧ a ≠ 8 ∧ a ≠ 9 ∧ a ≠ 13) (hk : wp ((ai .other .eql (vi (a : Int)) (vi 10)).bind fun v98 => av v98 (yI x0 x1 x4 x5 x6 x7 (vi (a : Int)) v98 H) ((ai .other .eql (vi (a : Int)) (vi 14)).bind fun v99 => yI x0 x1 x4 x5 x6 x7 (vi (a : Int)) v99 H)) Q) : wp (qH x0 x1 x4 x5 x6 x7 (vi (a : Int)) H) Q := by
 refine ch8 (by omega) ?_;refine aa (aG (by omega)) ?_;refine ah (qI ..) ?_;refine gs ?_;refine aa (aG (by omega)) ?_;refine gs ?_;refine aa (aG (by omega)) ?_;refine ah (wb ..) ?_;refine gs ?_;exact hk
theorem auG {x0 x1 x4 x5 x6 x7 : Value} {a : Nat} {H : AH} {Q : Value → AH → Prop} (h : a ≠ 2 ∧ a ≠ 3 ∧ a ≠ 4 ∧ a ≠ 5 ∧ a ≠ 6 ∧ a ≠ 7 ∧ a ≠ 8 ∧ a ≠ 9 ∧ a ≠ 10 ∧ a ≠ 13 ∧ a ≠ 14) (hk : wp ((ai .other .eql (vi (a : Int)) (vi 11)).bind fun v => MB x0 x1 x4 x5 x6 (vi (a : Int)) v H) Q) : wp (qH x0 x1 x4 x5 x6 x7 (vi (a : Int)) H) Q := by
 refine auF (by omega) ?_;refine aa (aG (by omega)) ?_;refine gs ?_;refine aa (aG (by omega)) ?_;refine ah (wc ..) ?_;refine gs ?_;exact hk
theorem af4 {x0 x1 x4 x5 x6 x7 : Value} {a : Nat} {H : AH} {Q : Value → AH → Prop} (h : a ≠ 2 ∧ a ≠ 3 ∧ a ≠ 4 ∧ a ≠ 5 ∧ a ≠ 6 ∧ a ≠ 7 ∧ a ≠ 8 ∧ a ≠ 9 ∧ a ≠ 10 ∧ a ≠ 11 ∧ a ≠ 12 ∧ a ≠ 13 ∧ a ≠ 14) (hk : wp ((ai .other .eql (vi (a : Int)) (vi 15)).bind fun v92 => av v92 (mm x0 x1 x4 x6 v92 H) ((ai .other .eql (vi (a : Int)) (vi 16)).bind fun v93 => av v93 (mm x0 x1 x4 x6 v93 H) ((ai .other .eql (vi (a : Int)) (vi 17)).bind fun v94 => av v94 (mm x0 x1 x4 x6 v94 H) ((ai .other .eql (vi (a : Int)) (vi 18)).bind fun v95 => mm x0 x1 x4 x6 v95 H)))) Q) : wp (qH x0 x1 x4 x5 x6 x7 (vi (a : Int)) H) Q := by
 refine auG (by omega) ?_;refine aa (aG (by omega)) ?_;refine ah (we ..) ?_;refine gs ?_;refine aa (aG (by omega)) ?_;refine ah (GC ..) ?_;refine gs ?_;exact hk
theorem chw {x0 x1 x4 x5 x6 x7 : Value} {a : Nat} {H : AH} {Q : Value → AH → Prop} (h : a ≠ 2 ∧ a ≠ 3 ∧ a ≠ 4 ∧ a ≠ 5 ∧ a ≠ 6 ∧ a ≠ 7 ∧ a ≠ 8 ∧ a ≠ 9 ∧ a ≠ 10 ∧ a ≠ 11 ∧ a ≠ 12 ∧ a ≠ 13 ∧ a ≠ 14 ∧ a ≠ 15 ∧ a ≠ 16 ∧ a ≠ 17 ∧ a ≠ 18) (hk : wp ((FF alN [x0, x6] H).bind fun r91 => some (r91.1, r91.2)) Q) : wp (qH x0 x1 x4 x5 x6 x7 (vi (a : Int)) H) Q := by
 refine af4 (by omega) ?_;refine aa (aG (by omega)) ?_;refine gs ?_;refine aa (aG (by omega)) ?_;refine gs ?_;refine aa (aG (by omega)) ?_;refine gs ?_;refine aa (aG (by omega)) ?_;refine ah (nz ..) ?_;refine gs ?_;exact hk
theorem asL (S : SOk σ) (T : ir σ t) (hat : t.at' = 3) : Sp fh [vp x, vi now] (xP x P σ t) (fun _ : Unit => vb (aq σ t now).2.2) (fun _ => xQ x P (aq σ t now)) := by
 have hN : σ.μ.N < 1099511627000 := by have := S.N; omega
 refine aK fun R H h => ?_;obtain ⟨k, g, hR, hg, h0⟩ := cT h;have hl := hg.1;simp only [iG, hat] at hR;obtain ⟨ha, _⟩ := hR;refine ca x P g σ t k now S T (by omega) h0 fun b1 H1 h1 => ?_;refine ah (mD ..) ?_;refine aa (aG (by omega)) ?_;refine ah (pR ..) ?_;refine gs ?_;refine aa (bi (by omega)) ?_;refine ah (qG ..) ?_;refine gs ?_;refine ak h1 ae rfl ?_;refine ak h1 ae rfl ?_;refine af h1 (pT (p := P) (g := g) (σ := σ) (μ' := σ.μ.swp t.who (8, t.s, 0) 0 1) (by simp) (Px g.tb g.m σ.c.sh.toNat σ.c.sl.toNat σ.μ t.who t.s hN)) fun _ H2 h2 => ?_
 by_cases hw : σ.μ.V (8, t.s, 0) = 0
 ·rw [fH hw]
  refine gs ?_;refine bg h2 ae rfl rfl fun H3 h3 => ?_;refine bg h3 ae rfl rfl fun H4 h4 => ?_;refine bg h4 ae rfl rfl fun H5 h5 => ?_;refine ah (cA ..) ?_;exact am (dC (g := g) (σ' := σ.mem (σ.μ.swp t.who (8, t.s, 0) 0 1)) (t' := { t with at' := 4, i := 0 }) (k := { k with a := 4, I := 0, hit := false }) (by simp only [aq, hat]; rw [if_pos hw]) (by simp [iG]) (ay (σ := σ) hg (by simp) rfl) h5.to)
 ·rw [e7 hw]
  refine gs ?_;refine ah (cA ..) ?_;exact am (dC (g := g) (σ' := σ.mem (σ.μ.swp t.who (8, t.s, 0) 0 1)) (t' := t) (k := k) (by simp only [aq, hat]; rw [if_neg hw]) (by simp only [iG, hat]; exact ⟨ha, trivial⟩) (ay (σ := σ) hg (by simp) rfl) h2.to)
theorem asN (S : SOk σ) (T : ir σ t) (hat : t.at' = 5) : Sp fh [vp x, vi now] (xP x P σ t) (fun _ : Unit => vb (aq σ t now).2.2) (fun _ => xQ x P (aq σ t now)) := by
 have hN : σ.μ.N < 1099511627000 := by have := S.N; omega
 refine aK fun R H h => ?_;obtain ⟨k, g, hR, hg, h0⟩ := cT h;have hl := hg.1;simp only [iG, hat] at hR;obtain ⟨ha, hhit, hobj, hcode⟩ := hR;refine ca x P g σ t k now S T (by omega) h0 fun b1 H1 h1 => ?_;refine ah (mD ..) ?_;refine aa (aG (by omega)) ?_;refine ah (pR ..) ?_;refine gs ?_;refine aa (aG (by omega)) ?_;refine ah (qG ..) ?_;refine gs ?_;refine aa (aG (by omega)) ?_;refine ah (v8 ..) ?_;refine gs ?_;refine aa (bi (by omega)) ?_;refine ah (GA ..) ?_;refine gs ?_;refine ak h1 ae rfl ?_;refine ak h1 ae rfl ?_;refine af h1 (pT (p := P) (g := g) (σ := σ) (μ' := (σ.μ.acc t.who 2 (8, t.s, 0)).put (8, t.s, 0) 0) (by simp) (v7 g.tb g.m σ.c.sh.toNat σ.c.sl.toNat σ.μ t.who t.s hN)) fun _ H2 h2 => ?_;refine ak h2 ae rfl ?_;cases hf : t.found
 ·rw [hf] at hhit
  rw [hhit];refine gs ?_;rw [Bool.not_false];refine gs ?_;exact am (Hq (g := g) (k := k) (σ' := σ.mem ((σ.μ.acc t.who 2 (8, t.s, 0)).put (8, t.s, 0) 0)) (t' := { t with at' := 6 }) (by simp only [aq, hat, hf]; rfl) (hcode hf) (ay (σ := σ) hg (by simp) rfl) h2.to)
 ·rw [hf] at hhit
  rw [hhit];refine gs ?_;rw [Bool.not_true];refine gs ?_;refine bg h2 ae rfl rfl fun H3 h3 => ?_;refine ah (cA ..) ?_;exact am (dC (g := g) (σ' := σ.mem ((σ.μ.acc t.who 2 (8, t.s, 0)).put (8, t.s, 0) 0)) (t' := { t with at' := 6 }) (k := { k with a := 6 }) (by simp only [aq, hat, hf]; rfl) (by simp [iG, hobj hf]) (ay (σ := σ) hg (by simp) rfl) h3.to)
theorem asO (S : SOk σ) (T : ir σ t) (hat : t.at' = 6) : Sp fh [vp x, vi now] (xP x P σ t) (fun _ : Unit => vb (aq σ t now).2.2) (fun _ => xQ x P (aq σ t now)) := by
 have hN : σ.μ.N < 1099511627000 := by have := S.N; omega
 refine aK fun R H h => ?_;obtain ⟨k, g, hR, hg, h0⟩ := cT h;have hl := hg.1;simp only [iG, hat] at hR;obtain ⟨ha, hobj⟩ := hR;have ho := T.obj (.inl (by omega))
 have hob : k.obj < σ.obs.length := by omega
 obtain ⟨b, hb⟩ : ∃ b, g.rp[k.obj]? = some b := ⟨_, cG (by omega)⟩;refine ca x P g σ t k now S T (by omega) h0 fun b1 H1 h1 => ?_;refine ch6 (by omega) ?_;refine aa (bi (by omega)) ?_;refine ah (wa ..) ?_;refine gs ?_;refine ak h1 ae rfl ?_;refine ak h1 ae rfl ?_;refine af h1 (UF P g σ hl t.who k.obj hob S.N) fun _ H2 h2 => ?_;refine bg h2 ae rfl rfl fun H3 h3 => ?_;refine ah (cA ..) ?_;rw [hobj] at h3;exact am (dC (g := g) (σ' := σ.mem (σ.μ.acc t.who 5 (13, (t.obj : Int), 0))) (t' := { t with at' := 7 }) (k := { k with a := 7, obj := t.obj }) (by simp only [aq, hat]) (by simp [iG]) (ay (σ := σ) hg (by simp) rfl) h3.to)
theorem asP (S : SOk σ) (T : ir σ t) (hat : t.at' = 7) : Sp fh [vp x, vi now] (xP x P σ t) (fun _ : Unit => vb (aq σ t now).2.2) (fun _ => xQ x P (aq σ t now)) := by
 have hN : σ.μ.N < 1099511627000 := by have := S.N; omega
 refine aK fun R H h => ?_;obtain ⟨k, g, hR, hg, h0⟩ := cT h;have hl := hg.1;simp only [iG, hat] at hR;obtain ⟨ha, hobj⟩ := hR;have ho := T.obj (.inl (by omega))
 have hob : k.obj < σ.obs.length := by omega
 obtain ⟨b, hb⟩ : ∃ b, g.rp[k.obj]? = some b := ⟨_, cG (by omega)⟩;refine ca x P g σ t k now S T (by omega) h0 fun b1 H1 h1 => ?_;refine ch6 (by omega) ?_;refine aa (aG (by omega)) ?_;refine ah (wa ..) ?_;refine gs ?_;refine aa (bi (by omega)) ?_;refine ah (GB ..) ?_;refine gs ?_;refine bg h1 ae rfl rfl fun H2 h2 => ?_;refine af h2 (DF x P g σ t { k with a := 8 } S hl b hob hb) fun _ H3 h3 => ?_;dsimp only at h3;rw [hobj] at h3
 by_cases hw : bC (σ.μ.V (11, (t.obj : Int), 0)) = 2
 ·refine aa (bi (by rw [hobj]; exact hw)) ?_
  refine gs ?_;refine bg h3 ae rfl rfl fun H4 h4 => ?_;refine ah (cA ..) ?_;exact am (dC (g := g) (σ' := dg σ t) (t' := { t with at' := 3, w := σ.μ.V (11, (t.obj : Int), 0) }) (k := { k with a := 3, obj := t.obj, w := σ.μ.V (11, (t.obj : Int), 0) }) (by simp only [aq, hat]; rw [if_pos hw]) (by simp [iG]) (ay (σ := σ) hg (by simp) rfl) h4.to)
 ·refine aa (aG (by rw [hobj]; exact hw)) ?_
  refine gs ?_;refine ah (cA ..) ?_;exact am (dC (g := g) (σ' := dg σ t) (t' := { t with at' := 8, w := σ.μ.V (11, (t.obj : Int), 0) }) (k := { k with a := 8, obj := t.obj, w := σ.μ.V (11, (t.obj : Int), 0) }) (by simp only [aq, hat]; rw [if_neg hw]) (by simp [iG]) (ay (σ := σ) hg (by simp) rfl) h3.to)
theorem asQ (S : SOk σ) (T : ir σ t) (hat : t.at' = 8) : Sp fh [vp x, vi now] (xP x P σ t) (fun _ : Unit => vb (aq σ t now).2.2) (fun _ => xQ x P (aq σ t now)) := by
 have hN : σ.μ.N < 1099511627000 := by have := S.N; omega
 refine aK fun R H h => ?_;obtain ⟨k, g, hR, hg, h0⟩ := cT h;have hl := hg.1;simp only [iG, hat] at hR;obtain ⟨ha, hobj, hw0⟩ := hR;have ho := T.obj (.inl (by omega))
 have hob : k.obj < σ.obs.length := by omega
 obtain ⟨b, hb⟩ : ∃ b, g.rp[k.obj]? = some b := ⟨_, cG (by omega)⟩;refine ca x P g σ t k now S T (by omega) h0 fun b1 H1 h1 => ?_;refine ch8 (by omega) ?_;refine aa (bi (by omega)) ?_;refine ah (qI ..) ?_;refine gs ?_;refine af h1 (j1 x P g σ t k hl b hob hb) fun _ H2 h2 => ?_;refine bD ae ?_;refine aN h2 rfl ?_;refine aH h1 h2 (by rfl) ?_;refine af h2 (kY (p := P) (μ' := σ.μ.acc t.who 1 (12, (k.obj : Int), 0)) (by simp) hl hob hb (Hv g.m k.obj b (aC σ k.obj) σ.μ t.who hN)) fun _ H3 h3 => ?_;refine bg h3 ae rfl rfl fun H4 h4 => ?_;refine ak h4 ae rfl ?_;refine af h4 (pL k.w (by rw [hw0]; exact T.w)) fun _ H5 h5 => ?_;refine aa (v := vu (bn k.w)) rfl ?_;refine aa (v := vi (bC k.w)) rfl ?_;refine aa (v := vb (d6 k.w)) rfl ?_;refine ah (Tw ..) ?_;refine af h5 (j1 x P g (σ.mem (σ.μ.acc t.who 1 (12, (k.obj : Int), 0))) t { k with h := σ.μ.V (12, (k.obj : Int), 0) } hl b hob hb) fun _ H6 h6 => ?_;refine bD ae ?_;refine aN h6 rfl ?_;refine aH h5 h6 (by rfl) ?_;refine bD ae ?_;refine aN h6 rfl ?_;refine aH h5 h6 (by rfl) ?_;refine af h6 (Nk (p := P) (σ := σ.mem (σ.μ.acc t.who 1 (12, (k.obj : Int), 0))) hl hob hb (Hu g.m k.obj b (aC σ k.obj) k.w (σ.μ.V (12, (k.obj : Int), 0)) (by rw [hw0]; exact T.w) (S.cells _ hob).2)) fun _ H7 h7 => ?_;rw [hobj, hw0] at h7;rw [hobj, hw0];cases hf : pp t.w (σ.μ.V (12, (t.obj : Int), 0)) (aC σ t.obj).length
 ·refine gs ?_
  by_cases hw : bC t.w = 1
  ·refine aa (bi hw) ?_
   refine gs ?_;refine bg h7 ae rfl rfl fun H8 h8 => ?_;refine ah (cA ..) ?_;exact am (dC (g := g) (σ' := jA σ t) (t' := { t with at' := 9 }) (k := { k with a := 9, obj := t.obj, w := t.w, h := σ.μ.V (12, (t.obj : Int), 0) }) (by simp only [aq, hat, nU, hf]; rw [if_pos hw]; rfl) (by simp [iG]) (ay (σ := σ) hg (by simp) rfl) h8.to)
  ·refine aa (aG hw) ?_
   refine gs ?_;refine bg h7 ae rfl rfl fun H8 h8 => ?_;refine ah (cA ..) ?_;exact am (dC (g := g) (σ' := jA σ t) (t' := { t with at' := 12 }) (k := { k with a := 12, obj := t.obj, w := t.w, h := σ.μ.V (12, (t.obj : Int), 0) }) (by simp only [aq, hat, nU, hf]; rw [if_neg hw]; rfl) (by simp [iG]) (ay (σ := σ) hg (by simp) rfl) h8.to)
 ·refine gs ?_
  refine bg h7 ae rfl rfl fun H8 h8 => ?_;refine ah (cA ..) ?_;exact am (dC (g := g) (σ' := jA σ t) (t' := { t with at' := 15 }) (k := { k with a := 15, obj := t.obj, w := t.w, h := σ.μ.V (12, (t.obj : Int), 0) }) (by simp only [aq, hat, nU, hf]; rfl) (by simp [iG]) (ay (σ := σ) hg (by simp) rfl) h8.to)
theorem Qw (g : XIds) (k : Xk) (S : SOk σ) (hg : fm g σ) (ha : k.a = 9 ∨ k.a = 13) (b : Nat) (ho : k.obj < σ.obs.length) (hb : g.rp[k.obj]? = some b) (hw0 : k.w < 18446744073709551616) :
 Sp kB [vp x, vi now] (xB x P t k * au P g σ) (fun _ : Value => .tuple #[]) (fun v => if fZ σ.μ k.obj k.w (aW k.w 0) = true then
  xB x P t { k with q := if k.a = 13 then 1 else 0, a := k.a + 1, code := 0 } * au P { g with pv := v } ((σ.mem (σ.μ.turn t.who k.obj k.w (aW k.w 0))).note now t.who 0)
  else xB x P t { k with q := if k.a = 13 then 1 else 0, a := if k.a = 13 then 20 else 7 } * au P g (σ.mem (σ.μ.turn t.who k.obj k.w (aW k.w 0)))) := by
 have hN : σ.μ.N < 1099511627000 := by have := S.N; omega
 have hl := hg.1
 have hturn : σ.μ.N ≤ (σ.μ.turn t.who k.obj k.w (aW k.w 0)).N := by cases aW k.w 0 <;> simp
 have hturn2 : (σ.μ.turn t.who k.obj k.w (aW k.w 0)).N ≤ σ.μ.N + 2 := by cases aW k.w 0 <;> simp
 refine aY (yE _ _) fun R H h => ?_;refine bg h ae rfl rfl fun H1 h1 => ?_;refine ah (s5 ..) ?_;refine ak h1 ae rfl ?_
 have main : ∀ (q : Nat) (H2 : AH), q = (if k.a = 13 then 1 else 0) → ac (xB x P t { k with q := q } * (au P g σ * R)) H2 → wp (gH (vp x) (vi now) H2) fun v' H' => ∃ v : Value, v' = .tuple #[] ∧ ac ((if fZ σ.μ k.obj k.w (aW k.w 0) = true then
  xB x P t { k with q := if k.a = 13 then 1 else 0, a := k.a + 1, code := 0 } * au P { g with pv := v } ((σ.mem (σ.μ.turn t.who k.obj k.w (aW k.w 0))).note now t.who 0)
  else xB x P t { k with q := if k.a = 13 then 1 else 0, a := if k.a = 13 then 20 else 7 } * au P g (σ.mem (σ.μ.turn t.who k.obj k.w (aW k.w 0)))) * R) H' := by
  intro q H2 hq h2;refine ah (s6 ..) ?_;refine af h2 (j1 x P g σ t { k with q := q } hl b ho hb) fun _ H3 h3 => ?_;refine bD ae ?_;refine aN h3 rfl ?_;refine aH h2 h3 (by rfl) ?_;refine bD ae ?_;refine aN h3 rfl ?_;refine aH h2 h3 (by rfl) ?_;refine af h3 (kY (p := P) (μ' := σ.μ.turn t.who k.obj k.w (aW k.w 0)) hturn hl ho hb (wA g.m k.obj b (aC σ k.obj) σ.μ t.who k.w 0 (by omega) hw0 hN)) fun _ H4 h4 => ?_;cases hw : fZ σ.μ k.obj k.w (aW k.w 0)
  ·refine gs ?_
   refine ak h4 ae rfl ?_
   rcases ha with ha | ha
   ·refine aa (bi (show ((k.a : Nat) : Int) = 9 by omega)) ?_
    refine gs ?_;refine bg h4 ae rfl rfl fun H5 h5 => ?_;refine am ⟨.bool true, rfl, ?_⟩;rw [if_neg (by simp)];simp only [hq] at h5;rw [if_neg (by omega)] at h5 ⊢;rw [if_neg (by omega)];exact h5.to
   ·refine aa (aG (show ¬ ((k.a : Nat) : Int) = 9 by omega)) ?_
    refine gs ?_;refine bg h4 ae rfl rfl fun H5 h5 => ?_;refine am ⟨.bool true, rfl, ?_⟩;rw [if_neg (by simp)];simp only [hq] at h5;rw [if_pos ha] at h5 ⊢;rw [if_pos ha];exact h5.to
  ·refine gs ?_
   refine af h4 (j0 x P g (σ.mem (σ.μ.turn t.who k.obj k.w (aW k.w 0))) t { k with q := q } (ay (σ := σ) hg hturn rfl) now 0 (by have := S.N; show (σ.μ.turn t.who k.obj k.w (aW k.w 0)).N < _; omega) S.pts) fun v H5 h5 => ?_;refine ak h5 ae rfl ?_;refine aa (aE (a := ((k.a : Nat) : Int)) (b := 1) (by omega) (by omega)) ?_;rw [show ((k.a : Nat) : Int) + 1 = ((k.a + 1 : Nat) : Int) from by omega];refine bg h5 ae rfl rfl fun H6 h6 => ?_;refine am ⟨v, rfl, ?_⟩;rw [if_pos rfl];simp only [hq] at h6;exact h6.to
 rcases ha with ha | ha
 ·refine aa (aG (by omega)) ?_
  refine gs ?_;exact main 0 H1 (by rw [if_neg (by omega)]) h1.to
 ·refine aa (bi (by omega)) ?_
  refine gs ?_;refine bg h1 ae rfl rfl fun H2 h2 => ?_;exact main 1 H2 (by rw [if_pos ha]) h2.to
theorem asR (S : SOk σ) (T : ir σ t) (hat : t.at' = 9) : Sp fh [vp x, vi now] (xP x P σ t) (fun _ : Unit => vb (aq σ t now).2.2) (fun _ => xQ x P (aq σ t now)) := by
 have hN : σ.μ.N < 1099511627000 := by have := S.N; omega
 refine aK fun R H h => ?_;obtain ⟨k, g, hR, hg, h0⟩ := cT h;have hl := hg.1;simp only [iG, hat] at hR;obtain ⟨ha, hobj, hw0⟩ := hR;have ho := T.obj (.inl (by omega))
 have hob : k.obj < σ.obs.length := by omega
 obtain ⟨b, hb⟩ : ∃ b, g.rp[k.obj]? = some b := ⟨_, cG (by omega)⟩;refine ca x P g σ t k now S T (by omega) h0 fun b1 H1 h1 => ?_;refine ch8 (by omega) ?_;refine aa (aG (by omega)) ?_;refine ah (qI ..) ?_;refine gs ?_;refine aa (bi (by omega)) ?_;refine gs ?_;refine ah (wb ..) ?_;refine gs ?_
 have hturn : σ.μ.N ≤ (σ.μ.turn t.who k.obj k.w (aW k.w 0)).N := by cases aW k.w 0 <;> simp
 refine af h1 (Qw x P σ t now g k S hg (by omega) b hob hb (by rw [hw0]; exact T.w)) fun v H2 h2 => ?_;refine ah (cA ..) ?_;cases hw : fZ σ.μ t.obj t.w (aW t.w 0)
 ·rw [if_neg (by rw [hobj, hw0, hw]; simp)] at h2
  rw [hobj, hw0, ha, if_neg (by omega), if_neg (by omega)] at h2;exact am (dC (g := g) (σ' := σ.mem (σ.μ.turn t.who t.obj t.w (aW t.w 0))) (t' := { t with at' := 7 }) (k := { k with a := 7, obj := t.obj, w := t.w, q := 0 }) (by simp only [aq, hat, hw]; rfl) (by simp [iG]) (ay (σ := σ) hg (by rw [hobj, hw0] at hturn; exact hturn) rfl) h2.to)
 ·rw [if_pos (by rw [hobj, hw0, hw])] at h2
  rw [hobj, hw0, ha, if_neg (by omega)] at h2;exact am (dC (g := { g with pv := v }) (σ' := (σ.mem (σ.μ.turn t.who t.obj t.w (aW t.w 0))).note now t.who 0) (t' := { t with at' := 10, code := 0 }) (k := { k with a := 10, obj := t.obj, w := t.w, q := 0, code := 0 }) (by simp only [aq, hat, hw]; rfl) (by simp [iG]) (dN (σ := σ) hg (by rw [hobj, hw0] at hturn; exact hturn) rfl) h2.to)
theorem ao4 (S : SOk σ) (T : ir σ t) (hat : t.at' = 13) : Sp fh [vp x, vi now] (xP x P σ t) (fun _ : Unit => vb (aq σ t now).2.2) (fun _ => xQ x P (aq σ t now)) := by
 have hN : σ.μ.N < 1099511627000 := by have := S.N; omega
 refine aK fun R H h => ?_;obtain ⟨k, g, hR, hg, h0⟩ := cT h;have hl := hg.1;simp only [iG, hat] at hR;obtain ⟨ha, hobj, hw0⟩ := hR;have ho := T.obj (.inl (by omega))
 have hob : k.obj < σ.obs.length := by omega
 obtain ⟨b, hb⟩ : ∃ b, g.rp[k.obj]? = some b := ⟨_, cG (by omega)⟩;refine ca x P g σ t k now S T (by omega) h0 fun b1 H1 h1 => ?_;refine ch8 (by omega) ?_;refine aa (aG (by omega)) ?_;refine ah (qI ..) ?_;refine gs ?_;refine aa (aG (by omega)) ?_;refine gs ?_;refine aa (bi (by omega)) ?_;refine ah (wb ..) ?_;refine gs ?_
 have hturn : σ.μ.N ≤ (σ.μ.turn t.who k.obj k.w (aW k.w 0)).N := by cases aW k.w 0 <;> simp
 refine af h1 (Qw x P σ t now g k S hg (by omega) b hob hb (by rw [hw0]; exact T.w)) fun v H2 h2 => ?_;refine ah (cA ..) ?_;cases hw : fZ σ.μ t.obj t.w (aW t.w 0)
 ·rw [if_neg (by rw [hobj, hw0, hw]; simp)] at h2
  rw [hobj, hw0, ha, if_pos rfl, if_pos rfl] at h2;exact am (dC (g := g) (σ' := σ.mem (σ.μ.turn t.who t.obj t.w (aW t.w 0))) (t' := { t with at' := 20 }) (k := { k with a := 20, obj := t.obj, w := t.w, q := 1 }) (by simp only [aq, hat, hw]; rfl) (by simp [iG]) (ay (σ := σ) hg (by rw [hobj, hw0] at hturn; exact hturn) rfl) h2.to)
 ·rw [if_pos (by rw [hobj, hw0, hw])] at h2
  rw [hobj, hw0, ha, if_pos rfl] at h2;exact am (dC (g := { g with pv := v }) (σ' := (σ.mem (σ.μ.turn t.who t.obj t.w (aW t.w 0))).note now t.who 0) (t' := { t with at' := 14, code := 0 }) (k := { k with a := 14, obj := t.obj, w := t.w, q := 1, code := 0 }) (by simp only [aq, hat, hw]; rfl) (by simp [iG]) (dN (σ := σ) hg (by rw [hobj, hw0] at hturn; exact hturn) rfl) h2.to)
theorem ao1 (S : SOk σ) (T : ir σ t) (hat : t.at' = 10) : Sp fh [vp x, vi now] (xP x P σ t) (fun _ : Unit => vb (aq σ t now).2.2) (fun _ => xQ x P (aq σ t now)) := by
 have hN : σ.μ.N < 1099511627000 := by have := S.N; omega
 refine aK fun R H h => ?_;obtain ⟨k, g, hR, hg, h0⟩ := cT h;have hl := hg.1;simp only [iG, hat] at hR;obtain ⟨ha, hobj, hw0, hq, hcode⟩ := hR;have ho := T.obj (.inl (by omega))
 have hob : k.obj < σ.obs.length := by omega
 obtain ⟨b, hb⟩ : ∃ b, g.rp[k.obj]? = some b := ⟨_, cG (by omega)⟩;refine ca x P g σ t k now S T (by omega) h0 fun b1 H1 h1 => ?_;refine auF (by omega) ?_;refine aa (bi (by omega)) ?_;refine gs ?_;refine ah (wc ..) ?_;refine gs ?_;refine af h1 (j1 x P g σ t k hl b hob hb) fun _ H2 h2 => ?_;refine bD ae ?_;refine aN h2 rfl ?_;refine aH h1 h2 (by rfl) ?_;refine af h2 (zh x P t k (by rw [hw0]; exact T.w)) fun _ H3 h3 => ?_;refine aH h3 h2 (by rfl) ?_;refine aR h3 ?_;refine dB h1 h3 rfl ?_;refine dB h2 h3 rfl ?_;refine af h3 (J3 (p := P) (μ' := σ.μ.acc t.who 6 (16, (k.obj : Int), ((bn k.w % (aC σ k.obj).length : Nat) : Int))) (by simp) hl hob hb (JZ g.m k.obj b (aC σ k.obj) σ.μ t.who (bn k.w) ⟨t.x.flow, t.x.a, t.x.b⟩ (S.cells _ hob) hN)) fun _ H4 h4 => ?_;refine bg h4 ae rfl rfl fun H5 h5 => ?_;refine ak h5 ae rfl ?_;refine aa (aG (by omega)) ?_;refine gs ?_;refine ah (cA ..) ?_;have e1 := Do σ t;rw [hobj, hw0, ← e1] at h5;exact am (dC (g := g) (σ' := vA σ t) (t' := { t with at' := 11 }) (k := { k with a := 11, obj := t.obj, w := t.w }) (by simp only [aq, hat]) (by simp [iG, hcode]) (ay (σ := σ) hg (by simp) (jC σ t)) h5.to)
theorem ao5 (S : SOk σ) (T : ir σ t) (hat : t.at' = 14) : Sp fh [vp x, vi now] (xP x P σ t) (fun _ : Unit => vb (aq σ t now).2.2) (fun _ => xQ x P (aq σ t now)) := by
 have hN : σ.μ.N < 1099511627000 := by have := S.N; omega
 refine aK fun R H h => ?_;obtain ⟨k, g, hR, hg, h0⟩ := cT h;have hl := hg.1;simp only [iG, hat] at hR;obtain ⟨ha, hobj, hw0, hq, hcode⟩ := hR;have ho := T.obj (.inl (by omega))
 have hob : k.obj < σ.obs.length := by omega
 obtain ⟨b, hb⟩ : ∃ b, g.rp[k.obj]? = some b := ⟨_, cG (by omega)⟩;refine ca x P g σ t k now S T (by omega) h0 fun b1 H1 h1 => ?_;refine auF (by omega) ?_;refine aa (aG (by omega)) ?_;refine gs ?_;refine aa (bi (by omega)) ?_;refine ah (wc ..) ?_;refine gs ?_;refine af h1 (j1 x P g σ t k hl b hob hb) fun _ H2 h2 => ?_;refine bD ae ?_;refine aN h2 rfl ?_;refine aH h1 h2 (by rfl) ?_;refine af h2 (zh x P t k (by rw [hw0]; exact T.w)) fun _ H3 h3 => ?_;refine aH h3 h2 (by rfl) ?_;refine aR h3 ?_;refine dB h1 h3 rfl ?_;refine dB h2 h3 rfl ?_;refine af h3 (J3 (p := P) (μ' := σ.μ.acc t.who 6 (16, (k.obj : Int), ((bn k.w % (aC σ k.obj).length : Nat) : Int))) (by simp) hl hob hb (JZ g.m k.obj b (aC σ k.obj) σ.μ t.who (bn k.w) ⟨t.x.flow, t.x.a, t.x.b⟩ (S.cells _ hob) hN)) fun _ H4 h4 => ?_;refine bg h4 ae rfl rfl fun H5 h5 => ?_;refine ak h5 ae rfl ?_;refine aa (bi (by omega)) ?_;refine gs ?_;refine bg h5 ae rfl rfl fun H6 h6 => ?_;refine ah (cA ..) ?_;have e1 := Do σ t;rw [hobj, hw0, ← e1] at h6;exact am (dC (g := g) (σ' := vA σ t) (t' := { t with at' := 21 }) (k := { k with a := 21, obj := t.obj, w := t.w }) (by simp only [aq, hat]) (by simp [iG, hcode]) (ay (σ := σ) hg (by simp) (jC σ t)) h6.to)
theorem ao2 (S : SOk σ) (T : ir σ t) (hat : t.at' = 11) : Sp fh [vp x, vi now] (xP x P σ t) (fun _ : Unit => vb (aq σ t now).2.2) (fun _ => xQ x P (aq σ t now)) := by
 have hN : σ.μ.N < 1099511627000 := by have := S.N; omega
 refine aK fun R H h => ?_;obtain ⟨k, g, hR, hg, h0⟩ := cT h;have hl := hg.1;simp only [iG, hat] at hR;obtain ⟨ha, hobj, hw0, hcode⟩ := hR;have ho := T.obj (.inl (by omega))
 have hob : k.obj < σ.obs.length := by omega
 obtain ⟨b, hb⟩ : ∃ b, g.rp[k.obj]? = some b := ⟨_, cG (by omega)⟩;refine ca x P g σ t k now S T (by omega) h0 fun b1 H1 h1 => ?_;refine auG (by omega) ?_;refine aa (bi (by omega)) ?_;refine ah (we ..) ?_;refine gs ?_;refine af h1 (j1 x P g σ t k hl b hob hb) fun _ H2 h2 => ?_;refine bD ae ?_;refine aN h2 rfl ?_;refine aH h1 h2 (by rfl) ?_;refine af h2 (zh x P t k (by rw [hw0]; exact T.w)) fun _ H3 h3 => ?_;refine aH h3 h2 (by rfl) ?_;have hwc := eb k.w;refine af h3 (kY (p := P) (μ' := (σ.μ.acc t.who 2 (15, (k.obj : Int), ((bn k.w % (aC σ k.obj).length : Nat) : Int))).put (15, (k.obj : Int), ((bn k.w % (aC σ k.obj).length : Nat) : Int)) (bn k.w + 1)) (by simp) hl hob hb (Hw g.m k.obj b (aC σ k.obj) σ.μ t.who (bn k.w) (by omega) (S.cells _ hob) hN)) fun _ H4 h4 => ?_;rw [hobj, hw0] at h4;exact am (Hq (g := g) (k := k) (σ' := BA σ t) (t' := t) (by simp only [aq, hat]) hcode (ay (σ := σ) hg (by simp) rfl) h4.to)
theorem ao3 (S : SOk σ) (T : ir σ t) (hat : t.at' = 12) : Sp fh [vp x, vi now] (xP x P σ t) (fun _ : Unit => vb (aq σ t now).2.2) (fun _ => xQ x P (aq σ t now)) := by
 have hN : σ.μ.N < 1099511627000 := by have := S.N; omega
 refine aK fun R H h => ?_;obtain ⟨k, g, hR, hg, h0⟩ := cT h;have hl := hg.1;simp only [iG, hat] at hR;obtain ⟨ha, hobj, hw0⟩ := hR;have ho := T.obj (.inl (by omega))
 have hob : k.obj < σ.obs.length := by omega
 obtain ⟨b, hb⟩ : ∃ b, g.rp[k.obj]? = some b := ⟨_, cG (by omega)⟩;refine ca x P g σ t k now S T (by omega) h0 fun b1 H1 h1 => ?_;refine auG (by omega) ?_;refine aa (aG (by omega)) ?_;refine ah (we ..) ?_;refine gs ?_;refine aa (bi (by omega)) ?_;refine ah (GC ..) ?_;refine gs ?_;refine ak h1 ae rfl ?_;refine ak h1 ae rfl ?_;refine af h1 (zj (p := P) (g := g) (σ := σ) (μ' := σ.μ.cnt t.who (3, 0, 0) 4294967296) (L := σ.μ.N) (by simp) (Nf g.ib g.m σ.c.sh σ.nx σ.μ.N σ.μ t.who hN)) fun _ H2 h2 => ?_;refine bg h2 ae rfl rfl fun H3 h3 => ?_;refine ah (cA ..) ?_;exact am (dC (g := g) (σ' := σ.mem (σ.μ.cnt t.who (3, 0, 0) 4294967296)) (t' := { t with at' := 13 }) (k := { k with a := 13 }) (by simp only [aq, hat]) (by simp [iG, hobj, hw0]) (ay (σ := σ) hg (by simp) rfl) h3.to)
theorem ao6 (S : SOk σ) (T : ir σ t) (hat : t.at' = 15) : Sp fh [vp x, vi now] (xP x P σ t) (fun _ : Unit => vb (aq σ t now).2.2) (fun _ => xQ x P (aq σ t now)) := by
 have hN : σ.μ.N < 1099511627000 := by have := S.N; omega
 refine aK fun R H h => ?_;obtain ⟨k, g, hR, hg, h0⟩ := cT h;have hl := hg.1;simp only [iG, hat] at hR;obtain ⟨ha, hobj⟩ := hR;have ho := T.obj (.inl (by omega))
 have hob : k.obj < σ.obs.length := by omega
 obtain ⟨b, hb⟩ : ∃ b, g.rp[k.obj]? = some b := ⟨_, cG (by omega)⟩;refine ca x P g σ t k now S T (by omega) h0 fun b1 H1 h1 => ?_;refine af4 (by omega) ?_;refine aa (bi (by omega)) ?_;refine gs ?_;refine ah (nz ..) ?_;refine gs ?_;refine oV ?_;refine bj (fun r => MC _ _ H1) ?_;refine ah (ua ..) ?_;refine ak h1 ae rfl ?_;refine ah (ub ..) ?_;refine aa (bi (by omega)) ?_;refine gs ?_;refine ak h1 ae rfl ?_;refine ak h1 ae rfl ?_;refine af h1 (qM P g σ t.who S.N) fun _ H2 h2 => ?_;refine bg h2 ae rfl rfl fun H3 h3 => ?_;refine bg h3 ae rfl rfl fun H4 h4 => ?_;refine ak h4 ae rfl ?_;refine aa (Jo 2 (by omega)) ?_
 by_cases hw : σ.μ.V (2, 0, 0) % 2 = 1
 ·refine aa (bi (show ((σ.μ.V (2, 0, 0) % 2 : Nat) : Int) = 1 by omega)) ?_
  refine gs ?_;refine bg h4 ae rfl rfl fun H5 h5 => ?_;refine ah (kG ..) ?_;exact am (dC (g := g) (σ' := eK σ t) (t' := { t with at' := 7, q := σ.μ.V (2, 0, 0) }) (k := { k with a := 7, q := σ.μ.V (2, 0, 0) }) (by simp only [aq, hat]; rw [if_pos hw]) (by simp [iG, hobj]) (ay (σ := σ) hg (by simp) rfl) h5.to)
 ·refine aa (aG (show ¬ ((σ.μ.V (2, 0, 0) % 2 : Nat) : Int) = 1 by omega)) ?_
  refine gs ?_;refine ah (kG ..) ?_;exact am (dC (g := g) (σ' := eK σ t) (t' := { t with at' := 16, q := σ.μ.V (2, 0, 0) }) (k := { k with a := 16, q := σ.μ.V (2, 0, 0) }) (by simp only [aq, hat]; rw [if_neg hw]) (by simp [iG, hobj]) (ay (σ := σ) hg (by simp) rfl) h4.to)
theorem ao7 (S : SOk σ) (T : ir σ t) (hat : t.at' = 16) : Sp fh [vp x, vi now] (xP x P σ t) (fun _ : Unit => vb (aq σ t now).2.2) (fun _ => xQ x P (aq σ t now)) := by
 have hN : σ.μ.N < 1099511627000 := by have := S.N; omega
 refine aK fun R H h => ?_;obtain ⟨k, g, hR, hg, h0⟩ := cT h;have hl := hg.1;simp only [iG, hat] at hR;obtain ⟨ha, hobj, hq⟩ := hR;have ho := T.obj (.inl (by omega))
 have hob : k.obj < σ.obs.length := by omega
 obtain ⟨b, hb⟩ : ∃ b, g.rp[k.obj]? = some b := ⟨_, cG (by omega)⟩;refine ca x P g σ t k now S T (by omega) h0 fun b1 H1 h1 => ?_;refine af4 (by omega) ?_;refine aa (aG (by omega)) ?_;refine gs ?_;refine aa (bi (by omega)) ?_;refine gs ?_;refine ah (nz ..) ?_;refine gs ?_;refine oV ?_;refine bj (fun r => MC _ _ H1) ?_;refine ah (ua ..) ?_;refine ak h1 ae rfl ?_;refine ah (ub ..) ?_;refine aa (aG (by omega)) ?_;refine gs ?_;refine aa (bi (by omega)) ?_;refine gs ?_;refine bg h1 ae rfl rfl fun H2 h2 => ?_;refine af h2 (DF x P g σ t { k with a := 17 } S hl b hob hb) fun _ H3 h3 => ?_;dsimp only at h3;rw [hobj] at h3
 by_cases hw : bC (σ.μ.V (11, (t.obj : Int), 0)) = 2
 ·refine aa (bi (by rw [hobj]; exact hw)) ?_
  refine gs ?_;refine bg h3 ae rfl rfl fun H4 h4 => ?_;refine ah (kG ..) ?_;exact am (dC (g := g) (σ' := dg σ t) (t' := { t with at' := 3, w := σ.μ.V (11, (t.obj : Int), 0) }) (k := { k with a := 3, obj := t.obj, w := σ.μ.V (11, (t.obj : Int), 0) }) (by simp only [aq, hat]; rw [if_pos hw]) (by simp [iG]) (ay (σ := σ) hg (by simp) rfl) h4.to)
 ·refine aa (aG (by rw [hobj]; exact hw)) ?_
  refine gs ?_;refine ah (kG ..) ?_;exact am (dC (g := g) (σ' := dg σ t) (t' := { t with at' := 17, w := σ.μ.V (11, (t.obj : Int), 0) }) (k := { k with a := 17, obj := t.obj, w := σ.μ.V (11, (t.obj : Int), 0) }) (by simp only [aq, hat]; rw [if_neg hw]) (by simp [iG, hq]) (ay (σ := σ) hg (by simp) rfl) h3.to)
theorem ao8 (S : SOk σ) (T : ir σ t) (hat : t.at' = 17) : Sp fh [vp x, vi now] (xP x P σ t) (fun _ : Unit => vb (aq σ t now).2.2) (fun _ => xQ x P (aq σ t now)) := by
 have hN : σ.μ.N < 1099511627000 := by have := S.N; omega
 refine aK fun R H h => ?_;obtain ⟨k, g, hR, hg, h0⟩ := cT h;have hl := hg.1;simp only [iG, hat] at hR;obtain ⟨ha, hobj, hw0, hq⟩ := hR;have ho := T.obj (.inl (by omega))
 have hob : k.obj < σ.obs.length := by omega
 obtain ⟨b, hb⟩ : ∃ b, g.rp[k.obj]? = some b := ⟨_, cG (by omega)⟩;refine ca x P g σ t k now S T (by omega) h0 fun b1 H1 h1 => ?_;refine af4 (by omega) ?_;refine aa (aG (by omega)) ?_;refine gs ?_;refine aa (aG (by omega)) ?_;refine gs ?_;refine aa (bi (by omega)) ?_;refine gs ?_;refine ah (nz ..) ?_;refine gs ?_;refine oV ?_;refine bj (fun r => MC _ _ H1) ?_;refine ah (ua ..) ?_;refine ak h1 ae rfl ?_;refine ah (ub ..) ?_;refine aa (aG (by omega)) ?_;refine gs ?_;refine aa (aG (by omega)) ?_;refine gs ?_;refine aa (bi (by omega)) ?_;refine gs ?_;refine af h1 (j1 x P g σ t k hl b hob hb) fun _ H2 h2 => ?_;refine bD ae ?_;refine aN h2 rfl ?_;refine aH h1 h2 (by rfl) ?_;refine af h2 (kY (p := P) (μ' := σ.μ.acc t.who 1 (12, (k.obj : Int), 0)) (by simp) hl hob hb (Hv g.m k.obj b (aC σ k.obj) σ.μ t.who hN)) fun _ H3 h3 => ?_;refine bg h3 ae rfl rfl fun H4 h4 => ?_;refine bg h4 ae rfl rfl fun H5 h5 => ?_;refine bg h5 ae rfl rfl fun H6 h6 => ?_;refine af h6 (j1 x P g (σ.mem (σ.μ.acc t.who 1 (12, (k.obj : Int), 0))) t { k with h := σ.μ.V (12, (k.obj : Int), 0), mark := now, a := 18 } hl b hob hb) fun _ H7 h7 => ?_;refine bD ae ?_;refine aN h7 rfl ?_;refine aH h6 h7 (by rfl) ?_;refine bD ae ?_;refine aN h7 rfl ?_;refine aH h6 h7 (by rfl) ?_;refine af h7 (Nk (p := P) (σ := σ.mem (σ.μ.acc t.who 1 (12, (k.obj : Int), 0))) hl hob hb (Hu g.m k.obj b (aC σ k.obj) k.w (σ.μ.V (12, (k.obj : Int), 0)) (by rw [hw0]; exact T.w) (S.cells _ hob).2)) fun _ H8 h8 => ?_;rw [hobj, hw0] at h8;rw [hobj, hw0];cases hf : pp t.w (σ.μ.V (12, (t.obj : Int), 0)) (aC σ t.obj).length
 ·refine gs ?_
  rw [Bool.not_false];refine gs ?_;refine bg h8 ae rfl rfl fun H9 h9 => ?_;refine ah (kG ..) ?_;exact am (dC (g := g) (σ' := jA σ t) (t' := { t with at' := 7 }) (k := { k with a := 7, obj := t.obj, w := t.w, h := σ.μ.V (12, (t.obj : Int), 0), mark := now }) (by simp only [aq, hat, nU, hf]; rfl) (by simp [iG]) (ay (σ := σ) hg (by simp) rfl) h9.to)
 ·refine gs ?_
  rw [Bool.not_true];refine gs ?_;refine ah (kG ..) ?_;exact am (dC (g := g) (σ' := jA σ t) (t' := { t with at' := 18, mark := now }) (k := { k with a := 18, obj := t.obj, w := t.w, h := σ.μ.V (12, (t.obj : Int), 0), mark := now }) (by simp only [aq, hat, nU, hf]; rfl) (by simp [iG, hq]) (ay (σ := σ) hg (by simp) rfl) h8.to)
theorem ao9 (S : SOk σ) (T : ir σ t) (hat : t.at' = 18) : Sp fh [vp x, vi now] (xP x P σ t) (fun _ : Unit => vb (aq σ t now).2.2) (fun _ => xQ x P (aq σ t now)) := by
 have hN : σ.μ.N < 1099511627000 := by have := S.N; omega
 refine aK fun R H h => ?_;obtain ⟨k, g, hR, hg, h0⟩ := cT h;have hl := hg.1;simp only [iG, hat] at hR;obtain ⟨ha, hobj, hq, hm⟩ := hR;have ho := T.obj (.inl (by omega))
 have hob : k.obj < σ.obs.length := by omega
 obtain ⟨b, hb⟩ : ∃ b, g.rp[k.obj]? = some b := ⟨_, cG (by omega)⟩;refine ca x P g σ t k now S T (by omega) h0 fun b1 H1 h1 => ?_;refine af4 (by omega) ?_;refine aa (aG (by omega)) ?_;refine gs ?_;refine aa (aG (by omega)) ?_;refine gs ?_;refine aa (aG (by omega)) ?_;refine gs ?_;refine aa (bi (by omega)) ?_;refine ah (nz ..) ?_;refine gs ?_;refine oV ?_;refine bj (fun r => MC _ _ H1) ?_;refine ah (ua ..) ?_;refine ak h1 ae rfl ?_;refine ah (ub ..) ?_;refine aa (aG (by omega)) ?_;refine gs ?_;refine aa (aG (by omega)) ?_;refine gs ?_;refine aa (aG (by omega)) ?_;refine gs ?_;refine aa (bi (by omega)) ?_;refine gs ?_;refine ak h1 ae rfl ?_;refine ak h1 ae rfl ?_;refine af h1 (qM P g σ t.who S.N) fun _ H2 h2 => ?_;refine bD ae ?_;refine aN h2 rfl ?_;refine aH h1 h2 (by rfl) ?_
 by_cases hw : σ.μ.V (2, 0, 0) = t.q
 ·refine aa (bi (show ((σ.μ.V (2, 0, 0) : Nat) : Int) = (k.q : Int) by omega)) ?_
  refine gs ?_;refine ak h2 ae rfl ?_;rw [hm];refine af h2 (j0 x P g (eK σ t) t k (ay (σ := σ) hg (by simp) rfl) t.mark 9 (by have := S.N; show σ.μ.N + 2 < _; omega) S.pts) fun v H3 h3 => ?_;exact am (Hq (g := { g with pv := v }) (k := { k with code := 9 }) (σ' := (eK σ t).note t.mark t.who 9) (t' := { t with code := 9 }) (by simp only [aq, hat]; rw [if_pos hw]) rfl (dN (σ := σ) hg (by simp) rfl) h3.to)
 ·refine aa (aG (show ¬ ((σ.μ.V (2, 0, 0) : Nat) : Int) = (k.q : Int) by omega)) ?_
  refine gs ?_;refine bg h2 ae rfl rfl fun H3 h3 => ?_;refine ah (kG ..) ?_;exact am (dC (g := g) (σ' := eK σ t) (t' := { t with at' := 7 }) (k := { k with a := 7 }) (by simp only [aq, hat]; rw [if_neg hw]) (by simp [iG, hobj]) (ay (σ := σ) hg (by simp) rfl) h3.to)
theorem apA (S : SOk σ) (T : ir σ t) (hat : t.at' = 20) : Sp fh [vp x, vi now] (xP x P σ t) (fun _ : Unit => vb (aq σ t now).2.2) (fun _ => xQ x P (aq σ t now)) := by
 have hN : σ.μ.N < 1099511627000 := by have := S.N; omega
 refine aK fun R H h => ?_;obtain ⟨k, g, hR, hg, h0⟩ := cT h;have hl := hg.1;simp only [iG, hat] at hR;obtain ⟨ha, hobj⟩ := hR;have ho := T.obj (.inl (by omega))
 have hob : k.obj < σ.obs.length := by omega
 obtain ⟨b, hb⟩ : ∃ b, g.rp[k.obj]? = some b := ⟨_, cG (by omega)⟩;refine ca x P g σ t k now S T (by omega) h0 fun b1 H1 h1 => ?_;refine chw (by omega) ?_;refine oV ?_;refine bj (fun r => Aw _ _ H1) ?_;refine ak h1 ae rfl ?_;refine ah (mE ..) ?_;refine ak h1 ae rfl ?_;refine ah (mG ..) ?_;refine aa (bi (by omega)) ?_;refine gs ?_;refine ak h1 ae rfl ?_;refine ak h1 ae rfl ?_;refine af h1 (zj (p := P) (g := g) (σ := σ) (μ' := σ.μ.cnt t.who (3, 0, 0) 1) (L := σ.μ.N) (by simp) (Hr g.ib g.m σ.c.sh σ.nx σ.μ.N σ.μ t.who hN)) fun _ H2 h2 => ?_;refine bg h2 ae rfl rfl fun H3 h3 => ?_;refine ah (mF ..) ?_;exact am (dC (g := g) (σ' := σ.mem (σ.μ.cnt t.who (3, 0, 0) 1)) (t' := { t with at' := 7 }) (k := { k with a := 7 }) (by simp only [aq, hat]) (by simp [iG, hobj]) (ay (σ := σ) hg (by simp) rfl) h3.to)
theorem apB (S : SOk σ) (T : ir σ t) (hat : t.at' = 21) : Sp fh [vp x, vi now] (xP x P σ t) (fun _ : Unit => vb (aq σ t now).2.2) (fun _ => xQ x P (aq σ t now)) := by
 have hN : σ.μ.N < 1099511627000 := by have := S.N; omega
 refine aK fun R H h => ?_;obtain ⟨k, g, hR, hg, h0⟩ := cT h;have hl := hg.1;simp only [iG, hat] at hR;obtain ⟨ha, hobj, hw0, hcode⟩ := hR;have ho := T.obj (.inl (by omega))
 have hob : k.obj < σ.obs.length := by omega
 obtain ⟨b, hb⟩ : ∃ b, g.rp[k.obj]? = some b := ⟨_, cG (by omega)⟩;refine ca x P g σ t k now S T (by omega) h0 fun b1 H1 h1 => ?_;refine chw (by omega) ?_;refine oV ?_;refine bj (fun r => Aw _ _ H1) ?_;refine ak h1 ae rfl ?_;refine ah (mE ..) ?_;refine ak h1 ae rfl ?_;refine ah (mG ..) ?_;refine aa (aG (by omega)) ?_;refine gs ?_;refine aa (bi (by omega)) ?_;refine gs ?_;refine af h1 (j1 x P g σ t k hl b hob hb) fun _ H2 h2 => ?_;refine bD ae ?_;refine aN h2 rfl ?_;refine aH h1 h2 (by rfl) ?_;refine af h2 (zh x P t k (by rw [hw0]; exact T.w)) fun _ H3 h3 => ?_;refine aH h3 h2 (by rfl) ?_;have hwc := eb k.w;refine af h3 (kY (p := P) (μ' := (σ.μ.acc t.who 2 (15, (k.obj : Int), ((bn k.w % (aC σ k.obj).length : Nat) : Int))).put (15, (k.obj : Int), ((bn k.w % (aC σ k.obj).length : Nat) : Int)) (bn k.w + 1)) (by simp) hl hob hb (Hw g.m k.obj b (aC σ k.obj) σ.μ t.who (bn k.w) (by omega) (S.cells _ hob) hN)) fun _ H4 h4 => ?_;refine bg h4 ae rfl rfl fun H5 h5 => ?_;refine ah (mF ..) ?_;rw [hobj, hw0] at h5;exact am (dC (g := g) (σ' := BA σ t) (t' := { t with at' := 22 }) (k := { k with a := 22, obj := t.obj, w := t.w }) (by simp only [aq, hat]) (by simp [iG, hcode]) (ay (σ := σ) hg (by simp) rfl) h5.to)
theorem apC (S : SOk σ) (T : ir σ t) (hat : t.at' = 22) : Sp fh [vp x, vi now] (xP x P σ t) (fun _ : Unit => vb (aq σ t now).2.2) (fun _ => xQ x P (aq σ t now)) := by
 have hN : σ.μ.N < 1099511627000 := by have := S.N; omega
 refine aK fun R H h => ?_;obtain ⟨k, g, hR, hg, h0⟩ := cT h;have hl := hg.1;simp only [iG, hat] at hR;obtain ⟨ha, hobj, hcode⟩ := hR;have ho := T.obj (.inl (by omega))
 have hob : k.obj < σ.obs.length := by omega
 obtain ⟨b, hb⟩ : ∃ b, g.rp[k.obj]? = some b := ⟨_, cG (by omega)⟩;refine ca x P g σ t k now S T (by omega) h0 fun b1 H1 h1 => ?_;refine chw (by omega) ?_;refine oV ?_;refine bj (fun r => Aw _ _ H1) ?_;refine ak h1 ae rfl ?_;refine ah (mE ..) ?_;refine ak h1 ae rfl ?_;refine ah (mG ..) ?_;refine aa (aG (by omega)) ?_;refine gs ?_;refine aa (aG (by omega)) ?_;refine gs ?_;refine aa (bi (by omega)) ?_;refine gs ?_;refine ak h1 ae rfl ?_;refine ak h1 ae rfl ?_;refine af h1 (zj (p := P) (g := g) (σ := σ) (μ' := σ.μ.acc t.who 1 (9, t.s, 0)) (L := σ.μ.N) (by simp) (UE g.ib g.m σ.c.sh σ.nx σ.μ.N σ.μ t.who t.s hN)) fun _ H2 h2 => ?_;refine bg h2 ae rfl rfl fun H3 h3 => ?_;refine bg h3 ae rfl rfl fun H4 h4 => ?_;refine ah (mF ..) ?_;exact am (dC (g := g) (σ' := σ.mem (σ.μ.acc t.who 1 (9, t.s, 0))) (t' := { t with at' := 23, top := σ.μ.V (9, t.s, 0) }) (k := { k with a := 23, top := σ.μ.V (9, t.s, 0) }) (by simp only [aq, hat]) (by simp [iG, hobj, hcode]) (ay (σ := σ) hg (by simp) rfl) h4.to)
theorem apD (S : SOk σ) (T : ir σ t) (hat : t.at' = 23) : Sp fh [vp x, vi now] (xP x P σ t) (fun _ : Unit => vb (aq σ t now).2.2) (fun _ => xQ x P (aq σ t now)) := by
 have hN : σ.μ.N < 1099511627000 := by have := S.N; omega
 refine aK fun R H h => ?_;obtain ⟨k, g, hR, hg, h0⟩ := cT h;have hl := hg.1;simp only [iG, hat] at hR;obtain ⟨ha, hobj, htop, hcode⟩ := hR;have ho := T.obj (.inl (by omega))
 have hob : k.obj < σ.obs.length := by omega
 obtain ⟨b, hb⟩ : ∃ b, g.rp[k.obj]? = some b := ⟨_, cG (by omega)⟩;refine ca x P g σ t k now S T (by omega) h0 fun b1 H1 h1 => ?_;refine chw (by omega) ?_;refine oV ?_;refine bj (fun r => Aw _ _ H1) ?_;refine ak h1 ae rfl ?_;refine ah (mE ..) ?_;refine ak h1 ae rfl ?_;refine ah (mG ..) ?_;refine aa (aG (by omega)) ?_;refine gs ?_;refine aa (aG (by omega)) ?_;refine gs ?_;refine aa (aG (by omega)) ?_;refine gs ?_;refine aa (bi (by omega)) ?_;refine gs ?_;refine ak h1 ae rfl ?_;refine ak h1 ae rfl ?_;refine ak h1 ae rfl ?_;refine ak h1 ae rfl ?_;refine af h1 (zj (p := P) (g := g) (σ := σ) (μ' := σ.μ.acc t.who 6 (14, (k.obj : Int), 0)) (L := σ.μ.N + 1) (by simp) (Qs g.ib g.m σ.c.sh σ.nx σ.μ.N σ.μ t.who k.obj k.top (by have := S.N; omega) hN)) fun _ H2 h2 => ?_;refine bg h2 ae rfl rfl fun H3 h3 => ?_;refine ah (mF ..) ?_;rw [hobj, htop] at h3;exact am (dC (g := g) (σ' := { σ with μ := σ.μ.acc t.who 6 (14, (t.obj : Int), 0), nx := fun k => if k = (t.obj : Int) then some t.top else σ.nx k }) (t' := { t with at' := 24 }) (k := { k with a := 24, obj := t.obj, top := t.top }) (by simp only [aq, hat]) (by simp [iG, hcode]) (ay (σ := σ) hg (by simp) rfl) h3.to)
theorem apE (S : SOk σ) (T : ir σ t) (hat : t.at' = 24) : Sp fh [vp x, vi now] (xP x P σ t) (fun _ : Unit => vb (aq σ t now).2.2) (fun _ => xQ x P (aq σ t now)) := by
 have hN : σ.μ.N < 1099511627000 := by have := S.N; omega
 refine aK fun R H h => ?_;obtain ⟨k, g, hR, hg, h0⟩ := cT h;have hl := hg.1;simp only [iG, hat] at hR;obtain ⟨ha, hobj, htop, hcode⟩ := hR;have ho := T.obj (.inl (by omega))
 have hob : k.obj < σ.obs.length := by omega
 obtain ⟨b, hb⟩ : ∃ b, g.rp[k.obj]? = some b := ⟨_, cG (by omega)⟩;refine ca x P g σ t k now S T (by omega) h0 fun b1 H1 h1 => ?_;refine chw (by omega) ?_;refine oV ?_;refine bj (fun r => Aw _ _ H1) ?_;refine ak h1 ae rfl ?_;refine ah (mE ..) ?_;refine ak h1 ae rfl ?_;refine ah (mG ..) ?_;refine aa (aG (by omega)) ?_;refine gs ?_;refine aa (aG (by omega)) ?_;refine gs ?_;refine aa (aG (by omega)) ?_;refine gs ?_;refine aa (aG (by omega)) ?_;refine gs ?_;refine aa (bi (by omega)) ?_;refine gs ?_;refine bg h1 ae rfl rfl fun H2 h2 => ?_;refine ak h2 ae rfl ?_;refine ak h2 ae rfl ?_;refine ak h2 ae rfl ?_;refine ak h2 ae rfl ?_;refine af h2 (zj (p := P) (g := g) (σ := σ) (μ' := σ.μ.swp t.who (9, t.s, 0) k.top (k.obj + 1)) (L := σ.μ.N) (by simp) (Qt g.ib g.m σ.c.sh σ.nx σ.μ.N σ.μ t.who t.s k.top k.obj (by have := S.obs; omega) hN)) fun _ H3 h3 => ?_;rw [hobj, htop] at h3;rw [htop]
 by_cases hw : σ.μ.V (9, t.s, 0) = t.top
 ·rw [fH hw]
  refine gs ?_;refine bg h3 ae rfl rfl fun H4 h4 => ?_;refine ah (mF ..) ?_;exact am (dC (g := g) (σ' := σ.mem (σ.μ.swp t.who (9, t.s, 0) t.top (t.obj + 1))) (t' := { t with at' := 25 }) (k := { k with a := 25, obj := t.obj, top := t.top }) (by simp only [aq, hat]; rw [if_pos hw]) (by simp [iG, hcode]) (ay (σ := σ) hg (by simp) rfl) h4.to)
 ·rw [e7 hw]
  refine gs ?_;refine ah (mF ..) ?_;exact am (dC (g := g) (σ' := σ.mem (σ.μ.swp t.who (9, t.s, 0) t.top (t.obj + 1))) (t' := { t with at' := 22 }) (k := { k with a := 22, obj := t.obj, top := t.top }) (by simp only [aq, hat]; rw [if_neg hw]) (by simp [iG, hcode]) (ay (σ := σ) hg (by simp) rfl) h3.to)
theorem apF (S : SOk σ) (T : ir σ t) (hat : t.at' = 25) : Sp fh [vp x, vi now] (xP x P σ t) (fun _ : Unit => vb (aq σ t now).2.2) (fun _ => xQ x P (aq σ t now)) := by
 have hN : σ.μ.N < 1099511627000 := by have := S.N; omega
 refine aK fun R H h => ?_;obtain ⟨k, g, hR, hg, h0⟩ := cT h;have hl := hg.1;simp only [iG, hat] at hR;obtain ⟨ha, hcode⟩ := hR;refine ca x P g σ t k now S T (by omega) h0 fun b1 H1 h1 => ?_;refine chw (by omega) ?_;refine oV ?_;refine bj (fun r => Aw _ _ H1) ?_;refine ak h1 ae rfl ?_;refine ah (mE ..) ?_;refine ak h1 ae rfl ?_;refine ah (mG ..) ?_;refine aa (aG (by omega)) ?_;refine gs ?_;refine aa (aG (by omega)) ?_;refine gs ?_;refine aa (aG (by omega)) ?_;refine gs ?_;refine aa (aG (by omega)) ?_;refine gs ?_;refine aa (aG (by omega)) ?_;refine gs ?_;refine aa (bi (by omega)) ?_;refine gs ?_;refine ak h1 ae rfl ?_;refine ak h1 ae rfl ?_;refine af h1 (zj (p := P) (g := g) (σ := σ) (μ' := σ.μ.cnt t.who (3, 0, 0) 1) (L := σ.μ.N) (by simp) (Hr g.ib g.m σ.c.sh σ.nx σ.μ.N σ.μ t.who hN)) fun _ H2 h2 => ?_;exact am (Hq (g := g) (k := k) (σ' := σ.mem (σ.μ.cnt t.who (3, 0, 0) 1)) (t' := t) (by simp only [aq, hat]) hcode (ay (σ := σ) hg (by simp) rfl) h2.to)
theorem ao0 {R : SP} {H1 : AH} {b1 : Nat} {sv : Value} (g : XIds) (k : Xk) (S : SOk σ) (T : ir σ t) (hg : fm g σ) (ha : k.a = 2) (hI : k.I = t.i) (hh : k.hit = false) (hi : (t.i : Int) < σ.c.sl)
 (h1 : ac (blk b1 (.cells false [vi t.x.flow, vi t.x.a, vi t.x.b]) * (xB x P t k * (au P g σ * R))) H1) :
 wp (Tx (vp x) (vi now) (vb false) (vp P) sv (vp b1) (vi k.a) (vb true) H1) fun v' H' => ∃ y : Unit, v' = vb (gJ σ t).2.2 ∧ ac (xQ x P (gJ σ t) * R) H' := by
 refine ah (pR ..) ?_;refine gs ?_;refine af h1 (YG x P g σ t k S T hI hi) fun k2 H2 h2 => ?_;rw [aj, ac.pu] at h2;obtain ⟨hX, h2⟩ := h2;obtain ⟨x1, x2, x3, x4, x5, x6, x7, x8⟩ := hX;refine aa (v := vb (aV σ t).found) rfl ?_;refine aa (v := vb (!(aV σ t).found && cD σ (aV σ t))) rfl ?_;cases hf : (aV σ t).found
 ·obtain ⟨y1, y2⟩ := x8 hf
  refine gs ?_;rw [Bool.not_false, Bool.true_and];cases hla : cD σ (aV σ t)
  ·refine gs ?_
   refine ah (cA ..) ?_;exact am (dC (g := g) (k := k2) (σ' := aZ σ t) (t' := { aV σ t with at' := 2 }) (by simp only [gJ, hf, hla]; rfl) (by simp [iG, x1, ha, y1, y2, hh, hI, aV]) (ay (σ := σ) hg (by simp) rfl) (show ac (xB x P t k2 * (au P g (aZ σ t) * R)) H2 from h2.to))
  ·refine gs ?_
   refine bg h2 ae rfl rfl fun H3 h3 => ?_;refine ah (cA ..) ?_;exact am (dC (g := g) (k := { k2 with a := 3 }) (σ' := aZ σ t) (t' := { aV σ t with at' := 3 }) (by simp only [gJ, hf, hla]; rfl) (by simp [iG]) (ay (σ := σ) hg (by simp) rfl) (show ac (xB x P t { k2 with a := 3 } * (au P g (aZ σ t) * R)) H3 from h3.to))
 ·obtain ⟨y1, y2⟩ := x7 hf
  refine gs ?_;refine bg h2 ae rfl rfl fun H3 h3 => ?_;refine ah (cA ..) ?_;exact am (dC (g := g) (k := { k2 with a := 6 }) (σ' := aZ σ t) (t' := { aV σ t with at' := 6 }) (by simp only [gJ, hf]; rfl) (by simp [iG, y2]) (ay (σ := σ) hg (by simp) rfl) (show ac (xB x P t { k2 with a := 6 } * (au P g (aZ σ t) * R)) H3 from h3.to))
theorem asK (S : SOk σ) (T : ir σ t) (hat : t.at' = 2) : Sp fh [vp x, vi now] (xP x P σ t) (fun _ : Unit => vb (aq σ t now).2.2) (fun _ => xQ x P (aq σ t now)) := by
 have hN : σ.μ.N < 1099511627000 := by have := S.N; omega
 refine aK fun R H h => ?_;obtain ⟨k, g, hR, hg, h0⟩ := cT h;have hl := hg.1;simp only [iG, hat] at hR;obtain ⟨ha, hI, hh⟩ := hR;have hi := T.i (by omega) (by omega)
 have hs : aq σ t now = gJ σ t := by simp only [aq, hat, gJ]
 rw [hs];refine ca x P g σ t k now S T (by omega) h0 fun b1 H1 h1 => ?_;refine ah (mD ..) ?_;refine aa (bi (by omega)) ?_;exact ao0 x P σ t now g k S T hg ha hI hh hi h1
theorem asM (S : SOk σ) (T : ir σ t) (hat : t.at' = 4) : Sp fh [vp x, vi now] (xP x P σ t) (fun _ : Unit => vb (aq σ t now).2.2) (fun _ => xQ x P (aq σ t now)) := by
 have hN : σ.μ.N < 1099511627000 := by have := S.N; omega
 refine aK fun R H h => ?_;obtain ⟨k, g, hR, hg, h0⟩ := cT h;have hl := hg.1;simp only [iG, hat] at hR;obtain ⟨ha, hI, hh⟩ := hR;have hi := T.i (by omega) (by omega);refine ca x P g σ t k now S T (by omega) h0 fun b1 H1 h1 => ?_;refine ah (mD ..) ?_;refine aa (aG (by omega)) ?_;refine ah (pR ..) ?_;refine gs ?_;refine aa (aG (by omega)) ?_;refine ah (qG ..) ?_;refine gs ?_;refine aa (bi (by omega)) ?_;refine ah (v8 ..) ?_;refine gs ?_;refine af h1 (YG x P g σ t k S T hI hi) fun k2 H2 h2 => ?_;rw [aj, ac.pu] at h2;obtain ⟨hX, h2⟩ := h2;obtain ⟨x1, x2, x3, x4, x5, x6, x7, x8⟩ := hX;refine aa (v := vb (aV σ t).found) rfl ?_;refine aa (v := vb (!(aV σ t).found && cD σ (aV σ t))) rfl ?_;cases hf : (aV σ t).found
 ·obtain ⟨y1, y2⟩ := x8 hf
  refine gs ?_;rw [Bool.not_false, Bool.true_and];cases hla : cD σ (aV σ t)
  ·refine gs ?_
   refine ah (cA ..) ?_;exact am (dC (g := g) (k := k2) (σ' := aZ σ t) (t' := aV σ t) (by simp only [aq, hat, hf, hla]; rfl) (by simp [iG, x1, ha, y1, y2, hh, hI, aV, hat]) (ay (σ := σ) hg (by simp) rfl) (show ac (xB x P t k2 * (au P g (aZ σ t) * R)) H2 from h2.to))
  ·refine gs ?_
   refine af h2 (j0 x P g (aZ σ t) t k2 (ay (σ := σ) hg (by simp) rfl) now 5 (by have := S.N; show σ.μ.N + 2 < _; omega) S.pts) fun v H3 h3 => ?_;refine bg h3 ae rfl rfl fun H4 h4 => ?_;refine ah (cA ..) ?_;exact am (dC (g := { g with pv := v }) (k := { k2 with a := 5, code := 5 }) (σ' := (aZ σ t).note now t.who 5) (t' := { aV σ t with at' := 5, code := 5 }) (by simp only [aq, hat, hf, hla]; rfl) (by simp [iG, hf, y1, hh]) (dN (σ := σ) hg (by simp) rfl) (show ac (xB x P t { k2 with a := 5, code := 5 } * (au P { g with pv := v } ((aZ σ t).note now t.who 5) * R)) H4 from h4.to))
 ·obtain ⟨y1, y2⟩ := x7 hf
  refine gs ?_;refine bg h2 ae rfl rfl fun H3 h3 => ?_;refine ah (cA ..) ?_;exact am (dC (g := g) (k := { k2 with a := 5 }) (σ' := aZ σ t) (t' := { aV σ t with at' := 5 }) (by simp only [aq, hat, hf]; rfl) (by simp [iG, hf, y1, y2]) (ay (σ := σ) hg (by simp) rfl) (show ac (xB x P t { k2 with a := 5 } * (au P g (aZ σ t) * R)) H3 from h3.to))
theorem asJ (S : SOk σ) (T : ir σ t) (hat : t.at' = 0) : Sp fh [vp x, vi now] (xP x P σ t) (fun _ : Unit => vb (aq σ t now).2.2) (fun _ => xQ x P (aq σ t now)) := by
 have hN : σ.μ.N < 1099511627000 := by have := S.N; omega
 refine aK fun R H h => ?_;obtain ⟨k, g, hR, hg, h0⟩ := cT h;have hl := hg.1;simp only [iG, hat] at hR;obtain ⟨ha, hI, hh⟩ := hR;have hi := T.i (by omega) (by omega);refine Qr x P g σ t k now S T h0 fun b1 H1 h1 => ?_;refine ah (Jj ..) ?_;refine ak h1 ae rfl ?_;refine aa (bi (by omega)) ?_;refine gs ?_
 have fin : ∀ code, fE t.x = some code → wp ((FF bJ [vp x, vi now, vi code] H1).bind fun r125 => some ((vb true), r125.2)) fun v' H' => ∃ y : Unit, v' = vb (aq σ t now).2.2 ∧ ac (xQ x P (aq σ t now) * R) H' := by
  intro code hx;refine af h1 (j0 x P g σ t k hg now code (by have := S.N; omega) S.pts) fun v H2 h2 => ?_;exact am (Hq (g := { g with pv := v }) (k := { k with code := code }) (σ' := σ.note now t.who code) (t' := { t with code := code }) (by simp only [aq, hat, hx]) rfl (dN (σ := σ) hg (bA _) rfl) h2.to)
 refine ak h1 (cj (aP (aP be))) rfl ?_
 by_cases ha1 : t.x.a < 1
 ·refine aa (bS ha1) ?_
  refine gs ?_;exact fin 3 (by rw [fE, if_pos (.inl ha1)])
 ·refine aa (bE ha1) ?_
  refine gs ?_;refine ak h1 (cj (aP (aP be))) rfl ?_;refine gs ?_
  by_cases ha2 : 65536 < t.x.a
  ·refine aa (j5 ha2) ?_
   refine gs ?_;exact fin 3 (by rw [fE, if_pos (.inr ha2)])
  ·refine aa (fJ ha2) ?_
   refine gs ?_;refine ak h1 (cj (aP (aP be))) rfl ?_
   by_cases hf : t.x.flow < 0
   ·refine aa (bS hf) ?_
    refine gs ?_;exact fin 5 (by rw [fE, if_neg (by omega), if_pos (.inl hf)])
   ·refine aa (bE hf) ?_
    refine gs ?_;refine ak h1 (cj (aP (aP be))) rfl ?_;refine gs ?_
    by_cases hf2 : 1048576 < t.x.flow
    ·refine aa (j5 hf2) ?_
     refine gs ?_;exact fin 5 (by rw [fE, if_neg (by omega), if_pos (.inr hf2)])
    ·refine aa (fJ hf2) ?_
     refine gs ?_
     have hx : fE t.x = none := by rw [fE, if_neg (by omega), if_neg (by omega)]
     have hs : aq σ t now = gJ σ t := by simp only [aq, hat, hx, gJ]
     rw [hs];refine bg h1 ae rfl rfl fun H2 h2 => ?_;refine ah (Jk ..) ?_;refine ak h2 ae rfl ?_;refine ah (mD ..) ?_;refine aa (bi (by omega)) ?_;exact ao0 x P σ t now g { k with a := 2 } S T hg rfl hI hh hi h2.to
theorem aeY (S : SOk σ) (T : ir σ t) : Sp fh [vp x, vi now] (xP x P σ t) (fun _ : Unit => vb (aq σ t now).2.2) (fun _ => xQ x P (aq σ t now)) := by
 rcases T.ats with hat | hat | hat | hat | hat | hat | hat | hat | hat | hat | hat | hat | hat | hat | hat | hat | hat | hat | hat | hat | hat | hat | hat | hat
 ·exact asJ x P σ t now S T hat
 ·exact asK x P σ t now S T hat
 ·exact asL x P σ t now S T hat
 ·exact asM x P σ t now S T hat
 ·exact asN x P σ t now S T hat
 ·exact asO x P σ t now S T hat
 ·exact asP x P σ t now S T hat
 ·exact asQ x P σ t now S T hat
 ·exact asR x P σ t now S T hat
 ·exact ao1 x P σ t now S T hat
 ·exact ao2 x P σ t now S T hat
 ·exact ao3 x P σ t now S T hat
 ·exact ao4 x P σ t now S T hat
 ·exact ao5 x P σ t now S T hat
 ·exact ao6 x P σ t now S T hat
 ·exact ao7 x P σ t now S T hat
 ·exact ao8 x P σ t now S T hat
 ·exact ao9 x P σ t now S T hat
 ·exact apA x P σ t now S T hat
 ·exact apB x P σ t now S T hat
 ·exact apC x P σ t now S T hat
 ·exact apD x P σ t now S T hat
 ·exact apE x P σ t now S T hat
 ·exact apF x P σ t now S T hat
end
def Rlr (t : Tk) (k : Xk) : Prop := k.a = t.at' ∧ (t.at' < 4 → k.I = t.i ∧ k.free = t.mark) ∧ (t.x.op = 1 → (t.at' = 4 ∨ t.at' = 5 → k.free = t.mark) ∧ (t.at' = 5 → k.obj = t.obj) ∧ (t.at' = 6 → k.code = t.code)) ∧
 (t.x.op ≠ 1 → (4 ≤ t.at' → t.at' < 10 → k.I = t.i ∧ k.obj = t.obj) ∧ (t.at' = 6 ∨ t.at' = 7 → k.q = t.q) ∧ (t.at' = 7 → k.mark = t.mark) ∧ (t.at' = 8 → k.w = t.w) ∧ (t.at' = 9 ∨ t.at' = 10 → k.code = t.code))
theorem DH {t : Tk} {k : Xk} (h0 : k.a = t.at') (ha : t.at' < 4) (h : k.I = t.i ∧ k.free = t.mark) : Rlr t k :=
 ⟨h0, fun _ => h, fun _ => ⟨fun h => by omega, fun h => by omega, fun h => by omega⟩, fun _ => ⟨fun h _ => by omega, fun h => by omega, fun h => by omega, fun h => by omega, fun h => by omega⟩⟩
theorem Nj {t : Tk} {k : Xk} (h0 : k.a = t.at') (ho : t.x.op = 1) (ha : 4 ≤ t.at') (h4 : t.at' = 4 ∨ t.at' = 5 → k.free = t.mark) (h5 : t.at' = 5 → k.obj = t.obj) (h6 : t.at' = 6 → k.code = t.code) : Rlr t k :=
 ⟨h0, fun h => by omega, fun _ => ⟨h4, h5, h6⟩, fun h => absurd ho h⟩
theorem uB {t : Tk} {k : Xk} (h0 : k.a = t.at') (ho : t.x.op ≠ 1) (ha : 4 ≤ t.at') (h1 : k.I = t.i) (h2 : k.obj = t.obj) (hq : t.at' = 6 ∨ t.at' = 7 → k.q = t.q) (hm : t.at' = 7 → k.mark = t.mark) (hw : t.at' = 8 → k.w = t.w) (hc : t.at' = 9 ∨ t.at' = 10 → k.code = t.code) : Rlr t k :=
 ⟨h0, fun h => by omega, fun h => absurd h ho, fun _ => ⟨fun _ _ => ⟨h1, h2⟩, hq, hm, hw, hc⟩⟩
theorem afB {t : Tk} {k : Xk} (h0 : k.a = t.at') (ho : t.x.op ≠ 1) (ha : t.at' = 10) (h : k.code = t.code) : Rlr t k :=
 ⟨h0, fun h => by omega, fun h => absurd h ho, fun _ => ⟨fun _ _ => by omega, fun h => by omega, fun h => by omega, fun h => by omega, fun _ => h⟩⟩
def yT (x P : Nat) (t : Tk) : SP := ex fun k : Xk => pu (Rlr t k) * xB x P t k
def yU (x P : Nat) (r : bd × Tk × Bool) : SP := ex fun k : Xk => pu (if r.2.2 = true then k.code = r.2.1.code else Rlr r.2.1 k) * xB x P r.2.1 k
section
variable {x P : Nat} {g : XIds} {σ σ' : bd} {t t' : Tk} {R : SP} {H : AH} {r : bd × Tk × Bool} {k : Xk}
theorem j2 (h : ac (yT x P t * aJ P σ * R) H) : ∃ (k : Xk) (g : XIds), Rlr t k ∧ fm g σ ∧ ac (xB x P t k * (au P g σ * R)) H := by
 unfold yT at h;rw [aj] at h;obtain ⟨k, h1⟩ := ac.ex.1 h;rw [aj, ac.pu] at h1;obtain ⟨g, h2, h3⟩ := dz (p := P) (σ := σ) (R := xB x P t k * R) (H := H) h1.2.to;exact ⟨k, g, h1.1, h2, h3.to⟩
theorem ix (hr : r = (σ', t', false)) (hR : Rlr t' k) (hg : fm g σ') (h : ac (xB x P t' k * (au P g σ' * R)) H) : ∃ y : Unit, (vb false : Value) = vb r.2.2 ∧ ac (yU x P r * aJ P r.1 * R) H := by
 subst hr;refine ⟨(), rfl, ?_⟩;have h1 := cH (p := P) (σ := σ') (R := xB x P t' k * R) g hg h.to;unfold yU;rw [aj];refine ac.ex.2 ⟨k, ?_⟩;rw [aj, ac.pu];exact ⟨hR, h1.to⟩
theorem UI (hr : r = (σ', t', true)) (hc : k.code = t'.code) (hg : fm g σ') (h : ac (xB x P t' k * (au P g σ' * R)) H) : ∃ y : Unit, (vb true : Value) = vb r.2.2 ∧ ac (yU x P r * aJ P r.1 * R) H := by
 subst hr;refine ⟨(), rfl, ?_⟩;have h1 := cH (p := P) (σ := σ') (R := xB x P t' k * R) g hg h.to;unfold yU;rw [aj];refine ac.ex.2 ⟨k, ?_⟩;rw [aj, ac.pu];exact ⟨hc, h1.to⟩
end
section
variable (x P : Nat) (g : XIds) (σ : bd) (t : Tk) (k : Xk)
def u4 : Xk := { k with I := (aD σ t).i, free := (aD σ t).mark, hit := (k.hit || (aD σ t).found), obj := if (aD σ t).found = true then (aD σ t).obj else k.obj }
theorem Qx (S : SOk σ) (T : mL σ t) (hI : k.I = t.i) (hfr : k.free = t.mark) (hi : (t.i : Int) < σ.c.sl) :
 Sp Gc [vp x] (xB x P t k * au P g σ) (fun _ : Unit => .tuple #[vb (aD σ t).found, vb (!(aD σ t).found && decide (σ.c.sl ≤ ((t.i + 1 : Nat) : Int)))]) (fun _ => xB x P t (u4 σ t k) * au P g (aZ σ t)) := by
 have hN : σ.μ.N < 1099511627000 := by have := S.N; omega
 have hc := bQ.1 S.c;refine aY (amX _) fun R H h => ?_;refine bD ae ?_;refine aN h rfl ?_;refine bD ae ?_;refine aN h rfl ?_;refine bD ae ?_;refine aN h rfl ?_;refine ak h ae rfl ?_;refine ak h ae rfl ?_;refine ak h (cj (aP (aP be))) rfl ?_;refine af h (CT (p := P) (g := g) (σ := σ) (mp g.tb g.m σ.c.sh.toNat σ.c.sl.toNat (by omega) t.x.flow)) fun _ H1 h1 => ?_;refine aH h1 h (by rfl) ?_;refine aH h1 h (by rfl) ?_;refine aH h1 h (by rfl) ?_
 have es : vi ((t.x.flow.tmod (σ.c.sh.toNat : Int) + (σ.c.sh.toNat : Int)).tmod (σ.c.sh.toNat : Int)) = vi t.s := by rw [T.s, show ((σ.c.sh.toNat : Nat) : Int) = σ.c.sh from by omega]
 rw [es];refine bD ae ?_;refine aN h1 rfl ?_;refine aH h h1 (by rfl) ?_;rw [hI];refine af h1 (pT (p := P) (g := g) (σ := σ) (μ' := σ.μ.acc t.who 1 (10, t.s, (t.i : Int))) (by simp) (Je g.tb g.m σ.c.sh.toNat σ.c.sl.toNat σ.μ t.who t.s t.i hN (S.V _))) fun _ H2 h2 => ?_;obtain ⟨v, hv⟩ : ∃ v, v = σ.μ.V (10, t.s, (t.i : Int)) := ⟨_, rfl⟩;rw [← hv]
 have ifo : ∀ b, (aD σ t).found = b → (aD σ t).i = if b = true then t.i else t.i + 1 := by
  intro b hb;show (if (aD σ t).found = true then t.i else t.i + 1) = _;rw [hb]
 have tail : ∀ (k' : Xk) (H' : AH), k'.I = t.i → { k' with I := t.i + 1 } = u4 σ t k → (aD σ t).found = false → ac (xB x P t k' * (au P g (aZ σ t) * R)) H' →
  wp (GD (vp x) (vb false) (vb false) H') fun v' H' => ∃ _ : Unit, v' = .tuple #[vb (aD σ t).found, vb (!(aD σ t).found && decide (σ.c.sl ≤ ((t.i + 1 : Nat) : Int)))] ∧ ac (xB x P t (u4 σ t k) * au P g (aZ σ t) * R) H' := by
  intro k' H' hI' hX hf h';refine ah (Jl ..) ?_;refine ak h' ae rfl ?_;rw [hI'];refine aa (aE (by omega) (by omega)) ?_;rw [show ((t.i : Nat) : Int) + 1 = ((t.i + 1 : Nat) : Int) from by omega];refine bg h' ae rfl rfl fun H3 h3 => ?_;refine ak h3 ae rfl ?_;refine ak h3 ae rfl ?_;refine ak h3 ae rfl ?_;have h4 := h3;unfold au tab at h4;refine ak h4 ae rfl ?_;refine aa (v := vb (decide (σ.c.sl ≤ ((t.i + 1 : Nat) : Int)))) ?_ ?_
  ·show ai _ .geq (vi ((t.i + 1 : Nat) : Int)) _ = _
   rw [tB]
   congr 3
   show ((σ.c.sl.toNat : Int) ≤ _) = (σ.c.sl ≤ ((t.i + 1 : Nat) : Int));apply propext;omega
  refine am ⟨(), by rw [hf]; rfl, ?_⟩;rw [← hX, aj];exact h3.to
 by_cases hv0 : v = 0
 ·have e1 : iw v = .tuple #[vi 0, vi 0, vb false] := by rw [iw, if_pos hv0]
  have hf : (aD σ t).found = false := e7 fun q => q.1 (hv.symm.trans hv0);have hii := ifo _ hf;rw [e1];refine aa (v := vi 0) rfl ?_;refine aa (v := vi 0) rfl ?_;refine aa (v := vb false) rfl ?_;refine gs ?_;refine ah (uc ..) ?_;refine gs ?_;rw [Bool.not_false];refine gs ?_;refine ak h2 ae rfl ?_
  by_cases hm : k.free < 0
  ·refine iq ?_
   refine aa (bS hm) ?_;refine gs ?_
   have em : (aD σ t).mark = t.i := by
    show (if σ.μ.V (10, t.s, (t.i : Int)) = 0 ∧ t.mark < 0 then (t.i : Int) else t.mark) = _;rw [if_pos ⟨hv.symm.trans hv0, by rw [← hfr]; exact hm⟩]
   refine ak h2 ae rfl ?_;rw [hI];refine bg h2 ae rfl rfl fun H3 h3 => ?_;exact tail { k with free := t.i } H3 hI (by unfold u4; rw [hii, em, hf]; simp) hf h3.to
  ·refine iq ?_
   refine aa (bE hm) ?_;refine gs ?_
   have em : (aD σ t).mark = k.free := by
    show (if σ.μ.V (10, t.s, (t.i : Int)) = 0 ∧ t.mark < 0 then (t.i : Int) else t.mark) = _;rw [if_neg (fun h => hm (by rw [hfr]; exact h.2)), hfr]
   exact tail k H2 hI (by unfold u4; rw [hii, em, hf]; simp) hf h2.to
 ·have e1 : iw v = .tuple #[vi ((v / 4294967296 : Nat) - 1), vi (v % 4294967296 : Nat), vb true] := by rw [iw, if_neg hv0]
  have em : (aD σ t).mark = k.free := by
   show (if σ.μ.V (10, t.s, (t.i : Int)) = 0 ∧ t.mark < 0 then (t.i : Int) else t.mark) = _;rw [if_neg (fun h => hv0 (hv.trans h.1)), hfr]
  rw [e1];refine aa (v := vi ((v / 4294967296 : Nat) - 1)) rfl ?_;refine aa (v := vi (v % 4294967296 : Nat)) rfl ?_;refine aa (v := vb true) rfl ?_;refine gs ?_;refine ak h2 (cj (aP (aP be))) rfl ?_;refine iq ?_
  by_cases hf : ((v / 4294967296 : Nat) : Int) - 1 = t.x.flow
  ·have hfo : (aD σ t).found = true := fH ⟨fun h => hv0 (hv.trans h), by rw [← hv]; exact hf⟩
   have hob : (aD σ t).obj = v % 4294967296 := by
    show (if (aD σ t).found = true then σ.μ.V (10, t.s, (t.i : Int)) % 4294967296 else t.obj) = _;rw [if_pos hfo, ← hv]
   have hii := ifo _ hfo;refine aa (bi hf) ?_;refine gs ?_;refine bg h2 ae rfl rfl fun H3 h3 => ?_;refine bg h3 ae rfl rfl fun H4 h4 => ?_;refine am ⟨(), by rw [hfo]; rfl, ?_⟩
   have eX : u4 σ t k = { k with hit := true, obj := v % 4294967296 } := by
    unfold u4;rw [hii, em, hfo, hob];simp [← hI]
   rw [eX, aj];exact h4.to
  ·have hfo : (aD σ t).found = false := e7 fun q => hf (by rw [hv]; exact q.2)
   have hii := ifo _ hfo;refine aa (aG hf) ?_;refine gs ?_;refine ah (uc ..) ?_;refine gs ?_;rw [Bool.not_true];refine gs ?_;exact tail k H2 hI (by unfold u4; rw [hii, em, hfo]; simp) hfo h2.to
variable (now : Int)
theorem JY {R : SP} {H : AH} (S : SOk σ) (hR : k.I = t.i ∧ k.free = t.mark) (ha : k.a = 2) (hg : fm g σ) (h : ac (xB x P t k * (au P g σ * R)) H) :
 wp (gq (vp x) (vi now) (vb false) (vp P) (vi t.s) H) fun v' H' => ∃ y : Unit, v' = vb (fK σ t).2.2 ∧ ac (yU x P (fK σ t) * aJ P (fK σ t).1 * R) H' := by
 have hN : σ.μ.N < 1099511627000 := by have := S.N; omega
 refine ah (jd ..) ?_;refine ak h ae rfl ?_;refine aa (bi (by omega)) ?_;refine ah (je ..) ?_;refine gs ?_;refine ak h ae rfl ?_;refine ak h ae rfl ?_;refine af h (pT (p := P) (g := g) (σ := σ) (μ' := σ.μ.swp t.who (8, t.s, 0) 0 1) (by simp) (Px g.tb g.m σ.c.sh.toNat σ.c.sl.toNat σ.μ t.who t.s hN)) fun _ H2 h2 => ?_
 by_cases hw : σ.μ.V (8, t.s, 0) = 0
 ·rw [fH hw]
  refine gs ?_;refine bg h2 ae rfl rfl fun H3 h3 => ?_;refine ah (ny ..) ?_;exact am (ix (g := g) (k := { k with a := 3 }) (σ' := lQ σ t) (t' := { t with at' := 3 }) (by unfold fK; rw [if_pos hw]) (DH rfl (by simp) hR) (ay (σ := σ) hg (by simp) rfl) (show ac (xB x P t { k with a := 3 } * (au P g (lQ σ t) * R)) H3 from h3.to))
 ·rw [e7 hw]
  refine gs ?_;refine ah (ny ..) ?_;exact am (ix (g := g) (k := k) (σ' := lQ σ t) (t' := { t with at' := 2 }) (by unfold fK; rw [if_neg hw]) (DH ha (by simp) hR) (ay (σ := σ) hg (by simp) rfl) (show ac (xB x P t k * (au P g (lQ σ t) * R)) H2 from h2.to))
theorem Qv {R : SP} {H : AH} {Q : Value → AH → Prop} (S : SOk σ) (T : mL σ t) (h : ac (xB x P t k * (au P g σ * R)) H)
 (hk : ∀ H', ac (xB x P t k * (au P g σ * R)) H' → wp (lM (vp x) (vi now) (vb false) (vp P) (vi t.s) H') Q) :
 wp (FF bm [vp x, vi now] H) Q := by
 have hc := bQ.1 S.c;refine bj (fun r => CD _ _ H) ?_;refine bD ae ?_;refine aN h rfl ?_;refine ak h ae rfl ?_;refine ak h ae rfl ?_;refine ak h (cj (aP (aP be))) rfl ?_;refine af h (CT (p := P) (g := g) (σ := σ) (mp g.tb g.m σ.c.sh.toNat σ.c.sl.toNat (by omega) t.x.flow)) fun _ H1 h1 => ?_;refine aH h1 h (by rfl) ?_
 have es : vi ((t.x.flow.tmod (σ.c.sh.toNat : Int) + (σ.c.sh.toNat : Int)).tmod (σ.c.sh.toNat : Int)) = vi t.s := by rw [T.s, show ((σ.c.sh.toNat : Nat) : Int) = σ.c.sh from by omega]
 rw [es];exact hk H1 h1.to
theorem AO {R : SP} {H : AH} {Q : Value → AH → Prop} (S : SOk σ) (T : mL σ t) (ha : k.a ≠ 0) (h : ac (xB x P t k * (au P g σ * R)) H)
 (hk : ∀ H', ac (xB x P t k * (au P g σ * R)) H' → wp (gq (vp x) (vi now) (vb false) (vp P) (vi t.s) H') Q) :
 wp (FF bm [vp x, vi now] H) Q := by
 refine Qv x P g σ t k now S T h fun H1 h1 => ?_;refine ah (nu ..) ?_;refine ak h1 ae rfl ?_;refine aa (aG (by omega)) ?_;refine ah (lW ..) ?_;refine gs ?_;exact hk H1 h1
theorem YD {fn : Nat} {args : List Value} {H : AH} {Q : Value → AH → Prop} (h : wp (FF fn args H) Q) : wp ((FF fn args H).bind fun r => some (r.1, r.2)) Q := by
 obtain ⟨v, H', e, q⟩ := h;exact ⟨v, H', by rw [e]; rfl, q⟩
theorem Ng {R : SP} {H : AH} {Q : Value → AH → Prop} (S : SOk σ) (T : mL σ t) (ho : t.x.op = 1) (ha : 3 ≤ k.a) (h : ac (xB x P t k * (au P g σ * R)) H)
 (hk : ∀ H', ac (xB x P t k * (au P g σ * R)) H' → wp (gT (vp x) (vi now) (vi t.s) (vb false) (vp P) (vi (k.a : Int)) H') Q) :
 wp (FF bm [vp x, vi now] H) Q := by
 refine AO x P g σ t k now S T (by omega) h fun H1 h1 => ?_;refine ah (jd ..) ?_;refine ak h1 ae rfl ?_;refine aa (aG (by omega)) ?_;refine ah (je ..) ?_;refine gs ?_;refine ak h1 (cj (aP (aP be))) rfl ?_;refine aa (bi ho) ?_;refine gs ?_;refine YD ?_;refine bj (fun r => s7 _ _ _ H1) ?_;refine ak h1 ae rfl ?_;refine ah (pO ..) ?_;refine ak h1 ae rfl ?_;exact hk H1 h1
theorem tr {R : SP} {H : AH} {Q : Value → AH → Prop} (S : SOk σ) (T : mL σ t) (ho : t.x.op ≠ 1) (ha : 3 ≤ k.a) (h : ac (xB x P t k * (au P g σ * R)) H)
 (hk : ∀ H', ac (xB x P t k * (au P g σ * R)) H' → wp (kF (vp x) (vi now) (vi t.s) (vb false) (vp P) (vi (k.a : Int)) H') Q) :
 wp (FF bm [vp x, vi now] H) Q := by
 refine AO x P g σ t k now S T (by omega) h fun H1 h1 => ?_;refine ah (jd ..) ?_;refine ak h1 ae rfl ?_;refine aa (aG (by omega)) ?_;refine ah (je ..) ?_;refine gs ?_;refine ak h1 (cj (aP (aP be))) rfl ?_;refine aa (aG ho) ?_;refine gs ?_;refine ah (vZ ..) ?_;refine YD ?_;refine bj (fun r => Au _ _ _ H1) ?_;refine ak h1 ae rfl ?_;refine ah (uu ..) ?_;refine ak h1 ae rfl ?_;exact hk H1 h1
end
section
variable (x P : Nat) (σ : bd) (t : Tk) (now : Int)
theorem awG (S : SOk σ) (T : mL σ t) (ho : t.x.op = 1) (hat : t.at' = 3) : Sp bm [vp x, vi now] (yT x P t * aJ P σ) (fun _ : Unit => vb (aA σ t now).2.2) (fun _ => yU x P (aA σ t now) * aJ P (aA σ t now).1) := by
 have hN : σ.μ.N < 1099511627000 := by have := S.N; omega
 refine aK fun R H h => ?_;obtain ⟨k, g, hR, hg, h0⟩ := j2 h;have hl := hg.1;have ha := hR.1;obtain ⟨hI, hfr⟩ := hR.2.1 (by omega);have hi := T.i (by omega);refine Ng x P g σ t k now S T ho (by omega) h0 fun H1 h1 => ?_;refine ah (dG ..) ?_;refine aa (bi (by omega)) ?_;refine ah (dH ..) ?_;refine gs ?_;refine af h1 (Qx x P g σ t k S T hI hfr hi) fun _ H2 h2 => ?_;obtain ⟨k2, hk2⟩ : ∃ k2 : Xk, k2 = u4 σ t k := ⟨_, rfl⟩;rw [← hk2] at h2;refine aa (v := vb (aD σ t).found) rfl ?_;refine aa (v := vb (!(aD σ t).found && decide (σ.c.sl ≤ ((t.i + 1 : Nat) : Int)))) rfl ?_;refine ah (pP ..) ?_
 cases hfd : (aD σ t).found with
 | true =>
  refine gs ?_;refine af h2 (j0 x P g (aZ σ t) t (k2) (ay (σ := σ) hg (by simp) rfl) now 6 (by have := S.N; show σ.μ.N + 2 < _; omega) S.pts) fun v H3 h3 => ?_;refine bg h3 ae rfl rfl fun H4 h4 => ?_;refine ah (cz ..) ?_;exact am (ix (g := { g with pv := v }) (k := { k2 with a := 6, code := 6 }) (σ' := (aZ σ t).note now t.who 6) (t' := { aD σ t with at' := 6, code := 6 }) (by simp only [aA, hat]; rw [if_pos hfd, if_pos ho]) (Nj rfl ho (by simp) (by simp) (by simp) (by simp)) (dN (σ := σ) hg (by simp) rfl) (show ac (xB x P t ({ k2 with a := 6, code := 6 }) * (au P ({ g with pv := v }) ((aZ σ t).note now t.who 6) * R)) _ from h4.to))
 | false =>
  rw [Bool.not_false, Bool.true_and]
  have hli : (aD σ t).i = t.i + 1 := by
   show (if (aD σ t).found = true then t.i else t.i + 1) = _;rw [if_neg (by rw [hfd]; simp)]
  have hla : cD σ (aD σ t) = decide (σ.c.sl ≤ ((t.i + 1 : Nat) : Int)) := by unfold cD; rw [hli]
  have nf : ¬ (aD σ t).found = true := by rw [hfd]; simp
  by_cases hL : σ.c.sl ≤ ((t.i + 1 : Nat) : Int)
  ·have hla' : cD σ (aD σ t) = true := hla.trans (fH hL)
   rw [fH hL];refine gs ?_;refine ak h2 ae (show _ = some (vi (aD σ t).mark) from by rw [hk2]; rfl) ?_;refine gs ?_
   by_cases hm : (aD σ t).mark < 0
   ·refine aa (bS hm) ?_
    refine gs ?_;refine af h2 (j0 x P g (aZ σ t) t (k2) (ay (σ := σ) hg (by simp) rfl) now 7 (by have := S.N; show σ.μ.N + 2 < _; omega) S.pts) fun v H3 h3 => ?_;refine bg h3 ae rfl rfl fun H4 h4 => ?_;refine ah (cz ..) ?_;exact am (ix (g := { g with pv := v }) (k := { k2 with a := 6, code := 7 }) (σ' := (aZ σ t).note now t.who 7) (t' := { aD σ t with at' := 6, code := 7 }) (by simp only [aA, hat]; rw [if_neg nf, if_pos hla', if_pos ho, if_pos hm]) (Nj rfl ho (by simp) (by simp) (by simp) (by simp)) (dN (σ := σ) hg (by simp) rfl) (show ac (xB x P t ({ k2 with a := 6, code := 7 }) * (au P ({ g with pv := v }) ((aZ σ t).note now t.who 7) * R)) _ from h4.to))
   ·refine aa (bE hm) ?_
    refine gs ?_;refine bg h2 ae rfl rfl fun H4 h4 => ?_;refine ah (cz ..) ?_;exact am (ix (g := g) (k := { k2 with a := 4 }) (σ' := aZ σ t) (t' := { aD σ t with at' := 4 }) (by simp only [aA, hat]; rw [if_neg nf, if_pos hla', if_pos ho, if_neg hm]) (Nj rfl ho (by simp) (fun _ => by rw [hk2]; rfl) (by simp) (by simp)) (ay (σ := σ) hg (by simp) rfl) (show ac (xB x P t ({ k2 with a := 4 }) * (au P (g) (aZ σ t) * R)) _ from h4.to))
  ·have hla' : ¬ cD σ (aD σ t) = true := by rw [hla, e7 hL]; simp
   rw [e7 hL];refine gs ?_;refine ah (cz ..) ?_;exact am (ix (g := g) (k := k2) (σ' := aZ σ t) (t' := aD σ t) (by simp only [aA, hat]; rw [if_neg nf, if_neg hla']) (DH (by rw [hk2]; show k.a = t.at'; exact ha) (by show t.at' < 4; omega) ⟨by rw [hk2]; rfl, by rw [hk2]; rfl⟩) (ay (σ := σ) hg (by simp) rfl) (show ac (xB x P t (k2) * (au P (g) (aZ σ t) * R)) _ from h2.to))
theorem awH (S : SOk σ) (T : mL σ t) (ho : t.x.op = 1) (hat : t.at' = 4) : Sp bm [vp x, vi now] (yT x P t * aJ P σ) (fun _ : Unit => vb (aA σ t now).2.2) (fun _ => yU x P (aA σ t now) * aJ P (aA σ t now).1) := by
 have hN : σ.μ.N < 1099511627000 := by have := S.N; omega
 refine aK fun R H h => ?_;obtain ⟨k, g, hR, hg, h0⟩ := j2 h;have hl := hg.1;have ha := hR.1;have hfr := (hR.2.2.1 ho).1 (.inl hat);have hx := yK (T.x (by omega));have hc := bQ.1 S.c
 have hst : aA σ t now = (σ.make t.who (obR σ t), { t with obj := σ.obs.length, at' := 5 }, false) := by rw [mn σ t now ho (by omega)]; simp only [GH, hat]
 refine Ng x P g σ t k now S T ho (by omega) h0 fun H1 h1 => ?_;refine ah (dG ..) ?_;refine aa (aG (by omega)) ?_;refine ah (dH ..) ?_;refine gs ?_;refine aa (bi (by omega)) ?_;refine gs ?_;refine ak h1 (cj (aP (aP be))) rfl ?_;refine ak h1 (cj (aP (aP be))) rfl ?_;refine af h1 (Bs σ.c.un t.x.a (by omega) (hx.2 ho).1) fun _ H2 h2 => ?_;refine aa (v := vu (max (σ.c.un / t.x.a.toNat) 1)) rfl ?_;refine aa (v := vb true) rfl ?_;refine ak h2 ae rfl ?_;refine ak h2 (cj (aP (aP be))) rfl ?_;refine ak h2 (cj (aP (aP be))) rfl ?_;refine jq ?_;have h3 := cH (p := P) (σ := σ) (R := xB x P t k * R) g hg h2.to;refine af h3 (atH P σ t.who (obR σ t) hN (by have := S.obs; omega)) fun _ H4 h4 => ?_;obtain ⟨g', hg', h5⟩ := dz (p := P) (σ := σ.make t.who (obR σ t)) (R := xB x P t k * R) (H := H4) h4.to;refine bg h5 ae rfl rfl fun H6 h6 => ?_;refine bg h6 ae rfl rfl fun H7 h7 => ?_;refine ah (cz ..) ?_;exact am (ix (g := g') (k := { k with obj := σ.obs.length, a := 5 }) (σ' := σ.make t.who (obR σ t)) (t' := { t with obj := σ.obs.length, at' := 5 }) (hst) (Nj rfl ho (by simp) (fun _ => hfr) (by simp) (by simp)) hg' (show ac (xB x P t ({ k with obj := σ.obs.length, a := 5 }) * (au P (g') (σ.make t.who (obR σ t)) * R)) _ from h7.to))
theorem awI (S : SOk σ) (T : mL σ t) (ho : t.x.op = 1) (hat : t.at' = 5) : Sp bm [vp x, vi now] (yT x P t * aJ P σ) (fun _ : Unit => vb (aA σ t now).2.2) (fun _ => yU x P (aA σ t now) * aJ P (aA σ t now).1) := by
 have hN : σ.μ.N < 1099511627000 := by have := S.N; omega
 refine aK fun R H h => ?_;obtain ⟨k, g, hR, hg, h0⟩ := j2 h;have hl := hg.1;have ha := hR.1;have hfm := (hR.2.2.1 ho).1 (.inr hat);have hko := (hR.2.2.1 ho).2.1 hat;have hx := yK (T.x (by omega));have hob := T.obj (.inl ⟨hat, ho⟩);have hso := S.obs
 have hst : aA σ t now = ((σ.mem ((σ.μ.acc t.who 2 (10, t.s, t.mark)).put (10, t.s, t.mark) (dS t.x.flow t.obj))).note now t.who 0, { t with at' := 6, code := 0 }, false) := by rw [mn σ t now ho (by omega)]; simp only [GH, hat]
 refine Ng x P g σ t k now S T ho (by omega) h0 fun H1 h1 => ?_;refine ah (dG ..) ?_;refine aa (aG (by omega)) ?_;refine ah (dH ..) ?_;refine gs ?_;refine aa (aG (by omega)) ?_;refine gs ?_;refine aa (bi (by omega)) ?_;refine gs ?_;refine ak h1 ae rfl ?_;refine ak h1 ae rfl ?_;refine ak h1 ae rfl ?_;refine ak h1 (cj (aP (aP be))) rfl ?_;refine ak h1 ae rfl ?_;rw [hfm, hko];refine af h1 (pT (p := P) (g := g) (σ := σ) (μ' := (σ.μ.acc t.who 2 (10, t.s, t.mark)).put (10, t.s, t.mark) (dS t.x.flow t.obj)) (by simp) (XH g.tb g.m σ.c.sh.toNat σ.c.sl.toNat σ.μ t.who t.s t.mark t.x.flow t.obj hN hx.1 (by omega))) fun _ H2 h2 => ?_;refine af h2 (j0 x P g (σ.mem ((σ.μ.acc t.who 2 (10, t.s, t.mark)).put (10, t.s, t.mark) (dS t.x.flow t.obj))) t (k) (ay (σ := σ) hg (by simp) rfl) now 0 (by have := S.N; show σ.μ.N + 2 < _; omega) S.pts) fun v H3 h3 => ?_;refine bg h3 ae rfl rfl fun H4 h4 => ?_;refine ah (cz ..) ?_;exact am (ix (g := { g with pv := v }) (k := { k with a := 6, code := 0 }) (σ' := (σ.mem ((σ.μ.acc t.who 2 (10, t.s, t.mark)).put (10, t.s, t.mark) (dS t.x.flow t.obj))).note now t.who 0) (t' := { t with at' := 6, code := 0 }) (hst) (Nj rfl ho (by simp) (by simp) (by simp) (by simp)) (dN (σ := σ) hg (by simp) rfl) (show ac (xB x P t ({ k with a := 6, code := 0 }) * (au P ({ g with pv := v }) ((σ.mem ((σ.μ.acc t.who 2 (10, t.s, t.mark)).put (10, t.s, t.mark) (dS t.x.flow t.obj))).note now t.who 0) * R)) _ from h4.to))
theorem awJ (S : SOk σ) (T : mL σ t) (ho : t.x.op = 1) (hat : t.at' = 6) : Sp bm [vp x, vi now] (yT x P t * aJ P σ) (fun _ : Unit => vb (aA σ t now).2.2) (fun _ => yU x P (aA σ t now) * aJ P (aA σ t now).1) := by
 have hN : σ.μ.N < 1099511627000 := by have := S.N; omega
 refine aK fun R H h => ?_;obtain ⟨k, g, hR, hg, h0⟩ := j2 h;have hl := hg.1;have ha := hR.1
 have hst : aA σ t now = (i3 σ t, t, true) := by rw [mn σ t now ho (by omega)]; simp only [GH, hat]
 have hto : k.code = t.code := (hR.2.2.1 ho).2.2 hat;refine Ng x P g σ t k now S T ho (by omega) h0 fun H1 h1 => ?_;refine ah (dG ..) ?_;refine aa (aG (by omega)) ?_;refine ah (dH ..) ?_;refine gs ?_;refine aa (aG (by omega)) ?_;refine gs ?_;refine aa (aG (by omega)) ?_;refine gs ?_;refine ak h1 ae rfl ?_;refine ak h1 ae rfl ?_;refine af h1 (pT (p := P) (g := g) (σ := σ) (μ' := (σ.μ.acc t.who 2 (8, t.s, 0)).put (8, t.s, 0) 0) (by simp) (v7 g.tb g.m σ.c.sh.toNat σ.c.sl.toNat σ.μ t.who t.s hN)) fun _ H2 h2 => ?_;exact am (UI (g := g) (k := k) (σ' := i3 σ t) (t' := t) hst hto (ay (σ := σ) hg (by simp) rfl) (show ac (xB x P t k * (au P g (i3 σ t) * R)) H2 from h2.to))
theorem asS (S : SOk σ) (T : mL σ t) (ho : t.x.op ≠ 1) (hat : t.at' = 10) : Sp bm [vp x, vi now] (yT x P t * aJ P σ) (fun _ : Unit => vb (aA σ t now).2.2) (fun _ => yU x P (aA σ t now) * aJ P (aA σ t now).1) := by
 have hN : σ.μ.N < 1099511627000 := by have := S.N; omega
 refine aK fun R H h => ?_;obtain ⟨k, g, hR, hg, h0⟩ := j2 h;have hl := hg.1;have ha := hR.1
 have hst : aA σ t now = (i3 σ t, t, true) := by rw [bU σ t now ho (by omega)]; simp only [gj, hat]
 have hto : k.code = t.code := (hR.2.2.2 ho).2.2.2.2 (.inr hat);refine tr x P g σ t k now S T ho (by omega) h0 fun H1 h1 => ?_;refine ah (cy ..) ?_;refine aa (aG (by omega)) ?_;refine gs ?_;refine aa (aG (by omega)) ?_;refine gs ?_;refine aa (aG (by omega)) ?_;refine gs ?_;refine aa (aG (by omega)) ?_;refine gs ?_;refine aa (aG (by omega)) ?_;refine gs ?_;refine aa (aG (by omega)) ?_;refine gs ?_;refine aa (aG (by omega)) ?_;refine gs ?_;refine ak h1 ae rfl ?_;refine ak h1 ae rfl ?_;refine af h1 (pT (p := P) (g := g) (σ := σ) (μ' := (σ.μ.acc t.who 2 (8, t.s, 0)).put (8, t.s, 0) 0) (by simp) (v7 g.tb g.m σ.c.sh.toNat σ.c.sl.toNat σ.μ t.who t.s hN)) fun _ H2 h2 => ?_;exact am (UI (g := g) (k := k) (σ' := i3 σ t) (t' := t) hst hto (ay (σ := σ) hg (by simp) rfl) (show ac (xB x P t k * (au P g (i3 σ t) * R)) H2 from h2.to))
theorem av9 (S : SOk σ) (T : mL σ t) (ho : t.x.op ≠ 1) (hat : t.at' = 3) : Sp bm [vp x, vi now] (yT x P t * aJ P σ) (fun _ : Unit => vb (aA σ t now).2.2) (fun _ => yU x P (aA σ t now) * aJ P (aA σ t now).1) := by
 have hN : σ.μ.N < 1099511627000 := by have := S.N; omega
 refine aK fun R H h => ?_;obtain ⟨k, g, hR, hg, h0⟩ := j2 h;have hl := hg.1;have ha := hR.1;obtain ⟨hI, hfr⟩ := hR.2.1 (by omega);have hi := T.i (by omega);refine tr x P g σ t k now S T ho (by omega) h0 fun H1 h1 => ?_;refine ah (cy ..) ?_;refine aa (bi (by omega)) ?_;refine gs ?_;refine af h1 (Qx x P g σ t k S T hI hfr hi) fun _ H2 h2 => ?_;obtain ⟨k2, hk2⟩ : ∃ k2 : Xk, k2 = u4 σ t k := ⟨_, rfl⟩;rw [← hk2] at h2;refine aa (v := vb (aD σ t).found) rfl ?_;refine aa (v := vb (!(aD σ t).found && decide (σ.c.sl ≤ ((t.i + 1 : Nat) : Int)))) rfl ?_
 cases hfd : (aD σ t).found with
 | true =>
  refine gs ?_;refine bg h2 ae rfl rfl fun H4 h4 => ?_;refine ah (bp ..) ?_;exact am (ix (g := g) (k := { k2 with a := 4 }) (σ' := aZ σ t) (t' := { aD σ t with at' := 4 }) (by simp only [aA, hat]; rw [if_pos hfd, if_neg ho]) (uB rfl ho (by simp) (by rw [hk2]; rfl) (by rw [hk2]; show (if (aD σ t).found = true then (aD σ t).obj else k.obj) = (aD σ t).obj; rw [if_pos hfd]) (by simp) (by simp) (by simp) (by simp)) (ay (σ := σ) hg (by simp) rfl) (show ac (xB x P t ({ k2 with a := 4 }) * (au P (g) (aZ σ t) * R)) _ from h4.to))
 | false =>
  rw [Bool.not_false, Bool.true_and];refine gs ?_
  have hli : (aD σ t).i = t.i + 1 := by
   show (if (aD σ t).found = true then t.i else t.i + 1) = _;rw [if_neg (by rw [hfd]; simp)]
  have hla : cD σ (aD σ t) = decide (σ.c.sl ≤ ((t.i + 1 : Nat) : Int)) := by unfold cD; rw [hli]
  have nf : ¬ (aD σ t).found = true := by rw [hfd]; simp
  by_cases hL : σ.c.sl ≤ ((t.i + 1 : Nat) : Int)
  ·have hla' : cD σ (aD σ t) = true := hla.trans (fH hL)
   rw [fH hL];refine gs ?_;refine af h2 (j0 x P g (aZ σ t) t (k2) (ay (σ := σ) hg (by simp) rfl) now 5 (by have := S.N; show σ.μ.N + 2 < _; omega) S.pts) fun v H3 h3 => ?_;refine bg h3 ae rfl rfl fun H4 h4 => ?_;refine ah (bp ..) ?_;exact am (ix (g := { g with pv := v }) (k := { k2 with a := 10, code := 5 }) (σ' := (aZ σ t).note now t.who 5) (t' := { aD σ t with at' := 10, code := 5 }) (by simp only [aA, hat]; rw [if_neg nf, if_pos hla', if_neg ho]) (afB rfl ho rfl rfl) (dN (σ := σ) hg (by simp) rfl) (show ac (xB x P t ({ k2 with a := 10, code := 5 }) * (au P ({ g with pv := v }) ((aZ σ t).note now t.who 5) * R)) _ from h4.to))
  ·have hla' : ¬ cD σ (aD σ t) = true := by rw [hla, e7 hL]; simp
   rw [e7 hL];refine gs ?_;refine ah (bp ..) ?_;exact am (ix (g := g) (k := k2) (σ' := aZ σ t) (t' := aD σ t) (by simp only [aA, hat]; rw [if_neg nf, if_neg hla']) (DH (by rw [hk2]; show k.a = t.at'; exact ha) (by show t.at' < 4; omega) ⟨by rw [hk2]; rfl, by rw [hk2]; rfl⟩) (ay (σ := σ) hg (by simp) rfl) (show ac (xB x P t (k2) * (au P (g) (aZ σ t) * R)) _ from h2.to))
theorem awA (S : SOk σ) (T : mL σ t) (ho : t.x.op ≠ 1) (hat : t.at' = 4) : Sp bm [vp x, vi now] (yT x P t * aJ P σ) (fun _ : Unit => vb (aA σ t now).2.2) (fun _ => yU x P (aA σ t now) * aJ P (aA σ t now).1) := by
 have hN : σ.μ.N < 1099511627000 := by have := S.N; omega
 refine aK fun R H h => ?_;obtain ⟨k, g, hR, hg, h0⟩ := j2 h;have hl := hg.1;have ha := hR.1;obtain ⟨hI, hko⟩ := (hR.2.2.2 ho).1 (by omega) (by omega);have hob := T.obj (.inr ⟨by omega, by omega, ho⟩)
 have hob' : k.obj < σ.obs.length := by omega
 obtain ⟨b, hb⟩ : ∃ b, g.rp[k.obj]? = some b := ⟨_, cG (by omega)⟩;refine tr x P g σ t k now S T ho (by omega) h0 fun H1 h1 => ?_;refine ah (cy ..) ?_;refine aa (aG (by omega)) ?_;refine gs ?_;refine aa (bi (by omega)) ?_;refine gs ?_;refine bg h1 ae rfl rfl fun H2 h2 => ?_;refine af h2 (DF x P g σ t { k with a := 5 } S hl b hob' hb) fun _ H3 h3 => ?_;dsimp only at h3;rw [hko] at h3
 by_cases hw : bC (σ.μ.V (11, (t.obj : Int), 0)) = 0
 ·refine aa (bi (by rw [hko]; exact hw)) ?_
  refine gs ?_;refine bg h3 ae rfl rfl fun H4 h4 => ?_;refine ah (bp ..) ?_;exact am (ix (g := g) (k := { k with a := 8, obj := t.obj, w := σ.μ.V (11, (t.obj : Int), 0) }) (σ' := dg σ t) (t' := { t with w := σ.μ.V (11, (t.obj : Int), 0), at' := 8 }) (by rw [bU σ t now ho (by omega)]; simp only [gj, hat]; rw [if_pos hw]) (uB rfl ho (by simp) hI rfl (by simp) (by simp) (fun _ => rfl) (by simp)) (ay (σ := σ) hg (by simp) rfl) (show ac (xB x P t ({ k with a := 8, obj := t.obj, w := σ.μ.V (11, (t.obj : Int), 0) }) * (au P (g) (dg σ t) * R)) _ from h4.to))
 ·refine aa (aG (by rw [hko]; exact hw)) ?_
  refine gs ?_;refine ah (bp ..) ?_;exact am (ix (g := g) (k := { k with a := 5, obj := t.obj, w := σ.μ.V (11, (t.obj : Int), 0) }) (σ' := dg σ t) (t' := { t with w := σ.μ.V (11, (t.obj : Int), 0), at' := 5 }) (by rw [bU σ t now ho (by omega)]; simp only [gj, hat]; rw [if_neg hw]) (uB rfl ho (by simp) hI rfl (by simp) (by simp) (by simp) (by simp)) (ay (σ := σ) hg (by simp) rfl) (show ac (xB x P t ({ k with a := 5, obj := t.obj, w := σ.μ.V (11, (t.obj : Int), 0) }) * (au P (g) (dg σ t) * R)) _ from h3.to))
theorem awB (S : SOk σ) (T : mL σ t) (ho : t.x.op ≠ 1) (hat : t.at' = 5) : Sp bm [vp x, vi now] (yT x P t * aJ P σ) (fun _ : Unit => vb (aA σ t now).2.2) (fun _ => yU x P (aA σ t now) * aJ P (aA σ t now).1) := by
 have hN : σ.μ.N < 1099511627000 := by have := S.N; omega
 refine aK fun R H h => ?_;obtain ⟨k, g, hR, hg, h0⟩ := j2 h;have hl := hg.1;have ha := hR.1;obtain ⟨hI, hko⟩ := (hR.2.2.2 ho).1 (by omega) (by omega);have hob := T.obj (.inr ⟨by omega, by omega, ho⟩)
 have hob' : k.obj < σ.obs.length := by omega
 obtain ⟨b, hb⟩ : ∃ b, g.rp[k.obj]? = some b := ⟨_, cG (by omega)⟩;refine tr x P g σ t k now S T ho (by omega) h0 fun H1 h1 => ?_;refine ah (cy ..) ?_;refine aa (aG (by omega)) ?_;refine gs ?_;refine aa (aG (by omega)) ?_;refine gs ?_;refine aa (bi (by omega)) ?_;refine gs ?_;refine ak h1 ae rfl ?_;refine af h1 (qM P g σ t.who S.N) fun _ H2 h2 => ?_;refine bg h2 ae rfl rfl fun H3 h3 => ?_;refine bg h3 ae rfl rfl fun H4 h4 => ?_;refine ak h4 ae rfl ?_;refine aa (Jo 2 (by omega)) ?_
 by_cases hw : σ.μ.V (2, 0, 0) % 2 = 1
 ·refine aa (bi (show ((σ.μ.V (2, 0, 0) % 2 : Nat) : Int) = 1 by omega)) ?_
  refine gs ?_;refine bg h4 ae rfl rfl fun H5 h5 => ?_;refine ah (bp ..) ?_;exact am (ix (g := g) (k := { k with a := 4, q := σ.μ.V (2, 0, 0) }) (σ' := eK σ t) (t' := { t with q := σ.μ.V (2, 0, 0), at' := 4 }) (by rw [bU σ t now ho (by omega)]; simp only [gj, hat]; rw [if_pos hw]) (uB rfl ho (by simp) hI hko (by simp) (by simp) (by simp) (by simp)) (ay (σ := σ) hg (by simp) rfl) (show ac (xB x P t ({ k with a := 4, q := σ.μ.V (2, 0, 0) }) * (au P (g) (eK σ t) * R)) _ from h5.to))
 ·refine aa (aG (show ¬ ((σ.μ.V (2, 0, 0) % 2 : Nat) : Int) = 1 by omega)) ?_
  refine gs ?_;refine ah (bp ..) ?_;exact am (ix (g := g) (k := { k with a := 6, q := σ.μ.V (2, 0, 0) }) (σ' := eK σ t) (t' := { t with q := σ.μ.V (2, 0, 0), at' := 6 }) (by rw [bU σ t now ho (by omega)]; simp only [gj, hat]; rw [if_neg hw]) (uB rfl ho (by simp) hI hko (fun _ => rfl) (by simp) (by simp) (by simp)) (ay (σ := σ) hg (by simp) rfl) (show ac (xB x P t ({ k with a := 6, q := σ.μ.V (2, 0, 0) }) * (au P (g) (eK σ t) * R)) _ from h4.to))
theorem awC (S : SOk σ) (T : mL σ t) (ho : t.x.op ≠ 1) (hat : t.at' = 6) : Sp bm [vp x, vi now] (yT x P t * aJ P σ) (fun _ : Unit => vb (aA σ t now).2.2) (fun _ => yU x P (aA σ t now) * aJ P (aA σ t now).1) := by
 have hN : σ.μ.N < 1099511627000 := by have := S.N; omega
 refine aK fun R H h => ?_;obtain ⟨k, g, hR, hg, h0⟩ := j2 h;have hl := hg.1;have ha := hR.1;obtain ⟨hI, hko⟩ := (hR.2.2.2 ho).1 (by omega) (by omega);have hob := T.obj (.inr ⟨by omega, by omega, ho⟩)
 have hob' : k.obj < σ.obs.length := by omega
 obtain ⟨b, hb⟩ : ∃ b, g.rp[k.obj]? = some b := ⟨_, cG (by omega)⟩;have hkq := (hR.2.2.2 ho).2.1 (.inl hat);refine tr x P g σ t k now S T ho (by omega) h0 fun H1 h1 => ?_;refine ah (cy ..) ?_;refine aa (aG (by omega)) ?_;refine gs ?_;refine aa (aG (by omega)) ?_;refine gs ?_;refine aa (aG (by omega)) ?_;refine gs ?_;refine aa (bi (by omega)) ?_;refine gs ?_;refine bg h1 ae rfl rfl fun H2 h2 => ?_;refine bg h2 ae rfl rfl fun H5 h5 => ?_;refine af h5 (DF x P g σ t { k with a := 7, mark := now } S hl b hob' hb) fun _ H3 h3 => ?_;dsimp only at h3;rw [hko] at h3
 by_cases hw : bC (σ.μ.V (11, (t.obj : Int), 0)) = 0
 ·refine aa (bi (by rw [hko]; exact hw)) ?_
  refine gs ?_;refine bg h3 ae rfl rfl fun H4 h4 => ?_;refine ah (bp ..) ?_;exact am (ix (g := g) (k := { k with a := 8, mark := now, obj := t.obj, w := σ.μ.V (11, (t.obj : Int), 0) }) (σ' := dg σ t) (t' := { t with w := σ.μ.V (11, (t.obj : Int), 0), mark := now, at' := 8 }) (by rw [bU σ t now ho (by omega)]; simp only [gj, hat]; rw [if_pos hw]) (uB rfl ho (by simp) hI rfl (by simp) (by simp) (fun _ => rfl) (by simp)) (ay (σ := σ) hg (by simp) rfl) (show ac (xB x P t ({ k with a := 8, mark := now, obj := t.obj, w := σ.μ.V (11, (t.obj : Int), 0) }) * (au P (g) (dg σ t) * R)) _ from h4.to))
 ·refine aa (aG (by rw [hko]; exact hw)) ?_
  refine gs ?_;refine ah (bp ..) ?_;exact am (ix (g := g) (k := { k with a := 7, mark := now, obj := t.obj, w := σ.μ.V (11, (t.obj : Int), 0) }) (σ' := dg σ t) (t' := { t with w := σ.μ.V (11, (t.obj : Int), 0), mark := now, at' := 7 }) (by rw [bU σ t now ho (by omega)]; simp only [gj, hat]; rw [if_neg hw]) (uB rfl ho (by simp) hI rfl (fun _ => hkq) (fun _ => rfl) (by simp) (by simp)) (ay (σ := σ) hg (by simp) rfl) (show ac (xB x P t ({ k with a := 7, mark := now, obj := t.obj, w := σ.μ.V (11, (t.obj : Int), 0) }) * (au P (g) (dg σ t) * R)) _ from h3.to))
theorem awD (S : SOk σ) (T : mL σ t) (ho : t.x.op ≠ 1) (hat : t.at' = 7) : Sp bm [vp x, vi now] (yT x P t * aJ P σ) (fun _ : Unit => vb (aA σ t now).2.2) (fun _ => yU x P (aA σ t now) * aJ P (aA σ t now).1) := by
 have hN : σ.μ.N < 1099511627000 := by have := S.N; omega
 refine aK fun R H h => ?_;obtain ⟨k, g, hR, hg, h0⟩ := j2 h;have hl := hg.1;have ha := hR.1;obtain ⟨hI, hko⟩ := (hR.2.2.2 ho).1 (by omega) (by omega);have hob := T.obj (.inr ⟨by omega, by omega, ho⟩)
 have hob' : k.obj < σ.obs.length := by omega
 obtain ⟨b, hb⟩ : ∃ b, g.rp[k.obj]? = some b := ⟨_, cG (by omega)⟩;have hkq := (hR.2.2.2 ho).2.1 (.inr hat);have hkm := (hR.2.2.2 ho).2.2.1 hat;refine tr x P g σ t k now S T ho (by omega) h0 fun H1 h1 => ?_;refine ah (cy ..) ?_;refine aa (aG (by omega)) ?_;refine gs ?_;refine aa (aG (by omega)) ?_;refine gs ?_;refine aa (aG (by omega)) ?_;refine gs ?_;refine aa (aG (by omega)) ?_;refine gs ?_;refine aa (bi (by omega)) ?_;refine gs ?_;refine bg h1 ae rfl rfl fun H2 h2 => ?_;refine ak h2 ae rfl ?_;refine af h2 (qM P g σ t.who S.N) fun _ H3 h3' => ?_;refine bD ae ?_;refine aN h3' rfl ?_;refine aH h2 h3' (by rfl) ?_;rw [hkq]
 by_cases hw : σ.μ.V (2, 0, 0) = t.q
 ·refine aa (bi (show ((σ.μ.V (2, 0, 0) : Nat) : Int) = (t.q : Int) by omega)) ?_
  refine gs ?_;refine ak h3' ae rfl ?_;rw [hkm];refine af h3' (j0 x P g (eK σ t) t ({ k with a := 4 }) (ay (σ := σ) hg (by simp) rfl) t.mark 8 (by have := S.N; show σ.μ.N + 2 < _; omega) S.pts) fun v H3 h3 => ?_;refine bg h3 ae rfl rfl fun H4 h4 => ?_;refine ah (bp ..) ?_;exact am (ix (g := { g with pv := v }) (k := { k with a := 10, code := 8 }) (σ' := (eK σ t).note t.mark t.who 8) (t' := { t with at' := 10, code := 8 }) (by rw [bU σ t now ho (by omega)]; simp only [gj, hat]; rw [if_pos hw]) (afB rfl ho rfl rfl) (dN (σ := σ) hg (by simp) rfl) (show ac (xB x P t ({ k with a := 10, code := 8 }) * (au P ({ g with pv := v }) ((eK σ t).note t.mark t.who 8) * R)) _ from h4.to))
 ·refine aa (aG (show ¬ ((σ.μ.V (2, 0, 0) : Nat) : Int) = (t.q : Int) by omega)) ?_
  refine gs ?_;refine ah (bp ..) ?_;exact am (ix (g := g) (k := { k with a := 4 }) (σ' := eK σ t) (t' := { t with at' := 4 }) (by rw [bU σ t now ho (by omega)]; simp only [gj, hat]; rw [if_neg hw]) (uB rfl ho (by simp) hI hko (by simp) (by simp) (by simp) (by simp)) (ay (σ := σ) hg (by simp) rfl) (show ac (xB x P t ({ k with a := 4 }) * (au P (g) (eK σ t) * R)) _ from h3'.to))
theorem awE (S : SOk σ) (T : mL σ t) (ho : t.x.op ≠ 1) (hat : t.at' = 8) : Sp bm [vp x, vi now] (yT x P t * aJ P σ) (fun _ : Unit => vb (aA σ t now).2.2) (fun _ => yU x P (aA σ t now) * aJ P (aA σ t now).1) := by
 have hN : σ.μ.N < 1099511627000 := by have := S.N; omega
 refine aK fun R H h => ?_;obtain ⟨k, g, hR, hg, h0⟩ := j2 h;have hl := hg.1;have ha := hR.1;obtain ⟨hI, hko⟩ := (hR.2.2.2 ho).1 (by omega) (by omega);have hob := T.obj (.inr ⟨by omega, by omega, ho⟩)
 have hob' : k.obj < σ.obs.length := by omega
 obtain ⟨b, hb⟩ : ∃ b, g.rp[k.obj]? = some b := ⟨_, cG (by omega)⟩;have hkw := (hR.2.2.2 ho).2.2.2.1 hat
 have leT : σ.μ.N ≤ (σ.μ.turn t.who t.obj t.w (aW t.w 2)).N := by
  cases aW t.w 2 with
  | none => exact bA _
  | some n => show σ.μ.N ≤ σ.μ.N + 2; omega
 have leN : (σ.μ.turn t.who t.obj t.w (aW t.w 2)).N ≤ σ.μ.N + 2 := by
  cases aW t.w 2 with
  | none => show σ.μ.N ≤ σ.μ.N + 2; omega
  | some n => exact bA _
 refine tr x P g σ t k now S T ho (by omega) h0 fun H1 h1 => ?_;refine ah (cy ..) ?_;refine aa (aG (by omega)) ?_;refine gs ?_;refine aa (aG (by omega)) ?_;refine gs ?_;refine aa (aG (by omega)) ?_;refine gs ?_;refine aa (aG (by omega)) ?_;refine gs ?_;refine aa (aG (by omega)) ?_;refine gs ?_;refine aa (bi (by omega)) ?_;refine gs ?_;refine bg h1 ae rfl rfl fun H2 h2 => ?_;refine af h2 (j1 x P g σ t { k with a := 4 } hl b hob' hb) fun _ H3 h3 => ?_;refine bD ae ?_;refine aN h3 rfl ?_;refine aH h2 h3 (by rfl) ?_;refine bD ae ?_;refine aN h3 rfl ?_;refine aH h2 h3 (by rfl) ?_;rw [hkw];refine af h3 (kY (p := P) (μ' := σ.μ.turn t.who t.obj t.w (aW t.w 2)) leT hl hob' hb (by rw [hko]; exact wA g.m t.obj b (aC σ t.obj) σ.μ t.who t.w 2 (by omega) T.w hN)) fun _ H5 h5 => ?_;cases hw : fZ σ.μ t.obj t.w (aW t.w 2)
 ·refine gs ?_
  refine ah (bp ..) ?_;exact am (ix (g := g) (k := { k with a := 4 }) (σ' := σ.mem (σ.μ.turn t.who t.obj t.w (aW t.w 2))) (t' := { t with at' := 4 }) (by rw [bU σ t now ho (by omega)]; simp only [gj, hat]; rw [if_neg (by rw [hw]; simp)]) (uB rfl ho (by simp) hI hko (by simp) (by simp) (by simp) (by simp)) (ay (σ := σ) hg leT rfl) (show ac (xB x P t ({ k with a := 4 }) * (au P (g) (σ.mem (σ.μ.turn t.who t.obj t.w (aW t.w 2))) * R)) _ from h5.to))
 ·refine gs ?_
  refine af h5 (j0 x P g (σ.mem (σ.μ.turn t.who t.obj t.w (aW t.w 2))) t { k with a := 4 } (ay (σ := σ) hg leT rfl) now 0 (by have := S.N; show (σ.μ.turn t.who t.obj t.w (aW t.w 2)).N < _; omega) S.pts) fun v H6 h6 => ?_;refine bg h6 ae rfl rfl fun H7 h7 => ?_;refine ah (bp ..) ?_;exact am (ix (g := { g with pv := v }) (k := { k with a := 9, code := 0 }) (σ' := (σ.mem (σ.μ.turn t.who t.obj t.w (aW t.w 2))).note now t.who 0) (t' := { t with at' := 9, code := 0 }) (by rw [bU σ t now ho (by omega)]; simp only [gj, hat]; rw [if_pos hw]) (uB rfl ho (by simp) hI hko (by simp) (by simp) (by simp) (fun _ => rfl)) (dN (σ := σ) hg leT rfl) (show ac (xB x P t ({ k with a := 9, code := 0 }) * (au P ({ g with pv := v }) ((σ.mem (σ.μ.turn t.who t.obj t.w (aW t.w 2))).note now t.who 0) * R)) _ from h7.to))
theorem awF (S : SOk σ) (T : mL σ t) (ho : t.x.op ≠ 1) (hat : t.at' = 9) : Sp bm [vp x, vi now] (yT x P t * aJ P σ) (fun _ : Unit => vb (aA σ t now).2.2) (fun _ => yU x P (aA σ t now) * aJ P (aA σ t now).1) := by
 have hN : σ.μ.N < 1099511627000 := by have := S.N; omega
 refine aK fun R H h => ?_;obtain ⟨k, g, hR, hg, h0⟩ := j2 h;have hl := hg.1;have ha := hR.1;obtain ⟨hI, hko⟩ := (hR.2.2.2 ho).1 (by omega) (by omega);have hob := T.obj (.inr ⟨by omega, by omega, ho⟩)
 have hob' : k.obj < σ.obs.length := by omega
 obtain ⟨b, hb⟩ : ∃ b, g.rp[k.obj]? = some b := ⟨_, cG (by omega)⟩;have hkc := (hR.2.2.2 ho).2.2.2.2 (.inl hat);refine tr x P g σ t k now S T ho (by omega) h0 fun H1 h1 => ?_;refine ah (cy ..) ?_;refine aa (aG (by omega)) ?_;refine gs ?_;refine aa (aG (by omega)) ?_;refine gs ?_;refine aa (aG (by omega)) ?_;refine gs ?_;refine aa (aG (by omega)) ?_;refine gs ?_;refine aa (aG (by omega)) ?_;refine gs ?_;refine aa (aG (by omega)) ?_;refine gs ?_;refine aa (bi (by omega)) ?_;refine gs ?_;refine ak h1 ae rfl ?_;refine ak h1 ae rfl ?_;refine ak h1 ae rfl ?_;rw [hI];refine af h1 (pT (p := P) (g := g) (σ := σ) (μ' := (σ.μ.acc t.who 2 (10, t.s, (t.i : Int))).put (10, t.s, (t.i : Int)) 0) (by simp) (acR g.tb g.m σ.c.sh.toNat σ.c.sl.toNat σ.μ t.who t.s t.i hN)) fun _ H2 h2 => ?_;refine bg h2 ae rfl rfl fun H4 h4 => ?_;refine ah (bp ..) ?_;exact am (ix (g := g) (k := { k with a := 10 }) (σ' := σ.mem ((σ.μ.acc t.who 2 (10, t.s, (t.i : Int))).put (10, t.s, (t.i : Int)) 0)) (t' := { t with at' := 10 }) (by rw [bU σ t now ho (by omega)]; simp only [gj, hat]) (afB rfl ho rfl hkc) (ay (σ := σ) hg (by simp) rfl) (show ac (xB x P t ({ k with a := 10 }) * (au P (g) (σ.mem ((σ.μ.acc t.who 2 (10, t.s, (t.i : Int))).put (10, t.s, (t.i : Int)) 0)) * R)) _ from h4.to))
theorem apH (S : SOk σ) (T : mL σ t) (hat : t.at' = 2) : Sp bm [vp x, vi now] (yT x P t * aJ P σ) (fun _ : Unit => vb (aA σ t now).2.2) (fun _ => yU x P (aA σ t now) * aJ P (aA σ t now).1) := by
 have hN : σ.μ.N < 1099511627000 := by have := S.N; omega
 refine aK fun R H h => ?_;obtain ⟨k, g, hR, hg, h0⟩ := j2 h;have hl := hg.1;have ha := hR.1
 have hst : aA σ t now = fK σ t := by simp only [aA, hat]
 refine AO x P g σ t k now S T (by omega) h0 fun H1 h1 => ?_;rw [hst];exact JY x P g σ t k now S (hR.2.1 (by omega)) (by omega) hg h1
theorem apG (S : SOk σ) (T : mL σ t) (hat : t.at' = 0) : Sp bm [vp x, vi now] (yT x P t * aJ P σ) (fun _ : Unit => vb (aA σ t now).2.2) (fun _ => yU x P (aA σ t now) * aJ P (aA σ t now).1) := by
 have hN : σ.μ.N < 1099511627000 := by have := S.N; omega
 refine aK fun R H h => ?_;obtain ⟨k, g, hR, hg, h0⟩ := j2 h;have hl := hg.1;have ha := hR.1;refine Qv x P g σ t k now S T h0 fun H1 h1 => ?_;refine ah (nu ..) ?_;refine ak h1 ae rfl ?_;refine aa (bi (by omega)) ?_;refine ah (lW ..) ?_;refine gs ?_
 have bad : ∀ code, code ≠ 0 → uv t.x = some code → wp (cR (vp x) (vi now) (vb false) (vp P) (vi t.s) (vi code) H1) fun v' H' => ∃ y : Unit, v' = vb (aA σ t now).2.2 ∧ ac (yU x P (aA σ t now) * aJ P (aA σ t now).1 * R) H' := by
  intro code h0 hx;refine ah (lY ..) ?_;refine aa (I4 h0) ?_;refine gs ?_;refine af h1 (j0 x P g σ t k hg now code (by have := S.N; omega) S.pts) fun v H2 h2 => ?_;exact am (UI (g := { g with pv := v }) (k := { k with code := code }) (σ' := σ.note now t.who code) (t' := { t with code := code }) (by simp only [aA, hat, hx]) rfl (dN (σ := σ) hg (bA _) rfl) h2.to)
 have good : uv t.x = none → wp (cR (vp x) (vi now) (vb false) (vp P) (vi t.s) (vi 0) H1) fun v' H' => ∃ y : Unit, v' = vb (aA σ t now).2.2 ∧ ac (yU x P (aA σ t now) * aJ P (aA σ t now).1 * R) H' := by
  intro hx
  have hst : aA σ t now = fK σ t := by simp only [aA, hat, hx]
  refine ah (lY ..) ?_;refine aa (sQ rfl) ?_;refine gs ?_;refine bg h1 ae rfl rfl fun H2 h2 => ?_;rw [hst];exact JY x P g σ t { k with a := 2 } now S (hR.2.1 (by omega)) rfl hg h2.to
 have k17f : sR t.x → wp (io (vp x) (vi now) (vb false) (vp P) (vi t.s) (vi 0) (vb false) H1) fun v' H' => ∃ y : Unit, v' = vb (aA σ t now).2.2 ∧ ac (yU x P (aA σ t now) * aJ P (aA σ t now).1 * R) H' := by
  intro hf;refine ah (lX ..) ?_;refine ak h1 (cj (aP (aP be))) rfl ?_
  by_cases ho : t.x.op = 1
  ·refine aa (sQ ho) ?_
   refine gs ?_;rw [Bool.not_false];refine gs ?_;exact bad 1 (by omega) (by rw [nA ho, if_pos hf])
  ·refine aa (I4 ho) ?_
   refine gs ?_;rw [Bool.not_false];refine gs ?_;exact bad 5 (by omega) (by rw [GF ho, if_pos hf])
 have k17t : ¬ sR t.x → wp (io (vp x) (vi now) (vb false) (vp P) (vi t.s) (vi 0) (vb true) H1) fun v' H' => ∃ y : Unit, v' = vb (aA σ t now).2.2 ∧ ac (yU x P (aA σ t now) * aJ P (aA σ t now).1 * R) H' := by
  intro hf;refine ah (lX ..) ?_;refine ak h1 (cj (aP (aP be))) rfl ?_
  by_cases ho : t.x.op = 1
  ·refine aa (sQ ho) ?_
   refine gs ?_;rw [Bool.not_true];refine gs ?_;refine ak h1 (cj (aP (aP be))) rfl ?_;refine aa (bi ho) ?_;refine gs ?_;refine ak h1 (cj (aP (aP be))) rfl ?_;refine gs ?_
   by_cases ha1 : t.x.a < 1
   ·refine aa (bS ha1) ?_
    refine gs ?_;exact bad 4 (by omega) (by rw [nA ho, if_neg hf, if_pos (.inl ha1)])
   refine aa (bE ha1) ?_;refine gs ?_;refine ak h1 (cj (aP (aP be))) rfl ?_;refine gs ?_
   by_cases ha2 : 65536 < t.x.a
   ·refine aa (j5 ha2) ?_
    refine gs ?_;exact bad 4 (by omega) (by rw [nA ho, if_neg hf, if_pos (.inr ha2)])
   refine aa (fJ ha2) ?_;refine gs ?_;refine ak h1 (cj (aP (aP be))) rfl ?_;refine aa (bi ho) ?_;refine gs ?_;refine ak h1 (cj (aP (aP be))) rfl ?_;refine gs ?_
   by_cases hb1 : t.x.b < 1
   ·refine aa (bS hb1) ?_
    refine gs ?_;exact bad 1 (by omega) (by rw [nA ho, if_neg hf, if_neg (by omega), if_pos (.inl hb1)])
   refine aa (bE hb1) ?_;refine gs ?_;refine ak h1 (cj (aP (aP be))) rfl ?_;refine gs ?_
   by_cases hb2 : 8 < t.x.b
   ·refine aa (j5 hb2) ?_
    refine gs ?_;exact bad 1 (by omega) (by rw [nA ho, if_neg hf, if_neg (by omega), if_pos (.inr hb2)])
   refine aa (fJ hb2) ?_;refine gs ?_;exact good (by rw [nA ho, if_neg hf, if_neg (by omega), if_neg (by omega)])
  ·refine aa (I4 ho) ?_
   refine gs ?_;rw [Bool.not_true];refine gs ?_;rw [Bool.not_true];refine gs ?_;refine ak h1 (cj (aP (aP be))) rfl ?_;refine aa (aG ho) ?_;refine gs ?_;refine ak h1 (cj (aP (aP be))) rfl ?_;refine aa (aG ho) ?_;refine gs ?_;exact good (by rw [GF ho, if_neg hf])
 refine ak h1 (cj (aP (aP be))) rfl ?_
 by_cases hf : t.x.flow < 0
 ·refine aa (pr (by omega)) ?_
  refine gs ?_;exact k17f (.inl hf)
 refine aa (xx (by omega)) ?_;refine gs ?_;refine ak h1 (cj (aP (aP be))) rfl ?_;refine gs ?_
 by_cases hf2 : 1048576 < t.x.flow
 ·refine aa (OZ (by omega)) ?_
  refine gs ?_;exact k17f (.inr hf2)
 refine aa (O0 (by omega)) ?_;refine gs ?_;exact k17t (fun h => h.elim hf hf2)
theorem ae1 (S : SOk σ) (T : mL σ t) : Sp bm [vp x, vi now] (yT x P t * aJ P σ) (fun _ : Unit => vb (aA σ t now).2.2) (fun _ => yU x P (aA σ t now) * aJ P (aA σ t now).1) := by
 by_cases ho : t.x.op = 1
 ·rcases T.ats with hat | hat | hat | hat | hat
  ·exact apG x P σ t now S T hat
  ·exact apH x P σ t now S T hat
  ·exact awG x P σ t now S T ho hat
  ·by_cases h4 : t.at' = 4
   ·exact awH x P σ t now S T ho h4
   by_cases h5 : t.at' = 5
   ·exact awI x P σ t now S T ho h5
   exact awJ x P σ t now S T ho (by omega)
  ·exact absurd ho hat.1
 ·rcases T.ats with hat | hat | hat | hat | hat
  ·exact apG x P σ t now S T hat
  ·exact apH x P σ t now S T hat
  ·exact av9 x P σ t now S T ho hat
  ·by_cases h4 : t.at' = 4
   ·exact awA x P σ t now S T ho h4
   by_cases h5 : t.at' = 5
   ·exact awB x P σ t now S T ho h5
   exact awC x P σ t now S T ho (by omega)
  ·by_cases h7 : t.at' = 7
   ·exact awD x P σ t now S T ho h7
   by_cases h8 : t.at' = 8
   ·exact awE x P σ t now S T ho h8
   by_cases h9 : t.at' = 9
   ·exact awF x P σ t now S T ho h9
   exact asS x P σ t now S T ho (by omega)
end
abbrev TP := Nat × Pt
def ltT (a b : TP) : Prop := a.2.step < b.2.step ∨ a.2.step = b.2.step ∧ a.1 < b.1
def lD (L : List TP) : Prop := L.Pairwise ltT
def BK (X Y : List TP) : Prop := ∀ x ∈ X, ∀ y ∈ Y, x.1 < y.1
def Asc (L : List TP) : Prop := L.Pairwise fun a b => a.1 < b.1
abbrev pl (L : List TP) : List Pt := L.map fun x : TP => x.2
theorem L4 {a b : TP} (h : ltT a b) : a.2.step ≤ b.2.step := by rcases h with h | h <;> omega
theorem dd {X Y : List TP} : lD (X ++ Y) ↔ lD X ∧ lD Y ∧ ∀ x ∈ X, ∀ y ∈ Y, ltT x y := List.pairwise_append
theorem gW {x : TP} {Y : List TP} : lD (x :: Y) ↔ (∀ y ∈ Y, ltT x y) ∧ lD Y := List.pairwise_cons
theorem M4 : lD [] := List.Pairwise.nil
theorem Yp (x : TP) : lD [x] := List.pairwise_singleton _ _
theorem Uq : ∀ (L1 L2 : List TP), lD L1 → lD L2 → L1.Perm L2 → L1 = L2 := by
 intro L1
 induction L1 with
 | nil => intro L2 _ _ h; exact (List.nil_perm.1 h).symm
 | cons x L1 ih =>
  intro L2 h1 h2 h
  cases L2 with
  | nil => exact absurd h.length_eq (by simp)
  | cons y L2 =>
   have hx : x ∈ y :: L2 := h.mem_iff.1 (List.mem_cons_self ..);have hy : y ∈ x :: L1 := h.mem_iff.2 (List.mem_cons_self ..)
   have e : x = y := by
    rcases ul.1 hx with e | hx
    ·exact e
    ·rcases ul.1 hy with e | hy
     ·exact e.symm
     ·have a1 := (gW.1 h2).1 x hx
      have a2 := (gW.1 h1).1 y hy
      rcases a1 with a1 | a1 <;> rcases a2 with a2 | a2 <;> omega
   subst e;rw [ih L2 (gW.1 h1).2 (gW.1 h2).2 (h.cons_inv)]
def rz : Nat → List Pt → List TP
 | _, [] => []
 | n, x :: l => (n, x) :: rz (n + 1) l
theorem Xu : ∀ (l : List Pt) (n : Nat), pl (rz n l) = l := by
 intro l
 induction l with
 | nil => intro n; rfl
 | cons x l ih => intro n; show x :: pl (rz (n + 1) l) = _; rw [ih]
theorem arP : ∀ (l : List Pt) (n : Nat), ∀ x ∈ rz n l, n ≤ x.1 := by
 intro l
 induction l with
 | nil => intro n x hx; cases hx
 | cons y l ih =>
  intro n x hx
  rcases ul.1 hx with e | hx
  ·subst e; exact bA _
  ·have := ih (n + 1) x hx; omega
theorem Pa : ∀ (l : List Pt) (n : Nat), Asc (rz n l) := by
 intro l
 induction l with
 | nil => intro n; exact .nil
 | cons x l ih =>
  intro n;refine List.pairwise_cons.2 ⟨fun y hy => ?_, ih (n + 1)⟩;have := arP l (n + 1) y hy;show n < y.1;omega
theorem I5 : ∀ (l : List Pt) (n : Nat) (x : Pt), rz n (l ++ [x]) = rz n l ++ [(n + l.length, x)] := by
 intro l
 induction l with
 | nil => intro n x; rfl
 | cons y l ih =>
  intro n x;show (n, y) :: rz (n + 1) (l ++ [x]) = (n, y) :: (rz (n + 1) l ++ _);rw [ih, List.length_cons, show n + 1 + l.length = n + (l.length + 1) from by omega]
def OQ (x : TP) : List TP → List TP
 | [] => [x]
 | y :: l => if y.2.step ≤ x.2.step ∨ (l.any fun z => decide (z.2.step ≤ x.2.step)) = true then y :: OQ x l else x :: y :: l
theorem arF (x : TP) : ∀ L, pl (OQ x L) = uQ x.2 (pl L) := by
 intro L
 induction L with
 | nil => rfl
 | cons y L ih =>
  have e : ((pl L).any fun z => decide (z.step ≤ x.2.step)) = L.any fun z => decide (z.2.step ≤ x.2.step) := by rw [List.any_map]; rfl
  show pl (if _ then _ else _) = (if _ then _ else _);rw [e]
  split
  ·show y.2 :: pl (OQ x L) = _; rw [ih]
  ·rfl
theorem IU (x : TP) : ∀ L, (OQ x L).Perm (x :: L) := by
 intro L
 induction L with
 | nil => exact List.Perm.refl _
 | cons y L ih =>
  rw [OQ]
  split
  ·exact (ih.cons y).trans (List.Perm.swap x y L)
  ·exact List.Perm.refl _
theorem ak4 (x : TP) : ∀ L, lD L → (∀ y ∈ L, y.1 < x.1) → lD (OQ x L) := by
 intro L
 induction L with
 | nil => intro _ _; exact Yp x
 | cons y L ih =>
  intro hs hb;obtain ⟨h1, h2⟩ := gW.1 hs;have hyx := hb y (List.mem_cons_self ..);rw [OQ]
  split
  ·rename_i hc
   have hle : y.2.step ≤ x.2.step := by
    rcases hc with hc | hc
    ·exact hc
    ·obtain ⟨z, hz, hzs⟩ := List.any_eq_true.1 hc
     have := L4 (h1 z hz)
     have hzs : z.2.step ≤ x.2.step := by simpa using hzs
     omega
   refine gW.2 ⟨fun z hz => ?_, ih h2 fun z hz => hb z (List.mem_cons_of_mem _ hz)⟩
   rcases ul.1 ((IU x L).mem_iff.1 hz) with e | hz
   ·subst e
    unfold ltT;omega
   ·exact h1 z hz
  ·rename_i hc
   have hlt : x.2.step < y.2.step := by
    have : ¬ y.2.step ≤ x.2.step := fun q => hc (.inl q);omega
   refine gW.2 ⟨fun z hz => ?_, hs⟩
   rcases ul.1 hz with e | hz
   ·subst e; exact .inl hlt
   ·have := L4 (h1 z hz)
    exact .inl (by omega)
theorem QR (l : List Pt) : ∃ Z, lD Z ∧ Z.Perm (rz 0 l) ∧ pl Z = bF l := by
 have gen : ∀ (r : List Pt), ∃ Z, lD Z ∧ Z.Perm (rz 0 r.reverse) ∧ pl Z = bF r.reverse := by
  intro r
  induction r with
  | nil => exact ⟨[], M4, List.Perm.refl _, rfl⟩
  | cons x r ih =>
   obtain ⟨Z, h1, h2, h3⟩ := ih;rw [List.reverse_cons, I5, AV];refine ⟨OQ (0 + r.reverse.length, x) Z, ak4 _ _ h1 fun y hy => ?_, ?_, ?_⟩
   ·have hy := h2.mem_iff.1 hy
    have := Pa (r.reverse ++ [x]) 0;rw [I5] at this;exact (List.pairwise_append.1 this).2.2 y hy _ (List.mem_cons_self ..)
   ·refine (IU _ _).trans ?_
    exact (h2.cons _).trans (List.perm_append_comm (l₁ := [_]) (l₂ := rz 0 r.reverse))
   ·rw [arF, h3]
 have := gen l.reverse;rw [List.reverse_reverse] at this;exact this
theorem Y0 {l : List Pt} {Z : List TP} (h1 : lD Z) (h2 : Z.Perm (rz 0 l)) : pl Z = bF l := by
 obtain ⟨Z', g1, g2, g3⟩ := QR l;rw [Uq Z Z' h1 g1 (h2.trans g2.symm), g3]
inductive UL (bs : Nat) : List TP → Prop
 | last {X : List TP} (h1 : X.length ≤ bs) (h2 : lD X) : UL bs X
 | cons {X L : List TP} (h1 : X.length = bs) (h2 : lD X) (h3 : BK X L) (h4 : UL bs L) : UL bs (X ++ L)
theorem UL.nil {bs : Nat} : UL bs [] := .last (by simp) M4
theorem UL.split {bs : Nat} {L : List TP} (h : UL bs L) (hl : bs ≤ L.length) : ∃ X L2, L = X ++ L2 ∧ X.length = bs ∧ lD X ∧ BK X L2 ∧ UL bs L2 := by
 cases h with
 | last h1 h2 => exact ⟨L, [], by simp, by omega, h2, (fun x _ y hy => by cases hy), .nil⟩
 | @cons X L' h1 h2 h3 h4 => exact ⟨X, L', rfl, h1, h2, h3, h4⟩
theorem UL.short {bs : Nat} {L : List TP} (h : UL bs L) (hl : L.length ≤ bs) : lD L := by
 cases h with
 | last h1 h2 => exact h2
 | @cons X L' h1 h2 h3 h4 =>
  have : L'.length = 0 := by rw [f2] at hl; omega
  have : L' = [] := List.eq_nil_of_length_eq_zero this;subst this;rw [List.append_nil]; exact h2
theorem BK.left {X X2 Y : List TP} (h : BK (X ++ X2) Y) : BK X Y := fun x hx y hy => h x (List.mem_append_left _ hx) y hy
theorem BK.perm {X X' Y Y' : List TP} (h : BK X Y) (hx : X'.Perm X) (hy : Y'.Perm Y) : BK X' Y' := fun x h1 y h2 => h x (hx.mem_iff.1 h1) y (hy.mem_iff.1 h2)
theorem BK.sub {X X' Y Y' : List TP} (h : BK X Y) (hx : ∀ x ∈ X', x ∈ X) (hy : ∀ y ∈ Y', y ∈ Y) : BK X' Y' := fun x h1 y h2 => h x (hx x h1) y (hy y h2)
theorem QK {X Y : List TP} : Asc (X ++ Y) ↔ Asc X ∧ Asc Y ∧ BK X Y := List.pairwise_append
theorem qL {x : OV} {Q Q' : Value → AH → Prop} (f : ∀ v H, Q v H → Q' v H) (k : wp x Q) : wp x Q' := let ⟨v, H, e, q⟩ := k; ⟨v, H, e, f _ _ q⟩
theorem AJ (s : Value) (l : List Pt) (hl : l.length ≤ 1000000) : Sp alQ [s] (ts 7 Pt.cells s l) (fun v : Value => v) (fun v => ts 7 Pt.cells v l * ts 7 Pt.cells s l) := by
 refine aY (avO _) fun R H h => ?_
 rcases oE (s := s) (l := l) h with ⟨rfl, rfl, h0⟩ | ⟨b, rfl, h0⟩
 ·refine aa (v := vb true) rfl ?_
  refine gs ?_;refine am ⟨_, rfl, ?_⟩;have h1 := dZ 7 Pt.cells h;exact h1.to
 ·refine aa (v := vb false) rfl ?_
  refine gs ?_;refine JV (cs := []) h rfl fun b1 H1 h1 => ?_;have h2 : ac (ts 7 Pt.cells (vs b1 0 7) [] * (ts 7 Pt.cells (vs b l.length 7) l * R)) H1 := ue (enc := Pt.cells) (l := []) h1;refine AM (x := vs b l.length 7) (m := l) h2 (by unfold dc; simp; omega) (by omega) fun v H2 h3 => ?_;rw [List.nil_append] at h3;exact am ⟨v, rfl, h3.to⟩
theorem Pq (x2 s : Value) (l : List Pt) (hl : l.length ≤ 1000000) {P R : SP} : ∀ (d i : Nat) (o : Value) (H : AH), i + d = l.length → ac (ts 7 Pt.cells o (l.take i) * (ts 7 Pt.cells s l * P) * R) H →
 wp (Md x2 o s (vi l.length) (vi i) H) fun v' H' => ∃ v : Value, v' = v ∧ ac (ts 7 Pt.cells v l * (ts 7 Pt.cells s l * P) * R) H' := by
 intro d
 induction d with
 | zero =>
  intro i o H hi h;refine ah (Ja _ _ _ _ _ H) ?_;refine aa (bE (by omega)) ?_;refine gs ?_;refine ah (Ph _ _ H) ?_;refine ah (acG _ _ H) ?_;rw [List.take_of_length_le (by omega)] at h;exact am ⟨_, rfl, h⟩
 | succ d ih =>
  intro i o H hi h
  have hil : i < l.length := by omega
  refine ah (Ja _ _ _ _ _ H) ?_;refine aa (bS (by omega)) ?_;refine gs ?_;refine ah (acI _ _ _ _ _ H) ?_;refine UC (s := s) (l := l) h hil ?_;refine bo h fun b H1 h1 => ?_;refine eM h1 rfl rfl fun H2 h2 => ?_;refine Hm h2 aB ?_;refine af h2 (uY l[i].e) fun _ H3 h3 => ?_;refine bg h3 aB rfl rfl fun H4 h4 => ?_;refine aR h4 ?_;refine Qi h4 fun b0 H5 h5 => ?_;refine gY (s := o) (l := l.take i) (l[i] : Pt) h5 rfl ?_ (by omega) fun a c H6 h6 => ?_
  ·unfold dc; simp only [List.length_take]; omega
  refine ah (acJ _ _ _ _ _ H6) ?_;refine aa (aE (by omega) (by omega)) ?_;refine ih (i + 1) _ H6 (by omega) ?_;rw [List.take_succ_eq_append_getElem hil];exact h6.to
theorem FT : Sp gb [.slice none 0 0, .slice none 0 0] emp (fun _ : Unit => vb true) (fun _ => emp) := by
 have same : ∀ f : Value, Sp sG [.slice none 0 0, .slice none 0 0, f] emp (fun _ : Unit => vb true) (fun _ => emp) := by
  intro f;refine aY (LQ _ _ _) fun R H h => ?_;refine Yz ?_;refine Yz ?_;refine aa (sQ rfl) ?_;refine gs ?_;refine ah (BS _ _ _ _ H) ?_;refine ah (BU _ _ _ _ _ H) ?_;refine ah (BV _ _ _ _ _ H) ?_;refine Yz ?_;refine aa (bE (by omega)) ?_;refine gs ?_;refine ah (xy _ H) ?_;refine ah (BT _ H) ?_;exact am ⟨(), rfl, h⟩
 refine aY (px _ _) fun R H h => ?_;refine af h (same _) fun _ H1 h1 => ?_;exact am ⟨(), rfl, h1.to⟩
theorem ON (e : Int) : Sp qw [.agg (ip e).toArray, .agg (ip e).toArray] emp (fun _ : Unit => vb true) (fun _ => emp) := by
 refine aY (OM _ _) fun R H h => ?_;refine aS h fun b1 H1 h1 => ?_;refine aS h1 fun b2 H2 h2 => ?_;refine ak h2 aB rfl ?_;refine ak h2 aB rfl ?_;refine aa (bi rfl) ?_;refine gs ?_;refine ak h2 aB rfl ?_;refine gs ?_;refine ak h2 aB rfl ?_;refine gs ?_;refine aa (bi rfl) ?_;refine gs ?_;refine ak h2 aB rfl ?_;refine gs ?_;refine ak h2 aB rfl ?_;refine gs ?_;refine aa (bi rfl) ?_;refine gs ?_;refine ak h2 aB rfl ?_;refine gs ?_;refine ak h2 aB rfl ?_;refine gs ?_;refine af h2 FT fun _ H3 h3 => ?_;refine gs ?_;exact am ⟨(), rfl, h3.to⟩
theorem SD (x : Pt) : Sp ff [.agg (Pt.cells x).toArray, .agg (Pt.cells x).toArray] emp (fun _ : Unit => vb true) (fun _ => emp) := by
 refine aY (HL _ _) fun R H h => ?_;refine aS h fun b1 H1 h1 => ?_;refine aS h1 fun b2 H2 h2 => ?_;refine ak h2 aB rfl ?_;refine ak h2 aB rfl ?_;refine aa (bi rfl) ?_;refine gs ?_;refine ak h2 aB rfl ?_;refine gs ?_;refine ak h2 aB rfl ?_;refine gs ?_;refine aa (bi rfl) ?_;refine gs ?_;refine ak h2 aB rfl ?_;refine gs ?_;refine ak h2 aB rfl ?_;refine gs ?_;refine aa (bi rfl) ?_;refine gs ?_;refine Hm h2 aB ?_;refine gs ?_;refine Hm h2 aB ?_;refine gs ?_;refine af h2 (ON x.e) fun _ H3 h3 => ?_;refine gs ?_;exact am ⟨(), rfl, h3.to⟩
section
variable {α : Type}
theorem auB (A B : List α) (x : α) : (A ++ x :: B)[A.length]? = some x := by simp
theorem tz {A B : List α} {x : α} {i : Nat} (h : i = A.length) : (A ++ x :: B)[i]? = some x := by subst h; exact auB A B x
theorem arZ (A B : List α) (x y : α) : (A ++ x :: B).set A.length y = A ++ y :: B := by simp
theorem y5 {A B : List α} {x y : α} {i : Nat} (h : i = A.length) : (A ++ x :: B).set i y = A ++ y :: B := by subst h; exact arZ A B x y
theorem atT {A B C : List α} {x y : α} {i j : Nat} (hi : i = A.length) (hj : j = A.length + 1 + B.length) : ((A ++ x :: (B ++ y :: C)).set i y).set j x = A ++ y :: (B ++ x :: C) := by
 rw [y5 hi]
 have e : A ++ y :: (B ++ y :: C) = (A ++ y :: B) ++ y :: C := by simp
 rw [e, y5 (by simp; omega)];simp
theorem aoE {A B C : List α} {x y : α} {i j : Nat} (hi : i = A.length) (hj : j = A.length + 1 + B.length) : ((A ++ x :: (B ++ y :: C)).set j x).set i y = A ++ y :: (B ++ x :: C) := by
 have e : A ++ x :: (B ++ y :: C) = (A ++ x :: B) ++ y :: C := by simp
 rw [e, y5 (by simp; omega)]
 have e2 : (A ++ x :: B) ++ x :: C = A ++ x :: (B ++ x :: C) := by simp
 rw [e2, y5 hi]
theorem at2 {A B C : List α} {x y : α} {j : Nat} (hj : j = A.length + 1 + B.length) : (A ++ x :: (B ++ y :: C))[j]? = some y := by
 have e : A ++ x :: (B ++ y :: C) = (A ++ x :: B) ++ y :: C := by simp
 rw [e];exact tz (by simp; omega)
end
section
variable {P R : SP} {H : AH} {s : Value} {l : List Pt} {Q : Value → AH → Prop}
theorem rr {i : Nat} {ii : Int} {x : Pt} {k : Value → OV} (hi : ii = i) (h : ac P H) [f : Ts P s Pt 7 Pt.cells l R] (hx : l[i]? = some x) (hk : wp (k (.agg (Pt.cells x).toArray)) Q) : wp (ldN 7 [.i 7 (vi ii)] s H k) Q := by
 subst hi;obtain ⟨hil, e⟩ := zZ.1 hx;refine UC (s := s) (l := l) (i := i) h hil ?_;rw [e];exact hk
theorem M9 {i : Nat} {ii : Int} {x : Pt} {k : AH → OV} (hi : ii = i) (h : ac P H) [f : Ts P s Pt 7 Pt.cells l R] (hl : i < l.length) (hk : ∀ H', ac (ts 7 Pt.cells s (l.set i x) * R) H' → wp (k H') Q) : wp (st 7 [.i 7 (vi ii)] s (.agg (Pt.cells x).toArray) H k) Q := by
 subst hi;exact JW (s := s) (l := l) (i := i) x h hl (.inl ⟨rfl, rfl⟩) rfl (by omega) rfl rfl fun H' h' => hk H' h'.to
theorem UB {i j : Nat} {ii jj : Int} {x y : Pt} {k : AH → OV} (hi : ii = i) (hj : jj = j) (h : ac P H) [f : Ts P s Pt 7 Pt.cells l R] (hx : l[i]? = some x) (hy : l[j]? = some y)
 (hk : ∀ H', ac (ts 7 Pt.cells s ((l.set i y).set j x) * R) H' → wp (k H') Q) :
 wp (ldN 7 [.i 7 (vi jj)] s H fun v16 => ldN 7 [.i 7 (vi ii)] s H fun v17 => st 7 [.i 7 (vi ii)] s v16 H fun H18 => st 7 [.i 7 (vi jj)] s v17 H18 k) Q := by
 obtain ⟨hil, _⟩ := zZ.1 hx;obtain ⟨hjl, _⟩ := zZ.1 hy;refine rr hj h hy ?_;refine rr hi h hx ?_;refine M9 hi h hil fun H1 h1 => ?_;refine M9 hj h1 (by rw [OY]; exact hjl) fun H2 h2 => ?_;exact hk H2 h2.to
end
theorem ax1 {cl : TCls} {w : Nat} : ai cl .shr (vu w) (vw 1) = some (vu (w / 2)) := by
 have := zm (cl := cl) (a := w) (k := .u64) (n := 1) (by omega)
 simpa using this
theorem YA {i j : Nat} {ii jj : Int} {k : Value → OV} {Q : Value → AH → Prop} (hi : ii = i) (hj : jj = j) (hb : i + j < 4611686018427387904) (hk : wp (k (vi (((i + j) / 2 : Nat) : Int))) Q) :
 wp ((ai .other .add (vi ii) (vi jj)).bind fun a => (cf (some .u64) a).bind fun b => (ai .other .shr b (vw 1)).bind fun c => (cf (some .i64) c).bind k) Q := by
 subst hi hj;refine aa (aE (by omega) (by omega)) ?_;refine aa (dU (by omega) (by omega)) ?_;rw [show ((i : Int) + (j : Int)).toNat = i + j from by omega];refine aa (ax1) ?_;refine aa (iS (by omega)) ?_;exact hk
def Y5 (a b : Pt) : Int := if a.step < b.step then -1 else if b.step < a.step then 1 else 0
theorem apX (a b : Int) : Sp ko [vi a, vi b] emp (fun _ : Unit => vi (if a < b then -1 else if b < a then 1 else 0)) (fun _ => emp) := by
 have nan : ∀ x : Int, Sp jE [vi x] emp (fun _ : Unit => vb false) (fun _ => emp) := by
  intro x;refine aY (BN _) fun R H h => ?_;refine aa (sQ rfl) ?_;exact am ⟨(), rfl, h⟩
 refine aY (wP _ _) fun R H h => ?_;refine af h (nan a) fun _ H1 h1 => ?_;refine af h1 (nan b) fun _ H2 h2 => ?_;refine Hl ?_;refine Hl ?_
 by_cases h1 : a < b
 ·refine aa (bS h1) ?_
  refine gs ?_;exact am ⟨(), by rw [if_pos h1], h2.to⟩
 ·refine aa (bE h1) ?_
  refine gs ?_
  by_cases h3 : b < a
  ·refine aa (j5 h3) ?_
   refine gs ?_;exact am ⟨(), by rw [if_neg h1, if_pos h3], h2.to⟩
  ·refine aa (fJ h3) ?_
   refine gs ?_;exact am ⟨(), by rw [if_neg h1, if_neg h3], h2.to⟩
theorem ab9 (a b : Pt) : Sp dQ [.agg (Pt.cells a).toArray, .agg (Pt.cells b).toArray] emp (fun _ : Unit => vi (Y5 a b)) (fun _ => emp) := by
 refine aY (sT _ _) fun R H h => ?_;refine aS h fun b1 H1 h1 => ?_;refine aS h1 fun b2 H2 h2 => ?_;refine ak h2 aB rfl ?_;refine ak h2 aB rfl ?_;refine af h2 (apX a.step b.step) fun _ H3 h3 => ?_;exact am ⟨(), rfl, h3.to⟩
theorem CW {a b : Pt} (h : a.step < b.step) : ai .other .lss (vi (Y5 a b)) (vi 0) = some (vb true) := by
 rw [Y5, if_pos h]; exact bS (by omega)
theorem CV {a b : Pt} (h : ¬ a.step < b.step) : ai .other .lss (vi (Y5 a b)) (vi 0) = some (vb false) := by
 rw [Y5, if_neg h]
 split <;> exact bE (by omega)
abbrev nE : Value := .func (.func dQ) #[] #[]
theorem YC {P : SP} {H : AH} {Q : Value → AH → Prop} {a b : Pt} {k : Value × AH → OV} (h : ac P H) (hk : ∀ H', ac P H' → wp (k (vi (Y5 a b), H')) Q) :
 wp (((ce nE [.agg (Pt.cells a).toArray, .agg (Pt.cells b).toArray]).bind fun c => FF c.1 c.2 H).bind k) Q := by
 refine ah (show ((ce nE [.agg (Pt.cells a).toArray, .agg (Pt.cells b).toArray]).bind fun c => FF c.1 c.2 H).bind k = (FF dQ [.agg (Pt.cells a).toArray, .agg (Pt.cells b).toArray] H).bind k from rfl) ?_;refine af h (ab9 a b) fun _ H1 h1 => ?_;exact hk H1 h1.to
theorem wq (s f : Value) (P M : List Pt) (Q : List Pt) : ∀ (X Y : List Pt), X.length = Y.length → P.length + X.length + M.length + Y.length < 4000000 →
 Sp O9 [s, vi ((P.length : Nat) : Int), vi ((P.length + X.length + M.length : Nat) : Int), vi ((X.length : Nat) : Int), f] (ts 7 Pt.cells s (P ++ (X ++ (M ++ (Y ++ Q))))) (fun _ : Unit => .tuple #[]) (fun _ => ts 7 Pt.cells s (P ++ (Y ++ (M ++ (X ++ Q))))) := by
 intro X Y hXY hb;refine aY (avU _ _ _ _ _) fun R H h => ?_;refine ah (ad0 ..) ?_;have loop : ∀ (X2 Y2 X1 Y1 : List Pt) (H : AH), X1 ++ X2 = X → Y1 ++ Y2 = Y → X1.length = Y1.length → ac (ts 7 Pt.cells s ((P ++ Y1) ++ (X2 ++ (M ++ (X1 ++ (Y2 ++ Q))))) * R) H →
  wp (MY s (vi ((P.length : Nat) : Int)) (vi ((P.length + X.length + M.length : Nat) : Int)) (vi ((X.length : Nat) : Int)) (vi ((X1.length : Nat) : Int)) H) fun v' H' => ∃ x : Unit, v' = .tuple #[] ∧ ac (ts 7 Pt.cells s (P ++ (Y ++ (M ++ (X ++ Q)))) * R) H' := by
  intro X2
  induction X2 with
  | nil =>
   intro Y2 X1 Y1 H hX hY hl hh;rw [List.append_nil] at hX;subst hX
   have : Y2 = [] := by
    have := congrArg List.length hY;rw [f2] at this;exact List.eq_nil_of_length_eq_zero (by omega)
   subst this;rw [List.append_nil] at hY;subst hY;refine ah (JD ..) ?_;refine aa (bE (by omega)) ?_;refine gs ?_;refine ah (PV ..) ?_;refine am ⟨(), rfl, ?_⟩
   simpa using hh
  | cons x X2 ih =>
   intro Y2 X1 Y1 H hX hY hl hh;have hxl := congrArg List.length hX;have hyl := congrArg List.length hY;simp only [f2, List.length_cons] at hxl hyl
   cases Y2 with
   | nil => simp only [List.length_nil] at hyl; omega
   | cons y Y2 =>
    simp only [List.length_cons] at hyl;refine ah (JD ..) ?_;refine aa (bS (by omega)) ?_;refine gs ?_;refine ah (ad1 ..) ?_;refine aa (aE (by omega) (by omega)) ?_;refine aa (aE (by omega) (by omega)) ?_;refine aa (aE (by omega) (by omega)) ?_
    have e : (P ++ Y1) ++ ((x :: X2) ++ (M ++ (X1 ++ ((y :: Y2) ++ Q)))) = (P ++ Y1) ++ x :: ((X2 ++ (M ++ X1)) ++ y :: (Y2 ++ Q)) := by simp
    rw [e] at hh;refine rr (i := P.length + X.length + M.length + X1.length) (by omega) hh (at2 (by simp; omega)) ?_;refine aa (aE (by omega) (by omega)) ?_;refine rr (i := P.length + X1.length) (by omega) hh (tz (by simp; omega)) ?_;refine M9 (i := P.length + X1.length) (by omega) hh (by simp; omega) fun H1 h1 => ?_;refine M9 (i := P.length + X.length + M.length + X1.length) (by omega) h1 (by simp; omega) fun H2 h2 => ?_;rw [atT (by simp; omega) (by simp; omega)] at h2;refine ah (ad2 ..) ?_;refine aa (aE (by omega) (by omega)) ?_
    have := ih Y2 (X1 ++ [x]) (Y1 ++ [y]) H2 (by rw [← hX]; simp) (by rw [← hY]; simp) (by simp; exact hl) (by
     have e2 : (P ++ Y1) ++ y :: ((X2 ++ (M ++ X1)) ++ x :: (Y2 ++ Q)) = (P ++ (Y1 ++ [y])) ++ (X2 ++ (M ++ ((X1 ++ [x]) ++ (Y2 ++ Q)))) := by simp
     rw [e2] at h2
     exact h2.to)
    rw [f2, List.length_singleton] at this;rw [show ((X1.length : Nat) : Int) + 1 = ((X1.length + 1 : Nat) : Int) from by omega];exact this
 exact loop X Y [] [] H rfl rfl rfl (by simpa using h)
theorem avL (s f : Value) : ∀ (N : Nat) (P U V Q : List Pt), U.length + V.length ≤ N → 1 ≤ U.length → 1 ≤ V.length → P.length + U.length + V.length < 1000000 → ∀ (R : SP) (H : AH), ac (ts 7 Pt.cells s (P ++ (U ++ (V ++ Q))) * R) H →
 wp (GX s (vi ((P.length + U.length : Nat) : Int)) f (vi ((U.length : Nat) : Int)) (vi ((V.length : Nat) : Int)) H) fun v' H' => ∃ x : Unit, v' = .tuple #[] ∧ ac (ts 7 Pt.cells s (P ++ (V ++ (U ++ Q))) * R) H' := by
 intro N
 induction N with
 | zero => intro P U V Q hN hU hV; omega
 | succ N ih =>
  intro P U V Q hN hU hV hb R H h;refine ah (adQ ..) ?_
  by_cases hij : U.length = V.length
  ·refine aa (sQ (by omega)) ?_
   refine gs ?_;refine ah (PR ..) ?_;refine ah (adP ..) ?_;refine aa (bG (by omega) (by omega)) ?_;rw [show ((P.length + U.length : Nat) : Int) - ((U.length : Nat) : Int) = ((P.length : Nat) : Int) from by omega];have sw := wq s f P [] Q U V hij (by simp; omega);simp only [List.length_nil, Nat.add_zero, List.nil_append] at sw;refine af h sw fun _ H1 h1 => ?_;exact am ⟨(), rfl, h1.to⟩
  ·refine aa (I4 (by omega)) ?_
   refine gs ?_;refine ah (adR ..) ?_
   by_cases hgt : V.length < U.length
   ·refine aa (j5 (by omega)) ?_
    refine gs ?_;refine aa (bG (by omega) (by omega)) ?_;rw [show ((P.length + U.length : Nat) : Int) - ((U.length : Nat) : Int) = ((P.length : Nat) : Int) from by omega]
    have hl1 : (U.take V.length).length = V.length := by rw [List.length_take]; omega
    have hl2 : (U.drop V.length).length = U.length - V.length := List.length_drop;have eU : U.take V.length ++ U.drop V.length = U := List.take_append_drop ..;have sw := wq s f P (U.drop V.length) Q (U.take V.length) V hl1 (by omega);rw [hl1, hl2, show P.length + V.length + (U.length - V.length) = P.length + U.length from by omega] at sw
    have e1 : P ++ (U ++ (V ++ Q)) = P ++ (U.take V.length ++ (U.drop V.length ++ (V ++ Q))) := by rw [← List.append_assoc (U.take V.length), eU]
    rw [e1] at h;refine af h sw fun _ H1 h1 => ?_;refine aa (bG (by omega) (by omega)) ?_
    have := ih (P ++ V) (U.drop V.length) (U.take V.length) Q (by omega) (by omega) (by omega) (by rw [f2]; omega) R H1 (by
     rw [List.append_assoc]
     exact h1.to)
    rw [hl1, hl2, f2, show P.length + V.length + (U.length - V.length) = P.length + U.length from by omega] at this;rw [show ((U.length : Nat) : Int) - ((V.length : Nat) : Int) = ((U.length - V.length : Nat) : Int) from by omega];refine qL ?_ this
    rintro v' H' ⟨_, e, h2⟩
    refine ⟨(), e, ?_⟩
    have e2 : (P ++ V) ++ (U.take V.length ++ (U.drop V.length ++ Q)) = P ++ (V ++ (U ++ Q)) := by rw [← List.append_assoc (U.take V.length), eU, List.append_assoc]
    rw [e2] at h2;exact h2
   ·refine aa (fJ (by omega)) ?_
    refine gs ?_;refine aa (bG (by omega) (by omega)) ?_;rw [show ((P.length + U.length : Nat) : Int) - ((U.length : Nat) : Int) = ((P.length : Nat) : Int) from by omega];refine aa (aE (by omega) (by omega)) ?_;refine aa (bG (by omega) (by omega)) ?_
    have hl1 : (V.take (V.length - U.length)).length = V.length - U.length := by rw [List.length_take]; omega
    have hl2 : (V.drop (V.length - U.length)).length = U.length := by rw [List.length_drop]; omega
    have eV : V.take (V.length - U.length) ++ V.drop (V.length - U.length) = V := List.take_append_drop ..;have sw := wq s f P (V.take (V.length - U.length)) Q U (V.drop (V.length - U.length)) hl2.symm (by omega);rw [hl1] at sw;rw [show ((P.length + U.length : Nat) : Int) + ((V.length : Nat) : Int) - ((U.length : Nat) : Int) = ((P.length + U.length + (V.length - U.length) : Nat) : Int) from by omega]
    have e1 : P ++ (U ++ (V ++ Q)) = P ++ (U ++ (V.take (V.length - U.length) ++ (V.drop (V.length - U.length) ++ Q))) := by rw [← List.append_assoc (V.take (V.length - U.length)), eV]
    rw [e1] at h;refine af h sw fun _ H1 h1 => ?_;refine aa (bG (by omega) (by omega)) ?_;have := ih P (V.drop (V.length - U.length)) (V.take (V.length - U.length)) (U ++ Q) (by omega) (by omega) (by omega) (by omega) R H1 h1.to;rw [hl1, hl2] at this;rw [show ((V.length : Nat) : Int) - ((U.length : Nat) : Int) = ((V.length - U.length : Nat) : Int) from by omega];refine qL ?_ this
    rintro v' H' ⟨_, e, h2⟩
    refine ⟨(), e, ?_⟩
    have e2 : P ++ (V.take (V.length - U.length) ++ (V.drop (V.length - U.length) ++ (U ++ Q))) = P ++ (V ++ (U ++ Q)) := by rw [← List.append_assoc (V.take (V.length - U.length)), eV]
    rw [e2] at h2;exact h2
theorem TL (s f : Value) (P U V Q : List Pt) (hU : 1 ≤ U.length) (hV : 1 ≤ V.length) (hb : P.length + U.length + V.length < 1000000) :
 Sp alR [s, vi ((P.length : Nat) : Int), vi ((P.length + U.length : Nat) : Int), vi ((P.length + U.length + V.length : Nat) : Int), f] (ts 7 Pt.cells s (P ++ (U ++ (V ++ Q)))) (fun _ : Unit => .tuple #[]) (fun _ => ts 7 Pt.cells s (P ++ (V ++ (U ++ Q)))) := by
 refine aY (avR _ _ _ _ _) fun R H h => ?_;refine aa (bG (by omega) (by omega)) ?_;refine aa (bG (by omega) (by omega)) ?_;refine ah (adO ..) ?_;rw [show ((P.length + U.length : Nat) : Int) - ((P.length : Nat) : Int) = ((U.length : Nat) : Int) from by omega, show ((P.length + U.length + V.length : Nat) : Int) - ((P.length + U.length : Nat) : Int) = ((V.length : Nat) : Int) from by omega];exact avL s f _ P U V Q (bA _) hU hV hb R H h
theorem dA (L : List TP) : (pl L).length = L.length := sE ..
theorem jb (X Y : List TP) : pl (X ++ Y) = pl X ++ pl Y := HN ..
theorem BK.append_right {X Y Z : List TP} : BK X (Y ++ Z) ↔ BK X Y ∧ BK X Z :=
 ⟨fun h => ⟨fun x hx y hy => h x hx y (List.mem_append_left _ hy), fun x hx y hy => h x hx y (List.mem_append_right _ hy)⟩, fun h x hx y hy => (List.mem_append.1 hy).elim (h.1 x hx y) (h.2 x hx y)⟩
theorem IV (A B : List Pt) (s : Value) (X : List TP) (hX : Asc X) (hb : A.length + X.length < 1000000) :
 Sp Xt [s, vi ((A.length : Nat) : Int), vi ((A.length + X.length : Nat) : Int), nE] (ts 7 Pt.cells s (A ++ (pl X ++ B))) (fun _ : List TP => .tuple #[]) (fun Z => pu (lD Z ∧ Z.Perm X) * ts 7 Pt.cells s (A ++ (pl Z ++ B))) := by
 refine aY (avP _ _ _ _) fun R H h => ?_;refine aa (aE (by omega) (by omega)) ?_;refine ah (adE ..) ?_;have outer : ∀ (r S : List TP) (H : AH), lD S → Asc r → BK S r → (S ++ r).Perm X → ac (ts 7 Pt.cells s (A ++ (pl S ++ (pl r ++ B))) * R) H →
  wp (MK s (vi ((A.length : Nat) : Int)) (vi ((A.length + X.length : Nat) : Int)) nE (vi ((A.length + S.length : Nat) : Int)) H) fun v' H' => ∃ Z : List TP, v' = .tuple #[] ∧ ac (pu (lD Z ∧ Z.Perm X) * ts 7 Pt.cells s (A ++ (pl Z ++ B)) * R) H' := by
  intro r
  induction r with
  | nil =>
   intro S H hS hr hSr hp hh;have hlen := hp.length_eq;rw [List.append_nil] at hp hlen;refine ah (AF ..) ?_;refine aa (bE (by omega)) ?_;refine gs ?_;refine ah (Bx ..) ?_;refine am ⟨S, rfl, ?_⟩;rw [aj, ac.pu];exact ⟨⟨hS, hp⟩, by simpa using hh⟩
  | cons x r ih =>
   intro S H hS hr hSr hp hh;have hlen := hp.length_eq;rw [f2, List.length_cons] at hlen;refine ah (AF ..) ?_;refine aa (bS (by omega)) ?_;refine gs ?_;refine ah (adF ..) ?_;refine ah (adG ..) ?_
   -- x goes down
   have inner : ∀ (d : Nat) (S1 S2 : List TP) (H : AH), S1.length = d → S1 ++ S2 = S → (∀ z ∈ S2, x.2.step < z.2.step) → ac (ts 7 Pt.cells s (A ++ (pl S1 ++ (x.2 :: (pl S2 ++ (pl r ++ B))))) * R) H →
    wp (ML s (vi ((A.length : Nat) : Int)) (vi ((A.length + X.length : Nat) : Int)) nE (vi ((A.length + S.length : Nat) : Int)) (vi ((A.length + S1.length : Nat) : Int)) H) fun v' H' => ∃ Z : List TP, v' = .tuple #[] ∧ ac (pu (lD Z ∧ Z.Perm X) * ts 7 Pt.cells s (A ++ (pl Z ++ B)) * R) H' := by
    intro d
    induction d with
    | zero =>
     intro S1 S2 H hd hS12 hz h2;have hS1 : S1 = [] := List.eq_nil_of_length_eq_zero hd;subst hS1;refine ah (Ju ..) ?_;refine aa (fJ (by simp)) ?_;refine gs ?_;refine ah (By ..) ?_;refine ah (Jt ..) ?_;refine aa (aE (by omega) (by omega)) ?_;rw [List.nil_append] at hS12;subst hS12
     have := ih (x :: S2) H (gW.2 ⟨fun z hz2 => .inl (hz z hz2), hS⟩) (List.pairwise_cons.1 hr).2 (fun a ha b hb2 => by
      rcases ul.1 ha with e | ha
      ·subst e; exact (List.pairwise_cons.1 hr).1 b hb2
      ·exact hSr a ha b (List.mem_cons_of_mem _ hb2)) ((List.perm_middle (l₁ := S2) (l₂ := r) (a := x)).symm.trans hp) (by simpa using h2)
     rw [List.length_cons] at this;rw [show ((A.length + S2.length : Nat) : Int) + 1 = ((A.length + (S2.length + 1) : Nat) : Int) from by omega];exact this
    | succ d ihd =>
     intro S1 S2 H hd hS12 hz h2
     obtain ⟨S0, y, rfl⟩ : ∃ S0 y, S1 = S0 ++ [y] := by
      refine ⟨S1.dropLast, S1.getLast (by intro e; rw [e] at hd; simp at hd), ?_⟩;rw [List.dropLast_concat_getLast]
     have hd0 : S0.length = d := by simpa using hd
     have hSl := congrArg List.length hS12;simp only [f2, List.length_singleton] at hSl
     have el : A ++ (pl (S0 ++ [y]) ++ (x.2 :: (pl S2 ++ (pl r ++ B)))) = (A ++ pl S0) ++ y.2 :: ([] ++ x.2 :: (pl S2 ++ (pl r ++ B))) := by simp [pl]
     rw [el] at h2;refine ah (Ju ..) ?_;refine aa (j5 (by simp; omega)) ?_;refine gs ?_;rw [show (((A.length + (S0 ++ [y]).length : Nat)) : Int) = ((A.length + S0.length + 1 : Nat) : Int) from by simp; omega];refine rr (i := A.length + S0.length + 1) rfl h2 (at2 (by simp [pl])) ?_;refine gs ?_;refine aa (bG (by omega) (by omega)) ?_;refine gs ?_;refine rr (i := A.length + S0.length) (by omega) h2 (tz (by simp [pl])) ?_;refine zf ?_;refine YC h2 fun H3 h3 => ?_
     by_cases hc : x.2.step < y.2.step
     ·refine iq ?_
      refine aa (CW hc) ?_;refine gs ?_;refine ah (TM ..) ?_;refine aa (bG (by omega) (by omega)) ?_;refine aa (bG (by omega) (by omega)) ?_;refine UB (i := A.length + S0.length + 1) (j := A.length + S0.length) rfl (by omega) h3 (at2 (by simp [pl])) (tz (by simp [pl])) fun H4 h4 => ?_;rw [aoE (by simp [pl]) (by simp [pl])] at h4;refine ah (TN ..) ?_;refine aa (bG (by omega) (by omega)) ?_
      have := ihd S0 (y :: S2) H4 hd0 (by rw [← hS12]; simp) (fun z hz2 => by
       rcases ul.1 hz2 with e | hz2
       ·subst e; exact hc
       ·exact hz z hz2) (by
       have e2 : (A ++ pl S0) ++ x.2 :: ([] ++ y.2 :: (pl S2 ++ (pl r ++ B))) = A ++ (pl S0 ++ (x.2 :: (pl (y :: S2) ++ (pl r ++ B)))) := by simp [pl]
       rw [e2] at h4
       exact h4.to)
      rw [show ((A.length + S0.length + 1 : Nat) : Int) - 1 = ((A.length + S0.length : Nat) : Int) from by omega];exact this
     ·refine iq ?_
      refine aa (CV hc) ?_;refine gs ?_;refine ah (By ..) ?_;refine ah (Jt ..) ?_;refine aa (aE (by omega) (by omega)) ?_;rw [← hS12] at hS hSr hp;have hS1s := (dd.1 hS).1
      have hx1 : ∀ z ∈ S0 ++ [y], ltT z x := by
       intro z hz1;have hzt := hSr z (List.mem_append_left _ hz1) x (List.mem_cons_self ..)
       have : z.2.step ≤ y.2.step := by
        rcases List.mem_append.1 hz1 with h | h
        ·exact L4 ((dd.1 hS1s).2.2 z h y (List.mem_singleton.2 rfl))
        ·rw [List.mem_singleton.1 h]; exact Int.le_refl _
       unfold ltT;omega
      have := ih ((S0 ++ [y]) ++ x :: S2) H3 (dd.2 ⟨hS1s, gW.2 ⟨fun z hz2 => .inl (hz z hz2), (dd.1 hS).2.1⟩, fun a ha b hb2 => by
       rcases ul.1 hb2 with e | hb2
       ·subst e; exact hx1 a ha
       ·exact (dd.1 hS).2.2 a ha b hb2⟩) (List.pairwise_cons.1 hr).2 (fun a ha b hb2 => by
       rcases List.mem_append.1 ha with ha | ha
       ·exact hSr a (List.mem_append_left _ ha) b (List.mem_cons_of_mem _ hb2)
       ·rcases ul.1 ha with e | ha
        ·subst e; exact (List.pairwise_cons.1 hr).1 b hb2
        ·exact hSr a (List.mem_append_right _ ha) b (List.mem_cons_of_mem _ hb2)) (by
       refine List.Perm.trans ?_ hp;have p1 : (x :: (S2 ++ r)).Perm (S2 ++ x :: r) := (List.perm_middle (l₁ := S2) (l₂ := r) (a := x)).symm
       simpa using (p1.append_left (S0 ++ [y]))) (by
       have e2 : (A ++ pl S0) ++ y.2 :: ([] ++ x.2 :: (pl S2 ++ (pl r ++ B))) = A ++ (pl ((S0 ++ [y]) ++ x :: S2) ++ (pl r ++ B)) := by simp [pl]
       rw [← e2]
       exact h3.to)
      have e3 : ((S0 ++ [y]) ++ x :: S2).length = S.length + 1 := by simp; omega
      rw [e3] at this;rw [show ((A.length + S.length : Nat) : Int) + 1 = ((A.length + (S.length + 1) : Nat) : Int) from by omega];exact this
   exact inner S.length S [] H rfl (List.append_nil S) (fun z hz => by cases hz) (by simpa using hh)
 cases X with
 | nil =>
  refine ah (AF ..) ?_;refine aa (bE (by simp; omega)) ?_;refine gs ?_;refine ah (Bx ..) ?_;refine am ⟨[], rfl, ?_⟩;rw [aj, ac.pu];exact ⟨⟨M4, List.Perm.refl _⟩, h⟩
 | cons x X =>
  have := outer X [x] H (Yp x) (List.pairwise_cons.1 hX).2 (fun a ha b hb2 => by rw [List.mem_singleton.1 ha]; exact (List.pairwise_cons.1 hX).1 b hb2) (List.Perm.refl _) (by simpa using h);rw [List.length_singleton] at this;rw [show ((A.length : Nat) : Int) + 1 = ((A.length + 1 : Nat) : Int) from by omega];exact this
theorem lB {L : List TP} (h : lD L) {i j : Nat} (hij : i ≤ j) (hj : j < L.length) : (L[i]'(by omega)).2.step ≤ L[j].2.step := by
 by_cases e : i = j
 ·subst e; exact Int.le_refl _
 ·exact L4 (List.pairwise_iff_getElem.1 h i j (by omega) hj (by omega))
theorem ar7 {X1 X2 Y1 Y2 Z1 Z2 : List TP} (hX : lD (X1 ++ X2)) (hY : lD (Y1 ++ Y2)) (hB : BK (X1 ++ X2) (Y1 ++ Y2)) (h1 : ∀ x ∈ X1, ∀ y ∈ Y2, x.2.step ≤ y.2.step) (h2 : ∀ y ∈ Y1, ∀ x ∈ X2, y.2.step < x.2.step)
 (z1 : lD Z1) (z2 : lD Z2) (p1 : Z1.Perm (X1 ++ Y1)) (p2 : Z2.Perm (X2 ++ Y2)) : lD (Z1 ++ Z2) ∧ (Z1 ++ Z2).Perm ((X1 ++ X2) ++ (Y1 ++ Y2)) := by
 refine ⟨dd.2 ⟨z1, z2, fun a ha b hb => ?_⟩, ?_⟩
 ·rcases List.mem_append.1 (p1.mem_iff.1 ha) with ha | ha <;> rcases List.mem_append.1 (p2.mem_iff.1 hb) with hb | hb
  ·exact (dd.1 hX).2.2 a ha b hb
  ·have := h1 a ha b hb
   have := hB a (List.mem_append_left _ ha) b (List.mem_append_right _ hb);unfold ltT;omega
  ·exact .inl (h2 a ha b hb)
  ·exact (dd.1 hY).2.2 a ha b hb
 ·refine (p1.append p2).trans ?_
  have : ((X1 ++ Y1) ++ (X2 ++ Y2)).Perm ((X1 ++ X2) ++ (Y1 ++ Y2)) := by
   rw [List.append_assoc, List.append_assoc];refine List.Perm.append_left X1 ?_;rw [← List.append_assoc, ← List.append_assoc];exact List.Perm.append_right Y2 List.perm_append_comm
  exact this
theorem n9 {L : List TP} {n : Nat} {x : TP} (h : x ∈ L.take n) : ∃ i, ∃ (hi : i < L.length), i < n ∧ L[i] = x := by
 obtain ⟨i, hi, e⟩ := List.mem_iff_getElem.1 h;rw [List.length_take] at hi;exact ⟨i, by omega, by omega, by rw [← e, List.getElem_take]⟩
theorem n0 {L : List TP} {n : Nat} {x : TP} (h : x ∈ L.drop n) : ∃ i, ∃ (hi : i < L.length), n ≤ i ∧ L[i] = x := by
 obtain ⟨i, hi, e⟩ := List.mem_iff_getElem.1 h;rw [List.length_drop] at hi;exact ⟨n + i, by omega, by omega, by rw [← e, List.getElem_drop]⟩
section
variable (A B : List Pt) (s : Value) (X Y : List TP)
theorem at9 {C : Nat} (hC : C < X.length) {i : Nat} (hi : i = A.length + C) : (A ++ (pl X ++ (pl Y ++ B)))[i]? = some X[C].2 := by
 subst hi;rw [List.getElem?_append_right (by omega), Nat.add_sub_cancel_left, List.getElem?_append_left (by rw [dA]; exact hC), vz, cG hC]; rfl
theorem auA {C : Nat} (hC : C < Y.length) {i : Nat} (hi : i = A.length + X.length + C) : (A ++ (pl X ++ (pl Y ++ B)))[i]? = some Y[C].2 := by
 subst hi;rw [List.getElem?_append_right (by omega), List.getElem?_append_right (by rw [dA]; omega), dA, show A.length + X.length + C - A.length - X.length = C from by omega, List.getElem?_append_left (by rw [dA]; exact hC), vz, cG hC]; rfl
end
theorem YZ (s : Value) (x : Pt) (Q : List Pt) {R : SP} : ∀ (M P : List Pt) (H : AH), P.length + M.length < 1000000 → ac (ts 7 Pt.cells s (P ++ x :: (M ++ Q)) * R) H →
 wp (DA s (vi ((P.length + M.length + 1 : Nat) : Int)) (vi ((P.length : Nat) : Int)) H) fun v' H' => v' = .tuple #[] ∧ ac (ts 7 Pt.cells s (P ++ (M ++ x :: Q)) * R) H' := by
 intro M
 induction M with
 | nil =>
  intro P H hb hh;refine ah (GW ..) ?_;rw [List.length_nil, Nat.add_zero];refine aa (bG (by omega) (by omega)) ?_;refine aa (bE (by omega)) ?_;refine gs ?_;refine ah (MP ..) ?_;refine ah (T6 ..) ?_;exact am ⟨rfl, hh⟩
 | cons y M ih =>
  intro P H hb hh;rw [List.length_cons] at hb;refine ah (GW ..) ?_;rw [List.length_cons];refine aa (bG (by omega) (by omega)) ?_;refine aa (bS (by omega)) ?_;refine gs ?_;refine ah (T8 ..) ?_;refine aa (aE (by omega) (by omega)) ?_;refine aa (aE (by omega) (by omega)) ?_;have e : P ++ x :: ((y :: M) ++ Q) = P ++ x :: ([] ++ y :: (M ++ Q)) := rfl;rw [e] at hh;refine UB (i := P.length) (j := P.length + 1) rfl (by omega) hh (tz rfl) (at2 (by simp)) fun H2 h2 => ?_;rw [atT rfl (by simp)] at h2;refine ah (T9 ..) ?_;refine aa (aE (by omega) (by omega)) ?_
  have := ih (P ++ [y]) H2 (by simp; omega) (by
   have e2 : P ++ y :: ([] ++ x :: (M ++ Q)) = (P ++ [y]) ++ x :: (M ++ Q) := by simp
   rw [← e2]
   exact h2.to)
  rw [f2, List.length_singleton, show P.length + 1 + M.length + 1 = P.length + (M.length + 1) + 1 from by omega] at this;rw [show ((P.length : Nat) : Int) + 1 = ((P.length + 1 : Nat) : Int) from by omega];refine qL ?_ this
  rintro v' H' ⟨e1, h3⟩
  refine ⟨e1, ?_⟩
  have e3 : (P ++ [y]) ++ (M ++ x :: Q) = P ++ ((y :: M) ++ x :: Q) := by simp
  rw [e3] at h3;exact h3
theorem NC (s : Value) (y : Pt) {R : SP} : ∀ (d : Nat) (M P Q : List Pt) (H : AH), M.length = d → P.length + M.length < 1000000 → ac (ts 7 Pt.cells s (P ++ (M ++ y :: Q)) * R) H →
 wp (Dz s (vi ((P.length : Nat) : Int)) (vi ((P.length + M.length : Nat) : Int)) H) fun v' H' => v' = .tuple #[] ∧ ac (ts 7 Pt.cells s (P ++ y :: (M ++ Q)) * R) H' := by
 intro d
 induction d with
 | zero =>
  intro M P Q H hd hb hh;have : M = [] := List.eq_nil_of_length_eq_zero hd;subst this;refine ah (GU ..) ?_;refine aa (fJ (by simp)) ?_;refine gs ?_;refine ah (MN ..) ?_;refine ah (TW ..) ?_;exact am ⟨rfl, hh⟩
 | succ d ih =>
  intro M P Q H hd hb hh;obtain ⟨M0, z, rfl⟩ : ∃ M0 z, M = M0 ++ [z] := ⟨M.dropLast, M.getLast (by intro e; rw [e] at hd; simp at hd), by rw [List.dropLast_concat_getLast]⟩
  have hd0 : M0.length = d := by simpa using hd
  rw [f2, List.length_singleton] at hb;refine ah (GU ..) ?_;rw [f2, List.length_singleton];refine aa (j5 (by omega)) ?_;refine gs ?_;refine ah (TY ..) ?_;refine aa (bG (by omega) (by omega)) ?_;refine aa (bG (by omega) (by omega)) ?_
  have e : P ++ ((M0 ++ [z]) ++ y :: Q) = (P ++ M0) ++ z :: ([] ++ y :: Q) := by simp
  rw [e] at hh;refine UB (i := P.length + M0.length + 1) (j := P.length + M0.length) (by omega) (by omega) hh (at2 (by simp)) (tz (by simp)) fun H2 h2 => ?_;rw [aoE (by simp) (by simp)] at h2;refine ah (TZ ..) ?_;refine aa (bG (by omega) (by omega)) ?_
  have := ih M0 P (z :: Q) H2 hd0 (by omega) (by
   have e2 : (P ++ M0) ++ y :: ([] ++ z :: Q) = P ++ (M0 ++ y :: (z :: Q)) := by simp
   rw [← e2]
   exact h2.to)
  rw [show ((P.length + (M0.length + 1) : Nat) : Int) - 1 = ((P.length + M0.length : Nat) : Int) from by omega];refine qL ?_ this
  rintro v' H' ⟨e1, h3⟩
  refine ⟨e1, ?_⟩
  have e3 : P ++ y :: (M0 ++ z :: Q) = P ++ y :: ((M0 ++ [z]) ++ Q) := by simp
  rw [e3] at h3;exact h3
section
variable (A B : List Pt) (s : Value) (X Y : List TP) (hX : lD X) (hY : lD Y) (hB : BK X Y) (hb : A.length + X.length + Y.length < 1000000)
include hX hY hB hb
theorem O5 (x : TP) (hx : X = [x]) {R : SP} {H : AH} (h : ac (ts 7 Pt.cells s (A ++ (pl X ++ (pl Y ++ B))) * R) H) :
 wp (MT s (vi ((A.length : Nat) : Int)) nE (vi ((A.length + X.length : Nat) : Int)) (vi ((A.length + X.length + Y.length : Nat) : Int)) H) fun v' H' => ∃ Z : List TP, v' = .tuple #[] ∧ ac (pu (lD Z ∧ Z.Perm (X ++ Y)) * ts 7 Pt.cells s (A ++ (pl Z ++ B)) * R) H' := by
 have hXl : X.length = 1 := by rw [hx]; rfl
 have hx0 : X[0]'(by omega) = x := by subst hx; rfl
 refine ah (T4 ..) ?_;have bin : ∀ (d i j : Nat) (H : AH), j - i = d → i ≤ j → j ≤ Y.length → (∀ C, ∀ hC : C < Y.length, C < i → Y[C].2.step < x.2.step) → (∀ C, ∀ hC : C < Y.length, j ≤ C → ¬ Y[C].2.step < x.2.step) → ac (ts 7 Pt.cells s (A ++ (pl X ++ (pl Y ++ B))) * R) H →
  wp (tf s (vi ((A.length : Nat) : Int)) nE (vi ((A.length + X.length + i : Nat) : Int)) (vi ((A.length + X.length + j : Nat) : Int)) H) fun v' H' => ∃ Z : List TP, v' = .tuple #[] ∧ ac (pu (lD Z ∧ Z.Perm (X ++ Y)) * ts 7 Pt.cells s (A ++ (pl Z ++ B)) * R) H' := by
  intro d
  induction d using Nat.strongRecOn with
  | ind d ih =>
   intro i j H hd hij hj hlo hhi hh;refine ah (PM ..) ?_
   by_cases hlt : i < j
   ·refine aa (bS (by omega)) ?_
    refine gs ?_;refine ah (PO ..) ?_;refine YA rfl rfl (by omega) ?_
    have hm : (A.length + X.length + i + (A.length + X.length + j)) / 2 = A.length + X.length + (i + j) / 2 := by omega
    rw [hm]
    have hc : (i + j) / 2 < Y.length := by omega
    refine rr (i := A.length + X.length + (i + j) / 2) rfl hh (auA A B X Y hc rfl) ?_;refine rr (i := A.length) rfl hh (at9 A B X Y (C := 0) (by omega) (by omega)) ?_;refine YC hh fun H1 h1 => ?_;rw [hx0]
    by_cases hcmp : Y[(i + j) / 2].2.step < x.2.step
    ·refine aa (CW hcmp) ?_
     refine gs ?_;refine aa (aE (by omega) (by omega)) ?_;rw [show ((A.length + X.length + (i + j) / 2 : Nat) : Int) + 1 = ((A.length + X.length + ((i + j) / 2 + 1) : Nat) : Int) from by omega];refine ih (j - ((i + j) / 2 + 1)) (by omega) ((i + j) / 2 + 1) j H1 rfl (by omega) hj (fun C hC hCl => ?_) hhi h1;have := lB hY (i := C) (j := (i + j) / 2) (by omega) hc;omega
    ·refine aa (CV hcmp) ?_
     refine gs ?_;refine ih ((i + j) / 2 - i) (by omega) i ((i + j) / 2) H1 rfl (by omega) (by omega) hlo (fun C hC hCl => ?_) h1;have := lB hY (i := (i + j) / 2) (j := C) hCl hC;omega
   ·refine aa (bE (by omega)) ?_
    refine gs ?_
    have e : j = i := by omega
    subst e;refine ah (HY ..) ?_;refine ah (T5 ..) ?_;refine ah (T7 ..) ?_
    have ht : (pl (Y.take j)).length = j := by rw [dA, List.length_take]; omega
    have eY : Y.take j ++ Y.drop j = Y := List.take_append_drop ..
    have b := YZ s x.2 (pl (Y.drop j) ++ B) (R := R) (pl (Y.take j)) A H (by omega) (by
     have e2 : A ++ (pl X ++ (pl Y ++ B)) = A ++ x.2 :: (pl (Y.take j) ++ (pl (Y.drop j) ++ B)) := by
      rw [← List.append_assoc (pl (Y.take j)), ← jb, eY, hx]; rfl
     rw [← e2]
     exact hh)
    rw [ht] at b;rw [hXl, show A.length + 1 + j = A.length + j + 1 from by omega];refine qL ?_ b
    rintro v' H' ⟨e1, h3⟩
    refine ⟨Y.take j ++ x :: Y.drop j, e1, ?_⟩;rw [aj, ac.pu];have hYs := dd.1 (by rw [eY]; exact hY : lD (Y.take j ++ Y.drop j));have hbel : ∀ y ∈ Y, x.1 < y.1 := fun y hy => hB x (by rw [hx]; exact List.mem_singleton.2 rfl) y hy;refine ⟨⟨dd.2 ⟨hYs.1, gW.2 ⟨fun y hy => ?_, hYs.2.1⟩, fun a ha b hb2 => ?_⟩, ?_⟩, ?_⟩
    ·obtain ⟨i, hi, hge, rfl⟩ := n0 hy
     have := hhi i hi hge;have := hbel _ (OX hi);unfold ltT;omega
    ·rcases ul.1 hb2 with e3 | hb2
     ·subst e3
      obtain ⟨i, hi, hlt2, rfl⟩ := n9 ha;exact .inl (hlo i hi hlt2)
     ·exact hYs.2.2 a ha b hb2
    ·refine (List.perm_middle (l₁ := Y.take j) (l₂ := Y.drop j) (a := x)).trans ?_
     rw [eY, hx];exact List.Perm.refl _
    ·have e4 : A ++ (pl (Y.take j) ++ x.2 :: (pl (Y.drop j) ++ B)) = A ++ (pl (Y.take j ++ x :: Y.drop j) ++ B) := by simp [pl]
     rw [e4] at h3;exact h3
 have := bin Y.length 0 Y.length H rfl (Nat.zero_le _) (bA _) (fun C hC hl => by omega) (fun C hC hl => by omega) h;exact this
theorem SQ (y : TP) (hy : Y = [y]) {R : SP} {H : AH} (h : ac (ts 7 Pt.cells s (A ++ (pl X ++ (pl Y ++ B))) * R) H) :
 wp (MQ s (vi ((A.length + X.length : Nat) : Int)) nE (vi ((A.length : Nat) : Int)) (vi ((A.length + X.length : Nat) : Int)) H) fun v' H' => ∃ Z : List TP, v' = .tuple #[] ∧ ac (pu (lD Z ∧ Z.Perm (X ++ Y)) * ts 7 Pt.cells s (A ++ (pl Z ++ B)) * R) H' := by
 have hYl : Y.length = 1 := by rw [hy]; rfl
 have hy0 : Y[0]'(by omega) = y := by subst hy; rfl
 refine ah (TU ..) ?_;have bin : ∀ (d i j : Nat) (H : AH), j - i = d → i ≤ j → j ≤ X.length → (∀ C, ∀ hC : C < X.length, C < i → ¬ y.2.step < X[C].2.step) → (∀ C, ∀ hC : C < X.length, j ≤ C → y.2.step < X[C].2.step) → ac (ts 7 Pt.cells s (A ++ (pl X ++ (pl Y ++ B))) * R) H →
  wp (yZ s (vi ((A.length + X.length : Nat) : Int)) nE (vi ((A.length + i : Nat) : Int)) (vi ((A.length + j : Nat) : Int)) H) fun v' H' => ∃ Z : List TP, v' = .tuple #[] ∧ ac (pu (lD Z ∧ Z.Perm (X ++ Y)) * ts 7 Pt.cells s (A ++ (pl Z ++ B)) * R) H' := by
  intro d
  induction d using Nat.strongRecOn with
  | ind d ih =>
   intro i j H hd hij hj hlo hhi hh;refine ah (T0 ..) ?_
   by_cases hlt : i < j
   ·refine aa (bS (by omega)) ?_
    refine gs ?_;refine ah (T3 ..) ?_;refine YA rfl rfl (by omega) ?_
    have hm : (A.length + i + (A.length + j)) / 2 = A.length + (i + j) / 2 := by omega
    rw [hm]
    have hc : (i + j) / 2 < X.length := by omega
    refine rr (i := A.length + X.length) rfl hh (auA A B X Y (C := 0) (by omega) rfl) ?_;refine rr (i := A.length + (i + j) / 2) rfl hh (at9 A B X Y hc rfl) ?_;refine YC hh fun H1 h1 => ?_;rw [hy0]
    by_cases hcmp : y.2.step < X[(i + j) / 2].2.step
    ·refine aa (CW hcmp) ?_
     refine gs ?_;rw [Bool.not_true];refine gs ?_;refine ih ((i + j) / 2 - i) (by omega) i ((i + j) / 2) H1 rfl (by omega) (by omega) hlo (fun C hC hCl => ?_) h1;have := lB hX (i := (i + j) / 2) (j := C) hCl hC;omega
    ·refine aa (CV hcmp) ?_
     refine gs ?_;rw [Bool.not_false];refine gs ?_;refine aa (aE (by omega) (by omega)) ?_;rw [show ((A.length + (i + j) / 2 : Nat) : Int) + 1 = ((A.length + ((i + j) / 2 + 1) : Nat) : Int) from by omega];refine ih (j - ((i + j) / 2 + 1)) (by omega) ((i + j) / 2 + 1) j H1 rfl (by omega) hj (fun C hC hCl => ?_) hhi h1;have := lB hX (i := C) (j := (i + j) / 2) (by omega) hc;omega
   ·refine aa (bE (by omega)) ?_
    refine gs ?_
    have e : j = i := by omega
    subst e;refine ah (MO ..) ?_;refine ah (TV ..) ?_;refine ah (TX ..) ?_
    have ht : (A ++ pl (X.take j)).length = A.length + j := by rw [f2, dA, List.length_take]; omega
    have ht2 : (pl (X.drop j)).length = X.length - j := by rw [dA, List.length_drop]
    have eX : X.take j ++ X.drop j = X := List.take_append_drop ..
    have b := NC s y.2 (R := R) (X.length - j) (pl (X.drop j)) (A ++ pl (X.take j)) B H ht2 (by rw [ht, ht2]; omega) (by
     have e2 : A ++ (pl X ++ (pl Y ++ B)) = (A ++ pl (X.take j)) ++ (pl (X.drop j) ++ y.2 :: B) := by
      rw [List.append_assoc, ← List.append_assoc (pl (X.take j)), ← jb, eX, hy]; rfl
     rw [← e2]
     exact hh)
    rw [ht, ht2, show A.length + j + (X.length - j) = A.length + X.length from by omega] at b;refine qL ?_ b
    rintro v' H' ⟨e1, h3⟩
    refine ⟨X.take j ++ y :: X.drop j, e1, ?_⟩;rw [aj, ac.pu];have hXs := dd.1 (by rw [eX]; exact hX : lD (X.take j ++ X.drop j));have hbel : ∀ x ∈ X, x.1 < y.1 := fun x hx => hB x hx y (by rw [hy]; exact List.mem_singleton.2 rfl);refine ⟨⟨dd.2 ⟨hXs.1, gW.2 ⟨fun z hz => ?_, hXs.2.1⟩, fun a ha b hb2 => ?_⟩, ?_⟩, ?_⟩
    ·obtain ⟨i, hi, hge, rfl⟩ := n0 hz
     exact .inl (hhi i hi hge)
    ·rcases ul.1 hb2 with e3 | hb2
     ·subst e3
      obtain ⟨i, hi, hlt2, rfl⟩ := n9 ha;have := hlo i hi hlt2;have := hbel _ (OX hi);unfold ltT;omega
     ·exact hXs.2.2 a ha b hb2
    ·refine (List.perm_middle (l₁ := X.take j) (l₂ := X.drop j) (a := y)).trans ?_
     rw [eX, hy];exact (List.perm_append_comm (l₁ := [y]) (l₂ := X))
    ·have e4 : (A ++ pl (X.take j)) ++ y.2 :: (pl (X.drop j) ++ B) = A ++ (pl (X.take j ++ y :: X.drop j) ++ B) := by simp [pl]
     rw [e4] at h3;exact h3
 have := bin X.length 0 X.length H rfl (Nat.zero_le _) (bA _) (fun C hC hl => by omega) (fun C hC hl => by omega) h;rw [Nat.add_zero] at this;exact this
end
def LoP (X Y : List TP) (hf S : Nat) : Prop := ∃ C, C + 1 = S ∧ ∃ (h1 : C < X.length) (h2 : hf - 1 - C < Y.length), X[C].2.step ≤ Y[hf - 1 - C].2.step
def HiP (X Y : List TP) (hf S : Nat) : Prop := ∃ (h1 : S < X.length) (h2 : hf - 1 - S < Y.length), S < hf ∧ Y[hf - 1 - S].2.step < X[S].2.step
theorem JM (s : Value) : ∀ (N : Nat) (A B : List Pt) (X Y : List TP), X.length + Y.length ≤ N → 1 ≤ X.length → 1 ≤ Y.length → lD X → lD Y → BK X Y → A.length + X.length + Y.length < 1000000 →
 Sp I3 [s, vi ((A.length : Nat) : Int), vi ((A.length + X.length : Nat) : Int), vi ((A.length + X.length + Y.length : Nat) : Int), nE] (ts 7 Pt.cells s (A ++ (pl X ++ (pl Y ++ B)))) (fun _ : List TP => .tuple #[]) (fun Z => pu (lD Z ∧ Z.Perm (X ++ Y)) * ts 7 Pt.cells s (A ++ (pl Z ++ B))) := by
 intro N
 induction N with
 | zero => intro A B X Y hN hX1; omega
 | succ N ih =>
  intro A B X Y hN hX1 hY1 hX hY hB hb;refine aY (avQ _ _ _ _ _) fun R H h => ?_;refine aa (bG (by omega) (by omega)) ?_
  by_cases hx1 : X.length = 1
  ·refine aa (bi (by omega)) ?_
   refine ah (GV ..) ?_;refine gs ?_;obtain ⟨x, hx⟩ := List.length_eq_one_iff.1 hx1;exact O5 A B s X Y hX hY hB hb x hx h
  ·refine aa (aG (by omega)) ?_
   refine ah (GV ..) ?_;refine gs ?_;refine ah (adH ..) ?_;refine aa (bG (by omega) (by omega)) ?_
   by_cases hy1 : Y.length = 1
   ·refine aa (bi (by omega)) ?_
    refine ah (GT ..) ?_;refine gs ?_;obtain ⟨y, hy⟩ := List.length_eq_one_iff.1 hy1;exact SQ A B s X Y hX hY hB hb y hy h
   ·refine aa (aG (by omega)) ?_
    refine ah (GT ..) ?_;refine gs ?_;refine ah (adI ..) ?_;refine YA rfl rfl (by omega) ?_;obtain ⟨hf, hfe⟩ : ∃ hf, hf = (X.length + Y.length) / 2 := ⟨_, rfl⟩;rw [show (A.length + (A.length + X.length + Y.length)) / 2 = A.length + hf from by omega];refine aa (aE (by omega) (by omega)) ?_;refine ah (adJ ..) ?_
    -- what is behind the search
    have rest : ∀ (S : Nat) (H : AH), S ≤ X.length → S ≤ hf → hf - S ≤ Y.length →
     (LoP X Y hf S ∨ S = 0 ∨ hf - S = Y.length) →
     (HiP X Y hf S ∨ S = X.length ∨ S = hf) →
     ac (ts 7 Pt.cells s (A ++ (pl X ++ (pl Y ++ B))) * R) H →
     wp (TT s (vi ((A.length : Nat) : Int)) (vi ((A.length + X.length : Nat) : Int)) (vi ((A.length + X.length + Y.length : Nat) : Int)) nE (vi ((A.length + hf : Nat) : Int)) (vi (((A.length + hf : Nat) : Int) + ((A.length + X.length : Nat) : Int))) (vi ((A.length + S : Nat) : Int)) H)
      fun v' H' => ∃ Z : List TP, v' = .tuple #[] ∧ ac (pu (lD Z ∧ Z.Perm (X ++ Y)) * ts 7 Pt.cells s (A ++ (pl Z ++ B)) * R) H' := by
     intro S H hSX hSf hSY hlo hhi hh;obtain ⟨E, hE⟩ : ∃ E, E = hf - S := ⟨_, rfl⟩;have eX : X.take S ++ X.drop S = X := List.take_append_drop ..;have eY : Y.take E ++ Y.drop E = Y := List.take_append_drop ..
     have l1 : (X.take S).length = S := by rw [List.length_take]; omega
     have l2 : (X.drop S).length = X.length - S := List.length_drop
     have l3 : (Y.take E).length = E := by rw [List.length_take]; omega
     have l4 : (Y.drop E).length = Y.length - E := List.length_drop
     have c1 : ∀ x ∈ X.take S, ∀ y ∈ Y.drop E, x.2.step ≤ y.2.step := by
      clear hhi
      intro x hx y hy;obtain ⟨i, hi, hiS, rfl⟩ := n9 hx;obtain ⟨j, hj, hjE, rfl⟩ := n0 hy
      rcases hlo with ⟨C, hC, h1, h2, h3⟩ | h0 | h0
      ·have a1 := lB hX (i := i) (j := C) (by omega) h1
       have a2 := lB hY (i := hf - 1 - C) (j := j) (by omega) hj;omega
      ·omega
      ·omega
     have c2 : ∀ y ∈ Y.take E, ∀ x ∈ X.drop S, y.2.step < x.2.step := by
      clear hlo
      intro y hy x hx;obtain ⟨i, hi, hiS, rfl⟩ := n0 hx;obtain ⟨j, hj, hjE, rfl⟩ := n9 hy
      rcases hhi with ⟨h1, h2, h4, h3⟩ | h0 | h0
      ·have a1 := lB hX (i := S) (j := i) (by omega) hi
       have a2 := lB hY (i := j) (j := hf - 1 - S) (by omega) h2;omega
      ·omega
      ·omega
     clear hlo hhi
     have sX := dd.1 (by rw [eX]; exact hX : lD (X.take S ++ X.drop S));have sY := dd.1 (by rw [eY]; exact hY : lD (Y.take E ++ Y.drop E))
     have hB' : BK (X.take S ++ X.drop S) (Y.take E ++ Y.drop E) := by rw [eX, eY]; exact hB
     have b11 : BK (X.take S) (Y.take E) := hB'.sub (fun x => List.mem_append_left _) (fun x => List.mem_append_left _);have b22 : BK (X.drop S) (Y.drop E) := hB'.sub (fun x => List.mem_append_right _) (fun x => List.mem_append_right _);refine ah (adK ..) ?_;refine aa (bG (by omega) (by omega)) ?_;rw [show ((A.length + hf : Nat) : Int) + ((A.length + X.length : Nat) : Int) - ((A.length + S : Nat) : Int) = ((A.length + X.length + E : Nat) : Int) from by omega];refine ah (adL ..) ?_
     -- the second halves
     have part2 : ∀ (Z1 : List TP) (H : AH), lD Z1 → Z1.Perm (X.take S ++ Y.take E) → ac (ts 7 Pt.cells s (A ++ (pl Z1 ++ (pl (X.drop S) ++ (pl (Y.drop E) ++ B)))) * R) H →
      wp (MS s (vi ((A.length + X.length + Y.length : Nat) : Int)) nE (vi ((A.length + hf : Nat) : Int)) (vi ((A.length + X.length + E : Nat) : Int)) H)
       fun v' H' => ∃ Z : List TP, v' = .tuple #[] ∧ ac (pu (lD Z ∧ Z.Perm (X ++ Y)) * ts 7 Pt.cells s (A ++ (pl Z ++ B)) * R) H' := by
      intro Z1 H hz1 hp1 h1;have lz := hp1.length_eq;rw [f2, l1, l3] at lz;have done : ∀ (Z2 : List TP) (H : AH), lD Z2 → Z2.Perm (X.drop S ++ Y.drop E) → ac (ts 7 Pt.cells s ((A ++ pl Z1) ++ (pl Z2 ++ B)) * R) H →
       ∃ Z : List TP, (.tuple #[] : Value) = .tuple #[] ∧ ac (pu (lD Z ∧ Z.Perm (X ++ Y)) * ts 7 Pt.cells s (A ++ (pl Z ++ B)) * R) H := by
       intro Z2 H hz2 hp2 h2;have cut := ar7 (by rw [eX]; exact hX) (by rw [eY]; exact hY) hB' c1 c2 hz1 hz2 hp1 hp2;rw [eX, eY] at cut;refine ⟨Z1 ++ Z2, rfl, ?_⟩;rw [aj, ac.pu];refine ⟨cut, ?_⟩;rw [jb, List.append_assoc];rw [List.append_assoc] at h2;exact h2
      refine ah (adN ..) ?_
      by_cases g1 : hf < X.length + E
      ·refine aa (bS (by omega)) ?_
       refine gs ?_
       by_cases g2 : E < Y.length
       ·refine aa (bS (by omega)) ?_
        refine gs ?_;have m := ih (A ++ pl Z1) B (X.drop S) (Y.drop E) (by omega) (by omega) (by omega) sX.2.1 sY.2.1 b22 (by rw [f2, dA]; omega);rw [f2, dA, lz, l2, l4, show A.length + (S + E) = A.length + hf from by omega, show A.length + hf + (X.length - S) = A.length + X.length + E from by omega, show A.length + X.length + E + (Y.length - E) = A.length + X.length + Y.length from by omega] at m
        have h2 : ac (ts 7 Pt.cells s ((A ++ pl Z1) ++ (pl (X.drop S) ++ (pl (Y.drop E) ++ B))) * R) H := by rw [List.append_assoc]; exact h1
        refine af h2 m fun Z2 H3 h3 => ?_;rw [aj, ac.pu] at h3;exact am (done Z2 H3 h3.1.1 h3.1.2 h3.2.to)
       ·refine aa (bE (by omega)) ?_
        refine gs ?_;have e0 : Y.drop E = [] := List.eq_nil_of_length_eq_zero (by omega);exact am (done (X.drop S) H sX.2.1 (by rw [e0, List.append_nil]) (by rw [e0] at h1; rw [List.append_assoc]; exact h1))
      ·refine aa (bE (by omega)) ?_
       refine gs ?_;have e0 : X.drop S = [] := List.eq_nil_of_length_eq_zero (by omega);exact am (done (Y.drop E) H sY.2.1 (by rw [e0, List.nil_append]) (by rw [e0] at h1; rw [List.append_assoc]; exact h1))
     -- the first halves
     have part1 : ∀ (H : AH), ac (ts 7 Pt.cells s (A ++ (pl (X.take S) ++ (pl (Y.take E) ++ (pl (X.drop S) ++ (pl (Y.drop E) ++ B))))) * R) H →
      wp (MR s (vi ((A.length : Nat) : Int)) (vi ((A.length + X.length + Y.length : Nat) : Int)) nE (vi ((A.length + hf : Nat) : Int)) (vi ((A.length + S : Nat) : Int)) (vi ((A.length + X.length + E : Nat) : Int)) H)
       fun v' H' => ∃ Z : List TP, v' = .tuple #[] ∧ ac (pu (lD Z ∧ Z.Perm (X ++ Y)) * ts 7 Pt.cells s (A ++ (pl Z ++ B)) * R) H' := by
      intro H h1;refine ah (adM ..) ?_
      by_cases g1 : 0 < S
      ·refine aa (bS (by omega)) ?_
       refine gs ?_
       by_cases g2 : S < hf
       ·refine aa (bS (by omega)) ?_
        refine gs ?_;have m := ih A (pl (X.drop S) ++ (pl (Y.drop E) ++ B)) (X.take S) (Y.take E) (by omega) (by omega) (by omega) sX.1 sY.1 b11 (by omega);rw [l1, l3, show A.length + S + E = A.length + hf from by omega] at m;refine af h1 m fun Z1 H3 h3 => ?_;rw [aj, ac.pu] at h3;exact part2 Z1 H3 h3.1.1 h3.1.2 h3.2.to
       ·refine aa (bE (by omega)) ?_
        refine gs ?_;have e0 : Y.take E = [] := List.eq_nil_of_length_eq_zero (by omega);exact part2 (X.take S) H sX.1 (by rw [e0, List.append_nil]) (by rw [e0] at h1; exact h1)
      ·refine aa (bE (by omega)) ?_
       refine gs ?_;have e0 : X.take S = [] := List.eq_nil_of_length_eq_zero (by omega);exact part2 (Y.take E) H sY.1 (by rw [e0, List.nil_append]) (by rw [e0] at h1; exact h1)
     have e3 : A ++ (pl X ++ (pl Y ++ B)) = (A ++ pl (X.take S)) ++ (pl (X.drop S) ++ (pl (Y.take E) ++ (pl (Y.drop E) ++ B))) := by
      have p1 : pl X = pl (X.take S) ++ pl (X.drop S) := by rw [← jb, eX]
      have p2 : pl Y = pl (Y.take E) ++ pl (Y.drop E) := by rw [← jb, eY]
      rw [p1, p2];simp only [List.append_assoc]
     rw [e3] at hh
     by_cases g1 : S < X.length
     ·refine aa (bS (by omega)) ?_
      refine gs ?_
      by_cases g2 : 0 < E
      ·refine aa (bS (by omega)) ?_
       refine gs ?_;have m := TL s nE (A ++ pl (X.take S)) (pl (X.drop S)) (pl (Y.take E)) (pl (Y.drop E) ++ B) (by rw [dA]; omega) (by rw [dA]; omega) (by rw [f2, dA, dA, dA]; omega);rw [f2, dA, dA, dA, l1, l2, l3, show A.length + S + (X.length - S) = A.length + X.length from by omega] at m;refine af hh m fun _ H3 h3 => ?_;refine part1 H3 ?_
       have e4 : (A ++ pl (X.take S)) ++ (pl (Y.take E) ++ (pl (X.drop S) ++ (pl (Y.drop E) ++ B))) = A ++ (pl (X.take S) ++ (pl (Y.take E) ++ (pl (X.drop S) ++ (pl (Y.drop E) ++ B)))) := by simp only [List.append_assoc]
       rw [← e4];exact h3.to
      ·refine aa (bE (by omega)) ?_
       refine gs ?_;have e0 : Y.take E = [] := List.eq_nil_of_length_eq_zero (by omega);refine part1 H ?_;rw [e0] at hh ⊢
       simpa only [pl, List.map_nil, List.nil_append, List.append_assoc] using hh
     ·refine aa (bE (by omega)) ?_
      refine gs ?_;have e0 : X.drop S = [] := List.eq_nil_of_length_eq_zero (by omega);refine part1 H ?_;rw [e0] at hh ⊢
      simpa only [pl, List.map_nil, List.nil_append, List.append_assoc] using hh
    -- the search
    have bin : ∀ (lo hi : Nat), hi ≤ X.length → hi ≤ hf → hf - lo ≤ Y.length → (lo = 0 ∨ hf - lo = Y.length) → (hi = X.length ∨ hi = hf) →
     ∀ (d i j : Nat) (H : AH), j - i = d → lo ≤ i → i ≤ j → j ≤ hi →
     (LoP X Y hf i ∨ i = lo) →
     (HiP X Y hf j ∨ j = hi) →
     ac (ts 7 Pt.cells s (A ++ (pl X ++ (pl Y ++ B))) * R) H →
     wp (yY s (vi ((A.length : Nat) : Int)) (vi ((A.length + X.length : Nat) : Int)) (vi ((A.length + X.length + Y.length : Nat) : Int)) nE (vi ((A.length + hf : Nat) : Int)) (vi (((A.length + hf : Nat) : Int) + ((A.length + X.length : Nat) : Int))) (vi ((A.length + i : Nat) : Int)) (vi ((A.length + j : Nat) : Int)) (vi (((A.length + hf : Nat) : Int) + ((A.length + X.length : Nat) : Int) - 1)) H)
      fun v' H' => ∃ Z : List TP, v' = .tuple #[] ∧ ac (pu (lD Z ∧ Z.Perm (X ++ Y)) * ts 7 Pt.cells s (A ++ (pl Z ++ B)) * R) H' := by
     intro lo hi hhiX hhif hloY hlo0 hhi0 d
     induction d using Nat.strongRecOn with
     | ind d ihd =>
      intro i j H hd hli hij hjh hlow hhigh hh;refine ah (TO ..) ?_
      by_cases hlt : i < j
      ·refine aa (bS (by omega)) ?_
       refine gs ?_;refine ah (TS ..) ?_;refine YA rfl rfl (by omega) ?_;rw [show (A.length + i + (A.length + j)) / 2 = A.length + (i + j) / 2 from by omega];refine aa (bG (by omega) (by omega)) ?_
       have hcX : (i + j) / 2 < X.length := by omega
       have hcY : hf - 1 - (i + j) / 2 < Y.length := by omega
       refine rr (i := A.length + X.length + (hf - 1 - (i + j) / 2)) (by omega) hh (auA A B X Y hcY rfl) ?_;refine rr (i := A.length + (i + j) / 2) rfl hh (at9 A B X Y hcX rfl) ?_;refine YC hh fun H1 h1 => ?_
       by_cases hcmp : Y[hf - 1 - (i + j) / 2].2.step < X[(i + j) / 2].2.step
       ·refine aa (CW hcmp) ?_
        refine gs ?_;rw [Bool.not_true];refine gs ?_;exact ihd ((i + j) / 2 - i) (by omega) i ((i + j) / 2) H1 rfl hli (by omega) (by omega) hlow (.inl ⟨hcX, hcY, by omega, hcmp⟩) h1
       ·refine aa (CV hcmp) ?_
        refine gs ?_;rw [Bool.not_false];refine gs ?_;refine aa (aE (by omega) (by omega)) ?_;rw [show ((A.length + (i + j) / 2 : Nat) : Int) + 1 = ((A.length + ((i + j) / 2 + 1) : Nat) : Int) from by omega];exact ihd (j - ((i + j) / 2 + 1)) (by omega) ((i + j) / 2 + 1) j H1 rfl (by omega) (by omega) hjh (.inl ⟨(i + j) / 2, rfl, hcX, hcY, by omega⟩) hhigh h1
      ·refine aa (bE (by omega)) ?_
       refine gs ?_
       have e : j = i := by omega
       subst e;refine ah (MM ..) ?_;refine rest j H (by omega) (by omega) (by omega) ?_ ?_ hh
       ·rcases hlow with h1 | h1
        ·exact .inl h1
        ·rcases hlo0 with h2 | h2
         ·exact .inr (.inl (by omega))
         ·exact .inr (.inr (by rw [h1]; exact h2))
       ·rcases hhigh with h1 | h1
        ·exact .inl h1
        ·rcases hhi0 with h2 | h2
         ·exact .inr (.inl (by omega))
         ·exact .inr (.inr (by omega))
    by_cases hmid : hf < X.length
    ·refine aa (j5 (by omega)) ?_
     refine gs ?_;refine aa (bG (by omega) (by omega)) ?_;refine ah (Jz ..) ?_;refine aa (bG (by omega) (by omega)) ?_;refine ah (JA ..) ?_;rw [show ((A.length + hf : Nat) : Int) + ((A.length + X.length : Nat) : Int) - ((A.length + X.length + Y.length : Nat) : Int) = ((A.length + (hf - Y.length) : Nat) : Int) from by omega];exact bin (hf - Y.length) hf (by omega) (bA _) (by omega) (.inr (by omega)) (.inr rfl) _ (hf - Y.length) hf H rfl (bA _) (by omega) (bA _) (.inr rfl) (.inr rfl) h
    ·refine aa (fJ (by omega)) ?_
     refine gs ?_;refine ah (Jz ..) ?_;refine aa (bG (by omega) (by omega)) ?_;refine ah (JA ..) ?_;have := bin 0 X.length (bA _) (by omega) (by omega) (.inl rfl) (.inl rfl) _ 0 X.length H rfl (bA _) (by omega) (bA _) (.inr rfl) (.inr rfl) h;rw [Nat.add_zero] at this;exact this
theorem O6 (s : Value) (bs : Nat) (h0 : 1 ≤ bs) {R : SP} (T : Nat) (hT : T < 1000000) (hbs : bs < 1000000) {Q : Value → AH → Prop} :
 ∀ (N : Nat) (L D : List TP) (H : AH), L.length ≤ N → D.length + L.length = T → UL bs L → ac (ts 7 Pt.cells s (pl D ++ pl L) * R) H →
 (∀ (Z : List TP) (H : AH), Z.Perm L → UL (2 * bs) Z → ac (ts 7 Pt.cells s (pl D ++ pl Z) * R) H → wp (MX s (vi (T : Int)) nE (vi (bs : Int)) H) Q) →
 wp (DB s (vi (T : Int)) nE (vi (bs : Int)) (vi (D.length : Int)) (vi (((D.length + 2 * bs : Nat)) : Int)) H) Q := by
 intro N
 induction N using Nat.strongRecOn with
 | ind N ih =>
  intro L D H hN hDL hC hh hk;refine ah (Ua ..) ?_
  by_cases hle : 2 * bs ≤ L.length
  ·refine aa (O0 (by omega)) ?_
   refine gs ?_;obtain ⟨X, L2, rfl, hXl, hXs, hXB, hC2⟩ := hC.split (by omega);rw [f2] at hle hN hDL;obtain ⟨Y, L3, rfl, hYl, hYs, hYB, hC3⟩ := hC2.split (by omega);rw [f2] at hle hN hDL;have hB := BK.append_right.1 hXB;refine ah (Ub ..) ?_;refine aa (aE (by omega) (by omega)) ?_;have m := JM s _ (pl D) (pl L3) X Y (bA _) (by omega) (by omega) hXs hYs hB.1 (by rw [dA]; omega);rw [dA, hXl, hYl] at m;rw [show ((D.length : Nat) : Int) + ((bs : Nat) : Int) = ((D.length + bs : Nat) : Int) from by omega, show D.length + 2 * bs = D.length + bs + bs from by omega]
   have e1 : pl D ++ pl (X ++ (Y ++ L3)) = pl D ++ (pl X ++ (pl Y ++ pl L3)) := by rw [jb, jb]
   rw [e1] at hh;refine af hh m fun Z H1 h1 => ?_;rw [aj, ac.pu] at h1;obtain ⟨⟨hZs, hZp⟩, h1⟩ := h1;have hZl := hZp.length_eq;rw [f2] at hZl;refine aa (j9 (by omega) (by omega)) ?_;refine aa (aE (by omega) (by omega)) ?_
   have := ih L3.length (by omega) L3 (D ++ Z) H1 (bA _) (by rw [f2]; omega) hC3 (by
    rw [jb, List.append_assoc]; exact h1.to) (fun Z2 H2 hp2 hc2 h2 => by
    refine hk (Z ++ Z2) H2 ?_ (.cons (by omega) hZs ?_ hc2) ?_
    ·rw [← List.append_assoc]
     exact hZp.append hp2
    ·have hb3 : BK (X ++ Y) L3 := fun x hx y hy => (List.mem_append.1 hx).elim (fun q => hB.2 x q y hy) (fun q => hYB x q y hy)
     exact hb3.perm hZp hp2
    ·rw [jb, ← List.append_assoc, ← jb D Z]
     exact h2)
   rw [f2, hZl, hXl, hYl] at this;rw [show ((D.length + bs + bs : Nat) : Int) + 2 * ((bs : Nat) : Int) = ((D.length + (bs + bs) + 2 * bs : Nat) : Int) from by omega, show D.length + bs + bs = D.length + (bs + bs) from by omega];exact this
  ·refine aa (OZ (by omega)) ?_
   refine gs ?_;refine ah (MU ..) ?_;refine ah (adY ..) ?_;refine aa (aE (by omega) (by omega)) ?_
   by_cases hlt : bs < L.length
   ·refine aa (bS (by omega)) ?_
    refine gs ?_;obtain ⟨X, Y, rfl, hXl, hXs, hXB, hC2⟩ := hC.split (by omega);rw [f2] at hle hN hDL hlt;have m := JM s _ (pl D) [] X Y (bA _) (by omega) (by omega) hXs (hC2.short (by omega)) hXB (by rw [dA]; omega);rw [dA, hXl, List.append_nil, show D.length + bs + Y.length = T from by omega] at m;rw [show ((D.length : Nat) : Int) + ((bs : Nat) : Int) = ((D.length + bs : Nat) : Int) from by omega]
    have e1 : pl D ++ pl (X ++ Y) = pl D ++ (pl X ++ pl Y) := by rw [jb]
    rw [e1] at hh;refine af hh m fun Z H1 h1 => ?_;rw [aj, ac.pu] at h1;obtain ⟨⟨hZs, hZp⟩, h1⟩ := h1;have hZl := hZp.length_eq;rw [f2] at hZl;rw [List.append_nil] at h1;exact hk Z H1 hZp (.last (by omega) hZs) h1.to
   ·refine aa (bE (by omega)) ?_
    refine gs ?_;exact hk L H (List.Perm.refl _) (.last (by omega) (hC.short (by omega))) hh
theorem ab6 (s : Value) {R : SP} (L0 : List TP) (hT : L0.length < 400000) : ∀ (N : Nat) (bs : Nat) (L : List TP) (H : AH), 1 ≤ bs → bs < 1000000 → L0.length - bs ≤ N → L.Perm L0 → UL bs L → ac (ts 7 Pt.cells s (pl L) * R) H →
 wp (MW s (vi (L0.length : Int)) nE (vi (bs : Int)) H) fun v' H' => ∃ Z : List TP, v' = .tuple #[] ∧ ac (pu (lD Z ∧ Z.Perm L0) * ts 7 Pt.cells s (pl Z) * R) H' := by
 intro N
 induction N using Nat.strongRecOn with
 | ind N ih =>
  intro bs L H h0 hbs hN hp hC hh;have hl := hp.length_eq;refine ah (adV ..) ?_
  by_cases hlt : bs < L0.length
  ·refine aa (bS (by omega)) ?_
   refine gs ?_;refine ah (adW ..) ?_;refine aa (j9 (by omega) (by omega)) ?_;refine ah (adX ..) ?_
   have := O6 s bs h0 (R := R) L0.length (by omega) hbs (Q := fun v' H' => ∃ Z : List TP, v' = .tuple #[] ∧ ac (pu (lD Z ∧ Z.Perm L0) * ts 7 Pt.cells s (pl Z) * R) H') L.length L [] H (bA _) (by simpa using hl) hC (by simpa using hh) (fun Z H1 hp1 hc1 h1 => by
    refine ah (adZ ..) ?_;refine aa (j9 (by omega) (by omega)) ?_;rw [show ((bs : Nat) : Int) * 2 = ((2 * bs : Nat) : Int) from by omega]
    exact ih (L0.length - 2 * bs) (by omega) (2 * bs) Z H1 (by omega) (by omega) (bA _) (hp1.trans hp) hc1 (by simpa using h1))
   rw [List.length_nil, Nat.zero_add] at this;rw [show 2 * ((bs : Nat) : Int) = ((2 * bs : Nat) : Int) from by omega];exact this
  ·refine aa (bE (by omega)) ?_
   refine gs ?_;refine ah (PT ..) ?_;refine am ⟨L, rfl, ?_⟩;rw [aj, ac.pu];exact ⟨⟨hC.short (by omega), hp⟩, hh⟩
theorem auD (s : Value) (T : Nat) (hT : T < 400000) {R : SP} {Q : Value → AH → Prop} : ∀ (N : Nat) (L D : List TP) (H : AH), L.length ≤ N → D.length + L.length = T → Asc L → ac (ts 7 Pt.cells s (pl D ++ pl L) * R) H →
 (∀ (Z : List TP) (H : AH), Z.Perm L → UL 20 Z → ac (ts 7 Pt.cells s (pl D ++ pl Z) * R) H → wp (Uc s (vi (T : Int)) nE (vi 20) H) Q) →
 wp (DC s (vi (T : Int)) nE (vi 20) (vi (D.length : Int)) (vi ((D.length + 20 : Nat) : Int)) H) Q := by
 intro N
 induction N using Nat.strongRecOn with
 | ind N ih =>
  intro L D H hN hDL hA hh hk;refine ah (Ud ..) ?_
  by_cases hle : 20 ≤ L.length
  ·refine aa (O0 (by omega)) ?_
   refine gs ?_;refine ah (Ue ..) ?_;have eL : L.take 20 ++ L.drop 20 = L := List.take_append_drop ..
   have l1 : (L.take 20).length = 20 := by rw [List.length_take]; omega
   have l2 : (L.drop 20).length = L.length - 20 := List.length_drop;obtain ⟨a1, a2, a3⟩ := QK.1 (by rw [eL]; exact hA : Asc (L.take 20 ++ L.drop 20));have m := IV (pl D) (pl (L.drop 20)) s (L.take 20) a1 (by rw [dA]; omega);rw [dA, l1] at m
   have e1 : pl D ++ pl L = pl D ++ (pl (L.take 20) ++ pl (L.drop 20)) := by rw [← jb (L.take 20), eL]
   rw [e1] at hh;refine af hh m fun Z H1 h1 => ?_;rw [aj, ac.pu] at h1;obtain ⟨⟨hZs, hZp⟩, h1⟩ := h1;have hZl := hZp.length_eq;refine aa (aE (by omega) (by omega)) ?_
   have := ih (L.drop 20).length (by omega) (L.drop 20) (D ++ Z) H1 (bA _) (by rw [f2]; omega) a2 (by
    rw [jb, List.append_assoc]; exact h1.to) (fun Z2 H2 hp2 hc2 h2 => by
    refine hk (Z ++ Z2) H2 ?_ (.cons (by omega) hZs (a3.perm hZp hp2) hc2) ?_
    ·have := hZp.append hp2
     rw [eL] at this;exact this
    ·rw [jb, ← List.append_assoc, ← jb D Z]
     exact h2)
   rw [f2, hZl, l1] at this;rw [show ((D.length + 20 : Nat) : Int) + 20 = ((D.length + 20 + 20 : Nat) : Int) from by omega];exact this
  ·refine aa (OZ (by omega)) ?_
   refine gs ?_;refine ah (MV ..) ?_;refine ah (adT ..) ?_;have m := IV (pl D) [] s L hA (by rw [dA]; omega);rw [dA, hDL, List.append_nil] at m;refine af hh m fun Z H1 h1 => ?_;rw [aj, ac.pu, List.append_nil] at h1;obtain ⟨⟨hZs, hZp⟩, h1⟩ := h1;have hZl := hZp.length_eq;exact hk Z H1 hZp (.last (by omega) hZs) h1.to
theorem an7 (s : Value) (l : List Pt) (hl : l.length < 400000) : Sp alS [s, nE] (ts 7 Pt.cells s l) (fun _ : Unit => .tuple #[]) (fun _ => ts 7 Pt.cells s (bF l)) := by
 have stable : Sp alT [s, vi l.length, nE] (ts 7 Pt.cells s l) (fun _ : List TP => .tuple #[]) (fun Z => pu (lD Z ∧ Z.Perm (rz 0 l)) * ts 7 Pt.cells s (pl Z)) := by
  refine aY (avT _ _ _) fun R H h => ?_;refine ah (adS ..) ?_
  have ln : (rz 0 l).length = l.length := by rw [← dA, Xu]
  have := auD s l.length hl (R := R) (Q := fun v' H' => ∃ Z : List TP, v' = .tuple #[] ∧ ac (pu (lD Z ∧ Z.Perm (rz 0 l)) * ts 7 Pt.cells s (pl Z) * R) H') l.length (rz 0 l) [] H (by omega) (by simpa using ln) (Pa l 0) (by
   rw [Xu]; simpa using h) (fun Z H1 hp hc h1 => by
   refine ah (adU ..) ?_;have := ab6 s (R := R) (rz 0 l) (by omega) _ 20 Z H1 (by omega) (by omega) (bA _) hp hc (by simpa using h1);rw [ln] at this
   exact this)
  exact this
 refine aY (avS _ _) fun R H h => ?_;refine oW (s := s) (l := l) h ?_;refine af h stable fun Z H1 h1 => ?_;rw [aj, ac.pu] at h1;obtain ⟨⟨hZs, hZp⟩, h1⟩ := h1;rw [Y0 hZs hZp] at h1;exact am ⟨(), rfl, h1.to⟩
theorem Td (p : Nat) (rp : List Nat) (σ : bd) (hl : σ.pts.length < 400000) : Sp alK [vp p] (aM p rp σ) (fun v : Value => v) (fun v => ts 7 Pt.cells v (bF σ.pts) * aM p rp σ) := by
 have hbl := u9 σ.pts;refine aK fun R H h => ?_;obtain ⟨g, hrp, hg, h0⟩ := dh h;unfold az at h0;refine bj (fun r => avC _ H) ?_;refine ak h0 ae rfl ?_;refine af h0 (AJ g.pv σ.pts (by omega)) fun v H1 h1 => ?_;refine af h1 (an7 v σ.pts hl) fun _ H2 h2 => ?_;refine ah (acF _ _ _ H2) ?_;refine oW (s := v) (l := bF σ.pts) h2 ?_;refine ah (acH _ _ _ _ _ H2) ?_
 have h3 : ac (aM p rp σ * (ts 7 Pt.cells v (bF σ.pts) * R)) H2 := by
  refine bz g hrp hg ?_;unfold az;exact h2.to
 have h4 := dZ 7 Pt.cells h3
 have h5 : ac (ts 7 Pt.cells (.slice none 0 0) ((bF σ.pts).take 0) * (ts 7 Pt.cells v (bF σ.pts) * aM p rp σ) * R) H2 := by rw [List.take_zero]; exact h4.to
 refine qL ?_ (Pq (.slice none 0 0) v (bF σ.pts) (by omega) (bF σ.pts).length 0 (.slice none 0 0) H2 (by omega) h5)
 rintro v' H' ⟨o, rfl, h6⟩
 exact ⟨_, rfl, h6.to⟩
theorem J9 (s : Value) (l : List Ev) (hl : l.length ≤ 1000000) : Sp alP [s] (ts 5 Ev.cells s l) (fun v : Value => v) (fun v => ts 5 Ev.cells v l * ts 5 Ev.cells s l) := by
 refine aY (avN _) fun R H h => ?_
 rcases oE h (enc := Ev.cells) (s := s) with ⟨rfl, rfl, h1⟩ | ⟨b, rfl, h1⟩
 ·refine aa (v := vb true) rfl ?_
  refine gs ?_;exact am ⟨_, rfl, by have := dZ 5 Ev.cells (dZ 5 Ev.cells h1); exact this.to⟩
 ·refine aa (v := vb false) rfl ?_
  refine gs ?_;refine JV (cs := []) h rfl fun b2 H2 h2 => ?_;have h3 := ue (e := 5) (enc := Ev.cells) (l := []) h2;refine AM (s := vs b2 0 5) (l := ([] : List Ev)) (m := l) h3 ?_ (by omega) fun v H4 h4 => ?_
  ·unfold dc; simp; omega
  rw [List.nil_append] at h4;exact am ⟨v, rfl, h4.to⟩
theorem SO (m : Nat) (μ : Mu) (hE : μ.E.length ≤ 1000000) : Sp ia [vp m] (bL m μ) (fun v : Value => v) (fun v => ts 5 Ev.cells v μ.E * bL m μ) := by
 refine aK fun R H h => ?_;obtain ⟨⟨c, l, al, es, ck⟩, h1⟩ := ac.ex.1 h;rw [aj, ac.pu] at h1;obtain ⟨hp, h1⟩ := h1;dsimp only at h1;have h2 : ac (blk m (.cells false [.map (some c), l]) * (blk c (.map es ck) * ts 5 Ev.cells l μ.E) * R) H := h1;refine bj (fun r => xY _ H) ?_;refine ak h2 ae rfl ?_;refine af h2 (J9 l μ.E hE) fun v H3 h3 => ?_;refine am ⟨v, rfl, ?_⟩
 have h4 : ac (bL m μ * (ts 5 Ev.cells v μ.E * R)) H3 := by
  refine ac.ex.2 ⟨(c, l, al, es, ck), ?_⟩;rw [aj, ac.pu];refine ⟨hp, ?_⟩;have h5 : ac (blk m (.cells false [.map (some c), l]) * (blk c (.map es ck) * ts 5 Ev.cells l μ.E) * (ts 5 Ev.cells v μ.E * R)) H3 := h3.to;exact h5
 exact h4.to
theorem Rj (x : Ev) : Sp b8 [.agg (Ev.cells x).toArray, .agg (Ev.cells x).toArray] emp (fun _ : Unit => vb true) (fun _ => emp) := by
 refine aY (oM _ _) fun R H h => ?_;refine aS (l := [vi x.who, vi x.kind, vi x.loc.1, vi x.loc.2.1, vi x.loc.2.2]) h fun b1 H1 h1 => ?_;refine aS (l := [vi x.who, vi x.kind, vi x.loc.1, vi x.loc.2.1, vi x.loc.2.2]) h1 fun b2 H2 h2 => ?_;refine aR h2 ?_;refine aR h2 ?_;refine aa (v := vb true) ?_ ?_
 ·show (qB (.flat 5) (.agg #[vi x.who, vi x.kind, vi x.loc.1, vi x.loc.2.1, vi x.loc.2.2]) (.agg #[vi x.who, vi x.kind, vi x.loc.1, vi x.loc.2.1, vi x.loc.2.2])).map (fun b => Value.bool b) = _
  simp only [qB];rw [if_pos ⟨rfl, rfl⟩];simp [bR]
 exact am ⟨(), rfl, h2.to⟩
theorem NV {P : SP} (s1 s2 : Value) (l : List Ev) (hl : l.length ≤ 1000000) [r1 : Rd P s1 5 Ev.cells l] [r2 : Rd P s2 5 Ev.cells l] {H : AH} (h : ac P H) {k : Value × AH → OV} {Q : Value → AH → Prop} (hk : ∀ H', ac P H' → wp (k (vb true, H')) Q) :
 wp ((FF eD [s1, s2] H).bind k) Q := by
 have same : Sp vD [s1, s2, .func (.func b8) #[] #[]] P (fun _ : Unit => vb true) (fun _ => P) := by
  refine aY (OJ _ _ _) fun R H h => ?_;refine fv (s := s1) (l := l) h ?_;refine fv (s := s2) (l := l) h ?_;refine aa (sQ rfl) ?_;refine gs ?_;refine ah (FJ ..) ?_;refine ah (FL ..) ?_
  have loop : ∀ (d i : Nat) (H : AH), i + d = l.length → ac (P * R) H → wp (nV s1 s2 (.func (.func b8) #[] #[]) (vb false) (vi (i : Int)) H) fun v' H' => ∃ x : Unit, v' = vb true ∧ ac (P * R) H' := by
   intro d
   induction d with
   | zero =>
    intro i H hi hh;refine ah (so ..) ?_;refine fv (s := s1) (l := l) hh ?_;refine aa (bE (by omega)) ?_;refine gs ?_;refine ah (zK ..) ?_;refine ah (FK ..) ?_;exact am ⟨(), rfl, hh⟩
   | succ d ih =>
    intro i H hi hh
    have hil : i < l.length := by omega
    refine ah (so ..) ?_;refine fv (s := s1) (l := l) hh ?_;refine aa (bS (by omega)) ?_;refine gs ?_;refine ah (FM ..) ?_;refine wx (s := s1) (l := l) hh hil ?_;refine wx (s := s2) (l := l) hh hil ?_;refine ah (show ((ce (.func (.func b8) #[] #[]) [.agg (Ev.cells l[i]).toArray, .agg (Ev.cells l[i]).toArray]).bind fun c => FF c.1 c.2 H).bind _ = (FF b8 [.agg (Ev.cells l[i]).toArray, .agg (Ev.cells l[i]).toArray] H).bind _ from rfl) ?_;refine af hh (Rj l[i]) fun _ H1 h1 => ?_;refine gs ?_;rw [Bool.not_true];refine gs ?_;refine ah (FN ..) ?_;refine aa (aE (by omega) (by omega)) ?_;exact ih (i + 1) H1 (by omega) h1.to
  exact loop l.length 0 H (by omega) h
 obtain ⟨x, H', e, h'⟩ := (aK (f := eD) (args := [s1, s2]) (P := P) (v := fun _ : Unit => vb true) (Q := fun _ => P) fun R H h => by
  refine bj (fun r => qq _ _ H) ?_;refine af h same fun _ H1 h1 => ?_
  exact am ⟨(), rfl, h1.to⟩) emp H (by rw [dY]; exact h)
 rw [e];rw [dY] at h';exact hk H' h'
theorem Pr {P : SP} (s1 s2 : Value) (l : List Pt) (hl : l.length ≤ 1000000) [r1 : Rd P s1 7 Pt.cells l] [r2 : Rd P s2 7 Pt.cells l] {H : AH} (h : ac P H) {k : Value × AH → OV} {Q : Value → AH → Prop} (hk : ∀ H', ac P H' → wp (k (vb true, H')) Q) :
 wp ((FF qv [s1, s2, .func (.func ff) #[] #[]] H).bind k) Q := by
 have same : Sp qv [s1, s2, .func (.func ff) #[] #[]] P (fun _ : Unit => vb true) (fun _ => P) := by
  refine aY (OK _ _ _) fun R H h => ?_;refine fv (s := s1) (l := l) h ?_;refine fv (s := s2) (l := l) h ?_;refine aa (sQ rfl) ?_;refine gs ?_;refine ah (FO ..) ?_;refine ah (FQ ..) ?_
  have loop : ∀ (d i : Nat) (H : AH), i + d = l.length → ac (P * R) H → wp (nW s1 s2 (.func (.func ff) #[] #[]) (vb false) (vi (i : Int)) H) fun v' H' => ∃ x : Unit, v' = vb true ∧ ac (P * R) H' := by
   intro d
   induction d with
   | zero =>
    intro i H hi hh;refine ah (sr ..) ?_;refine fv (s := s1) (l := l) hh ?_;refine aa (bE (by omega)) ?_;refine gs ?_;refine ah (zL ..) ?_;refine ah (FP ..) ?_;exact am ⟨(), rfl, hh⟩
   | succ d ih =>
    intro i H hi hh
    have hil : i < l.length := by omega
    refine ah (sr ..) ?_;refine fv (s := s1) (l := l) hh ?_;refine aa (bS (by omega)) ?_;refine gs ?_;refine ah (FR ..) ?_;refine wx (s := s1) (l := l) hh hil ?_;refine wx (s := s2) (l := l) hh hil ?_;refine ah (show ((ce (.func (.func ff) #[] #[]) [.agg (Pt.cells l[i]).toArray, .agg (Pt.cells l[i]).toArray]).bind fun c => FF c.1 c.2 H).bind _ = (FF ff [.agg (Pt.cells l[i]).toArray, .agg (Pt.cells l[i]).toArray] H).bind _ from rfl) ?_;refine af hh (SD l[i]) fun _ H1 h1 => ?_;refine gs ?_;rw [Bool.not_true];refine gs ?_;refine ah (FS ..) ?_;refine aa (aE (by omega) (by omega)) ?_;exact ih (i + 1) H1 (by omega) h1.to
  exact loop l.length 0 H (by omega) h
 obtain ⟨x, H', e, h'⟩ := same emp H (by rw [dY]; exact h);rw [e];rw [dY] at h';exact hk H' h'
theorem ae7 {p : Nat} {g : PIds} {σ : bd} (hE : σ.μ.E.length ≤ 1000000) : Sp ia [vp g.m] (az p g σ) (fun v : Value => v) (fun v => ts 5 Ev.cells v σ.μ.E * az p g σ) := by
 intro R H h;unfold az at h;obtain ⟨x, H', h1, h2⟩ := SO g.m σ.μ hE _ H (ac.fr (A := bL g.m σ.μ) h);refine ⟨x, H', h1, ?_⟩;unfold az;exact h2.to
theorem Jc {x : Nat} {g : XIds} {σ : bd} {R : SP} {H : AH} (h : ac (au x g σ * R) H) : ∃ (kv vv ev : Value) (Z : SP), ac (blk g.m (.cells false [kv, vv, ev]) * (ts 5 Ev.cells ev σ.μ.E * (blk x (.cells false [vi σ.c.sh, vi σ.c.sl, vi σ.c.wk, vi σ.c.wd, vu σ.c.un, vp g.m, vp g.ib, vp g.tb, vp g.po, vp g.co, g.ov, g.rv, g.wv, g.pv]) * (Z * R)))) H ∧
 ∀ {R' : SP} {H' : AH}, ac (blk g.m (.cells false [kv, vv, ev]) * (ts 5 Ev.cells ev σ.μ.E * (blk x (.cells false [vi σ.c.sh, vi σ.c.sl, vi σ.c.wk, vi σ.c.wd, vu σ.c.un, vp g.m, vp g.ib, vp g.tb, vp g.po, vp g.co, g.ov, g.rv, g.wv, g.pv]) * (Z * R')))) H' → ac (au x g σ * R') H' := by
 unfold au at h
 have h1 : ac (bP g.m σ.μ * (blk x (.cells false [vi σ.c.sh, vi σ.c.sl, vi σ.c.wk, vi σ.c.wd, vu σ.c.un, vp g.m, vp g.ib, vp g.tb, vp g.po, vp g.co, g.ov, g.rv, g.wv, g.pv]) * ((g8 g.ib g.m σ.c.sh σ.nx σ.μ.N * (tab g.tb g.m σ.c.sh.toNat σ.c.sl.toNat *
  (ts 3 uI g.ov (σ.obs.map fun x => x.1) * (ts 1 nK g.rv g.rp * (jV g.m 0 (g.rp.zip (σ.obs.map fun x => x.2)) * (ts 1 eF g.wv (fW g.ws) * ts 7 Pt.cells g.pv (bF σ.pts))))))) * R))) H := h.to
 obtain ⟨al, h2⟩ := ac.ex.1 h1;rw [aj, ac.pu] at h2;obtain ⟨hp, h2⟩ := h2;obtain ⟨⟨kv, vv, ev⟩, h3⟩ := ac.ex.1 h2;dsimp only at h3
 refine ⟨kv, vv, ev, (ts 3 Kh kv al * ts 1 NS vv al) * (g8 g.ib g.m σ.c.sh σ.nx σ.μ.N * (tab g.tb g.m σ.c.sh.toNat σ.c.sl.toNat *
  (ts 3 uI g.ov (σ.obs.map fun x => x.1) * (ts 1 nK g.rv g.rp * (jV g.m 0 (g.rp.zip (σ.obs.map fun x => x.2)) * (ts 1 eF g.wv (fW g.ws) * ts 7 Pt.cells g.pv (bF σ.pts))))))), h3.to, fun {R' H'} h4 => ?_⟩
 unfold au
 have h5 : ac (bP g.m σ.μ * (blk x (.cells false [vi σ.c.sh, vi σ.c.sl, vi σ.c.wk, vi σ.c.wd, vu σ.c.un, vp g.m, vp g.ib, vp g.tb, vp g.po, vp g.co, g.ov, g.rv, g.wv, g.pv]) * ((g8 g.ib g.m σ.c.sh σ.nx σ.μ.N * (tab g.tb g.m σ.c.sh.toNat σ.c.sl.toNat *
  (ts 3 uI g.ov (σ.obs.map fun x => x.1) * (ts 1 nK g.rv g.rp * (jV g.m 0 (g.rp.zip (σ.obs.map fun x => x.2)) * (ts 1 eF g.wv (fW g.ws) * ts 7 Pt.cells g.pv (bF σ.pts))))))) * R'))) H' := by
  refine ac.ex.2 ⟨al, ?_⟩;rw [aj, ac.pu];refine ⟨hp, ac.ex.2 ⟨(kv, vv, ev), ?_⟩⟩;dsimp only;exact h4.to
 exact h5.to
theorem Jb (p x : Nat) (rp : List Nat) (σ : bd) (hE : σ.μ.E.length ≤ 1000000) (hp : σ.pts.length < 400000) :
 Sp iU [.agg [vp p, vp x].toArray] (aM p rp σ * aJ x σ) (fun _ : Unit => vb true) (fun _ => aM p rp σ * aJ x σ) := by
 refine aY (zP _) fun R H h => ?_;refine aS (l := [vp p, vp x]) h fun b H1 h1 => ?_;obtain ⟨g, rfl, hg, k1⟩ := dh (p := p) (rp := rp) (σ := σ) (R := aJ x σ * (blk b (.cells false [vp p, vp x]) * R)) (H := H1) h1.to;obtain ⟨gx, hgx, l1⟩ := dz (p := x) (σ := σ) (R := az p g σ * (blk b (.cells false [vp p, vp x]) * R)) (H := H1) k1.to;obtain ⟨kv, vv, ev, Z, m1, back⟩ := Jc (x := x) (g := gx) (σ := σ) (R := az p g σ * (blk b (.cells false [vp p, vp x]) * R)) (H := H1) l1.to;refine ak m1 aB rfl ?_;refine ak m1 ae rfl ?_;refine af m1 (ae7 (p := p) (g := g) (σ := σ) hE) fun v H2 m2 => ?_;refine bD aB ?_;refine aN m2 rfl ?_;refine aH m1 m2 (by rfl) ?_;refine bD ae ?_;refine aN m2 rfl ?_;refine aH m1 m2 (by rfl) ?_;refine bD ae ?_;refine aN m2 rfl ?_;refine aH m1 m2 (by rfl) ?_;refine NV v ev σ.μ.E hE m2 fun H3 m3 => ?_;refine gs ?_;refine ak m3 aB rfl ?_;have m4 := back (R' := ts 5 Ev.cells v σ.μ.E * (az p g σ * (blk b (.cells false [vp p, vp x]) * R))) (H' := H3) m3.to;have n3 := bz (p := p) (rp := g.rp) (σ := σ) (R := au x gx σ * (ts 5 Ev.cells v σ.μ.E * (blk b (.cells false [vp p, vp x]) * R))) (H := H3) g rfl hg m4.to;refine zf ?_;refine af n3 (Td p g.rp σ hp) fun pv H4 n4 => ?_;refine lC ?_;refine bD aB ?_;refine iq ?_;refine aN n4 rfl ?_;refine aH n3 n4 (by rfl) ?_;refine lC ?_;refine bD ae ?_;refine iq ?_;refine aN n4 rfl ?_;refine aH n3 n4 (by rfl) ?_;refine zf ?_;have n5 := n4;unfold au at n5;refine Pr pv gx.pv (bF σ.pts) (by rw [u9]; omega) n5 fun H5 n6 => ?_;refine aa (Ta _ _) ?_;refine am ⟨(), rfl, ?_⟩
 have n7 : ac (au x gx σ * (aM p g.rp σ * R)) H5 := by
  unfold au;exact n6.to
 have n8 := cH (p := x) (σ := σ) (R := aM p g.rp σ * R) gx hgx n7;exact n8.to
theorem aoP {w how n : Nat} (h : aW w how = some n) : n < 18446744073709551616 := by
 have := eb w;unfold aW at h
 split at h
 ·split at h
  ·have := iP h; omega
  ·cases h
 ·split at h
  ·have := iP h; omega
  ·cases h
 ·split at h
  ·have := iP h; omega
  ·cases h
 ·cases h
structure SI (σ : bd) (k : Nat) : Prop where
 c : da σ.c = true
 N : σ.μ.N ≤ k
 E : σ.μ.E.length ≤ k
 pts : σ.pts.length ≤ k
 V : ∀ l, σ.μ.V l < 18446744073709551616
 obs : σ.obs.length ≤ k
 cells : ∀ o, o < σ.obs.length → 1 ≤ (aC σ o).length ∧ (aC σ o).length < 1000
 slot : ∀ s i, σ.μ.V (10, s, i) ≠ 0 → σ.μ.V (10, s, i) % 4294967296 < σ.obs.length
 head : ∀ o, σ.μ.V (12, o, 0) ≤ k
theorem SI.ok {σ : bd} {k : Nat} (h : SI σ k) (hk : k < 300000) : SOk σ :=
 ⟨h.c, by have := h.N; omega, by have := h.pts; omega, h.V, by have := h.obs; omega, h.cells, h.slot⟩
theorem SI.mono {σ : bd} {k k' : Nat} (h : SI σ k) (hk : k ≤ k') : SI σ k' :=
 ⟨h.c, eE h.N hk, eE h.E hk, eE h.pts hk, h.V, eE h.obs (by omega), h.cells, h.slot, fun o => eE (h.head o) hk⟩
theorem SI.acc {σ : bd} {k : Nat} (h : SI σ k) (who kd : Int) (l : dj) : SI (σ.mem (σ.μ.acc who kd l)) (k + 2) :=
 ⟨h.c, by have := h.N; show σ.μ.N + 2 ≤ _; omega, by have := h.E; show (σ.μ.E ++ [_]).length ≤ _; simp; omega, eE h.pts (by omega), h.V, eE h.obs (by omega), h.cells, h.slot, fun o => eE (h.head o) (by omega)⟩
theorem SI.put {σ : bd} {k : Nat} (h : SI σ k) (l : dj) (v : Nat) (hv : v < 18446744073709551616) (h1 : l.1 ≠ 10) (h2 : l.1 ≠ 12 ∨ v ≤ k) : SI (σ.mem (σ.μ.put l v)) k := by
 refine ⟨h.c, h.N, h.E, h.pts, fun x => ?_, h.obs, h.cells, fun s i => ?_, fun o => ?_⟩
 ·show (if x = l then v else σ.μ.V x) < _
  split
  ·exact hv
  ·exact h.V x
 ·show (if (10, s, i) = l then v else σ.μ.V (10, s, i)) ≠ 0 → (if (10, s, i) = l then v else σ.μ.V (10, s, i)) % _ < _
  rw [if_neg (fun e => h1 (by rw [← e]))];exact h.slot s i
 ·show (if (12, o, 0) = l then v else σ.μ.V (12, o, 0)) ≤ _
  split
  ·rename_i e
   rcases h2 with h2 | h2
   ·exact absurd (by rw [← e]) h2
   ·exact h2
  ·exact h.head o
theorem SI.swp {σ : bd} {k : Nat} (h : SI σ k) (who : Int) (l : dj) (was now : Nat) (hv : now < 18446744073709551616) (h1 : l.1 ≠ 10) (h2 : l.1 ≠ 12) : SI (σ.mem (σ.μ.swp who l was now)) (k + 2) := by
 have e : σ.μ.swp who l was now = (if σ.μ.V l = was then (σ.μ.acc who 3 l).put l now else σ.μ.acc who 4 l) := by
  show (⟨_, _, _⟩ : Mu) = _;unfold Mu.swap
  split <;> rfl
 rw [e]
 split
 ·exact (h.acc who 3 l).put l now hv h1 (.inl h2)
 ·exact h.acc who 4 l
theorem SI.turn {σ : bd} {k : Nat} (h : SI σ k) (who : Int) (o w how : Nat) : SI (σ.mem (σ.μ.turn who o w (aW w how))) (k + 2) := by
 cases e : aW w how with
 | none => exact h.mono (by omega)
 | some n => exact h.swp who (11, (o : Int), 0) w n (aoP e) (by simp) (by simp)
theorem SI.cnt {σ : bd} {k : Nat} (h : SI σ k) (who : Int) (l : dj) (n : Nat) (h1 : l.1 ≠ 10) (h2 : l.1 ≠ 12) : SI (σ.mem (σ.μ.cnt who l n)) (k + 2) :=
 (h.acc who 3 l).put l _ (Nat.mod_lt _ (by omega)) h1 (.inl h2)
theorem SI.note {σ : bd} {k : Nat} (h : SI σ k) (step who e : Int) : SI (σ.note step who e) (k + 1) :=
 ⟨h.c, eE h.N (by omega), eE h.E (by omega), by have := h.pts; show (σ.pts ++ [_]).length ≤ _; simp; omega, h.V, eE h.obs (by omega), h.cells, h.slot, fun o => eE (h.head o) (by omega)⟩
theorem SI.link {σ : bd} {k : Nat} (h : SI σ k) (who : Int) (l : dj) (nx : Int → Option Nat) : SI { σ with μ := σ.μ.acc who 6 l, nx := nx } (k + 2) := by
 have := h.acc who 6 l;exact ⟨this.c, this.N, this.E, this.pts, this.V, this.obs, this.cells, this.slot, this.head⟩
theorem SI.begin {σ : bd} {k : Nat} (h : SI σ k) (who place : Int) : SI (σ.begin who place) (k + 1) :=
 ⟨h.c, by have := h.N; show σ.μ.N + 1 ≤ _; omega, eE h.E (by omega), eE h.pts (by omega), h.V, eE h.obs (by omega), h.cells, h.slot, fun o => eE (h.head o) (by omega)⟩
theorem SI.lay {σ : bd} {k : Nat} (h : SI σ k) (t : Tk) : SI (vA σ t) (k + 2) := by
 have ha := h.acc t.who 6 (16, (t.obj : Int), ((bn t.w % (aC σ t.obj).length : Nat) : Int));rw [Do]
 have hl : (σ.obs.modify t.obj fun q => (q.1, (aC σ t.obj).set (bn t.w % (aC σ t.obj).length) (⟨t.x.flow, t.x.a, t.x.b⟩ : Pk))).length = σ.obs.length := by simp
 refine ⟨ha.c, ha.N, ha.E, ha.pts, ha.V, by rw [hl]; exact eE h.obs (by omega), fun o ho => ?_, fun s i hs => by show _ < List.length _; rw [hl]; exact h.slot s i hs, ha.head⟩
 have ho' : o < σ.obs.length := by
  have : o < (σ.obs.modify t.obj fun q => (q.1, (aC σ t.obj).set (bn t.w % (aC σ t.obj).length) (⟨t.x.flow, t.x.a, t.x.b⟩ : Pk))).length := ho
  rwa [hl] at this
 have hc := h.cells o ho';rw [wO ho'] at hc
 have hx : ∀ z : Ob × List Pk, z.2.length = (σ.obs[o]).2.length → 1 ≤ z.2.length ∧ z.2.length < 1000 := fun z hz => by rw [hz]; exact hc
 unfold aC;rw [List.getElem?_modify, cG ho'];refine hx (if t.obj = o then ((σ.obs[o]).1, (aC σ t.obj).set (bn t.w % (aC σ t.obj).length) ⟨t.x.flow, t.x.a, t.x.b⟩) else σ.obs[o]) ?_
 split
 ·rename_i e
  subst e;rw [wO ho', OY]
 ·rfl
theorem ir.mono {σ σ' : bd} {t : Tk} (T : ir σ t) (hc : σ'.c = σ.c) (ho : σ'.obs.length = σ.obs.length) : ir σ' t :=
 ⟨fun h => by rw [ho]; exact T.obj h, by rw [hc]; exact T.s, by rw [hc]; exact T.i, T.w, T.c5, T.c0, T.ats⟩
abbrev Tk.new (c : iF) (who : Int) (x : Cl) : Tk := ⟨who, x, (x.flow.tmod c.sh + c.sh).tmod c.sh, 0, 0, 0, false, 0, 0, 0, 0, 0⟩
theorem ir.new {σ : bd} (hc : da σ.c = true) (who : Int) (x : Cl) : ir σ (Tk.new σ.c who x) := by
 have := bQ.1 hc;exact ⟨fun h => by simp at h, rfl, fun _ _ => by simp; omega, by simp, fun h => by simp at h, fun h => by simp at h, .inl rfl⟩
theorem Xo (σ : bd) (t : Tk) : ((vA σ t).obs.map fun q => q.1) = σ.obs.map fun q => q.1 := by
 unfold vA;apply List.ext_getElem?;intro j;simp only [vz, List.getElem?_modify]
 cases σ.obs[j]? with
 | none => rfl
 | some q =>
  show some (if t.obj = j then _ else q).1 = some q.1
  split <;> rfl
structure Kept (σ : bd) (t : Tk) (r : bd × Tk × Bool) (k : Nat) : Prop where
 si : SI r.1 (k + 3)
 c : r.1.c = σ.c
 obs : r.1.obs.length = σ.obs.length
 hd : (r.1.obs.map fun q => q.1) = σ.obs.map fun q => q.1
 pts : r.1.pts.length ≤ σ.pts.length + 1
 who : r.2.1.who = t.who
 x : r.2.1.x = t.x
 ok : r.2.2 = false → ir r.1 r.2.1
theorem JE {σ : bd} {t : Tk} {k : Nat} (h : SI σ k) (T : ir σ t) (hat : t.at' = 0 ∨ t.at' = 2) : Kept σ t (gJ σ t) k := by
 refine ⟨(h.acc _ _ _).mono (by omega), rfl, rfl, rfl, Nat.le_succ _, rfl, rfl, fun _ => ?_⟩;have hi := T.i (by omega) (by omega);refine ⟨fun hh => ?_, T.s, fun h1 h2 => ?_, T.w, fun hh => ?_, fun hh => ?_, ?_⟩
 ·show (aV σ t).obj < σ.obs.length
  have hf : (aV σ t).found = true := by
   cases hf : (aV σ t).found with
   | true => rfl
   | false =>
    have hh' : 6 ≤ (if (aV σ t).found = true then 6 else if cD σ (aV σ t) = true then 3 else 2 : Nat) ∨ (if (aV σ t).found = true then 6 else if cD σ (aV σ t) = true then 3 else 2 : Nat) = 5 ∧ _ := hh;rw [hf, if_neg (by simp)] at hh'
    rcases hh' with q | q
    ·split at q <;> omega
    ·have q := q.1
     split at q <;> omega
  have hf' : ss (σ.μ.V (10, t.s, (t.i : Int))) t.x.flow = true := hf;have e : (aV σ t).obj = σ.μ.V (10, t.s, (t.i : Int)) % 4294967296 := if_pos hf';rw [e];have hv := (of_decide_eq_true hf').1;exact h.slot _ _ hv
 ·have h1 : (if (aV σ t).found = true then 6 else if cD σ (aV σ t) = true then 3 else 2 : Nat) < 5 := h1
  have h2 : (if (aV σ t).found = true then 6 else if cD σ (aV σ t) = true then 3 else 2 : Nat) ≠ 3 := h2
  have hl : ¬ cD σ (aV σ t) = true := by
   intro hl;rw [if_pos hl] at h1 h2
   split at h1
   ·omega
   ·rename_i hn
    rw [if_neg hn] at h2;exact h2 rfl
  have : ¬ (σ.c.sl ≤ ((t.i + 1 : Nat) : Int)) := fun q => hl (fH q);show ((t.i + 1 : Nat) : Int) < σ.c.sl;omega
 ·have hh : (if (aV σ t).found = true then 6 else if cD σ (aV σ t) = true then 3 else 2 : Nat) = 5 := hh
  split at hh
  ·omega
  ·split at hh <;> omega
 ·have hh : (if (aV σ t).found = true then 6 else if cD σ (aV σ t) = true then 3 else 2 : Nat) = 10 ∨ (if (aV σ t).found = true then 6 else if cD σ (aV σ t) = true then 3 else 2 : Nat) = 11 ∨ (if (aV σ t).found = true then 6 else if cD σ (aV σ t) = true then 3 else 2 : Nat) = 14 ∨ 21 ≤ (if (aV σ t).found = true then 6 else if cD σ (aV σ t) = true then 3 else 2 : Nat) := hh
  split at hh
  ·omega
  ·split at hh <;> omega
 ·show (if (aV σ t).found = true then 6 else if cD σ (aV σ t) = true then 3 else 2 : Nat) = 0 ∨ _
  simp only [gJ]
  split
  ·simp
  ·split <;> simp
theorem aeB {σ : bd} {t : Tk} {k : Nat} (now : Int) (hk : k < 300000) (h : SI σ k) (T : ir σ t) : Kept σ t (aq σ t now) k := by
 rcases T.ats with hat | hat | hat | hat | hat | hat | hat | hat | hat | hat | hat | hat | hat | hat | hat | hat | hat | hat | hat | hat | hat | hat | hat | hat
 ·-- 0
  cases hx : fE t.x with
  | some e =>
   have hs : aq σ t now = (σ.note now t.who e, { t with code := e }, true) := by simp only [aq, hat, hx]
   rw [hs];exact ⟨(h.note _ _ _).mono (by omega), rfl, rfl, rfl, (by simp [bd.note]), rfl, rfl, fun h => by simp at h⟩
  | none =>
   have hs : aq σ t now = gJ σ t := by simp only [aq, hat, hx, gJ]
   rw [hs];exact JE h T (.inl hat)
 ·-- 2
  have hs : aq σ t now = gJ σ t := by simp only [aq, hat, gJ]
  rw [hs];exact JE h T (.inr hat)
 ·-- 3
  by_cases hw : σ.μ.V (8, t.s, 0) = 0
  ·have hs : aq σ t now = (σ.mem (σ.μ.swp t.who (8, t.s, 0) 0 1), { t with at' := 4, i := 0 }, false) := by simp only [aq, hat]; rw [if_pos hw]
   rw [hs];exact ⟨(h.swp _ _ _ _ (by omega) (by simp) (by simp)).mono (by omega), rfl, rfl, rfl, Nat.le_succ _, rfl, rfl, fun _ => ⟨fun _ => (by rename_i hh; simp at hh), T.s, (fun _ _ => by have := bQ.1 h.c; show ((0 : Nat) : Int) < σ.c.sl; omega), T.w, (fun h => by simp at h), (fun h => by simp at h), (by simp)⟩⟩
  ·have hs : aq σ t now = (σ.mem (σ.μ.swp t.who (8, t.s, 0) 0 1), t, false) := by simp only [aq, hat]; rw [if_neg hw]
   rw [hs];exact ⟨(h.swp _ _ _ _ (by omega) (by simp) (by simp)).mono (by omega), rfl, rfl, rfl, Nat.le_succ _, rfl, rfl, fun _ => T.mono rfl rfl⟩
 ·-- 4
  have hi := T.i (by omega) (by omega)
  cases hf : (aV σ t).found with
  | true =>
   have hs : aq σ t now = (aZ σ t, { aV σ t with at' := 5 }, false) := by simp only [aq, hat, hf]; rfl
   rw [hs];have hf' : ss (σ.μ.V (10, t.s, (t.i : Int))) t.x.flow = true := hf;have e : (aV σ t).obj = σ.μ.V (10, t.s, (t.i : Int)) % 4294967296 := if_pos hf'
   have ho : (aV σ t).obj < σ.obs.length := by rw [e]; exact h.slot _ _ (of_decide_eq_true hf').1
   exact ⟨(h.acc _ _ _).mono (by omega), rfl, rfl, rfl, Nat.le_succ _, rfl, rfl, fun _ => ⟨fun _ => ho, T.s, (fun h1 h2 => by simp at h1), T.w, (fun _ h2 => by rw [show (aV σ t).found = false from h2] at hf; cases hf), (fun h => by simp at h), (by simp)⟩⟩
  | false =>
   cases hla : cD σ (aV σ t) with
   | true =>
    have hs : aq σ t now = ((aZ σ t).note now t.who 5, { aV σ t with at' := 5, code := 5 }, false) := by simp only [aq, hat, hf, hla]; rfl
    rw [hs];exact ⟨((h.acc _ _ _).note _ _ _).mono (by omega), rfl, rfl, rfl, (by simp [bd.note]), rfl, rfl, fun _ => ⟨fun _ => (by rename_i hh; rw [show (aV σ t).found = false from hf] at hh; simp at hh), T.s, (fun h1 h2 => by simp at h1), T.w, (fun _ _ => rfl), (fun h => by simp at h), (by simp)⟩⟩
   | false =>
    have hs : aq σ t now = (aZ σ t, aV σ t, false) := by simp only [aq, hat, hf, hla]; rfl
    rw [hs]
    have hl : ¬ (σ.c.sl ≤ ((t.i + 1 : Nat) : Int)) := fun q => by rw [show cD σ (aV σ t) = true from fH q] at hla; cases hla
    have ea : (aV σ t).at' = 4 := hat;exact ⟨(h.acc _ _ _).mono (by omega), rfl, rfl, rfl, Nat.le_succ _, rfl, rfl, fun _ => ⟨fun _ => (by rename_i hh; rw [ea] at hh; simp at hh), T.s, (fun _ _ => by show ((t.i + 1 : Nat) : Int) < σ.c.sl; omega), T.w, (fun h => by rw [ea] at h; simp at h), (fun h => by rw [ea] at h; simp at h), (by rw [ea]; simp)⟩⟩
 ·-- 5
  cases hf : t.found with
  | false =>
   have hs : aq σ t now = (σ.mem ((σ.μ.acc t.who 2 (8, t.s, 0)).put (8, t.s, 0) 0), { t with at' := 6 }, true) := by simp only [aq, hat, hf]; rfl
   rw [hs];exact ⟨((h.acc _ _ _).put _ _ (by omega) (by simp) (.inl (by simp))).mono (by omega), rfl, rfl, rfl, Nat.le_succ _, rfl, rfl, fun h => by simp at h⟩
  | true =>
   have hs : aq σ t now = (σ.mem ((σ.μ.acc t.who 2 (8, t.s, 0)).put (8, t.s, 0) 0), { t with at' := 6 }, false) := by simp only [aq, hat, hf]; rfl
   rw [hs];exact ⟨((h.acc _ _ _).put _ _ (by omega) (by simp) (.inl (by simp))).mono (by omega), rfl, rfl, rfl, Nat.le_succ _, rfl, rfl, fun _ => ⟨fun _ => T.obj (.inr ⟨hat, hf⟩), T.s, (fun h1 h2 => by simp at h1), T.w, (fun h => by simp at h), (fun h => by simp at h), (by simp)⟩⟩
 ·-- 6
  have hs : aq σ t now = (σ.mem (σ.μ.acc t.who 5 (13, (t.obj : Int), 0)), { t with at' := 7 }, false) := by simp only [aq, hat]
  rw [hs];exact ⟨(h.acc _ _ _).mono (by omega), rfl, rfl, rfl, Nat.le_succ _, rfl, rfl, fun _ => ⟨fun _ => T.obj (.inl (by omega)), T.s, (fun h1 h2 => by simp at h1), T.w, (fun h => by simp at h), (fun h => by simp at h), (by simp)⟩⟩
 ·-- 7
  by_cases hw : bC (σ.μ.V (11, (t.obj : Int), 0)) = 2
  ·have hs : aq σ t now = (dg σ t, { t with w := σ.μ.V (11, (t.obj : Int), 0), at' := 3 }, false) := by simp only [aq, hat]; rw [if_pos hw]
   rw [hs];exact ⟨(h.acc _ _ _).mono (by omega), rfl, rfl, rfl, Nat.le_succ _, rfl, rfl, fun _ => ⟨fun _ => (by rename_i hh; simp at hh), T.s, (fun _ h2 => by simp at h2), h.V _, (fun h => by simp at h), (fun h => by simp at h), (by simp)⟩⟩
  ·have hs : aq σ t now = (dg σ t, { t with w := σ.μ.V (11, (t.obj : Int), 0), at' := 8 }, false) := by simp only [aq, hat]; rw [if_neg hw]
   rw [hs];exact ⟨(h.acc _ _ _).mono (by omega), rfl, rfl, rfl, Nat.le_succ _, rfl, rfl, fun _ => ⟨fun _ => T.obj (.inl (by omega)), T.s, (fun h1 h2 => by simp at h1), h.V _, (fun h => by simp at h), (fun h => by simp at h), (by simp)⟩⟩
 ·-- 8
  cases hf : nU σ t with
  | true =>
   have hs : aq σ t now = (jA σ t, { t with at' := 15 }, false) := by simp only [aq, hat, hf]; rfl
   rw [hs];exact ⟨(h.acc _ _ _).mono (by omega), rfl, rfl, rfl, Nat.le_succ _, rfl, rfl, fun _ => ⟨fun _ => T.obj (.inl (by omega)), T.s, (fun h1 h2 => by simp at h1), T.w, (fun h => by simp at h), (fun h => by simp at h), (by simp)⟩⟩
  | false =>
   by_cases hw : bC t.w = 1
   ·have hs : aq σ t now = (jA σ t, { t with at' := 9 }, false) := by simp only [aq, hat, hf]; rw [if_pos hw]; rfl
    rw [hs];exact ⟨(h.acc _ _ _).mono (by omega), rfl, rfl, rfl, Nat.le_succ _, rfl, rfl, fun _ => ⟨fun _ => T.obj (.inl (by omega)), T.s, (fun h1 h2 => by simp at h1), T.w, (fun h => by simp at h), (fun h => by simp at h), (by simp)⟩⟩
   ·have hs : aq σ t now = (jA σ t, { t with at' := 12 }, false) := by simp only [aq, hat, hf]; rw [if_neg hw]; rfl
    rw [hs];exact ⟨(h.acc _ _ _).mono (by omega), rfl, rfl, rfl, Nat.le_succ _, rfl, rfl, fun _ => ⟨fun _ => T.obj (.inl (by omega)), T.s, (fun h1 h2 => by simp at h1), T.w, (fun h => by simp at h), (fun h => by simp at h), (by simp)⟩⟩
 ·-- 9
  cases hw : fZ σ.μ t.obj t.w (aW t.w 0) with
  | true =>
   have hs : aq σ t now = ((σ.mem (σ.μ.turn t.who t.obj t.w (aW t.w 0))).note now t.who 0, { t with at' := 10, code := 0 }, false) := by simp only [aq, hat, hw]; rfl
   rw [hs];exact ⟨((h.turn _ _ _ _).note _ _ _).mono (by omega), rfl, rfl, rfl, (by simp [bd.note]), rfl, rfl, fun _ => ⟨fun _ => T.obj (.inl (by omega)), T.s, (fun h1 h2 => by simp at h1), T.w, (fun h => by simp at h), (fun _ => rfl), (by simp)⟩⟩
  | false =>
   have hs : aq σ t now = (σ.mem (σ.μ.turn t.who t.obj t.w (aW t.w 0)), { t with at' := 7 }, false) := by simp only [aq, hat, hw]; rfl
   rw [hs];exact ⟨(h.turn _ _ _ _).mono (by omega), rfl, rfl, rfl, Nat.le_succ _, rfl, rfl, fun _ => ⟨fun _ => T.obj (.inl (by omega)), T.s, (fun h1 h2 => by simp at h1), T.w, (fun h => by simp at h), (fun h => by simp at h), (by simp)⟩⟩
 ·-- 10
  have hs : aq σ t now = (vA σ t, { t with at' := 11 }, false) := by simp only [aq, hat]
  rw [hs];exact ⟨(h.lay t).mono (by omega), rfl, jC σ t, Xo σ t, Nat.le_succ _, rfl, rfl, fun _ => (by have := jC σ t; exact ⟨fun _ => (by rw [this]; exact T.obj (.inl (by omega))), T.s, (fun h1 h2 => by simp at h1), T.w, (fun h => by simp at h), (fun _ => T.c0 (by omega)), (by simp)⟩)⟩
 ·-- 11
  have hs : aq σ t now = (BA σ t, t, true) := by simp only [aq, hat]
  rw [hs];exact ⟨((h.acc _ _ _).put _ _ (by have := eb t.w; omega) (by simp) (.inl (by simp))).mono (by omega), rfl, rfl, rfl, Nat.le_succ _, rfl, rfl, fun h => by simp at h⟩
 ·-- 12
  have hs : aq σ t now = (σ.mem (σ.μ.cnt t.who (3, 0, 0) 4294967296), { t with at' := 13 }, false) := by simp only [aq, hat]
  rw [hs];exact ⟨(h.cnt _ _ _ (by simp) (by simp)).mono (by omega), rfl, rfl, rfl, Nat.le_succ _, rfl, rfl, fun _ => ⟨fun _ => T.obj (.inl (by omega)), T.s, (fun h1 h2 => by simp at h1), T.w, (fun h => by simp at h), (fun h => by simp at h), (by simp)⟩⟩
 ·-- 13
  cases hw : fZ σ.μ t.obj t.w (aW t.w 0) with
  | true =>
   have hs : aq σ t now = ((σ.mem (σ.μ.turn t.who t.obj t.w (aW t.w 0))).note now t.who 0, { t with at' := 14, code := 0 }, false) := by simp only [aq, hat, hw]; rfl
   rw [hs];exact ⟨((h.turn _ _ _ _).note _ _ _).mono (by omega), rfl, rfl, rfl, (by simp [bd.note]), rfl, rfl, fun _ => ⟨fun _ => T.obj (.inl (by omega)), T.s, (fun h1 h2 => by simp at h1), T.w, (fun h => by simp at h), (fun _ => rfl), (by simp)⟩⟩
  | false =>
   have hs : aq σ t now = (σ.mem (σ.μ.turn t.who t.obj t.w (aW t.w 0)), { t with at' := 20 }, false) := by simp only [aq, hat, hw]; rfl
   rw [hs];exact ⟨(h.turn _ _ _ _).mono (by omega), rfl, rfl, rfl, Nat.le_succ _, rfl, rfl, fun _ => ⟨fun _ => T.obj (.inl (by omega)), T.s, (fun h1 h2 => by simp at h1), T.w, (fun h => by simp at h), (fun h => by simp at h), (by simp)⟩⟩
 ·-- 14
  have hs : aq σ t now = (vA σ t, { t with at' := 21 }, false) := by simp only [aq, hat]
  rw [hs];exact ⟨(h.lay t).mono (by omega), rfl, jC σ t, Xo σ t, Nat.le_succ _, rfl, rfl, fun _ => (by have := jC σ t; exact ⟨fun _ => (by rw [this]; exact T.obj (.inl (by omega))), T.s, (fun h1 h2 => by simp at h1), T.w, (fun h => by simp at h), (fun _ => T.c0 (by omega)), (by simp)⟩)⟩
 ·-- 15
  by_cases hw : σ.μ.V (2, 0, 0) % 2 = 1
  ·have hs : aq σ t now = (eK σ t, { t with q := σ.μ.V (2, 0, 0), at' := 7 }, false) := by simp only [aq, hat]; rw [if_pos hw]
   rw [hs];exact ⟨(h.acc _ _ _).mono (by omega), rfl, rfl, rfl, Nat.le_succ _, rfl, rfl, fun _ => ⟨fun _ => T.obj (.inl (by omega)), T.s, (fun h1 h2 => by simp at h1), T.w, (fun h => by simp at h), (fun h => by simp at h), (by simp)⟩⟩
  ·have hs : aq σ t now = (eK σ t, { t with q := σ.μ.V (2, 0, 0), at' := 16 }, false) := by simp only [aq, hat]; rw [if_neg hw]
   rw [hs];exact ⟨(h.acc _ _ _).mono (by omega), rfl, rfl, rfl, Nat.le_succ _, rfl, rfl, fun _ => ⟨fun _ => T.obj (.inl (by omega)), T.s, (fun h1 h2 => by simp at h1), T.w, (fun h => by simp at h), (fun h => by simp at h), (by simp)⟩⟩
 ·-- 16
  by_cases hw : bC (σ.μ.V (11, (t.obj : Int), 0)) = 2
  ·have hs : aq σ t now = (dg σ t, { t with w := σ.μ.V (11, (t.obj : Int), 0), at' := 3 }, false) := by simp only [aq, hat]; rw [if_pos hw]
   rw [hs];exact ⟨(h.acc _ _ _).mono (by omega), rfl, rfl, rfl, Nat.le_succ _, rfl, rfl, fun _ => ⟨fun _ => (by rename_i hh; simp at hh), T.s, (fun _ h2 => by simp at h2), h.V _, (fun h => by simp at h), (fun h => by simp at h), (by simp)⟩⟩
  ·have hs : aq σ t now = (dg σ t, { t with w := σ.μ.V (11, (t.obj : Int), 0), at' := 17 }, false) := by simp only [aq, hat]; rw [if_neg hw]
   rw [hs];exact ⟨(h.acc _ _ _).mono (by omega), rfl, rfl, rfl, Nat.le_succ _, rfl, rfl, fun _ => ⟨fun _ => T.obj (.inl (by omega)), T.s, (fun h1 h2 => by simp at h1), h.V _, (fun h => by simp at h), (fun h => by simp at h), (by simp)⟩⟩
 ·-- 17
  cases hf : nU σ t with
  | true =>
   have hs : aq σ t now = (jA σ t, { t with at' := 18, mark := now }, false) := by simp only [aq, hat, hf]; rfl
   rw [hs];exact ⟨(h.acc _ _ _).mono (by omega), rfl, rfl, rfl, Nat.le_succ _, rfl, rfl, fun _ => ⟨fun _ => T.obj (.inl (by omega)), T.s, (fun h1 h2 => by simp at h1), T.w, (fun h => by simp at h), (fun h => by simp at h), (by simp)⟩⟩
  | false =>
   have hs : aq σ t now = (jA σ t, { t with at' := 7 }, false) := by simp only [aq, hat, hf]; rfl
   rw [hs];exact ⟨(h.acc _ _ _).mono (by omega), rfl, rfl, rfl, Nat.le_succ _, rfl, rfl, fun _ => ⟨fun _ => T.obj (.inl (by omega)), T.s, (fun h1 h2 => by simp at h1), T.w, (fun h => by simp at h), (fun h => by simp at h), (by simp)⟩⟩
 ·-- 18
  by_cases hw : σ.μ.V (2, 0, 0) = t.q
  ·have hs : aq σ t now = ((eK σ t).note t.mark t.who 9, { t with code := 9 }, true) := by simp only [aq, hat]; rw [if_pos hw]
   rw [hs];exact ⟨((h.acc _ _ _).note _ _ _).mono (by omega), rfl, rfl, rfl, (by simp [bd.note]), rfl, rfl, fun h => by simp at h⟩
  ·have hs : aq σ t now = (eK σ t, { t with at' := 7 }, false) := by simp only [aq, hat]; rw [if_neg hw]
   rw [hs];exact ⟨(h.acc _ _ _).mono (by omega), rfl, rfl, rfl, Nat.le_succ _, rfl, rfl, fun _ => ⟨fun _ => T.obj (.inl (by omega)), T.s, (fun h1 h2 => by simp at h1), T.w, (fun h => by simp at h), (fun h => by simp at h), (by simp)⟩⟩
 ·-- 20
  have hs : aq σ t now = (σ.mem (σ.μ.cnt t.who (3, 0, 0) 1), { t with at' := 7 }, false) := by simp only [aq, hat]
  rw [hs];exact ⟨(h.cnt _ _ _ (by simp) (by simp)).mono (by omega), rfl, rfl, rfl, Nat.le_succ _, rfl, rfl, fun _ => ⟨fun _ => T.obj (.inl (by omega)), T.s, (fun h1 h2 => by simp at h1), T.w, (fun h => by simp at h), (fun h => by simp at h), (by simp)⟩⟩
 ·-- 21
  have hs : aq σ t now = (BA σ t, { t with at' := 22 }, false) := by simp only [aq, hat]
  rw [hs];exact ⟨((h.acc _ _ _).put _ _ (by have := eb t.w; omega) (by simp) (.inl (by simp))).mono (by omega), rfl, rfl, rfl, Nat.le_succ _, rfl, rfl, fun _ => ⟨fun _ => T.obj (.inl (by omega)), T.s, (fun h1 h2 => by simp at h1), T.w, (fun h => by simp at h), (fun _ => T.c0 (by omega)), (by simp)⟩⟩
 ·-- 22
  have hs : aq σ t now = (σ.mem (σ.μ.acc t.who 1 (9, t.s, 0)), { t with top := σ.μ.V (9, t.s, 0), at' := 23 }, false) := by simp only [aq, hat]
  rw [hs];exact ⟨(h.acc _ _ _).mono (by omega), rfl, rfl, rfl, Nat.le_succ _, rfl, rfl, fun _ => ⟨fun _ => T.obj (.inl (by omega)), T.s, (fun h1 h2 => by simp at h1), T.w, (fun h => by simp at h), (fun _ => T.c0 (by omega)), (by simp)⟩⟩
 ·-- 23
  have hs : aq σ t now = ({ σ with μ := σ.μ.acc t.who 6 (14, (t.obj : Int), 0), nx := fun k => if k = (t.obj : Int) then some t.top else σ.nx k }, { t with at' := 24 }, false) := by simp only [aq, hat]
  rw [hs];exact ⟨(h.link _ _ _).mono (by omega), rfl, rfl, rfl, Nat.le_succ _, rfl, rfl, fun _ => ⟨fun _ => T.obj (.inl (by omega)), T.s, (fun h1 h2 => by simp at h1), T.w, (fun h => by simp at h), (fun _ => T.c0 (by omega)), (by simp)⟩⟩
 ·-- 24
  by_cases hw : σ.μ.V (9, t.s, 0) = t.top
  ·have hs : aq σ t now = (σ.mem (σ.μ.swp t.who (9, t.s, 0) t.top (t.obj + 1)), { t with at' := 25 }, false) := by simp only [aq, hat]; rw [if_pos hw]
   rw [hs];exact ⟨(h.swp _ _ _ _ (by have := T.obj (.inl (by omega)); have := h.obs; omega) (by simp) (by simp)).mono (by omega), rfl, rfl, rfl, Nat.le_succ _, rfl, rfl, fun _ => ⟨fun _ => T.obj (.inl (by omega)), T.s, (fun h1 h2 => by simp at h1), T.w, (fun h => by simp at h), (fun _ => T.c0 (by omega)), (by simp)⟩⟩
  ·have hs : aq σ t now = (σ.mem (σ.μ.swp t.who (9, t.s, 0) t.top (t.obj + 1)), { t with at' := 22 }, false) := by simp only [aq, hat]; rw [if_neg hw]
   rw [hs];exact ⟨(h.swp _ _ _ _ (by have := T.obj (.inl (by omega)); have := h.obs; omega) (by simp) (by simp)).mono (by omega), rfl, rfl, rfl, Nat.le_succ _, rfl, rfl, fun _ => ⟨fun _ => T.obj (.inl (by omega)), T.s, (fun h1 h2 => by simp at h1), T.w, (fun h => by simp at h), (fun _ => T.c0 (by omega)), (by simp)⟩⟩
 ·-- 25
  have hs : aq σ t now = (σ.mem (σ.μ.cnt t.who (3, 0, 0) 1), t, true) := by simp only [aq, hat]
  rw [hs];exact ⟨(h.cnt _ _ _ (by simp) (by simp)).mono (by omega), rfl, rfl, rfl, Nat.le_succ _, rfl, rfl, fun h => by simp at h⟩
theorem Rk {α : Type} (F : α → SP) (R : SP) : (ex fun x => F x * R) = ex F * R := by
 apply SP.ext;intro h
 constructor
 ·rintro ⟨x, a, b, hd, rfl, ha, hb⟩
  exact ⟨a, b, hd, rfl, ⟨x, ha⟩, hb⟩
 ·rintro ⟨a, b, hd, rfl, ⟨x, ha⟩, hb⟩
  exact ⟨x, a, b, hd, rfl, ha, hb⟩
def eT (e p : Nat) (rp : List Nat) (t : Tk) : SP := ex fun v : Value => pu (MJ rp t v) * eB e p (fw e (Cj t.at')) v t
def xT (x P : Nat) (t : Tk) : SP := ex fun k : Xk => pu (iG t k) * xB x P t k
theorem agF (e p : Nat) (rp : List Nat) (σ : bd) (t : Tk) : eP e p rp σ t = eT e p rp t * aM p rp σ := by
 unfold eP eT;rw [← Rk]
 congr 1
 funext v
 rw [aj]
theorem axJ (x P : Nat) (σ : bd) (t : Tk) : xP x P σ t = xT x P t * aJ P σ := by
 unfold xP xT;rw [← Rk]
 congr 1
 funext v
 rw [aj]
def xU (x P : Nat) (r : bd × Tk × Bool) : SP := ex fun k : Xk => pu (if r.2.2 = true then k.code = r.2.1.code else iG r.2.1 k) * xB x P r.2.1 k
theorem axK (x P : Nat) (r : bd × Tk × Bool) : xQ x P r = xU x P r * aJ P r.1 := by
 unfold xQ xU;rw [← Rk]
 congr 1
 funext v
 rw [aj]
def eU (e p : Nat) (rp : List Nat) (r : bd × Tk × Bool) : SP := if r.2.2 = true then emp else eT e p rp r.2.1
theorem awW (e p : Nat) (rp : List Nat) (r : bd × Tk × Bool) : eQ e p rp r = eU e p rp r * aM p rp r.1 := by
 unfold eQ eU
 split
 ·rw [g7]
 ·rw [agF]
theorem axL {x P : Nat} {r : bd × Tk × Bool} (h : r.2.2 = false) : xU x P r = xT x P r.2.1 := by
 unfold xU xT;simp only [h]
 rfl
section
variable (p x : Nat) (rp : List Nat) (σ : bd)
theorem agG (hc : da σ.c = true) (who : Int) (c : Cl) : Sp z7 [vp p, vi who, .agg (Cl.cells c).toArray] (aM p rp σ) (fun e : Nat => vp e) (fun e => eT e p rp (Tk.new σ.c who c) * aM p rp σ) := by
 have hr := bQ.1 hc;refine aY (Rg _ _ _) fun R H h => ?_;refine aS h fun b H1 h1 => ?_;refine aR h1 ?_;obtain ⟨g, hrp, hg, k1⟩ := dh (p := p) (rp := rp) (σ := σ) (R := blk b (.cells false (Cl.cells c)) * R) (H := H1) h1.to;refine ak k1 ae rfl ?_;refine ak k1 aB rfl ?_;refine af k1 (J1 (p := p) (g := g) (σ := σ) (BC g.tb g.m σ.c.sh.toNat σ.c.sl.toNat (by omega) c.flow)) fun _ H2 k2 => ?_;refine dB k2 k1 rfl ?_
 have es : vi ((c.flow.tmod (σ.c.sh.toNat : Int) + (σ.c.sh.toNat : Int)).tmod (σ.c.sh.toNat : Int)) = vi (Tk.new σ.c who c).s := by rw [show ((σ.c.sh.toNat : Nat) : Int) = σ.c.sh from by omega]
 rw [es];have h2 := bz (p := p) (rp := rp) (σ := σ) (R := blk b (.cells false (Cl.cells c)) * R) (H := H2) g hrp hg k2.to;refine jq ?_;refine aS h2 fun e H3 h3 => ?_;refine bg h3 ae rfl rfl fun H4 h4 => ?_;refine am ⟨e, rfl, ?_⟩;rw [← agF];exact NQ (v := .pointer none) (n := m6) (i1 (by simp)) rfl h4.to
theorem PA (who : Int) (c : Cl) (s : Int) : Sp kQ [vp x, vi who, .agg (Cl.cells c).toArray] emp (fun b : Nat => vp b) (fun b => xT b x (Tk.new σ.c who c)) := by
 refine aY (s0 _ _ _) fun R H h => ?_;refine aS h fun b H1 h1 => ?_;refine aR h1 ?_;refine jq ?_;refine aS h1 fun xb H2 h2 => ?_;refine am ⟨xb, rfl, ?_⟩;refine ac.ex.2 ⟨⟨0, 0, -1, false, 0, 0, 0, 0, 0, 0, 0⟩, ?_⟩;rw [aj, ac.pu];exact ⟨by simp [iG], h2.to⟩
theorem S6 (who place : Int) (hN : σ.μ.N < 1000000) : Sp kw [.agg [vp p, vp x].toArray, vi who, vi place] (aM p rp σ * aJ x σ) (fun _ : Unit => .tuple #[]) (fun _ => aM p rp (σ.begin who place) * aJ x (σ.begin who place)) := by
 refine aY (xF _ _ _) fun R H h => ?_;refine aS (l := [vp p, vp x]) h fun b H1 h1 => ?_;refine ak h1 aB rfl ?_;refine af h1 (auC p rp σ who place) fun _ H2 h2 => ?_;refine ak h2 aB rfl ?_;refine af h2 (av7 x σ who place (by omega)) fun _ H3 h3 => ?_;exact am ⟨(), rfl, h3.to⟩
end
def HG (f : Value → Value → Bool) : List Value → List Value → Bool
 | [], [] => true
 | x :: xs, y :: ys => f x y && HG f xs ys
 | _, _ => false
def eqV : Nat → Value → Value → Bool
 | _, .bool a, .bool b => a == b
 | _, .int k a, .int k' b => decide (k = k') && decide (a = b)
 | _, .string a, .string b => decide (a = b)
 | _, .pointer a, .pointer b => decide (a = b)
 | _, .slice a n e, .slice a' n' e' => decide (a = a') && decide (n = n') && decide (e = e')
 | _, .map a, .map b => decide (a = b)
 | _, .nilFunc, .nilFunc => true
 | _, .nilIface, .nilIface => true
 | n + 1, .agg xs, .agg ys => HG (eqV n) xs.toList ys.toList
 | n + 1, .tuple xs, .tuple ys => HG (eqV n) xs.toList ys.toList
 | n + 1, .func f xs zs, .func f' ys ws => decide (f = f') && HG (eqV n) xs.toList ys.toList && HG (eqV n) zs.toList ws.toList
 | _, _, _ => false
theorem Es {f : Value → Value → Bool} (hf : ∀ x y, f x y = true → x = y) : ∀ xs ys, HG f xs ys = true → xs = ys := by
 intro xs
 induction xs with
 | nil => intro ys h; cases ys with | nil => rfl | cons y ys => simp [HG] at h
 | cons x xs ih =>
  intro ys h
  cases ys with
  | nil => simp [HG] at h
  | cons y ys =>
   simp only [HG, Bool.and_eq_true] at h;rw [hf _ _ h.1, ih _ h.2]
theorem Iu : ∀ (n : Nat) (x y : Value), eqV n x y = true → x = y := by
 intro n
 induction n with
 | zero =>
  intro x y h
  cases x <;> cases y <;> simp_all [eqV]
 | succ n ih =>
  have hl := Es ih;intro x y h
  cases x <;> cases y <;> simp_all [eqV]
  ·exact ⟨Array.toList_inj.1 (hl _ _ h.1.2), Array.toList_inj.1 (hl _ _ h.2)⟩
  ·exact Array.toList_inj.1 (hl _ _ h)
  ·exact Array.toList_inj.1 (hl _ _ h)
def eqO : Option Value → Option Value → Bool
 | none, none => true
 | some x, some y => eqV 4 x y
 | _, _ => false
theorem Zi {x y : Option Value} (h : eqO x y = true) : x = y := by
 cases x <;> cases y <;> simp_all [eqO]
 exact Iu _ _ _ h
section
variable (g d : Nat)
def CP (b : Nat) : Nat := if b < g then b else b + d
def Bz (a : Addr) : Addr := { a with block := CP g d a.block }
def bW : Value → Value
 | .pointer a => .pointer (a.map (Bz g d))
 | .slice a n e => .slice (a.map (Bz g d)) n e
 | .map r => .map (r.map (CP g d))
 | .func fn f c => .func fn (f.map bW) (c.map bW)
 | .iface t v => .iface t (bW v)
 | .agg cs => .agg (cs.map bW)
 | .tuple cs => .tuple (cs.map bW)
 | v => v
end
abbrev iv (g d : Nat) (l : List Value) : List Value := l.map (bW g d)
section
variable {g d : Nat}
theorem Yl {a b : Nat} (h : CP g d a = CP g d b) : a = b := by unfold CP at h; split at h <;> split at h <;> omega
@[simp] theorem Ym (b : Bool) : (bW g d) (.bool b) = .bool b := by rw [bW] <;> simp
@[simp] theorem AG (k : IntKind) (n : Int) : (bW g d) (.int k n) = .int k n := by rw [bW] <;> simp
@[simp] theorem axC (k : FloatKind) (n : Nat) : (bW g d) (.float k n) = .float k n := by rw [bW] <;> simp
@[simp] theorem avV (k : FloatKind) (n m : Nat) : (bW g d) (.complex k n m) = .complex k n m := by rw [bW] <;> simp
@[simp] theorem JG (b : ByteArray) : (bW g d) (.string b) = .string b := by rw [bW] <;> simp
@[simp] theorem axS (r : Option Nat) : (bW g d) (.chan r) = .chan r := by rw [bW] <;> simp
@[simp] theorem avW : (bW g d) .nilFunc = .nilFunc := by rw [bW] <;> simp
@[simp] theorem atR : (bW g d) .nilIface = .nilIface := by rw [bW] <;> simp
@[simp] theorem Ul (a : Option Addr) : (bW g d) (.pointer a) = .pointer (a.map (Bz g d)) := by rw [bW]
@[simp] theorem gU (a : Option Addr) (n e : Nat) : (bW g d) (.slice a n e) = .slice (a.map (Bz g d)) n e := by rw [bW]
@[simp] theorem M1 (r : Option Nat) : (bW g d) (.map r) = .map (r.map (CP g d)) := by rw [bW]
@[simp] theorem axD (t : TypeId) (v : Value) : (bW g d) (.iface t v) = .iface t ((bW g d) v) := by rw [bW]
@[simp] theorem axT (fn : Fn) (f c : Array Value) : (bW g d) (.func fn f c) = .func fn (f.map (bW g d)) (c.map (bW g d)) := by rw [bW]
@[simp] theorem Ug (cs : Array Value) : (bW g d) (.agg cs) = .agg (cs.map (bW g d)) := by rw [bW]
@[simp] theorem an6 (cs : Array Value) : (bW g d) (.tuple cs) = .tuple (cs.map (bW g d)) := by rw [bW]
@[simp] theorem tg : (bW g d) undef = undef := by simp [undef]
theorem an0 {v : Value} (h : dr v = true) : (bW g d) v = v := by
 unfold dr at h
 split at h <;> first | (simp; done) | cases h
theorem y6 {l : List Value} (h : l.all dr = true) : iv g d l = l := by
 induction l with
 | nil => rfl
 | cons x l ih => simp only [List.all_cons, Bool.and_eq_true] at h; simp only [iv, List.map_cons, an0 h.1]; rw [show List.map (bW g d) l = l from ih h.2]
theorem PZ {v : Value} (h : zo v = true) : (bW g d) v = v := by
 unfold zo at h
 split at h
 ·rename_i cs
  rw [Ug]; congr 1; exact Array.toList_inj.1 (by rw [Array.toList_map]; exact y6 h)
 ·rename_i cs
  rw [an6]; congr 1; exact Array.toList_inj.1 (by rw [Array.toList_map]; exact y6 h)
 ·exact an0 h
theorem GZ (v : Value) : ((bW g d) v).cells = v.cells.map (bW g d) := by
 cases v <;> simp [Value.cells]
theorem ad3 (v : Value) : ((bW g d) v).cells.toList = iv g d v.cells.toList := by rw [GZ, Array.toList_map]
theorem avX (v : Value) : Value.oneCell' ((bW g d) v) = Value.oneCell' v := by
 cases v <;> simp [Value.oneCell']
theorem Yn (l : List Value) : (iv g d l).all Value.oneCell' = l.all Value.oneCell' := by
 simp only [iv, List.all_map]; congr 1; funext v; exact avX v
theorem M2 (v : Value) : uX ((bW g d) v) = (uX v).map fun a => (CP g d a.1, a.2) := by
 cases v with
 | pointer a =>
  cases a with
  | none => simp [uX]
  | some a =>
   obtain ⟨b, o, sp⟩ := a
   cases sp <;> simp [uX, Bz]
 | _ => simp [uX]
theorem an5 (c a b : Value) : aL ((bW g d) c) ((bW g d) a) ((bW g d) b) = (aL c a b).map (bW g d) := by
 cases c with
 | bool t => cases t <;> simp [aL]
 | _ => simp [aL]
theorem ar6 (v : Value) : vM ((bW g d) v) = (vM v).map (bW g d) := by
 cases v with
 | pointer a => cases a <;> simp [vM]
 | func fn f c => cases fn <;> simp [vM]
 | _ => simp [vM]
theorem ar1 (off : Nat) (v : Value) : HS off ((bW g d) v) = (HS off v).map (bW g d) := by
 unfold HS;rw [M2]
 cases uX v <;> simp [Bz]
theorem an4 (n : Option Nat) (off : Nat) (v : Value) : lU n off ((bW g d) v) = (lU n off v).map (bW g d) := by
 cases v with
 | agg cs => cases n <;> simp [lU]
 | _ => simp [lU]
theorem ar2 (e : Nat) (v i : Value) : pK e ((bW g d) v) ((bW g d) i) = (pK e v i).map (bW g d) := by
 cases v with
 | slice a n k =>
  cases a with
  | none => simp [pK]
  | some a =>
   obtain ⟨b, o, sp⟩ := a
   cases sp with
   | none =>
    cases i with
    | int k i => simp only [gU, AG, fA, Bz, pK]; split <;> simp [Bz]
    | _ => simp [pK, Bz]
   | some sp => simp [pK, Bz]
 | _ => simp [pK]
theorem an3 (len e : Nat) (v i : Value) : jp len e ((bW g d) v) ((bW g d) i) = (jp len e v i).map (bW g d) := by
 cases v with
 | pointer a =>
  cases a with
  | none => simp [jp]
  | some a =>
   obtain ⟨b, o, sp⟩ := a
   cases sp with
   | none =>
    cases i with
    | int k i => simp only [Ul, AG, fA, Bz, jp]; split <;> simp [Bz]
    | _ => simp [jp, Bz]
   | some sp => simp [jp, Bz]
 | _ => simp [jp]
theorem Uj (len : Nat) (n : Option Nat) (e : Nat) (v i : Value) : jQ len n e ((bW g d) v) ((bW g d) i) = (jQ len n e v i).map (bW g d) := by
 cases v with
 | agg cs =>
  cases i with
  | int k i =>
   simp only [Ug, AG, jQ]
   split
   ·cases n <;> simp
   ·rfl
  | _ => simp [jQ]
 | _ => simp [jQ]
theorem Ui (v i : Value) : jP ((bW g d) v) ((bW g d) i) = (jP v i).map (bW g d) := by
 cases v with
 | string b =>
  cases i with
  | int k i =>
   simp only [JG, AG, jP]
   split
   ·rw [Option.map_map]; congr 1; funext x; simp
   ·rfl
  | _ => simp [jP]
 | _ => simp [jP]
theorem ar3 (v : Value) : rA ((bW g d) v) = (rA v).map (bW g d) := by cases v <;> simp [rA]
theorem ar4 (l : List Value) : iQ (iv g d l) = (iQ l).map (bW g d) := by
 match l with
 | [] => rfl
 | [x] => simp [iv, iQ]
 | [x, y] => cases x <;> cases y <;> simp [iv, iQ]
 | x :: y :: z :: l => simp [iv, iQ]
theorem ar5 (l : List Value) : j3 (iv g d l) = (j3 l).map (bW g d) := by
 match l with
 | [] => rfl
 | [x] => simp [iv, j3]
 | [x, y] => cases x <;> cases y <;> simp [iv, j3]
 | x :: y :: z :: l => simp [iv, j3]
theorem G0 : ∀ xs ys : List Value, bR (iv g d xs) (iv g d ys) = bR xs ys := by
 intro xs
 induction xs with
 | nil => intro ys; cases ys <;> simp [iv, bR]
 | cons x xs ih =>
  intro ys
  cases ys with
  | nil => cases x <;> simp [iv, bR]
  | cons y ys =>
   have := ih ys;simp only [iv] at this
   cases x <;> cases y <;> simp [iv, bR, this]
theorem avY (cl : TCls) (x y : Value) : qB cl ((bW g d) x) ((bW g d) y) = qB cl x y := by
 cases cl with
 | flat n =>
  cases x with
  | agg a =>
   cases y with
   | agg b =>
    simp only [Ug, qB, Array.size_map, Array.toList_map];rw [show bR (List.map (bW g d) a.toList) (List.map (bW g d) b.toList) = bR a.toList b.toList from G0 _ _]
   | _ => simp [qB]
  | _ => cases y <;> simp [qB]
 | bool => cases x <;> cases y <;> simp [qB]
 | ptr => cases x <;> cases y <;> simp [qB] <;> (rename_i a b; cases a <;> cases b <;> simp [qB])
 | slice => cases x <;> cases y <;> simp [qB] <;> (rename_i a _ _ b _ _; cases a <;> cases b <;> simp [qB])
 | map => cases x <;> cases y <;> simp [qB] <;> (rename_i a b; cases a <;> cases b <;> simp [qB])
 | func => cases x <;> cases y <;> simp [qB]
 | other => cases x <;> cases y <;> simp [qB]
theorem arR {op : BinOp} {k : IntKind} {a b : Int} : (nF op k a b).map (bW g d) = nF op k a b := by
 cases op <;> simp [nF] <;> (split <;> simp)
theorem acK {op : BinOp} {k : IntKind} {a b : Int} : (np op k a b).map (bW g d) = np op k a b := by
 unfold np
 split
 ·rfl
 ·cases op <;> simp
theorem arT {op : BinOp} {a b : ByteArray} : (amE op a b).map (bW g d) = amE op a b := by
 cases op <;> simp [amE]
theorem an2 (cl : TCls) (op : BinOp) (x y : Value) : I7 cl op ((bW g d) x) ((bW g d) y) = (I7 cl op x y).map (bW g d) := by
 cases op <;> simp only [I7, avY, Option.map_map, Option.map_none] <;> (congr 1; funext b; simp)
theorem ar0 (cl : TCls) (op : BinOp) (x y : Value) : ai cl op ((bW g d) x) ((bW g d) y) = (ai cl op x y).map (bW g d) := by
 have key := an2 (g := g) (d := d) cl op x y
 cases x with
 | int k a =>
  cases y with
  | int k' b => cases op <;> simp only [AG, ai, acK] <;> (split <;> simp [arR])
  | _ => simpa [ai] using key
 | string a =>
  cases y with
  | string b => simp [ai, arT]
  | _ => simpa [ai] using key
 | _ => simpa [ai] using key
theorem avZ (op : UnOp) (x : Value) : ot op ((bW g d) x) = (ot op x).map (bW g d) := by cases op <;> cases x <;> simp [ot]
theorem an1 (k : Option IntKind) (x : Value) : cf k ((bW g d) x) = (cf k x).map (bW g d) := by cases k <;> cases x <;> simp [cf]
theorem P1 (v : Value) (i : Nat) : ag ((bW g d) v) i = (ag v i).map (bW g d) := by cases v <;> simp [ag]
theorem G3 (v : Value) : oo ((bW g d) v) = oo v := by cases v <;> simp [oo]
end
inductive Tr (α : Type) where
 | lf
 | nd (v : Option α) (l r : Tr α)
section
variable {α : Type}
def Tr.get : Tr α → Nat → Option α
 | .lf, _ => none
 | .nd v l r, i => match i with
  | 0 => v
  | i + 1 => match Nat.beq (i % 2) 0 with
   | true => l.get (i / 2)
   | false => r.get (i / 2)
def Tr.set (x : α) : Nat → Tr α → Nat → Option (Tr α)
 | 0, _, _ => none
 | k + 1, t, i => match i with
  | 0 => match t with
   | .lf => some (.nd (some x) .lf .lf)
   | .nd _ l r => some (.nd (some x) l r)
  | i + 1 => match Nat.beq (i % 2) 0 with
   | true => match t with
    | .lf => (Tr.set x k .lf (i / 2)).map fun l' => .nd none l' .lf
    | .nd v l r => (Tr.set x k l (i / 2)).map fun l' => .nd v l' r
   | false => match t with
    | .lf => (Tr.set x k .lf (i / 2)).map fun r' => .nd none .lf r'
    | .nd v l r => (Tr.set x k r (i / 2)).map fun r' => .nd v l r'
theorem Tr.get_set {x : α} : ∀ (k : Nat) {t t' : Tr α} {i : Nat}, Tr.set x k t i = some t' → ∀ j, t'.get j = if j = i then some x else t.get j := by
 intro k
 induction k with
 | zero => intro t t' i h; cases h
 | succ k ih =>
  intro t t' i h j
  cases i with
  | zero =>
   cases t with
   | lf => simp only [Tr.set] at h; cases h; cases j with
    | zero => rfl
    | succ j => simp only [Tr.get]; split <;> simp [Tr.get]
   | nd v l r => simp only [Tr.set] at h; cases h; cases j with
    | zero => rfl
    | succ j => simp [Tr.get]
  | succ i =>
   simp only [Tr.set] at h
   have beq : ∀ a : Nat, Nat.beq a 0 = (a == 0) := fun a => by cases a <;> simp [Nat.beq]
   have lf : ∀ j, (Tr.lf : Tr α).get j = none := fun j => by cases j <;> rfl
   cases hb : Nat.beq (i % 2) 0 with
   | true =>
    have hi : i % 2 = 0 := by rw [beq] at hb; simpa using hb
    rw [hb] at h;simp only at h
    have key : ∃ v l r l', Tr.set x k l (i / 2) = some l' ∧ t' = .nd v l' r ∧ ∀ j, t.get j = (Tr.nd v l r).get j := by
     cases t with
     | lf => obtain ⟨l', h1, e⟩ := bh.1 h; exact ⟨none, .lf, .lf, l', h1, e.symm, fun j => by rw [lf]; cases j with | zero => rfl | succ j => simp only [Tr.get]; split <;> rfl⟩
     | nd v l r => obtain ⟨l', h1, e⟩ := bh.1 h; exact ⟨v, l, r, l', h1, e.symm, fun j => rfl⟩
    obtain ⟨v, l, r, l', h1, rfl, hg⟩ := key;rw [hg]
    cases j with
    | zero => rfl
    | succ j =>
     simp only [Tr.get]
     cases hj : Nat.beq (j % 2) 0 with
     | true =>
      have hj' : j % 2 = 0 := by rw [beq] at hj; simpa using hj
      simp only;rw [ih h1]
      by_cases e : j / 2 = i / 2
      ·rw [if_pos e, if_pos (by omega)]
      ·rw [if_neg e, if_neg (by omega)]
     | false =>
      have hj' : j % 2 ≠ 0 := by rw [beq] at hj; simpa using hj
      simp only;rw [if_neg (by omega)]
   | false =>
    have hi : i % 2 ≠ 0 := by rw [beq] at hb; simpa using hb
    rw [hb] at h;simp only at h
    have key : ∃ v l r r', Tr.set x k r (i / 2) = some r' ∧ t' = .nd v l r' ∧ ∀ j, t.get j = (Tr.nd v l r).get j := by
     cases t with
     | lf => obtain ⟨l', h1, e⟩ := bh.1 h; exact ⟨none, .lf, .lf, l', h1, e.symm, fun j => by rw [lf]; cases j with | zero => rfl | succ j => simp only [Tr.get]; split <;> rfl⟩
     | nd v l r => obtain ⟨l', h1, e⟩ := bh.1 h; exact ⟨v, l, r, l', h1, e.symm, fun j => rfl⟩
    obtain ⟨v, l, r, l', h1, rfl, hg⟩ := key;rw [hg]
    cases j with
    | zero => rfl
    | succ j =>
     simp only [Tr.get]
     cases hj : Nat.beq (j % 2) 0 with
     | false =>
      have hj' : j % 2 ≠ 0 := by rw [beq] at hj; simpa using hj
      simp only;rw [ih h1]
      by_cases e : j / 2 = i / 2
      ·rw [if_pos e, if_pos (by omega)]
      ·rw [if_neg e, if_neg (by omega)]
     | true =>
      have hj' : j % 2 = 0 := by rw [beq] at hj; simpa using hj
      simp only;rw [if_neg (by omega)]
end
structure EH where
 n : Nat
 t : Tr AObj
def EH.get (E : EH) (b : Nat) : Option AObj := E.t.get b
def EH.set (E : EH) (b : Nat) (o : AObj) : Option EH := (Tr.set o 24 E.t b).map fun t => ⟨E.n, t⟩
def EH.push (E : EH) (o : AObj) : Option EH := (Tr.set o 24 E.t E.n).map fun t => ⟨E.n + 1, t⟩
section
variable (g d : Nat)
def PY (e : MapEntry) : MapEntry := { e with key := bW g d e.key, val := bW g d e.val }
def QB : AObj → AObj
 | .cells ro cs => .cells ro (iv g d cs)
 | .map es c => .map (es.map (PY g d)) c
 | .dead => .dead
structure HR (F : List AObj) (E : EH) (H : AH) : Prop where
 len : F.length = d
 le : g ≤ E.n
 size : H.size = E.n + d
 get : ∀ b, H.get (CP g d b) = (E.get b).map (QB g d)
 out : ∀ b, E.n ≤ b → E.get b = none
 fr : ∀ b, g ≤ b → b < g + d → H.get b = F[b - g]?
end
section
variable {g d : Nat} {F : List AObj} {E E' : EH} {H : AH}
theorem HR.lt (h : HR g d F E H) {b : Nat} {o : AObj} (hb : E.get b = some o) : b < E.n := by
 rcases Nat.lt_or_ge b E.n with h1 | h1
 ·exact h1
 ·rw [h.out b h1] at hb; cases hb
theorem HR.new (h : HR g d F E H) : H.size = CP g d E.n := by
 unfold CP; rw [if_neg (by have := h.le; omega)]; exact h.size
theorem HR.shlt (h : HR g d F E H) {b : Nat} (hb : b < E.n) : CP g d b < H.size := by
 rw [h.size]; unfold CP; split <;> omega
theorem HR.set (h : HR g d F E H) {b : Nat} {o : AObj} (hb : b < E.n) (hs : E.set b o = some E') : HR g d F E' (H.set (CP g d b) (QB g d o)) := by
 obtain ⟨t, ht, rfl⟩ := bh.1 hs;have hg := Tr.get_set 24 ht;refine ⟨h.len, h.le, by rw [AH.size_set]; exact h.size, fun j => ?_, fun j hj => ?_, fun j h1 h2 => ?_⟩
 ·show _ = (t.get j).map _
  rw [hg j, AH.get_set]
  by_cases e : j = b
  ·subst e; rw [if_pos rfl, if_pos rfl, if_pos (h.shlt hb)]; rfl
  ·rw [if_neg (fun x => e (Yl x)), if_neg e]; exact h.get j
 ·show t.get j = none
  rw [hg j, if_neg (by have : E.n ≤ j := hj; omega)]; exact h.out j hj
 ·rw [AH.get_set_ne (by unfold CP; split <;> omega)]; exact h.fr j h1 h2
theorem HR.push (h : HR g d F E H) {o : AObj} (hs : E.push o = some E') : HR g d F E' (H.push (QB g d o)) := by
 obtain ⟨t, ht, rfl⟩ := bh.1 hs;have hg := Tr.get_set 24 ht;have hle := h.le;have hsz := h.size;refine ⟨h.len, by show g ≤ E.n + 1; omega, by rw [AH.size_push, hsz]; show _ = E.n + 1 + d; omega, fun j => ?_, fun j hj => ?_, fun j h1 h2 => ?_⟩
 ·show _ = (t.get j).map _
  rw [hg j, AH.get_push, h.new]
  by_cases e : j = E.n
  ·subst e; rw [if_pos rfl, if_pos rfl]; rfl
  ·rw [if_neg (fun x => e (Yl x)), if_neg e]; exact h.get j
 ·show t.get j = none
  have : E.n + 1 ≤ j := hj;rw [hg j, if_neg (by omega)]; exact h.out j (by omega)
 ·rw [AH.get_push_old (by omega)]; exact h.fr j h1 h2
end
section
variable {g d : Nat}
theorem JF (cs : List Value) (o : Nat) (xs : List Value) : splice (iv g d cs) o (iv g d xs) = iv g d (splice cs o xs) := by
 simp [splice, iv, List.map_take, List.map_drop]
theorem G2 (places : Nat → Option (Nat × Nat)) : ∀ (parts : List (Nat × Value)) (zero : List Value), dq places (iv g d zero) (parts.map fun p => (p.1, (bW g d) p.2)) = (dq places zero parts).map (iv g d) := by
 intro parts
 induction parts with
 | nil => intro zero; rfl
 | cons p parts ih =>
  intro zero;obtain ⟨i, v⟩ := p;simp only [List.map_cons, dq]
  cases places i with
  | none => rfl
  | some q =>
   simp only [bO];rw [GZ, Array.size_map, Array.toList_map, show (iv g d zero).length = zero.length from sE _]
   split
   ·rw [show List.map (bW g d) v.cells.toList = iv g d v.cells.toList from rfl, JF]; exact ih _
   ·rfl
theorem ad4 (e : Nat) (x : Value) (lo hi : Option Value) : fV e ((bW g d) x) (lo.map (bW g d)) (hi.map (bW g d)) = (fV e x lo hi).map (bW g d) := by
 cases x with
 | slice a n e' =>
  have key : ∀ L R : Option Int, (L.bind fun l => R.bind fun h =>
   if 0 ≤ l ∧ l ≤ h ∧ h ≤ n then
    match a.map (Bz g d) with
    | none => if n = 0 ∧ e' = 0 then some (.slice none 0 0) else none
    | some ⟨b, o, none⟩ => if e' = e ∧ 0 < e then some (.slice (some ⟨b, o + l.toNat * e, none⟩) (h.toNat - l.toNat) e) else none
    | _ => none
   else none : Option Value) = (L.bind fun l => R.bind fun h =>
   if 0 ≤ l ∧ l ≤ h ∧ h ≤ n then
    match a with
    | none => if n = 0 ∧ e' = 0 then some (.slice none 0 0) else none
    | some ⟨b, o, none⟩ => if e' = e ∧ 0 < e then some (.slice (some ⟨b, o + l.toNat * e, none⟩) (h.toNat - l.toNat) e) else none
    | _ => none
   else none : Option Value).map (bW g d) := by
   intro L R
   cases L with
   | none => rfl
   | some l =>
    cases R with
    | none => rfl
    | some r =>
     simp only [bO]
     split
     ·cases a with
      | none => simp only [Option.map_none]; split <;> simp
      | some a =>
       obtain ⟨b, o, sp⟩ := a
       cases sp with
       | none => simp only [fA, Bz]; split <;> simp [Bz]
       | some sp => simp [Bz]
     ·rfl
  cases lo with
  | none =>
   cases hi with
   | none => simp only [gU, fV, Option.map_none]; exact key (some 0) (some n)
   | some h => simp only [gU, fV, fA, G3]; exact key (some 0) (oo h)
  | some l =>
   cases hi with
   | none => simp only [gU, fV, fA, G3]; exact key (oo l) (some n)
   | some h => simp only [gU, fV, fA, G3]; exact key (oo l) (oo h)
 | _ => simp [fV]
theorem Uk {x hi mx v : Value} (h : jR x hi mx = some v) : jR ((bW g d) x) ((bW g d) hi) ((bW g d) mx) = some ((bW g d) v) := by
 unfold jR at h
 split at h
 ·cases h; simp [jR]
 ·cases h; simp [jR, Bz]
 ·cases h
theorem anY (v : Value) : sx ((bW g d) v) = sx v := by cases v <;> simp [sx]
theorem G1 (cl : KCls) (k : Value) : jm cl ((bW g d) k) = jm cl k := by
 cases cl <;> cases k <;> simp [jm]
 rename_i n cs
 congr 2
 funext v; exact anY v
theorem anZ (cl : KCls) (a b : Value) : lk cl ((bW g d) a) ((bW g d) b) = lk cl a b := by
 cases cl with
 | flat n =>
  cases a <;> cases b <;> simp [lk]
  rename_i x y
  rw [show bR (List.map (bW g d) x.toList) (List.map (bW g d) y.toList) = bR x.toList y.toList from G0 _ _]
 | int => cases a <;> cases b <;> simp [lk]
 | string => cases a <;> cases b <;> simp [lk]
theorem wo (cl : KCls) (k : Value) : ∀ (es : List MapEntry) (i : Nat), bu cl ((bW g d) k) (es.map (PY g d)) i = (bu cl k es i).map fun r => r.map fun p => (p.1, (bW g d) p.2) := by
 intro es
 induction es with
 | nil => intro i; rfl
 | cons e es ih =>
  intro i;simp only [List.map_cons, bu, PY, anZ]
  cases lk cl k e.key with
  | none => rfl
  | some b =>
   simp only [bO]
   cases b with
   | true => simp
   | false => simp only [Bool.false_eq_true, if_false]; exact ih _
theorem Uh (v : Value) (args : List Value) : ce ((bW g d) v) (iv g d args) = (ce v args).map fun r => (r.1, iv g d r.2) := by
 cases v with
 | func fn f c => cases fn <;> simp [ce, iv]
 | _ => simp [ce]
end
def rI (E : EH) (b : Nat) : Option (List Value) :=
 match E.get b with
 | some (.cells _ cs) => some cs
 | _ => none
def agC (v : Value) (E : EH) : Option Value := (uX v).bind fun a => (rI E a.1).bind fun cs => cs[a.2]?
def agD (n : Nat) (v : Value) (E : EH) : Option Value :=
 (uX v).bind fun a => (rI E a.1).bind fun cs => if a.2 + n ≤ cs.length then some (.agg ((cs.drop a.2).take n).toArray) else none
def eSt (n : Nat) (v x : Value) (E : EH) : Option EH :=
 (uX v).bind fun a => match E.get a.1 with
  | some (.cells false cs) => if x.cells.size = n ∧ a.2 + n ≤ cs.length ∧ x.cells.toList.all Value.oneCell' = true then E.set a.1 (.cells false (splice cs a.2 x.cells.toList)) else none
  | _ => none
def auK (cs : List Value) (E : EH) : Option (Value × EH) := (E.push (.cells false cs)).map fun E' => (.pointer (some ⟨E.n, 0, none⟩), E')
def It (n e : Nat) (cs : List Value) (E : EH) : Option (Value × EH) := (E.push (.cells false cs)).map fun E' => (.slice (some ⟨E.n, 0, none⟩) n e, E')
def Is (v : Value) (E : EH) : Option Value :=
 match v with
 | .map none => some (.int .i64 0)
 | .map (some b) => match E.get b with
  | some (.map es _) => some (.int .i64 es.length)
  | _ => none
 | _ => none
def Ze (e : Nat) (x : Value) (E : EH) : Option (Nat × List Value) :=
 match x with
 | .slice none n _ => if n = 0 then some (0, []) else none
 | .slice (some ⟨b, o, none⟩) m _ => if m = 0 then some (0, []) else (rI E b).bind fun cs => if o + m * e ≤ cs.length then some (m, (cs.drop o).take (m * e)) else none
 | _ => none
def auI (e bytes : Nat) (s x : Value) (E : EH) : Option (Value × EH) :=
 (Ze e x E).bind fun r =>
  if r.2.all Value.oneCell' = true ∧ 0 < e then
   match s with
   | .slice none n k => if n = 0 ∧ k = 0 then (if r.1 = 0 then some (.slice none 0 0, E) else if r.1 * bytes ≤ dc ∧ r.1 ≤ dc then It r.1 e r.2 E else none) else none
   | .slice (some ⟨b, o, none⟩) n e' =>
    if r.1 = 0 then some (s, E)
    else if e' = 0 then (if n = 0 ∧ r.1 * bytes ≤ dc ∧ r.1 ≤ dc then It r.1 e r.2 E else none)
    else match E.get b with
     | some (.cells false cs) =>
      if e' = e ∧ o + n * e ≤ cs.length ∧ (n + r.1) * bytes ≤ dc ∧ n + r.1 ≤ dc then (E.set b .dead).bind fun E1 => It (n + r.1) e ((cs.drop o).take (n * e) ++ r.2) E1 else none
     | _ => none
   | _ => none
  else none
def agE (zero : List Value) (e bytes : Nat) (len cap : Value) (E : EH) : Option (Value × EH) :=
 match len, cap with
 | .int _ l, .int _ c => if 0 ≤ l ∧ l = c ∧ l.toNat * bytes ≤ dc ∧ l.toNat ≤ dc ∧ 0 < e ∧ zero.length = e then
  It l.toNat e (List.replicate l.toNat zero).flatten E else none
 | _, _ => none
def zp (v : Value) (E : EH) : Option (List MapEntry × Nat) :=
 match v with
 | .map none => some ([], 0)
 | .map (some b) => match E.get b with
  | some (.map es c) => some (es, c)
  | _ => none
 | _ => none
def CX (fl : KCls) (zero : Value) (m k : Value) (ok : Bool) (E : EH) : Option Value :=
 if jm fl k = true then (zp m E).bind fun es => (bu fl k es.1 0).map fun r => match r with
  | some (_, v) => if ok then .tuple #[v, .bool true] else v
  | none => if ok then .tuple #[zero, .bool false] else zero
 else none
def Kg (fl : KCls) (m k x : Value) (E : EH) : Option EH :=
 if jm fl k = true then match m with
 | .map (some b) => match E.get b with
  | some (.map es c) => (bu fl k es 0).bind fun r => match r with
   | some (i, _) => E.set b (.map (es.modify i fun e => { e with key := k, val := x }) c)
   | none => E.set b (.map (es ++ [{ key := k, val := x, born := c }]) (c + 1))
  | _ => none
 | _ => none
 else none
def Ka (fl : KCls) (m k : Value) (E : EH) : Option EH :=
 if jm fl k = true then match m with
 | .map (some b) => match E.get b with
  | some (.map es c) => (bu fl k es 0).bind fun r => match r with
   | some (i, _) => E.set b (.map (es.eraseIdx i) c)
   | none => E.set b (.map es c)
  | _ => none
 | _ => none
 else none
def e6 (g d : Nat) (F : List AObj) (x : Option (Value × EH)) (y : Option (Value × AH)) : Prop := ∀ v E', x = some (v, E') → ∃ H', y = some (bW g d v, H') ∧ HR g d F E' H'
def apM (g d : Nat) (F : List AObj) (x : Option EH) (y : Option AH) : Prop := ∀ E', x = some E' → ∃ H', y = some H' ∧ HR g d F E' H'
section
variable {g d : Nat} {F : List AObj} {E E' : EH} {H : AH}
theorem HR.cells (h : HR g d F E H) (b : Nat) : ez H (CP g d b) = (rI E b).map (iv g d) := by
 unfold ez rI;rw [h.get b]
 cases E.get b with
 | none => rfl
 | some o => cases o <;> rfl
theorem HR.ld1 (h : HR g d F E H) (v : Value) : ar ((bW g d) v) H = (agC v E).map (bW g d) := by
 unfold ar agC;rw [M2]
 cases uX v with
 | none => rfl
 | some a =>
  simp only [fA, bO, h.cells]
  cases rI E a.1 <;> simp [iv]
theorem HR.ldN (h : HR g d F E H) (n : Nat) (v : Value) : ax n ((bW g d) v) H = (agD n v E).map (bW g d) := by
 unfold ax agD;rw [M2]
 cases uX v with
 | none => rfl
 | some a =>
  simp only [fA, bO, h.cells]
  cases rI E a.1 with
  | none => rfl
  | some cs =>
   simp only [fA, bO, iv, sE]
   split
   ·simp [List.map_take, List.map_drop]
   ·rfl
theorem HR.st (h : HR g d F E H) (n : Nat) (v x : Value) : apM g d F (eSt n v x E) (cJ n ((bW g d) v) ((bW g d) x) H) := by
 intro E' he;unfold eSt at he;unfold cJ;rw [M2];obtain ⟨a, ha, he⟩ := aI.1 he;rw [ha];simp only [fA, bO, h.get]
 split at he
 ·rename_i cs hcs
  split at he
  ·rename_i hc
   rw [hcs];simp only [fA, QB]
   rw [GZ, Array.size_map, Array.toList_map, show (iv g d cs).length = cs.length from sE _, show (List.map (bW g d) x.cells.toList).all Value.oneCell' = x.cells.toList.all Value.oneCell' from Yn _, if_pos hc,
    show splice (iv g d cs) a.2 (List.map (bW g d) x.cells.toList) = iv g d (splice cs a.2 x.cells.toList) from JF _ _ _]
   exact ⟨_, rfl, h.set (h.lt hcs) he⟩
  ·cases he
 ·cases he
theorem HR.new' (h : HR g d F E H) (cs : List Value) : e6 g d F (auK cs E) (some (arS (iv g d cs) H)) := by
 intro v E' he;obtain ⟨E1, h1, e⟩ := bh.1 he;cases e;exact ⟨H.push (QB g d (.cells false cs)), by simp [arS, h.new, Bz, QB], h.push h1⟩
theorem HR.rowP (h : HR g d F E H) (n e : Nat) (cs : List Value) : e6 g d F (It n e cs E) (some (.slice (some ⟨H.size, 0, none⟩) n e, H.push (.cells false (iv g d cs)))) := by
 intro v E' he;obtain ⟨E1, h1, e⟩ := bh.1 he;cases e;exact ⟨H.push (QB g d (.cells false cs)), by simp [h.new, Bz, QB], h.push h1⟩
theorem HR.lenM (h : HR g d F E H) (v : Value) : oq ((bW g d) v) H = (Is v E).map (bW g d) := by
 cases v with
 | map r =>
  cases r with
  | none => simp [oq, Is]
  | some b =>
   simp only [M1, fA, oq, Is, h.get]
   cases E.get b with
   | none => rfl
   | some o => cases o <;> simp [QB]
 | _ => simp [oq, Is]
theorem HR.row (h : HR g d F E H) (e : Nat) (x : Value) : mj e ((bW g d) x) H = (Ze e x E).map fun r => (r.1, iv g d r.2) := by
 cases x with
 | slice a n k =>
  cases a with
  | none => simp only [gU, Option.map_none, mj, Ze]; split <;> rfl
  | some a =>
   obtain ⟨b, o, sp⟩ := a
   cases sp with
   | some sp => simp [mj, Ze, Bz]
   | none =>
    simp only [gU, fA, Bz, mj, Ze, h.cells]
    split
    ·rfl
    ·cases rI E b with
     | none => rfl
     | some cs =>
      simp only [fA, bO, iv, sE]
      split
      ·simp [List.map_take, List.map_drop]
      ·rfl
 | _ => simp [mj, Ze]
theorem HR.mapOf (h : HR g d F E H) (v : Value) : kE ((bW g d) v) H = (zp v E).map fun r => (r.1.map (PY g d), r.2) := by
 cases v with
 | map r =>
  cases r with
  | none => simp [kE, zp]
  | some b =>
   simp only [M1, fA, kE, zp, h.get]
   cases E.get b with
   | none => rfl
   | some o => cases o <;> simp [QB]
 | _ => simp [kE, zp]
theorem HR.lookup (h : HR g d F E H) (fl : KCls) {zero : Value} (hz : (bW g d) zero = zero) (m k : Value) (ok : Bool) : cY fl zero ((bW g d) m) ((bW g d) k) ok H = (CX fl zero m k ok E).map (bW g d) := by
 unfold cY CX;rw [G1]
 split
 ·rw [h.mapOf]
  cases zp m E with
  | none => rfl
  | some es =>
   simp only [fA, bO, wo]
   cases bu fl k es.1 0 with
   | none => rfl
   | some r =>
    cases r with
    | none => cases ok <;> simp [hz]
    | some p => cases ok <;> simp
 ·rfl
theorem HR.update (h : HR g d F E H) (fl : KCls) (m k x : Value) : apM g d F (Kg fl m k x E) (fj fl ((bW g d) m) ((bW g d) k) ((bW g d) x) H) := by
 intro E' he;unfold Kg at he
 split at he
 ·rename_i hk
  split at he
  ·rename_i b
   split at he
   ·rename_i es c hb
    obtain ⟨r, hr, he⟩ := aI.1 he
    have hg : H.get (CP g d b) = some (.map (es.map (PY g d)) c) := by rw [h.get, hb]; rfl
    have hf := wo (g := g) (d := d) fl k es 0;rw [hr] at hf;simp only [M1, fA, fj, G1, hk, if_true, hg]
    cases r with
    | some p =>
     have hf : bu fl ((bW g d) k) (es.map (PY g d)) 0 = some (some (p.1, (bW g d) p.2)) := hf;rw [hf];refine ⟨_, rfl, ?_⟩;have := h.set (h.lt hb) he;simp only [QB] at this;show HR g d F E' (H.set (CP g d b) (.map ((es.map (PY g d)).modify p.1 fun e => { e with key := (bW g d) k, val := (bW g d) x }) c));rw [show (es.map (PY g d)).modify p.1 (fun e => { e with key := (bW g d) k, val := (bW g d) x }) = (es.modify p.1 fun e => { e with key := k, val := x }).map (PY g d) from ?_]
     ·exact this
     ·apply List.ext_getElem?
      intro i;simp only [List.getElem?_modify, vz]
      cases es[i]? with
      | none => rfl
      | some e => simp only [fA, Option.map_map]; split <;> rfl
    | none =>
     have hf : bu fl ((bW g d) k) (es.map (PY g d)) 0 = some none := hf;rw [hf];refine ⟨_, rfl, ?_⟩;have := h.set (h.lt hb) he;simp only [QB, HN, List.map_cons, List.map_nil, PY] at this;exact this
   ·cases he
  ·cases he
 ·cases he
theorem HR.delete (h : HR g d F E H) (fl : KCls) (m k : Value) : apM g d F (Ka fl m k E) (ol fl ((bW g d) m) ((bW g d) k) H) := by
 intro E' he;unfold Ka at he
 split at he
 ·rename_i hk
  split at he
  ·rename_i b
   split at he
   ·rename_i es c hb
    obtain ⟨r, hr, he⟩ := aI.1 he
    have hg : H.get (CP g d b) = some (.map (es.map (PY g d)) c) := by rw [h.get, hb]; rfl
    have hf := wo (g := g) (d := d) fl k es 0;rw [hr] at hf;simp only [M1, fA, ol, G1, hk, if_true, hg]
    cases r with
    | some p =>
     have hf : bu fl ((bW g d) k) (es.map (PY g d)) 0 = some (some (p.1, (bW g d) p.2)) := hf;rw [hf];refine ⟨_, rfl, ?_⟩;have := h.set (h.lt hb) he;simp only [QB] at this;show HR g d F E' (H.set (CP g d b) (.map ((es.map (PY g d)).eraseIdx p.1) c));rw [show (es.map (PY g d)).eraseIdx p.1 = (es.eraseIdx p.1).map (PY g d) from by simp [List.eraseIdx_eq_take_drop_succ, List.map_take, List.map_drop]];exact this
    | none =>
     have hf : bu fl ((bW g d) k) (es.map (PY g d)) 0 = some none := hf;rw [hf];exact ⟨_, rfl, h.set (h.lt hb) he⟩
   ·cases he
  ·cases he
 ·cases he
theorem HR.make (h : HR g d F E H) {zero : List Value} (hz : iv g d zero = zero) (e by' : Nat) (len cap : Value) : e6 g d F (agE zero e by' len cap E) (nl zero e by' ((bW g d) len) ((bW g d) cap) H) := by
 intro v E' he;unfold agE at he
 split at he
 ·split at he
  ·rename_i k1 l k2 c hc
   obtain ⟨H', h1, h2⟩ := h.rowP _ _ _ v E' he;refine ⟨H', ?_, h2⟩;simp only [AG, nl];rw [if_pos hc, ← h1]
   congr 4
   rw [iv, List.map_flatten, List.map_replicate, show List.map (bW g d) zero = zero from hz]
  ·cases he
 ·cases he
theorem HR.app (h : HR g d F E H) (e by' : Nat) (x y : Value) : e6 g d F (auI e by' x y E) (eJ e by' ((bW g d) x) ((bW g d) y) H) := by
 intro v E' he;unfold auI at he;unfold eJ;rw [h.row];obtain ⟨r, hr, he⟩ := aI.1 he;rw [hr];simp only [fA, bO];rw [show (iv g d r.2).all Value.oneCell' = r.2.all Value.oneCell' from Yn _]
 split at he
 ·rename_i hc
  rw [if_pos hc]
  split at he
  ·rename_i n k
   simp only [gU, Option.map_none]
   split at he
   ·rename_i h0
    rw [if_pos h0]
    split at he
    ·rename_i h1
     rw [if_pos h1]; cases he; exact ⟨H, by simp, h⟩
    ·rename_i h1
     rw [if_neg h1]
     split at he
     ·rename_i h2
      rw [if_pos h2];exact h.rowP _ _ _ v E' he
     ·cases he
   ·cases he
  ·rename_i _ b o n e' _
   simp only [gU, fA, Bz]
   split at he
   ·rename_i h1
    rw [if_pos h1]; cases he; exact ⟨H, by simp [Bz], h⟩
   ·rename_i h1
    rw [if_neg h1]
    split at he
    ·rename_i h2
     rw [if_pos h2]
     split at he
     ·rename_i h3
      rw [if_pos h3];exact h.rowP _ _ _ v E' he
     ·cases he
    ·rename_i h2
     rw [if_neg h2]
     split at he
     ·rename_i cs hb
      have hg : H.get (CP g d b) = some (.cells false (iv g d cs)) := by rw [h.get, hb]; rfl
      rw [hg];simp only;rw [show (iv g d cs).length = cs.length from sE _]
      split at he
      ·rename_i h3
       rw [if_pos h3];obtain ⟨E1, h4, he⟩ := aI.1 he;have hs := h.set (h.lt hb) h4;obtain ⟨H', h5, h6⟩ := hs.rowP _ _ _ v E' he;refine ⟨H', ?_, h6⟩;rw [← h5, AH.size_set];simp [QB, iv, List.map_take, List.map_drop]
      ·cases he
     ·cases he
  ·cases he
 ·cases he
end
end Go.Proofs.YtflbeghglllknaaGreatDoor.Gst
