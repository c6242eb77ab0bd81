/- Several texts in one. -/
import Derived.Test.YtflbeghglllknaaGreatDoorPc
namespace Go.Proofs.YtflbeghglllknaaGreatDoor.Gst
open Go Go.RowKit
set_option linter.unusedSimpArgs false
set_option linter.unusedVariables false
set_option maxHeartbeats 1000000
set_option maxRecDepth 100000
set_option synthInstance.maxSize 2000
set_option synthInstance.maxHeartbeats 400000
structure Mu where
 V : dj → Nat
 E : List Ev
 N : Nat
abbrev Mu.log (μ : Mu) (who kind : Int) (at' : dj) : Mu := { μ with E := μ.E ++ [⟨who, kind, at'⟩], N := μ.N + 1 }
abbrev Mu.put (μ : Mu) (at' : dj) (v : Nat) : Mu := { μ with V := fun l => if l = at' then v else μ.V l }
def gh (al : List (dj × Nat)) (l : dj) : Nat := ((al.find? fun p => p.1 == l).map (·.2)).getD 0
def awX (p : dj × Nat) (e : MapEntry) : Prop := e.key = e8 p.1 ∧ e.val = .agg #[vu p.2]
inductive EntsOf : List (dj × Nat) → List MapEntry → Prop
 | nil : EntsOf [] []
 | cons {p : dj × Nat} {l : List (dj × Nat)} {e : MapEntry} {es : List MapEntry} (h : awX p e) (k : EntsOf l es) : EntsOf (p :: l) (e :: es)
theorem IW (a b : dj) : lk (.flat 3) (e8 a) (e8 b) = some (a == b) := by
 simp only [lk, e8];rw [if_pos ⟨rfl, rfl⟩];simp only [bR, if_true, fA, Bool.and_true]
 rfl
theorem abT {al : List (dj × Nat)} {es : List MapEntry} (h : EntsOf al es) (l : dj) : ∀ i, ∃ r, bu (.flat 3) (e8 l) es i = some r ∧ (match r with
 | some (j, v) => v = .agg #[vu (gh al l)] ∧ i ≤ j ∧ (∃ p, al[j - i]? = some p ∧ p.1 = l) ∧ ∀ q, q < j - i → ∀ p, al[q]? = some p → p.1 ≠ l
 | none => gh al l = 0 ∧ ∀ p ∈ al, p.1 ≠ l) := by
 induction h with
 | nil => intro i; exact ⟨none, rfl, rfl, by simp⟩
 | @cons p al e es h k ih =>
  intro i;simp only [bu];rw [h.1, IW];simp only [bO]
  by_cases hp : p.1 = l
  ·have e1 : (l == p.1) = true := by simp [hp]
   rw [if_pos e1];refine ⟨_, rfl, ?_, bA _, ⟨p, by simp, hp⟩, fun q hq => by omega⟩;rw [h.2];simp [gh, hp]
  ·have e1 : ¬ ((l == p.1) = true) := by simp; exact fun h => hp h.symm
   rw [if_neg e1];obtain ⟨r, h1, h2⟩ := ih (i + 1)
   have hg : gh (p :: al) l = gh al l := by simp [gh, hp]
   refine ⟨r, h1, ?_⟩
   cases r with
   | none =>
    simp only at h2 ⊢;rw [hg]
    exact ⟨h2.1, fun q hq => by
     rcases ul.1 hq with rfl | hq
     ·exact hp
     ·exact h2.2 q hq⟩
   | some r =>
    obtain ⟨j, v⟩ := r;simp only at h2 ⊢;rw [hg];obtain ⟨a1, a2, ⟨p', a3, a4⟩, a5⟩ := h2;refine ⟨a1, by omega, ⟨p', ?_, a4⟩, fun q hq p'' hp'' => ?_⟩
    ·rw [show j - i = (j - (i + 1)) + 1 from by omega]; exact a3
    ·cases q with
     | zero => simp at hp''; rw [← hp'']; exact hp
     | succ q => exact a5 q (by omega) p'' (by simpa using hp'')
def nI : List (dj × Nat) → dj → Nat → List (dj × Nat)
 | [], l, v => [(l, v)]
 | p :: al, l, v => if p.1 = l then (l, v) :: al else p :: nI al l v
theorem fq (p : dj × Nat) (al : List (dj × Nat)) (l : dj) : gh (p :: al) l = if p.1 = l then p.2 else gh al l := by
 unfold gh
 by_cases h : p.1 = l
 ·simp [h]
 ·simp [h]
theorem Ij (l : dj) (v : Nat) (x : dj) : ∀ al, gh (nI al l v) x = if x = l then v else gh al x := by
 intro al
 induction al with
 | nil =>
  simp only [nI, fq]
  by_cases h : l = x
  ·simp [h]
  ·have : ¬ x = l := fun e => h e.symm
   simp [h, this]
 | cons p al ih =>
  simp only [nI]
  by_cases hp : p.1 = l
  ·rw [if_pos hp, fq, fq]
   by_cases h : l = x
   ·simp [h]
   ·have h2 : ¬ x = l := fun e => h e.symm
    simp [h, h2, hp]
  ·rw [if_neg hp, fq, fq, ih]
   by_cases h : p.1 = x
   ·have h2 : ¬ x = l := fun e => hp (h.trans e)
    simp [h, h2]
   ·simp [h]
theorem aoO {al : List (dj × Nat)} {es : List MapEntry} (h : EntsOf al es) (l : dj) (v : Nat) : ∀ i, match bu (.flat 3) (e8 l) es i with
 | some (some (j, _)) => i ≤ j ∧ EntsOf (nI al l v) (es.modify (j - i) fun e => { e with key := e8 l, val := .agg #[vu v] })
 | some none => ∀ born, EntsOf (nI al l v) (es ++ [{ key := e8 l, val := .agg #[vu v], born := born }])
 | none => False := by
 induction h with
 | nil => intro i born; exact .cons ⟨rfl, rfl⟩ .nil
 | @cons p al e es h k ih =>
  intro i;simp only [bu];rw [h.1, IW];simp only [bO]
  by_cases hp : p.1 = l
  ·have e1 : (l == p.1) = true := by simp [hp]
   rw [if_pos e1];simp only [nI, if_pos hp];refine ⟨bA _, ?_⟩;simp only [Nat.sub_self];exact .cons ⟨rfl, rfl⟩ k
  ·have e1 : ¬ ((l == p.1) = true) := by simp; exact fun h => hp h.symm
   rw [if_neg e1];have hi := ih (i + 1);simp only [nI, if_neg hp]
   cases hf : bu (.flat 3) (e8 l) es (i + 1) with
   | none => rw [hf] at hi; exact hi
   | some r =>
    rw [hf] at hi
    cases r with
    | none => intro born; exact .cons h (hi born)
    | some r =>
     obtain ⟨j, v'⟩ := r;simp only at hi ⊢;refine ⟨by omega, ?_⟩;rw [show j - i = (j - (i + 1)) + 1 from by omega];exact .cons h hi.2
section
variable {P P' R : SP} {H : AH} {c ck : Nat} {es : List MapEntry} {al : List (dj × Nat)} {Q : Value → AH → Prop}
theorem av5 {k : Value → OV} {at' : dj} (ha : EntsOf al es) (h : ac P H) [i : Hs P c (.map es ck)] (hk : wp (k (.agg #[vu (gh al at')])) Q) : wp ((cY (.flat 3) (.agg #[vw 0]) (.map (some c)) (e8 at') false H).bind k) Q := by
 have hg := i.get h;obtain ⟨r, h1, h2⟩ := abT ha at' 0;refine aa ?_ hk;unfold cY;rw [if_pos (show jm (.flat 3) (e8 at') = true from rfl)];simp only [kE, hg, bO, h1, fA]
 cases r with
 | none => simp only at h2 ⊢; rw [h2.1]; rfl
 | some r => simp only at h2 ⊢; rw [h2.1]; rfl
theorem axI {k : AH → OV} {at' : dj} {v : Nat} (ha : EntsOf al es) (h : ac P H) [i : Hs P c (.map es ck)] (hk : ∀ es' ck' H', EntsOf (nI al at' v) es' → (∀ P', Up P c (.map es' ck') P' → ac P' H') → wp (k H') Q) :
 wp ((fj (.flat 3) (.map (some c)) (e8 at') (.agg #[vu v]) H).bind k) Q := by
 have hg := i.get h;have hu := aoO ha at' v 0;unfold fj;rw [if_pos (show jm (.flat 3) (e8 at') = true from rfl)];simp only [hg]
 cases hf : bu (.flat 3) (e8 at') es 0 with
 | none => rw [hf] at hu; exact absurd hu id
 | some r =>
  rw [hf] at hu
  cases r with
  | none =>
   simp only [fA, bO];exact hk _ _ _ (hu ck) fun P' u => u.set h
  | some r =>
   obtain ⟨j, v'⟩ := r;simp only [fA, bO];exact hk _ _ _ hu.2 fun P' u => u.set h
end
def bL (m : Nat) (μ : Mu) : SP := ex fun g : Nat × Value × List (dj × Nat) × List MapEntry × Nat =>
 pu (EntsOf g.2.2.1 g.2.2.2.1 ∧ (∀ l, gh g.2.2.1 l = μ.V l) ∧ μ.E.length ≤ μ.N) * (blk m (.cells false [.map (some g.1), g.2.1]) * (blk g.1 (.map g.2.2.2.1 g.2.2.2.2) * sl 5 g.2.1 μ.E.length (pX μ.E)))
theorem pF (m : Nat) (μ : Mu) (who kind : Int) (at' : dj) (hE : μ.N < 1099511627776) : Sp dx [vp m, vi who, vi kind, e8 at'] (bL m μ) (fun _ : Unit => .tuple #[]) (fun _ => bL m (μ.log who kind at')) := by
 refine aK fun R H h => ?_;obtain ⟨⟨c, l, al, es, ck⟩, h⟩ := ac.ex.1 h;rw [aj, ac.pu] at h;obtain ⟨hp, h⟩ := h;dsimp only at h hp;refine bj (fun r => Cg _ _ _ _ H) ?_;refine bo (cs := [vi at'.1, vi at'.2.1, vi at'.2.2]) h fun b0 H1 h1 => ?_;refine ak h1 ae rfl ?_;refine aR h1 ?_;refine Ql (cs := [vi who, vi kind, vi at'.1, vi at'.2.1, vi at'.2.2]) rfl ?_;refine JV (cs := [vi who, vi kind, vi at'.1, vi at'.2.1, vi at'.2.2]) h1 rfl fun b1 H2 h2 => ?_;have hl := hp.2.2;refine at1 h2 rfl (by omega) (by omega) rfl (by unfold dc; omega) fun a' c' H3 h3 => ?_;refine bg h3 ae rfl rfl fun H4 h4 => ?_;refine am ⟨(), rfl, ?_⟩;refine ac.ex.2 ⟨(c, .slice a' (μ.E.length + 1) c', al, es, ck), ?_⟩;rw [aj, ac.pu];refine ⟨⟨hp.1, hp.2.1, by simp; exact hp.2.2⟩, ?_⟩
 have e1 : (μ.log who kind at').E.length = μ.E.length + 1 := by simp [Mu.log]
 have e2 : pX (μ.log who kind at').E = pX μ.E ++ [vi who, vi kind, vi at'.1, vi at'.2.1, vi at'.2.2] := by rw [Mu.log, Ki]; rfl
 rw [e1, e2];exact h4.to
theorem xZ (m : Nat) (μ : Mu) (at' : dj) : Sp fN [vp m, e8 at'] (bL m μ) (fun _ : Unit => vu (μ.V at')) (fun _ => bL m μ) := by
 refine aK fun R H h => ?_;have h0 := h;obtain ⟨⟨c, l, al, es, ck⟩, h⟩ := ac.ex.1 h;rw [aj, ac.pu] at h;obtain ⟨hp, h⟩ := h;dsimp only at h hp;refine bj (fun r => Cd _ _ H) ?_;refine bo (cs := [vi at'.1, vi at'.2.1, vi at'.2.2]) h fun b0 H1 h1 => ?_;refine ak h1 ae rfl ?_;refine aR h1 ?_;refine av5 (at' := at') hp.1 h1 ?_;refine aa (v := vu (gh al at')) rfl ?_;refine am ⟨(), by rw [hp.2.1], ?_⟩;refine ac.ex.2 ⟨(c, l, al, es, ck), ?_⟩;rw [aj, ac.pu];exact ⟨hp, h1.to⟩
theorem O3 {m : Nat} {μ : Mu} {at' : dj} {v : Nat} {R P : SP} {H : AH} {c : Nat} {l : Value} {al : List (dj × Nat)} {es : List MapEntry} {k : AH → OV} {Q : Value → AH → Prop} {ck : Nat}
 (hp : EntsOf al es ∧ (∀ l, gh al l = μ.V l) ∧ μ.E.length ≤ μ.N) (h : ac P H) [f : Fr P (blk m (.cells false [.map (some c), l]) * (blk c (.map es ck) * sl 5 l μ.E.length (pX μ.E))) R] [i : Hs P c (.map es ck)]
 (hk : ∀ H', ac (bL m (μ.put at' v) * R) H' → wp (k H') Q) : wp ((fj (.flat 3) (.map (some c)) (e8 at') (.agg #[vu v]) H).bind k) Q := by
 have h' := ac.fr (f := f) h;refine axI hp.1 h' fun es' ck' H' he hh => hk H' ?_;have h2 := hh _ inferInstance;refine ac.ex.2 ⟨(c, l, nI al at' v, es', ck'), ?_⟩;rw [aj, ac.pu];refine ⟨⟨he, fun x => ?_, hp.2.2⟩, h2.to⟩;dsimp only;rw [Ij, hp.2.1]
theorem ab5 (m : Nat) (μ : Mu) (who : Int) (at' : dj) (v : Nat) (hE : μ.N < 1099511627776) : Sp dL [vp m, vi who, e8 at', vu v] (bL m μ) (fun _ : Unit => .tuple #[]) (fun _ => bL m ((μ.log who 2 at').put at' v)) := by
 refine aY (z3 _ _ _ _) fun R H h => ?_;refine bo (cs := [vi at'.1, vi at'.2.1, vi at'.2.2]) h fun b0 H1 h1 => ?_;refine aR h1 ?_;refine af h1 (pF m μ who 2 at' hE) fun _ H2 h2 => ?_;obtain ⟨⟨c, l, al, es, ck⟩, h2⟩ := ac.ex.1 h2;rw [aj, ac.pu] at h2;obtain ⟨hp, h2⟩ := h2;dsimp only at h2 hp;refine ak h2 ae rfl ?_;refine aR h2 ?_;refine Ql (cs := [vu v]) rfl ?_;refine O3 (m := m) (l := l) (μ := μ.log who 2 at') (at' := at') (v := v) hp h2 fun H3 h3 => ?_;exact am ⟨(), rfl, h3.to⟩
theorem O4 (m : Nat) (μ : Mu) (who : Int) (at' : dj) (v : Nat) (hE : μ.N < 1099511627776) : Sp jI [vp m, vi who, e8 at', vu v] (bL m μ) (fun _ : Unit => vu (μ.V at')) (fun _ => bL m ((μ.log who 3 at').put at' v)) := by
 refine aY (Ch _ _ _ _) fun R H h => ?_;refine bo (cs := [vi at'.1, vi at'.2.1, vi at'.2.2]) h fun b0 H1 h1 => ?_;refine aR h1 ?_;refine af h1 (xZ m μ at') fun _ H2 h2 => ?_;refine aR h2 ?_;refine af h2 (pF m μ who 3 at' hE) fun _ H3 h3 => ?_;obtain ⟨⟨c, l, al, es, ck⟩, h3⟩ := ac.ex.1 h3;rw [aj, ac.pu] at h3;obtain ⟨hp, h3⟩ := h3;dsimp only at h3 hp;refine ak h3 ae rfl ?_;refine aR h3 ?_;refine Ql (cs := [vu v]) rfl ?_;refine O3 (m := m) (l := l) (μ := μ.log who 3 at') (at' := at') (v := v) hp h3 fun H4 h4 => ?_;exact am ⟨(), rfl, h4.to⟩
theorem alG (m : Nat) (μ : Mu) (who : Int) (at' : dj) (hE : μ.N < 1099511627776) : Sp dw [vp m, vi who, e8 at'] (bL m μ) (fun _ : Unit => vu (μ.V at')) (fun _ => bL m (μ.log who 1 at')) := by
 refine aY (Cc _ _ _) fun R H h => ?_;refine bo (cs := [vi at'.1, vi at'.2.1, vi at'.2.2]) h fun b0 H1 h1 => ?_;refine aR h1 ?_;refine af h1 (pF m μ who 1 at' hE) fun _ H2 h2 => ?_;refine aR h2 ?_;refine af h2 (xZ m (μ.log who 1 at') at') fun _ H3 h3 => ?_;exact am ⟨(), rfl, h3.to⟩
abbrev Mu.swap (μ : Mu) (who : Int) (at' : dj) (was now : Nat) : Mu := if μ.V at' = was then (μ.log who 3 at').put at' now else μ.log who 4 at'
theorem alJ (m : Nat) (μ : Mu) (who : Int) (at' : dj) (was now : Nat) (hE : μ.N < 1099511627776) :
 Sp fO [vp m, vi who, e8 at', vu was, vu now] (bL m μ) (fun _ : Unit => vb (decide (μ.V at' = was))) (fun _ => bL m (μ.swap who at' was now)) := by
 refine aY (Cf _ _ _ _ _) fun R H h => ?_;refine bo (cs := [vi at'.1, vi at'.2.1, vi at'.2.2]) h fun b0 H1 h1 => ?_;refine aR h1 ?_;refine af h1 (xZ m μ at') fun _ H2 h2 => ?_;refine aa atM ?_;unfold Mu.swap;refine ci (fun hc => ?_) (fun hc => ?_)
 ·have hc : ¬ μ.V at' = was := by simpa using hc
  rw [if_neg hc, e7 hc];refine aR h2 ?_;refine af h2 (pF m μ who 4 at' hE) fun _ H3 h3 => ?_;exact am ⟨(), rfl, h3.to⟩
 ·have hc : μ.V at' = was := by simpa using hc
  rw [if_pos hc, fH hc];refine aR h2 ?_;refine af h2 (O4 m μ who at' now hE) fun _ H3 h3 => ?_;exact am ⟨(), rfl, h3.to⟩
theorem arL (m : Nat) (μ : Mu) (who : Int) (at' : dj) (n : Nat) (hE : μ.N < 1099511627776) :
 Sp gv [vp m, vi who, e8 at', vu n] (bL m μ) (fun _ : Unit => vu (μ.V at')) (fun _ => bL m ((μ.log who 3 at').put at' ((μ.V at' + n) % 18446744073709551616))) := by
 refine aY (F9 _ _ _ _) fun R H h => ?_
 repeat (first | refine aS ‹_› fun _ _ _ => ?_ | refine aR ‹_› ?_)
 refine af (by assumption) (xZ m μ at') fun _ _ _ => ?_
 repeat refine dB ‹_› ‹_› rfl ?_
 refine aa (asX) ?_;refine af (by assumption) (O4 m μ who at' _ hE) fun _ _ _ => ?_;exact am ⟨(), rfl, ac.to (by assumption)⟩
theorem alI (m : Nat) (μ : Mu) (who : Int) (at' : dj) (hE : μ.N < 1099511627776) :
 Sp na [vp m, vi who, e8 at'] (bL m μ) (fun _ : Unit => .tuple #[]) (fun _ => bL m (μ.log who 5 at')) := by
 refine aY (Ce _ _ _) fun R H h => ?_
 repeat (first | refine aS ‹_› fun _ _ _ => ?_ | refine aR ‹_› ?_)
 refine af (by assumption) (pF m μ who 5 at' hE) fun _ _ _ => ?_;exact am ⟨(), rfl, ac.to (by assumption)⟩
theorem tZ (m : Nat) (μ : Mu) (who : Int) (at' : dj) (hE : μ.N < 1099511627776) :
 Sp gm [vp m, vi who, e8 at'] (bL m μ) (fun _ : Unit => .tuple #[]) (fun _ => bL m (μ.log who 6 at')) := by
 refine aY (z4 _ _ _) fun R H h => ?_
 repeat (first | refine aS ‹_› fun _ _ _ => ?_ | refine aR ‹_› ?_)
 refine af (by assumption) (pF m μ who 6 at' hE) fun _ _ _ => ?_;exact am ⟨(), rfl, ac.to (by assumption)⟩
theorem Sp.imp {α : Type} {f : Nat} {args : List Value} {P : SP} {v : α → Value} {Q Q' : α → SP} (s : Sp f args P v Q) (h : ∀ x R H, ac (Q x * R) H → ac (Q' x * R) H) : Sp f args P v Q' := by
 intro R H hh;obtain ⟨x, H', e, hq⟩ := s R H hh;exact ⟨x, H', e, h x R H' hq⟩
theorem jD {m : Nat} {V : dj → Nat} {E : List Ev} {N N' : Nat} {R : SP} {H : AH} (hN : N ≤ N') (h : ac (bL m ⟨V, E, N⟩ * R) H) : ac (bL m ⟨V, E, N'⟩ * R) H := by
 obtain ⟨g, h⟩ := ac.ex.1 h;rw [aj, ac.pu] at h;refine ac.ex.2 ⟨g, ?_⟩;rw [aj, ac.pu];exact ⟨⟨h.1.1, h.1.2.1, eE h.1.2.2 hN⟩, h.2⟩
abbrev Mu.acc (μ : Mu) (who kind : Int) (at' : dj) : Mu := { V := μ.V, E := μ.E ++ [⟨who, kind, at'⟩], N := μ.N + 2 }
abbrev Mu.swp (μ : Mu) (who : Int) (at' : dj) (was now : Nat) : Mu := { V := (μ.swap who at' was now).V, E := (μ.swap who at' was now).E, N := μ.N + 2 }
theorem Gi (m : Nat) (μ : Mu) (who : Int) (at' : dj) (hE : μ.N < 1099511627776) : Sp dw [vp m, vi who, e8 at'] (bL m μ) (fun _ : Unit => vu (μ.V at')) (fun _ => bL m (μ.acc who 1 at')) :=
 (alG m μ who at' hE).imp fun _ R H h => jD (by simp) h
theorem Dt (m : Nat) (μ : Mu) (who : Int) (at' : dj) (v : Nat) (hE : μ.N < 1099511627776) : Sp dL [vp m, vi who, e8 at', vu v] (bL m μ) (fun _ : Unit => .tuple #[]) (fun _ => bL m ((μ.acc who 2 at').put at' v)) :=
 (ab5 m μ who at' v hE).imp fun _ R H h => jD (by simp) h
theorem S5 (m : Nat) (μ : Mu) (who : Int) (at' : dj) (was now : Nat) (hE : μ.N < 1099511627776) :
 Sp fO [vp m, vi who, e8 at', vu was, vu now] (bL m μ) (fun _ : Unit => vb (decide (μ.V at' = was))) (fun _ => bL m (μ.swp who at' was now)) :=
 (alJ m μ who at' was now hE).imp fun _ R H h => by
  have : (μ.swap who at' was now).N ≤ μ.N + 2 := by unfold Mu.swap; split <;> simp
  exact jD this h
theorem amF (m : Nat) (μ : Mu) (who : Int) (at' : dj) (n : Nat) (hE : μ.N < 1099511627776) :
 Sp gv [vp m, vi who, e8 at', vu n] (bL m μ) (fun _ : Unit => vu (μ.V at')) (fun _ => bL m ((μ.acc who 3 at').put at' ((μ.V at' + n) % 18446744073709551616))) :=
 (arL m μ who at' n hE).imp fun _ R H h => jD (by simp) h
def Kh (p : dj × Nat) : List Value := [vi p.1.1, vi p.1.2.1, vi p.1.2.2]
def NS (p : dj × Nat) : List Value := [vu p.2]
instance : Enc Kh 3 := ⟨fun _ => rfl, fun _ => rfl, by omega⟩
instance : Enc NS 1 := ⟨fun _ => rfl, fun _ => rfl, by omega⟩
def I1 (m : Nat) (al : List (dj × Nat)) (E : List Ev) : SP := ex fun g : Value × Value × Value =>
 blk m (.cells false [g.1, g.2.1, g.2.2]) * (ts 3 Kh g.1 al * (ts 1 NS g.2.1 al * ts 5 Ev.cells g.2.2 E))
def bP (m : Nat) (μ : Mu) : SP := ex fun al : List (dj × Nat) => pu ((∀ l, gh al l = μ.V l) ∧ al.length + μ.E.length ≤ μ.N) * I1 m al μ.E
def iJ (al : List (dj × Nat)) (l : dj) : Nat := al.findIdx fun p => p.1 == l
def k7 (al : List (dj × Nat)) (l : dj) : List (dj × Nat) := if iJ al l < al.length then al else al ++ [(l, 0)]
theorem j8 (p : dj × Nat) (al : List (dj × Nat)) (l : dj) : iJ (p :: al) l = if p.1 = l then 0 else iJ al l + 1 := by
 unfold iJ;rw [List.findIdx_cons]
 by_cases h : p.1 = l
 ·simp [h]
 ·have : (p.1 == l) = false := by simpa using h
  simp [h, this]
theorem DQ (l : dj) : ∀ (al : List (dj × Nat)) (h : iJ al l < al.length), al[iJ al l] = (l, gh al l) := by
 intro al
 induction al with
 | nil => intro h; simp at h
 | cons p al ih =>
  intro h;have e := j8 p al l
  by_cases hp : p.1 = l
  ·rw [if_pos hp] at e
   simp only [e, List.getElem_cons_zero, fq, hp, if_true];exact Prod.ext hp rfl
  ·rw [if_neg hp] at e
   rw [e, List.length_cons] at h;simp only [e, List.getElem_cons_succ, fq, hp, if_false];exact ih (by omega)
theorem QJ (l x : dj) : ∀ (al : List (dj × Nat)), ¬ iJ al l < al.length → gh (al ++ [(l, 0)]) x = gh al x := by
 intro al
 induction al with
 | nil =>
  intro _;show gh [(l, 0)] x = gh [] x;rw [fq]
  split <;> rfl
 | cons p al ih =>
  intro h;have e := j8 p al l
  by_cases hp : p.1 = l
  ·rw [if_pos hp] at e
   simp [e] at h
  ·rw [if_neg hp] at e
   rw [List.cons_append, fq, fq, ih (by rw [e, List.length_cons] at h; omega)]
theorem DR (l : dj) (al : List (dj × Nat)) (h : ¬ iJ al l < al.length) : iJ (al ++ [(l, 0)]) l = al.length := by
 induction al with
 | nil => simp [iJ, List.findIdx_cons]
 | cons p al ih =>
  have e := j8 p al l
  by_cases hp : p.1 = l
  ·rw [if_pos hp] at e
   simp [e] at h
  ·rw [if_neg hp] at e
   rw [List.cons_append, j8, if_neg hp, ih (by rw [e, List.length_cons] at h; omega), List.length_cons]
theorem YR (al : List (dj × Nat)) (l x : dj) : gh (k7 al l) x = gh al x := by
 unfold k7
 split
 ·rfl
 ·exact QJ l x al (by assumption)
theorem afI (al : List (dj × Nat)) (l : dj) : iJ (k7 al l) l < (k7 al l).length := by
 unfold k7
 split
 ·assumption
 ·rw [DR l al (by assumption)]; simp
theorem Ik (l : dj) (v : Nat) : ∀ (al : List (dj × Nat)), iJ al l < al.length → nI al l v = al.set (iJ al l) (l, v) := by
 intro al
 induction al with
 | nil => intro h; simp at h
 | cons p al ih =>
  intro h;have e := j8 p al l
  by_cases hp : p.1 = l
  ·rw [if_pos hp] at e
   simp [nI, hp, e]
  ·rw [if_neg hp] at e
   rw [e, List.length_cons] at h;simp only [nI, hp, if_false, e, List.set_cons_succ];rw [ih (by omega)]
theorem XG (m : Nat) (al : List (dj × Nat)) (E : List Ev) (who kind : Int) (at' : dj) (hE : E.length < 1099511627776) : Sp cr [vp m, vi who, vi kind, e8 at'] (I1 m al E) (fun _ : Unit => .tuple #[]) (fun _ => I1 m al (E ++ [⟨who, kind, at'⟩])) := by
 refine aY (Gp _ _ _ _) fun R H h => ?_;obtain ⟨⟨a, v, e⟩, h⟩ := ac.ex.1 h;dsimp only at h
 repeat (first | refine aS ‹_› fun _ _ _ => ?_ | refine aR ‹_› ?_ | refine ak ‹_› ae rfl ?_ | refine jq ?_ | refine Qi ‹_› fun _ _ _ => ?_)
 refine gY ((⟨who, kind, at'⟩ : Ev)) (by assumption) rfl ?_ (by omega) fun a' c' _ _ => ?_
 ·unfold dc; omega
 repeat (first | refine bD ae ?_ | refine eM ‹_› rfl rfl fun _ _ => ?_)
 exact am ⟨(), rfl, ac.ex.2 ⟨(a, v, .slice a' (E.length + 1) c'), ac.to (by assumption)⟩⟩
theorem Np (l : dj) : ∀ (al : List (dj × Nat)) (k : Nat) (hk : k < al.length), al[k].1 = l → (∀ j, j < k → ∀ p, al[j]? = some p → p.1 ≠ l) → iJ al l = k := by
 intro al
 induction al with
 | nil => intro k hk; simp at hk
 | cons p al ih =>
  intro k hk h hno;rw [j8]
  cases k with
  | zero => rw [if_pos (by simpa using h)]
  | succ k =>
   rw [if_neg (hno 0 (by omega) p rfl), ih k (by simpa using hk) (by simpa using h) fun j hj q hq => hno (j + 1) (by omega) q (by simpa using hq)]
theorem Tb {m b0 : Nat} {al : List (dj × Nat)} {E : List Ev} {at' : dj} {R : SP} (hal : al.length < 1099511627776) {a v e : Value} (x4 : Value) {H : AH}
 (h : ac (blk b0 (.cells false [vi at'.1, vi at'.2.1, vi at'.2.2]) * (blk m (.cells false [a, v, e]) * (ts 3 Kh a al * (ts 1 NS v al * ts 5 Ev.cells e E)) * R)) H) :
 ∀ (n k : Nat), k + n = al.length → (∀ j, j < k → ∀ p, al[j]? = some p → p.1 ≠ at') →
  wp (Du (vp m) (vp b0) x4 (vi k) H) fun v' H' => v' = vi (iJ (k7 al at') at') ∧ ac (I1 m (k7 al at') E * R) H' := by
 intro n
 induction n with
 | zero =>
  intro k hk hno
  have hidx : ¬ iJ al at' < al.length := by
   intro hlt;have := DQ at' al hlt;exact hno _ (by omega) _ (cG hlt) (by rw [this])
  refine ah (Gx _ _ _ _ H) ?_;refine ak h ae rfl ?_;refine oW (s := a) h ?_;refine aa tC ?_;refine ci (fun hc => ?_) (fun hc => ?_)
  ·simp at hc; omega
  refine ah (Mv _ _ _ H) ?_;refine ah (acU _ _ _ H) ?_;have e1 : k7 al at' = al ++ [(at', 0)] := if_neg hidx
  have e2 : iJ (k7 al at') at' = al.length := by rw [e1, DR at' al hidx]
  rw [e1, ← e1, e2, e1]
  repeat (first | refine aR ‹_› ?_ | refine ak ‹_› ae rfl ?_ | refine Qi ‹_› fun _ _ _ => ?_)
  refine gY (((at', 0) : dj × Nat)) (by assumption) rfl ?_ (by omega) fun a1 c1 H1 h1 => ?_
  ·unfold dc; omega
  repeat (first | refine ak ‹_› ae rfl ?_ | refine Qi ‹_› fun _ _ _ => ?_ | refine aH ‹_› ‹_› rfl ?_)
  refine gY (((at', 0) : dj × Nat)) (by assumption) rfl ?_ (by omega) fun a2 c2 H2 h2 => ?_
  ·unfold dc; omega
  repeat (first | refine ak ‹_› ae rfl ?_ | refine bD ae ?_ | refine eM ‹_› rfl rfl fun _ _ => ?_ | refine Yz ?_)
  refine aa (bG (by omega) (by omega)) ?_;refine am ⟨by congr 1; omega, ?_⟩;exact ac.ex.2 ⟨(.slice a1 (al.length + 1) c1, .slice a2 (al.length + 1) c2, e), ac.to (by assumption)⟩
 | succ n ih =>
  intro k hk hno
  have hkl : k < al.length := by omega
  refine ah (Gx _ _ _ _ H) ?_;refine ak h ae rfl ?_;refine oW (s := a) h ?_;refine aa tC ?_;refine ci (fun hc => ?_) (fun hc => ?_)
  ·refine ah (Ti _ _ _ _ H) ?_
   refine ak h ae rfl ?_;refine UC (s := a) h hkl ?_;refine aR h ?_;refine aa (agI al[k].1 at') ?_;refine ci (fun hc => ?_) (fun hc => ?_)
   ·have hc : al[k].1 = at' := by simpa using hc
    have hidx := Np at' al k hkl hc hno
    have e1 : k7 al at' = al := by unfold k7; rw [if_pos (by omega)]
    refine am ⟨by rw [e1, hidx], ?_⟩;rw [e1];exact ac.ex.2 ⟨(a, v, e), ac.to h⟩
   ·have hc : al[k].1 ≠ at' := by simpa using hc
    refine ah (Tj _ _ _ _ H) ?_;refine aa (aE (by omega) (by omega)) ?_;refine ih (k + 1) (by omega) fun j hj p hp => ?_
    by_cases hjk : j = k
    ·subst hjk
     rw [cG hkl] at hp;cases hp;exact hc
    ·exact hno j (by omega) p hp
  ·simp at hc; omega
theorem acS (m : Nat) (al : List (dj × Nat)) (E : List Ev) (at' : dj) (hal : al.length < 1099511627776) : Sp Bo [vp m, e8 at'] (I1 m al E) (fun _ : Unit => vi (iJ (k7 al at') at')) (fun _ => I1 m (k7 al at') E) := by
 refine aY (avG _ _) fun R H h => ?_;obtain ⟨⟨a, v, e⟩, h⟩ := ac.ex.1 h;dsimp only at h;refine aS h fun b0 H1 h1 => ?_;refine ah (acT _ _ _ H1) ?_;refine ah (Th _ _ _ _ H1) ?_;refine (Tb hal (vi 0) h1 al.length 0 (by omega) (fun j hj => by omega)).mono fun v' H' h' => ⟨(), h'.1, h'.2⟩
theorem asB (a : Value) (al : List (dj × Nat)) (i : Nat) (hi : i < al.length) (v : Nat) : ts 3 Kh a (al.set i (al[i].1, v)) = ts 3 Kh a al := by
 unfold ts;rw [OY, FI al i hi, mY al i hi]
 rfl
theorem F8 {m : Nat} {μ : Mu} {al : List (dj × Nat)} {a v e : Value} {P R : SP} {H : AH} (hp : (∀ l, gh al l = μ.V l) ∧ al.length + μ.E.length ≤ μ.N) (h : ac P H)
 {Z : SP} [f : Fr P ((blk m (.cells false [a, v, e]) * (ts 3 Kh a al * (ts 1 NS v al * ts 5 Ev.cells e μ.E))) * R) Z] : ac (bP m μ * R) H := by
 refine ac.ex.2 ⟨al, ?_⟩;rw [aj, ac.pu];exact ⟨hp, ac.ex.2 ⟨(a, v, e), h.to⟩⟩
theorem YS (al : List (dj × Nat)) (l : dj) : (k7 al l).length ≤ al.length + 1 := by unfold k7; split <;> simp
def Bn (m : Nat) (μ : Mu) (at' : dj) (i : Nat) : SP := ex fun g : List (dj × Nat) × Value × Value × Value =>
 pu ((∀ l, gh g.1 l = μ.V l) ∧ g.1.length + μ.E.length ≤ μ.N ∧ iJ g.1 at' = i ∧ i < g.1.length) * (blk m (.cells false [g.2.1, g.2.2.1, g.2.2.2]) * (ts 3 Kh g.2.1 g.1 * (ts 1 NS g.2.2.1 g.1 * ts 5 Ev.cells g.2.2.2 μ.E)))
theorem Ht (m : Nat) (μ : Mu) (at' : dj) (hE : μ.N < 1099511627776) : Sp Bo [vp m, e8 at'] (bP m μ) (fun i : Nat => vi (i : Int)) (fun i => Bn m { μ with N := μ.N + 1 } at' i) := by
 intro R H h;obtain ⟨al, h⟩ := ac.ex.1 h;rw [aj, ac.pu] at h;obtain ⟨hp, h⟩ := h;obtain ⟨_, H', e, h'⟩ := acS m al μ.E at' (by omega) R H h;refine ⟨iJ (k7 al at') at', H', e, ?_⟩;obtain ⟨⟨a, v, ev⟩, h'⟩ := ac.ex.1 h';refine ac.ex.2 ⟨(k7 al at', a, v, ev), ?_⟩;rw [aj, ac.pu];have := YS al at';exact ⟨⟨fun l => by rw [YR, hp.1], by dsimp only; omega, rfl, afI al at'⟩, h'⟩
theorem ae0 (m : Nat) (μ : Mu) (who kind : Int) (at' : dj) (hE : μ.N < 1099511627776) : Sp cr [vp m, vi who, vi kind, e8 at'] (bP m μ) (fun _ : Unit => .tuple #[]) (fun _ => bP m (μ.log who kind at')) := by
 intro R H h;obtain ⟨al, h⟩ := ac.ex.1 h;rw [aj, ac.pu] at h;obtain ⟨hp, h⟩ := h;obtain ⟨_, H', e, h'⟩ := XG m al μ.E who kind at' (by omega) R H h;refine ⟨(), H', e, ?_⟩;refine ac.ex.2 ⟨al, ?_⟩;rw [aj, ac.pu];exact ⟨⟨hp.1, by simp; omega⟩, h'⟩
theorem au6 (m : Nat) (μ : Mu) (at2 : dj) (i : Nat) (who kind : Int) (at' : dj) (hE : μ.N < 1099511627776) : Sp cr [vp m, vi who, vi kind, e8 at'] (Bn m μ at2 i) (fun _ : Unit => .tuple #[]) (fun _ => Bn m (μ.log who kind at') at2 i) := by
 intro R H h;obtain ⟨⟨al, a, v, e⟩, h⟩ := ac.ex.1 h;rw [aj, ac.pu] at h;obtain ⟨hp, h⟩ := h;dsimp only at hp h;obtain ⟨_, H', e', h'⟩ := XG m al μ.E who kind at' (by omega) R H (ac.ex.2 ⟨(a, v, e), h⟩);refine ⟨(), H', e', ?_⟩;obtain ⟨⟨a2, v2, e2⟩, h'⟩ := ac.ex.1 h';refine ac.ex.2 ⟨(al, a2, v2, e2), ?_⟩;rw [aj, ac.pu];exact ⟨⟨hp.1, by simp; omega, hp.2.2⟩, h'⟩
class Xi (P : SP) (m i : Nat) (μ : outParam Mu) (at' : outParam dj) (R : outParam SP) : Prop where
 eq : P = Bn m μ at' i * R
instance (priority := high) Xi.refl (m i : Nat) (μ : Mu) (at' : dj) : Xi (Bn m μ at' i) m i μ at' emp := ⟨(dY _).symm⟩
instance Xi.left (P Q R : SP) (m i : Nat) (μ : Mu) (at' : dj) [h : Xi P m i μ at' R] : Xi (P * Q) m i μ at' (R * Q) := ⟨by rw [h.eq, aj]⟩
instance Xi.right (P Q R : SP) (m i : Nat) (μ : Mu) (at' : dj) [h : Xi Q m i μ at' R] : Xi (P * Q) m i μ at' (P * R) := ⟨by rw [h.eq, cu]⟩
section
variable {m i : Nat} {μ : Mu} {at' : dj} {P R : SP} {H : AH} {Q : Value → AH → Prop}
theorem YF {k : Value → OV} (h : ac P H) [f : Xi P m i μ at' R] (hk : wp (k (vu (μ.V at'))) Q) : wp (ld [.n, .f 1] (vp m) H fun v => ld [.i 1 (vi i)] v H k) Q := by
 have h' : ac (Bn m μ at' i * R) H := by rw [← f.eq]; exact h
 obtain ⟨⟨al, a, v, e⟩, h'⟩ := ac.ex.1 h';rw [aj, ac.pu] at h';obtain ⟨hp, h'⟩ := h';dsimp only at hp h';refine ak h' ae rfl ?_;obtain ⟨p1, _, p4, p5⟩ := hp;refine av6 (s := v) h' p5 (v := vu (μ.V at')) ?_ hk;subst p4;rw [DQ at' al p5];simp [NS, p1]
theorem aoZ {k : AH → OV} {v : Nat} (h : ac P H) [f : Xi P m i μ at' R] (hk : ∀ H', ac (bP m (μ.put at' v) * R) H' → wp (k H') Q) : wp (ld [.n, .f 1] (vp m) H fun s => st 1 [.i 1 (vi i)] s (vu v) H k) Q := by
 have h0 : ac (Bn m μ at' i * R) H := by rw [← f.eq]; exact h
 obtain ⟨⟨al, a, s, e⟩, h1⟩ := ac.ex.1 h0;rw [aj, ac.pu] at h1;obtain ⟨hp, h'⟩ := h1
 clear h0
 dsimp only at hp h';refine ak h' ae rfl ?_;obtain ⟨p1, p2, p4, p5⟩ := hp;subst p4;refine JW (s := s) (g := 0) ((at', v) : dj × Nat) h' p5 (.inl ⟨rfl, rfl⟩) rfl (by omega) rfl rfl fun H' h2 => hk H' ?_;have hat := DQ at' al p5;have hk2 := asB a al (iJ al at') p5 v;rw [hat] at hk2;rw [← Ik at' v al p5] at h2 hk2;rw [← hk2] at h2;refine F8 (al := nI al at' v) (a := a) (v := s) (e := e) ⟨fun l => ?_, ?_⟩ h2
 ·rw [Ij, p1]
 ·rw [Ik at' v al p5, OY]; exact p2
theorem asI {x y : Value} {op : BinOp} {cl : TCls} {k : AH → OV} {v : Nat} (h : ac P H) [f : Xi P m i μ at' R] (hb : ai cl op x y = some (vu v)) (hk : ∀ H', ac (bP m (μ.put at' v) * R) H' → wp (k H') Q) :
 wp (ld [.n, .f 1] (vp m) H fun s => (ai cl op x y).bind fun z => st 1 [.i 1 (vi i)] s z H k) Q := by
 rw [hb];exact aoZ h hk
theorem av8 (h : ac P H) [f : Xi P m i μ at' R] : ac (bP m μ * R) H := by
 have h' : ac (Bn m μ at' i * R) H := by rw [← f.eq]; exact h
 obtain ⟨⟨al, a, s, e⟩, h'⟩ := ac.ex.1 h';rw [aj, ac.pu] at h';obtain ⟨hp, h'⟩ := h';exact F8 (al := al) (a := a) (v := s) (e := e) ⟨hp.1, hp.2.1⟩ h'
end
theorem s8 (m : Nat) (μ : Mu) (who : Int) (at' : dj) (hE : μ.N < 1099511627000) : Sp ei [vp m, vi who, e8 at'] (bP m μ) (fun _ : Unit => vu (μ.V at')) (fun _ => bP m (μ.acc who 1 at')) := by
 refine aY (Cv _ _ _) fun R H h => ?_
 repeat (first | refine aS ‹_› fun _ _ _ => ?_ | refine aR ‹_› ?_)
 refine af (by assumption) (ae0 m μ who 1 at' (by omega)) fun _ _ _ => ?_
 repeat refine aR ‹_› ?_
 refine af (by assumption) (Ht m (μ.log who 1 at') at' (by simp; omega)) fun i H3 h3 => ?_;refine YF h3 ?_;exact am ⟨(), rfl, ac.to (av8 (m := m) (i := i) h3)⟩
theorem t9 (m : Nat) (μ : Mu) (who : Int) (at' : dj) (v : Nat) (hE : μ.N < 1099511627000) : Sp eO [vp m, vi who, e8 at', vu v] (bP m μ) (fun _ : Unit => .tuple #[]) (fun _ => bP m ((μ.acc who 2 at').put at' v)) := by
 refine aY (Ai _ _ _ _) fun R H h => ?_
 repeat (first | refine aS ‹_› fun _ _ _ => ?_ | refine aR ‹_› ?_)
 refine af (by assumption) (ae0 m μ who 2 at' (by omega)) fun _ _ _ => ?_
 repeat refine aR ‹_› ?_
 refine af (by assumption) (Ht m (μ.log who 2 at') at' (by simp; omega)) fun i H3 h3 => ?_;refine aoZ (at' := at') h3 fun H4 h4 => ?_;exact am ⟨(), rfl, h4.to⟩
theorem amJ (m : Nat) (μ : Mu) (at' : dj) (hE : μ.N < 1099511627000) : Sp ne [vp m, e8 at'] (bP m μ) (fun _ : Unit => vu (μ.V at')) (fun _ => bP m { μ with N := μ.N + 1 }) := by
 refine aY (Cw _ _) fun R H h => ?_
 repeat (first | refine aS ‹_› fun _ _ _ => ?_ | refine aR ‹_› ?_)
 refine af (by assumption) (Ht m μ at' (by omega)) fun i H3 h3 => ?_;refine YF h3 ?_;exact am ⟨(), rfl, ac.to (av8 (m := m) (i := i) h3)⟩
theorem Gw (m : Nat) (μ : Mu) (who : Int) (at' : dj) (was now : Nat) (hE : μ.N < 1099511627000) :
 Sp gS [vp m, vi who, e8 at', vu was, vu now] (bP m μ) (fun _ : Unit => vb (decide (μ.V at' = was))) (fun _ => bP m (μ.swp who at' was now)) := by
 refine aY (Cx _ _ _ _ _) fun R H h => ?_
 repeat (first | refine aS ‹_› fun _ _ _ => ?_ | refine aR ‹_› ?_)
 refine af (by assumption) (Ht m μ at' (by omega)) fun i H3 h3 => ?_;refine YF h3 ?_;refine aa (atM) ?_;unfold Mu.swp Mu.swap;refine ci (fun hc => ?_) (fun hc => ?_)
 ·have hc : ¬ μ.V at' = was := by simpa using hc
  rw [if_neg hc, e7 hc]
  repeat refine aR ‹_› ?_
  refine af (by assumption) (au6 m { μ with N := μ.N + 1 } at' i who 4 at' (by simp; omega)) fun _ H4 h4 => ?_;exact am ⟨(), rfl, ac.to (av8 (m := m) (i := i) h4)⟩
 ·have hc : μ.V at' = was := by simpa using hc
  rw [if_pos hc, fH hc]
  repeat refine aR ‹_› ?_
  refine af (by assumption) (au6 m { μ with N := μ.N + 1 } at' i who 3 at' (by simp; omega)) fun _ H4 h4 => ?_;refine aoZ (at' := at') h4 fun H5 h5 => ?_;exact am ⟨(), rfl, h5.to⟩
theorem Mq (m : Nat) (μ : Mu) (who : Int) (at' : dj) (n : Nat) (hE : μ.N < 1099511627000) :
 Sp iO [vp m, vi who, e8 at', vu n] (bP m μ) (fun _ : Unit => vu (μ.V at')) (fun _ => bP m ((μ.acc who 3 at').put at' ((μ.V at' + n) % 18446744073709551616))) := by
 refine aY (Gn _ _ _ _) fun R H h => ?_
 repeat (first | refine aS ‹_› fun _ _ _ => ?_ | refine aR ‹_› ?_)
 refine af (by assumption) (Ht m μ at' (by omega)) fun i H3 h3 => ?_
 repeat refine aR ‹_› ?_
 refine af (by assumption) (au6 m { μ with N := μ.N + 1 } at' i who 3 at' (by simp; omega)) fun _ H4 h4 => ?_;refine YF h4 ?_;refine asI (at' := at') h4 asX fun H5 h5 => ?_;exact am ⟨(), rfl, h5.to⟩
def d6 (w : Nat) : Bool := decide (w / 2305843009213693952 < 3)
def bn (w : Nat) : Nat := if d6 w then w % 2305843009213693952 else 0
def bC (w : Nat) : Int := if d6 w then (w / 2305843009213693952 : Nat) else -1
def aW (w : Nat) : Nat → Option Nat
 | 0 => if d6 w ∧ bC w ≠ 2 ∧ bn w < 2305843009213693951 then some (bn w + 1 + 2305843009213693952) else none
 | 1 => if bC w = 1 then some (bn w) else none
 | 2 => if bC w = 0 then some (bn w + 4611686018427387904) else none
 | _ => none
def Gf : Option Nat → Value
 | some n => .tuple #[vu n, vb true]
 | none => .tuple #[vw 0, vb false]
theorem wz (w : Nat) : Sp jO [vu w] emp (fun _ : Unit => vb (d6 w)) (fun _ => emp) := by
 refine aY (Ig _) fun R H h => ?_;refine aa (atS) ?_;refine aa (tC) ?_;refine am ⟨(), ?_, h⟩
 congr 1
 unfold d6
 congr 1
 apply propext;omega
theorem gZ (w : Nat) (hw : w < 18446744073709551616) : Sp dt [vu w] emp (fun _ : Unit => vu (bn w)) (fun _ => emp) := by
 refine aY (If _) fun R H h => ?_;refine af (by assumption) (wz w) fun _ _ _ => ?_;refine aa (Hk) ?_;refine ci (fun hc => ?_) (fun hc => ?_)
 ·have hc : d6 w = false := by simpa using hc
  refine am ⟨(), by simp [bn, hc], ac.to (by assumption)⟩
 ·have hc : d6 w = true := by simpa using hc
  refine aa (awU hw) ?_;refine am ⟨(), by simp [bn, hc], ac.to (by assumption)⟩
theorem jg (w : Nat) (hw : w < 18446744073709551616) : Sp dX [vu w] emp (fun _ : Unit => vi (bC w)) (fun _ => emp) := by
 refine aY (Ih _) fun R H h => ?_;refine af (by assumption) (wz w) fun _ _ _ => ?_;refine aa (Hk) ?_;refine ci (fun hc => ?_) (fun hc => ?_)
 ·have hc : d6 w = false := by simpa using hc
  refine am ⟨(), by simp [bC, hc], ac.to (by assumption)⟩
 ·have hc : d6 w = true := by simpa using hc
  refine aa (atS) ?_;refine aa (iS (by omega)) ?_;refine am ⟨(), by simp [bC, hc], ac.to (by assumption)⟩
theorem pL (w : Nat) (hw : w < 18446744073709551616) : Sp gR [vu w] emp (fun _ : Unit => .tuple #[vu (bn w), vi (bC w), vb (d6 w)]) (fun _ => emp) := by
 refine aY (Mk _) fun R H h => ?_;refine aa (axA) ?_;refine aa (aw8 hw) ?_;refine aa (iS (by omega)) ?_;refine aa (J5) ?_;refine ci (fun hc => ?_) (fun hc => ?_)
 ·have hc : d6 w = false := by simp at hc; simp [d6]; omega
  refine am ⟨(), by simp [bn, bC, hc], h.to⟩
 ·have hc : d6 w = true := by simp at hc; simp [d6]; omega
  refine am ⟨(), by simp [bn, bC, hc], h.to⟩
theorem AN (n : Nat) (s : Nat) (hn : n ≤ 2305843009213693951) (hs : s < 3) : Sp lr [vu n, vi (s : Int)] emp (fun _ : Unit => .tuple #[vu (s * 2305843009213693952 + n), vb true]) (fun _ => emp) := by
 refine aY (Nc _ _) fun R H h => ?_;refine aa (fJ (by omega)) ?_;refine gt ?_;refine aa (HJ (bE ?_)) ?_
 ·omega
 refine gt ?_;refine aa (HJ (pr ?_)) ?_
 ·omega
 refine gt ?_;refine ci (fun hc => by cases hc) (fun _ => ?_);refine aa (dU (by omega) (by omega)) ?_
 have e1 : ai .other .shl (vu (s : Int).toNat) (vw 61) = some (vu (s * 2305843009213693952)) := by
  have := In (cl := .other) (a := s) (k := .u64) (n := 61) (by omega);simp only [Nat.reducePow] at this;rw [Nat.mod_eq_of_lt (by omega)] at this
  simpa using this
 refine aa (e1) ?_
 have e2 : ai .other .or (vu (s * 2305843009213693952)) (vu n) = some (vu (s * 2305843009213693952 + n)) := by
  rw [afT (by omega) (by omega)]
  congr 3
  have := Nat.two_pow_add_eq_or_of_lt (i := 61) (b := n) (by simp only [Nat.reducePow]; omega) s;simp only [Nat.reducePow] at this;rw [Nat.mul_comm, ← this]
 refine aa (e2) ?_;exact am ⟨(), rfl, h.to⟩
theorem Gm (n : Nat) (s : Nat) (hn : n ≤ 2305843009213693951) (hs : s < 3) : Sp nb [vu n, vi (s : Int)] emp (fun _ : Unit => .tuple #[vu (s * 2305843009213693952 + n), vb true]) (fun _ => emp) := by
 refine aY (Pw _ _) fun R H h => ?_;refine aa (fJ (by omega)) ?_;refine gt ?_;refine aa (HJ (bE ?_)) ?_
 ·omega
 refine gt ?_;refine aa (HJ (fJ ?_)) ?_
 ·omega
 refine gt ?_;refine ci (fun hc => by cases hc) (fun _ => ?_);refine aa (dU (by omega) (by omega)) ?_
 have hs2 : (s : Int).toNat = s := by omega
 rw [hs2];refine aa (aw5 (by omega)) ?_;refine aa (gr (by omega)) ?_;exact am ⟨(), rfl, h.to⟩
theorem eb (w : Nat) : bn w ≤ 2305843009213693951 := by unfold bn; split <;> omega
theorem atW {w : Nat} (h : d6 w = true ∧ bC w ≠ 2 ∧ bn w < 2305843009213693951) : aW w 0 = some (bn w + 1 + 2305843009213693952) := if_pos h
theorem Qh {w : Nat} (h : ¬ (d6 w = true ∧ bC w ≠ 2 ∧ bn w < 2305843009213693951)) : aW w 0 = none := if_neg h
theorem atY {w : Nat} (h : bC w = 1) : aW w 1 = some (bn w) := if_pos h
theorem atX {w : Nat} (h : ¬ bC w = 1) : aW w 1 = none := if_neg h
theorem at0 {w : Nat} (h : bC w = 0) : aW w 2 = some (bn w + 4611686018427387904) := if_pos h
theorem atZ {w : Nat} (h : ¬ bC w = 0) : aW w 2 = none := if_neg h
theorem aeU (w : Nat) (hw : w < 18446744073709551616) : Sp od [vu w] emp (fun _ : Unit => Gf (aW w 0)) (fun _ => emp) := by
 refine aY (Nb _) fun R H h => ?_;have hcl := eb w;refine af (by assumption) (wz w) fun _ _ _ => ?_;refine aa (Hk) ?_
 by_cases hr : d6 w = true
 ·rw [hr, Bool.not_true]
  refine gt ?_;refine af (by assumption) (jg w hw) fun _ _ _ => ?_;refine aa (HJ (fB)) ?_
  by_cases hs : bC w = 2
  ·rw [beq_iff_eq.2 hs]
   refine gt ?_;refine ci (fun _ => ?_) (fun hc => by cases hc);exact am ⟨(), by rw [Qh (fun h => h.2.1 hs)]; rfl, ac.to (by assumption)⟩
  ·rw [beq_eq_false_iff_ne.2 hs]
   refine gt ?_;refine af (by assumption) (gZ w hw) fun _ _ _ => ?_;refine aa (HJ (fB)) ?_;refine gt ?_;refine ci (fun hc => ?_) (fun hc => ?_)
   ·have hc : (bn w : Int) = 2305843009213693951 := by simpa using hc
    exact am ⟨(), by rw [Qh (fun h => by have := h.2.2; omega)]; rfl, ac.to (by assumption)⟩
   ·have hc : ¬ (bn w : Int) = 2305843009213693951 := by simpa using hc
    have ht := atW (w := w) ⟨hr, hs, by omega⟩;refine af (by assumption) (gZ w hw) fun _ _ _ => ?_;refine aa (gr (b := 1) (by omega)) ?_;refine af (by assumption) (AN (bn w + 1) 1 (by omega) (by omega)) fun _ _ _ => ?_;refine aa rfl ?_;refine aa rfl ?_;refine am ⟨(), ?_, ac.to (by assumption)⟩;rw [ht];simp [Gf];omega
 ·have hr : d6 w = false := by simpa using hr
  rw [hr, Bool.not_false];refine gt ?_;refine ci (fun _ => ?_) (fun hc => by cases hc);exact am ⟨(), by rw [Qh (fun h => by rw [hr] at h; cases h.1)]; rfl, ac.to (by assumption)⟩
theorem aeV (w : Nat) (hw : w < 18446744073709551616) : Sp og [vu w] emp (fun _ : Unit => Gf (aW w 1)) (fun _ => emp) := by
 refine aY (Nd _) fun R H h => ?_;have hcl := eb w;refine af (by assumption) (jg w hw) fun _ _ _ => ?_;refine aa (tD) ?_;refine ci (fun hc => ?_) (fun hc => ?_)
 ·have hc : ¬ bC w = 1 := by simpa using hc
  exact am ⟨(), by rw [atX hc]; rfl, ac.to (by assumption)⟩
 ·have hc : bC w = 1 := by simpa using hc
  refine af (by assumption) (gZ w hw) fun _ _ _ => ?_;refine af (by assumption) (AN (bn w) 0 (by omega) (by omega)) fun _ _ _ => ?_;refine aa rfl ?_;refine aa rfl ?_;exact am ⟨(), by rw [atY hc]; simp [Gf], ac.to (by assumption)⟩
theorem aeW (w : Nat) (hw : w < 18446744073709551616) : Sp oh [vu w] emp (fun _ : Unit => Gf (aW w 2)) (fun _ => emp) := by
 refine aY (Ne _) fun R H h => ?_;have hcl := eb w;refine af (by assumption) (jg w hw) fun _ _ _ => ?_;refine aa (tD) ?_;refine ci (fun hc => ?_) (fun hc => ?_)
 ·have hc : ¬ bC w = 0 := by simpa using hc
  exact am ⟨(), by rw [atZ hc]; rfl, ac.to (by assumption)⟩
 ·have hc : bC w = 0 := by simpa using hc
  refine af (by assumption) (gZ w hw) fun _ _ _ => ?_;refine af (by assumption) (AN (bn w) 2 (by omega) (by omega)) fun _ _ _ => ?_;refine aa rfl ?_;refine aa rfl ?_;refine am ⟨(), ?_, ac.to (by assumption)⟩;rw [at0 hc];simp [Gf];omega
theorem Tf (w how : Nat) (hw : w < 18446744073709551616) (hh : how < 3) : Sp qz [vu w, vi (how : Int)] emp (fun _ : Unit => Gf (aW w how)) (fun _ => emp) := by
 refine aY (HT _ _) fun R H h => ?_;have hcl := eb w;refine af (by assumption) (pL w hw) fun _ H1 h1 => ?_;refine aa rfl ?_;refine aa rfl ?_;refine aa rfl ?_;refine ah (Af _ _ _ _ _ _ H1) ?_;refine aa (Hk) ?_;refine ci (fun hc => ?_) (fun hc => ?_)
 ·have hc : d6 w = false := by simpa using hc
  have : aW w how = none := by
   match how, hh with
   | 0, _ => simp [aW, hc]
   | 1, _ => simp [aW, bC, hc]
   | 2, _ => simp [aW, bC, hc]
  exact am ⟨(), by rw [this]; rfl, ac.to (by assumption)⟩
 ·have hr : d6 w = true := by simpa using hc
  match how, hh with
  | 0, _ =>
   refine aa (bi rfl) ?_;refine gt ?_;refine aa (HJ (tD)) ?_;refine gt ?_
   by_cases hs : bC w = 2
   ·rw [bne_eq_false_iff_eq.2 hs]
    refine gt ?_;refine ci (fun hc => by cases hc) (fun _ => ?_);refine aa (aG ?_) ?_
    ·omega
    refine gt ?_;refine ci (fun hc => by cases hc) (fun _ => ?_);refine aa (aG ?_) ?_
    ·omega
    refine gt ?_;refine ci (fun hc => by cases hc) (fun _ => ?_);refine ah (im _ _ H1) ?_;exact am ⟨(), by rw [Qh (fun h => h.2.1 hs)]; rfl, ac.to (by assumption)⟩
   ·rw [bne_iff_ne.2 hs]
    refine gt ?_;refine aa (HJ (tC)) ?_;refine gt ?_;refine ci (fun hc => ?_) (fun hc => ?_)
    ·have hc : (bn w : Int) < 2305843009213693951 := by simpa using hc
     have ht := atW (w := w) ⟨hr, hs, by omega⟩;refine aa (gr (b := 1) (by omega)) ?_;refine af (by assumption) (Gm (bn w + 1) 1 (by omega) (by omega)) fun _ _ _ => ?_;refine aa rfl ?_;refine aa rfl ?_;refine am ⟨(), ?_, ac.to (by assumption)⟩;rw [ht];simp [Gf];omega
    ·have hc : ¬ (bn w : Int) < 2305843009213693951 := by simpa using hc
     refine aa (aG ?_) ?_
     ·omega
     refine gt ?_;refine ci (fun hc => by cases hc) (fun _ => ?_);refine aa (aG ?_) ?_
     ·omega
     refine gt ?_;refine ci (fun hc => by cases hc) (fun _ => ?_);refine ah (im _ _ H1) ?_;exact am ⟨(), by rw [Qh (fun h => by have := h.2.2; omega)]; rfl, ac.to (by assumption)⟩
  | 1, _ =>
   refine aa (aG ?_) ?_
   ·omega
   refine gt ?_;refine ci (fun hc => by cases hc) (fun _ => ?_);refine aa (bi rfl) ?_;refine gt ?_;refine aa (HJ (fB)) ?_;refine gt ?_;refine ci (fun hc => ?_) (fun hc => ?_)
   ·have hc : bC w = 1 := by simpa using hc
    refine af (by assumption) (Gm (bn w) 0 (by omega) (by omega)) fun _ _ _ => ?_;refine aa rfl ?_;refine aa rfl ?_;exact am ⟨(), by rw [atY hc]; simp [Gf], ac.to (by assumption)⟩
   ·have hc : ¬ bC w = 1 := by simpa using hc
    refine aa (aG ?_) ?_
    ·omega
    refine gt ?_;refine ci (fun hc => by cases hc) (fun _ => ?_);refine ah (im _ _ H1) ?_;exact am ⟨(), by rw [atX hc]; rfl, ac.to (by assumption)⟩
  | 2, _ =>
   refine aa (aG ?_) ?_
   ·omega
   refine gt ?_;refine ci (fun hc => by cases hc) (fun _ => ?_);refine aa (aG ?_) ?_
   ·omega
   refine gt ?_;refine ci (fun hc => by cases hc) (fun _ => ?_);refine aa (bi rfl) ?_;refine gt ?_;refine aa (HJ (fB)) ?_;refine gt ?_;refine ci (fun hc => ?_) (fun hc => ?_)
   ·have hc : bC w = 0 := by simpa using hc
    refine af (by assumption) (Gm (bn w) 2 (by omega) (by omega)) fun _ _ _ => ?_;refine aa rfl ?_;refine aa rfl ?_;refine am ⟨(), ?_, ac.to (by assumption)⟩;rw [at0 hc];simp [Gf];omega
   ·have hc : ¬ bC w = 0 := by simpa using hc
    refine ah (im _ _ H1) ?_;exact am ⟨(), by rw [atZ hc]; rfl, ac.to (by assumption)⟩
theorem BB (s : Int) : Sp kT [vi s] emp (fun _ : Unit => e8 (8, s, 0)) (fun _ => emp) := by
 refine aY (Ha _) fun R H h => ?_
 repeat (first | refine bo ‹_› fun _ _ _ => ?_ | refine aR ‹_› ?_ | refine eM ‹_› rfl rfl fun _ _ => ?_ | refine jq ?_)
 exact am ⟨(), rfl, ac.to (by assumption)⟩
theorem ww (s i : Int) : Sp jN [vi s, vi i] emp (fun _ : Unit => e8 (10, s, i)) (fun _ => emp) := by
 refine aY (Id _ _) fun R H h => ?_
 repeat (first | refine bo ‹_› fun _ _ _ => ?_ | refine aR ‹_› ?_ | refine eM ‹_› rfl rfl fun _ _ => ?_ | refine jq ?_)
 exact am ⟨(), rfl, ac.to (by assumption)⟩
theorem dI (k a b : Int) : Sp ch [vi k, vi a, vi b] emp (fun _ : Unit => e8 (k, a, b)) (fun _ => emp) := by
 refine aY (Tg _ _ _) fun R H h => ?_
 repeat (first | refine bo ‹_› fun _ _ _ => ?_ | refine aR ‹_› ?_ | refine eM ‹_› rfl rfl fun _ _ => ?_ | refine jq ?_)
 exact am ⟨(), rfl, ac.to (by assumption)⟩
def tab (t m : Nat) (sh sl : Nat) : SP := blk t (.cells false [vp m, vi sh, vi sl])
section
variable (t m : Nat) (sh sl : Nat) (μ : Mu) (who s i : Int)
theorem BE : Sp dR [vp t] (tab t m sh sl) (fun _ : Unit => vi sl) (fun _ => tab t m sh sl) := by
 refine aY (tj _) fun R H h => ?_;unfold tab at h ⊢
 repeat refine ak ‹_› ae rfl ?_
 exact am ⟨(), rfl, ac.to (by assumption)⟩
theorem wu (hE : μ.N < 1099511627000) : Sp eu [vp t, vi who, vi s] (tab t m sh sl * bL m μ) (fun _ : Unit => vb (decide (μ.V (8, s, 0) = 0))) (fun _ => tab t m sh sl * bL m (μ.swp who (8, s, 0) 0 1)) := by
 refine aY (ux _ _ _) fun R H h => ?_;unfold tab at h ⊢
 repeat refine ak ‹_› ae rfl ?_
 refine af (by assumption) (BB s) fun _ _ _ => ?_
 repeat refine aH ‹_› ‹_› rfl ?_
 refine af (by assumption) (S5 m μ who (8, s, 0) 0 1 (by omega)) fun _ _ _ => ?_;exact am ⟨(), rfl, ac.to (by assumption)⟩
theorem zc (hE : μ.N < 1099511627000) : Sp fi [vp t, vi who, vi s] (tab t m sh sl * bL m μ) (fun _ : Unit => .tuple #[]) (fun _ => tab t m sh sl * bL m ((μ.acc who 2 (8, s, 0)).put (8, s, 0) 0)) := by
 refine aY (rD _ _ _) fun R H h => ?_;unfold tab at h ⊢
 repeat refine ak ‹_› ae rfl ?_
 refine af (by assumption) (BB s) fun _ _ _ => ?_
 repeat refine aH ‹_› ‹_› rfl ?_
 refine af (by assumption) (Dt m μ who (8, s, 0) 0 (by omega)) fun _ _ _ => ?_;exact am ⟨(), rfl, ac.to (by assumption)⟩
theorem Qa (hE : μ.N < 1099511627000) : Sp iD [vp t, vi who, vi s, vi i] (tab t m sh sl * bL m μ) (fun _ : Unit => .tuple #[]) (fun _ => tab t m sh sl * bL m ((μ.acc who 2 (10, s, i)).put (10, s, i) 0)) := by
 refine aY (th _ _ _ _) fun R H h => ?_;unfold tab at h ⊢
 repeat refine ak ‹_› ae rfl ?_
 refine af (by assumption) (ww s i) fun _ _ _ => ?_
 repeat refine aH ‹_› ‹_› rfl ?_
 refine af (by assumption) (Dt m μ who (10, s, i) 0 (by omega)) fun _ _ _ => ?_;exact am ⟨(), rfl, ac.to (by assumption)⟩
theorem Px (hE : μ.N < 1099511627000) : Sp ie [vp t, vi who, vi s] (tab t m sh sl * bP m μ) (fun _ : Unit => vb (decide (μ.V (8, s, 0) = 0))) (fun _ => tab t m sh sl * bP m (μ.swp who (8, s, 0) 0 1)) := by
 refine aY (yC _ _ _) fun R H h => ?_;unfold tab at h ⊢
 repeat refine ak ‹_› ae rfl ?_
 refine af (by assumption) (dI 8 s 0) fun _ _ _ => ?_
 repeat refine aH ‹_› ‹_› rfl ?_
 refine af (by assumption) (Gw m μ who (8, s, 0) 0 1 (by omega)) fun _ _ _ => ?_;exact am ⟨(), rfl, ac.to (by assumption)⟩
theorem v7 (hE : μ.N < 1099511627000) : Sp ej [vp t, vi who, vi s] (tab t m sh sl * bP m μ) (fun _ : Unit => .tuple #[]) (fun _ => tab t m sh sl * bP m ((μ.acc who 2 (8, s, 0)).put (8, s, 0) 0)) := by
 refine aY (ut _ _ _) fun R H h => ?_;unfold tab at h ⊢
 repeat refine ak ‹_› ae rfl ?_
 refine af (by assumption) (dI 8 s 0) fun _ _ _ => ?_
 repeat refine aH ‹_› ‹_› rfl ?_
 refine af (by assumption) (t9 m μ who (8, s, 0) 0 (by omega)) fun _ _ _ => ?_;exact am ⟨(), rfl, ac.to (by assumption)⟩
theorem acR (hE : μ.N < 1099511627000) : Sp jM [vp t, vi who, vi s, vi i] (tab t m sh sl * bP m μ) (fun _ : Unit => .tuple #[]) (fun _ => tab t m sh sl * bP m ((μ.acc who 2 (10, s, i)).put (10, s, i) 0)) := by
 refine aY (vX _ _ _ _) fun R H h => ?_;unfold tab at h ⊢
 repeat refine ak ‹_› ae rfl ?_
 refine af (by assumption) (dI 10 s i) fun _ _ _ => ?_
 repeat refine aH ‹_› ‹_› rfl ?_
 refine af (by assumption) (t9 m μ who (10, s, i) 0 (by omega)) fun _ _ _ => ?_;exact am ⟨(), rfl, ac.to (by assumption)⟩
def iw (v : Nat) : Value := if v = 0 then .tuple #[vi 0, vi 0, vb false] else .tuple #[vi ((v / 4294967296 : Nat) - 1), vi (v % 4294967296 : Nat), vb true]
theorem BD (hE : μ.N < 1099511627000) (hV : μ.V (10, s, i) < 18446744073709551616) :
 Sp gf [vp t, vi who, vi s, vi i] (tab t m sh sl * bL m μ) (fun _ : Unit => iw (μ.V (10, s, i))) (fun _ => tab t m sh sl * bL m (μ.acc who 1 (10, s, i))) := by
 refine aY (uy _ _ _ _) fun R H h => ?_;unfold tab at h ⊢
 repeat refine ak ‹_› ae rfl ?_
 refine af (by assumption) (ww s i) fun _ _ _ => ?_
 repeat refine aH ‹_› ‹_› rfl ?_
 refine af (by assumption) (Gi m μ who (10, s, i) (by omega)) fun _ _ _ => ?_;refine aa (as1 (b := 0)) ?_;refine ci (fun hc => ?_) (fun hc => ?_)
 ·have hc : μ.V (10, s, i) = 0 := by simpa using hc
  refine am ⟨(), by rw [iw, if_pos hc], ac.to (by assumption)⟩
 ·have hc : ¬ μ.V (10, s, i) = 0 := by simpa using hc
  refine aa (axE) ?_;refine aa (iS (by omega)) ?_;refine aa (bG (by omega) (by omega)) ?_;refine aa (awT hV) ?_;refine aa (iS (by omega)) ?_;refine am ⟨(), by rw [iw, if_neg hc], ac.to (by assumption)⟩
theorem Je (hE : μ.N < 1099511627000) (hV : μ.V (10, s, i) < 18446744073709551616) :
 Sp kA [vp t, vi who, vi s, vi i] (tab t m sh sl * bP m μ) (fun _ : Unit => iw (μ.V (10, s, i))) (fun _ => tab t m sh sl * bP m (μ.acc who 1 (10, s, i))) := by
 refine aY (yD _ _ _ _) fun R H h => ?_;unfold tab at h ⊢
 repeat refine ak ‹_› ae rfl ?_
 refine af (by assumption) (dI 10 s i) fun _ _ _ => ?_
 repeat refine aH ‹_› ‹_› rfl ?_
 refine af (by assumption) (s8 m μ who (10, s, i) (by omega)) fun _ _ _ => ?_;refine aa (as1 (b := 0)) ?_;refine ci (fun hc => ?_) (fun hc => ?_)
 ·have hc : μ.V (10, s, i) = 0 := by simpa using hc
  refine am ⟨(), by rw [iw, if_pos hc], ac.to (by assumption)⟩
 ·have hc : ¬ μ.V (10, s, i) = 0 := by simpa using hc
  refine aa (aw7 hV) ?_;refine aa (iS (by omega)) ?_;refine aa (bG (by omega) (by omega)) ?_;refine aa (aw9) ?_;refine aa (iS (by omega)) ?_;refine am ⟨(), by rw [iw, if_neg hc], ac.to (by assumption)⟩
end
def dP (v n : Int) : Int := (v % 18446744073709551616) % n
theorem eC {v n : Int} (h : 0 < n) : 0 ≤ dP v n ∧ dP v n < n := ⟨Int.emod_nonneg _ (by omega), Int.emod_lt_of_pos _ h⟩
theorem cZ (v n : Int) (h0 : 0 < n) (h1 : n < 9223372036854775808) : Sp bw [vi v, vi n] emp (fun _ : Unit => vi (dP v n)) (fun _ => emp) := by
 refine aY (Po _ _) fun R H h => ?_
 have e1 : cf (some .u64) (vi v) = some (vu (v % 18446744073709551616).toNat) := by
  simp only [cf];rw [Ho];have : 0 ≤ v % 18446744073709551616 := Int.emod_nonneg _ (by omega);show _ = some (Value.int .u64 (((v % 18446744073709551616).toNat : Nat) : Int));rw [Int.toNat_of_nonneg this]
 refine aa (e1) ?_;refine aa (dU (by omega) (by omega)) ?_;refine aa (ka (by omega)) ?_;have hm := eC (v := v) h0
 have e2 : (((v % 18446744073709551616).toNat % n.toNat : Nat) : Int) = dP v n := by
  have : 0 ≤ v % 18446744073709551616 := Int.emod_nonneg _ (by omega);unfold dP;rw [Int.natCast_emod, Int.toNat_of_nonneg this, Int.toNat_of_nonneg (by omega)]
 refine aa (iS (by omega)) ?_;rw [e2];exact am ⟨(), rfl, ac.to (by assumption)⟩
structure iF where
 sh : Int
 sl : Int
 wk : Int
 wd : Int
 un : Nat
abbrev iF.cells (c : iF) : List Value := [vi c.sh, vi c.sl, vi c.wk, vi c.wd, vu c.un]
structure Cl where
 op : Int
 flow : Int
 a : Int
 b : Int
abbrev Cl.cells (x : Cl) : List Value := [vi x.op, vi x.flow, vi x.a, vi x.b]
instance : Enc Cl.cells 4 := ⟨fun _ => rfl, fun _ => rfl, by omega⟩
structure Sv where
 a : Option Addr
 n : Nat
 c : Nat
abbrev Sv.v (s : Sv) : Value := .slice s.a s.n s.c
abbrev axW (s : Sv) : List Value := [.slice s.a s.n s.c]
instance : Enc axW 1 := ⟨fun _ => rfl, fun _ => rfl, by omega⟩
def da (c : iF) : Bool := decide (1 ≤ c.sh ∧ c.sh ≤ 4 ∧ 1 ≤ c.sl ∧ c.sl ≤ 4 ∧ 1 ≤ c.wk ∧ c.wk ≤ 6 ∧ 0 ≤ c.wd ∧ c.wd ≤ 40 ∧ 1 ≤ c.un ∧ c.un ≤ 4611686018427387904)
theorem bQ {c : iF} : da c = true ↔ (1 ≤ c.sh ∧ c.sh ≤ 4 ∧ 1 ≤ c.sl ∧ c.sl ≤ 4 ∧ 1 ≤ c.wk ∧ c.wk ≤ 6 ∧ 0 ≤ c.wd ∧ c.wd ≤ 40 ∧ 1 ≤ c.un ∧ c.un ≤ 4611686018427387904) := by unfold da; exact decide_eq_true_iff
theorem mH {c : iF} (h : ¬ (1 ≤ c.sh ∧ c.sh ≤ 4 ∧ 1 ≤ c.sl ∧ c.sl ≤ 4 ∧ 1 ≤ c.wk ∧ c.wk ≤ 6 ∧ 0 ≤ c.wd ∧ c.wd ≤ 40 ∧ 1 ≤ c.un ∧ c.un ≤ 4611686018427387904)) : da c = false := by unfold da; exact e7 h
theorem hM (x a b : Int) : Sp fP [vi x, vi a, vi b] emp (fun _ : Unit => vb (decide (a ≤ x ∧ x ≤ b))) (fun _ => emp) := by
 refine aY (Ci _ _ _) fun R H h => ?_
 by_cases h1 : a ≤ x
 ·refine aa (xx h1) ?_
  refine gs ?_
  by_cases h2 : x ≤ b
  ·refine aa (O0 h2) ?_
   refine gs ?_;rw [fH ⟨h1, h2⟩];exact am ⟨(), rfl, ac.to (by assumption)⟩
  ·refine aa (OZ h2) ?_
   refine gs ?_;rw [e7 (fun h => h2 h.2)];exact am ⟨(), rfl, ac.to (by assumption)⟩
 ·refine aa (pr h1) ?_
  refine gs ?_;rw [e7 (fun h => h1 h.1)];exact am ⟨(), rfl, ac.to (by assumption)⟩
theorem O7 (c : iF) : Sp oP [.agg (iF.cells c).toArray] emp (fun _ : Unit => vb (da c)) (fun _ => emp) := by
 refine aY (Gb _) fun R H h => ?_;refine aS h fun b H1 h1 => ?_;refine ak h1 aB rfl ?_;refine af h1 (hM c.sh 1 4) fun _ K0 k0 => ?_
 by_cases g0 : (1 : Int) ≤ c.sh ∧ c.sh ≤ 4
 case neg =>
  rw [e7 g0];refine gs ?_;rw [mH (by omega)];exact am ⟨(), rfl, ac.to (by assumption)⟩
 rw [fH g0];refine gs ?_;refine ak k0 aB rfl ?_;refine gs ?_;refine af k0 (hM c.sl 1 4) fun _ K1 k1 => ?_
 by_cases g1 : (1 : Int) ≤ c.sl ∧ c.sl ≤ 4
 case neg =>
  rw [e7 g1];refine gs ?_;rw [mH (by omega)];exact am ⟨(), rfl, ac.to (by assumption)⟩
 rw [fH g1];refine gs ?_;refine ak k1 aB rfl ?_;refine gs ?_;refine af k1 (hM c.wk 1 6) fun _ K2 k2 => ?_
 by_cases g2 : (1 : Int) ≤ c.wk ∧ c.wk ≤ 6
 case neg =>
  rw [e7 g2];refine gs ?_;rw [mH (by omega)];exact am ⟨(), rfl, ac.to (by assumption)⟩
 rw [fH g2];refine gs ?_;refine ak k2 aB rfl ?_;refine gs ?_;refine af k2 (hM c.wd 0 40) fun _ K3 k3 => ?_
 by_cases g3 : (0 : Int) ≤ c.wd ∧ c.wd ≤ 40
 case neg =>
  rw [e7 g3];refine gs ?_;rw [mH (by omega)];exact am ⟨(), rfl, ac.to (by assumption)⟩
 rw [fH g3];refine gs ?_;refine ak k3 aB rfl ?_;refine gs ?_
 by_cases g4 : (1 : Int) ≤ c.un
 case neg =>
  refine aa (pr g4) ?_;refine gs ?_;rw [mH (by omega)];exact am ⟨(), rfl, ac.to (by assumption)⟩
 refine aa (xx g4) ?_;refine gs ?_;refine ak k3 aB rfl ?_;refine gs ?_
 by_cases g5 : (c.un : Int) ≤ 4611686018427387904
 case neg =>
  refine aa (OZ g5) ?_;refine gs ?_;rw [mH (by omega)];exact am ⟨(), rfl, ac.to (by assumption)⟩
 refine aa (O0 g5) ?_;refine gs ?_;rw [bQ.2 (by omega)];exact am ⟨(), rfl, ac.to (by assumption)⟩
theorem Hn (w : Int) : Sp qA [vi w] emp (fun x : Int => vi x) (fun _ => emp) := by
 refine aY (Ie _) fun R H h => ?_;refine aa (lR) ?_;refine aa (lS) ?_;exact am ⟨_, rfl, h⟩
theorem aeT (w : Int) : Sp sP [vi w] emp (fun b : Nat => vp b) (fun _ => emp) := by
 refine aY (Na _) fun R H h => ?_;refine af h (Hn w) fun x H1 h1 => ?_;refine zg h1 fun mb H2 h2 => ?_;refine Ql rfl ?_;refine aS h2 fun b H3 h3 => ?_;exact am ⟨b, rfl, h3.to⟩
theorem ak0 : Sp vE [] emp (fun b : Nat => vp b) (fun _ => emp) := by
 refine aY OL fun R H h => ?_;refine zg h fun mb H2 h2 => ?_;refine jq ?_;refine aS h2 fun b H3 h3 => ?_;exact am ⟨b, rfl, h3.to⟩
theorem ad5 (w : Int) : Sp sN [vi w] emp (fun b : Nat => vp b) (fun _ => emp) := by
 refine aY (M3 _) fun R H h => ?_;refine af h (aeT w) fun x H1 h1 => ?_;refine af h1 ak0 fun y H2 h2 => ?_;refine jq ?_;refine aS h2 fun b H3 h3 => ?_;exact am ⟨b, rfl, h3.to⟩
theorem amI (m : Nat) (s : Int) : Sp vH [vp m, vi s] emp (fun b : Nat => vp b) (fun _ => emp) := by
 refine aY (Ps _ _) fun R H h => ?_;refine aa (lR) ?_;refine aa (lS) ?_;refine zg h fun mb H2 h2 => ?_;refine zg h2 fun mc H3 h3 => ?_;refine jq ?_;refine aS h3 fun b H4 h4 => ?_;exact am ⟨b, rfl, h4.to⟩
structure Lf where
 k : Int
 i : Int
 b : Bool
abbrev Lf.cells (x : Lf) : List Value := [vw x.k, vi x.i, vb x.b]
instance : Enc Lf.cells 3 := ⟨fun _ => rfl, fun _ => rfl, by omega⟩
def Hc (t : Nat) (lv : Value) (s : Nat) (nv : Value) (m : List Int) : SP := blk t (.cells false [lv, vi s, nv]) * ts 1 eF nv m
theorem aoL (n : Int) : Sp vK [vi n] emp (fun b : Nat => vp b) (fun _ => emp) := by
 refine aY (Qd _) fun R H h => ?_;refine aa (lR) ?_;refine aa (lS) ?_;obtain ⟨k, hk⟩ : ∃ k : Nat, min (max n 1) 16 = k := ⟨(min (max n 1) 16).toNat, by omega⟩;rw [hk]
 have hk1 : 1 ≤ k := by omega
 have hk16 : k ≤ 16 := by omega
 refine M7 (enc := Lf.cells) (⟨0, 0, false⟩ : Lf) h rfl (by unfold dc; omega) (by omega) fun lb H1 h1 => ?_;refine jq ?_;refine aS h1 fun t H2 h2 => ?_;refine ah (He _ _ _ H2) ?_
 -- the nodes
 have nodes : ∀ (s : Nat) (H : AH), s ≤ 32 → ac (Hc t (vs lb k 3) s (.slice none 0 0) [] * R) H → wp (tm (.pointer none) (vp t) H) fun v' H' => ∃ b : Nat, v' = vp b ∧ ac (emp * R) H' := by
  intro s H hs h;refine ah (Hf _ _ H) ?_;unfold Hc at h;refine ak h ae rfl ?_;refine aa (j9 (by omega) (by omega)) ?_;refine ah (Hh _ _ _ _ H) ?_
  have loop : ∀ (d i : Nat) (nv : Value) (m : List Int) (H : AH), i + d = 2 * s → m.length = i → ac (blk t (.cells false [vs lb k 3, vi s, nv]) * ts 1 eF nv m * R) H → wp (oD (.pointer none) (vp t) (vi (2 * (s : Int))) (vi i) H) fun v' H' => ∃ b : Nat, v' = vp b ∧ ac (emp * R) H' := by
   intro d
   induction d with
   | zero =>
    intro i nv m H hi hm h;refine ah (tn _ _ _ _ H) ?_;refine aa (bE (by omega)) ?_;refine gs ?_;refine ah (AK _ _ H) ?_;refine ah (Hg _ _ H) ?_;exact am ⟨t, rfl, h.to⟩
   | succ d ih =>
    intro i nv m H hi hm h;refine ah (tn _ _ _ _ H) ?_;refine aa (bS (by omega)) ?_;refine gs ?_;refine ah (Hi _ _ _ _ H) ?_;refine ak h ae rfl ?_;refine Qi h fun b0 H3 h3 => ?_;refine gY (-1 : Int) h3 rfl ?_ (by omega) fun a c H4 h4 => ?_
    ·unfold dc; omega
    refine bg h4 ae rfl rfl fun H5 h5 => ?_;refine ah (Hj _ _ _ _ H5) ?_;refine aa (aE (by omega) (by omega)) ?_;refine ih (i + 1) (.slice a (m.length + 1) c) (m ++ [-1]) H5 (by omega) (by simp; omega) h5.to
  exact loop (2 * s) 0 (.slice none 0 0) [] H (by omega) rfl h
 -- the size
 have size : ∀ (d s : Nat) (H : AH), 16 ≤ s + d → 1 ≤ s → s ≤ 32 → ac (Hc t (vs lb k 3) s (.slice none 0 0) [] * R) H → wp (mo (vi k) (.pointer none) (vp t) H) fun v' H' => ∃ b : Nat, v' = vp b ∧ ac (emp * R) H' := by
  intro d
  induction d with
  | zero =>
   intro s H hd hs1 hs h;refine ah (rq _ _ _ H) ?_;have h' := h;unfold Hc at h';refine ak h' ae rfl ?_;refine aa (bE (by omega)) ?_;refine gs ?_;refine ah (oC _ _ H) ?_;exact nodes s H hs h
  | succ d ih =>
   intro s H hd hs1 hs h;refine ah (rq _ _ _ H) ?_;have h' := h;unfold Hc at h';refine ak h' ae rfl ?_
   by_cases hlt : (s : Int) < k
   ·refine aa (bS hlt) ?_
    refine gs ?_;refine ah (CR _ _ _ H) ?_;refine ak h' ae rfl ?_;refine aa (j9 (by omega) (by omega)) ?_;refine bg h' ae rfl rfl fun H3 h3 => ?_;refine ih (s * 2) H3 (by omega) (by omega) (by omega) ?_;unfold Hc;rw [show (((s * 2 : Nat) : Int)) = (s : Int) * 2 from by omega];exact h3.to
   ·refine aa (bE hlt) ?_
    refine gs ?_;refine ah (oC _ _ H) ?_;exact nodes s H hs h
 refine size 16 1 H2 (by omega) (by omega) (by omega) ?_;unfold Hc;have h3 := dZ 1 eF h2;exact h3.to
abbrev nK (b : Nat) : List Value := [vp b]
instance : Enc nK 1 := ⟨fun _ => rfl, fun _ => rfl, by omega⟩
theorem acP (n w : Int) : Sp sL [vi n, vi w] emp (fun b : Nat => vp b) (fun _ => emp) := by
 refine aY (Mi _ _) fun R H h => ?_;refine aa (lR) ?_;refine aa (lS) ?_;obtain ⟨k, hk⟩ : ∃ k : Nat, min (max n 1) 16 = k := ⟨(min (max n 1) 16).toNat, by omega⟩;rw [hk]
 have hk16 : k ≤ 16 := by omega
 refine af h (aoL k) fun tb H1 h1 => ?_;refine jq ?_;refine aS h1 fun q H2 h2 => ?_;refine ah (Cp _ _ _ _ H2) ?_;refine ah (Cr _ _ _ _ _ H2) ?_
 have loop : ∀ (d i : Nat) (nv : Value) (m : List Nat) (H : AH), i + d = k → m.length = i → ac (blk q (.cells false [nv, vp tb]) * ts 1 nK nv m * R) H → wp (ml (vi w) (.pointer none) (vp q) (vi k) (vi i) H) fun v' H' => ∃ b : Nat, v' = vp b ∧ ac (emp * R) H' := by
  intro d
  induction d with
  | zero =>
   intro i nv m H hi hm h;refine ah (q7 _ _ _ _ _ H) ?_;refine aa (bE (by omega)) ?_;refine gs ?_;refine ah (yp _ _ H) ?_;refine ah (Cq _ _ H) ?_;exact am ⟨q, rfl, h.to⟩
  | succ d ih =>
   intro i nv m H hi hm h;refine ah (q7 _ _ _ _ _ H) ?_;refine aa (bS (by omega)) ?_;refine gs ?_;refine ah (Cs _ _ _ _ _ H) ?_;refine bD ae ?_;refine aN h rfl ?_;refine af h (ad5 w) fun sb H3 h3 => ?_;refine aH h3 h rfl ?_;refine Qi h3 fun b0 H4 h4 => ?_;refine gY (sb : Nat) h4 rfl ?_ (by omega) fun a c H5 h5 => ?_
   ·unfold dc; omega
   refine bg h5 ae rfl rfl fun H6 h6 => ?_;refine ah (Ct _ _ _ _ _ H6) ?_;refine aa (aE (by omega) (by omega)) ?_;exact ih (i + 1) (.slice a (m.length + 1) c) (m ++ [sb]) H6 (by omega) (by simp; omega) h6.to
 refine loop k 0 (.slice none 0 0) [] H2 (by omega) rfl ?_;have h3 := dZ 1 nK h2;exact h3.to
theorem af8 (c : iF) : Sp vC [.agg (iF.cells c).toArray] emp (fun b : Nat => vp b) (fun _ => emp) := by
 refine aY (NJ _) fun R H h => ?_;refine aS h fun cb H1 h1 => ?_;refine ak h1 aB rfl ?_;refine ak h1 aB rfl ?_;refine af h1 (acP c.sh c.wd) fun q H2 h2 => ?_;refine zg h2 fun mb H3 h3 => ?_;refine zg h3 fun mc H4 h4 => ?_;refine jq ?_;refine aS h4 fun b H5 h5 => ?_;exact am ⟨b, rfl, h5.to⟩
theorem TH {cl : TCls} {w : Nat} (n : Nat) (h : n ≠ 0) : ai cl .rem (vu w) (.int .u64 (n : Int)) = some (vu (w % n)) := ka h
theorem Ef (b b2 : Nat) (c : iF) (u : Nat) (hu : 1 ≤ u ∧ u ≤ 4611686018427387904) {R : SP} {H : AH} (h : ac (blk b2 (.cells false [vi 0, vi 0, vi 0, vi 0, vw 0]) * (blk b (.cells false (iF.cells c)) * R)) H) :
 wp (jT (vp b) (vp b2) (vu u) H) fun v' H' => ∃ c' : iF, v' = .agg (iF.cells c').toArray ∧ ac (pu (da c' = true) * R) H' := by
 refine ah (yo _ _ _ H) ?_;refine ak h aB rfl ?_;refine af h (cZ c.sh 4 (by omega) (by omega)) fun _ H1 h1 => ?_;have m1 := eC (v := c.sh) (n := 4) (by omega);refine aa (aE (by omega) (by omega)) ?_;refine bD aB ?_;refine aN h1 rfl ?_;refine aH h h1 rfl ?_;refine af h1 (cZ c.sl 4 (by omega) (by omega)) fun _ H2 h2 => ?_;have m2 := eC (v := c.sl) (n := 4) (by omega);refine aa (aE (by omega) (by omega)) ?_;refine bD aB ?_;refine aN h2 rfl ?_;refine aH h h2 rfl ?_;refine aH h1 h2 rfl ?_;refine af h2 (cZ c.wk 6 (by omega) (by omega)) fun _ H3 h3 => ?_;have m3 := eC (v := c.wk) (n := 6) (by omega);refine aa (aE (by omega) (by omega)) ?_;refine bD aB ?_;refine aN h3 rfl ?_;refine aH h h3 rfl ?_;refine aH h1 h3 rfl ?_;refine aH h2 h3 rfl ?_;refine af h3 (cZ c.wd 12 (by omega) (by omega)) fun _ H4 h4 => ?_;have m4 := eC (v := c.wd) (n := 12) (by omega);refine jq ?_;refine eM h4 rfl rfl fun H5 h5 => ?_;refine aR h5 ?_;refine am ⟨⟨1 + dP c.sh 4, 1 + dP c.sl 4, 1 + dP c.wk 6, dP c.wd 12, u⟩, rfl, ?_⟩;exact ac.pu.2 ⟨bQ.2 (by dsimp only; omega), h5.to⟩
theorem Pp (c : iF) : Sp oQ [.agg (iF.cells c).toArray] emp (fun c' : iF => .agg (iF.cells c').toArray) (fun c' => pu (da c' = true)) := by
 refine aK fun R H h => ?_;rw [g7] at h;refine bj (fun r => Gk _ H) ?_;refine aS h fun b H1 h1 => ?_;refine bo h1 fun b2 H2 h2 => ?_;refine ak h2 aB rfl ?_;refine aa (TH 5000 (by omega)) ?_;refine aa (gr (a := 1) (by omega)) ?_;refine ah (yn _ _ _ H2) ?_;refine ak h2 aB rfl ?_;refine aa (TH 4 (by omega)) ?_;refine aa (fB) ?_;refine ci (fun _ => ?_) (fun _ => ?_)
 ·refine ak h2 aB rfl ?_
  refine aa (TH 4611686018427387904 (by omega)) ?_;have hm := Nat.mod_lt c.un (show 4611686018427387904 > 0 by omega)
  generalize c.un % 4611686018427387904 = u at hm
  refine aa (gr (a := 1) (by omega)) ?_;exact Ef b b2 c _ (by omega) h2
 ·have hm := Nat.mod_lt c.un (show 5000 > 0 by omega)
  exact Ef b b2 c _ (by omega) h2
section
variable {R : SP} {H : AH}
theorem af3 {b2 b3 : Nat} {y y2 : Cl} {P : SP} (h : ac (blk b3 (.cells false (Cl.cells y)) * (blk b2 (.cells false (Cl.cells y2)) * P)) H) : wp (du (vp b2) (vp b3) H) fun v' H' => ∃ y : Cl, v' = .agg (Cl.cells y).toArray ∧ ac P H' := by
 refine ah (Cm _ _ H) ?_;refine aR h ?_;refine eM h rfl rfl fun H2 h2 => ?_;refine aR h2 ?_;exact am ⟨y, rfl, h2.to⟩
end
theorem acN (x : Cl) : Sp sK [.agg (Cl.cells x).toArray] emp (fun y : Cl => .agg (Cl.cells y).toArray) (fun _ => emp) := by
 refine aK fun R H h => ?_;rw [g7] at h;refine bj (fun r => Mh _ H) ?_;refine aS h fun b1 H1 h1 => ?_;refine bo h1 fun b2 H2 h2 => ?_;refine ak h2 aB rfl ?_;refine af h2 (cZ x.flow 23 (by omega) (by omega)) fun _ H3 h3 => ?_;simp only [g7];refine aa (fB) ?_;refine ci (fun _ => ?_) (fun _ => ?_)
 ·refine aR h3 ?_
  refine eM h3 rfl rfl fun H4 h4 => ?_;refine aR h4 ?_;exact am ⟨x, rfl, h4.to⟩
 refine ak h3 aB rfl ?_;refine af h3 (cZ x.flow 5 (by omega) (by omega)) fun _ H4 h4 => ?_;refine jq ?_;refine bo h4 fun b3 H5 h5 => ?_;refine eM h5 rfl rfl fun H6 h6 => ?_
 -- what each kind ends with
 have fin : ∀ (y : Cl) {H7 : AH}, ac (blk b3 (.cells false (Cl.cells y)) * (blk b2 (.cells false (Cl.cells ⟨0, 0, 0, 0⟩)) * R)) H7 → wp (du (vp b2) (vp b3) H7) fun v' H' => ∃ y : Cl, v' = .agg (Cl.cells y).toArray ∧ ac R H' := fun y {H7} h7 => af3 (y2 := ⟨0, 0, 0, 0⟩) h7;refine ah (Ck _ _ _ H6) ?_;refine ak h6 aB rfl ?_;refine af h6 (cZ x.op 10 (by omega) (by omega)) fun _ H7 h7 => ?_
 generalize dP x.op 10 = o
 refine ah (Cn _ _ _ _ H7) ?_;refine aa (fB) ?_;refine ah (Co _ _ _ _ _ H7) ?_;refine ci (fun _ => ?_) (fun _ => ?_)
 ·refine ak h7 aB rfl ?_
  refine af h7 (cZ x.a 5 (by omega) (by omega)) fun _ H8 h8 => ?_;have m1 := eC (v := x.a) (n := 5) (by omega);refine aa (aE (by omega) (by omega)) ?_;refine bD aB ?_;refine aN h8 rfl ?_;refine aH h7 h8 rfl ?_;refine af h8 (cZ x.b 3 (by omega) (by omega)) fun _ H9 h9 => ?_;have m2 := eC (v := x.b) (n := 3) (by omega);refine aa (aE (by omega) (by omega)) ?_;refine bg h9 aB rfl rfl fun H10 h10 => ?_;refine bg h10 aB rfl rfl fun H11 h11 => ?_;refine bg h11 aB rfl rfl fun H12 h12 => ?_;exact fin ⟨1, dP x.flow 5, 1 + dP x.a 5, 1 + dP x.b 3⟩ h12.to
 refine aa (fB) ?_;refine ah (Ad _ _ _ _ _ H7) ?_;refine ci (fun _ => ?_) (fun _ => ?_)
 ·refine bg h7 aB rfl rfl fun H8 h8 => ?_
  exact fin ⟨2, dP x.flow 5, 0, 0⟩ h8.to
 have tail : ∀ q : Bool, wp (kU (vp b1) (vp b2) (vp b3) (vi o) (vb q) H7) fun v' H' => ∃ y : Cl, v' = .agg (Cl.cells y).toArray ∧ ac R H' := by
  intro q;refine ah (Ae _ _ _ _ _ H7) ?_;refine ci (fun _ => ?_) (fun _ => ?_)
  ·refine jq ?_
   refine eM h7 rfl rfl fun H8 h8 => ?_;exact fin ⟨4, 0, 0, 0⟩ h8.to
  refine aa (fB) ?_;refine ci (fun _ => ?_) (fun _ => ?_)
  ·refine ak h7 aB rfl ?_
   refine af h7 (cZ x.a 6 (by omega) (by omega)) fun _ H8 h8 => ?_;refine jq ?_;refine eM h8 rfl rfl fun H9 h9 => ?_;exact fin ⟨5, 0, dP x.a 6, 0⟩ h9.to
  refine aa (fB) ?_;refine ci (fun _ => ?_) (fun _ => ?_)
  ·refine jq ?_
   refine eM h7 rfl rfl fun H8 h8 => ?_;exact fin ⟨6, 0, 0, 0⟩ h8.to
  refine ak h7 aB rfl ?_;refine af h7 (cZ x.a 9 (by omega) (by omega)) fun _ H8 h8 => ?_;have m1 := eC (v := x.a) (n := 9) (by omega);refine aa (aE (by omega) (by omega)) ?_;refine bD aB ?_;refine aN h8 rfl ?_;refine aH h7 h8 rfl ?_;refine af h8 (cZ x.b 1000 (by omega) (by omega)) fun _ H9 h9 => ?_;refine bg h9 aB rfl rfl fun H10 h10 => ?_;refine bg h10 aB rfl rfl fun H11 h11 => ?_;refine bg h11 aB rfl rfl fun H12 h12 => ?_;refine ak h12 aB rfl ?_;refine af h12 (cZ x.a 13 (by omega) (by omega)) fun _ H13 h13 => ?_;refine aa (fB) ?_;refine ci (fun _ => ?_) (fun _ => ?_)
  ·refine ak h13 aB rfl ?_
   refine af h13 (cZ x.a 65536 (by omega) (by omega)) fun _ H14 h14 => ?_;have m2 := eC (v := x.a) (n := 65536) (by omega);refine aa (aE (by omega) (by omega)) ?_;refine bg h14 aB rfl rfl fun H15 h15 => ?_;exact fin ⟨3, dP x.flow 5, 1 + dP x.a 65536, dP x.b 1000⟩ h15.to
  ·exact fin ⟨3, dP x.flow 5, 1 + dP x.a 9, dP x.b 1000⟩ h13.to
 refine aa (fB) ?_;refine ci (fun _ => tail _) (fun _ => ?_);refine aa (fB) ?_;exact tail _
structure Pk where
 flow : Int
 len : Int
 mark : Int
abbrev Pk.cells (x : Pk) : List Value := [vi x.flow, vi x.len, vi x.mark]
instance : Enc Pk.cells 3 := ⟨fun _ => rfl, fun _ => rfl, by omega⟩
structure Ob where
 flow : Int
 most : Int
 r : Nat
structure Pt where
 step : Int
 who : Int
 place : Int
 e : Int
abbrev ip (e : Int) : List Value := [vi e, .slice none 0 0, vi 0, vw 0]
abbrev Pt.cells (x : Pt) : List Value := [vi x.step, vi x.who, vi x.place, vi x.e, .slice none 0 0, vi 0, vw 0]
instance : Enc Pt.cells 7 := ⟨fun _ => rfl, fun _ => rfl, by omega⟩
structure bd where
 c : iF
 μ : Mu
 obs : List (Ob × List Pk)
 nx : Int → Option Nat
 places : Int → Option Int
 pts : List Pt
def eI (n : Int) : Nat := (min (max n 1) 8).toNat
theorem t3 (n : Int) : 1 ≤ eI n ∧ eI n ≤ 8 ∧ (eI n : Int) = min (max n 1) 8 := by unfold eI; omega
abbrev Nh : Pk := ⟨0, 0, 0⟩
abbrev Qz (k : Int) : Value := vi k
instance : KeyE .int Qz where
 eq a b := by
  simp only [lk, Qz, if_true]
  congr 1
 ok a := rfl
def cK (m i rp : Nat) (cs : List Pk) : SP := ex fun cv : Value => blk rp (.cells false [vp m, vi i, cv]) * ts 3 Pk.cells cv cs
def nC (m : Nat) : Nat → List (Nat × List Pk) → SP
 | _, [] => emp
 | i, p :: ps => cK m i p.1 p.2 * nC m (i + 1) ps
theorem Bw (m : Nat) : ∀ (ps : List (Nat × List Pk)) (i : Nat) (q : Nat × List Pk), nC m i (ps ++ [q]) = nC m i ps * cK m (i + ps.length) q.1 q.2 := by
 intro ps
 induction ps with
 | nil => intro i q; show cK m i q.1 q.2 * emp = emp * cK m (i + 0) q.1 q.2; rw [dY, g7]; rfl
 | cons p ps ih =>
  intro i q;show cK m i p.1 p.2 * nC m (i + 1) (ps ++ [q]) = cK m i p.1 p.2 * nC m (i + 1) ps * _;rw [ih, aj, List.length_cons, show i + 1 + ps.length = i + (ps.length + 1) from by omega]
abbrev NR (x : Ob × Nat) : List Value := [vi x.1.flow, vi x.1.most, vu x.1.r, vp x.2]
instance : Enc NR 4 := ⟨fun _ => rfl, fun _ => rfl, by omega⟩
structure PIds where
 m : Nat
 ib : Nat
 tb : Nat
 po : Nat
 co : Nat
 ov : Value
 pm : Nat
 pv : Value
 nm : Nat
 rp : List Nat
def me (ib m nm : Nat) (c : iF) (nx : Int → Option Nat) : SP :=
 blk ib (.cells false [vp m, vi c.sh, .map (some nm), .func (.func bI) #[vi 9] #[], .func (.func bI) #[vi 14] #[]]) * mpS Qz nm (fun k => (nx k).map fun n => vu n)
def az (p : Nat) (g : PIds) (σ : bd) : SP :=
 blk p (.cells false [vp g.m, vp g.ib, vp g.tb, vp g.po, vp g.co, vi σ.c.sh, vi σ.c.sl, vi σ.c.wk, vi σ.c.wd, vu σ.c.un, g.ov, .map (some g.pm), g.pv]) *
 (bL g.m σ.μ * (me g.ib g.m g.nm σ.c σ.nx * (tab g.tb g.m σ.c.sh.toNat σ.c.sl.toNat * (ts 4 NR g.ov ((σ.obs.map fun x => x.1).zip g.rp) * (nC g.m 0 (g.rp.zip (σ.obs.map fun x => x.2)) *
 (mpS Qz g.pm (fun k => (σ.places k).map fun n => vi n) * ts 7 Pt.cells g.pv σ.pts))))))
def gy (p : Nat) (σ : bd) : SP := ex fun g : PIds => pu (g.rp.length = σ.obs.length) * az p g σ
theorem ou {p : Nat} {σ : bd} {R : SP} {H : AH} (h : ac (gy p σ * R) H) : ∃ g : PIds, g.rp.length = σ.obs.length ∧ ac (az p g σ * R) H := by
 obtain ⟨g, h1⟩ := ac.ex.1 h;rw [aj, ac.pu] at h1;exact ⟨g, h1⟩
theorem qD {p : Nat} {σ : bd} {R : SP} {H : AH} (g : PIds) (hl : g.rp.length = σ.obs.length) (h : ac (az p g σ * R) H) : ac (gy p σ * R) H :=
 ac.ex.2 ⟨g, by rw [aj]; exact ac.pu.2 ⟨hl, h⟩⟩
abbrev bd.new (c : iF) : bd := ⟨c, ⟨fun _ => 0, [], 0⟩, [], fun _ => none, fun _ => none, []⟩
theorem alH : Sp z8 [] emp (fun b : Nat => vp b) (fun b => bL b ⟨fun _ => 0, [], 0⟩) := by
 refine aY SN fun R H h => ?_;refine zg h fun mb H2 h2 => ?_;refine jq ?_;refine aS h2 fun b H3 h3 => ?_;refine am ⟨b, rfl, ac.ex.2 ⟨(mb, .slice none 0 0, [], [], 0), ?_⟩⟩;rw [aj, ac.pu];refine ⟨⟨.nil, fun _ => rfl, bA _⟩, ?_⟩;have := Yo 5 h3;show ac (blk b (.cells false [.map (some mb), .slice none 0 0]) * (blk mb (.map [] 0) * sl 5 (.slice none 0 0) 0 []) * R) H3;exact this.to
theorem SF (m : Nat) (c : iF) (hc : da c = true) : Sp sH [vp m, vi c.sh] emp (fun b : Nat => vp b) (fun b => ex fun nm : Nat => me b m nm c fun _ => none) := by
 have hc := bQ.1 hc;refine aY (LR _ _) fun R H h => ?_;refine aa (lR) ?_;refine aa (lS) ?_;rw [show min (max c.sh 1) 4 = c.sh from by omega];refine zg h fun mb H2 h2 => ?_;refine jq ?_;refine aS h2 fun b H3 h3 => ?_;refine am ⟨b, rfl, ac.ex.2 ⟨mb, ?_⟩⟩;unfold me;have h4 : ac (blk mb (.map [] 0) * (blk b (.cells false [vp m, vi c.sh, .map (some mb), .func (.func bI) #[vi 9] #[], .func (.func bI) #[vi 14] #[]]) * (emp * R))) H3 := h3.to;have h5 := Xs Qz h4;show ac (blk b (.cells false [vp m, vi c.sh, .map (some mb), .func (.func bI) #[vi 9] #[], .func (.func bI) #[vi 14] #[]]) * mpS Qz mb (fun _ => none) * R) H3;exact h5.to
theorem Uy (m : Nat) (c : iF) (hc : da c = true) : Sp sO [vp m, vi c.sh, vi c.sl] emp (fun b : Nat => vp b) (fun b => tab b m c.sh.toNat c.sl.toNat) := by
 have hc := bQ.1 hc;refine aY (M6 _ _ _) fun R H h => ?_;refine aa (lR) ?_;refine aa (lS) ?_;refine aa (lR) ?_;refine aa (lS) ?_;rw [show min (max c.sh 1) 4 = ((c.sh.toNat : Nat) : Int) from by omega, show min (max c.sl 1) 4 = ((c.sl.toNat : Nat) : Int) from by omega];refine jq ?_;refine aS h fun b H3 h3 => ?_;exact am ⟨b, rfl, by unfold tab; exact h3.to⟩
theorem S8 (c : iF) (hc : da c = true) : Sp sJ [.agg (iF.cells c).toArray] emp (fun b : Nat => .tuple #[vp b, vi 0]) (fun b => gy b (bd.new c)) := by
 refine aY (Me _) fun R H h => ?_;refine aS h fun cb H1 h1 => ?_;refine aR h1 ?_;refine af h1 (O7 c) fun _ H2 h2 => ?_;rw [hc];refine gs ?_;rw [Bool.not_true];refine gs ?_;refine af h2 alH fun m H3 h3 => ?_;refine ak h3 aB rfl ?_;refine af h3 (SF m c hc) fun ib H4 h4 => ?_;obtain ⟨nm, h4b⟩ := ac.ex.1 h4;refine bD aB ?_;refine aN h4b rfl ?_;refine aH h3 h4b rfl ?_;refine bD aB ?_;refine aN h4b rfl ?_;refine aH h3 h4b rfl ?_;refine af h4b (Uy m c hc) fun tb H5 h5 => ?_;refine bD aB ?_;refine aN h5 rfl ?_;refine aH h3 h5 rfl ?_;refine aH h4b h5 rfl ?_;refine af h5 (amI m c.wk) fun pb H6 h6 => ?_;refine aR h6 ?_;refine dB h3 h6 rfl ?_;refine dB h4b h6 rfl ?_;refine dB h5 h6 rfl ?_;refine af h6 (af8 c) fun kb H7 h7 => ?_;refine aR h7 ?_;refine dB h3 h7 rfl ?_;refine dB h4b h7 rfl ?_;refine dB h5 h7 rfl ?_;refine dB h6 h7 rfl ?_;refine zg h7 fun mb H8 h8 => ?_;refine jq ?_;refine aS h8 fun b H9 h9 => ?_;refine am ⟨b, rfl, ?_⟩;refine qD ⟨m, ib, tb, pb, kb, .slice none 0 0, mb, .slice none 0 0, nm, []⟩ rfl ?_;have h10 := dZ 4 NR (dZ 7 Pt.cells h9);have h11 : ac (blk mb (.map [] 0) * (ts 4 NR (.slice none 0 0) [] * (ts 7 Pt.cells (.slice none 0 0) [] * (blk b (.cells false [vp m, vp ib, vp tb, vp pb, vp kb, vi c.sh, vi c.sl, vi c.wk, vi c.wd, vu c.un, .slice none 0 0, .map (some mb), .slice none 0 0]) * (bL m ⟨fun _ => 0, [], 0⟩ * (me ib m nm c (fun _ => none) * (tab tb m c.sh.toNat c.sl.toNat * (emp * R)))))))) H9 := h10.to;have h12 := Xs Qz h11;show ac (blk b (.cells false [vp m, vp ib, vp tb, vp pb, vp kb, vi c.sh, vi c.sl, vi c.wk, vi c.wd, vu c.un, .slice none 0 0, .map (some mb), .slice none 0 0]) * (bL m ⟨fun _ => 0, [], 0⟩ * (me ib m nm c (fun _ => none) * (tab tb m c.sh.toNat c.sl.toNat * (ts 4 NR (.slice none 0 0) [] * (emp * (mpS Qz mb (fun _ => none) * ts 7 Pt.cells (.slice none 0 0) [])))))) * R) H9;exact h12.to
section
variable (p : Nat) (σ : bd)
theorem PI (m i : Nat) (most : Int) : Sp vJ [vp m, vi i, vi most] emp (fun b : Nat => vp b) (fun b => cK m i b (List.replicate (eI most) Nh)) := by
 obtain ⟨q1, q2, q3⟩ := t3 most;refine aY (PH _ _ _) fun R H h => ?_;refine aa (lR) ?_;refine aa (lS) ?_;rw [← q3];refine M7 (enc := Pk.cells) Nh h rfl (by unfold dc; omega) (by omega) fun cb H1 h1 => ?_;refine jq ?_;refine aS h1 fun b H2 h2 => ?_;refine am ⟨b, rfl, ?_⟩;unfold cK;exact ac.ex.2 ⟨vs cb (eI most) 3, h2.to⟩
abbrev bd.make (σ : bd) (who : Int) (o : Ob) : bd := { σ with μ := σ.μ.acc who 6 (13, σ.obs.length, 0), obs := σ.obs ++ [(o, List.replicate (eI o.most) Nh)] }
theorem S7 (who : Int) (o : Ob) (hE : σ.μ.N < 1099511627000) (ho : σ.obs.length < 1000000) : Sp ee [vp p, vi who, .agg (#[vi o.flow, vi o.most, vu o.r] : Array Value)] (gy p σ) (fun _ : Unit => vi σ.obs.length) (fun _ => gy p (σ.make who o)) := by
 refine aK fun R H h => ?_;obtain ⟨g, hg, h0⟩ := ou h
 have hz : ((σ.obs.map fun x => x.1).zip g.rp).length = σ.obs.length := by simp [hg]
 unfold az at h0;refine bj (fun r => lV _ _ _ H) ?_;refine aS (l := [vi o.flow, vi o.most, vu o.r]) h0 fun ob H1 h1 => ?_;refine ak h1 ae rfl ?_;refine oW (s := g.ov) h1 ?_;rw [hz];refine ak h1 ae rfl ?_;refine jq ?_;refine af h1 ((tZ g.m σ.μ who (13, σ.obs.length, 0) (by omega)).imp fun _ R H h => jD (N' := σ.μ.N + 2) (by simp) h) fun _ H2 h2 => ?_;refine bD ae ?_;refine aN h2 rfl ?_;refine aR h2 ?_;refine ak h2 ae rfl ?_;refine ak h2 aB rfl ?_;refine af h2 (PI g.m σ.obs.length o.most) fun rb H3 h3 => ?_;refine aH h3 h2 rfl ?_;refine dB h3 h2 rfl ?_;refine jq ?_;refine Qi h3 fun b0 H4 h4 => ?_;refine gY ((o, rb) : Ob × Nat) h4 rfl ?_ (by omega) fun a cc H5 h5 => ?_
 ·unfold dc; omega
 refine bg h5 ae rfl rfl fun H6 h6 => ?_;refine am ⟨(), rfl, ?_⟩;refine qD { g with ov := .slice a (((σ.obs.map fun x => x.1).zip g.rp).length + 1) cc, rp := g.rp ++ [rb] } (by simp [bd.make, hg]) ?_;unfold az bd.make;dsimp only
 have e1 : ((σ.obs ++ [(o, List.replicate (eI o.most) Nh)]).map fun x => x.1).zip (g.rp ++ [rb]) = ((σ.obs.map fun x => x.1).zip g.rp) ++ [(o, rb)] := by
  rw [HN, List.zip_append (by simp [hg])]
  rfl
 have e2 : (g.rp ++ [rb]).zip ((σ.obs ++ [(o, List.replicate (eI o.most) Nh)]).map fun x => x.2) = (g.rp.zip (σ.obs.map fun x => x.2)) ++ [(rb, List.replicate (eI o.most) Nh)] := by
  rw [HN, List.zip_append (by simp [hg])]
  rfl
 have e3 : 0 + (g.rp.zip (σ.obs.map fun x => x.2)).length = σ.obs.length := by simp [hg]
 rw [e1, e2, Bw, e3];exact h6.to
theorem AI : Sp alO [.slice none 0 0] emp (fun _ : Unit => .slice none 0 0) (fun _ => emp) := by
 refine aY (avM _) fun R H h => ?_;refine aa (v := vb true) rfl ?_;refine gs ?_;exact am ⟨(), rfl, ac.to (by assumption)⟩
theorem uY (e : Int) : Sp oc [.agg (ip e).toArray] emp (fun _ : Unit => .agg (ip e).toArray) (fun _ => emp) := by
 refine aY (Mf _) fun R H h => ?_;refine aS h fun b1 H1 h1 => ?_;refine bo h1 fun b2 H2 h2 => ?_;refine ak h2 aB rfl ?_;refine af h2 AI fun _ H3 h3 => ?_;refine bg h3 aB rfl rfl fun H4 h4 => ?_;refine aR h4 ?_;refine eM h4 rfl rfl fun H5 h5 => ?_;refine aR h5 ?_;exact am ⟨(), rfl, h5.to⟩
abbrev bd.note (σ : bd) (step who e : Int) : bd := { σ with pts := σ.pts ++ [⟨step, who, (σ.places who).getD 0, e⟩] }
theorem aoV {P R P2 R2 : SP} {H H2 : AH} {b : Nat} {f : Int → Option Value} {zero : Value} {kk : OV} {Q : Value → AH → Prop} (k : Int) (h : ac P H) [m : Mp P b Qz f R] (h2 : ac P2 H2) [m2 : Mp P2 b Qz f R2] (hk : wp kk Q) :
 wp (bX (cY .int zero (.map (some b)) (vi k) false H) (cY .int zero (.map (some b)) (vi k) false H2) kk) Q := by
 have one : ∀ {P R : SP} {H : AH} (h : ac P H) [m : Mp P b Qz f R], cY .int zero (.map (some b)) (vi k) false H = some ((f k).getD zero) := by
  intro P R H h m;obtain ⟨v, H', e, q⟩ : wp ((cY .int zero (.map (some b)) (vi k) false H).bind fun v => some (v, H)) (fun v _ => v = (f k).getD zero) := YB (ek := Qz) k h (am rfl);obtain ⟨v', e1, e2⟩ := aI.1 e
  have : v' = v := by simpa using congrArg (fun x => x.map Prod.fst) e2
  have e1' : cY .int zero (.map (some b)) (vi k) false H = some v' := e1;rw [e1', this, q]
 exact ze (by rw [one h, one h2]) hk
end
theorem kH {cl : TCls} {a b : Int} (h : b ≠ 0) : ai cl .rem (vi a) (vi b) = some (vi (a.tmod b)) := by
 simp only [ai, nF, if_true];rw [if_neg h]
theorem atI {a b : Nat} : iQ [vu a, vu b] = some (vu (max a b)) := by
 simp only [iQ]
 congr 2
 split <;> omega
abbrev uI (x : Ob) : List Value := [vi x.flow, vi x.most, vu x.r]
instance : Enc uI 3 := ⟨fun _ => rfl, fun _ => rfl, by omega⟩
abbrev Re (n : Nat) : List Value := [vu n]
instance : Enc Re 1 := ⟨fun _ => rfl, fun _ => rfl, by omega⟩
def il : List (Int × Int) → Int → Int
 | [], _ => 0
 | p :: ps, who => if (ps.any fun q => q.1 == who) = true then il ps who else if p.1 = who then p.2 else 0
def fW (l : List (Int × Int)) : List Int := l.flatMap fun p => [p.1, p.2]
def HQ (l : List (Int × Nat)) (k : Int) : Option Nat := (l.find? fun p => p.1 == k).map (·.2)
def uQ (x : Pt) : List Pt → List Pt
 | [] => [x]
 | y :: l => if y.step ≤ x.step ∨ (l.any fun z => decide (z.step ≤ x.step)) = true then y :: uQ x l else x :: y :: l
def bF (l : List Pt) : List Pt := l.foldl (fun acc x => uQ x acc) []
def db (m i rp : Nat) (cs : List Pk) : SP := ex fun cv : Value => blk rp (.cells false [vp m, vi i, vi cs.length, cv]) * ts 3 Pk.cells cv cs
def jV (m : Nat) : Nat → List (Nat × List Pk) → SP
 | _, [] => emp
 | i, p :: ps => db m i p.1 p.2 * jV m (i + 1) ps
theorem PJ (m : Nat) : ∀ (ps : List (Nat × List Pk)) (i : Nat) (q : Nat × List Pk), jV m i (ps ++ [q]) = jV m i ps * db m (i + ps.length) q.1 q.2 := by
 intro ps
 induction ps with
 | nil => intro i q; show db m i q.1 q.2 * emp = emp * db m (i + 0) q.1 q.2; rw [dY, g7]; rfl
 | cons p ps ih =>
  intro i q;show db m i p.1 p.2 * jV m (i + 1) (ps ++ [q]) = db m i p.1 p.2 * jV m (i + 1) ps * _;rw [ih, aj, List.length_cons, show i + 1 + ps.length = i + (ps.length + 1) from by omega]
def g8 (ib m : Nat) (sh : Int) (nx : Int → Option Nat) (L : Nat) : SP := ex fun g : Value × Value × List (Int × Nat) =>
 pu ((∀ k, HQ g.2.2 k = nx k) ∧ g.2.2.length ≤ L) * (blk ib (.cells false [vp m, vi sh, g.1, g.2.1]) * (ts 1 eF g.1 (g.2.2.map (·.1)) * ts 1 Re g.2.1 (g.2.2.map (·.2))))
theorem py {ib m : Nat} {sh : Int} {nx : Int → Option Nat} {L : Nat} {R : SP} {H : AH} (h : ac (g8 ib m sh nx L * R) H) :
 ∃ (kv nv : Value) (ns : List (Int × Nat)), ((∀ k, HQ ns k = nx k) ∧ ns.length ≤ L) ∧ ac (blk ib (.cells false [vp m, vi sh, kv, nv]) * (ts 1 eF kv (ns.map (·.1)) * (ts 1 Re nv (ns.map (·.2)) * R))) H := by
 obtain ⟨⟨kv, nv, ns⟩, h1⟩ := ac.ex.1 h;rw [aj, ac.pu] at h1;exact ⟨kv, nv, ns, h1.1, h1.2.to⟩
theorem i7 {ib m : Nat} {sh : Int} {nx : Int → Option Nat} {L : Nat} {R : SP} {H : AH} {kv nv : Value} {ns : List (Int × Nat)} (hn : (∀ k, HQ ns k = nx k) ∧ ns.length ≤ L)
 (h : ac (blk ib (.cells false [vp m, vi sh, kv, nv]) * (ts 1 eF kv (ns.map (·.1)) * (ts 1 Re nv (ns.map (·.2)) * R))) H) : ac (g8 ib m sh nx L * R) H := by
 refine ac.ex.2 ⟨(kv, nv, ns), ?_⟩;rw [aj, ac.pu];exact ⟨hn, h.to⟩
theorem nX {ib m : Nat} {sh : Int} {nx : Int → Option Nat} {L L' : Nat} {R : SP} {H : AH} (hL : L ≤ L') (h : ac (g8 ib m sh nx L * R) H) : ac (g8 ib m sh nx L' * R) H := by
 obtain ⟨g, h1⟩ := ac.ex.1 h;rw [aj, ac.pu] at h1;exact ac.ex.2 ⟨g, by rw [aj]; exact ac.pu.2 ⟨⟨h1.1.1, eE h1.1.2 hL⟩, h1.2⟩⟩
structure XIds where
 m : Nat
 ib : Nat
 tb : Nat
 po : Nat
 co : Nat
 ov : Value
 rv : Value
 rp : List Nat
 wv : Value
 ws : List (Int × Int)
 pv : Value
def au (x : Nat) (g : XIds) (σ : bd) : SP :=
 blk x (.cells false [vi σ.c.sh, vi σ.c.sl, vi σ.c.wk, vi σ.c.wd, vu σ.c.un, vp g.m, vp g.ib, vp g.tb, vp g.po, vp g.co, g.ov, g.rv, g.wv, g.pv]) *
 (bP g.m σ.μ * (g8 g.ib g.m σ.c.sh σ.nx σ.μ.N * (tab g.tb g.m σ.c.sh.toNat σ.c.sl.toNat *
 (ts 3 uI g.ov (σ.obs.map fun x => x.1) * (ts 1 nK g.rv g.rp * (jV g.m 0 (g.rp.zip (σ.obs.map fun x => x.2)) * (ts 1 eF g.wv (fW g.ws) * ts 7 Pt.cells g.pv (bF σ.pts))))))))
def fm (g : XIds) (σ : bd) : Prop := g.rp.length = σ.obs.length ∧ (∀ k, il g.ws k = (σ.places k).getD 0) ∧ g.ws.length ≤ σ.μ.N
def aJ (x : Nat) (σ : bd) : SP := ex fun g : XIds => pu (fm g σ) * au x g σ
theorem dz {p : Nat} {σ : bd} {R : SP} {H : AH} (h : ac (aJ p σ * R) H) : ∃ g : XIds, fm g σ ∧ ac (au p g σ * R) H := by
 obtain ⟨g, h1⟩ := ac.ex.1 h;rw [aj, ac.pu] at h1;exact ⟨g, h1⟩
theorem cH {p : Nat} {σ : bd} {R : SP} {H : AH} (g : XIds) (hl : fm g σ) (h : ac (au p g σ * R) H) : ac (aJ p σ * R) H :=
 ac.ex.2 ⟨g, by rw [aj]; exact ac.pu.2 ⟨hl, h⟩⟩
theorem Mr (m : Nat) (c : iF) (hc : da c = true) : Sp ng [vp m, vi c.sh] emp (fun b : Nat => vp b) (fun b => blk b (.cells false [vp m, vi c.sh, .slice none 0 0, .slice none 0 0])) := by
 have hc := bQ.1 hc;refine aY (Cy _ _) fun R H h => ?_;refine aa (lR) ?_;refine aa (lS) ?_;rw [show min (max c.sh 1) 4 = c.sh from by omega];refine jq ?_;refine aS h fun b H3 h3 => ?_;exact am ⟨b, rfl, h3.to⟩
theorem Mt (m : Nat) (c : iF) (hc : da c = true) : Sp ni [vp m, vi c.sh, vi c.sl] emp (fun b : Nat => vp b) (fun b => tab b m c.sh.toNat c.sl.toNat) := by
 have hc := bQ.1 hc;refine aY (CA _ _ _) fun R H h => ?_;refine aa (lR) ?_;refine aa (lS) ?_;refine aa (lR) ?_;refine aa (lS) ?_;rw [show min (max c.sh 1) 4 = ((c.sh.toNat : Nat) : Int) from by omega, show min (max c.sl 1) 4 = ((c.sl.toNat : Nat) : Int) from by omega];refine jq ?_;refine aS h fun b H3 h3 => ?_;exact am ⟨b, rfl, by unfold tab; exact h3.to⟩
theorem Pz (m : Nat) (w : Int) : Sp oS [vp m, vi w] emp (fun b : Nat => vp b) (fun _ => emp) := by
 refine aY (Gr _ _) fun R H h => ?_;refine aa (lR) ?_;refine aa (lS) ?_;refine jq ?_;refine aS h fun b H3 h3 => ?_;exact am ⟨b, rfl, h3.to⟩
theorem acQ (w : Int) : Sp sM [vi w] emp (fun x : Int => vi x) (fun _ => emp) := by
 refine aY (Ml _) fun R H h => ?_;refine aa (lR) ?_;refine aa (lS) ?_;exact am ⟨_, rfl, h⟩
theorem Mm (n w : Int) : Sp alL [vi n, vi w] emp (fun b : Nat => vp b) (fun _ => emp) := by
 refine aY (avH _ _) fun R H h => ?_;refine jq ?_;refine aS h fun q H2 h2 => ?_;refine ah (acV _ _ _ _ H2) ?_;refine ah (acX _ _ _ _ _ H2) ?_;obtain ⟨k, hk⟩ : ∃ k : Nat, min (max n 1) 16 = k := ⟨(min (max n 1) 16).toNat, by omega⟩
 have hk16 : k ≤ 16 := by omega
 have loop : ∀ (d i : Nat) (nv : Value) (m : List Nat) (H : AH), i + d = k → m.length = i → ac (blk q (.cells false [nv]) * ts 1 nK nv m * R) H → wp (Mw (vi n) (vi w) (.pointer none) (vp q) (vi i) H) fun v' H' => ∃ b : Nat, v' = vp b ∧ ac (emp * R) H' := by
  intro d
  induction d with
  | zero =>
   intro i nv m H hi hm h;refine ah (Jg _ _ _ _ _ H) ?_;refine aa (lR) ?_;refine aa (lS) ?_;refine aa (bE (by omega)) ?_;refine gs ?_;refine ah (PC _ _ H) ?_;refine ah (acW _ _ H) ?_;exact am ⟨q, rfl, h.to⟩
  | succ d ih =>
   intro i nv m H hi hm h;refine ah (Jg _ _ _ _ _ H) ?_;refine aa (lR) ?_;refine aa (lS) ?_;refine aa (bS (by omega)) ?_;refine gs ?_;refine ah (acY _ _ _ _ _ H) ?_;refine bD ae ?_;refine aN h rfl ?_;refine af h (acQ w) fun x H3 h3 => ?_;refine aH h3 h rfl ?_;refine jq ?_;refine aS h3 fun sb H3b h3b => ?_;refine Qi h3b fun b0 H4 h4 => ?_;refine gY (sb : Nat) h4 rfl ?_ (by omega) fun a c H5 h5 => ?_
   ·unfold dc; omega
   refine bg h5 ae rfl rfl fun H6 h6 => ?_;refine ah (acZ _ _ _ _ _ H6) ?_;refine aa (aE (by omega) (by omega)) ?_;exact ih (i + 1) (.slice a (m.length + 1) c) (m ++ [sb]) H6 (by omega) (by simp; omega) h6.to
 refine loop k 0 (.slice none 0 0) [] H2 (by omega) rfl ?_;have h3 := dZ 1 nK h2;exact h3.to
theorem Py (c : iF) : Sp oR [.agg (iF.cells c).toArray] emp (fun b : Nat => vp b) (fun _ => emp) := by
 refine aY (Gq _) fun R H h => ?_;refine aS h fun cb H1 h1 => ?_;refine ak h1 aB rfl ?_;refine ak h1 aB rfl ?_;refine af h1 (Mm c.sh c.wd) fun q H2 h2 => ?_;refine jq ?_;refine aS h2 fun b H5 h5 => ?_;exact am ⟨b, rfl, h5.to⟩
theorem alF {b : Nat} {R : SP} {H : AH} (h : ac (blk b (.cells false [.slice none 0 0, .slice none 0 0, .slice none 0 0]) * R) H) : ac (bP b ⟨fun _ => 0, [], 0⟩ * R) H := by
 refine ac.ex.2 ⟨[], ?_⟩;rw [aj, ac.pu];refine ⟨⟨fun _ => rfl, bA _⟩, ac.ex.2 ⟨(.slice none 0 0, .slice none 0 0, .slice none 0 0), ?_⟩⟩;have h1 := dZ 3 Kh (dZ 1 NS (dZ 5 Ev.cells h));exact h1.to
theorem Ms (c : iF) (hc : da c = true) : Sp nh [.agg (iF.cells c).toArray] emp (fun b : Nat => vp b) (fun b => aJ b (bd.new c)) := by
 refine aY (Cz _) fun R H h => ?_;refine aS h fun cb H1 h1 => ?_;refine jq ?_;refine aS h1 fun m H2 h2 => ?_;refine aR h2 ?_;refine ak h2 aB rfl ?_;refine af h2 (Mr m c hc) fun ib H3 h3 => ?_;refine dB h3 h2 rfl ?_;refine bD aB ?_;refine aN h3 rfl ?_;refine aH h2 h3 rfl ?_;refine bD aB ?_;refine aN h3 rfl ?_;refine aH h2 h3 rfl ?_;refine af h3 (Mt m c hc) fun tb H4 h4 => ?_;refine dB h4 h2 rfl ?_;refine bD aB ?_;refine aN h4 rfl ?_;refine aH h2 h4 rfl ?_;refine aH h3 h4 rfl ?_;refine af h4 (Pz m c.wk) fun pb H5 h5 => ?_;refine dB h5 h2 rfl ?_;refine aR h5 ?_;refine dB h2 h5 rfl ?_;refine dB h3 h5 rfl ?_;refine dB h4 h5 rfl ?_;refine af h5 (Py c) fun kb H6 h6 => ?_;refine dB h6 h2 rfl ?_;refine jq ?_;refine aS h6 fun b H7 h7 => ?_;refine am ⟨b, rfl, ?_⟩;refine cH ⟨m, ib, tb, pb, kb, .slice none 0 0, .slice none 0 0, [], .slice none 0 0, [], .slice none 0 0⟩ ⟨rfl, fun _ => rfl, bA _⟩ ?_;have h8 := alF (b := m) (R := blk b (.cells false [vi c.sh, vi c.sl, vi c.wk, vi c.wd, vu c.un, vp m, vp ib, vp tb, vp pb, vp kb, .slice none 0 0, .slice none 0 0, .slice none 0 0, .slice none 0 0]) * (tab tb m c.sh.toNat c.sl.toNat * (blk ib (.cells false [vp m, vi c.sh, .slice none 0 0, .slice none 0 0]) * R))) (ac.to h7);have h8a := dZ 1 eF (dZ 1 Re h8);have h8b := i7 (ib := ib) (m := m) (sh := c.sh) (nx := fun _ => none) (L := 0) (kv := .slice none 0 0) (nv := .slice none 0 0) (ns := []) (R := bP m ⟨fun _ => 0, [], 0⟩ * (blk b (.cells false [vi c.sh, vi c.sl, vi c.wk, vi c.wd, vu c.un, vp m, vp ib, vp tb, vp pb, vp kb, .slice none 0 0, .slice none 0 0, .slice none 0 0, .slice none 0 0]) * (tab tb m c.sh.toNat c.sl.toNat * R))) (H := H7) ⟨fun _ => rfl, bA _⟩ (show ac (blk ib (.cells false [vp m, vi c.sh, .slice none 0 0, .slice none 0 0]) * (ts 1 eF (.slice none 0 0) [] * (ts 1 Re (.slice none 0 0) [] * (bP m ⟨fun _ => 0, [], 0⟩ * (blk b (.cells false [vi c.sh, vi c.sl, vi c.wk, vi c.wd, vu c.un, vp m, vp ib, vp tb, vp pb, vp kb, .slice none 0 0, .slice none 0 0, .slice none 0 0, .slice none 0 0]) * (tab tb m c.sh.toNat c.sl.toNat * R)))))) H7 from h8a.to);have h9 := dZ 3 uI (dZ 1 nK (dZ 1 eF (dZ 7 Pt.cells h8b)));unfold au
 show ac (blk b (.cells false [vi c.sh, vi c.sl, vi c.wk, vi c.wd, vu c.un, vp m, vp ib, vp tb, vp pb, vp kb, .slice none 0 0, .slice none 0 0, .slice none 0 0, .slice none 0 0]) * (bP m ⟨fun _ => 0, [], 0⟩ * (g8 ib m c.sh (fun _ => none) 0 * (tab tb m c.sh.toNat c.sl.toNat *
  (ts 3 uI (.slice none 0 0) [] * (ts 1 nK (.slice none 0 0) [] * (emp * (ts 1 eF (.slice none 0 0) [] * ts 7 Pt.cells (.slice none 0 0) [])))))))  * R) H7
 exact h9.to
theorem Mj {cl : TCls} {a b : Int} (h : b ≠ 0) (h0 : -9223372036854775808 ≤ a.tdiv b) (h1 : a.tdiv b < 9223372036854775808) : ai cl .quo (vi a) (vi b) = some (vi (a.tdiv b)) := by
 simp only [ai, nF, if_true];rw [if_neg h, pS h0 h1]
theorem xX {m : Nat} {V : dj → Nat} {E : List Ev} {N N' : Nat} {R : SP} {H : AH} (hN : N ≤ N') (h : ac (bP m ⟨V, E, N⟩ * R) H) : ac (bP m ⟨V, E, N'⟩ * R) H := by
 obtain ⟨al, h1⟩ := ac.ex.1 h;rw [aj, ac.pu] at h1;exact ac.ex.2 ⟨al, by rw [aj]; exact ac.pu.2 ⟨⟨h1.1.1, eE h1.1.2 hN⟩, h1.2⟩⟩
def dS (flow : Int) (obj : Nat) : Nat := (flow + 1).toNat * 4294967296 + obj
section
variable (t m : Nat) (sh sl : Nat) (μ : Mu) (who s i flow : Int) (obj : Nat)
theorem JP (hE : μ.N < 1099511627000) (hf : 0 ≤ flow ∧ flow ≤ 1048576) (ho : obj < 4294967296) :
 Sp gG [vp t, vi who, vi s, vi i, vi flow, vi obj] (tab t m sh sl * bL m μ) (fun _ : Unit => vb true) (fun _ => tab t m sh sl * bL m ((μ.acc who 2 (10, s, i)).put (10, s, i) (dS flow obj))) := by
 refine aY (wr _ _ _ _ _ _) fun R H h => ?_;unfold tab at h ⊢;refine aa (bE (by omega)) ?_;refine gs ?_;refine aa (fJ ?_) ?_
 ·omega
 refine gs ?_;refine aa (bE ?_) ?_
 ·omega
 refine gs ?_;refine aa (pr ?_) ?_
 ·omega
 refine gs ?_;refine bD ae ?_;refine aN h rfl ?_;refine af h (ww s i) fun _ H1 h1 => ?_;refine aH h1 h rfl ?_;refine aa (aE (by omega) (by omega)) ?_;refine aa (dU (by omega) (by omega)) ?_
 have hn : (flow + 1).toNat ≤ 1048577 := by omega
 have e1 : ai .other .shl (vu (flow + 1).toNat) (vw 32) = some (vu ((flow + 1).toNat * 4294967296)) := by
  have := In (cl := .other) (a := (flow + 1).toNat) (k := .u64) (n := 32) (by omega);simp only [Nat.reducePow] at this;rw [Nat.mod_eq_of_lt (by omega)] at this;exact this
 refine aa (e1) ?_;refine aa (dU (by omega) (by omega)) ?_;rw [show ((obj : Nat) : Int).toNat = obj from xE obj]
 have e2 : ai .other .or (vu ((flow + 1).toNat * 4294967296)) (vu obj) = some (vu (dS flow obj)) := by
  rw [afT (by omega) (by omega)]
  congr 3
  have := Nat.two_pow_add_eq_or_of_lt (i := 32) (b := obj) (by simp only [Nat.reducePow]; omega) (flow + 1).toNat;simp only [Nat.reducePow] at this;rw [dS, Nat.mul_comm, ← this]
 refine aa (e2) ?_;refine af h1 (Dt m μ who (10, s, i) (dS flow obj) (by omega)) fun _ H2 h2 => ?_;exact am ⟨(), rfl, h2.to⟩
theorem XH (hE : μ.N < 1099511627000) (hf : 0 ≤ flow ∧ flow ≤ 1048576) (ho : obj < 4294967296) :
 Sp iZ [vp t, vi who, vi s, vi i, vi flow, vi obj] (tab t m sh sl * bP m μ) (fun _ : Unit => vb true) (fun _ => tab t m sh sl * bP m ((μ.acc who 2 (10, s, i)).put (10, s, i) (dS flow obj))) := by
 refine aY (Aq _ _ _ _ _ _) fun R H h => ?_;unfold tab at h ⊢;refine aa (bE (by omega)) ?_;refine gs ?_;refine aa (fJ ?_) ?_
 ·omega
 refine gs ?_;refine aa (bE ?_) ?_
 ·omega
 refine gs ?_;refine aa (dU (by omega) (by omega)) ?_;rw [show ((obj : Nat) : Int).toNat = obj from xE obj];refine gs ?_;refine aa (pr ?_) ?_
 ·omega
 refine gs ?_;refine bD ae ?_;refine aN h rfl ?_;refine af h (dI 10 s i) fun _ H1 h1 => ?_;refine aH h1 h rfl ?_;refine aa (aE (by omega) (by omega)) ?_;refine aa (dU (by omega) (by omega)) ?_
 have hn : (flow + 1).toNat ≤ 1048577 := by omega
 refine aa (aw4) ?_;rw [Nat.mod_eq_of_lt (by omega)];refine aa (dU (by omega) (by omega)) ?_;rw [show ((obj : Nat) : Int).toNat = obj from xE obj];refine aa (gr (by omega)) ?_;refine af h1 (t9 m μ who (10, s, i) (dS flow obj) (by omega)) fun _ H2 h2 => ?_;exact am ⟨(), rfl, h2.to⟩
end
section
variable (p : Nat) (σ : bd)
theorem adB (m i : Nat) (most : Int) : Sp oT [vp m, vi i, vi most] emp (fun b : Nat => vp b) (fun b => db m i b (List.replicate (eI most) Nh)) := by
 obtain ⟨q1, q2, q3⟩ := t3 most;refine aY (Gu _ _ _) fun R H h => ?_;refine aa (lR) ?_;refine aa (lS) ?_;rw [← q3];refine M7 (enc := Pk.cells) Nh h rfl (by unfold dc; omega) (by omega) fun cb H1 h1 => ?_;refine jq ?_;refine aS h1 fun b H2 h2 => ?_;refine am ⟨b, rfl, ?_⟩;unfold db;refine ac.ex.2 ⟨vs cb (eI most) 3, ?_⟩;rw [List.length_replicate];exact h2.to
theorem atH (who : Int) (o : Ob) (hE : σ.μ.N < 1099511627000) (ho : σ.obs.length < 1000000) : Sp ic [vp p, vi who, .agg [vi o.flow, vi o.most, vu o.r].toArray] (aJ p σ) (fun _ : Unit => vi σ.obs.length) (fun _ => aJ p (σ.make who o)) := by
 refine aK fun R H h => ?_;obtain ⟨g, ⟨hg, hg2⟩, h0⟩ := dz h;unfold au at h0;refine bj (fun r => yA _ _ _ H) ?_;refine aS (l := [vi o.flow, vi o.most, vu o.r]) h0 fun ob H1 h1 => ?_;refine ak h1 ae rfl ?_;refine oW (s := g.ov) h1 ?_;rw [sE];refine bD ae ?_;refine aN h1 rfl ?_;refine af h1 (dI 13 σ.obs.length 0) fun _ H2 h2 => ?_;refine aH h2 h1 rfl ?_;refine af h2 ((ae0 g.m σ.μ who 6 (13, σ.obs.length, 0) (by omega)).imp fun _ R H h => xX (N' := σ.μ.N + 2) (by simp) h) fun _ H3 h3 => ?_;refine ak h3 ae rfl ?_;refine aR h3 ?_;refine Qi h3 fun b0 H4 h4 => ?_;refine gY (o : Ob) h4 rfl ?_ (by omega) fun a cc H5 h5 => ?_
 ·unfold dc; simp only [sE]; omega
 refine bD ae ?_;refine aN h5 rfl ?_;refine aH h4 h5 rfl ?_;refine bD ae ?_;refine aN h5 rfl ?_;refine aH h4 h5 rfl ?_;refine bD aB ?_;refine aN h5 rfl ?_;refine aH h4 h5 rfl ?_;refine af h5 (adB g.m σ.obs.length o.most) fun rb H6 h6 => ?_;refine aH h6 h5 rfl ?_;refine Qi h6 fun b1 H7 h7 => ?_;refine gY (rb : Nat) h7 rfl ?_ (by omega) fun a2 c2 H8 h8 => ?_
 ·unfold dc; omega
 refine bg h8 ae rfl rfl fun H9 h9 => ?_;refine bg h9 ae rfl rfl fun H10 h10 => ?_;refine am ⟨(), rfl, ?_⟩;refine cH { g with ov := .slice a ((σ.obs.map fun x => x.1).length + 1) cc, rv := .slice a2 (g.rp.length + 1) c2, rp := g.rp ++ [rb] } ⟨by simp [bd.make, hg], hg2.1, eE hg2.2 (by simp [bd.make])⟩ ?_;unfold au bd.make;dsimp only
 have e2 : (g.rp ++ [rb]).zip ((σ.obs ++ [(o, List.replicate (eI o.most) Nh)]).map fun x => x.2) = (g.rp.zip (σ.obs.map fun x => x.2)) ++ [(rb, List.replicate (eI o.most) Nh)] := by
  rw [HN, List.zip_append (by simp [hg])]
  rfl
 have e1 : (σ.obs ++ [(o, List.replicate (eI o.most) Nh)]).map (fun x => x.1) = (σ.obs.map fun x => x.1) ++ [o] := by rw [HN]; rfl
 have e3 : 0 + (g.rp.zip (σ.obs.map fun x => x.2)).length = σ.obs.length := by simp [hg]
 rw [e1, e2, PJ, e3];dsimp only;have h11 := nX (L' := σ.μ.N + 2) (by omega) (ac.fr (A := g8 g.ib g.m σ.c.sh σ.nx σ.μ.N) h10);exact h11.to
theorem Bs (u : Nat) (w : Int) (hu : 1 ≤ u ∧ u ≤ 4611686018427387904) (hw : 1 ≤ w ∧ w ≤ 65536) : Sp kP [vu u, vi w] emp (fun _ : Unit => .tuple #[vu (max (u / w.toNat) 1), vb true]) (fun _ => emp) := by
 refine aY (Gl _ _) fun R H h => ?_;refine aa (bE (by omega)) ?_;refine gs ?_;refine aa (fJ ?_) ?_
 ·omega
 refine gs ?_;refine aa (bE ?_) ?_
 ·omega
 refine gs ?_;refine aa (fJ ?_) ?_
 ·omega
 refine gs ?_;refine aa (dU (by omega) (by omega)) ?_;refine aa (zl (by omega) (by omega)) ?_;refine aa (atI (b := 1)) ?_;exact am ⟨(), rfl, h.to⟩
abbrev bd.lay (σ : bd) (f w most : Int) : bd :=
 { σ.make 0 ⟨f, most, max (σ.c.un / w.toNat) 1⟩ with
  μ := ((σ.make 0 ⟨f, most, max (σ.c.un / w.toNat) 1⟩).μ.acc 0 2 (10, f.tmod σ.c.sh, f.tdiv σ.c.sh)).put (10, f.tmod σ.c.sh, f.tdiv σ.c.sh) (dS f σ.obs.length) }
theorem arG (x : Nat) (f w most : Int) (hc : da σ.c = true) (hE : σ.μ.N < 1099511620000) (ho : σ.obs.length < 1000000) (hf : 0 ≤ f ∧ f ≤ 1048576) (hw : 1 ≤ w ∧ w ≤ 65536) :
 Sp m8 [.agg [vp p, vp x].toArray, vi f, vi w, vi most] (gy p σ * aJ x σ) (fun _ : Unit => vb true) (fun _ => gy p (σ.lay f w most) * aJ x (σ.lay f w most)) := by
 have hr := bQ.1 hc;have q0 : 0 ≤ f.tdiv σ.c.sh := Int.tdiv_nonneg hf.1 (by omega);have q1 : f.tdiv σ.c.sh ≤ f := Int.tdiv_le_self _ hf.1;refine aY (BW _ _ _ _) fun R H h => ?_;refine aS (l := [vp p, vp x]) h fun b H1 h1 => ?_;refine ak h1 aB rfl ?_;obtain ⟨g, hg, k1⟩ := dz (p := x) (σ := σ) (R := blk b (.cells false [vp p, vp x]) * (gy p σ * R)) (H := H1) h1.to;unfold au at k1;refine Hm k1 ae ?_;refine bo h1 fun b2 H2 h2 => ?_;refine eM h2 rfl rfl fun H3 h3 => ?_;refine ak h3 aB rfl ?_;refine af h3 (Bs σ.c.un w ⟨by omega, by omega⟩ hw) fun _ H4 h4 => ?_;refine aa (v := vu (max (σ.c.un / w.toNat) 1)) rfl ?_;refine aa (v := vb true) rfl ?_;refine jq ?_;refine bo h4 fun b3 H5 h5 => ?_;refine eM h5 rfl rfl fun H6 h6 => ?_;refine ak h6 aB rfl ?_;refine aR h6 ?_;refine af h6 (S7 p σ 0 ⟨f, most, max (σ.c.un / w.toNat) 1⟩ (by omega) ho) fun _ H7 h7 => ?_;refine bD aB ?_;refine aN h7 rfl ?_;refine aH h6 h7 rfl ?_;refine aR h7 ?_;refine dB h6 h7 rfl ?_;refine af h7 (atH x σ 0 ⟨f, most, max (σ.c.un / w.toNat) 1⟩ (by omega) ho) fun _ H8 h8 => ?_;refine aa (bi rfl) ?_;refine gs ?_;refine ak h8 aB rfl ?_;obtain ⟨gp, hgp, k8⟩ := ou (p := p) (σ := σ.make 0 ⟨f, most, max (σ.c.un / w.toNat) 1⟩) (R := blk b (.cells false [vp p, vp x]) * (blk b2 (.cells false (iF.cells σ.c)) * (aJ x (σ.make 0 ⟨f, most, max (σ.c.un / w.toNat) 1⟩) * R))) (H := H8) h8.to;unfold az at k8;refine gs ?_;refine ak k8 ae rfl ?_;refine gs ?_;refine ak k8 aB rfl ?_;refine gs ?_;refine aa (kH (by omega)) ?_;refine gs ?_;refine ak k8 aB rfl ?_;refine gs ?_;refine aa (Mj (by omega) (by omega) (by omega)) ?_;refine gs ?_;refine af k8 (JP gp.tb gp.m σ.c.sh.toNat σ.c.sl.toNat (σ.make 0 ⟨f, most, max (σ.c.un / w.toNat) 1⟩).μ 0 (f.tmod σ.c.sh) (f.tdiv σ.c.sh) f σ.obs.length (by simp [bd.make]; omega) hf (by omega)) fun _ H9 k9 => ?_
 have h9 : ac (gy p (σ.lay f w most) * (blk b (.cells false [vp p, vp x]) * (blk b2 (.cells false (iF.cells σ.c)) * (aJ x (σ.make 0 ⟨f, most, max (σ.c.un / w.toNat) 1⟩) * R)))) H9 := by
  refine qD gp hgp ?_;unfold az;exact k9.to
 refine gs ?_;refine ak h9 aB rfl ?_;obtain ⟨gx, hgx, l9⟩ := dz (p := x) (σ := σ.make 0 ⟨f, most, max (σ.c.un / w.toNat) 1⟩) (R := blk b (.cells false [vp p, vp x]) * (blk b2 (.cells false (iF.cells σ.c)) * (gy p (σ.lay f w most) * R))) (H := H9) h9.to;unfold au at l9;refine gs ?_;refine ak l9 ae rfl ?_;refine gs ?_;refine ak l9 aB rfl ?_;refine gs ?_;refine aa (kH (by omega)) ?_;refine gs ?_;refine ak l9 aB rfl ?_;refine gs ?_;refine aa (Mj (by omega) (by omega) (by omega)) ?_;refine gs ?_;refine af l9 (XH gx.tb gx.m σ.c.sh.toNat σ.c.sl.toNat (σ.make 0 ⟨f, most, max (σ.c.un / w.toNat) 1⟩).μ 0 (f.tmod σ.c.sh) (f.tdiv σ.c.sh) f σ.obs.length (by simp [bd.make]; omega) hf (by omega)) fun _ H10 l10 => ?_
 have h10 : ac (aJ x (σ.lay f w most) * (blk b (.cells false [vp p, vp x]) * (blk b2 (.cells false (iF.cells σ.c)) * (gy p (σ.lay f w most) * R)))) H10 := by
  refine cH gx ⟨hgx.1, hgx.2.1, eE hgx.2.2 (by simp [bd.lay, bd.make])⟩ ?_;unfold au;have l11 := nX (L' := σ.μ.N + 2 + 2) (by omega) (ac.fr (A := g8 gx.ib gx.m σ.c.sh σ.nx (σ.μ.N + 2)) l10);exact l11.to
 refine gs ?_;exact am ⟨(), rfl, h10.to⟩
end
def bd.made (c : iF) : Nat → bd
 | 0 => bd.new c
 | f + 1 => if (f : Int).tdiv c.sh < c.sl then (bd.made c f).lay f (1 + f) (2 + (f : Int).tmod 2) else bd.made c f
theorem alA (c : iF) : ∀ n, (bd.made c n).c = c ∧ (bd.made c n).μ.N ≤ 4 * n ∧ (bd.made c n).obs.length ≤ n := by
 intro n
 induction n with
 | zero => exact ⟨rfl, bA _, bA _⟩
 | succ n ih =>
  obtain ⟨h1, h2, h3⟩ := ih;unfold bd.made
  split
  ·refine ⟨h1, ?_, ?_⟩
   ·simp [bd.lay, bd.make]; omega
   ·simp [bd.lay, bd.make]; omega
  ·exact ⟨h1, by omega, by omega⟩
theorem vP (b : Nat) : ai .ptr .eql (vp b) (.pointer none) = some (vb false) := rfl
theorem OT (c0 : iF) (n : Nat) (hn : n ≤ 16) : Sp qx [.agg (iF.cells c0).toArray, vi n] emp (fun g : Nat × Nat × iF => .tuple #[.agg [vp g.1, vp g.2.1].toArray, vb true])
 (fun g => pu (da g.2.2 = true) * (gy g.1 (bd.made g.2.2 n) * aJ g.2.1 (bd.made g.2.2 n))) := by
 refine aY (OR _ _) fun R H h => ?_;refine aS h fun b H1 h1 => ?_;refine bo h1 fun b2 H2 h2 => ?_;refine aR h2 ?_;refine af h2 (Pp c0) fun c H3 h3 => ?_;rw [ac.pu] at h3;obtain ⟨hc, h3⟩ := h3;refine eM h3 rfl rfl fun H4 h4 => ?_;refine aR h4 ?_;refine af h4 (S8 c hc) fun p H5 h5 => ?_;refine aa (v := vp p) rfl ?_;refine aa (v := vi 0) rfl ?_;refine aa (sQ rfl) ?_;refine gs ?_;refine aa (vP _) ?_;refine gs ?_;obtain ⟨g, hg, k5⟩ := ou (p := p) (σ := bd.new c) (R := blk b2 (.cells false [.pointer none, .pointer none]) * (blk b (.cells false (iF.cells c)) * R)) (H := H5) h5.to;unfold az at k5;refine ak k5 ae rfl ?_;refine gs ?_;refine aa (vP _) ?_;refine gs ?_;refine ak k5 ae rfl ?_;refine gs ?_;refine aa (vP _) ?_;refine gs ?_;refine ak k5 ae rfl ?_;refine gs ?_;refine aa (vP _) ?_;refine gs ?_;refine ak k5 ae rfl ?_;refine gs ?_;refine aa (vP _) ?_;refine gs ?_;refine ak k5 ae rfl ?_;refine gs ?_;refine aa (vP _) ?_;refine gs ?_;refine aR h5 ?_;refine af h5 (Ms c hc) fun x H6 h6 => ?_;refine jq ?_;refine bo h6 fun b3 H7 h7 => ?_;refine eM h7 rfl rfl fun H8 h8 => ?_;refine ah (FW _ _ _ _ _ H8) ?_;refine ah (FY _ _ _ _ _ _ H8) ?_;have hr := bQ.1 hc;have loop : ∀ (d i : Nat) (H : AH), i + d = n → ac (blk b3 (.cells false [vp p, vp x]) * (blk b2 (.cells false [.pointer none, .pointer none]) * (blk b (.cells false (iF.cells c)) * (gy p (bd.made c i) * (aJ x (bd.made c i) * R))))) H →
  wp (nY (vi n) (vp b) (vp b2) (vb false) (vp b3) (vi i) H) fun v' H' => ∃ g : Nat × Nat × iF, v' = .tuple #[.agg [vp g.1, vp g.2.1].toArray, vb true] ∧ ac (pu (da g.2.2 = true) * (gy g.1 (bd.made g.2.2 n) * aJ g.2.1 (bd.made g.2.2 n)) * R) H' := by
  intro d
  induction d with
  | zero =>
   intro i H hi h;refine ah (sA _ _ _ _ _ _ H) ?_;refine aa (bE (by omega)) ?_;refine gs ?_;refine ah (zO _ _ _ H) ?_;refine ah (FX _ _ _ H) ?_;refine aR h ?_;refine eM h rfl rfl fun H2 h2 => ?_;refine aR h2 ?_;refine am ⟨(p, x, c), rfl, ?_⟩;rw [aj, ac.pu]
   have e : i = n := by omega
   subst e;exact ⟨hc, h2.to⟩
  | succ d ih =>
   intro i H hi h;obtain ⟨m1, m2, m3⟩ := alA c i;have q0 : 0 ≤ (i : Int).tdiv c.sh := Int.tdiv_nonneg (by omega) (by omega);have q1 : (i : Int).tdiv c.sh ≤ i := Int.tdiv_le_self _ (by omega);have t0 : 0 ≤ (i : Int).tmod 2 := Int.tmod_nonneg _ (by omega);have t1 : (i : Int).tmod 2 < 2 := Int.tmod_lt_of_pos _ (by omega);have next : ∀ {H : AH}, ac (blk b3 (.cells false [vp p, vp x]) * (blk b2 (.cells false [.pointer none, .pointer none]) * (blk b (.cells false (iF.cells c)) * (gy p (bd.made c (i + 1)) * (aJ x (bd.made c (i + 1)) * R))))) H →
    wp (sB (vi n) (vp b) (vp b2) (vb false) (vp b3) (vi i) H) fun v' H' => ∃ g : Nat × Nat × iF, v' = .tuple #[.agg [vp g.1, vp g.2.1].toArray, vb true] ∧ ac (pu (da g.2.2 = true) * (gy g.1 (bd.made g.2.2 n) * aJ g.2.1 (bd.made g.2.2 n)) * R) H' := by
    intro H h;refine ah (F0 _ _ _ _ _ _ H) ?_;refine aa (aE (by omega) (by omega)) ?_;exact ih (i + 1) H (by omega) h
   refine ah (sA _ _ _ _ _ _ H) ?_;refine aa (bS (by omega)) ?_;refine gs ?_;refine ah (FZ _ _ _ _ _ _ H) ?_;refine ak h aB rfl ?_;refine aa (Mj (by omega) (by omega) (by omega)) ?_;refine ak h aB rfl ?_
   by_cases hf : (i : Int).tdiv c.sh < c.sl
   ·have e : bd.made c (i + 1) = (bd.made c i).lay i (1 + i) (2 + (i : Int).tmod 2) := by show (if _ then _ else _) = _; rw [if_pos hf]
    rw [e] at next;refine aa (bS hf) ?_;refine gs ?_;refine aR h ?_;refine gs ?_;refine aa (aE (by omega) (by omega)) ?_;refine gs ?_;refine aa (kH (by omega)) ?_;refine gs ?_;refine aa (aE (by omega) (by omega)) ?_;refine gs ?_;refine af h (arG p (bd.made c i) x i (1 + i) (2 + (i : Int).tmod 2) (by rw [m1]; exact hc) (by omega) (by omega) (by omega) (by omega)) fun _ H2 h2 => ?_;refine gs ?_;rw [Bool.not_true];refine gs ?_;exact next h2.to
   ·have e : bd.made c (i + 1) = bd.made c i := by show (if _ then _ else _) = _; rw [if_neg hf]
    rw [e] at next;refine aa (bE hf) ?_;refine gs ?_;exact next h
 exact loop n 0 H8 (by omega) (show ac (blk b3 (.cells false [vp p, vp x]) * (blk b2 (.cells false [.pointer none, .pointer none]) * (blk b (.cells false (iF.cells c)) * (gy p (bd.new c) * (aJ x (bd.new c) * R))))) H8 from h8.to)
theorem Qj {o : Nat} {x : Value} {k : Value → OV} {Q : Value → AH → Prop} (h : wp (k undef) Q) : wp (HK (vb false) true [.n, .f o] x k) Q := h
theorem lC {p : List Stp} {x : Value} {k : Value → OV} {Q : Value → AH → Prop} (h : wp (ad p x k) Q) : wp (HK (vb true) true p x k) Q := by rw [SC]; exact h
section
variable {m i rp : Nat} {cs : List Pk} {R : SP} {H : AH}
theorem cL (h : ac (cK m i rp cs * R) H) : ∃ cv, ac (blk rp (.cells false [vp m, vi i, cv]) * (ts 3 Pk.cells cv cs * R)) H := by
 obtain ⟨cv, h1⟩ := ac.ex.1 h;exact ⟨cv, h1.to⟩
theorem Bv {cv : Value} (h : ac (blk rp (.cells false [vp m, vi i, cv]) * (ts 3 Pk.cells cv cs * R)) H) : ac (cK m i rp cs * R) H :=
 ac.ex.2 ⟨cv, h.to⟩
theorem fu (h : ac (db m i rp cs * R) H) : ∃ cv, ac (blk rp (.cells false [vp m, vi i, vi cs.length, cv]) * (ts 3 Pk.cells cv cs * R)) H := by
 obtain ⟨cv, h1⟩ := ac.ex.1 h;exact ⟨cv, h1.to⟩
theorem lA {cv : Value} (h : ac (blk rp (.cells false [vp m, vi i, vi cs.length, cv]) * (ts 3 Pk.cells cv cs * R)) H) : ac (db m i rp cs * R) H :=
 ac.ex.2 ⟨cv, h.to⟩
end
section
variable (m i rp : Nat) (cs : List Pk) (μ : Mu)
theorem yX (kind cell : Int) : Sp en [vp rp, vi kind, vi cell] (cK m i rp cs) (fun _ : Unit => e8 (kind, (i : Int), cell)) (fun _ => cK m i rp cs) := by
 refine aK fun R H h => ?_;obtain ⟨cv, h0⟩ := cL h;refine bj (fun r => CO _ _ _ H) ?_;refine bo h0 fun b H1 h1 => ?_;refine ak h1 ae rfl ?_;refine jq ?_;refine eM h1 rfl rfl fun H2 h2 => ?_;refine aR h2 ?_;exact am ⟨(), rfl, Bv (cv := cv) h2.to⟩
theorem AC (who : Int) (hE : μ.N < 1099511627000) : Sp fT [vp rp, vi who] (cK m i rp cs * bL m μ) (fun _ : Unit => vu (μ.V (11, (i : Int), 0))) (fun _ => cK m i rp cs * bL m (μ.acc who 1 (11, (i : Int), 0))) := by
 refine aK fun R H h => ?_;obtain ⟨cv, h0⟩ := cL (m := m) (i := i) (rp := rp) (cs := cs) (R := bL m μ * R) (H := H) h.to;refine bj (fun r => yV _ _ H) ?_;refine bD ae ?_;refine aN h0 rfl ?_;refine af h (yX m i rp cs 11 0) fun _ H1 h1 => ?_;obtain ⟨cv1, k1⟩ := cL h1;refine aH k1 h0 (by rfl) ?_;refine af h1 (Gi m μ who (11, (i : Int), 0) (by omega)) fun _ H2 h2 => ?_;exact am ⟨(), rfl, h2.to⟩
theorem Jr (who : Int) (hE : μ.N < 1099511627000) : Sp ij [vp rp, vi who] (cK m i rp cs * bL m μ) (fun _ : Unit => vu (μ.V (12, (i : Int), 0))) (fun _ => cK m i rp cs * bL m (μ.acc who 1 (12, (i : Int), 0))) := by
 refine aK fun R H h => ?_;obtain ⟨cv, h0⟩ := cL (m := m) (i := i) (rp := rp) (cs := cs) (R := bL m μ * R) (H := H) h.to;refine bj (fun r => yP _ _ H) ?_;refine bD ae ?_;refine aN h0 rfl ?_;refine af h (yX m i rp cs 12 0) fun _ H1 h1 => ?_;obtain ⟨cv1, k1⟩ := cL h1;refine aH k1 h0 (by rfl) ?_;refine af h1 (Gi m μ who (12, (i : Int), 0) (by omega)) fun _ H2 h2 => ?_;exact am ⟨(), rfl, h2.to⟩
def pp (w h k : Nat) : Bool := decide (h ≤ bn w ∧ k ≤ bn w - h)
theorem Jq (w h : Nat) (hw : w < 18446744073709551616) (hc : cs.length < 1000) : Sp ig [vp rp, vu w, vu h] (cK m i rp cs) (fun _ : Unit => vb (pp w h cs.length)) (fun _ => cK m i rp cs) := by
 refine aK fun R H hh => ?_;have hl := eb w;refine bj (fun r => yO _ _ _ H) ?_;refine af hh (gZ w hw) fun _ H1 h1 => ?_
 by_cases hle : h ≤ bn w
 ·refine aa (xx (by omega)) ?_
  refine gs ?_;refine aa (Io hle (by omega)) ?_;obtain ⟨cv, h2⟩ := cL (m := m) (i := i) (rp := rp) (cs := cs) (R := R) (H := H1) h1.to;refine gs ?_;refine ak h2 ae rfl ?_;refine gs ?_;refine i4 (s := cv) (l := cs) h2 ?_;refine gs ?_;refine aa (dU (by omega) (by omega)) ?_;rw [show ((cs.length : Nat) : Int).toNat = cs.length from xE _];refine gs ?_
  by_cases hk : cs.length ≤ bn w - h
  ·refine aa (xx (by omega)) ?_
   refine gs ?_;exact am ⟨(), by rw [pp, fH ⟨hle, hk⟩], h1.to⟩
  ·refine aa (pr (by omega)) ?_
   refine gs ?_;exact am ⟨(), by rw [pp, e7 (fun q => hk q.2)], h1.to⟩
 ·refine aa (pr (by omega)) ?_
  refine gs ?_;exact am ⟨(), by rw [pp, e7 (fun q => hle q.1)], h1.to⟩
abbrev Mu.turn (μ : Mu) (who : Int) (i w : Nat) (o : Option Nat) : Mu := match o with
 | none => μ
 | some n => μ.swp who (11, (i : Int), 0) w n
def fZ (μ : Mu) (i w : Nat) (o : Option Nat) : Bool := o.isSome && decide (μ.V (11, (i : Int), 0) = w)
theorem AB (who : Int) (w fn : Nat) (o : Option Nat) (hf : Sp fn [vu w] emp (fun _ : Unit => Gf o) (fun _ => emp)) (hE : μ.N < 1099511627000) :
 Sp fU [vp rp, vi who, vu w, .func (.func fn) #[] #[]] (cK m i rp cs * bL m μ) (fun _ : Unit => vb (fZ μ i w o)) (fun _ => cK m i rp cs * bL m (μ.turn who i w o)) := by
 refine aY (yW _ _ _ _) fun R H h => ?_;refine ah (show (ce (.func (.func fn) #[] #[]) [vu w]).bind _ = _ from rfl) ?_;refine af h hf fun _ H1 h1 => ?_
 cases o with
 | none =>
  refine aa (v := vw 0) rfl ?_;refine aa (v := vb false) rfl ?_;refine gs ?_;refine Qj ?_;refine gs ?_;refine ze rfl ?_;refine gs ?_;exact am ⟨(), rfl, h1.to⟩
 | some n =>
  refine aa (v := vu n) rfl ?_;refine aa (v := vb true) rfl ?_;refine gs ?_;refine lC ?_;obtain ⟨cv, k1⟩ := cL (m := m) (i := i) (rp := rp) (cs := cs) (R := bL m μ * R) (H := H1) h1.to;refine bD ae ?_;refine gs ?_;refine aN k1 rfl ?_;refine gs ?_;refine af h1 (yX m i rp cs 11 0) fun _ H2 h2 => ?_;obtain ⟨cv2, k2⟩ := cL (m := m) (i := i) (rp := rp) (cs := cs) (R := bL m μ * R) (H := H2) h2.to;refine aH k2 k1 (by rfl) ?_;refine gs ?_;refine af h2 (S5 m μ who (11, (i : Int), 0) w n (by omega)) fun _ H3 h3 => ?_;refine gs ?_;exact am ⟨(), rfl, h3.to⟩
theorem GR (who : Int) (w : Nat) (hw : w < 18446744073709551616) (hE : μ.N < 1099511627000) : Sp gF [vp rp, vi who, vu w] (cK m i rp cs * bL m μ) (fun _ : Unit => vb (fZ μ i w (aW w 0))) (fun _ => cK m i rp cs * bL m (μ.turn who i w (aW w 0))) := by
 refine aY (wn _ _ _) fun R H h => ?_;refine af h (AB m i rp cs μ who w od (aW w 0) (aeU w hw) hE) fun _ H1 h1 => ?_;exact am ⟨(), rfl, h1.to⟩
theorem adC (who : Int) (w : Nat) (hw : w < 18446744073709551616) (hE : μ.N < 1099511627000) : Sp kC [vp rp, vi who, vu w] (cK m i rp cs * bL m μ) (fun _ : Unit => vb (fZ μ i w (aW w 1))) (fun _ => cK m i rp cs * bL m (μ.turn who i w (aW w 1))) := by
 refine aY (yQ _ _ _) fun R H h => ?_;refine af h (AB m i rp cs μ who w og (aW w 1) (aeV w hw) hE) fun _ H1 h1 => ?_;exact am ⟨(), rfl, h1.to⟩
theorem adD (who : Int) (w : Nat) (hw : w < 18446744073709551616) (hE : μ.N < 1099511627000) : Sp kD [vp rp, vi who, vu w] (cK m i rp cs * bL m μ) (fun _ : Unit => vb (fZ μ i w (aW w 2))) (fun _ => cK m i rp cs * bL m (μ.turn who i w (aW w 2))) := by
 refine aY (yS _ _ _) fun R H h => ?_;refine af h (AB m i rp cs μ who w oh (aW w 2) (aeW w hw) hE) fun _ H1 h1 => ?_;exact am ⟨(), rfl, h1.to⟩
end
section
variable (m i rp : Nat) (cs : List Pk) (μ : Mu)
theorem UH (who : Int) (hE : μ.N < 1099511627000) : Sp lK [vp rp, vi who] (db m i rp cs * bP m μ) (fun _ : Unit => vu (μ.V (11, (i : Int), 0))) (fun _ => db m i rp cs * bP m (μ.acc who 1 (11, (i : Int), 0))) := by
 refine aK fun R H h => ?_;obtain ⟨cv, h0⟩ := fu (m := m) (i := i) (rp := rp) (cs := cs) (R := bP m μ * R) (H := H) h.to;refine bj (fun r => Ap _ _ H) ?_;refine bD ae ?_;refine aN h0 rfl ?_;refine ak h0 ae rfl ?_;refine af h0 (dI 11 (i : Int) 0) fun _ H1 h1 => ?_;refine aH h1 h0 (by rfl) ?_;refine af h1 (s8 m μ who (11, (i : Int), 0) (by omega)) fun _ H2 h2 => ?_;exact am ⟨(), rfl, (lA (m := m) (i := i) (rp := rp) (cs := cs) (cv := cv) (R := bP m (μ.acc who 1 (11, (i : Int), 0)) * R) h2.to).to⟩
theorem Hv (who : Int) (hE : μ.N < 1099511627000) : Sp iX [vp rp, vi who] (db m i rp cs * bP m μ) (fun _ : Unit => vu (μ.V (12, (i : Int), 0))) (fun _ => db m i rp cs * bP m (μ.acc who 1 (12, (i : Int), 0))) := by
 refine aK fun R H h => ?_;obtain ⟨cv, h0⟩ := fu (m := m) (i := i) (rp := rp) (cs := cs) (R := bP m μ * R) (H := H) h.to;refine bj (fun r => Am _ _ H) ?_;refine bD ae ?_;refine aN h0 rfl ?_;refine ak h0 ae rfl ?_;refine af h0 (dI 12 (i : Int) 0) fun _ H1 h1 => ?_;refine aH h1 h0 (by rfl) ?_;refine af h1 (s8 m μ who (12, (i : Int), 0) (by omega)) fun _ H2 h2 => ?_;exact am ⟨(), rfl, (lA (m := m) (i := i) (rp := rp) (cs := cs) (cv := cv) (R := bP m (μ.acc who 1 (12, (i : Int), 0)) * R) h2.to).to⟩
theorem Hu (w h : Nat) (hw : w < 18446744073709551616) (hc : cs.length < 1000) : Sp iW [vp rp, vu w, vu h] (db m i rp cs) (fun _ : Unit => vb (pp w h cs.length)) (fun _ => db m i rp cs) := by
 refine aK fun R H hh => ?_;have hl := eb w;refine bj (fun r => Al _ _ _ H) ?_;refine af hh (pL w hw) fun _ H1 h1 => ?_;refine aa (v := vu (bn w)) rfl ?_;refine aa (v := vi (bC w)) rfl ?_;refine aa (v := vb (d6 w)) rfl ?_
 by_cases hle : h ≤ bn w
 ·refine aa (xx (by omega)) ?_
  refine gs ?_;refine aa (Io hle (by omega)) ?_;obtain ⟨cv, h2⟩ := fu (m := m) (i := i) (rp := rp) (cs := cs) (R := R) (H := H1) h1.to;refine gs ?_;refine ak h2 ae rfl ?_;refine gs ?_;refine aa (dU (by omega) (by omega)) ?_;rw [show ((cs.length : Nat) : Int).toNat = cs.length from xE _];refine gs ?_
  by_cases hk : cs.length ≤ bn w - h
  ·refine aa (xx (by omega)) ?_
   refine gs ?_;exact am ⟨(), by rw [pp, fH ⟨hle, hk⟩], h1.to⟩
  ·refine aa (pr (by omega)) ?_
   refine gs ?_;exact am ⟨(), by rw [pp, e7 (fun q => hk q.2)], h1.to⟩
 ·refine aa (pr (by omega)) ?_
  refine gs ?_;exact am ⟨(), by rw [pp, e7 (fun q => hle q.1)], h1.to⟩
theorem wA (who : Int) (w how : Nat) (hh : how < 3) (hw : w < 18446744073709551616) (hE : μ.N < 1099511627000) :
 Sp gn [vp rp, vi who, vu w, vi (how : Int)] (db m i rp cs * bP m μ) (fun _ : Unit => vb (fZ μ i w (aW w how))) (fun _ => db m i rp cs * bP m (μ.turn who i w (aW w how))) := by
 refine aY (Ao _ _ _ _) fun R H h => ?_;refine af h (Tf w how hw hh) fun _ H1 h1 => ?_
 generalize aW w how = o at h1 ⊢
 cases o with
 | none =>
  refine aa (v := vw 0) rfl ?_;refine aa (v := vb false) rfl ?_;refine gs ?_;refine Qj ?_;refine gs ?_;refine ze rfl ?_;refine gs ?_;exact am ⟨(), rfl, h1.to⟩
 | some n =>
  refine aa (v := vu n) rfl ?_;refine aa (v := vb true) rfl ?_;refine gs ?_;refine lC ?_;obtain ⟨cv, k1⟩ := fu (m := m) (i := i) (rp := rp) (cs := cs) (R := bP m μ * R) (H := H1) h1.to;refine bD ae ?_;refine gs ?_;refine aN k1 rfl ?_;refine gs ?_;refine ak k1 ae rfl ?_;refine gs ?_;refine af k1 (dI 11 (i : Int) 0) fun _ H2 k2 => ?_;refine aH k2 k1 (by rfl) ?_;refine gs ?_;refine af k2 (Gw m μ who (11, (i : Int), 0) w n (by omega)) fun _ H3 k3 => ?_;refine gs ?_;refine am ⟨(), rfl, ?_⟩;have h3 := lA (m := m) (i := i) (rp := rp) (cs := cs) (cv := cv) (R := bP m (μ.swp who (11, (i : Int), 0) w n) * R) (H := H3) k3.to;exact h3.to
end
section
variable (m i rp : Nat) (cs : List Pk) (μ : Mu)
theorem Jp (n : Nat) (h0 : 1 ≤ cs.length ∧ cs.length < 1000) : Sp dp [vp rp, vu n] (cK m i rp cs) (fun _ : Unit => vi ((n % cs.length : Nat) : Int)) (fun _ => cK m i rp cs) := by
 have hlt : n % cs.length < cs.length := Nat.mod_lt _ (by omega);refine aK fun R H h => ?_;obtain ⟨cv, k⟩ := cL h;refine bj (fun r => oB _ _ H) ?_;refine ak k ae rfl ?_;refine fv (s := cv) (l := cs) k ?_;refine aa (dU (by omega) (by omega)) ?_;rw [show ((cs.length : Nat) : Int).toNat = cs.length from xE _];refine aa (ka (by omega)) ?_;refine aa (iS (by omega)) ?_;exact am ⟨(), rfl, h⟩
theorem UG (n : Nat) (h0 : 1 ≤ cs.length ∧ cs.length < 1000) : Sp eS [vp rp, vu n] (db m i rp cs) (fun _ : Unit => vi ((n % cs.length : Nat) : Int)) (fun _ => db m i rp cs) := by
 have hlt : n % cs.length < cs.length := Nat.mod_lt _ (by omega);refine aK fun R H h => ?_;obtain ⟨cv, k⟩ := fu h;refine bj (fun r => pM _ _ H) ?_;refine ak k ae rfl ?_;refine aa (dU (by omega) (by omega)) ?_;rw [show ((cs.length : Nat) : Int).toNat = cs.length from xE _];refine aa (ka (by omega)) ?_;refine aa (iS (by omega)) ?_;exact am ⟨(), rfl, h⟩
theorem Js (who : Int) (n : Nat) (hn : n < 18446744073709551615) (h0 : 1 ≤ cs.length ∧ cs.length < 1000) (hE : μ.N < 1099511627000) :
 Sp ik [vp rp, vi who, vu n] (cK m i rp cs * bL m μ) (fun _ : Unit => .tuple #[]) (fun _ => cK m i rp cs * bL m ((μ.acc who 2 (15, (i : Int), ((n % cs.length : Nat) : Int))).put (15, (i : Int), ((n % cs.length : Nat) : Int)) (n + 1))) := by
 refine aK fun R H h => ?_;obtain ⟨cv, k0⟩ := cL (m := m) (i := i) (rp := rp) (cs := cs) (R := bL m μ * R) (H := H) h.to;refine bj (fun r => yR _ _ _ H) ?_;refine bD ae ?_;refine aN k0 rfl ?_;refine af h (Jp m i rp cs n h0) fun _ H1 h1 => ?_;obtain ⟨cv1, k1⟩ := cL h1;refine aH k1 k0 (by rfl) ?_;refine af h1 (yX m i rp cs 15 ((n % cs.length : Nat) : Int)) fun _ H2 h2 => ?_;obtain ⟨cv2, k2⟩ := cL h2;refine aH k2 k0 (by rfl) ?_;refine aa (gr (b := 1) (by omega)) ?_;refine af h2 (Dt m μ who (15, (i : Int), ((n % cs.length : Nat) : Int)) (n + 1) (by omega)) fun _ H3 h3 => ?_;exact am ⟨(), rfl, h3.to⟩
theorem Hw (who : Int) (n : Nat) (hn : n < 18446744073709551615) (h0 : 1 ≤ cs.length ∧ cs.length < 1000) (hE : μ.N < 1099511627000) :
 Sp iY [vp rp, vi who, vu n] (db m i rp cs * bP m μ) (fun _ : Unit => .tuple #[]) (fun _ => db m i rp cs * bP m ((μ.acc who 2 (15, (i : Int), ((n % cs.length : Nat) : Int))).put (15, (i : Int), ((n % cs.length : Nat) : Int)) (n + 1))) := by
 refine aK fun R H h => ?_;obtain ⟨cv, k0⟩ := fu (m := m) (i := i) (rp := rp) (cs := cs) (R := bP m μ * R) (H := H) h.to;refine bj (fun r => An _ _ _ H) ?_;refine bD ae ?_;refine aN k0 rfl ?_;refine bD ae ?_;refine aN k0 rfl ?_;refine af h (UG m i rp cs n h0) fun _ H1 h1 => ?_;obtain ⟨cv1, k1⟩ := fu h1;refine aH k1 k0 (by rfl) ?_;refine aH k1 k0 (by rfl) ?_;refine af h1 (dI 15 (i : Int) ((n % cs.length : Nat) : Int)) fun _ H2 h2 => ?_;obtain ⟨cv2, k2⟩ := fu (m := m) (i := i) (rp := rp) (cs := cs) (R := bP m μ * R) (H := H2) h2.to;refine aH k2 k0 (by rfl) ?_;refine aa (gr (b := 1) (by omega)) ?_;refine af h2 (t9 m μ who (15, (i : Int), ((n % cs.length : Nat) : Int)) (n + 1) (by omega)) fun _ H3 h3 => ?_;exact am ⟨(), rfl, h3.to⟩
theorem anC (who : Int) (n : Nat) (x : Pk) (h0 : 1 ≤ cs.length ∧ cs.length < 1000) (hE : μ.N < 1099511627000) :
 Sp lL [vp rp, vi who, vu n, .agg (Pk.cells x).toArray] (cK m i rp cs * bL m μ) (fun _ : Unit => .tuple #[]) (fun _ => cK m i rp (cs.set (n % cs.length) x) * bL m (μ.acc who 6 (16, (i : Int), ((n % cs.length : Nat) : Int)))) := by
 have hlt : n % cs.length < cs.length := Nat.mod_lt _ (by omega);refine aY (AA _ _ _ _) fun R H h => ?_;refine aS h fun b H1 h1 => ?_;obtain ⟨cv, k1⟩ := cL (m := m) (i := i) (rp := rp) (cs := cs) (R := bL m μ * (blk b (.cells false (Pk.cells x)) * R)) (H := H1) h1.to;refine bD ae ?_;refine aN k1 rfl ?_;refine af h1 (Jp m i rp cs n h0) fun _ H2 h2 => ?_;obtain ⟨cv2, k2⟩ := cL h2;refine aH k2 k1 (by rfl) ?_;refine af h2 (yX m i rp cs 16 ((n % cs.length : Nat) : Int)) fun _ H3 h3 => ?_;obtain ⟨cv3, k3⟩ := cL h3;refine aH k3 k1 (by rfl) ?_;refine af h3 ((tZ m μ who (16, (i : Int), ((n % cs.length : Nat) : Int)) (by omega)).imp fun _ R H h => jD (N' := μ.N + 2) (by simp) h) fun _ H4 h4 => ?_;obtain ⟨cv4, k4⟩ := cL (m := m) (i := i) (rp := rp) (cs := cs) (R := bL m (μ.acc who 6 (16, (i : Int), ((n % cs.length : Nat) : Int))) * (blk b (.cells false (Pk.cells x)) * R)) (H := H4) h4.to;refine bD ae ?_;refine aN k4 rfl ?_
 -- a cell is told once more, of the same ring
 have again : ∀ {k : Value × AH → OV} {Q : Value → AH → Prop}, (∀ H5, ac (blk rp (.cells false [vp m, vi i, cv4]) * (ts 3 Pk.cells cv4 cs * (bL m (μ.acc who 6 (16, (i : Int), ((n % cs.length : Nat) : Int))) * (blk b (.cells false (Pk.cells x)) * R)))) H5 → wp (k (vi ((n % cs.length : Nat) : Int), H5)) Q) → wp ((FF dp [vp rp, vu n] H4).bind k) Q := by
  intro k Q hk
  have cell4 : Sp dp [vp rp, vu n] (blk rp (.cells false [vp m, vi i, cv4]) * ts 3 Pk.cells cv4 cs) (fun _ : Unit => vi ((n % cs.length : Nat) : Int)) (fun _ => blk rp (.cells false [vp m, vi i, cv4]) * ts 3 Pk.cells cv4 cs) := by
   refine aY (oB _ _) fun R H h => ?_;refine ak h ae rfl ?_;refine fv (s := cv4) (l := cs) h ?_;refine aa (dU (by omega) (by omega)) ?_;rw [show ((cs.length : Nat) : Int).toNat = cs.length from xE _];refine aa (ka (by omega)) ?_;refine aa (iS (by omega)) ?_;exact am ⟨(), rfl, h⟩
  exact af k4 cell4 fun _ H5 h5 => hk H5 h5.to
 refine again fun H5 k5 => ?_;refine aH k5 k4 (by rfl) ?_;refine aR k5 ?_;refine dB k4 k5 rfl ?_;refine JW (s := cv4) (l := cs) (i := n % cs.length) x k5 hlt (.inl ⟨rfl, rfl⟩) rfl (by omega) rfl rfl fun H6 k6 => ?_;refine am ⟨(), rfl, ?_⟩;have h6 := Bv (m := m) (i := i) (rp := rp) (cs := cs.set (n % cs.length) x) (cv := cv4) (R := bL m (μ.acc who 6 (16, (i : Int), ((n % cs.length : Nat) : Int))) * R) (H := H6) k6.to;exact h6.to
end
theorem y7 (k a : Int) : Sp bI [vi k, vi a] emp (fun _ : Unit => e8 (k, a, 0)) (fun _ => emp) := by
 refine aY (zM _ _) fun R H h => ?_;refine bo h fun b H1 h1 => ?_;refine jq ?_;refine eM h1 rfl rfl fun H2 h2 => ?_;refine aR h2 ?_;exact am ⟨(), rfl, h2.to⟩
abbrev Mu.cnt (μ : Mu) (who : Int) (at' : dj) (n : Nat) : Mu := (μ.acc who 3 at').put at' ((μ.V at' + n) % 18446744073709551616)
section
variable (ib m nm : Nat) (c : iF) (nx : Int → Option Nat) (μ : Mu) (who : Int)
theorem OP (hE : μ.N < 1099511627000) : Sp iB [vp ib, vi who] (me ib m nm c nx * bL m μ) (fun _ : Unit => .tuple #[]) (fun _ => me ib m nm c nx * bL m (μ.cnt who (3, 0, 0) 4294967296)) := by
 refine aY (su _ _) fun R H h => ?_;unfold me at h ⊢;refine bD ae ?_;refine aN h rfl ?_;refine af h (y7 3 0) fun _ H1 h1 => ?_;refine aH h1 h (by rfl) ?_;refine af h1 (amF m μ who (3, 0, 0) 4294967296 (by omega)) fun _ H2 h2 => ?_;exact am ⟨(), rfl, h2.to⟩
theorem IT (hE : μ.N < 1099511627000) : Sp gC [vp ib, vi who] (me ib m nm c nx * bL m μ) (fun _ : Unit => .tuple #[]) (fun _ => me ib m nm c nx * bL m (μ.cnt who (3, 0, 0) 1)) := by
 refine aY (vq _ _) fun R H h => ?_;unfold me at h ⊢;refine bD ae ?_;refine aN h rfl ?_;refine af h (y7 3 0) fun _ H1 h1 => ?_;refine aH h1 h (by rfl) ?_;refine af h1 (amF m μ who (3, 0, 0) 1 (by omega)) fun _ H2 h2 => ?_;exact am ⟨(), rfl, h2.to⟩
theorem abY (s : Int) (hE : μ.N < 1099511627000) : Sp jF [vp ib, vi who, vi s] (me ib m nm c nx * bL m μ) (fun _ : Unit => vu (μ.V (9, s, 0))) (fun _ => me ib m nm c nx * bL m (μ.acc who 1 (9, s, 0))) := by
 refine aY (vr _ _ _) fun R H h => ?_;unfold me at h ⊢;refine bD ae ?_;refine aN h rfl ?_;refine ak h ae rfl ?_;refine ah (show (ce (.func (.func bI) #[vi 9] #[]) [vi s]).bind _ = _ from rfl) ?_;refine af h (y7 9 s) fun _ H1 h1 => ?_;refine aH h1 h (by rfl) ?_;refine af h1 (Gi m μ who (9, s, 0) (by omega)) fun _ H2 h2 => ?_;exact am ⟨(), rfl, h2.to⟩
theorem SG (s : Int) (top obj : Nat) (ho : obj < 4294967296) (hE : μ.N < 1099511627000) : Sp ja [vp ib, vi who, vi s, vu top, vi obj] (me ib m nm c nx * bL m μ) (fun _ : Unit => vb (decide (μ.V (9, s, 0) = top))) (fun _ => me ib m nm c nx * bL m (μ.swp who (9, s, 0) top (obj + 1))) := by
 refine aY (ug _ _ _ _ _) fun R H h => ?_;unfold me at h ⊢;refine bD ae ?_;refine aN h rfl ?_;refine ak h ae rfl ?_;refine ah (show (ce (.func (.func bI) #[vi 9] #[]) [vi s]).bind _ = _ from rfl) ?_;refine af h (y7 9 s) fun _ H1 h1 => ?_;refine aH h1 h (by rfl) ?_;refine aa (dU (by omega) (by omega)) ?_;rw [show ((obj : Nat) : Int).toNat = obj from xE _];refine aa (gr (b := 1) (by omega)) ?_;refine af h1 (S5 m μ who (9, s, 0) top (obj + 1) (by omega)) fun _ H2 h2 => ?_;exact am ⟨(), rfl, h2.to⟩
theorem SE (obj : Int) (next : Nat) (hE : μ.N < 1099511627000) : Sp i9 [vp ib, vi who, vi obj, vu next] (me ib m nm c nx * bL m μ) (fun _ : Unit => .tuple #[]) (fun _ => me ib m nm c (fun k => if k = obj then some next else nx k) * bL m (μ.acc who 6 (14, obj, 0))) := by
 refine aY (uf _ _ _ _) fun R H h => ?_;unfold me at h ⊢;refine bD ae ?_;refine aN h rfl ?_;refine ak h ae rfl ?_;refine ah (show (ce (.func (.func bI) #[vi 14] #[]) [vi obj]).bind _ = _ from rfl) ?_;refine af h (y7 14 obj) fun _ H1 h1 => ?_;refine aH h1 h (by rfl) ?_;refine af h1 ((tZ m μ who (14, obj, 0) (by omega)).imp fun _ R H h => jD (N' := μ.N + 2) (by simp) h) fun _ H2 h2 => ?_;refine ak h2 ae rfl ?_;refine aoW (ek := Qz) obj (vu next) h2 fun H3 h3 => ?_;refine am ⟨(), rfl, ?_⟩
 have e : (fun k => ((if k = obj then some next else nx k) : Option Nat).map fun n => vu n) = fun x => if x = obj then some (vu next) else (nx x).map fun n => vu n := by
  funext k
  split <;> rfl
 rw [e];exact h3.to
end
section
variable (ib m : Nat) (sh : Int) (nx : Int → Option Nat) (L : Nat) (μ : Mu) (who : Int)
theorem Nf (hE : μ.N < 1099511627000) : Sp jK [vp ib, vi who] (g8 ib m sh nx L * bP m μ) (fun _ : Unit => .tuple #[]) (fun _ => g8 ib m sh nx L * bP m (μ.cnt who (3, 0, 0) 4294967296)) := by
 refine aK fun R H h => ?_;obtain ⟨kv, nv, ns, hn, h0⟩ := py (ib := ib) (m := m) (sh := sh) (nx := nx) (L := L) (R := bP m μ * R) (H := H) h.to;refine bj (fun r => vQ _ _ H) ?_;refine bD ae ?_;refine aN h0 rfl ?_;refine af h0 (dI 3 0 0) fun _ H1 h1 => ?_;refine aH h1 h0 (by rfl) ?_;refine af h1 (Mq m μ who (3, 0, 0) 4294967296 (by omega)) fun _ H2 h2 => ?_;have h3 := i7 (ib := ib) (m := m) (sh := sh) (nx := nx) (L := L) (kv := kv) (nv := nv) (ns := ns) (R := bP m (μ.cnt who (3, 0, 0) 4294967296) * R) (H := H2) hn h2.to;exact am ⟨(), rfl, h3.to⟩
theorem Hr (hE : μ.N < 1099511627000) : Sp iV [vp ib, vi who] (g8 ib m sh nx L * bP m μ) (fun _ : Unit => .tuple #[]) (fun _ => g8 ib m sh nx L * bP m (μ.cnt who (3, 0, 0) 1)) := by
 refine aK fun R H h => ?_;obtain ⟨kv, nv, ns, hn, h0⟩ := py (ib := ib) (m := m) (sh := sh) (nx := nx) (L := L) (R := bP m μ * R) (H := H) h.to;refine bj (fun r => Ag _ _ H) ?_;refine bD ae ?_;refine aN h0 rfl ?_;refine af h0 (dI 3 0 0) fun _ H1 h1 => ?_;refine aH h1 h0 (by rfl) ?_;refine af h1 (Mq m μ who (3, 0, 0) 1 (by omega)) fun _ H2 h2 => ?_;have h3 := i7 (ib := ib) (m := m) (sh := sh) (nx := nx) (L := L) (kv := kv) (nv := nv) (ns := ns) (R := bP m (μ.cnt who (3, 0, 0) 1) * R) (H := H2) hn h2.to;exact am ⟨(), rfl, h3.to⟩
theorem UE (s : Int) (hE : μ.N < 1099511627000) : Sp lI [vp ib, vi who, vi s] (g8 ib m sh nx L * bP m μ) (fun _ : Unit => vu (μ.V (9, s, 0))) (fun _ => g8 ib m sh nx L * bP m (μ.acc who 1 (9, s, 0))) := by
 refine aK fun R H h => ?_;obtain ⟨kv, nv, ns, hn, h0⟩ := py (ib := ib) (m := m) (sh := sh) (nx := nx) (L := L) (R := bP m μ * R) (H := H) h.to;refine bj (fun r => Ah _ _ _ H) ?_;refine bD ae ?_;refine aN h0 rfl ?_;refine af h0 (dI 9 s 0) fun _ H1 h1 => ?_;refine aH h1 h0 (by rfl) ?_;refine af h1 (s8 m μ who (9, s, 0) (by omega)) fun _ H2 h2 => ?_;have h3 := i7 (ib := ib) (m := m) (sh := sh) (nx := nx) (L := L) (kv := kv) (nv := nv) (ns := ns) (R := bP m (μ.acc who 1 (9, s, 0)) * R) (H := H2) hn h2.to;exact am ⟨(), rfl, h3.to⟩
theorem Qt (s : Int) (top obj : Nat) (ho : obj < 4294967296) (hE : μ.N < 1099511627000) : Sp kz [vp ib, vi who, vi s, vu top, vi obj] (g8 ib m sh nx L * bP m μ) (fun _ : Unit => vb (decide (μ.V (9, s, 0) = top))) (fun _ => g8 ib m sh nx L * bP m (μ.swp who (9, s, 0) top (obj + 1))) := by
 refine aK fun R H h => ?_;obtain ⟨kv, nv, ns, hn, h0⟩ := py (ib := ib) (m := m) (sh := sh) (nx := nx) (L := L) (R := bP m μ * R) (H := H) h.to;refine bj (fun r => yz _ _ _ _ _ H) ?_;refine bD ae ?_;refine aN h0 rfl ?_;refine af h0 (dI 9 s 0) fun _ H1 h1 => ?_;refine aH h1 h0 (by rfl) ?_;refine aa (dU (by omega) (by omega)) ?_;rw [show ((obj : Nat) : Int).toNat = obj from xE _];refine aa (gr (b := 1) (by omega)) ?_;refine af h1 (Gw m μ who (9, s, 0) top (obj + 1) (by omega)) fun _ H2 h2 => ?_;have h3 := i7 (ib := ib) (m := m) (sh := sh) (nx := nx) (L := L) (kv := kv) (nv := nv) (ns := ns) (R := bP m (μ.swp who (9, s, 0) top (obj + 1)) * R) (H := H2) hn h2.to;exact am ⟨(), rfl, h3.to⟩
end
theorem Yu (a : Int) {n : Int} (h : 1 ≤ n) : -n < a.tmod n ∧ a.tmod n < n := by
 have e := Int.natAbs_tmod a n;have : a.natAbs % n.natAbs < n.natAbs := Nat.mod_lt _ (by omega);omega
section
variable (t m p e : Nat) (σ : bd)
theorem BC (sh sl : Nat) (hs : 1 ≤ sh ∧ sh ≤ 4) (flow : Int) : Sp fD [vp t, vi flow] (tab t m sh sl) (fun _ : Unit => vi ((flow.tmod sh + sh).tmod sh)) (fun _ => tab t m sh sl) := by
 refine aY (ti _ _) fun R H h => ?_;unfold tab at h ⊢;have q := Yu flow (n := sh) (by omega);refine ak h ae rfl ?_;refine aa (kH (by omega)) ?_;refine ak h ae rfl ?_;refine aa (aE (by omega) (by omega)) ?_;refine ak h ae rfl ?_;refine aa (kH (by omega)) ?_;exact am ⟨(), rfl, h⟩
theorem arM (μ : Mu) : Sp kO [vp m] (bL m μ) (fun _ : Unit => vi μ.E.length) (fun _ => bL m μ) := by
 refine aK fun R H h => ?_;obtain ⟨⟨c, l, al, es, ck⟩, h1⟩ := ac.ex.1 h;rw [aj, ac.pu] at h1;obtain ⟨hp, h1⟩ := h1;dsimp only at h1;have h2 : ac (blk m (.cells false [.map (some c), l]) * (blk c (.map es ck) * ts 5 Ev.cells l μ.E) * R) H := h1;refine bj (fun r => Ga _ H) ?_;refine ak h2 ae rfl ?_;refine oW (s := l) (l := μ.E) h2 ?_;exact am ⟨(), rfl, h⟩
theorem wU (r : Value) (x : Int) : Sp mv [r, vi x] emp (fun _ : Unit => .tuple #[.agg (ip x).toArray, vb true]) (fun _ => emp) := by
 refine aY (Q2 _ _) fun R H h => ?_;refine bo h fun b H1 h1 => ?_;refine jq ?_;refine eM h1 rfl rfl fun H2 h2 => ?_;refine aR h2 ?_;exact am ⟨(), rfl, h2.to⟩
def fE (x : Cl) : Option Int := if x.a < 1 ∨ 65536 < x.a then some 3 else if x.flow < 0 ∨ 1048576 < x.flow then some 5 else none
end
structure Tk where
 who : Int
 x : Cl
 s : Int
 at' : Nat
 i : Nat
 obj : Nat
 found : Bool
 w : Nat
 q : Nat
 mark : Int
 top : Nat
 code : Int
abbrev bd.mem (σ : bd) (μ : Mu) : bd := { σ with μ := μ }
def ss (v : Nat) (flow : Int) : Bool := decide (v ≠ 0 ∧ ((v / 4294967296 : Nat) : Int) - 1 = flow)
def aV (σ : bd) (t : Tk) : Tk :=
 let v := σ.μ.V (10, t.s, (t.i : Int))
 { t with i := t.i + 1, found := ss v t.x.flow, obj := if ss v t.x.flow = true then v % 4294967296 else t.obj }
abbrev aZ (σ : bd) (t : Tk) : bd := σ.mem (σ.μ.acc t.who 1 (10, t.s, (t.i : Int)))
def cD (σ : bd) (t : Tk) : Bool := decide (σ.c.sl ≤ (t.i : Int))
def aC (σ : bd) (o : Nat) : List Pk := ((σ.obs[o]?).map (·.2)).getD []
def vA (σ : bd) (t : Tk) : bd :=
 let n := (aC σ t.obj).length
 let k := bn t.w % n
 { σ with μ := σ.μ.acc t.who 6 (16, (t.obj : Int), (k : Int)), obs := σ.obs.modify t.obj fun p => (p.1, p.2.set k ⟨t.x.flow, t.x.a, t.x.b⟩) }
abbrev BA (σ : bd) (t : Tk) : bd :=
 let n := (aC σ t.obj).length
 let k := bn t.w % n
 σ.mem ((σ.μ.acc t.who 2 (15, (t.obj : Int), (k : Int))).put (15, (t.obj : Int), (k : Int)) (bn t.w + 1))
abbrev dg (σ : bd) (t : Tk) : bd := σ.mem (σ.μ.acc t.who 1 (11, (t.obj : Int), 0))
abbrev jA (σ : bd) (t : Tk) : bd := σ.mem (σ.μ.acc t.who 1 (12, (t.obj : Int), 0))
def nU (σ : bd) (t : Tk) : Bool := pp t.w (σ.μ.V (12, (t.obj : Int), 0)) (aC σ t.obj).length
abbrev eK (σ : bd) (t : Tk) : bd := σ.mem (σ.μ.acc t.who 1 (2, 0, 0))
def aq (σ : bd) (t : Tk) (now : Int) : bd × Tk × Bool :=
 let scan (σ : bd) (t : Tk) : bd × Tk × Bool :=
  let t1 := aV σ t
  (aZ σ t, { t1 with at' := if t1.found = true then 6 else if cD σ t1 = true then 3 else 2 }, false)
 match t.at' with
 | 0 => match fE t.x with
  | some e => (σ.note now t.who e, { t with code := e }, true)
  | none => scan σ t
 | 2 => scan σ t
 | 3 => let l : dj := (8, t.s, 0)
  (σ.mem (σ.μ.swp t.who l 0 1), (if σ.μ.V l = 0 then { t with at' := 4, i := 0 } else t), false)
 | 4 => let t1 := aV σ t
  if t1.found = true then (aZ σ t, { t1 with at' := 5 }, false)
  else if cD σ t1 = true then ((aZ σ t).note now t.who 5, { t1 with at' := 5, code := 5 }, false)
  else (aZ σ t, t1, false)
 | 5 => let l : dj := (8, t.s, 0)
  (σ.mem ((σ.μ.acc t.who 2 l).put l 0), { t with at' := 6 }, !t.found)
 | 6 => (σ.mem (σ.μ.acc t.who 5 (13, (t.obj : Int), 0)), { t with at' := 7 }, false)
 | 7 => let w := σ.μ.V (11, (t.obj : Int), 0)
  (dg σ t, { t with w := w, at' := if bC w = 2 then 3 else 8 }, false)
 | 8 => (jA σ t, { t with at' := if nU σ t = true then 15 else if bC t.w = 1 then 9 else 12 }, false)
 | 9 => let o := aW t.w 0
  let σ1 := σ.mem (σ.μ.turn t.who t.obj t.w o)
  if fZ σ.μ t.obj t.w o = true then (σ1.note now t.who 0, { t with at' := 10, code := 0 }, false) else (σ1, { t with at' := 7 }, false)
 | 10 => (vA σ t, { t with at' := 11 }, false)
 | 11 => (BA σ t, t, true)
 | 12 => (σ.mem (σ.μ.cnt t.who (3, 0, 0) 4294967296), { t with at' := 13 }, false)
 | 13 => let o := aW t.w 0
  let σ1 := σ.mem (σ.μ.turn t.who t.obj t.w o)
  if fZ σ.μ t.obj t.w o = true then (σ1.note now t.who 0, { t with at' := 14, code := 0 }, false) else (σ1, { t with at' := 20 }, false)
 | 14 => (vA σ t, { t with at' := 21 }, false)
 | 15 => let q := σ.μ.V (2, 0, 0)
  (eK σ t, { t with q := q, at' := if q % 2 = 1 then 7 else 16 }, false)
 | 16 => let w := σ.μ.V (11, (t.obj : Int), 0)
  (dg σ t, { t with w := w, at' := if bC w = 2 then 3 else 17 }, false)
 | 17 => (jA σ t, (if nU σ t = true then { t with at' := 18, mark := now } else { t with at' := 7 }), false)
 | 18 => if σ.μ.V (2, 0, 0) = t.q then ((eK σ t).note t.mark t.who 9, { t with code := 9 }, true) else (eK σ t, { t with at' := 7 }, false)
 | 20 => (σ.mem (σ.μ.cnt t.who (3, 0, 0) 1), { t with at' := 7 }, false)
 | 21 => (BA σ t, { t with at' := 22 }, false)
 | 22 => (σ.mem (σ.μ.acc t.who 1 (9, t.s, 0)), { t with top := σ.μ.V (9, t.s, 0), at' := 23 }, false)
 | 23 => ({ σ with μ := σ.μ.acc t.who 6 (14, (t.obj : Int), 0), nx := fun k => if k = (t.obj : Int) then some t.top else σ.nx k }, { t with at' := 24 }, false)
 | 24 => let l : dj := (9, t.s, 0)
  (σ.mem (σ.μ.swp t.who l t.top (t.obj + 1)), { t with at' := if σ.μ.V l = t.top then 25 else 22 }, false)
 | _ => (σ.mem (σ.μ.cnt t.who (3, 0, 0) 1), t, true)
def aM (p : Nat) (rp : List Nat) (σ : bd) : SP := ex fun g : PIds => pu (g.rp = rp ∧ rp.length = σ.obs.length) * az p g σ
theorem dh {p : Nat} {rp : List Nat} {σ : bd} {R : SP} {H : AH} (h : ac (aM p rp σ * R) H) : ∃ g : PIds, g.rp = rp ∧ rp.length = σ.obs.length ∧ ac (az p g σ * R) H := by
 obtain ⟨g, h1⟩ := ac.ex.1 h;rw [aj, ac.pu] at h1;exact ⟨g, h1.1.1, h1.1.2, h1.2⟩
theorem bz {p : Nat} {rp : List Nat} {σ : bd} {R : SP} {H : AH} (g : PIds) (h1 : g.rp = rp) (h2 : rp.length = σ.obs.length) (h : ac (az p g σ * R) H) : ac (aM p rp σ * R) H :=
 ac.ex.2 ⟨g, by rw [aj]; exact ac.pu.2 ⟨⟨h1, h2⟩, h⟩⟩
theorem Pj {p : Nat} {σ : bd} {R : SP} {H : AH} (h : ac (gy p σ * R) H) : ∃ rp, ac (aM p rp σ * R) H := by
 obtain ⟨g, hg, h1⟩ := ou h;exact ⟨g.rp, bz g rfl hg h1⟩
theorem MH (m : Nat) : ∀ {ps : List (Nat × List Pk)} {i j : Nat} (h : i < ps.length), ∃ R, nC m j ps = cK m (j + i) (ps[i]).1 (ps[i]).2 * R ∧ ∀ q : Nat × List Pk, nC m j (ps.set i q) = cK m (j + i) q.1 q.2 * R := by
 intro ps
 induction ps with
 | nil => intro i j h; simp at h
 | cons p ps ih =>
  intro i j h
  cases i with
  | zero => exact ⟨nC m (j + 1) ps, rfl, fun q => rfl⟩
  | succ i =>
   obtain ⟨R, e1, e2⟩ := ih (i := i) (j := j + 1) (by simpa using h);refine ⟨cK m j p.1 p.2 * R, ?_, fun q => ?_⟩
   ·show cK m j p.1 p.2 * nC m (j + 1) ps = _
    rw [e1, cu, show j + 1 + i = j + (i + 1) from by omega]; rfl
   ·show cK m j p.1 p.2 * nC m (j + 1) (ps.set i q) = _
    rw [e2, cu, show j + 1 + i = j + (i + 1) from by omega]
theorem MI (m : Nat) : ∀ {ps : List (Nat × List Pk)} {i j : Nat} (h : i < ps.length), ∃ R, jV m j ps = db m (j + i) (ps[i]).1 (ps[i]).2 * R ∧ ∀ q : Nat × List Pk, jV m j (ps.set i q) = db m (j + i) q.1 q.2 * R := by
 intro ps
 induction ps with
 | nil => intro i j h; simp at h
 | cons p ps ih =>
  intro i j h
  cases i with
  | zero => exact ⟨jV m (j + 1) ps, rfl, fun q => rfl⟩
  | succ i =>
   obtain ⟨R, e1, e2⟩ := ih (i := i) (j := j + 1) (by simpa using h);refine ⟨db m j p.1 p.2 * R, ?_, fun q => ?_⟩
   ·show db m j p.1 p.2 * jV m (j + 1) ps = _
    rw [e1, cu, show j + 1 + i = j + (i + 1) from by omega]; rfl
   ·show db m j p.1 p.2 * jV m (j + 1) (ps.set i q) = _
    rw [e2, cu, show j + 1 + i = j + (i + 1) from by omega]
def atN (ns : List (Int × Nat)) (obj : Int) : Int := match ns.findIdx? fun p => p.1 == obj with
 | some i => i
 | none => -1
theorem Nr {ns : List (Int × Nat)} {obj : Int} {i : Nat} (h : ∀ j, j < i → ∀ p, ns[j]? = some p → p.1 ≠ obj) :
 (∀ (hi : i < ns.length), ns[i].1 = obj → atN ns obj = i) ∧ (ns.length ≤ i → atN ns obj = -1) := by
 constructor
 ·intro hi e
  unfold atN
  have : ns.findIdx? (fun p => p.1 == obj) = some i := by
   rw [List.findIdx?_eq_some_iff_getElem];refine ⟨hi, by simpa using e, fun j hj => ?_⟩;have := h j hj ns[j] (by rw [cG])
   simpa using this
  rw [this]
 ·intro hi
  unfold atN
  have : ns.findIdx? (fun p => p.1 == obj) = none := by
   rw [List.findIdx?_eq_none_iff];intro p hp;obtain ⟨j, hj, rfl⟩ := List.getElem_of_mem hp;have := h j (by omega) ns[j] (by rw [cG])
   simpa using this
  rw [this]
theorem aeZ (ib m : Nat) (sh : Int) (kv nv : Value) (ns : List (Int × Nat)) (hn : ns.length < 1000000) (obj : Int) :
 Sp nc [vp ib, vi obj] (blk ib (.cells false [vp m, vi sh, kv, nv]) * ts 1 eF kv (ns.map (·.1))) (fun _ : Unit => vi (atN ns obj)) (fun _ => blk ib (.cells false [vp m, vi sh, kv, nv]) * ts 1 eF kv (ns.map (·.1))) := by
 refine aY (Cu _ _) fun R H h => ?_;refine ah (vR _ _ _ H) ?_;refine ah (vT _ _ _ _ H) ?_;have loop : ∀ (d i : Nat), i + d = ns.length → (∀ j, j < i → ∀ p, ns[j]? = some p → p.1 ≠ obj) →
  wp (i0 (vp ib) (vi obj) (vi 0) (vi i) H) fun v' H' => ∃ x : Unit, v' = vi (atN ns obj) ∧ ac (blk ib (.cells false [vp m, vi sh, kv, nv]) * ts 1 eF kv (ns.map (·.1)) * R) H' := by
  intro d
  induction d with
  | zero =>
   intro i hi hj;refine ah (nq _ _ _ _ H) ?_;refine ak h ae rfl ?_;refine oW (s := kv) h ?_;rw [sE];refine aa (bE (by omega)) ?_;refine gs ?_;refine ah (sZ _ H) ?_;refine ah (vS _ H) ?_;exact am ⟨(), by rw [(Nr hj).2 (by omega)], h⟩
  | succ d ih =>
   intro i hi hj
   have hil : i < ns.length := by omega
   refine ah (nq _ _ _ _ H) ?_;refine ak h ae rfl ?_;refine oW (s := kv) h ?_;rw [sE];refine aa (bS (by omega)) ?_;refine gs ?_;refine ah (vU _ _ _ _ H) ?_;refine ak h ae rfl ?_;refine jf (s := kv) (enc := eF) (l := ns.map fun p : Int × Nat => p.1) (v := vi ns[i].1) h (i := i) (by simpa using hil) (by simp [eF]) ?_
   by_cases e : ns[i].1 = obj
   ·refine aa (bi e) ?_
    refine gs ?_;exact am ⟨(), by rw [(Nr hj).1 hil e], h⟩
   ·refine aa (aG e) ?_
    refine gs ?_;refine ah (vV _ _ _ _ H) ?_;refine aa (aE (by omega) (by omega)) ?_;refine ih (i + 1) (by omega) fun j hj2 p hp => ?_
    rcases Nat.lt_succ_iff_lt_or_eq.1 hj2 with h1 | rfl
    ·exact hj j h1 p hp
    ·rw [cG hil] at hp
     obtain rfl := iP hp;exact e
 exact loop ns.length 0 (by omega) (fun j hj => by omega)
theorem afK {ns : List (Int × Nat)} {obj : Int} (h : ns.findIdx? (fun p => p.1 == obj) = none) : atN ns obj = -1 := by unfold atN; rw [h]
theorem afL {ns : List (Int × Nat)} {obj : Int} {i : Nat} (h : ns.findIdx? (fun p => p.1 == obj) = some i) : atN ns obj = i := by unfold atN; rw [h]
theorem ab7 {ns : List (Int × Nat)} {obj : Int} (h : ns.findIdx? (fun p => p.1 == obj) = none) (n : Nat) (k : Int) : HQ (ns ++ [(obj, n)]) k = if k = obj then some n else HQ ns k := by
 have hn : ns.find? (fun p => p.1 == obj) = none := by
  rw [List.find?_eq_none];rw [List.findIdx?_eq_none_iff] at h;intro p hp;have := h p hp
  simpa using this
 unfold HQ;rw [List.find?_append]
 by_cases e : k = obj
 ·subst e
  rw [hn, if_pos rfl];simp
 ·rw [if_neg e]
  have : ([(obj, n)] : List (Int × Nat)).find? (fun p => p.1 == k) = none := by
   rw [List.find?_eq_none];intro p hp
   obtain rfl : p = (obj, n) := by simpa using hp
   simpa using fun q => e q.symm
  rw [this]
  cases ns.find? (fun p => p.1 == k) <;> rfl
theorem alW (obj : Int) (n : Nat) (k : Int) : ∀ {ns : List (Int × Nat)} {i : Nat}, ns.findIdx? (fun p => p.1 == obj) = some i → HQ (ns.set i (obj, n)) k = if k = obj then some n else HQ ns k := by
 intro ns
 induction ns with
 | nil => intro i h; simp at h
 | cons p ns ih =>
  intro i h;rw [List.findIdx?_cons] at h
  by_cases e : p.1 = obj
  ·rw [if_pos (by simpa using e)] at h
   obtain rfl := iP h;simp only [List.set_cons_zero, HQ, List.find?_cons]
   by_cases e2 : k = obj
   ·subst e2; simp
   ·have h1 : ((obj == k) : Bool) = false := by simpa using fun q => e2 q.symm
    have h2 : ((p.1 == k) : Bool) = false := by rw [e]; exact h1
    simp [h1, h2, e2]
  ·rw [if_neg (by simpa using e)] at h
   obtain ⟨j, hj, rfl⟩ := bh.1 h;have := ih hj;simp only [List.set_cons_succ, HQ, List.find?_cons] at this ⊢
   by_cases e2 : p.1 = k
   ·have h1 : ((p.1 == k) : Bool) = true := by simpa using e2
    simp only [h1];rw [if_neg (fun q => e (e2.trans q))]
   ·have h1 : ((p.1 == k) : Bool) = false := by simpa using e2
    simp only [h1];exact this
theorem Qs (ib m : Nat) (sh : Int) (nx : Int → Option Nat) (L : Nat) (μ : Mu) (who obj : Int) (next : Nat) (hL : L < 900000) (hE : μ.N < 1099511627000) :
 Sp ky [vp ib, vi who, vi obj, vu next] (g8 ib m sh nx L * bP m μ) (fun _ : Unit => .tuple #[]) (fun _ => g8 ib m sh (fun k => if k = obj then some next else nx k) (L + 1) * bP m (μ.acc who 6 (14, obj, 0))) := by
 refine aK fun R H h => ?_;obtain ⟨kv, nv, ns, ⟨hn, hl⟩, h0⟩ := py (ib := ib) (m := m) (sh := sh) (nx := nx) (L := L) (R := bP m μ * R) (H := H) h.to;refine bj (fun r => yy _ _ _ _ H) ?_;refine bD ae ?_;refine aN h0 rfl ?_;refine af h0 (dI 14 obj 0) fun _ H1 h1 => ?_;refine aH h1 h0 (by rfl) ?_;refine af h1 ((ae0 m μ who 6 (14, obj, 0) (by omega)).imp fun _ R H h => xX (N' := μ.N + 2) (by simp) h) fun _ H2 h2 => ?_;refine af h2 (aeZ ib m sh kv nv ns (by omega) obj) fun _ H3 h3 => ?_
 cases hf : ns.findIdx? (fun p => p.1 == obj) with
 | none =>
  rw [afK hf];refine aa (bS (by omega)) ?_;refine gs ?_;refine ak h3 ae rfl ?_;refine Qi h3 fun b0 H4 h4 => ?_;refine gY (s := kv) (l := ns.map fun p : Int × Nat => p.1) (obj : Int) h4 rfl ?_ (by omega) fun a c H5 h5 => ?_
  ·unfold dc; simp only [sE]; omega
  refine bD ae ?_;refine aN h5 rfl ?_;refine aH h4 h5 (by rfl) ?_;refine Qi h5 fun b1 H6 h6 => ?_;refine gY (s := nv) (l := ns.map fun p : Int × Nat => p.2) (next : Nat) h6 rfl ?_ (by omega) fun a2 c2 H7 h7 => ?_
  ·unfold dc; simp only [sE]; omega
  refine bg h7 ae rfl rfl fun H8 h8 => ?_;refine bg h8 ae rfl rfl fun H9 h9 => ?_
  have e1 : (ns ++ [(obj, next)]).map (fun p : Int × Nat => p.1) = (ns.map fun p : Int × Nat => p.1) ++ [obj] := by rw [HN]; rfl
  have e2 : (ns ++ [(obj, next)]).map (fun p : Int × Nat => p.2) = (ns.map fun p : Int × Nat => p.2) ++ [next] := by rw [HN]; rfl
  refine am ⟨(), rfl, ?_⟩;have h10 := i7 (ib := ib) (m := m) (sh := sh) (nx := fun k => if k = obj then some next else nx k) (L := L + 1) (kv := .slice a ((ns.map fun p : Int × Nat => p.1).length + 1) c) (nv := .slice a2 ((ns.map fun p : Int × Nat => p.2).length + 1) c2) (ns := ns ++ [(obj, next)])
   (R := bP m (μ.acc who 6 (14, obj, 0)) * R) (H := H9) ⟨fun k => by rw [ab7 hf, hn], by simp; omega⟩ (by rw [e1, e2]; exact h9.to)
  exact h10.to
 | some i =>
  rw [afL hf];have hi := (List.findIdx?_eq_some_iff_getElem.1 hf);obtain ⟨hil, hk, _⟩ := hi;refine aa (bE (by omega)) ?_;refine gs ?_;refine ak h3 ae rfl ?_;refine JW (s := nv) (l := ns.map fun p : Int × Nat => p.2) (i := i) (next : Nat) h3 (by simpa using hil) (.inl ⟨rfl, rfl⟩) rfl (by omega) rfl (by simp [Re, splice]) fun H4 h4 => ?_
  have e1 : (ns.set i (obj, next)).map (fun p : Int × Nat => p.1) = ns.map fun p : Int × Nat => p.1 := by
   rw [List.map_set];apply List.ext_getElem?;intro j;rw [List.getElem?_set]
   split
   ·rename_i e
    subst e
    have hk : ns[i].1 = obj := by simpa using hk
    simp [hil, hk]
   ·rfl
  have e2 : (ns.set i (obj, next)).map (fun p : Int × Nat => p.2) = (ns.map fun p : Int × Nat => p.2).set i next := by rw [List.map_set]
  refine am ⟨(), rfl, ?_⟩;have h10 := i7 (ib := ib) (m := m) (sh := sh) (nx := fun k => if k = obj then some next else nx k) (L := L + 1) (kv := kv) (nv := nv) (ns := ns.set i (obj, next))
   (R := bP m (μ.acc who 6 (14, obj, 0)) * R) (H := H4) ⟨fun k => by rw [alW obj next k hf, hn], by rw [OY]; omega⟩ (by rw [e1, e2]; exact h4.to)
  exact h10.to
theorem wO {σ : bd} {o : Nat} (ho : o < σ.obs.length) : aC σ o = (σ.obs[o]).2 := by
 unfold aC;rw [cG ho]; rfl
theorem Bq (p : Nat) (g : PIds) (σ : bd) (o b : Nat) (hl : g.rp.length = σ.obs.length) (ho : o < σ.obs.length) (hb : g.rp[o]? = some b) :
 ∃ R, az p g σ = cK g.m o b (aC σ o) * bL g.m σ.μ * R ∧ ∀ μ' cs', az p g { σ with μ := μ', obs := σ.obs.modify o fun q => (q.1, cs') } = cK g.m o b cs' * bL g.m μ' * R := by
 have hz : o < (g.rp.zip (σ.obs.map fun x => x.2)).length := by simp; omega
 obtain ⟨R, e1, e2⟩ := MH g.m (ps := g.rp.zip (σ.obs.map fun x => x.2)) (j := 0) hz
 have hrp : g.rp[o]'(by omega) = b := by
  rw [cG (by omega)] at hb;exact iP hb
 have e3 : (g.rp.zip (σ.obs.map fun x => x.2))[o] = (b, aC σ o) := by
  rw [List.getElem_zip, wO ho, List.getElem_map, hrp]
 rw [e3] at e1;rw [Nat.zero_add] at e1 e2
 refine ⟨blk p (.cells false [vp g.m, vp g.ib, vp g.tb, vp g.po, vp g.co, vi σ.c.sh, vi σ.c.sl, vi σ.c.wk, vi σ.c.wd, vu σ.c.un, g.ov, .map (some g.pm), g.pv]) * (me g.ib g.m g.nm σ.c σ.nx * (tab g.tb g.m σ.c.sh.toNat σ.c.sl.toNat * (ts 4 NR g.ov ((σ.obs.map fun x => x.1).zip g.rp) * (R *
  (mpS Qz g.pm (fun k => (σ.places k).map fun n => vi n) * ts 7 Pt.cells g.pv σ.pts))))), ?_, fun μ' cs' => ?_⟩
 ·unfold az
  rw [e1]
  ac_rfl
 ·unfold az
  dsimp only
  have e4 : (σ.obs.modify o fun q => (q.1, cs')).map (fun x => x.1) = σ.obs.map fun x => x.1 := by
   apply List.ext_getElem?;intro j;simp only [vz, List.getElem?_modify]
   cases σ.obs[j]? with
   | none => rfl
   | some q => simp only [fA]; split <;> rfl
  have e5 : g.rp.zip ((σ.obs.modify o fun q => (q.1, cs')).map fun x => x.2) = (g.rp.zip (σ.obs.map fun x => x.2)).set o (b, cs') := by
   apply List.ext_getElem?;intro j;rw [List.getElem?_set]
   by_cases hj : o = j
   ·subst hj
    rw [if_pos rfl, if_pos hz];exact List.getElem?_zip_eq_some.2 ⟨hb, by simp [List.getElem?_modify, cG ho]⟩
   ·rw [if_neg hj]
    have : (List.map (fun x => x.2) (σ.obs.modify o fun q => (q.1, cs')))[j]? = (σ.obs.map fun x => x.2)[j]? := by
     simp only [vz, List.getElem?_modify]
     cases σ.obs[j]? with
     | none => rfl
     | some q => show some (if o = j then (q.1, cs') else q).2 = some q.2; rw [if_neg hj]
    simp only [List.zip, List.getElem?_zipWith, this]
  rw [e4, e5, e2]
  ac_rfl
theorem Ge {σ : bd} {o : Nat} (ho : o < σ.obs.length) : (σ.obs.modify o fun q => (q.1, aC σ o)) = σ.obs := by
 apply List.ext_getElem?;intro j;rw [List.getElem?_modify]
 cases hj : σ.obs[j]? with
 | none => rfl
 | some q =>
  show some (if o = j then _ else _) = some q
  by_cases e : o = j
  ·subst e
   rw [if_pos rfl];unfold aC;rw [hj]; rfl
  ·rw [if_neg e]
section
variable {f : Nat} {args : List Value} {v : Unit → Value} {p : Nat} {g : PIds} {σ : bd} {o b : Nat}
theorem ae8 {μ' : Mu} {cs' : List Pk} (hl : g.rp.length = σ.obs.length) (ho : o < σ.obs.length) (hb : g.rp[o]? = some b)
 (s : Sp f args (cK g.m o b (aC σ o) * bL g.m σ.μ) v (fun _ => cK g.m o b cs' * bL g.m μ')) :
 Sp f args (az p g σ) v (fun _ => az p g { σ with μ := μ', obs := σ.obs.modify o fun q => (q.1, cs') }) := by
 obtain ⟨R', e1, e2⟩ := Bq p g σ o b hl ho hb;intro R H h;rw [e1, aj] at h;obtain ⟨x, H', h1, h2⟩ := s _ _ h;exact ⟨x, H', h1, by rw [e2, aj]; exact h2⟩
theorem jt {μ' : Mu} (hl : g.rp.length = σ.obs.length) (ho : o < σ.obs.length) (hb : g.rp[o]? = some b)
 (s : Sp f args (cK g.m o b (aC σ o) * bL g.m σ.μ) v (fun _ => cK g.m o b (aC σ o) * bL g.m μ')) :
 Sp f args (az p g σ) v (fun _ => az p g (σ.mem μ')) := by
 have := ae8 (p := p) hl ho hb s;rw [Ge ho] at this;exact this
theorem UK (hl : g.rp.length = σ.obs.length) (ho : o < σ.obs.length) (hb : g.rp[o]? = some b)
 (s : Sp f args (cK g.m o b (aC σ o)) v (fun _ => cK g.m o b (aC σ o))) :
 Sp f args (az p g σ) v (fun _ => az p g σ) := by
 obtain ⟨R', e1, _⟩ := Bq p g σ o b hl ho hb;intro R H h;rw [e1, aj, aj] at h;obtain ⟨x, H', h1, h2⟩ := s _ _ h;exact ⟨x, H', h1, by rw [e1, aj, aj]; exact h2⟩
theorem wC {μ' : Mu} (s : Sp f args (tab g.tb g.m σ.c.sh.toNat σ.c.sl.toNat * bL g.m σ.μ) v (fun _ => tab g.tb g.m σ.c.sh.toNat σ.c.sl.toNat * bL g.m μ')) :
 Sp f args (az p g σ) v (fun _ => az p g (σ.mem μ')) := by
 intro R H h;unfold az at h;obtain ⟨x, H', h1, h2⟩ := s _ H (ac.fr (A := tab g.tb g.m σ.c.sh.toNat σ.c.sl.toNat * bL g.m σ.μ) h);refine ⟨x, H', h1, ?_⟩;unfold az;exact h2.to
theorem J1 (s : Sp f args (tab g.tb g.m σ.c.sh.toNat σ.c.sl.toNat) v (fun _ => tab g.tb g.m σ.c.sh.toNat σ.c.sl.toNat)) :
 Sp f args (az p g σ) v (fun _ => az p g σ) := by
 intro R H h;unfold az at h;obtain ⟨x, H', h1, h2⟩ := s _ H (ac.fr (A := tab g.tb g.m σ.c.sh.toNat σ.c.sl.toNat) h);refine ⟨x, H', h1, ?_⟩;unfold az;exact h2.to
theorem UJ {μ' : Mu} (s : Sp f args (bL g.m σ.μ) v (fun _ => bL g.m μ')) : Sp f args (az p g σ) v (fun _ => az p g (σ.mem μ')) := by
 intro R H h;unfold az at h;obtain ⟨x, H', h1, h2⟩ := s _ H (ac.fr (A := bL g.m σ.μ) h);refine ⟨x, H', h1, ?_⟩;unfold az;exact h2.to
theorem Ii {μ' : Mu} {nx' : Int → Option Nat} (s : Sp f args (me g.ib g.m g.nm σ.c σ.nx * bL g.m σ.μ) v (fun _ => me g.ib g.m g.nm σ.c nx' * bL g.m μ')) :
 Sp f args (az p g σ) v (fun _ => az p g { σ with μ := μ', nx := nx' }) := by
 intro R H h;unfold az at h;obtain ⟨x, H', h1, h2⟩ := s _ H (ac.fr (A := me g.ib g.m g.nm σ.c σ.nx * bL g.m σ.μ) h);refine ⟨x, H', h1, ?_⟩;unfold az;exact h2.to
end
instance awL (p : Nat) (g : PIds) (σ : bd) : Hs (az p g σ) p (.cells false [vp g.m, vp g.ib, vp g.tb, vp g.po, vp g.co, vi σ.c.sh, vi σ.c.sl, vi σ.c.wk, vi σ.c.wd, vu σ.c.un, g.ov, .map (some g.pm), g.pv]) := ⟨by
 intro H h;unfold az at h
 exact h.left.get⟩
theorem nD {P P0 R : SP} {H : AH} {b fn : Nat} {args : List Value} {c : Int} {d : Bool} {Q0 : Unit → SP} {Q : Value → AH → Prop} (h : ac P H)
 (s : Sp fn args P0 (fun _ : Unit => .tuple #[.agg (ip c).toArray, vb d]) Q0) [fr : Fr P (P0 * blk b (.cells false [vi 0, .slice none 0 0, vi 0, vw 0])) R]
 (hk : ∀ H', ac (Q0 () * R) H' → Q (.tuple #[.agg (ip c).toArray, vb d]) H') :
 wp ((FF fn args H).bind fun r2 => (ag r2.1 0).bind fun v3 => (ag r2.1 1).bind fun v4 => (cJ 4 (vp b) v3 r2.2).bind fun H5 => (ax 4 (vp b) H5).bind fun v6 => some (Value.tuple #[v6, v4], H5)) Q := by
 have h0 : ac (P0 * (blk b (.cells false [vi 0, .slice none 0 0, vi 0, vw 0]) * R)) H := by
  have := ac.fr (A := P0 * blk b (.cells false [vi 0, .slice none 0 0, vi 0, vw 0])) h;rw [aj] at this;exact this
 refine af h0 s fun _ H1 h1 => ?_;refine aa (v := .agg (ip c).toArray) rfl ?_;refine aa (v := vb d) rfl ?_;refine eM h1 rfl rfl fun H2 h2 => ?_;refine aR h2 ?_;exact am (hk H2 h2.to)
abbrev fw (e n : Nat) : Value := .func (.func n) #[vp e] #[]
abbrev eB (e p : Nat) (nx rv : Value) (t : Tk) : SP :=
 blk e (.cells false [vp p, vi t.who, vi t.x.op, vi t.x.flow, vi t.x.a, vi t.x.b, vi t.s, nx, vi t.i, vi t.obj, vb t.found, rv, vu t.w, vu t.q, vi t.mark, vu t.top])
def Cj : Nat → Nat
 | 0 => m6 | 2 => ks | 3 => dm | 4 => fc | 5 => fe | 6 => hZ | 7 => cq | 8 => mw
 | 9 => kq | 10 => pH | 11 => mB | 12 => kp | 13 => mC | 14 => mu | 15 => pI | 16 => fM
 | 17 => fL | 18 => gu | 20 => mt | 21 => ku | 22 => dW | 23 => my | 24 => mA | _ => pG
def MJ (rp : List Nat) (t : Tk) (v : Value) : Prop := 7 ≤ t.at' → ∃ b, rp[t.obj]? = some b ∧ v = vp b
def eP (e p : Nat) (rp : List Nat) (σ : bd) (t : Tk) : SP := ex fun v : Value => pu (MJ rp t v) * (eB e p (fw e (Cj t.at')) v t * aM p rp σ)
def eQ (e p : Nat) (rp : List Nat) (r : bd × Tk × Bool) : SP := if r.2.2 = true then aM p rp r.1 else eP e p rp r.1 r.2.1
abbrev cg (r : bd × Tk × Bool) : Value := .tuple #[.agg (ip (if r.2.2 = true then r.2.1.code else 0)).toArray, vb r.2.2]
theorem Ve {e p : Nat} {rp : List Nat} {σ : bd} {t : Tk} {R : SP} {H : AH} (h : ac (eP e p rp σ t * R) H) : ∃ v, MJ rp t v ∧ ac (eB e p (fw e (Cj t.at')) v t * (aM p rp σ * R)) H := by
 obtain ⟨v, h1⟩ := ac.ex.1 h;rw [aj, ac.pu] at h1;exact ⟨v, h1.1, h1.2.to⟩
theorem NQ {e p : Nat} {rp : List Nat} {σ : bd} {t : Tk} {R : SP} {H : AH} {v : Value} {n : Nat} (hv : MJ rp t v) (hn : Cj t.at' = n) (h : ac (eB e p (fw e n) v t * (aM p rp σ * R)) H) : ac (eP e p rp σ t * R) H := by
 subst hn;exact ac.ex.2 ⟨v, by rw [aj]; exact ac.pu.2 ⟨hv, h.to⟩⟩
section
variable (e p : Nat)
theorem auL (nx rv : Value) (n : Nat) (t : Tk) : Sp bN [vp e, fw e n] (eB e p nx rv t) (fun _ : Unit => .tuple #[.agg (ip 0).toArray, vb false]) (fun _ => eB e p (fw e n) rv t) := by
 refine aY (agB _ _) fun R H h => ?_;refine bo h fun b H1 h1 => ?_;refine bg h1 ae rfl rfl fun H2 h2 => ?_;refine jq ?_;refine eM h2 rfl rfl fun H3 h3 => ?_;refine aR h3 ?_;exact am ⟨(), rfl, h3.to⟩
theorem atO (rp : List Nat) (σ : bd) (step who code : Int) (hp : σ.pts.length < 1000000) : Sp gc [vp p, vi step, vi who, .agg (ip code).toArray] (aM p rp σ) (fun _ : Unit => .tuple #[]) (fun _ => aM p rp (σ.note step who code)) := by
 refine aK fun R H h => ?_;obtain ⟨g, hrp, hg, h0⟩ := dh h;unfold az at h0;refine bj (fun r => uo _ _ _ _ H) ?_;refine aS h0 fun b1 H1 h1 => ?_;refine bD ae ?_;refine aN h1 rfl ?_;refine bD ae ?_;refine aN h1 rfl ?_;refine YB (ek := Qz) who h1 ?_;refine aR h1 ?_;refine af h1 (uY code) fun _ H2 h2 => ?_;refine aH h2 h1 rfl ?_;refine aH h2 h1 rfl ?_;refine aoV who h2 h1 ?_
 have ev : (((σ.places who).map fun n => vi n).getD (vi 0)) = vi ((σ.places who).getD 0) := by cases σ.places who <;> rfl
 rw [ev];refine jq ?_;refine Qi h2 fun b0 H3 h3 => ?_;refine gY (⟨step, who, (σ.places who).getD 0, code⟩ : Pt) h3 rfl ?_ (by omega) fun a cc H4 h4 => ?_
 ·unfold dc; omega
 refine bg h4 ae rfl rfl fun H5 h5 => ?_;refine am ⟨(), rfl, ?_⟩;refine bz { g with pv := .slice a (σ.pts.length + 1) cc } hrp hg ?_;unfold az bd.note;exact h5.to
theorem wV (rp : List Nat) (σ : bd) (nx rv : Value) (t : Tk) (now code : Int) (hp : σ.pts.length < 1000000) :
 Sp mz [vp e, vi now, vi code] (eB e p nx rv t * aM p rp σ) (fun _ : Unit => .tuple #[]) (fun _ => eB e p nx rv t * aM p rp (σ.note now t.who code)) := by
 refine aY (Q7 _ _ _) fun R H h => ?_;refine ak h ae rfl ?_;refine ak h ae rfl ?_;refine jq ?_;refine af h (atO p rp σ now t.who code hp) fun _ H1 h1 => ?_;exact am ⟨(), rfl, h1.to⟩
theorem AY (rp : List Nat) (σ : bd) (nx rv : Value) (t : Tk) (now code : Int) (hp : σ.pts.length < 1000000) :
 Sp jo [vp e, vi now, vi code] (eB e p nx rv t * aM p rp σ) (fun _ : Unit => .tuple #[.agg (ip code).toArray, vb true]) (fun _ => eB e p nx rv t * aM p rp (σ.note now t.who code)) := by
 refine aY (Kc _ _ _) fun R H h => ?_;refine bo h fun b H1 h1 => ?_;refine af h1 (wV e p rp σ nx rv t now code hp) fun _ H2 h2 => ?_;exact nD h2 (wU (vp e) code) fun H3 h3 => ⟨(), rfl, h3.to⟩
end
theorem asE {α : Type} {P : SP} {H : AH} {e n g i : Nat} {enc : α → List Value} {l : List α} {s : Value} {Q : Value → AH → Prop} {k : Value → OV} {kk : IntKind} {cs : List Value} (h : ac P H) [r : Rd P s e enc l] [E : Enc enc e] (hi : i < l.length) (hg : g + n ≤ e)
 (hc : ((enc l[i]).drop g).take n = cs) (hk : wp (k (.agg cs.toArray)) Q) : wp (ldN n [.i e (.int kk (i : Int)), .f g] s H k) Q := by
 subst hc;obtain ⟨b, o, ro, row, rfl, h2, h3, h4⟩ := GE (s := s) (enc := enc) (l := l) h hi;unfold ldN;rw [YQ hi, awS];have hm : (i + 1) * e ≤ l.length * e := Nat.mul_le_mul_right _ (by omega);rw [Nat.add_mul] at hm
 have : ax n (qK b (o + i * e + g)) H = some (.agg (((enc l[i]).drop g).take n).toArray) := by
  simp only [ax, uX, ez, bO, h2];rw [if_pos (by omega)]
  congr 3
  rw [← Dm E.len l i hi, ← h4, List.drop_take, List.drop_take, List.drop_take, List.drop_drop, List.drop_drop, List.take_take, List.take_take, Nat.min_eq_left (by omega), Nat.min_eq_left (by omega), Nat.add_assoc]
 show wp ((ax n (qK b (o + i * e + g)) H).bind k) Q;rw [this]; exact hk
structure SOk (σ : bd) : Prop where
 c : da σ.c = true
 N : σ.μ.N < 800000
 pts : σ.pts.length < 900000
 V : ∀ l, σ.μ.V l < 18446744073709551616
 obs : σ.obs.length < 900000
 cells : ∀ o, o < σ.obs.length → 1 ≤ (aC σ o).length ∧ (aC σ o).length < 1000
 slot : ∀ s i, σ.μ.V (10, s, i) ≠ 0 → σ.μ.V (10, s, i) % 4294967296 < σ.obs.length
structure ir (σ : bd) (t : Tk) : Prop where
 obj : 6 ≤ t.at' ∨ t.at' = 5 ∧ t.found = true → t.obj < σ.obs.length
 s : t.s = (t.x.flow.tmod σ.c.sh + σ.c.sh).tmod σ.c.sh
 i : t.at' < 5 → t.at' ≠ 3 → (t.i : Int) < σ.c.sl
 w : t.w < 18446744073709551616
 c5 : t.at' = 5 → t.found = false → t.code = 5
 c0 : t.at' = 10 ∨ t.at' = 11 ∨ t.at' = 14 ∨ 21 ≤ t.at' → t.code = 0
 ats : t.at' = 0 ∨ t.at' = 2 ∨ t.at' = 3 ∨ t.at' = 4 ∨ t.at' = 5 ∨ t.at' = 6 ∨ t.at' = 7 ∨ t.at' = 8 ∨ t.at' = 9 ∨ t.at' = 10 ∨ t.at' = 11 ∨ t.at' = 12 ∨ t.at' = 13 ∨ t.at' = 14 ∨ t.at' = 15 ∨ t.at' = 16 ∨ t.at' = 17 ∨ t.at' = 18 ∨ t.at' = 20 ∨ t.at' = 21 ∨ t.at' = 22 ∨ t.at' = 23 ∨ t.at' = 24 ∨ t.at' = 25
section
variable (e p : Nat) (rp : List Nat) (g : PIds) (σ : bd) (nx rv : Value) (t : Tk) (now : Int)
theorem Br (hl : g.rp.length = σ.obs.length) (o : Nat) (ho : o < σ.obs.length) : Sp ge [vp p, vi o] (az p g σ) (fun _ : Unit => vb true) (fun _ => az p g σ) := by
 have hz : ((σ.obs.map fun x => x.1).zip g.rp).length = σ.obs.length := by simp [hl]
 refine aK fun R H h => ?_;have h0 := h;unfold az at h0;refine bj (fun r => us _ _ H) ?_;refine aa (xx (by omega)) ?_;refine gs ?_;refine ak h ae rfl ?_;refine gs ?_;refine i4 (s := g.ov) h0 ?_;rw [hz];refine gs ?_;refine aa (bS (by omega)) ?_;refine gs ?_;exact am ⟨(), rfl, h⟩
theorem sU (hl : g.rp.length = σ.obs.length) (o b : Nat) (ho : o < σ.obs.length) (hb : g.rp[o]? = some b) : Sp ef [vp p, vi o] (az p g σ) (fun _ : Unit => vp b) (fun _ => az p g σ) := by
 have hz : ((σ.obs.map fun x => x.1).zip g.rp).length = σ.obs.length := by simp [hl]
 refine aY (uq _ _) fun R H h => ?_;refine af h (Br p g σ hl o ho) fun _ H1 h1 => ?_;refine gs ?_;rw [Bool.not_true];refine gs ?_;refine ak h1 ae rfl ?_;have h2 := h1;unfold az at h2
 have hb' : g.rp[o]'(by omega) = b := by rw [cG (by omega)] at hb; exact iP hb
 refine aoY (v := vp b) (enc := NR) (l := (σ.obs.map fun x : Ob × List Pk => x.1).zip g.rp) h2 (by omega) (by omega) ?_ ?_
 ·show some (vp ((σ.obs.map fun x => x.1).zip g.rp)[o].2) = _
  rw [List.getElem_zip, hb']
 exact am ⟨(), rfl, h1.to⟩
theorem S9 (hl : g.rp.length = σ.obs.length) (who : Int) (o : Nat) (ho : o < σ.obs.length) (hN : σ.μ.N < 800000) : Sp jJ [vp p, vi who, vi o] (az p g σ) (fun v : Value => v) (fun _ => az p g (σ.mem (σ.μ.acc who 5 (13, (o : Int), 0)))) := by
 have hz : ((σ.obs.map fun x => x.1).zip g.rp).length = σ.obs.length := by simp [hl]
 refine aY (vN _ _ _) fun R H h => ?_;refine bo h fun b H1 h1 => ?_;refine af h1 (Br p g σ hl o ho) fun _ H2 h2 => ?_;refine gs ?_;rw [Bool.not_true];refine gs ?_;refine ak h2 ae rfl ?_;refine jq ?_;refine af h2 (UJ (p := p) (g := g) (σ := σ) ((alI g.m σ.μ who (13, (o : Int), 0) (by omega)).imp fun _ R H h => jD (N' := σ.μ.N + 2) (by simp) h)) fun _ H3 h3 => ?_;refine ak h3 ae rfl ?_;have h4 := h3;unfold az at h4;refine asE (enc := NR) (l := (σ.obs.map fun x : Ob × List Pk => x.1).zip g.rp) h4 (by omega) (by omega) (show _ = [_, _, _] from rfl) ?_;refine eM h3 rfl rfl fun H5 h5 => ?_;refine aR h5 ?_;exact am ⟨_, rfl, h5.to⟩
theorem qF (who : Int) (hN : σ.μ.N < 800000) : Sp dF [vp p, vi who] (az p g σ) (fun _ : Unit => vu (σ.μ.V (2, 0, 0))) (fun _ => az p g (σ.mem (σ.μ.acc who 1 (2, 0, 0)))) := by
 refine aY (vO _ _) fun R H h => ?_;refine ak h ae rfl ?_;refine jq ?_;refine af h (UJ (p := p) (g := g) (σ := σ) (Gi g.m σ.μ who (2, 0, 0) (by omega))) fun _ H1 h1 => ?_;exact am ⟨(), rfl, h1.to⟩
theorem Pl (who : Int) (hN : σ.μ.N < 800000) : Sp eg [vp p, vi who] (az p g σ) (fun _ : Unit => .tuple #[]) (fun _ => az p g (σ.mem (σ.μ.cnt who (2, 0, 0) 1))) := by
 refine aY (ur _ _) fun R H h => ?_;refine ak h ae rfl ?_;refine jq ?_;refine af h (UJ (p := p) (g := g) (σ := σ) (amF g.m σ.μ who (2, 0, 0) 1 (by omega))) fun _ H1 h1 => ?_;exact am ⟨(), rfl, h1.to⟩
theorem GY (b : Bool) (h : ss (σ.μ.V (10, t.s, (t.i : Int))) t.x.flow = b) : aV σ t = { t with i := t.i + 1, found := b, obj := if b = true then σ.μ.V (10, t.s, (t.i : Int)) % 4294967296 else t.obj } := by
 subst h
 rfl
theorem Vg (S : SOk σ) (hi : (t.i : Int) < σ.c.sl) : Sp ya [vp e] (eB e p nx rv t * az p g σ) (fun _ : Unit => vb (cD σ (aV σ t))) (fun _ => eB e p nx rv (aV σ t) * az p g (aZ σ t)) := by
 have hc := bQ.1 S.c;refine aY (Y8 _) fun R H h => ?_;refine ak h ae rfl ?_;refine ak h ae rfl ?_;refine ak h ae rfl ?_;refine ak h ae rfl ?_;refine ak h ae rfl ?_;refine af h (wC (p := p) (g := g) (σ := σ) (BD g.tb g.m σ.c.sh.toNat σ.c.sl.toNat σ.μ t.who t.s t.i (by have := S.N; omega) (S.V _))) fun _ H1 h1 => ?_
 have fin : ∀ (t1 : Tk) (H' : AH), t1.i = t.i + 1 → ac (eB e p nx rv t1 * (az p g (aZ σ t) * R)) H' → wp (tG (vp e) (vb false) H') fun v' H' => ∃ _x : Unit, v' = vb (cD σ t1) ∧ ac (eB e p nx rv t1 * az p g (aZ σ t) * R) H' := by
  intro t1 H' hi1 h';refine ah (Kb _ _ H') ?_;refine bD ae ?_;refine aN h' rfl ?_;refine ak h' ae rfl ?_;refine ak h' ae rfl ?_;refine af h' (J1 (p := p) (g := g) (σ := aZ σ t) (BE g.tb g.m σ.c.sh.toNat σ.c.sl.toNat)) fun _ H2 h2 => ?_;refine aH h2 h' (by rfl) ?_;refine aa (v := vb (cD σ t1)) ?_ ?_
  ·rw [tB]
   congr 3
   apply propext;omega
  exact am ⟨(), rfl, h2.to⟩
 by_cases hv : σ.μ.V (10, t.s, (t.i : Int)) = 0
 ·have e1 : iw (σ.μ.V (10, t.s, (t.i : Int))) = .tuple #[vi 0, vi 0, vb false] := by rw [iw, if_pos hv]
  rw [e1];refine aa (v := vi 0) rfl ?_;refine aa (v := vi 0) rfl ?_;refine aa (v := vb false) rfl ?_;refine ak h1 ae rfl ?_;refine aa (aE (by omega) (by omega)) ?_;rw [show ((t.i : Nat) : Int) + 1 = ((t.i + 1 : Nat) : Int) from by omega];refine bg h1 ae rfl rfl fun H2 h2 => ?_;refine ah (wQ _ _ _ _ _ H2) ?_;refine gs ?_;refine bg h2 ae rfl rfl fun H3 h3 => ?_;refine ak h3 ae rfl ?_;refine gs ?_
  have e2 : aV σ t = { t with i := t.i + 1, found := false } := by
   have : ss (σ.μ.V (10, t.s, (t.i : Int))) t.x.flow = false := by simp [ss, hv]
   exact (GY σ t _ this).trans rfl
  rw [e2];exact fin _ H3 rfl h3.to
 ·have e1 : iw (σ.μ.V (10, t.s, (t.i : Int))) = .tuple #[vi ((σ.μ.V (10, t.s, (t.i : Int)) / 4294967296 : Nat) - 1), vi (σ.μ.V (10, t.s, (t.i : Int)) % 4294967296 : Nat), vb true] := by rw [iw, if_neg hv]
  rw [e1];refine aa (v := vi ((σ.μ.V (10, t.s, (t.i : Int)) / 4294967296 : Nat) - 1)) rfl ?_;refine aa (v := vi (σ.μ.V (10, t.s, (t.i : Int)) % 4294967296 : Nat)) rfl ?_;refine aa (v := vb true) rfl ?_;refine ak h1 ae rfl ?_;refine aa (aE (by omega) (by omega)) ?_;rw [show ((t.i : Nat) : Int) + 1 = ((t.i + 1 : Nat) : Int) from by omega];refine bg h1 ae rfl rfl fun H2 h2 => ?_;refine ah (wQ _ _ _ _ _ H2) ?_;refine gs ?_;refine ak h2 (cj (aP (aP be))) rfl ?_
  by_cases hf : ((σ.μ.V (10, t.s, (t.i : Int)) / 4294967296 : Nat) : Int) - 1 = t.x.flow
  ·refine iq ?_
   refine aa (bi hf) ?_;refine gs ?_;refine bg h2 ae rfl rfl fun H3 h3 => ?_;refine ak h3 ae rfl ?_;refine gs ?_;refine bg h3 ae rfl rfl fun H4 h4 => ?_
   have e2 : aV σ t = { t with i := t.i + 1, found := true, obj := σ.μ.V (10, t.s, (t.i : Int)) % 4294967296 } := by
    have : ss (σ.μ.V (10, t.s, (t.i : Int))) t.x.flow = true := fH ⟨hv, hf⟩;exact (GY σ t _ this).trans rfl
   rw [e2];exact fin _ H4 rfl h4.to
  ·refine iq ?_
   refine aa (aG hf) ?_;refine gs ?_;refine bg h2 ae rfl rfl fun H3 h3 => ?_;refine ak h3 ae rfl ?_;refine gs ?_
   have e2 : aV σ t = { t with i := t.i + 1, found := false } := by
    have : ss (σ.μ.V (10, t.s, (t.i : Int))) t.x.flow = false := e7 fun q => hf q.2;exact (GY σ t _ this).trans rfl
   rw [e2];exact fin _ H3 rfl h3.to
end
theorem i1 {rp : List Nat} {t : Tk} {v : Value} (h : t.at' < 7) : MJ rp t v := fun h' => by omega
theorem cS {rp : List Nat} {t : Tk} {b : Nat} (h : rp[t.obj]? = some b) : MJ rp t (vp b) := fun _ => ⟨b, h, rfl⟩
section
variable {e p : Nat} {rp : List Nat} {g : PIds} {σ σ' : bd} {t t' : Tk} {R P : SP} {H : AH} {r : bd × Tk × Bool} {v : Value} {n : Nat} {c : Int}
theorem dV (h : ac (eP e p rp σ t * R) H) : ∃ (nx rv : Value) (g : PIds), MJ rp t rv ∧ g.rp = rp ∧ rp.length = σ.obs.length ∧ nx = fw e (Cj t.at') ∧ ac (eB e p nx rv t * (az p g σ * R)) H := by
 obtain ⟨rv, h1, h2⟩ := Ve h;obtain ⟨g, h3, h4, h5⟩ := dh (p := p) (rp := rp) (σ := σ) (R := eB e p (fw e (Cj t.at')) rv t * R) (H := H) h2.to;exact ⟨_, rv, g, h1, h3, h4, rfl, h5.to⟩
theorem Kf (hr : r = (σ', t', false)) (hv : MJ rp t' v) (hn : Cj t'.at' = n) (h : ac (eB e p (fw e n) v t' * (aM p rp σ' * R)) H) :
 ∃ x : Unit, (.tuple #[.agg (ip 0).toArray, vb false]) = cg r ∧ ac (eQ e p rp r * R) H := by
 subst hr;exact ⟨(), rfl, NQ hv hn h⟩
theorem d7 (hr : r = (σ', t', false)) (hv : MJ g.rp t' v) (hn : Cj t'.at' = n) (hl : g.rp.length = σ'.obs.length) (h : ac (eB e p (fw e n) v t' * (az p g σ' * R)) H) :
 ∃ x : Unit, (.tuple #[.agg (ip 0).toArray, vb false]) = cg r ∧ ac (eQ e p g.rp r * R) H := by
 refine Kf hr hv hn ?_;have h1 := bz (p := p) (rp := g.rp) (σ := σ') (R := eB e p (fw e n) v t' * R) g rfl hl h.to;exact h1.to
theorem Ep (hr : r = (σ', t', true)) (hc : t'.code = c) (h : ac (aM p rp σ' * R) H) :
 ∃ x : Unit, (.tuple #[.agg (ip c).toArray, vb true]) = cg r ∧ ac (eQ e p rp r * R) H := by
 subst hr;subst hc;exact ⟨(), rfl, h⟩
theorem gX (nx rv : Value) (t' : Tk) (n : Nat) {b : Nat} {Q : Value → AH → Prop} (h : ac P H) [fr : Fr P (eB e p nx rv t' * blk b (.cells false [vi 0, .slice none 0 0, vi 0, vw 0])) R]
 (hk : ∀ H', ac (eB e p (fw e n) rv t' * R) H' → Q (.tuple #[.agg (ip 0).toArray, vb false]) H') :
 wp ((FF bN [vp e, fw e n] H).bind fun r2 => (ag r2.1 0).bind fun v3 => (ag r2.1 1).bind fun v4 => (cJ 4 (vp b) v3 r2.2).bind fun H5 => (ax 4 (vp b) H5).bind fun v6 => some (Value.tuple #[v6, v4], H5)) Q :=
 nD h (auL e p nx rv n t') hk
end
section
variable (e p : Nat) (rp : List Nat) (σ : bd) (t : Tk) (now : Int)
theorem aeD (S : SOk σ) (T : ir σ t) (hat : t.at' = 3) : Sp dm [vp e, vi now] (eP e p rp σ t) (fun _ : Unit => cg (aq σ t now)) (fun _ => eQ e p rp (aq σ t now)) := by
 have hN : σ.μ.N < 1099511627000 := by have := S.N; omega
 refine aK fun R H h => ?_;obtain ⟨nx, rv, g, hv, rfl, hl, _, h0⟩ := dV h;refine bj (fun r => Q5 _ _ H) ?_;refine bo h0 fun b1 H1 h1 => ?_;refine ak h1 ae rfl ?_;refine ak h1 ae rfl ?_;refine ak h1 ae rfl ?_;refine ak h1 ae rfl ?_;refine af h1 (wC (p := p) (g := g) (σ := σ) (wu g.tb g.m σ.c.sh.toNat σ.c.sl.toNat σ.μ t.who t.s hN)) fun _ H2 h2 => ?_
 by_cases hw : σ.μ.V (8, t.s, 0) = 0
 ·rw [fH hw]
  refine gs ?_;rw [Bool.not_true];refine gs ?_;refine bg h2 ae rfl rfl fun H3 h3 => ?_;refine gX (e := e) (p := p) nx rv { t with at' := 4, i := 0 } fc h3 fun H9 h9 => ?_;exact d7 (σ' := σ.mem (σ.μ.swp t.who (8, t.s, 0) 0 1)) (t' := { t with at' := 4, i := 0 }) (v := rv) (n := fc) (by simp only [aq, hat]; rw [if_pos hw]) (i1 (by simp)) rfl hl h9.to
 ·rw [e7 hw]
  refine gs ?_;rw [Bool.not_false];refine gs ?_;refine gX (e := e) (p := p) nx rv t dm h2 fun H9 h9 => ?_;exact d7 (σ' := σ.mem (σ.μ.swp t.who (8, t.s, 0) 0 1)) (t' := t) (v := rv) (n := dm) (by simp only [aq, hat]; rw [if_neg hw]) (i1 (by omega)) (by rw [hat]; rfl) hl h9.to
theorem P6 (S : SOk σ) (T : ir σ t) (hat : t.at' = 5) : Sp fe [vp e, vi now] (eP e p rp σ t) (fun _ : Unit => cg (aq σ t now)) (fun _ => eQ e p rp (aq σ t now)) := by
 have hN : σ.μ.N < 1099511627000 := by have := S.N; omega
 refine aK fun R H h => ?_;obtain ⟨nx, rv, g, hv, rfl, hl, _, h0⟩ := dV h;refine bj (fun r => Ke _ _ H) ?_;refine bo h0 fun b1 H1 h1 => ?_;refine ak h1 ae rfl ?_;refine ak h1 ae rfl ?_;refine ak h1 ae rfl ?_;refine ak h1 ae rfl ?_;refine af h1 (wC (p := p) (g := g) (σ := σ) (zc g.tb g.m σ.c.sh.toNat σ.c.sl.toNat σ.μ t.who t.s hN)) fun _ H2 h2 => ?_;refine ak h2 ae rfl ?_;cases hf : t.found
 ·refine gs ?_
  rw [Bool.not_false];refine gs ?_;refine nD h2 (wU (vp e) 5) fun H9 h9 => ?_;exact Ep (σ' := σ.mem ((σ.μ.acc t.who 2 (8, t.s, 0)).put (8, t.s, 0) 0)) (t' := { t with at' := 6 }) (by simp only [aq, hat, hf]; rfl) (T.c5 hat hf) (bz (p := p) (rp := g.rp) (R := R) g rfl hl h9.to)
 ·refine gs ?_
  rw [Bool.not_true];refine gs ?_;refine gX (e := e) (p := p) nx rv { t with at' := 6 } hZ h2 fun H9 h9 => ?_;exact d7 (σ' := σ.mem ((σ.μ.acc t.who 2 (8, t.s, 0)).put (8, t.s, 0) 0)) (t' := { t with at' := 6 }) (v := rv) (n := hZ) (by simp only [aq, hat, hf]; rfl) (i1 (by simp)) rfl hl h9.to
theorem aeE (S : SOk σ) (T : ir σ t) (hat : t.at' = 6) : Sp hZ [vp e, vi now] (eP e p rp σ t) (fun _ : Unit => cg (aq σ t now)) (fun _ => eQ e p rp (aq σ t now)) := by
 have hN : σ.μ.N < 1099511627000 := by have := S.N; omega
 refine aK fun R H h => ?_;obtain ⟨nx, rv, g, hv, rfl, hl, _, h0⟩ := dV h;have ho := T.obj (.inl (by omega));obtain ⟨b, hb⟩ : ∃ b, g.rp[t.obj]? = some b := ⟨_, cG (by omega)⟩;refine bj (fun r => Q6 _ _ H) ?_;refine bo h0 fun b1 H1 h1 => ?_;refine ak h1 ae rfl ?_;refine ak h1 ae rfl ?_;refine ak h1 ae rfl ?_;refine af h1 (S9 p g σ hl t.who t.obj ho S.N) fun _ H2 h2 => ?_;refine ak h2 ae rfl ?_;refine ak h2 ae rfl ?_;refine af h2 (sU p g (σ.mem (σ.μ.acc t.who 5 (13, (t.obj : Int), 0))) hl t.obj b ho hb) fun _ H3 h3 => ?_;refine bg h3 ae rfl rfl fun H4 h4 => ?_;refine gX (e := e) (p := p) nx (vp b) { t with at' := 7 } cq h4 fun H9 h9 => ?_;exact d7 (σ' := σ.mem (σ.μ.acc t.who 5 (13, (t.obj : Int), 0))) (t' := { t with at' := 7 }) (v := (vp b)) (n := cq) (by simp only [aq, hat]) (cS hb) rfl hl h9.to
theorem aeI (S : SOk σ) (T : ir σ t) (hat : t.at' = 7) : Sp cq [vp e, vi now] (eP e p rp σ t) (fun _ : Unit => cg (aq σ t now)) (fun _ => eQ e p rp (aq σ t now)) := by
 have hN : σ.μ.N < 1099511627000 := by have := S.N; omega
 refine aK fun R H h => ?_;obtain ⟨nx, rv, g, hv, rfl, hl, _, h0⟩ := dV h;obtain ⟨b, hb, rfl⟩ := hv (by omega);have ho := T.obj (.inl (by omega));refine bj (fun r => Rc _ _ H) ?_;refine bo h0 fun b1 H1 h1 => ?_;refine ak h1 ae rfl ?_;refine ak h1 ae rfl ?_;refine af h1 (jt (p := p) hl ho hb (AC g.m t.obj b (aC σ t.obj) σ.μ t.who hN)) fun _ H2 h2 => ?_;refine bg h2 ae rfl rfl fun H3 h3 => ?_;refine ak h3 ae rfl ?_;refine af h3 (jg _ (S.V _)) fun _ H4 h4 => ?_
 by_cases hw : bC (σ.μ.V (11, (t.obj : Int), 0)) = 2
 ·refine aa (bi hw) ?_
  refine gs ?_;refine gX (e := e) (p := p) nx (vp b) { t with w := σ.μ.V (11, (t.obj : Int), 0), at' := 3 } dm h4 fun H9 h9 => ?_;exact d7 (σ' := dg σ t) (t' := { t with w := σ.μ.V (11, (t.obj : Int), 0), at' := 3 }) (v := (vp b)) (n := dm) (by simp only [aq, hat]; rw [if_pos hw]) (i1 (by simp)) rfl hl h9.to
 ·refine aa (aG hw) ?_
  refine gs ?_;refine gX (e := e) (p := p) nx (vp b) { t with w := σ.μ.V (11, (t.obj : Int), 0), at' := 8 } mw h4 fun H9 h9 => ?_;exact d7 (σ' := dg σ t) (t' := { t with w := σ.μ.V (11, (t.obj : Int), 0), at' := 8 }) (v := (vp b)) (n := mw) (by simp only [aq, hat]; rw [if_neg hw]) (cS hb) rfl hl h9.to
theorem G7 (S : SOk σ) (T : ir σ t) (hat : t.at' = 16) : Sp fM [vp e, vi now] (eP e p rp σ t) (fun _ : Unit => cg (aq σ t now)) (fun _ => eQ e p rp (aq σ t now)) := by
 have hN : σ.μ.N < 1099511627000 := by have := S.N; omega
 refine aK fun R H h => ?_;obtain ⟨nx, rv, g, hv, rfl, hl, _, h0⟩ := dV h;obtain ⟨b, hb, rfl⟩ := hv (by omega);have ho := T.obj (.inl (by omega));refine bj (fun r => BR _ _ H) ?_;refine bo h0 fun b1 H1 h1 => ?_;refine ak h1 ae rfl ?_;refine ak h1 ae rfl ?_;refine af h1 (jt (p := p) hl ho hb (AC g.m t.obj b (aC σ t.obj) σ.μ t.who hN)) fun _ H2 h2 => ?_;refine bg h2 ae rfl rfl fun H3 h3 => ?_;refine ak h3 ae rfl ?_;refine af h3 (jg _ (S.V _)) fun _ H4 h4 => ?_
 by_cases hw : bC (σ.μ.V (11, (t.obj : Int), 0)) = 2
 ·refine aa (bi hw) ?_
  refine gs ?_;refine gX (e := e) (p := p) nx (vp b) { t with w := σ.μ.V (11, (t.obj : Int), 0), at' := 3 } dm h4 fun H9 h9 => ?_;exact d7 (σ' := dg σ t) (t' := { t with w := σ.μ.V (11, (t.obj : Int), 0), at' := 3 }) (v := (vp b)) (n := dm) (by simp only [aq, hat]; rw [if_pos hw]) (i1 (by simp)) rfl hl h9.to
 ·refine aa (aG hw) ?_
  refine gs ?_;refine gX (e := e) (p := p) nx (vp b) { t with w := σ.μ.V (11, (t.obj : Int), 0), at' := 17 } fL h4 fun H9 h9 => ?_;exact d7 (σ' := dg σ t) (t' := { t with w := σ.μ.V (11, (t.obj : Int), 0), at' := 17 }) (v := (vp b)) (n := fL) (by simp only [aq, hat]; rw [if_neg hw]) (cS hb) rfl hl h9.to
theorem aeA (S : SOk σ) (T : ir σ t) (hat : t.at' = 8) : Sp mw [vp e, vi now] (eP e p rp σ t) (fun _ : Unit => cg (aq σ t now)) (fun _ => eQ e p rp (aq σ t now)) := by
 have hN : σ.μ.N < 1099511627000 := by have := S.N; omega
 refine aK fun R H h => ?_;obtain ⟨nx, rv, g, hv, rfl, hl, _, h0⟩ := dV h;obtain ⟨b, hb, rfl⟩ := hv (by omega);have ho := T.obj (.inl (by omega));refine bj (fun r => Q3 _ _ H) ?_;refine bo h0 fun b1 H1 h1 => ?_;refine ak h1 ae rfl ?_;refine ak h1 ae rfl ?_;refine af h1 (jt (p := p) hl ho hb (Jr g.m t.obj b (aC σ t.obj) σ.μ t.who hN)) fun _ H2 h2 => ?_;refine ah (Hy _ _ _ _ H2) ?_;refine ak h2 ae rfl ?_;refine ak h2 ae rfl ?_;refine af h2 (UK (p := p) (σ := jA σ t) hl ho hb (Jq g.m t.obj b (aC σ t.obj) t.w (σ.μ.V (12, (t.obj : Int), 0)) T.w (S.cells _ ho).2)) fun _ H3 h3 => ?_;cases hf : pp t.w (σ.μ.V (12, (t.obj : Int), 0)) (aC σ t.obj).length
 ·refine gs ?_
  refine ak h3 ae rfl ?_;refine af h3 (jg _ T.w) fun _ H4 h4 => ?_
  by_cases hw : bC t.w = 1
  ·refine aa (bi hw) ?_
   refine gs ?_;refine gX (e := e) (p := p) nx (vp b) { t with at' := 9 } kq h4 fun H9 h9 => ?_;exact d7 (σ' := jA σ t) (t' := { t with at' := 9 }) (v := (vp b)) (n := kq) (by simp only [aq, hat, nU, hf]; rw [if_pos hw]; rfl) (cS hb) rfl hl h9.to
  ·refine aa (aG hw) ?_
   refine gs ?_;refine ah (Hz _ _ _ H4) ?_;refine gX (e := e) (p := p) nx (vp b) { t with at' := 12 } kp h4 fun H9 h9 => ?_;exact d7 (σ' := jA σ t) (t' := { t with at' := 12 }) (v := (vp b)) (n := kp) (by simp only [aq, hat, nU, hf]; rw [if_neg hw]; rfl) (cS hb) rfl hl h9.to
 ·refine gs ?_
  refine gX (e := e) (p := p) nx (vp b) { t with at' := 15 } pI h3 fun H9 h9 => ?_;exact d7 (σ' := jA σ t) (t' := { t with at' := 15 }) (v := (vp b)) (n := pI) (by simp only [aq, hat, nU, hf]; rfl) (cS hb) rfl hl h9.to
theorem Ut (S : SOk σ) (T : ir σ t) (hat : t.at' = 9) : Sp kq [vp e, vi now] (eP e p rp σ t) (fun _ : Unit => cg (aq σ t now)) (fun _ => eQ e p rp (aq σ t now)) := by
 have hN : σ.μ.N < 1099511627000 := by have := S.N; omega
 refine aK fun R H h => ?_;obtain ⟨nx, rv, g, hv, rfl, hl, _, h0⟩ := dV h;obtain ⟨b, hb, rfl⟩ := hv (by omega);have ho := T.obj (.inl (by omega));refine bj (fun r => NN _ _ H) ?_;refine bo h0 fun b1 H1 h1 => ?_;refine ak h1 ae rfl ?_;refine ak h1 ae rfl ?_;refine ak h1 ae rfl ?_;refine af h1 (jt (p := p) hl ho hb (GR g.m t.obj b (aC σ t.obj) σ.μ t.who t.w T.w hN)) fun _ H2 h2 => ?_;cases hw : fZ σ.μ t.obj t.w (aW t.w 0)
 ·refine gs ?_
  rw [Bool.not_false];refine gs ?_;refine gX (e := e) (p := p) nx (vp b) { t with at' := 7 } cq h2 fun H9 h9 => ?_;exact d7 (σ' := σ.mem (σ.μ.turn t.who t.obj t.w (aW t.w 0))) (t' := { t with at' := 7 }) (v := (vp b)) (n := cq) (by simp only [aq, hat, hw]; rfl) (cS hb) rfl hl h9.to
 ·refine gs ?_
  rw [Bool.not_true];refine gs ?_;have k2 := bz (p := p) (rp := g.rp) (σ := σ.mem (σ.μ.turn t.who t.obj t.w (aW t.w 0))) (R := eB e p nx (vp b) t * (blk b1 (.cells false [vi 0, .slice none 0 0, vi 0, vw 0]) * R)) g rfl hl h2.to;refine af k2 (wV e p g.rp (σ.mem (σ.μ.turn t.who t.obj t.w (aW t.w 0))) nx (vp b) t now 0 (by have := S.pts; show σ.pts.length < _; omega)) fun _ H3 h3 => ?_;refine gX (e := e) (p := p) nx (vp b) { t with at' := 10, code := 0 } pH h3 fun H9 h9 => ?_;exact Kf (σ' := (σ.mem (σ.μ.turn t.who t.obj t.w (aW t.w 0))).note now t.who 0) (t' := { t with at' := 10, code := 0 }) (v := (vp b)) (n := pH) (by simp only [aq, hat, hw]; rfl) (cS hb) rfl h9.to
theorem aeH (S : SOk σ) (T : ir σ t) (hat : t.at' = 13) : Sp mC [vp e, vi now] (eP e p rp σ t) (fun _ : Unit => cg (aq σ t now)) (fun _ => eQ e p rp (aq σ t now)) := by
 have hN : σ.μ.N < 1099511627000 := by have := S.N; omega
 refine aK fun R H h => ?_;obtain ⟨nx, rv, g, hv, rfl, hl, _, h0⟩ := dV h;obtain ⟨b, hb, rfl⟩ := hv (by omega);have ho := T.obj (.inl (by omega));refine bj (fun r => Rb _ _ H) ?_;refine bo h0 fun b1 H1 h1 => ?_;refine ak h1 ae rfl ?_;refine ak h1 ae rfl ?_;refine ak h1 ae rfl ?_;refine af h1 (jt (p := p) hl ho hb (GR g.m t.obj b (aC σ t.obj) σ.μ t.who t.w T.w hN)) fun _ H2 h2 => ?_;cases hw : fZ σ.μ t.obj t.w (aW t.w 0)
 ·refine gs ?_
  rw [Bool.not_false];refine gs ?_;refine gX (e := e) (p := p) nx (vp b) { t with at' := 20 } mt h2 fun H9 h9 => ?_;exact d7 (σ' := σ.mem (σ.μ.turn t.who t.obj t.w (aW t.w 0))) (t' := { t with at' := 20 }) (v := (vp b)) (n := mt) (by simp only [aq, hat, hw]; rfl) (cS hb) rfl hl h9.to
 ·refine gs ?_
  rw [Bool.not_true];refine gs ?_;have k2 := bz (p := p) (rp := g.rp) (σ := σ.mem (σ.μ.turn t.who t.obj t.w (aW t.w 0))) (R := eB e p nx (vp b) t * (blk b1 (.cells false [vi 0, .slice none 0 0, vi 0, vw 0]) * R)) g rfl hl h2.to;refine af k2 (wV e p g.rp (σ.mem (σ.μ.turn t.who t.obj t.w (aW t.w 0))) nx (vp b) t now 0 (by have := S.pts; show σ.pts.length < _; omega)) fun _ H3 h3 => ?_;refine gX (e := e) (p := p) nx (vp b) { t with at' := 14, code := 0 } mu h3 fun H9 h9 => ?_;exact Kf (σ' := (σ.mem (σ.μ.turn t.who t.obj t.w (aW t.w 0))).note now t.who 0) (t' := { t with at' := 14, code := 0 }) (v := (vp b)) (n := mu) (by simp only [aq, hat, hw]; rfl) (cS hb) rfl h9.to
theorem Do (σ : bd) (t : Tk) : vA σ t = { σ with μ := σ.μ.acc t.who 6 (16, (t.obj : Int), ((bn t.w % (aC σ t.obj).length : Nat) : Int)), obs := σ.obs.modify t.obj fun q => (q.1, (aC σ t.obj).set (bn t.w % (aC σ t.obj).length) ⟨t.x.flow, t.x.a, t.x.b⟩) } := by
 have eo : (σ.obs.modify t.obj fun q => (q.1, q.2.set (bn t.w % (aC σ t.obj).length) (⟨t.x.flow, t.x.a, t.x.b⟩ : Pk))) = σ.obs.modify t.obj fun q => (q.1, (aC σ t.obj).set (bn t.w % (aC σ t.obj).length) ⟨t.x.flow, t.x.a, t.x.b⟩) := by
  apply List.ext_getElem?;intro j;rw [List.getElem?_modify, List.getElem?_modify]
  cases hj : σ.obs[j]? with
  | none => rfl
  | some q =>
   show some (if t.obj = j then _ else q) = some (if t.obj = j then _ else q)
   by_cases e : t.obj = j
   ·subst e
    rw [if_pos rfl, if_pos rfl];unfold aC;rw [hj]; rfl
   ·rw [if_neg e, if_neg e]
 exact congrArg (fun o => ({ σ with μ := σ.μ.acc t.who 6 (16, (t.obj : Int), ((bn t.w % (aC σ t.obj).length : Nat) : Int)), obs := o } : bd)) eo
theorem Vh (S : SOk σ) (T : ir σ t) (nx : Value) (g : PIds) (b : Nat) (hl : g.rp.length = σ.obs.length) (ho : t.obj < σ.obs.length) (hb : g.rp[t.obj]? = some b) :
 Sp yb [vp e] (eB e p nx (vp b) t * az p g σ) (fun _ : Unit => .tuple #[]) (fun _ => eB e p nx (vp b) t * az p g (vA σ t)) := by
 have hN : σ.μ.N < 1099511627000 := by have := S.N; omega
 refine aY (Y9 _) fun R H h => ?_;refine bD ae ?_;refine aN h rfl ?_;refine bD ae ?_;refine aN h rfl ?_;refine ak h ae rfl ?_;refine af h (gZ t.w T.w) fun _ H1 h1 => ?_;refine aH h1 h (by rfl) ?_;refine aH h1 h (by rfl) ?_;refine bD (cj (aP (aP be))) ?_;refine aN h1 rfl ?_;refine aH h h1 (by rfl) ?_;refine bD (cj (aP (aP be))) ?_;refine aN h1 rfl ?_;refine aH h h1 (by rfl) ?_;refine bD (cj (aP (aP be))) ?_;refine aN h1 rfl ?_;refine aH h h1 (by rfl) ?_;refine jq ?_;refine af h1 (ae8 (p := p) hl ho hb (anC g.m t.obj b (aC σ t.obj) σ.μ t.who (bn t.w) ⟨t.x.flow, t.x.a, t.x.b⟩ (S.cells _ ho) hN)) fun _ H2 h2 => ?_;refine am ⟨(), rfl, ?_⟩;rw [Do];exact h2.to
theorem jC (σ : bd) (t : Tk) : (vA σ t).obs.length = σ.obs.length := by unfold vA; simp
theorem aoC (S : SOk σ) (T : ir σ t) (hat : t.at' = 10) : Sp pH [vp e, vi now] (eP e p rp σ t) (fun _ : Unit => cg (aq σ t now)) (fun _ => eQ e p rp (aq σ t now)) := by
 have hN : σ.μ.N < 1099511627000 := by have := S.N; omega
 refine aK fun R H h => ?_;obtain ⟨nx, rv, g, hv, rfl, hl, _, h0⟩ := dV h;obtain ⟨b, hb, rfl⟩ := hv (by omega);have ho := T.obj (.inl (by omega));refine bj (fun r => Zb _ _ H) ?_;refine bo h0 fun b1 H1 h1 => ?_;refine af h1 (Vh e p σ t S T nx g b hl ho hb) fun _ H2 h2 => ?_;refine gX (e := e) (p := p) nx (vp b) { t with at' := 11 } mB h2 fun H9 h9 => ?_;exact d7 (σ' := vA σ t) (t' := { t with at' := 11 }) (v := (vp b)) (n := mB) (by simp only [aq, hat]) (cS hb) rfl (by rw [jC]; exact hl) h9.to
theorem ad9 (S : SOk σ) (T : ir σ t) (hat : t.at' = 14) : Sp mu [vp e, vi now] (eP e p rp σ t) (fun _ : Unit => cg (aq σ t now)) (fun _ => eQ e p rp (aq σ t now)) := by
 have hN : σ.μ.N < 1099511627000 := by have := S.N; omega
 refine aK fun R H h => ?_;obtain ⟨nx, rv, g, hv, rfl, hl, _, h0⟩ := dV h;obtain ⟨b, hb, rfl⟩ := hv (by omega);have ho := T.obj (.inl (by omega));refine bj (fun r => Q1 _ _ H) ?_;refine bo h0 fun b1 H1 h1 => ?_;refine af h1 (Vh e p σ t S T nx g b hl ho hb) fun _ H2 h2 => ?_;refine gX (e := e) (p := p) nx (vp b) { t with at' := 21 } ku h2 fun H9 h9 => ?_;exact d7 (σ' := vA σ t) (t' := { t with at' := 21 }) (v := (vp b)) (n := ku) (by simp only [aq, hat]) (cS hb) rfl (by rw [jC]; exact hl) h9.to
theorem aeG (S : SOk σ) (T : ir σ t) (hat : t.at' = 11) : Sp mB [vp e, vi now] (eP e p rp σ t) (fun _ : Unit => cg (aq σ t now)) (fun _ => eQ e p rp (aq σ t now)) := by
 have hN : σ.μ.N < 1099511627000 := by have := S.N; omega
 refine aK fun R H h => ?_;obtain ⟨nx, rv, g, hv, rfl, hl, _, h0⟩ := dV h;obtain ⟨b, hb, rfl⟩ := hv (by omega);have ho := T.obj (.inl (by omega));refine bj (fun r => Ra _ _ H) ?_;refine bo h0 fun b1 H1 h1 => ?_;refine bD ae ?_;refine aN h1 rfl ?_;refine bD ae ?_;refine aN h1 rfl ?_;refine ak h1 ae rfl ?_;refine af h1 (gZ t.w T.w) fun _ H2 h2 => ?_;refine aH h2 h1 (by rfl) ?_;refine aH h2 h1 (by rfl) ?_;have hwc := eb t.w;refine af h2 (jt (p := p) hl ho hb (Js g.m t.obj b (aC σ t.obj) σ.μ t.who (bn t.w) (by omega) (S.cells _ ho) hN)) fun _ H3 h3 => ?_;refine nD h3 (wU (vp e) 0) fun H9 h9 => ?_;exact Ep (σ' := BA σ t) (t' := t) (by simp only [aq, hat]) (T.c0 (by omega)) (bz (p := p) (rp := g.rp) (R := R) g rfl hl h9.to)
theorem Uv (S : SOk σ) (T : ir σ t) (hat : t.at' = 21) : Sp ku [vp e, vi now] (eP e p rp σ t) (fun _ : Unit => cg (aq σ t now)) (fun _ => eQ e p rp (aq σ t now)) := by
 have hN : σ.μ.N < 1099511627000 := by have := S.N; omega
 refine aK fun R H h => ?_;obtain ⟨nx, rv, g, hv, rfl, hl, _, h0⟩ := dV h;obtain ⟨b, hb, rfl⟩ := hv (by omega);have ho := T.obj (.inl (by omega));refine bj (fun r => NP _ _ H) ?_;refine bo h0 fun b1 H1 h1 => ?_;refine bD ae ?_;refine aN h1 rfl ?_;refine bD ae ?_;refine aN h1 rfl ?_;refine ak h1 ae rfl ?_;refine af h1 (gZ t.w T.w) fun _ H2 h2 => ?_;refine aH h2 h1 (by rfl) ?_;refine aH h2 h1 (by rfl) ?_;have hwc := eb t.w;refine af h2 (jt (p := p) hl ho hb (Js g.m t.obj b (aC σ t.obj) σ.μ t.who (bn t.w) (by omega) (S.cells _ ho) hN)) fun _ H3 h3 => ?_;refine gX (e := e) (p := p) nx (vp b) { t with at' := 22 } dW h3 fun H9 h9 => ?_;exact d7 (σ' := BA σ t) (t' := { t with at' := 22 }) (v := (vp b)) (n := dW) (by simp only [aq, hat]) (cS hb) rfl hl h9.to
theorem Us (S : SOk σ) (T : ir σ t) (hat : t.at' = 12) : Sp kp [vp e, vi now] (eP e p rp σ t) (fun _ : Unit => cg (aq σ t now)) (fun _ => eQ e p rp (aq σ t now)) := by
 have hN : σ.μ.N < 1099511627000 := by have := S.N; omega
 refine aK fun R H h => ?_;obtain ⟨nx, rv, g, hv, rfl, hl, _, h0⟩ := dV h;obtain ⟨b, hb, rfl⟩ := hv (by omega);have ho := T.obj (.inl (by omega));refine bj (fun r => NM _ _ H) ?_;refine bo h0 fun b1 H1 h1 => ?_;refine ak h1 ae rfl ?_;refine ak h1 ae rfl ?_;refine ak h1 ae rfl ?_;refine af h1 (Ii (p := p) (g := g) (σ := σ) (OP g.ib g.m g.nm σ.c σ.nx σ.μ t.who hN)) fun _ H2 h2 => ?_;refine gX (e := e) (p := p) nx (vp b) { t with at' := 13 } mC h2 fun H9 h9 => ?_;exact d7 (σ' := σ.mem (σ.μ.cnt t.who (3, 0, 0) 4294967296)) (t' := { t with at' := 13 }) (v := (vp b)) (n := mC) (by simp only [aq, hat]) (cS hb) rfl hl h9.to
theorem ad7 (S : SOk σ) (T : ir σ t) (hat : t.at' = 20) : Sp mt [vp e, vi now] (eP e p rp σ t) (fun _ : Unit => cg (aq σ t now)) (fun _ => eQ e p rp (aq σ t now)) := by
 have hN : σ.μ.N < 1099511627000 := by have := S.N; omega
 refine aK fun R H h => ?_;obtain ⟨nx, rv, g, hv, rfl, hl, _, h0⟩ := dV h;obtain ⟨b, hb, rfl⟩ := hv (by omega);have ho := T.obj (.inl (by omega));refine bj (fun r => QZ _ _ H) ?_;refine bo h0 fun b1 H1 h1 => ?_;refine ak h1 ae rfl ?_;refine ak h1 ae rfl ?_;refine ak h1 ae rfl ?_;refine af h1 (Ii (p := p) (g := g) (σ := σ) (IT g.ib g.m g.nm σ.c σ.nx σ.μ t.who hN)) fun _ H2 h2 => ?_;refine gX (e := e) (p := p) nx (vp b) { t with at' := 7 } cq h2 fun H9 h9 => ?_;exact d7 (σ' := σ.mem (σ.μ.cnt t.who (3, 0, 0) 1)) (t' := { t with at' := 7 }) (v := (vp b)) (n := cq) (by simp only [aq, hat]) (cS hb) rfl hl h9.to
theorem aoB (S : SOk σ) (T : ir σ t) (hat : t.at' = 25) : Sp pG [vp e, vi now] (eP e p rp σ t) (fun _ : Unit => cg (aq σ t now)) (fun _ => eQ e p rp (aq σ t now)) := by
 have hN : σ.μ.N < 1099511627000 := by have := S.N; omega
 refine aK fun R H h => ?_;obtain ⟨nx, rv, g, hv, rfl, hl, _, h0⟩ := dV h;obtain ⟨b, hb, rfl⟩ := hv (by omega);have ho := T.obj (.inl (by omega));refine bj (fun r => Y7 _ _ H) ?_;refine bo h0 fun b1 H1 h1 => ?_;refine ak h1 ae rfl ?_;refine ak h1 ae rfl ?_;refine ak h1 ae rfl ?_;refine af h1 (Ii (p := p) (g := g) (σ := σ) (IT g.ib g.m g.nm σ.c σ.nx σ.μ t.who hN)) fun _ H2 h2 => ?_;refine nD h2 (wU (vp e) 0) fun H9 h9 => ?_;exact Ep (σ' := σ.mem (σ.μ.cnt t.who (3, 0, 0) 1)) (t' := t) (by simp only [aq, hat]) (T.c0 (by omega)) (bz (p := p) (rp := g.rp) (R := R) g rfl hl h9.to)
theorem M5 (S : SOk σ) (T : ir σ t) (hat : t.at' = 22) : Sp dW [vp e, vi now] (eP e p rp σ t) (fun _ : Unit => cg (aq σ t now)) (fun _ => eQ e p rp (aq σ t now)) := by
 have hN : σ.μ.N < 1099511627000 := by have := S.N; omega
 refine aK fun R H h => ?_;obtain ⟨nx, rv, g, hv, rfl, hl, _, h0⟩ := dV h;obtain ⟨b, hb, rfl⟩ := hv (by omega);have ho := T.obj (.inl (by omega));refine bj (fun r => HF _ _ H) ?_;refine bo h0 fun b1 H1 h1 => ?_;refine ak h1 ae rfl ?_;refine ak h1 ae rfl ?_;refine ak h1 ae rfl ?_;refine ak h1 ae rfl ?_;refine af h1 (Ii (p := p) (g := g) (σ := σ) (abY g.ib g.m g.nm σ.c σ.nx σ.μ t.who t.s hN)) fun _ H2 h2 => ?_;refine bg h2 ae rfl rfl fun H3 h3 => ?_;refine gX (e := e) (p := p) nx (vp b) { t with top := σ.μ.V (9, t.s, 0), at' := 23 } my h3 fun H9 h9 => ?_;exact d7 (σ' := σ.mem (σ.μ.acc t.who 1 (9, t.s, 0))) (t' := { t with top := σ.μ.V (9, t.s, 0), at' := 23 }) (v := (vp b)) (n := my) (by simp only [aq, hat]) (cS hb) rfl hl h9.to
theorem aeC (S : SOk σ) (T : ir σ t) (hat : t.at' = 23) : Sp my [vp e, vi now] (eP e p rp σ t) (fun _ : Unit => cg (aq σ t now)) (fun _ => eQ e p rp (aq σ t now)) := by
 have hN : σ.μ.N < 1099511627000 := by have := S.N; omega
 refine aK fun R H h => ?_;obtain ⟨nx, rv, g, hv, rfl, hl, _, h0⟩ := dV h;obtain ⟨b, hb, rfl⟩ := hv (by omega);have ho := T.obj (.inl (by omega));refine bj (fun r => Q4 _ _ H) ?_;refine bo h0 fun b1 H1 h1 => ?_;refine ak h1 ae rfl ?_;refine ak h1 ae rfl ?_;refine ak h1 ae rfl ?_;refine ak h1 ae rfl ?_;refine ak h1 ae rfl ?_;refine af h1 (Ii (p := p) (g := g) (σ := σ) (SE g.ib g.m g.nm σ.c σ.nx σ.μ t.who t.obj t.top hN)) fun _ H2 h2 => ?_;refine gX (e := e) (p := p) nx (vp b) { t with at' := 24 } mA h2 fun H9 h9 => ?_;exact d7 (σ' := { σ with μ := σ.μ.acc t.who 6 (14, (t.obj : Int), 0), nx := fun k => if k = (t.obj : Int) then some t.top else σ.nx k }) (t' := { t with at' := 24 }) (v := (vp b)) (n := mA) (by simp only [aq, hat]) (cS hb) rfl hl h9.to
theorem aeF (S : SOk σ) (T : ir σ t) (hat : t.at' = 24) : Sp mA [vp e, vi now] (eP e p rp σ t) (fun _ : Unit => cg (aq σ t now)) (fun _ => eQ e p rp (aq σ t now)) := by
 have hN : σ.μ.N < 1099511627000 := by have := S.N; omega
 refine aK fun R H h => ?_;obtain ⟨nx, rv, g, hv, rfl, hl, _, h0⟩ := dV h;obtain ⟨b, hb, rfl⟩ := hv (by omega);have ho := T.obj (.inl (by omega));refine bj (fun r => Q8 _ _ H) ?_;refine bo h0 fun b1 H1 h1 => ?_;refine ak h1 ae rfl ?_;refine ak h1 ae rfl ?_;refine ak h1 ae rfl ?_;refine ak h1 ae rfl ?_;refine ak h1 ae rfl ?_;refine ak h1 ae rfl ?_;refine af h1 (Ii (p := p) (g := g) (σ := σ) (SG g.ib g.m g.nm σ.c σ.nx σ.μ t.who t.s t.top t.obj (by have := S.obs; omega) hN)) fun _ H2 h2 => ?_
 by_cases hw : σ.μ.V (9, t.s, 0) = t.top
 ·rw [fH hw]
  refine gs ?_;rw [Bool.not_true];refine gs ?_;refine gX (e := e) (p := p) nx (vp b) { t with at' := 25 } pG h2 fun H9 h9 => ?_;exact d7 (σ' := σ.mem (σ.μ.swp t.who (9, t.s, 0) t.top (t.obj + 1))) (t' := { t with at' := 25 }) (v := (vp b)) (n := pG) (by simp only [aq, hat]; rw [if_pos hw]) (cS hb) rfl hl h9.to
 ·rw [e7 hw]
  refine gs ?_;rw [Bool.not_false];refine gs ?_;refine gX (e := e) (p := p) nx (vp b) { t with at' := 22 } dW h2 fun H9 h9 => ?_;exact d7 (σ' := σ.mem (σ.μ.swp t.who (9, t.s, 0) t.top (t.obj + 1))) (t' := { t with at' := 22 }) (v := (vp b)) (n := dW) (by simp only [aq, hat]; rw [if_neg hw]) (cS hb) rfl hl h9.to
theorem aoD (S : SOk σ) (T : ir σ t) (hat : t.at' = 15) : Sp pI [vp e, vi now] (eP e p rp σ t) (fun _ : Unit => cg (aq σ t now)) (fun _ => eQ e p rp (aq σ t now)) := by
 have hN : σ.μ.N < 1099511627000 := by have := S.N; omega
 refine aK fun R H h => ?_;obtain ⟨nx, rv, g, hv, rfl, hl, _, h0⟩ := dV h;obtain ⟨b, hb, rfl⟩ := hv (by omega);have ho := T.obj (.inl (by omega));refine bj (fun r => Zd _ _ H) ?_;refine bo h0 fun b1 H1 h1 => ?_;refine ak h1 ae rfl ?_;refine ak h1 ae rfl ?_;refine af h1 (qF p g σ t.who S.N) fun _ H2 h2 => ?_;refine bg h2 ae rfl rfl fun H3 h3 => ?_;refine ak h3 ae rfl ?_;refine aa (Jo 2 (by omega)) ?_
 by_cases hw : σ.μ.V (2, 0, 0) % 2 = 1
 ·refine aa (bi (show ((σ.μ.V (2, 0, 0) % 2 : Nat) : Int) = 1 by omega)) ?_
  refine gs ?_;refine gX (e := e) (p := p) nx (vp b) { t with q := σ.μ.V (2, 0, 0), at' := 7 } cq h3 fun H9 h9 => ?_;exact d7 (σ' := eK σ t) (t' := { t with q := σ.μ.V (2, 0, 0), at' := 7 }) (v := (vp b)) (n := cq) (by simp only [aq, hat]; rw [if_pos hw]) (cS hb) rfl hl h9.to
 ·refine aa (aG (show ¬ ((σ.μ.V (2, 0, 0) % 2 : Nat) : Int) = 1 by omega)) ?_
  refine gs ?_;refine gX (e := e) (p := p) nx (vp b) { t with q := σ.μ.V (2, 0, 0), at' := 16 } fM h3 fun H9 h9 => ?_;exact d7 (σ' := eK σ t) (t' := { t with q := σ.μ.V (2, 0, 0), at' := 16 }) (v := (vp b)) (n := fM) (by simp only [aq, hat]; rw [if_neg hw]) (cS hb) rfl hl h9.to
theorem G6 (S : SOk σ) (T : ir σ t) (hat : t.at' = 17) : Sp fL [vp e, vi now] (eP e p rp σ t) (fun _ : Unit => cg (aq σ t now)) (fun _ => eQ e p rp (aq σ t now)) := by
 have hN : σ.μ.N < 1099511627000 := by have := S.N; omega
 refine aK fun R H h => ?_;obtain ⟨nx, rv, g, hv, rfl, hl, _, h0⟩ := dV h;obtain ⟨b, hb, rfl⟩ := hv (by omega);have ho := T.obj (.inl (by omega));refine bj (fun r => BO _ _ H) ?_;refine bo h0 fun b1 H1 h1 => ?_;refine bD ae ?_;refine aN h1 rfl ?_;refine bD ae ?_;refine aN h1 rfl ?_;refine ak h1 ae rfl ?_;refine ak h1 ae rfl ?_;refine af h1 (jt (p := p) hl ho hb (Jr g.m t.obj b (aC σ t.obj) σ.μ t.who hN)) fun _ H2 h2 => ?_;refine aH h2 h1 (by rfl) ?_;refine aH h2 h1 (by rfl) ?_;refine af h2 (UK (p := p) (σ := jA σ t) hl ho hb (Jq g.m t.obj b (aC σ t.obj) t.w (σ.μ.V (12, (t.obj : Int), 0)) T.w (S.cells _ ho).2)) fun _ H3 h3 => ?_;cases hf : pp t.w (σ.μ.V (12, (t.obj : Int), 0)) (aC σ t.obj).length
 ·refine gs ?_
  rw [Bool.not_false];refine gs ?_;refine gX (e := e) (p := p) nx (vp b) { t with at' := 7 } cq h3 fun H9 h9 => ?_;exact d7 (σ' := jA σ t) (t' := { t with at' := 7 }) (v := (vp b)) (n := cq) (by simp only [aq, hat, nU, hf]; rfl) (cS hb) rfl hl h9.to
 ·refine gs ?_
  rw [Bool.not_true];refine gs ?_;refine bg h3 ae rfl rfl fun H4 h4 => ?_;refine gX (e := e) (p := p) nx (vp b) { t with at' := 18, mark := now } gu h4 fun H9 h9 => ?_;exact d7 (σ' := jA σ t) (t' := { t with at' := 18, mark := now }) (v := (vp b)) (n := gu) (by simp only [aq, hat, nU, hf]; rfl) (cS hb) rfl hl h9.to
theorem Ib (S : SOk σ) (T : ir σ t) (hat : t.at' = 18) : Sp gu [vp e, vi now] (eP e p rp σ t) (fun _ : Unit => cg (aq σ t now)) (fun _ => eQ e p rp (aq σ t now)) := by
 have hN : σ.μ.N < 1099511627000 := by have := S.N; omega
 refine aK fun R H h => ?_;obtain ⟨nx, rv, g, hv, rfl, hl, _, h0⟩ := dV h;obtain ⟨b, hb, rfl⟩ := hv (by omega);have ho := T.obj (.inl (by omega));refine bj (fun r => Eo _ _ H) ?_;refine bo h0 fun b1 H1 h1 => ?_;refine ak h1 ae rfl ?_;refine ak h1 ae rfl ?_;refine af h1 (qF p g σ t.who S.N) fun _ H2 h2 => ?_;refine bD ae ?_;refine aN h2 rfl ?_;refine aH h1 h2 (by rfl) ?_
 by_cases hw : σ.μ.V (2, 0, 0) = t.q
 ·refine aa (sQ (show ((σ.μ.V (2, 0, 0) : Nat) : Int) = (t.q : Int) by omega)) ?_
  refine gs ?_;refine ak h2 ae rfl ?_;have k2 := bz (p := p) (rp := g.rp) (σ := eK σ t) (R := eB e p nx (vp b) t * (blk b1 (.cells false [vi 0, .slice none 0 0, vi 0, vw 0]) * R)) g rfl hl h2.to;refine nD k2 (AY e p g.rp (eK σ t) nx (vp b) t t.mark 9 (by have := S.pts; show σ.pts.length < _; omega)) fun H9 h9 => ?_;exact Ep (σ' := (eK σ t).note t.mark t.who 9) (t' := { t with code := 9 }) (by simp only [aq, hat]; rw [if_pos hw]) rfl h9.to
 ·refine aa (I4 (show ¬ ((σ.μ.V (2, 0, 0) : Nat) : Int) = (t.q : Int) by omega)) ?_
  refine gs ?_;refine gX (e := e) (p := p) nx (vp b) { t with at' := 7 } cq h2 fun H9 h9 => ?_;exact d7 (σ' := eK σ t) (t' := { t with at' := 7 }) (v := (vp b)) (n := cq) (by simp only [aq, hat]; rw [if_neg hw]) (cS hb) rfl hl h9.to
def gJ (σ : bd) (t : Tk) : bd × Tk × Bool :=
 (aZ σ t, { aV σ t with at' := if (aV σ t).found = true then 6 else if cD σ (aV σ t) = true then 3 else 2 }, false)
theorem JL (S : SOk σ) (T : ir σ t) (hat : t.at' = 0 ∨ t.at' = 2) : Sp ks [vp e, vi now] (eP e p rp σ t) (fun _ : Unit => cg (gJ σ t)) (fun _ => eQ e p rp (gJ σ t)) := by
 have hN : σ.μ.N < 1099511627000 := by have := S.N; omega
 refine aK fun R H h => ?_;obtain ⟨nx, rv, g, hv, rfl, hl, _, h0⟩ := dV h;have hi := T.i (by omega) (by omega);refine bj (fun r => Q9 _ _ H) ?_;refine bo h0 fun b1 H1 h1 => ?_;refine af h1 (Vg e p g σ nx rv t S hi) fun _ H2 h2 => ?_;refine ah (HD _ _ _ _ H2) ?_;refine ak h2 ae rfl ?_;cases hf : (aV σ t).found
 ·refine gs ?_
  cases hla : cD σ (aV σ t)
  ·refine gs ?_
   refine ah (HE _ _ _ H2) ?_;refine gX (e := e) (p := p) nx rv { aV σ t with at' := 2 } ks h2 fun H9 h9 => ?_;exact d7 (σ' := aZ σ t) (t' := { aV σ t with at' := 2 }) (v := rv) (n := ks) (by simp only [gJ, hf, hla]; rfl) (i1 (by simp)) rfl hl h9.to
  ·refine gs ?_
   refine gX (e := e) (p := p) nx rv { aV σ t with at' := 3 } dm h2 fun H9 h9 => ?_;exact d7 (σ' := aZ σ t) (t' := { aV σ t with at' := 3 }) (v := rv) (n := dm) (by simp only [gJ, hf, hla]; rfl) (i1 (by simp)) rfl hl h9.to
 ·refine gs ?_
  refine gX (e := e) (p := p) nx rv { aV σ t with at' := 6 } hZ h2 fun H9 h9 => ?_;exact d7 (σ' := aZ σ t) (t' := { aV σ t with at' := 6 }) (v := rv) (n := hZ) (by simp only [gJ, hf]; rfl) (i1 (by simp)) rfl hl h9.to
theorem P5 (S : SOk σ) (T : ir σ t) (hat : t.at' = 4) : Sp fc [vp e, vi now] (eP e p rp σ t) (fun _ : Unit => cg (aq σ t now)) (fun _ => eQ e p rp (aq σ t now)) := by
 have hN : σ.μ.N < 1099511627000 := by have := S.N; omega
 refine aK fun R H h => ?_;obtain ⟨nx, rv, g, hv, rfl, hl, _, h0⟩ := dV h;have hi := T.i (by omega) (by omega);refine bj (fun r => Kd _ _ H) ?_;refine bo h0 fun b1 H1 h1 => ?_;refine af h1 (Vg e p g σ nx rv t S hi) fun _ H2 h2 => ?_;refine ah (BP _ _ _ _ _ H2) ?_;refine ak h2 ae rfl ?_;cases hf : (aV σ t).found
 ·refine gs ?_
  cases hla : cD σ (aV σ t)
  ·refine gs ?_
   refine ah (BQ _ _ _ H2) ?_;refine gX (e := e) (p := p) nx rv (aV σ t) fc h2 fun H9 h9 => ?_;exact d7 (σ' := aZ σ t) (t' := (aV σ t)) (v := rv) (n := fc) (by simp only [aq, hat, hf, hla]; rfl) (i1 (show t.at' < 7 by omega)) (by show Cj t.at' = _; rw [hat]; rfl) hl h9.to
  ·refine gs ?_
   have k2 := bz (p := p) (rp := g.rp) (σ := aZ σ t) (R := eB e p nx rv (aV σ t) * (blk b1 (.cells false [vi 0, .slice none 0 0, vi 0, vw 0]) * R)) g rfl hl h2.to;refine af k2 (wV e p g.rp (aZ σ t) nx rv (aV σ t) now 5 (by have := S.pts; show σ.pts.length < _; omega)) fun _ H3 h3 => ?_;refine gX (e := e) (p := p) nx rv { aV σ t with at' := 5, code := 5 } fe h3 fun H9 h9 => ?_;exact Kf (σ' := (aZ σ t).note now (aV σ t).who 5) (t' := { aV σ t with at' := 5, code := 5 }) (v := rv) (n := fe) (by simp only [aq, hat, hf, hla]; rfl) (i1 (by simp)) rfl h9.to
 ·refine gs ?_
  refine gX (e := e) (p := p) nx rv { aV σ t with at' := 5 } fe h2 fun H9 h9 => ?_;exact d7 (σ' := aZ σ t) (t' := { aV σ t with at' := 5 }) (v := rv) (n := fe) (by simp only [aq, hat, hf]; rfl) (i1 (by simp)) rfl hl h9.to
theorem Uu (S : SOk σ) (T : ir σ t) (hat : t.at' = 0) : Sp m6 [vp e, vi now] (eP e p rp σ t) (fun _ : Unit => cg (aq σ t now)) (fun _ => eQ e p rp (aq σ t now)) := by
 have hN : σ.μ.N < 1099511627000 := by have := S.N; omega
 refine aY (NO _ _) fun R H h => ?_;refine bo h fun b H1 h1 => ?_;refine ah (Eh _ _ _ _ H1) ?_;obtain ⟨nx, rv, g, hv, rfl, hl, _, k1⟩ := dV (e := e) (p := p) (rp := rp) (σ := σ) (t := t) (R := blk b (.cells false [vi 0, .slice none 0 0, vi 0, vw 0]) * R) (H := H1) h1.to
 have fin : ∀ code, fE t.x = some code → wp ((FF jo [vp e, vi now, vi code] H1).bind fun r25 =>
  (ag r25.1 0).bind fun v26 =>
  (ag r25.1 1).bind fun v27 =>
  (cJ 4 (vp b) v26 r25.2).bind fun H28 =>
  (ax 4 (vp b) H28).bind fun v29 => some (Value.tuple #[v29, v27], H28)) fun v' H' => ∃ x_1 : Unit, v' = cg (aq σ t now) ∧ ac (eQ e p g.rp (aq σ t now) * R) H' := by
  intro code hx;have k2 := bz (p := p) (rp := g.rp) (σ := σ) (R := eB e p nx rv t * (blk b (.cells false [vi 0, .slice none 0 0, vi 0, vw 0]) * R)) g rfl hl k1.to;refine nD k2 (AY e p g.rp σ nx rv t now code (by have := S.pts; omega)) fun H9 h9 => ?_;exact Ep (σ' := σ.note now t.who code) (t' := { t with code := code }) (by simp only [aq, hat, hx]) rfl h9.to
 have scan : fE t.x = none → wp (rJ (vp e) (vi now) (vp b) (vb false) H1) fun v' H' => ∃ x_1 : Unit, v' = cg (aq σ t now) ∧ ac (eQ e p g.rp (aq σ t now) * R) H' := by
  intro hx
  have hs : aq σ t now = gJ σ t := by simp only [aq, hat, hx, gJ]
  rw [hs];refine ah (Ei _ _ _ _ H1) ?_;exact nD h1 (JL e p g.rp σ t now S T (.inl hat)) fun H9 h9 => ⟨(), rfl, h9.to⟩
 refine ak k1 (cj (aP (aP be))) rfl ?_
 by_cases ha : t.x.a < 1
 ·refine aa (bS ha) ?_
  refine gs ?_;exact fin 3 (by rw [fE, if_pos (.inl ha)])
 ·refine aa (bE ha) ?_
  refine gs ?_;refine ak k1 (cj (aP (aP be))) rfl ?_;refine gs ?_
  by_cases ha2 : 65536 < t.x.a
  ·refine aa (j5 ha2) ?_
   refine gs ?_;exact fin 3 (by rw [fE, if_pos (.inr ha2)])
  ·refine aa (fJ ha2) ?_
   refine gs ?_;refine ak k1 (cj (aP (aP be))) rfl ?_
   by_cases hf : t.x.flow < 0
   ·refine aa (bS hf) ?_
    refine gs ?_;exact fin 5 (by rw [fE, if_neg (by omega), if_pos (.inl hf)])
   ·refine aa (bE hf) ?_
    refine gs ?_;refine ak k1 (cj (aP (aP be))) rfl ?_;refine gs ?_
    by_cases hf2 : 1048576 < t.x.flow
    ·refine aa (j5 hf2) ?_
     refine gs ?_;exact fin 5 (by rw [fE, if_neg (by omega), if_pos (.inr hf2)])
    ·refine aa (fJ hf2) ?_
     refine gs ?_;exact scan (by rw [fE, if_neg (by omega), if_neg (by omega)])
theorem agH (S : SOk σ) (T : ir σ t) : Sp z6 [vp e, vi now] (eP e p rp σ t) (fun _ : Unit => cg (aq σ t now)) (fun _ => eQ e p rp (aq σ t now)) := by
 refine aY (QY _ _) fun R H h => ?_;refine bo h fun b H1 h1 => ?_;obtain ⟨rv, hv, k1⟩ := Ve (e := e) (p := p) (rp := rp) (σ := σ) (t := t) (R := blk b (.cells false [vi 0, .slice none 0 0, vi 0, vw 0]) * R) (H := H1) h1.to;refine ak k1 ae rfl ?_;refine ah (show (ce (.func (.func (Cj t.at')) #[vp e] #[]) [vi now]).bind _ = _ from rfl) ?_
 have hs : Sp (Cj t.at') [vp e, vi now] (eP e p rp σ t) (fun _ : Unit => cg (aq σ t now)) (fun _ => eQ e p rp (aq σ t now)) := by
  rcases T.ats with hat | hat | hat | hat | hat | hat | hat | hat | hat | hat | hat | hat | hat | hat | hat | hat | hat | hat | hat | hat | hat | hat | hat | hat <;> rw [show Cj t.at' = _ from by rw [hat]]
  ·exact Uu e p rp σ t now S T hat
  ·have h := JL e p rp σ t now S T (.inr hat)
   have hs : aq σ t now = gJ σ t := by simp only [aq, hat, gJ]
   rw [hs]; exact h
  ·exact aeD e p rp σ t now S T hat
  ·exact P5 e p rp σ t now S T hat
  ·exact P6 e p rp σ t now S T hat
  ·exact aeE e p rp σ t now S T hat
  ·exact aeI e p rp σ t now S T hat
  ·exact aeA e p rp σ t now S T hat
  ·exact Ut e p rp σ t now S T hat
  ·exact aoC e p rp σ t now S T hat
  ·exact aeG e p rp σ t now S T hat
  ·exact Us e p rp σ t now S T hat
  ·exact aeH e p rp σ t now S T hat
  ·exact ad9 e p rp σ t now S T hat
  ·exact aoD e p rp σ t now S T hat
  ·exact G7 e p rp σ t now S T hat
  ·exact G6 e p rp σ t now S T hat
  ·exact Ib e p rp σ t now S T hat
  ·exact ad7 e p rp σ t now S T hat
  ·exact Uv e p rp σ t now S T hat
  ·exact M5 e p rp σ t now S T hat
  ·exact aeC e p rp σ t now S T hat
  ·exact aeF e p rp σ t now S T hat
  ·exact aoB e p rp σ t now S T hat
 exact nD h1 hs fun H9 h9 => ⟨(), rfl, h9.to⟩
end
theorem aeO {a b : Nat} {x : Value} {k : Value → OV} {Q : Value → AH → Prop} (h : wp (k undef) Q) : wp (HK (vb false) true [.n, .f a, .f b] x k) Q := h
theorem ak7 {P P2 : SP} {H H2 : AH} {ro ro2 : Bool} {b o : Nat} {cs cs2 : List Value} (h : ac P H) (h2 : ac P2 H2) [i : Hs P b (.cells ro cs)] [i2 : Hs P2 b (.cells ro2 cs2)] (e : cs[o]? = cs2[o]?) : ar (qK b o) H = ar (qK b o) H2 := by
 simp only [ar, uX, ez, bO, i.get h, i2.get h2];exact e
def sR (x : Cl) : Prop := x.flow < 0 ∨ 1048576 < x.flow
instance (x : Cl) : Decidable (sR x) := inferInstanceAs (Decidable (_ ∨ _))
def uv (x : Cl) : Option Int :=
 if x.op = 1 then (if sR x then some 1 else if x.a < 1 ∨ 65536 < x.a then some 4 else if x.b < 1 ∨ 8 < x.b then some 1 else none)
 else if sR x then some 5 else none
def aD (σ : bd) (t : Tk) : Tk :=
 let v := σ.μ.V (10, t.s, (t.i : Int))
 { t with i := if ss v t.x.flow = true then t.i else t.i + 1, found := ss v t.x.flow, obj := if ss v t.x.flow = true then v % 4294967296 else t.obj, mark := if v = 0 ∧ t.mark < 0 then (t.i : Int) else t.mark }
abbrev lQ (σ : bd) (t : Tk) : bd := σ.mem (σ.μ.swp t.who (8, t.s, 0) 0 1)
abbrev i3 (σ : bd) (t : Tk) : bd := σ.mem ((σ.μ.acc t.who 2 (8, t.s, 0)).put (8, t.s, 0) 0)
def fK (σ : bd) (t : Tk) : bd × Tk × Bool := (lQ σ t, { t with at' := if σ.μ.V (8, t.s, 0) = 0 then 3 else 2 }, false)
abbrev obR (σ : bd) (t : Tk) : Ob := ⟨t.x.flow, t.x.b, max (σ.c.un / t.x.a.toNat) 1⟩
def GH (σ : bd) (t : Tk) (now : Int) : bd × Tk × Bool :=
 match t.at' with
 | 4 => (σ.make t.who (obR σ t), { t with obj := σ.obs.length, at' := 5 }, false)
 | 5 => ((σ.mem ((σ.μ.acc t.who 2 (10, t.s, t.mark)).put (10, t.s, t.mark) (dS t.x.flow t.obj))).note now t.who 0, { t with at' := 6, code := 0 }, false)
 | _ => (i3 σ t, t, true)
def gj (σ : bd) (t : Tk) (now : Int) : bd × Tk × Bool :=
 match t.at' with
 | 4 => let w := σ.μ.V (11, (t.obj : Int), 0)
  (dg σ t, { t with w := w, at' := if bC w = 0 then 8 else 5 }, false)
 | 5 => let q := σ.μ.V (2, 0, 0)
  (eK σ t, { t with q := q, at' := if q % 2 = 1 then 4 else 6 }, false)
 | 6 => let w := σ.μ.V (11, (t.obj : Int), 0)
  (dg σ t, { t with w := w, mark := now, at' := if bC w = 0 then 8 else 7 }, false)
 | 7 => if σ.μ.V (2, 0, 0) = t.q then ((eK σ t).note t.mark t.who 8, { t with at' := 10, code := 8 }, false) else (eK σ t, { t with at' := 4 }, false)
 | 8 => let o := aW t.w 2
  let σ1 := σ.mem (σ.μ.turn t.who t.obj t.w o)
  if fZ σ.μ t.obj t.w o = true then (σ1.note now t.who 0, { t with at' := 9, code := 0 }, false) else (σ1, { t with at' := 4 }, false)
 | 9 => (σ.mem ((σ.μ.acc t.who 2 (10, t.s, (t.i : Int))).put (10, t.s, (t.i : Int)) 0), { t with at' := 10 }, false)
 | _ => (i3 σ t, t, true)
def aA (σ : bd) (t : Tk) (now : Int) : bd × Tk × Bool :=
 match t.at' with
 | 0 => match uv t.x with
  | some e => (σ.note now t.who e, { t with code := e }, true)
  | none => fK σ t
 | 2 => fK σ t
 | 3 => let t1 := aD σ t
  if t1.found = true then (if t.x.op = 1 then ((aZ σ t).note now t.who 6, { t1 with at' := 6, code := 6 }, false) else (aZ σ t, { t1 with at' := 4 }, false))
  else if cD σ t1 = true then
   (if t.x.op = 1 then (if t1.mark < 0 then ((aZ σ t).note now t.who 7, { t1 with at' := 6, code := 7 }, false) else (aZ σ t, { t1 with at' := 4 }, false))
   else ((aZ σ t).note now t.who 5, { t1 with at' := 10, code := 5 }, false))
  else (aZ σ t, t1, false)
 | _ => if t.x.op = 1 then GH σ t now else gj σ t now
structure mL (σ : bd) (t : Tk) : Prop where
 s : t.s = (t.x.flow.tmod σ.c.sh + σ.c.sh).tmod σ.c.sh
 i : t.at' < 4 → (t.i : Int) < σ.c.sl
 x : t.at' ≠ 0 → uv t.x = none
 ats : t.at' = 0 ∨ t.at' = 2 ∨ t.at' = 3 ∨ 4 ≤ t.at' ∧ t.at' < 7 ∨ t.x.op ≠ 1 ∧ 7 ≤ t.at' ∧ t.at' < 11
 mark : t.at' = 4 ∨ t.at' = 5 → t.x.op = 1 → 0 ≤ t.mark
 obj : t.at' = 5 ∧ t.x.op = 1 ∨ 4 ≤ t.at' ∧ t.at' < 10 ∧ t.x.op ≠ 1 → t.obj < σ.obs.length
 w : t.w < 18446744073709551616
structure Ek where
 I : Nat
 free : Int
 at' : Int
 obj : Nat
 rv : Value
 w : Nat
 q : Nat
 nw : Int
 told : Int
abbrev rB (e p : Nat) (nx : Value) (t : Tk) (k : Ek) : SP :=
 blk e (.cells false [vp p, vi t.who, vi t.x.op, vi t.x.flow, vi t.x.a, vi t.x.b, vi t.s, nx, vi k.I, vi k.free, vi k.at', vi k.obj, k.rv, vu k.w, vu k.q, vi k.nw, vi k.told])
def f3 (t : Tk) : Nat := if t.x.op = 1 then
    (match t.at' with | 0 => fS | 2 => cO | 3 => bV | 4 => dy | 5 => ft | _ => aO)
 else match t.at' with | 0 => eZ | 2 => cW | 3 => cm | 4 => bq | 5 => d8 | 6 => cw | 7 => cE | 8 => cn | 9 => dM | _ => aO
def Plt (rp : List Nat) (t : Tk) (k : Ek) : Prop :=
 (t.at' < 4 → k.I = t.i ∧ k.free = t.mark) ∧ (t.x.op = 1 → (t.at' = 4 ∨ t.at' = 5 → k.free = t.mark) ∧ (t.at' = 5 → k.obj = t.obj) ∧ (t.at' = 6 → k.told = t.code)) ∧
 (t.x.op ≠ 1 → (4 ≤ t.at' → t.at' < 10 → k.at' = t.i ∧ ∃ b, rp[t.obj]? = some b ∧ k.rv = vp b) ∧ (t.at' = 6 ∨ t.at' = 7 → k.q = t.q) ∧ (t.at' = 7 → k.nw = t.mark) ∧ (t.at' = 8 → k.w = t.w) ∧ (t.at' = 9 ∨ t.at' = 10 → k.told = t.code))
def rT (e p : Nat) (rp : List Nat) (t : Tk) : SP := ex fun k : Ek => pu (Plt rp t k) * rB e p (fw e (f3 t)) t k
def rU (e p : Nat) (rp : List Nat) (r : bd × Tk × Bool) : SP := if r.2.2 = true then emp else rT e p rp r.2.1
def rQ (e p : Nat) (rp : List Nat) (r : bd × Tk × Bool) (rp' : List Nat) : SP := pu (rp <+: rp') * (rU e p rp' r * aM p rp' r.1)
section
variable {e p : Nat} {rp : List Nat} {g : PIds} {σ σ' : bd} {t t' : Tk} {R P : SP} {H : AH} {r : bd × Tk × Bool} {v : Value} {n : Nat} {c : Int} {k : Ek}
theorem iE (h : ac (rT e p rp t * aM p rp σ * R) H) : ∃ (k : Ek) (g : PIds), Plt rp t k ∧ g.rp = rp ∧ rp.length = σ.obs.length ∧ ac (rB e p (fw e (f3 t)) t k * (az p g σ * R)) H := by
 unfold rT at h;rw [aj] at h;obtain ⟨k, h1⟩ := ac.ex.1 h;rw [aj, ac.pu] at h1;obtain ⟨g, h3, h4, h5⟩ := dh (p := p) (rp := rp) (σ := σ) (R := rB e p (fw e (f3 t)) t k * R) (H := H) h1.2.to;exact ⟨k, g, h1.1, h3, h4, h5.to⟩
theorem gI (hr : r = (σ', t', false)) (hk : Plt g.rp t' k) (hn : f3 t' = n) (hl : g.rp.length = σ'.obs.length) (hp : rp <+: g.rp) (h : ac (rB e p (fw e n) t' k * (az p g σ' * R)) H) :
 ∃ x : List Nat, (.tuple #[.agg (ip 0).toArray, vb false]) = cg r ∧ ac (rQ e p rp r x * R) H := by
 subst hr hn;refine ⟨g.rp, rfl, ?_⟩;unfold rQ;rw [aj];refine ac.pu.2 ⟨hp, ?_⟩;have h1 := bz (p := p) (rp := g.rp) (σ := σ') (R := rB e p (fw e (f3 t')) t' k * R) g rfl hl h.to;rw [show rU e p g.rp (σ', t', false) = rT e p g.rp t' from by unfold rU; rw [if_neg (by simp)]];unfold rT;rw [aj];refine ac.ex.2 ⟨k, ?_⟩;rw [aj];exact ac.pu.2 ⟨hk, h1.to⟩
theorem amT (hr : r = (σ', t', true)) (hc : t'.code = c) (hl : g.rp.length = σ'.obs.length) (hp : rp <+: g.rp) (h : ac (az p g σ' * R) H) :
 ∃ x : List Nat, (.tuple #[.agg (ip c).toArray, vb true]) = cg r ∧ ac (rQ e p rp r x * R) H := by
 subst hr hc;refine ⟨g.rp, rfl, ?_⟩;unfold rQ;rw [aj];refine ac.pu.2 ⟨hp, ?_⟩;have h1 := bz (p := p) (rp := g.rp) (σ := σ') (R := R) g rfl hl h.to;rw [show rU e p g.rp (σ', t', true) = emp from by unfold rU; rw [if_pos rfl], g7];exact h1
theorem gK (nx : Value) (t' : Tk) (k : Ek) (n : Nat) {b : Nat} {Q : Value → AH → Prop} (h : ac P H) [fr : Fr P (rB e p nx t' k * blk b (.cells false [vi 0, .slice none 0 0, vi 0, vw 0])) R]
 (hk : ∀ H', ac (rB e p (fw e n) t' k * R) H' → Q (.tuple #[.agg (ip 0).toArray, vb false]) H') :
 wp ((FF bf [vp e, fw e n] H).bind fun r2 => (ag r2.1 0).bind fun v3 => (ag r2.1 1).bind fun v4 => (cJ 4 (vp b) v3 r2.2).bind fun H5 => (ax 4 (vp b) H5).bind fun v6 => some (Value.tuple #[v6, v4], H5)) Q := by
 have on : Sp bf [vp e, fw e n] (rB e p nx t' k) (fun _ : Unit => .tuple #[.agg (ip 0).toArray, vb false]) (fun _ => rB e p (fw e n) t' k) := by
  refine aY (HW _ _) fun R H h => ?_;refine bo h fun b H1 h1 => ?_;refine bg h1 ae rfl rfl fun H2 h2 => ?_;refine jq ?_;refine eM h2 rfl rfl fun H3 h3 => ?_;refine aR h3 ?_;exact am ⟨(), rfl, h3.to⟩
 exact nD h on hk
end
section
variable (e p : Nat) (rp : List Nat) (g : PIds) (σ : bd) (t : Tk) (k : Ek) (nx : Value) (now : Int)
theorem nB (code : Int) (hp : σ.pts.length < 1000000) (hl : g.rp.length = σ.obs.length) : Sp cX [vp e, vi now, vi code] (rB e p nx t k * az p g σ) (fun _ : PIds => .tuple #[]) (fun g' => pu (g'.rp = g.rp) * (rB e p nx t { k with told := code } * az p g' (σ.note now t.who code))) := by
 refine aY (CM _ _ _) fun R H h => ?_;refine bg h ae rfl rfl fun H0 h0 => ?_;refine ak h0 ae rfl ?_;refine ak h0 ae rfl ?_;refine jq ?_;have h1 := bz (p := p) (rp := g.rp) (σ := σ) (R := rB e p nx t { k with told := code } * R) g rfl hl h0.to;refine af h1 (atO p g.rp σ now t.who code hp) fun _ H2 h2 => ?_;obtain ⟨g', hg', _, h3⟩ := dh (p := p) (rp := g.rp) (σ := σ.note now t.who code) (R := rB e p nx t { k with told := code } * R) (H := H2) h2.to;refine am ⟨g', rfl, ?_⟩;rw [aj];exact ac.pu.2 ⟨hg', h3.to⟩
theorem Qb (u : Nat) (w : Int) (hu : 1 ≤ u ∧ u ≤ 4611686018427387904) (hw : 1 ≤ w ∧ w ≤ 65536) : Sp oU [vu u, vi w] emp (fun _ : Unit => .tuple #[vu (max (u / w.toNat) 1), vb true]) (fun _ => emp) := by
 refine aY (Hb _ _) fun R H h => ?_;refine aa (bE (by omega)) ?_;refine gs ?_;refine aa (fJ ?_) ?_
 ·omega
 refine gs ?_;refine aa (bE ?_) ?_
 ·omega
 refine gs ?_;refine aa (fJ ?_) ?_
 ·omega
 refine gs ?_;refine aa (dU (by omega) (by omega)) ?_;refine aa (zl (by omega) (by omega)) ?_;refine aa (atI (b := 1)) ?_;exact am ⟨(), rfl, ac.to (by assumption)⟩
theorem aw3 (who : Int) (o : Ob) (hE : σ.μ.N < 1099511627000) (ho : σ.obs.length < 1000000) (hg : g.rp.length = σ.obs.length) : Sp ee [vp p, vi who, .agg (#[vi o.flow, vi o.most, vu o.r] : Array Value)] (az p g σ) (fun _ : PIds => vi σ.obs.length) (fun g' => pu (g.rp <+: g'.rp ∧ g'.rp.length = σ.obs.length + 1) * az p g' (σ.make who o)) := by
 have hz : ((σ.obs.map fun x => x.1).zip g.rp).length = σ.obs.length := by simp [hg]
 refine aK fun R H h0 => ?_;unfold az at h0;refine bj (fun r => lV _ _ _ H) ?_;refine aS (l := [vi o.flow, vi o.most, vu o.r]) h0 fun ob H1 h1 => ?_;refine ak h1 ae rfl ?_;refine oW (s := g.ov) h1 ?_;rw [hz];refine ak h1 ae rfl ?_;refine jq ?_;refine af h1 ((tZ g.m σ.μ who (13, σ.obs.length, 0) (by omega)).imp fun _ R H h => jD (N' := σ.μ.N + 2) (by simp) h) fun _ H2 h2 => ?_;refine bD ae ?_;refine aN h2 rfl ?_;refine aR h2 ?_;refine ak h2 ae rfl ?_;refine ak h2 aB rfl ?_;refine af h2 (PI g.m σ.obs.length o.most) fun rb H3 h3 => ?_;refine aH h3 h2 rfl ?_;refine dB h3 h2 rfl ?_;refine jq ?_;refine Qi h3 fun b0 H4 h4 => ?_;refine gY ((o, rb) : Ob × Nat) h4 rfl ?_ (by omega) fun a cc H5 h5 => ?_
 ·unfold dc; omega
 refine bg h5 ae rfl rfl fun H6 h6 => ?_;refine am ⟨{ g with ov := .slice a (((σ.obs.map fun x => x.1).zip g.rp).length + 1) cc, rp := g.rp ++ [rb] }, rfl, ?_⟩;rw [aj];refine ac.pu.2 ⟨⟨List.prefix_append _ _, by simp [hg]⟩, ?_⟩;unfold az bd.make;dsimp only
 have e1 : ((σ.obs ++ [(o, List.replicate (eI o.most) Nh)]).map fun x => x.1).zip (g.rp ++ [rb]) = ((σ.obs.map fun x => x.1).zip g.rp) ++ [(o, rb)] := by
  rw [HN, List.zip_append (by simp [hg])]
  rfl
 have e2 : (g.rp ++ [rb]).zip ((σ.obs ++ [(o, List.replicate (eI o.most) Nh)]).map fun x => x.2) = (g.rp.zip (σ.obs.map fun x => x.2)) ++ [(rb, List.replicate (eI o.most) Nh)] := by
  rw [HN, List.zip_append (by simp [hg])]
  rfl
 have e3 : 0 + (g.rp.zip (σ.obs.map fun x => x.2)).length = σ.obs.length := by simp [hg]
 rw [e1, e2, Bw, e3];exact h6.to
theorem XV (S : SOk σ) (hi : (t.i : Int) < σ.c.sl) (hI : k.I = t.i) (hfr : k.free = t.mark) :
 Sp kR [vp e] (rB e p nx t k * az p g σ) (fun _ : Unit => .tuple #[vb (aD σ t).found, vb (decide (σ.c.sl ≤ ((t.i + 1 : Nat) : Int)))])
  (fun _ => rB e p nx t { k with I := t.i + 1, free := (aD σ t).mark, at' := t.i, obj := σ.μ.V (10, t.s, (t.i : Int)) % 4294967296 } * az p g (aZ σ t)) := by
 have hc := bQ.1 S.c;refine aY (GJ _) fun R H h => ?_;refine ak h ae rfl ?_;refine ak h ae rfl ?_;refine ak h ae rfl ?_;refine ak h ae rfl ?_;refine ak h ae rfl ?_;rw [hI];refine af h (wC (p := p) (g := g) (σ := σ) (BD g.tb g.m σ.c.sh.toNat σ.c.sl.toNat σ.μ t.who t.s t.i (by have := S.N; omega) (S.V _))) fun _ H1 h1 => ?_;obtain ⟨v, hv⟩ : ∃ v, v = σ.μ.V (10, t.s, (t.i : Int)) := ⟨_, rfl⟩;rw [← hv];have fin : ∀ (y2 y3 fl : Value) (is : Bool) (k1 : Ek) (H' : AH), k1.I = t.i → (is = true → fl = vi ((v / 4294967296 : Nat) - 1)) → (aD σ t).found = (is && decide (((v / 4294967296 : Nat) : Int) - 1 = t.x.flow)) →
  { k1 with I := t.i + 1, at' := t.i, obj := v % 4294967296 } = { k with I := t.i + 1, free := (aD σ t).mark, at' := t.i, obj := v % 4294967296 } →
  ac (rB e p nx t k1 * (az p g (aZ σ t) * R)) H' → wp (jU (vp e) y2 y3 fl (vi ((v % 4294967296 : Nat) : Int)) (vb is) H') fun v' H' => ∃ _x : Unit, v' = .tuple #[vb (aD σ t).found, vb (decide (σ.c.sl ≤ ((t.i + 1 : Nat) : Int)))] ∧
   ac (rB e p nx t { k with I := t.i + 1, free := (aD σ t).mark, at' := t.i, obj := v % 4294967296 } * az p g (aZ σ t) * R) H' := by
  intro y2 y3 fl is k1 H' hi1 hfl hfd hke h';refine ah (yL ..) ?_;refine ak h' ae rfl ?_;rw [hi1];refine bg h' ae rfl rfl fun H2 h2 => ?_;refine bg h2 ae rfl rfl fun H3 h3 => ?_;refine ak h3 ae rfl ?_;rw [hi1];refine aa (aE (by omega) (by omega)) ?_;rw [show ((t.i : Nat) : Int) + 1 = ((t.i + 1 : Nat) : Int) from by omega];refine bg h3 ae rfl rfl fun H4 h4 => ?_
  have h5 : ac (rB e p nx t { k with I := t.i + 1, free := (aD σ t).mark, at' := t.i, obj := v % 4294967296 } * (az p g (aZ σ t) * R)) H4 := by
   rw [← hke];exact h4.to
  have tail : ∀ (b : Bool) (x10 : Value) (H4 : AH), (aD σ t).found = b → ac (rB e p nx t { k with I := t.i + 1, free := (aD σ t).mark, at' := t.i, obj := v % 4294967296 } * (az p g (aZ σ t) * R)) H4 → (∀ H8, ac (rB e p nx t { k with I := t.i + 1, free := (aD σ t).mark, at' := t.i, obj := v % 4294967296 } * (az p g (aZ σ t) * R)) H8 → ar x10 H8 = ar x10 H4) → wp (ad [.n, .f 8] (vp e) fun v14 =>
   (ar v14 H4).bind fun v15 =>
   ld [.n, .f 0] (vp e) H4 fun v16 =>
   ld [.n, .f 2] v16 H4 fun v17 =>
   (FF dR [v17] H4).bind fun r18 =>
   bX (ar x10 r18.2) (ar x10 H4) <|
   bX (ar v14 r18.2) (ar v14 H4) <|
   (ai .other .geq v15 r18.1).bind fun v19 =>
   some (Value.tuple #[vb b, v19], r18.2)) fun v' H' => ∃ _x : Unit, v' = .tuple #[vb (aD σ t).found, vb (decide (σ.c.sl ≤ ((t.i + 1 : Nat) : Int)))] ∧
   ac (rB e p nx t { k with I := t.i + 1, free := (aD σ t).mark, at' := t.i, obj := v % 4294967296 } * az p g (aZ σ t) * R) H' := by
   intro b x10 H4 hb h5 hx;refine bD ae ?_;refine aN h5 rfl ?_;refine ak h5 ae rfl ?_;refine ak h5 ae rfl ?_;refine af h5 (J1 (p := p) (g := g) (σ := aZ σ t) (BE g.tb g.m σ.c.sh.toNat σ.c.sl.toNat)) fun _ H6 h6 => ?_;refine ze (hx H6 h6.to) ?_;refine aH h6 h5 (by rfl) ?_;refine aa (v := vb (decide (σ.c.sl ≤ ((t.i + 1 : Nat) : Int)))) ?_ ?_
   ·show ai _ .geq (vi ((t.i + 1 : Nat) : Int)) _ = _
    rw [tB]
    congr 3
    apply propext;omega
   exact am ⟨(), by rw [hb], h6.to⟩
  cases is with
  | false =>
   refine gs ?_;refine aeO ?_;refine gs ?_;exact tail false _ H4 (by rw [hfd]; rfl) h5 (fun _ _ => rfl)
  | true =>
   rw [hfl rfl];refine gs ?_;refine lC ?_;refine bD (cj (aP (aP be))) ?_;refine gs ?_;refine aN h5 rfl ?_;refine gs ?_
   by_cases hf : ((v / 4294967296 : Nat) : Int) - 1 = t.x.flow
   ·refine aa (bi hf) ?_
    refine gs ?_;exact tail true _ H4 (by rw [hfd, fH hf]; rfl) h5 (fun H8 h8 => ak7 h8 h5 rfl)
   ·refine aa (aG hf) ?_
    refine gs ?_;exact tail false _ H4 (by rw [hfd, e7 hf]; rfl) h5 (fun H8 h8 => ak7 h8 h5 rfl)
 by_cases hv0 : v = 0
 ·have e1 : iw v = .tuple #[vi 0, vi 0, vb false] := by rw [iw, if_pos hv0]
  rw [e1];refine aa (v := vi 0) rfl ?_;refine aa (v := vi 0) rfl ?_;refine aa (v := vb false) rfl ?_;refine ah (oy ..) ?_;refine gs ?_;rw [Bool.not_false];refine gs ?_;refine ak h1 ae rfl ?_;refine gs ?_
  have hfd : (aD σ t).found = (false && decide (((v / 4294967296 : Nat) : Int) - 1 = t.x.flow)) := by
   show ss (σ.μ.V (10, t.s, (t.i : Int))) t.x.flow = _;rw [← hv, hv0]
   rfl
  have e0 : vi (0 : Int) = vi ((v % 4294967296 : Nat) : Int) := by rw [hv0]; rfl
  by_cases hm : k.free < 0
  ·refine aa (bS hm) ?_
   refine gs ?_;refine ak h1 ae rfl ?_;refine bg h1 ae rfl rfl fun H2 h2 => ?_
   have em : (aD σ t).mark = t.i := by
    show (if σ.μ.V (10, t.s, (t.i : Int)) = 0 ∧ t.mark < 0 then (t.i : Int) else t.mark) = _;rw [if_pos ⟨by rw [← hv, hv0], by rw [← hfr]; exact hm⟩]
   rw [e0];refine fin _ _ _ false { k with free := t.i } H2 hI (fun h => by cases h) hfd (by rw [em]) ?_;rw [← hI];exact h2.to
  ·refine aa (bE hm) ?_
   refine gs ?_
   have em : (aD σ t).mark = k.free := by
    show (if σ.μ.V (10, t.s, (t.i : Int)) = 0 ∧ t.mark < 0 then (t.i : Int) else t.mark) = _;rw [if_neg (fun h => hm (by rw [hfr]; exact h.2)), hfr]
   rw [e0];exact fin _ _ _ false k H1 hI (fun h => by cases h) hfd (by rw [em]) h1.to
 ·have e1 : iw v = .tuple #[vi ((v / 4294967296 : Nat) - 1), vi (v % 4294967296 : Nat), vb true] := by rw [iw, if_neg hv0]
  rw [e1];refine aa (v := vi ((v / 4294967296 : Nat) - 1)) rfl ?_;refine aa (v := vi (v % 4294967296 : Nat)) rfl ?_;refine aa (v := vb true) rfl ?_;refine ah (oy ..) ?_;refine gs ?_;rw [Bool.not_true];refine gs ?_
  have hfd : (aD σ t).found = (true && decide (((v / 4294967296 : Nat) : Int) - 1 = t.x.flow)) := by
   show ss (σ.μ.V (10, t.s, (t.i : Int))) t.x.flow = _;rw [← hv];simp [ss, hv0]
  have em : (aD σ t).mark = k.free := by
   show (if σ.μ.V (10, t.s, (t.i : Int)) = 0 ∧ t.mark < 0 then (t.i : Int) else t.mark) = _;rw [if_neg (fun h => hv0 (hv.trans h.1)), hfr]
  exact fin _ _ _ true k H1 hI (fun _ => rfl) hfd (by rw [em]) h1.to
end
theorem u7 {rp : List Nat} {t : Tk} {k : Ek} (ha : t.at' < 4) (h : k.I = t.i ∧ k.free = t.mark) : Plt rp t k :=
 ⟨fun _ => h, fun _ => ⟨fun h => by omega, fun h => by omega, fun h => by omega⟩, fun _ => ⟨fun h _ => by omega, fun h => by omega, fun h => by omega, fun h => by omega, fun h => by omega⟩⟩
theorem Ni {rp : List Nat} {t : Tk} {k : Ek} (ho : t.x.op = 1) (ha : 4 ≤ t.at') (h4 : t.at' = 4 ∨ t.at' = 5 → k.free = t.mark) (h5 : t.at' = 5 → k.obj = t.obj) (h6 : t.at' = 6 → k.told = t.code) : Plt rp t k :=
 ⟨fun h => by omega, fun _ => ⟨h4, h5, h6⟩, fun h => absurd ho h⟩
theorem uA {rp : List Nat} {t : Tk} {k : Ek} {b : Nat} (ho : t.x.op ≠ 1) (ha : 4 ≤ t.at') (h1 : k.at' = t.i) (h2 : rp[t.obj]? = some b) (h3 : k.rv = vp b) (hq : t.at' = 6 ∨ t.at' = 7 → k.q = t.q) (hn : t.at' = 7 → k.nw = t.mark) (hw : t.at' = 8 → k.w = t.w) (hb : t.at' < 10) (ht : t.at' = 9 → k.told = t.code) : Plt rp t k :=
 ⟨fun h => by omega, fun h => absurd h ho, fun _ => ⟨fun _ _ => ⟨h1, b, h2, h3⟩, hq, hn, hw, fun h => ht (by omega)⟩⟩
theorem afA {rp : List Nat} {t : Tk} {k : Ek} (ho : t.x.op ≠ 1) (ha : t.at' = 10) (h : k.told = t.code) : Plt rp t k :=
 ⟨fun h => by omega, fun h => absurd h ho, fun _ => ⟨fun _ _ => by omega, fun h => by omega, fun h => by omega, fun h => by omega, fun _ => h⟩⟩
section
variable (e p : Nat) (rp : List Nat) (σ : bd) (t : Tk) (now : Int)
theorem Jn (S : SOk σ) (T : mL σ t) (ho : t.x.op = 1) (hat : t.at' < 4) : Sp cO [vp e, vi now] (rT e p rp t * aM p rp σ) (fun _ : List Nat => cg (fK σ t)) (fun x => rQ e p rp (fK σ t) x) := by
 have hN : σ.μ.N < 1099511627000 := by have := S.N; omega
 refine aK fun R H h => ?_;obtain ⟨k, g, hk, rfl, hl, h0⟩ := iE h;refine bj (fun r => Ay _ _ H) ?_;refine bo h0 fun b1 H1 h1 => ?_;refine ak h1 ae rfl ?_;refine ak h1 ae rfl ?_;refine ak h1 ae rfl ?_;refine ak h1 ae rfl ?_;refine af h1 (wC (p := p) (g := g) (σ := σ) (wu g.tb g.m σ.c.sh.toNat σ.c.sl.toNat σ.μ t.who t.s hN)) fun _ H2 h2 => ?_
 by_cases hw : σ.μ.V (8, t.s, 0) = 0
 ·rw [fH hw]
  refine gs ?_;rw [Bool.not_true];refine gs ?_;refine gK (e := e) (p := p) (fw e (f3 t)) t (k) bV h2 fun H9 h9 => ?_;exact gI (g := g) (σ' := lQ σ t) (t' := { t with at' := 3 }) (k := k) (n := bV) (by unfold fK; rw [if_pos hw]) (u7 (by simp) (hk.1 hat)) (by simp [f3, aD, ho]) hl (lm _) (show ac (rB e p (fw e bV) t (k) * (az p g (lQ σ t) * R)) H9 from h9.to)
 ·rw [e7 hw]
  refine gs ?_;rw [Bool.not_false];refine gs ?_;refine gK (e := e) (p := p) (fw e (f3 t)) t (k) cO h2 fun H9 h9 => ?_;exact gI (g := g) (σ' := lQ σ t) (t' := { t with at' := 2 }) (k := k) (n := cO) (by unfold fK; rw [if_neg hw]) (u7 (by simp) (hk.1 hat)) (by simp [f3, aD, ho]) hl (lm _) (show ac (rB e p (fw e cO) t (k) * (az p g (lQ σ t) * R)) H9 from h9.to)
theorem PE (S : SOk σ) (T : mL σ t) (ho : t.x.op ≠ 1) (hat : t.at' < 4) : Sp cW [vp e, vi now] (rT e p rp t * aM p rp σ) (fun _ : List Nat => cg (fK σ t)) (fun x => rQ e p rp (fK σ t) x) := by
 have hN : σ.μ.N < 1099511627000 := by have := S.N; omega
 refine aK fun R H h => ?_;obtain ⟨k, g, hk, rfl, hl, h0⟩ := iE h;refine bj (fun r => CH _ _ H) ?_;refine bo h0 fun b1 H1 h1 => ?_;refine ak h1 ae rfl ?_;refine ak h1 ae rfl ?_;refine ak h1 ae rfl ?_;refine ak h1 ae rfl ?_;refine af h1 (wC (p := p) (g := g) (σ := σ) (wu g.tb g.m σ.c.sh.toNat σ.c.sl.toNat σ.μ t.who t.s hN)) fun _ H2 h2 => ?_
 by_cases hw : σ.μ.V (8, t.s, 0) = 0
 ·rw [fH hw]
  refine gs ?_;rw [Bool.not_true];refine gs ?_;refine gK (e := e) (p := p) (fw e (f3 t)) t (k) cm h2 fun H9 h9 => ?_;exact gI (g := g) (σ' := lQ σ t) (t' := { t with at' := 3 }) (k := k) (n := cm) (by unfold fK; rw [if_pos hw]) (u7 (by simp) (hk.1 hat)) (by simp [f3, aD, ho]) hl (lm _) (show ac (rB e p (fw e cm) t (k) * (az p g (lQ σ t) * R)) H9 from h9.to)
 ·rw [e7 hw]
  refine gs ?_;rw [Bool.not_false];refine gs ?_;refine gK (e := e) (p := p) (fw e (f3 t)) t (k) cW h2 fun H9 h9 => ?_;exact gI (g := g) (σ' := lQ σ t) (t' := { t with at' := 2 }) (k := k) (n := cW) (by unfold fK; rw [if_neg hw]) (u7 (by simp) (hk.1 hat)) (by simp [f3, aD, ho]) hl (lm _) (show ac (rB e p (fw e cW) t (k) * (az p g (lQ σ t) * R)) H9 from h9.to)
theorem Bt (g : PIds) (k : Ek) (nx : Value) : Sp gD [vp e] (rB e p nx t k) (fun _ : Unit => vb (decide (sR t.x))) (fun _ => rB e p nx t k) := by
 refine aY (wm _) fun R H h => ?_;refine ak h (cj (aP (aP be))) rfl ?_
 by_cases hf : t.x.flow < 0
 ·rw [show decide (sR t.x) = true from fH (.inl hf)]
  refine aa (bS hf) ?_;refine gs ?_;exact am ⟨(), rfl, h⟩
 ·refine aa (bE hf) ?_
  refine gs ?_;refine ak h (cj (aP (aP be))) rfl ?_;refine gs ?_
  by_cases hf2 : 1048576 < t.x.flow
  ·rw [show decide (sR t.x) = true from fH (.inr hf2)]
   refine aa (j5 hf2) ?_;refine gs ?_;exact am ⟨(), rfl, h⟩
  ·rw [show decide (sR t.x) = false from e7 (fun h => h.elim hf hf2)]
   refine aa (fJ hf2) ?_;refine gs ?_;exact am ⟨(), rfl, h⟩
theorem TC (g : PIds) (k : Ek) (nx : Value) (code : Int) (hp : σ.pts.length < 1000000) (hl : g.rp.length = σ.obs.length) : Sp dn [vp e, vi now, vi code] (rB e p nx t k * az p g σ) (fun _ : Unit => .tuple #[.agg (ip code).toArray, vb true]) (fun _ => ex fun g' : PIds => pu (g'.rp = g.rp) * az p g' (σ.note now t.who code)) := by
 refine aY (yM _ _ _) fun R H h => ?_;refine bo h fun b H1 h1 => ?_;refine af h1 (nB e p g σ t k nx now code hp hl) fun g' H2 h2 => ?_;rw [aj, ac.pu] at h2;obtain ⟨hg', h2⟩ := h2;refine jq ?_;refine eM h2 rfl rfl fun H4 h4 => ?_;refine aR h4 ?_;refine am ⟨(), rfl, ac.ex.2 ⟨g', ?_⟩⟩;rw [aj];exact ac.pu.2 ⟨hg', h4.to⟩
theorem mI {R : SP} {H : AH} {g : PIds} {k : Ek} {nx : Value} {b : Nat} (code : Int) (S : SOk σ) (hl : g.rp.length = σ.obs.length) (hx : uv t.x = some code) (h : ac (rB e p nx t k * (az p g σ * (blk b (.cells false [vi 0, .slice none 0 0, vi 0, vw 0]) * R))) H) (hat : t.at' = 0) :
 wp ((FF dn [vp e, vi now, vi code] H).bind fun r2 => (ag r2.1 0).bind fun v3 => (ag r2.1 1).bind fun v4 => (cJ 4 (vp b) v3 r2.2).bind fun H5 => (ax 4 (vp b) H5).bind fun v6 => some (Value.tuple #[v6, v4], H5)) fun v' H' => ∃ x : List Nat, v' = cg (aA σ t now) ∧ ac (rQ e p g.rp (aA σ t now) x * R) H' := by
 refine nD h (TC e p σ t now g k nx code (by have := S.pts; omega) hl) fun H9 h9 => ?_;obtain ⟨g', h1⟩ := ac.ex.1 h9;rw [aj, ac.pu] at h1
 have hs : aA σ t now = (σ.note now t.who code, { t with code := code }, true) := by simp only [aA, hat, hx]
 have := amT (e := e) (p := p) (rp := g.rp) (g := g') (r := aA σ t now) (σ' := σ.note now t.who code) (t' := { t with code := code }) (R := R) (H := H9) hs rfl (by rw [h1.1]; exact hl) (by rw [h1.1]; exact lm _) h1.2.to;exact this
theorem nA {x : Cl} (ho : x.op = 1) : uv x = if sR x then some 1 else if x.a < 1 ∨ 65536 < x.a then some 4 else if x.b < 1 ∨ 8 < x.b then some 1 else none := if_pos ho
theorem GF {x : Cl} (ho : x.op ≠ 1) : uv x = if sR x then some 5 else none := if_neg ho
theorem yJ {k : Ek} {g : PIds} {R : SP} {H : AH} (hk : Plt g.rp t k) (hl : g.rp.length = σ.obs.length) (h : ac (rB e p (fw e (f3 t)) t k * (az p g σ * R)) H) : ac (rT e p g.rp t * aM p g.rp σ * R) H := by
 have h1 := bz (p := p) (rp := g.rp) (σ := σ) (R := rB e p (fw e (f3 t)) t k * R) g rfl hl h.to;unfold rT;rw [aj];refine ac.ex.2 ⟨k, ?_⟩;rw [aj];exact ac.pu.2 ⟨hk, h1.to⟩
theorem M8 {e p : Nat} {rp : List Nat} {r : bd × Tk × Bool} {P0 R : SP} {H : AH} {b fn : Nat} {args : List Value} (h : ac (P0 * (blk b (.cells false [vi 0, .slice none 0 0, vi 0, vw 0]) * R)) H)
 (s : Sp fn args P0 (fun _ : List Nat => cg r) (fun x => rQ e p rp r x)) :
 wp ((FF fn args H).bind fun r2 => (ag r2.1 0).bind fun v3 => (ag r2.1 1).bind fun v4 => (cJ 4 (vp b) v3 r2.2).bind fun H5 => (ax 4 (vp b) H5).bind fun v6 => some (Value.tuple #[v6, v4], H5)) fun v' H' => ∃ x : List Nat, v' = cg r ∧ ac (rQ e p rp r x * R) H' := by
 refine af h s fun y H2 h2 => ?_;refine aa (v := .agg (ip (if r.2.2 = true then r.2.1.code else 0)).toArray) rfl ?_;refine aa (v := vb r.2.2) rfl ?_;refine eM h2 rfl rfl fun H3 h3 => ?_;refine aR h3 ?_;exact am ⟨y, rfl, h3.to⟩
theorem am4 (S : SOk σ) (T : mL σ t) (ho : t.x.op = 1) (hat : t.at' = 0) : Sp fS [vp e, vi now] (rT e p rp t * aM p rp σ) (fun _ : List Nat => cg (aA σ t now)) (fun x => rQ e p rp (aA σ t now) x) := by
 refine aK fun R H h => ?_;obtain ⟨k, g, hk, rfl, hl, h0⟩ := iE h;refine bj (fun r => CF _ _ H) ?_;refine bo h0 fun b1 H1 h1 => ?_;refine ah (wh ..) ?_;refine af h1 (Bt e p t g k (fw e (f3 t))) fun _ H2 h2 => ?_
 by_cases hf : sR t.x
 ·rw [fH hf]
  refine gs ?_;exact mI e p σ t now (k := k) (nx := fw e (f3 t)) 1 S hl (by rw [nA ho, if_pos hf]) h2.to hat
 rw [e7 hf];refine gs ?_;refine ak h2 (cj (aP (aP be))) rfl ?_
 have bad : (t.x.a < 1 ∨ 65536 < t.x.a) → uv t.x = some 4 := fun h => by rw [nA ho, if_neg hf, if_pos h]
 by_cases ha : t.x.a < 1
 ·refine aa (bS ha) ?_
  refine gs ?_;exact mI e p σ t now (k := k) (nx := fw e (f3 t)) 4 S hl (bad (.inl ha)) h2.to hat
 refine aa (bE ha) ?_;refine gs ?_;refine ak h2 (cj (aP (aP be))) rfl ?_;refine gs ?_
 by_cases ha2 : 65536 < t.x.a
 ·refine aa (j5 ha2) ?_
  refine gs ?_;exact mI e p σ t now (k := k) (nx := fw e (f3 t)) 4 S hl (bad (.inr ha2)) h2.to hat
 refine aa (fJ ha2) ?_;refine gs ?_;refine ak h2 (cj (aP (aP be))) rfl ?_
 have bad2 : (t.x.b < 1 ∨ 8 < t.x.b) → uv t.x = some 1 := fun h => by rw [nA ho, if_neg hf, if_neg (by omega), if_pos h]
 by_cases hb : t.x.b < 1
 ·refine aa (bS hb) ?_
  refine gs ?_;exact mI e p σ t now (k := k) (nx := fw e (f3 t)) 1 S hl (bad2 (.inl hb)) h2.to hat
 refine aa (bE hb) ?_;refine gs ?_;refine ak h2 (cj (aP (aP be))) rfl ?_;refine gs ?_
 by_cases hb2 : 8 < t.x.b
 ·refine aa (j5 hb2) ?_
  refine gs ?_;exact mI e p σ t now (k := k) (nx := fw e (f3 t)) 1 S hl (bad2 (.inr hb2)) h2.to hat
 refine aa (fJ hb2) ?_;refine gs ?_;refine ah (wi ..) ?_
 have hx : uv t.x = none := by rw [nA ho, if_neg hf, if_neg (by omega), if_neg (by omega)]
 have hs : aA σ t now = fK σ t := by simp only [aA, hat, hx]
 have h3 : ac (rT e p g.rp t * aM p g.rp σ * (blk b1 (.cells false [vi 0, .slice none 0 0, vi 0, vw 0]) * R)) H2 := yJ e p σ t hk hl h2.to;rw [hs];exact M8 h3 (Jn e p g.rp σ t now S T ho (by omega))
theorem ac6 (S : SOk σ) (T : mL σ t) (ho : t.x.op ≠ 1) (hat : t.at' = 0) : Sp eZ [vp e, vi now] (rT e p rp t * aM p rp σ) (fun _ : List Nat => cg (aA σ t now)) (fun x => rQ e p rp (aA σ t now) x) := by
 refine aK fun R H h => ?_;obtain ⟨k, g, hk, rfl, hl, h0⟩ := iE h;refine bj (fun r => Az _ _ H) ?_;refine bo h0 fun b1 H1 h1 => ?_;refine af h1 (Bt e p t g k (fw e (f3 t))) fun _ H2 h2 => ?_
 by_cases hf : sR t.x
 ·rw [fH hf]
  refine gs ?_;exact mI e p σ t now (k := k) (nx := fw e (f3 t)) 5 S hl (by rw [GF ho, if_pos hf]) h2.to hat
 rw [e7 hf];refine gs ?_
 have hx : uv t.x = none := by rw [GF ho, if_neg hf]
 have hs : aA σ t now = fK σ t := by simp only [aA, hat, hx]
 have h3 : ac (rT e p g.rp t * aM p g.rp σ * (blk b1 (.cells false [vi 0, .slice none 0 0, vi 0, vw 0]) * R)) H2 := yJ e p σ t hk hl h2.to;rw [hs];exact M8 h3 (PE e p g.rp σ t now S T ho (by omega))
theorem TD (S : SOk σ) (T : mL σ t) (ho : t.x.op = 1) (hat : t.at' = 3) : Sp bV [vp e, vi now] (rT e p rp t * aM p rp σ) (fun _ : List Nat => cg (aA σ t now)) (fun x => rQ e p rp (aA σ t now) x) := by
 have hN : σ.μ.N < 1099511627000 := by have := S.N; omega
 refine aK fun R H h => ?_;obtain ⟨k, g, hk, rfl, hl, h0⟩ := iE h;refine bj (fun r => yN _ _ H) ?_;refine bo h0 fun b1 H1 h1 => ?_;have hi := T.i (by omega);obtain ⟨hI, hfr⟩ := hk.1 (by omega);refine af h1 (XV e p g σ t k (fw e (f3 t)) S hi hI hfr) fun _ H2 h2 => ?_;obtain ⟨k2, hk2⟩ : ∃ k2 : Ek, k2 = { k with I := t.i + 1, free := (aD σ t).mark, at' := t.i, obj := σ.μ.V (10, t.s, (t.i : Int)) % 4294967296 } := ⟨_, rfl⟩;rw [← hk2] at h2;refine aa (v := vb (aD σ t).found) rfl ?_;refine aa (v := vb (decide (σ.c.sl ≤ ((t.i + 1 : Nat) : Int)))) rfl ?_;refine ah (tc ..) ?_
 cases hfd : (aD σ t).found with
 | true =>
  refine gs ?_;refine af h2 (nB e p g (aZ σ t) t k2 (fw e (f3 t)) now 6 (by have := S.pts; show σ.pts.length < _; omega) hl) fun g' H3 h3 => ?_;rw [aj, ac.pu] at h3;obtain ⟨hg', h3⟩ := h3;refine gK (e := e) (p := p) (fw e (f3 t)) t ({ k2 with told := 6 }) aO h3 fun H9 h9 => ?_;exact gI (g := g') (σ' := (aZ σ t).note now t.who 6) (t' := { aD σ t with at' := 6, code := 6 }) (k := { k2 with told := 6 }) (n := aO) (by simp only [aA, hat]; rw [if_pos hfd, if_pos ho]) (Ni ho (by simp) (by simp) (by simp) (by simp)) (by simp [f3, aD, ho]) (by rw [hg']; exact hl) (by rw [hg']; exact lm _) (show ac (rB e p (fw e aO) t ({ k2 with told := 6 }) * (az p g' ((aZ σ t).note now t.who 6) * R)) H9 from h9.to)
 | false =>
  refine gs ?_
  have hli : (aD σ t).i = t.i + 1 := by
   show (if (aD σ t).found = true then t.i else t.i + 1) = _;rw [if_neg (by rw [hfd]; simp)]
  have hla : cD σ (aD σ t) = decide (σ.c.sl ≤ ((t.i + 1 : Nat) : Int)) := by unfold cD; rw [hli]
  have nf : ¬ (aD σ t).found = true := by rw [hfd]; simp
  by_cases hL : σ.c.sl ≤ ((t.i + 1 : Nat) : Int)
  ·have hla' : cD σ (aD σ t) = true := hla.trans (fH hL)
   rw [fH hL];refine gs ?_;refine ak h2 ae (show _ = some (vi (aD σ t).mark) from by rw [hk2]; rfl) ?_;refine gs ?_
   by_cases hm : (aD σ t).mark < 0
   ·refine aa (bS hm) ?_
    refine gs ?_;refine af h2 (nB e p g (aZ σ t) t k2 (fw e (f3 t)) now 7 (by have := S.pts; show σ.pts.length < _; omega) hl) fun g' H3 h3 => ?_;rw [aj, ac.pu] at h3;obtain ⟨hg', h3⟩ := h3;refine gK (e := e) (p := p) (fw e (f3 t)) t ({ k2 with told := 7 }) aO h3 fun H9 h9 => ?_;exact gI (g := g') (σ' := (aZ σ t).note now t.who 7) (t' := { aD σ t with at' := 6, code := 7 }) (k := { k2 with told := 7 }) (n := aO) (by simp only [aA, hat]; rw [if_neg nf, if_pos hla', if_pos ho, if_pos hm]) (Ni ho (by simp) (by simp) (by simp) (by simp)) (by simp [f3, aD, ho]) (by rw [hg']; exact hl) (by rw [hg']; exact lm _) (show ac (rB e p (fw e aO) t ({ k2 with told := 7 }) * (az p g' ((aZ σ t).note now t.who 7) * R)) H9 from h9.to)
   ·refine aa (bE hm) ?_
    refine gs ?_;refine gK (e := e) (p := p) (fw e (f3 t)) t (k2) dy h2 fun H9 h9 => ?_;exact gI (g := g) (σ' := aZ σ t) (t' := { aD σ t with at' := 4 }) (k := k2) (n := dy) (by simp only [aA, hat]; rw [if_neg nf, if_pos hla', if_pos ho, if_neg hm]) (Ni ho (by simp) (fun _ => by rw [hk2]) (by simp) (by simp)) (by simp [f3, aD, ho]) hl (lm _) (show ac (rB e p (fw e dy) t (k2) * (az p g (aZ σ t) * R)) H9 from h9.to)
  ·have hla' : ¬ cD σ (aD σ t) = true := by rw [hla, e7 hL]; simp
   rw [e7 hL];refine gs ?_;refine ah (td ..) ?_;refine gK (e := e) (p := p) (fw e (f3 t)) t (k2) bV h2 fun H9 h9 => ?_;exact gI (g := g) (σ' := aZ σ t) (t' := aD σ t) (k := k2) (n := bV) (by simp only [aA, hat]; rw [if_neg nf, if_neg hla']) (u7 (by show t.at' < 4; omega) ⟨by rw [hk2, hli], by rw [hk2]⟩) (by show f3 (aD σ t) = _; unfold f3; rw [if_pos (show (aD σ t).x.op = 1 from ho), show (aD σ t).at' = 3 from hat]; rfl) hl (lm _) (show ac (rB e p (fw e bV) t (k2) * (az p g (aZ σ t) * R)) H9 from h9.to)
theorem am5 (S : SOk σ) (T : mL σ t) (ho : t.x.op ≠ 1) (hat : t.at' = 3) : Sp cm [vp e, vi now] (rT e p rp t * aM p rp σ) (fun _ : List Nat => cg (aA σ t now)) (fun x => rQ e p rp (aA σ t now) x) := by
 have hN : σ.μ.N < 1099511627000 := by have := S.N; omega
 refine aK fun R H h => ?_;obtain ⟨k, g, hk, rfl, hl, h0⟩ := iE h;refine bj (fun r => CG _ _ H) ?_;refine bo h0 fun b1 H1 h1 => ?_;have hi := T.i (by omega);obtain ⟨hI, hfr⟩ := hk.1 (by omega);refine af h1 (XV e p g σ t k (fw e (f3 t)) S hi hI hfr) fun _ H2 h2 => ?_;obtain ⟨k2, hk2⟩ : ∃ k2 : Ek, k2 = { k with I := t.i + 1, free := (aD σ t).mark, at' := t.i, obj := σ.μ.V (10, t.s, (t.i : Int)) % 4294967296 } := ⟨_, rfl⟩;rw [← hk2] at h2;refine aa (v := vb (aD σ t).found) rfl ?_;refine aa (v := vb (decide (σ.c.sl ≤ ((t.i + 1 : Nat) : Int)))) rfl ?_;refine ah (wj ..) ?_
 cases hfd : (aD σ t).found with
 | true =>
  refine gs ?_
  have hob : (aD σ t).obj = σ.μ.V (10, t.s, (t.i : Int)) % 4294967296 := by
   show (if (aD σ t).found = true then σ.μ.V (10, t.s, (t.i : Int)) % 4294967296 else t.obj) = _;rw [if_pos hfd]
  have hi2 : (aD σ t).i = t.i := by
   show (if (aD σ t).found = true then t.i else t.i + 1) = _;rw [if_pos hfd]
  have ho2 : (aD σ t).obj < σ.obs.length := by
   rw [hob];refine S.slot t.s t.i fun h0 => ?_;have : ss (σ.μ.V (10, t.s, (t.i : Int))) t.x.flow = true := hfd;rw [h0] at this;cases this
  obtain ⟨b, hb⟩ : ∃ b, g.rp[(aD σ t).obj]? = some b := ⟨_, cG (by omega)⟩;refine ak h2 ae rfl ?_;refine ak h2 ae (show _ = some (vi ((aD σ t).obj : Int)) from by rw [hk2, hob]; rfl) ?_;refine af h2 (sU p g (aZ σ t) hl (aD σ t).obj b ho2 hb) fun _ H3 h3 => ?_;refine bg h3 ae rfl rfl fun H4 h4 => ?_;refine gK (e := e) (p := p) (fw e (f3 t)) t ({ k2 with rv := vp b }) bq h4 fun H9 h9 => ?_;exact gI (g := g) (σ' := aZ σ t) (t' := { aD σ t with at' := 4 }) (k := { k2 with rv := vp b }) (n := bq) (by simp only [aA, hat]; rw [if_pos hfd, if_neg ho]) (uA (b := b) ho (by simp) (show k2.at' = ((aD σ t).i : Int) from by rw [hk2, hi2]) hb rfl (by simp) (by simp) (by simp) (by simp) (by simp)) (by simp [f3, aD, ho]) hl (lm _) (show ac (rB e p (fw e bq) t ({ k2 with rv := vp b }) * (az p g (aZ σ t) * R)) H9 from h9.to)
 | false =>
  refine gs ?_
  have hli : (aD σ t).i = t.i + 1 := by
   show (if (aD σ t).found = true then t.i else t.i + 1) = _;rw [if_neg (by rw [hfd]; simp)]
  have hla : cD σ (aD σ t) = decide (σ.c.sl ≤ ((t.i + 1 : Nat) : Int)) := by unfold cD; rw [hli]
  have nf : ¬ (aD σ t).found = true := by rw [hfd]; simp
  by_cases hL : σ.c.sl ≤ ((t.i + 1 : Nat) : Int)
  ·have hla' : cD σ (aD σ t) = true := hla.trans (fH hL)
   rw [fH hL];refine gs ?_;refine af h2 (nB e p g (aZ σ t) t k2 (fw e (f3 t)) now 5 (by have := S.pts; show σ.pts.length < _; omega) hl) fun g' H3 h3 => ?_;rw [aj, ac.pu] at h3;obtain ⟨hg', h3⟩ := h3;refine gK (e := e) (p := p) (fw e (f3 t)) t ({ k2 with told := 5 }) aO h3 fun H9 h9 => ?_;exact gI (g := g') (σ' := (aZ σ t).note now t.who 5) (t' := { aD σ t with at' := 10, code := 5 }) (k := { k2 with told := 5 }) (n := aO) (by simp only [aA, hat]; rw [if_neg nf, if_pos hla', if_neg ho]) (afA ho rfl rfl) (by simp [f3, aD, ho]) (by rw [hg']; exact hl) (by rw [hg']; exact lm _) (show ac (rB e p (fw e aO) t ({ k2 with told := 5 }) * (az p g' ((aZ σ t).note now t.who 5) * R)) H9 from h9.to)
  ·have hla' : ¬ cD σ (aD σ t) = true := by rw [hla, e7 hL]; simp
   rw [e7 hL];refine gs ?_;refine ah (wl ..) ?_;refine gK (e := e) (p := p) (fw e (f3 t)) t (k2) cm h2 fun H9 h9 => ?_;exact gI (g := g) (σ' := aZ σ t) (t' := aD σ t) (k := k2) (n := cm) (by simp only [aA, hat]; rw [if_neg nf, if_neg hla']) (u7 (by show t.at' < 4; omega) ⟨by rw [hk2, hli], by rw [hk2]⟩) (by show f3 (aD σ t) = _; unfold f3; rw [if_neg (show ¬ (aD σ t).x.op = 1 from ho), show (aD σ t).at' = 3 from hat]; rfl) hl (lm _) (show ac (rB e p (fw e cm) t (k2) * (az p g (aZ σ t) * R)) H9 from h9.to)
theorem mn (ho : t.x.op = 1) (ha : 4 ≤ t.at') : aA σ t now = GH σ t now := by
 unfold aA
 split
 ·omega
 ·omega
 ·omega
 ·rw [if_pos ho]
theorem bU (ho : t.x.op ≠ 1) (ha : 4 ≤ t.at') : aA σ t now = gj σ t now := by
 unfold aA
 split
 ·omega
 ·omega
 ·omega
 ·rw [if_neg ho]
theorem yK {x : Cl} (h : uv x = none) : (0 ≤ x.flow ∧ x.flow ≤ 1048576) ∧ (x.op = 1 → (1 ≤ x.a ∧ x.a ≤ 65536) ∧ 1 ≤ x.b ∧ x.b ≤ 8) := by
 by_cases ho : x.op = 1
 ·rw [nA ho] at h
  by_cases hf : sR x
  ·rw [if_pos hf] at h; cases h
  rw [if_neg hf] at h
  by_cases ha : x.a < 1 ∨ 65536 < x.a
  ·rw [if_pos ha] at h; cases h
  rw [if_neg ha] at h
  by_cases hb : x.b < 1 ∨ 8 < x.b
  ·rw [if_pos hb] at h; cases h
  unfold sR at hf;omega
 ·rw [GF ho] at h
  by_cases hf : sR x
  ·rw [if_pos hf] at h; cases h
  unfold sR at hf;omega
theorem am6 (S : SOk σ) (T : mL σ t) (ho : t.x.op = 1) (hat : t.at' = 4) : Sp dy [vp e, vi now] (rT e p rp t * aM p rp σ) (fun _ : List Nat => cg (aA σ t now)) (fun x => rQ e p rp (aA σ t now) x) := by
 have hN : σ.μ.N < 1099511627000 := by have := S.N; omega
 refine aK fun R H h => ?_;obtain ⟨k, g, hk, rfl, hl, h0⟩ := iE h;refine bj (fun r => CI _ _ H) ?_;refine bo h0 fun b1 H1 h1 => ?_;have hx := yK (T.x (by omega));have hc := bQ.1 S.c
 have hst : aA σ t now = (σ.make t.who (obR σ t), { t with obj := σ.obs.length, at' := 5 }, false) := by rw [mn σ t now ho (by omega)]; simp only [GH, hat]
 refine ak h1 ae rfl ?_;refine ak h1 (cj (aP (aP be))) rfl ?_;refine ak h1 (cj (aP (aP be))) rfl ?_;refine af h1 (Qb σ.c.un t.x.a (by omega) (hx.2 ho).1) fun _ H2 h2 => ?_;refine aa (v := vu (max (σ.c.un / t.x.a.toNat) 1)) rfl ?_;refine aa (v := vb true) rfl ?_;refine ak h2 ae rfl ?_;refine ak h2 ae rfl ?_;refine ak h2 (cj (aP (aP be))) rfl ?_;refine ak h2 (cj (aP (aP be))) rfl ?_;refine jq ?_;refine af h2 (aw3 p g σ t.who (obR σ t) hN (by have := S.obs; omega) hl) fun g' H3 h3 => ?_;rw [aj, ac.pu] at h3;obtain ⟨⟨hpre, hl'⟩, h3⟩ := h3;refine bg h3 ae rfl rfl fun H4 h4 => ?_;refine gK (e := e) (p := p) (fw e (f3 t)) ({ t with obj := σ.obs.length, at' := 5 }) ({ k with obj := σ.obs.length }) ft h4 fun H9 h9 => ?_;exact gI (g := g') (σ' := σ.make t.who (obR σ t)) (t' := { t with obj := σ.obs.length, at' := 5 }) (k := { k with obj := σ.obs.length }) (n := ft) hst (Ni ho (by simp) (fun _ => (hk.2.1 ho).1 (.inl hat)) (by simp) (by simp)) (by simp [f3, aD, ho]) (by rw [hl']; simp) hpre h9.to
theorem arX (S : SOk σ) (T : mL σ t) (ho : t.x.op = 1) (hat : t.at' = 5) : Sp ft [vp e, vi now] (rT e p rp t * aM p rp σ) (fun _ : List Nat => cg (aA σ t now)) (fun x => rQ e p rp (aA σ t now) x) := by
 have hN : σ.μ.N < 1099511627000 := by have := S.N; omega
 refine aK fun R H h => ?_;obtain ⟨k, g, hk, rfl, hl, h0⟩ := iE h;refine bj (fun r => GL _ _ H) ?_;refine bo h0 fun b1 H1 h1 => ?_;have hx := yK (T.x (by omega));have hob := T.obj (.inl ⟨hat, ho⟩);have hso := S.obs;have hfm := (hk.2.1 ho).1 (.inr hat);have hko := (hk.2.1 ho).2.1 hat
 have hst : aA σ t now = ((σ.mem ((σ.μ.acc t.who 2 (10, t.s, t.mark)).put (10, t.s, t.mark) (dS t.x.flow t.obj))).note now t.who 0, { t with at' := 6, code := 0 }, false) := by rw [mn σ t now ho (by omega)]; simp only [GH, hat]
 refine ak h1 ae rfl ?_;refine ak h1 ae rfl ?_;refine ak h1 ae rfl ?_;refine ak h1 ae rfl ?_;refine ak h1 ae rfl ?_;refine ak h1 (cj (aP (aP be))) rfl ?_;refine ak h1 ae rfl ?_;rw [hfm, hko];refine af h1 (wC (p := p) (g := g) (σ := σ) (JP g.tb g.m σ.c.sh.toNat σ.c.sl.toNat σ.μ t.who t.s t.mark t.x.flow t.obj hN hx.1 (by omega))) fun _ H2 h2 => ?_;refine af h2 (nB e p g (σ.mem ((σ.μ.acc t.who 2 (10, t.s, t.mark)).put (10, t.s, t.mark) (dS t.x.flow t.obj))) t k (fw e (f3 t)) now 0 (by have := S.pts; show σ.pts.length < _; omega) hl) fun g' H3 h3 => ?_;rw [aj, ac.pu] at h3;obtain ⟨hg', h3⟩ := h3;refine gK (e := e) (p := p) (fw e (f3 t)) ({ t with at' := 6, code := 0 }) ({ k with told := 0 }) aO h3 fun H9 h9 => ?_;exact gI (g := g') (σ' := (σ.mem ((σ.μ.acc t.who 2 (10, t.s, t.mark)).put (10, t.s, t.mark) (dS t.x.flow t.obj))).note now t.who 0) (t' := { t with at' := 6, code := 0 }) (k := { k with told := 0 }) (n := aO) hst (Ni ho (by simp) (by simp) (by simp) (by simp)) (by simp [f3, aD, ho]) (by rw [hg']; exact hl) (by rw [hg']; exact lm _) h9.to
theorem XW (S : SOk σ) (T : mL σ t) (hat : t.at' = if t.x.op = 1 then 6 else 10) : Sp aO [vp e, vi now] (rT e p rp t * aM p rp σ) (fun _ : List Nat => cg (aA σ t now)) (fun x => rQ e p rp (aA σ t now) x) := by
 have hN : σ.μ.N < 1099511627000 := by have := S.N; omega
 refine aK fun R H h => ?_;obtain ⟨k, g, hk, rfl, hl, h0⟩ := iE h;refine bj (fun r => GK _ _ H) ?_;refine bo h0 fun b1 H1 h1 => ?_
 have hst : aA σ t now = (i3 σ t, t, true) := by
  by_cases ho : t.x.op = 1
  ·rw [if_pos ho] at hat
   rw [mn σ t now ho (by omega)]; simp only [GH, hat]
  ·rw [if_neg ho] at hat
   rw [bU σ t now ho (by omega)]; simp only [gj, hat]
 have hto : k.told = t.code := by
  by_cases ho : t.x.op = 1
  ·rw [if_pos ho] at hat
   exact (hk.2.1 ho).2.2 hat
  ·rw [if_neg ho] at hat
   exact (hk.2.2 ho).2.2.2.2 (.inr hat)
 refine ak h1 ae rfl ?_;refine ak h1 ae rfl ?_;refine ak h1 ae rfl ?_;refine ak h1 ae rfl ?_;refine af h1 (wC (p := p) (g := g) (σ := σ) (zc g.tb g.m σ.c.sh.toNat σ.c.sl.toNat σ.μ t.who t.s hN)) fun _ H2 h2 => ?_;refine ak h2 ae rfl ?_;rw [hto];refine jq ?_;refine eM h2 rfl rfl fun H3 h3 => ?_;refine aR h3 ?_;exact am (amT (g := g) (σ' := i3 σ t) (t' := t) hst rfl hl (lm _) h3.to)
theorem XX (g : PIds) (k : Ek) (nx : Value) (S : SOk σ) (hl : g.rp.length = σ.obs.length) (b : Nat) (hob : t.obj < σ.obs.length) (hb : g.rp[t.obj]? = some b) (hrv : k.rv = vp b) :
 Sp kS [vp e] (rB e p nx t k * az p g σ) (fun _ : Unit => vb (decide (bC (σ.μ.V (11, (t.obj : Int), 0)) = 0))) (fun _ => rB e p nx t { k with w := σ.μ.V (11, (t.obj : Int), 0) } * az p g (dg σ t)) := by
 have hN : σ.μ.N < 1099511627000 := by have := S.N; omega
 refine aY (GN _) fun R H h => ?_;refine ak (v := vp b) h ae (by rw [← hrv]; rfl) ?_;refine ak h ae rfl ?_;refine af h (jt (p := p) hl hob hb (AC g.m t.obj b (aC σ t.obj) σ.μ t.who hN)) fun _ H2 h2 => ?_;refine bg h2 ae rfl rfl fun H3 h3 => ?_;refine ak h3 ae rfl ?_;refine af h3 (jg _ (S.V _)) fun _ H4 h4 => ?_
 by_cases hw : bC (σ.μ.V (11, (t.obj : Int), 0)) = 0
 ·rw [fH hw]
  refine aa (bi hw) ?_;exact am ⟨(), rfl, h4.to⟩
 ·rw [e7 hw]
  refine aa (aG hw) ?_;exact am ⟨(), rfl, h4.to⟩
theorem anA (S : SOk σ) (T : mL σ t) (ho : t.x.op ≠ 1) (hat : t.at' = 4) : Sp bq [vp e, vi now] (rT e p rp t * aM p rp σ) (fun _ : List Nat => cg (aA σ t now)) (fun x => rQ e p rp (aA σ t now) x) := by
 have hN : σ.μ.N < 1099511627000 := by have := S.N; omega
 refine aK fun R H h => ?_;obtain ⟨k, g, hk, rfl, hl, h0⟩ := iE h;obtain ⟨hki, b, hb, hrv⟩ := (hk.2.2 ho).1 (by omega) (by omega);have hob := T.obj (.inr ⟨by omega, by omega, ho⟩);refine bj (fun r => CN _ _ H) ?_;refine bo h0 fun b1 H1 h1 => ?_;refine af h1 (XX e p σ t g k (fw e (f3 t)) S hl b hob hb hrv) fun _ H2 h2 => ?_
 by_cases hw : bC (σ.μ.V (11, (t.obj : Int), 0)) = 0
 ·rw [fH hw]
  refine gs ?_;refine gK (e := e) (p := p) (fw e (f3 t)) t ({ k with w := σ.μ.V (11, (t.obj : Int), 0) }) cn h2 fun H9 h9 => ?_;exact gI (g := g) (σ' := dg σ t) (t' := { t with w := σ.μ.V (11, (t.obj : Int), 0), at' := 8 }) (k := { k with w := σ.μ.V (11, (t.obj : Int), 0) }) (n := cn) (by rw [bU σ t now ho (by omega)]; simp only [gj, hat]; rw [if_pos hw]) (uA (b := b) ho (by simp) hki hb hrv (by simp) (by simp) (fun _ => rfl) (by simp) (by simp)) (by simp [f3, aD, ho]) hl (lm _) (show ac (rB e p (fw e cn) t ({ k with w := σ.μ.V (11, (t.obj : Int), 0) }) * (az p g (dg σ t) * R)) H9 from h9.to)
 ·rw [e7 hw]
  refine gs ?_;refine gK (e := e) (p := p) (fw e (f3 t)) t ({ k with w := σ.μ.V (11, (t.obj : Int), 0) }) d8 h2 fun H9 h9 => ?_;exact gI (g := g) (σ' := dg σ t) (t' := { t with w := σ.μ.V (11, (t.obj : Int), 0), at' := 5 }) (k := { k with w := σ.μ.V (11, (t.obj : Int), 0) }) (n := d8) (by rw [bU σ t now ho (by omega)]; simp only [gj, hat]; rw [if_neg hw]) (uA (b := b) ho (by simp) hki hb hrv (by simp) (by simp) (by simp) (by simp) (by simp)) (by simp [f3, aD, ho]) hl (lm _) (show ac (rB e p (fw e d8) t ({ k with w := σ.μ.V (11, (t.obj : Int), 0) }) * (az p g (dg σ t) * R)) H9 from h9.to)
theorem HX (S : SOk σ) (T : mL σ t) (ho : t.x.op ≠ 1) (hat : t.at' = 6) : Sp cw [vp e, vi now] (rT e p rp t * aM p rp σ) (fun _ : List Nat => cg (aA σ t now)) (fun x => rQ e p rp (aA σ t now) x) := by
 have hN : σ.μ.N < 1099511627000 := by have := S.N; omega
 refine aK fun R H h => ?_;obtain ⟨k, g, hk, rfl, hl, h0⟩ := iE h;obtain ⟨hki, b, hb, hrv⟩ := (hk.2.2 ho).1 (by omega) (by omega);have hob := T.obj (.inr ⟨by omega, by omega, ho⟩);refine bj (fun r => te _ _ H) ?_;refine bo h0 fun b1 H1 h1 => ?_;have hkq := (hk.2.2 ho).2.1 (.inl hat);refine af h1 (XX e p σ t g k (fw e (f3 t)) S hl b hob hb hrv) fun _ H2 h2 => ?_
 by_cases hw : bC (σ.μ.V (11, (t.obj : Int), 0)) = 0
 ·rw [fH hw]
  refine gs ?_;refine gK (e := e) (p := p) (fw e (f3 t)) t ({ k with w := σ.μ.V (11, (t.obj : Int), 0) }) cn h2 fun H9 h9 => ?_;exact gI (g := g) (σ' := dg σ t) (t' := { t with w := σ.μ.V (11, (t.obj : Int), 0), mark := now, at' := 8 }) (k := { k with w := σ.μ.V (11, (t.obj : Int), 0) }) (n := cn) (by rw [bU σ t now ho (by omega)]; simp only [gj, hat]; rw [if_pos hw]) (uA (b := b) ho (by simp) hki hb hrv (by simp) (by simp) (fun _ => rfl) (by simp) (by simp)) (by simp [f3, aD, ho]) hl (lm _) (show ac (rB e p (fw e cn) t ({ k with w := σ.μ.V (11, (t.obj : Int), 0) }) * (az p g (dg σ t) * R)) H9 from h9.to)
 ·rw [e7 hw]
  refine gs ?_;refine bg h2 ae rfl rfl fun H3 h3 => ?_;refine gK (e := e) (p := p) (fw e (f3 t)) t ({ k with w := σ.μ.V (11, (t.obj : Int), 0), nw := now }) cE h3 fun H9 h9 => ?_;exact gI (g := g) (σ' := dg σ t) (t' := { t with w := σ.μ.V (11, (t.obj : Int), 0), mark := now, at' := 7 }) (k := { k with w := σ.μ.V (11, (t.obj : Int), 0), nw := now }) (n := cE) (by rw [bU σ t now ho (by omega)]; simp only [gj, hat]; rw [if_neg hw]) (uA (b := b) ho (by simp) hki hb hrv (fun _ => hkq) (fun _ => rfl) (by simp) (by simp) (by simp)) (by simp [f3, aD, ho]) hl (lm _) (show ac (rB e p (fw e cE) t ({ k with w := σ.μ.V (11, (t.obj : Int), 0), nw := now }) * (az p g (dg σ t) * R)) H9 from h9.to)
theorem arY (S : SOk σ) (T : mL σ t) (ho : t.x.op ≠ 1) (hat : t.at' = 5) : Sp d8 [vp e, vi now] (rT e p rp t * aM p rp σ) (fun _ : List Nat => cg (aA σ t now)) (fun x => rQ e p rp (aA σ t now) x) := by
 have hN : σ.μ.N < 1099511627000 := by have := S.N; omega
 refine aK fun R H h => ?_;obtain ⟨k, g, hk, rfl, hl, h0⟩ := iE h;obtain ⟨hki, b, hb, hrv⟩ := (hk.2.2 ho).1 (by omega) (by omega);have hob := T.obj (.inr ⟨by omega, by omega, ho⟩);refine bj (fun r => GO _ _ H) ?_;refine bo h0 fun b1 H1 h1 => ?_;refine ak h1 ae rfl ?_;refine ak h1 ae rfl ?_;refine af h1 (qF p g σ t.who S.N) fun _ H2 h2 => ?_;refine bg h2 ae rfl rfl fun H3 h3 => ?_;refine ak h3 ae rfl ?_;refine aa (Jo 2 (by omega)) ?_
 by_cases hq : σ.μ.V (2, 0, 0) % 2 = 1
 ·refine aa (bi (show ((σ.μ.V (2, 0, 0) % 2 : Nat) : Int) = 1 by omega)) ?_
  refine gs ?_;refine gK (e := e) (p := p) (fw e (f3 t)) t ({ k with q := σ.μ.V (2, 0, 0) }) bq h3 fun H9 h9 => ?_;exact gI (g := g) (σ' := eK σ t) (t' := { t with q := σ.μ.V (2, 0, 0), at' := 4 }) (k := { k with q := σ.μ.V (2, 0, 0) }) (n := bq) (by rw [bU σ t now ho (by omega)]; simp only [gj, hat]; rw [if_pos hq]) (uA (b := b) ho (by simp) hki hb hrv (by simp) (by simp) (by simp) (by simp) (by simp)) (by simp [f3, aD, ho]) hl (lm _) (show ac (rB e p (fw e bq) t ({ k with q := σ.μ.V (2, 0, 0) }) * (az p g (eK σ t) * R)) H9 from h9.to)
 ·refine aa (aG (show ¬ ((σ.μ.V (2, 0, 0) % 2 : Nat) : Int) = 1 by omega)) ?_
  refine gs ?_;refine gK (e := e) (p := p) (fw e (f3 t)) t ({ k with q := σ.μ.V (2, 0, 0) }) cw h3 fun H9 h9 => ?_;exact gI (g := g) (σ' := eK σ t) (t' := { t with q := σ.μ.V (2, 0, 0), at' := 6 }) (k := { k with q := σ.μ.V (2, 0, 0) }) (n := cw) (by rw [bU σ t now ho (by omega)]; simp only [gj, hat]; rw [if_neg hq]) (uA (b := b) ho (by simp) hki hb hrv (fun _ => rfl) (by simp) (by simp) (by simp) (by simp)) (by simp [f3, aD, ho]) hl (lm _) (show ac (rB e p (fw e cw) t ({ k with q := σ.μ.V (2, 0, 0) }) * (az p g (eK σ t) * R)) H9 from h9.to)
theorem MG (S : SOk σ) (T : mL σ t) (ho : t.x.op ≠ 1) (hat : t.at' = 7) : Sp cE [vp e, vi now] (rT e p rp t * aM p rp σ) (fun _ : List Nat => cg (aA σ t now)) (fun x => rQ e p rp (aA σ t now) x) := by
 have hN : σ.μ.N < 1099511627000 := by have := S.N; omega
 refine aK fun R H h => ?_;obtain ⟨k, g, hk, rfl, hl, h0⟩ := iE h;obtain ⟨hki, b, hb, hrv⟩ := (hk.2.2 ho).1 (by omega) (by omega);have hob := T.obj (.inr ⟨by omega, by omega, ho⟩);refine bj (fun r => uw _ _ H) ?_;refine bo h0 fun b1 H1 h1 => ?_;have hkq := (hk.2.2 ho).2.1 (.inr hat);have hkn := (hk.2.2 ho).2.2.1 hat;refine ak h1 ae rfl ?_;refine ak h1 ae rfl ?_;refine af h1 (qF p g σ t.who S.N) fun _ H2 h2 => ?_;refine bD ae ?_;refine aN h2 rfl ?_;refine aH h1 h2 (by rfl) ?_;rw [hkq]
 by_cases hq : σ.μ.V (2, 0, 0) = t.q
 ·refine aa (sQ (show ((σ.μ.V (2, 0, 0) : Nat) : Int) = (t.q : Int) by omega)) ?_
  refine gs ?_;refine ak h2 ae rfl ?_;rw [hkn];refine af h2 (nB e p g (eK σ t) t k (fw e (f3 t)) t.mark 8 (by have := S.pts; show σ.pts.length < _; omega) hl) fun g' H3 h3 => ?_;rw [aj, ac.pu] at h3;obtain ⟨hg', h3⟩ := h3;refine gK (e := e) (p := p) (fw e (f3 t)) t ({ k with told := 8 }) aO h3 fun H9 h9 => ?_;exact gI (g := g') (σ' := (eK σ t).note t.mark t.who 8) (t' := { t with at' := 10, code := 8 }) (k := { k with told := 8 }) (n := aO) (by rw [bU σ t now ho (by omega)]; simp only [gj, hat]; rw [if_pos hq]) (afA ho rfl rfl) (by simp [f3, aD, ho]) (by rw [hg']; exact hl) (by rw [hg']; exact lm _) (show ac (rB e p (fw e aO) t ({ k with told := 8 }) * (az p g' ((eK σ t).note t.mark t.who 8) * R)) H9 from h9.to)
 ·refine aa (I4 (show ¬ ((σ.μ.V (2, 0, 0) : Nat) : Int) = (t.q : Int) by omega)) ?_
  refine gs ?_;refine gK (e := e) (p := p) (fw e (f3 t)) t (k) bq h2 fun H9 h9 => ?_;exact gI (g := g) (σ' := eK σ t) (t' := { t with at' := 4 }) (k := k) (n := bq) (by rw [bU σ t now ho (by omega)]; simp only [gj, hat]; rw [if_neg hq]) (uA (b := b) ho (by simp) hki hb hrv (by simp) (by simp) (by simp) (by simp) (by simp)) (by simp [f3, aD, ho]) hl (lm _) (show ac (rB e p (fw e bq) t (k) * (az p g (eK σ t) * R)) H9 from h9.to)
theorem am8 (S : SOk σ) (T : mL σ t) (ho : t.x.op ≠ 1) (hat : t.at' = 8) : Sp cn [vp e, vi now] (rT e p rp t * aM p rp σ) (fun _ : List Nat => cg (aA σ t now)) (fun x => rQ e p rp (aA σ t now) x) := by
 have hN : σ.μ.N < 1099511627000 := by have := S.N; omega
 refine aK fun R H h => ?_;obtain ⟨k, g, hk, rfl, hl, h0⟩ := iE h;obtain ⟨hki, b, hb, hrv⟩ := (hk.2.2 ho).1 (by omega) (by omega);have hob := T.obj (.inr ⟨by omega, by omega, ho⟩);refine bj (fun r => CJ _ _ H) ?_;refine bo h0 fun b1 H1 h1 => ?_;have hkw := (hk.2.2 ho).2.2.2.1 hat;refine ak h1 ae rfl ?_;refine ak h1 ae rfl ?_;refine ak h1 ae rfl ?_;rw [hkw, hrv];refine af h1 (jt (p := p) hl hob hb (adD g.m t.obj b (aC σ t.obj) σ.μ t.who t.w T.w hN)) fun _ H2 h2 => ?_;cases hw : fZ σ.μ t.obj t.w (aW t.w 2)
 ·refine gs ?_
  rw [Bool.not_false];refine gs ?_;refine gK (e := e) (p := p) (fw e (f3 t)) t (k) bq h2 fun H9 h9 => ?_;exact gI (g := g) (σ' := σ.mem (σ.μ.turn t.who t.obj t.w (aW t.w 2))) (t' := { t with at' := 4 }) (k := k) (n := bq) (by rw [bU σ t now ho (by omega)]; simp only [gj, hat]; rw [if_neg (by rw [hw]; simp)]) (uA (b := b) ho (by simp) hki hb hrv (by simp) (by simp) (by simp) (by simp) (by simp)) (by simp [f3, aD, ho]) hl (lm _) (show ac (rB e p (fw e bq) t (k) * (az p g (σ.mem (σ.μ.turn t.who t.obj t.w (aW t.w 2))) * R)) H9 from h9.to)
 ·refine gs ?_
  rw [Bool.not_true];refine gs ?_;refine af h2 (nB e p g (σ.mem (σ.μ.turn t.who t.obj t.w (aW t.w 2))) t k (fw e (f3 t)) now 0 (by have := S.pts; show σ.pts.length < _; omega) hl) fun g' H3 h3 => ?_;rw [aj, ac.pu] at h3;obtain ⟨hg', h3⟩ := h3;refine gK (e := e) (p := p) (fw e (f3 t)) ({ t with at' := 9, code := 0 }) ({ k with told := 0 }) dM h3 fun H9 h9 => ?_;exact gI (g := g') (σ' := (σ.mem (σ.μ.turn t.who t.obj t.w (aW t.w 2))).note now t.who 0) (t' := { t with at' := 9, code := 0 }) (k := { k with told := 0 }) (n := dM) (by rw [bU σ t now ho (by omega)]; simp only [gj, hat]; rw [if_pos hw]) (uA (b := b) ho (by simp) hki (by rw [hg']; exact hb) hrv (by simp) (by simp) (by simp) (by simp) (fun _ => rfl)) (by simp [f3, aD, ho]) (by rw [hg']; exact hl) (by rw [hg']; exact lm _) h9.to
theorem ac5 (S : SOk σ) (T : mL σ t) (ho : t.x.op ≠ 1) (hat : t.at' = 9) : Sp dM [vp e, vi now] (rT e p rp t * aM p rp σ) (fun _ : List Nat => cg (aA σ t now)) (fun x => rQ e p rp (aA σ t now) x) := by
 have hN : σ.μ.N < 1099511627000 := by have := S.N; omega
 refine aK fun R H h => ?_;obtain ⟨k, g, hk, rfl, hl, h0⟩ := iE h;obtain ⟨hki, b, hb, hrv⟩ := (hk.2.2 ho).1 (by omega) (by omega);have hob := T.obj (.inr ⟨by omega, by omega, ho⟩);refine bj (fun r => Ax _ _ H) ?_;refine bo h0 fun b1 H1 h1 => ?_;refine ak h1 ae rfl ?_;refine ak h1 ae rfl ?_;refine ak h1 ae rfl ?_;refine ak h1 ae rfl ?_;refine ak h1 ae rfl ?_;rw [hki];refine af h1 (wC (p := p) (g := g) (σ := σ) (Qa g.tb g.m σ.c.sh.toNat σ.c.sl.toNat σ.μ t.who t.s t.i hN)) fun _ H2 h2 => ?_;refine gK (e := e) (p := p) (fw e (f3 t)) ({ t with at' := 10 }) k aO h2 fun H9 h9 => ?_;exact gI (g := g) (σ' := σ.mem ((σ.μ.acc t.who 2 (10, t.s, (t.i : Int))).put (10, t.s, (t.i : Int)) 0)) (t' := { t with at' := 10 }) (k := k) (n := aO) (by rw [bU σ t now ho (by omega)]; simp only [gj, hat]) (afA ho rfl ((hk.2.2 ho).2.2.2.2 (.inl hat))) (by simp [f3, aD, ho]) hl (lm _) h9.to
theorem am9 (S : SOk σ) (T : mL σ t) : Sp nk [vp e, vi now] (rT e p rp t * aM p rp σ) (fun _ : List Nat => cg (aA σ t now)) (fun x => rQ e p rp (aA σ t now) x) := by
 refine aY (CE _ _) fun R H h => ?_;refine bo h fun b H1 h1 => ?_;obtain ⟨k, g, hk, rfl, hl, k1⟩ := iE (e := e) (p := p) (rp := rp) (σ := σ) (t := t) (R := blk b (.cells false [vi 0, .slice none 0 0, vi 0, vw 0]) * R) (H := H1) h1.to;refine ak k1 ae rfl ?_;refine ah (show (ce (.func (.func (f3 t)) #[vp e] #[]) [vi now]).bind _ = _ from rfl) ?_
 have hs : Sp (f3 t) [vp e, vi now] (rT e p g.rp t * aM p g.rp σ) (fun _ : List Nat => cg (aA σ t now)) (fun x => rQ e p g.rp (aA σ t now) x) := by
  have s2 : t.at' = 2 → aA σ t now = fK σ t := fun hat => by simp only [aA, hat]
  by_cases ho : t.x.op = 1
  ·have nf : ∀ n, t.at' = n → f3 t = (match n with | 0 => fS | 2 => cO | 3 => bV | 4 => dy | 5 => ft | _ => aO) := fun n h => by subst h; exact if_pos ho
   rcases T.ats with hat | hat | hat | hat | hat
   ·rw [nf _ hat]; exact am4 e p g.rp σ t now S T ho hat
   ·rw [nf _ hat, s2 hat]; exact Jn e p g.rp σ t now S T ho (by omega)
   ·rw [nf _ hat]; exact TD e p g.rp σ t now S T ho hat
   ·by_cases h4 : t.at' = 4
    ·rw [nf _ h4]; exact am6 e p g.rp σ t now S T ho h4
    by_cases h5 : t.at' = 5
    ·rw [nf _ h5]; exact arX e p g.rp σ t now S T ho h5
    have h6 : t.at' = 6 := by omega
    rw [nf _ h6]; exact XW e p g.rp σ t now S T (by rw [if_pos ho]; exact h6)
   ·exact absurd ho hat.1
  ·have nf : ∀ n, t.at' = n → f3 t = (match n with | 0 => eZ | 2 => cW | 3 => cm | 4 => bq | 5 => d8 | 6 => cw | 7 => cE | 8 => cn | 9 => dM | _ => aO) := fun n h => by subst h; exact if_neg ho
   rcases T.ats with hat | hat | hat | hat | hat
   ·rw [nf _ hat]; exact ac6 e p g.rp σ t now S T ho hat
   ·rw [nf _ hat, s2 hat]; exact PE e p g.rp σ t now S T ho (by omega)
   ·rw [nf _ hat]; exact am5 e p g.rp σ t now S T ho hat
   ·by_cases h4 : t.at' = 4
    ·rw [nf _ h4]; exact anA e p g.rp σ t now S T ho h4
    by_cases h5 : t.at' = 5
    ·rw [nf _ h5]; exact arY e p g.rp σ t now S T ho h5
    have h6 : t.at' = 6 := by omega
    rw [nf _ h6]; exact HX e p g.rp σ t now S T ho h6
   ·by_cases h7 : t.at' = 7
    ·rw [nf _ h7]; exact MG e p g.rp σ t now S T ho h7
    by_cases h8 : t.at' = 8
    ·rw [nf _ h8]; exact am8 e p g.rp σ t now S T ho h8
    by_cases h9 : t.at' = 9
    ·rw [nf _ h9]; exact ac5 e p g.rp σ t now S T ho h9
    have h10 : t.at' = 10 := by omega
    rw [nf _ h10]; exact XW e p g.rp σ t now S T (by rw [if_neg ho]; exact h10)
 exact M8 (yJ e p σ t (R := blk b (.cells false [vi 0, .slice none 0 0, vi 0, vw 0]) * R) hk hl k1) hs
abbrev Tk.newR (c : iF) (who : Int) (x : Cl) : Tk := ⟨who, x, (x.flow.tmod c.sh + c.sh).tmod c.sh, 0, 0, 0, false, 0, 0, -1, 0, 0⟩
theorem am7 (hc : da σ.c = true) (who : Int) (c : Cl) : Sp z9 [vp p, vi who, .agg (Cl.cells c).toArray] (aM p rp σ) (fun e : Nat => vp e) (fun e => rT e p rp (Tk.newR σ.c who c) * aM p rp σ) := by
 have hr := bQ.1 hc;refine aY (TB _ _ _) fun R H h => ?_;refine aS h fun b H1 h1 => ?_;refine aR h1 ?_;obtain ⟨g, rfl, hg, k1⟩ := dh (p := p) (rp := rp) (σ := σ) (R := blk b (.cells false (Cl.cells c)) * R) (H := H1) h1.to;refine ak k1 ae rfl ?_;refine ak k1 aB rfl ?_;refine af k1 (J1 (p := p) (g := g) (σ := σ) (BC g.tb g.m σ.c.sh.toNat σ.c.sl.toNat (by omega) c.flow)) fun _ H2 h2 => ?_;refine dB h2 k1 rfl ?_
 have es : vi ((c.flow.tmod (σ.c.sh.toNat : Int) + (σ.c.sh.toNat : Int)).tmod (σ.c.sh.toNat : Int)) = vi (Tk.newR σ.c who c).s := by rw [show ((σ.c.sh.toNat : Nat) : Int) = σ.c.sh from by omega]
 rw [es];refine jq ?_;refine aS h2 fun e H3 h3 => ?_;refine bg h3 ae rfl rfl fun H4 h4 => ?_;refine ah (HV ..) ?_;refine ak h4 aB rfl ?_;have lt : Plt g.rp (Tk.newR σ.c who c) ⟨0, -1, 0, 0, .pointer none, 0, 0, 0, 0⟩ := u7 (by simp) ⟨rfl, rfl⟩
 by_cases ho : c.op = 1
 ·refine aa (bi ho) ?_
  refine gs ?_;refine bg h4 ae rfl rfl fun H5 h5 => ?_;refine ah (u3 ..) ?_;refine am ⟨e, rfl, yJ e p σ _ lt hg ?_⟩;rw [show f3 (Tk.newR σ.c who c) = fS from if_pos ho];exact h5.to
 ·refine aa (aG ho) ?_
  refine gs ?_;refine ah (u3 ..) ?_;refine am ⟨e, rfl, yJ e p σ _ lt hg ?_⟩;rw [show f3 (Tk.newR σ.c who c) = eZ from if_neg ho];exact h4.to
end
theorem qE (p : Nat) (g : XIds) (σ : bd) (o b : Nat) (hl : g.rp.length = σ.obs.length) (ho : o < σ.obs.length) (hb : g.rp[o]? = some b) :
 ∃ R, (∀ N, σ.μ.N = N → au p g σ = db g.m o b (aC σ o) * bP g.m σ.μ * (g8 g.ib g.m σ.c.sh σ.nx N * R)) ∧ ∀ μ' cs', au p g { σ with μ := μ', obs := σ.obs.modify o fun q => (q.1, cs') } = db g.m o b cs' * bP g.m μ' * (g8 g.ib g.m σ.c.sh σ.nx μ'.N * R) := by
 have hz : o < (g.rp.zip (σ.obs.map fun x => x.2)).length := by simp; omega
 obtain ⟨R, e1, e2⟩ := MI g.m (ps := g.rp.zip (σ.obs.map fun x => x.2)) (j := 0) hz
 have hrp : g.rp[o]'(by omega) = b := by
  rw [cG (by omega)] at hb;exact iP hb
 have e3 : (g.rp.zip (σ.obs.map fun x => x.2))[o] = (b, aC σ o) := by
  rw [List.getElem_zip, wO ho, List.getElem_map, hrp]
 rw [e3] at e1;rw [Nat.zero_add] at e1 e2
 refine ⟨blk p (.cells false [vi σ.c.sh, vi σ.c.sl, vi σ.c.wk, vi σ.c.wd, vu σ.c.un, vp g.m, vp g.ib, vp g.tb, vp g.po, vp g.co, g.ov, g.rv, g.wv, g.pv]) * (tab g.tb g.m σ.c.sh.toNat σ.c.sl.toNat * (ts 3 uI g.ov (σ.obs.map fun x => x.1) * (ts 1 nK g.rv g.rp * (R *
  (ts 1 eF g.wv (fW g.ws) * ts 7 Pt.cells g.pv (bF σ.pts)))))), fun N hN => ?_, fun μ' cs' => ?_⟩
 ·subst hN
  unfold au;rw [e1]
  ac_rfl
 ·unfold au
  dsimp only
  have e4 : (σ.obs.modify o fun q => (q.1, cs')).map (fun x => x.1) = σ.obs.map fun x => x.1 := by
   apply List.ext_getElem?;intro j;simp only [vz, List.getElem?_modify]
   cases σ.obs[j]? with
   | none => rfl
   | some q => simp only [fA]; split <;> rfl
  have e5 : g.rp.zip ((σ.obs.modify o fun q => (q.1, cs')).map fun x => x.2) = (g.rp.zip (σ.obs.map fun x => x.2)).set o (b, cs') := by
   apply List.ext_getElem?;intro j;rw [List.getElem?_set]
   by_cases hj : o = j
   ·subst hj
    rw [if_pos rfl, if_pos hz];exact List.getElem?_zip_eq_some.2 ⟨hb, by simp [List.getElem?_modify, cG ho]⟩
   ·rw [if_neg hj]
    have : (List.map (fun x => x.2) (σ.obs.modify o fun q => (q.1, cs')))[j]? = (σ.obs.map fun x => x.2)[j]? := by
     simp only [vz, List.getElem?_modify]
     cases σ.obs[j]? with
     | none => rfl
     | some q => show some (if o = j then (q.1, cs') else q).2 = some q.2; rw [if_neg hj]
    simp only [List.zip, List.getElem?_zipWith, this]
  rw [e4, e5, e2]
  ac_rfl
section
variable {f : Nat} {args : List Value} {v : Unit → Value} {p : Nat} {g : XIds} {σ : bd} {o b : Nat}
theorem J3 {μ' : Mu} {cs' : List Pk} (hN : σ.μ.N ≤ μ'.N) (hl : g.rp.length = σ.obs.length) (ho : o < σ.obs.length) (hb : g.rp[o]? = some b)
 (s : Sp f args (db g.m o b (aC σ o) * bP g.m σ.μ) v (fun _ => db g.m o b cs' * bP g.m μ')) :
 Sp f args (au p g σ) v (fun _ => au p g { σ with μ := μ', obs := σ.obs.modify o fun q => (q.1, cs') }) := by
 obtain ⟨R', e1, e2⟩ := qE p g σ o b hl ho hb;intro R H h;rw [e1 _ rfl, aj] at h;obtain ⟨x, H', h1, h2⟩ := s _ _ h;refine ⟨x, H', h1, ?_⟩;rw [e2, aj];have h3 := nX hN (ac.fr (A := g8 g.ib g.m σ.c.sh σ.nx σ.μ.N) h2);exact h3.to
theorem kY {μ' : Mu} (hN : σ.μ.N ≤ μ'.N) (hl : g.rp.length = σ.obs.length) (ho : o < σ.obs.length) (hb : g.rp[o]? = some b)
 (s : Sp f args (db g.m o b (aC σ o) * bP g.m σ.μ) v (fun _ => db g.m o b (aC σ o) * bP g.m μ')) :
 Sp f args (au p g σ) v (fun _ => au p g (σ.mem μ')) := by
 have := J3 (p := p) hN hl ho hb s;rw [Ge ho] at this;exact this
theorem Nk (hl : g.rp.length = σ.obs.length) (ho : o < σ.obs.length) (hb : g.rp[o]? = some b)
 (s : Sp f args (db g.m o b (aC σ o)) v (fun _ => db g.m o b (aC σ o))) :
 Sp f args (au p g σ) v (fun _ => au p g σ) := by
 obtain ⟨R', e1, _⟩ := qE p g σ o b hl ho hb;intro R H h;rw [e1 _ rfl, aj, aj] at h;obtain ⟨x, H', h1, h2⟩ := s _ _ h;exact ⟨x, H', h1, by rw [e1 _ rfl, aj, aj]; exact h2⟩
theorem pT {μ' : Mu} (hN : σ.μ.N ≤ μ'.N) (s : Sp f args (tab g.tb g.m σ.c.sh.toNat σ.c.sl.toNat * bP g.m σ.μ) v (fun _ => tab g.tb g.m σ.c.sh.toNat σ.c.sl.toNat * bP g.m μ')) :
 Sp f args (au p g σ) v (fun _ => au p g (σ.mem μ')) := by
 intro R H h;unfold au at h;obtain ⟨x, H', h1, h2⟩ := s _ H (ac.fr (A := tab g.tb g.m σ.c.sh.toNat σ.c.sl.toNat * bP g.m σ.μ) h);refine ⟨x, H', h1, ?_⟩;unfold au;have h3 := nX hN (ac.fr (A := g8 g.ib g.m σ.c.sh σ.nx σ.μ.N) h2);exact h3.to
theorem CT (s : Sp f args (tab g.tb g.m σ.c.sh.toNat σ.c.sl.toNat) v (fun _ => tab g.tb g.m σ.c.sh.toNat σ.c.sl.toNat)) :
 Sp f args (au p g σ) v (fun _ => au p g σ) := by
 intro R H h;unfold au at h;obtain ⟨x, H', h1, h2⟩ := s _ H (ac.fr (A := tab g.tb g.m σ.c.sh.toNat σ.c.sl.toNat) h);refine ⟨x, H', h1, ?_⟩;unfold au;exact h2.to
theorem QF {μ' : Mu} (hN : σ.μ.N ≤ μ'.N) (s : Sp f args (bP g.m σ.μ) v (fun _ => bP g.m μ')) : Sp f args (au p g σ) v (fun _ => au p g (σ.mem μ')) := by
 intro R H h;unfold au at h;obtain ⟨x, H', h1, h2⟩ := s _ H (ac.fr (A := bP g.m σ.μ) h);refine ⟨x, H', h1, ?_⟩;unfold au;have h3 := nX hN (ac.fr (A := g8 g.ib g.m σ.c.sh σ.nx σ.μ.N) h2);exact h3.to
theorem zj {μ' : Mu} {nx' : Int → Option Nat} {L : Nat} (hL : L ≤ μ'.N) (s : Sp f args (g8 g.ib g.m σ.c.sh σ.nx σ.μ.N * bP g.m σ.μ) v (fun _ => g8 g.ib g.m σ.c.sh nx' L * bP g.m μ')) :
 Sp f args (au p g σ) v (fun _ => au p g { σ with μ := μ', nx := nx' }) := by
 intro R H h;unfold au at h;obtain ⟨x, H', h1, h2⟩ := s _ H (ac.fr (A := g8 g.ib g.m σ.c.sh σ.nx σ.μ.N * bP g.m σ.μ) h);refine ⟨x, H', h1, ?_⟩;unfold au;have h3 := nX hL (ac.fr (A := g8 g.ib g.m σ.c.sh nx' L) h2);exact h3.to
end
instance avD (p : Nat) (g : XIds) (σ : bd) : Hs (au p g σ) p (.cells false [vi σ.c.sh, vi σ.c.sl, vi σ.c.wk, vi σ.c.wd, vu σ.c.un, vp g.m, vp g.ib, vp g.tb, vp g.po, vp g.co, g.ov, g.rv, g.wv, g.pv]) := ⟨by
 intro H h;unfold au at h
 exact h.left.get⟩
theorem JZ (m i rp : Nat) (cs : List Pk) (μ : Mu) (who : Int) (n : Nat) (x : Pk) (h0 : 1 ≤ cs.length ∧ cs.length < 1000) (hE : μ.N < 1099511627000) :
 Sp nj [vp rp, vi who, vu n, .agg (Pk.cells x).toArray] (db m i rp cs * bP m μ) (fun _ : Unit => .tuple #[]) (fun _ => db m i rp (cs.set (n % cs.length) x) * bP m (μ.acc who 6 (16, (i : Int), ((n % cs.length : Nat) : Int)))) := by
 have hlt : n % cs.length < cs.length := Nat.mod_lt _ (by omega);refine aY (CB _ _ _ _) fun R H h => ?_;refine aS h fun b H1 h1 => ?_;obtain ⟨cv, k1⟩ := fu (m := m) (i := i) (rp := rp) (cs := cs) (R := bP m μ * (blk b (.cells false (Pk.cells x)) * R)) (H := H1) h1.to;refine bD ae ?_;refine aN k1 rfl ?_;refine bD ae ?_;refine aN k1 rfl ?_
 have cell : ∀ cv, Sp eS [vp rp, vu n] (blk rp (.cells false [vp m, vi i, vi cs.length, cv])) (fun _ : Unit => vi ((n % cs.length : Nat) : Int)) (fun _ => blk rp (.cells false [vp m, vi i, vi cs.length, cv])) := by
  intro cv;refine aY (pM _ _) fun R H h => ?_;refine ak h ae rfl ?_;refine aa (dU (by omega) (by omega)) ?_;rw [show ((cs.length : Nat) : Int).toNat = cs.length from xE _];refine aa (ka (by omega)) ?_;refine aa (iS (by omega)) ?_;exact am ⟨(), rfl, h⟩
 refine af k1 (cell cv) fun _ H2 k2 => ?_;refine aH k2 k1 (by rfl) ?_;refine aH k2 k1 (by rfl) ?_;refine af k2 (dI 16 (i : Int) ((n % cs.length : Nat) : Int)) fun _ H3 k3 => ?_;refine aH k3 k1 (by rfl) ?_;refine af k3 ((ae0 m μ who 6 (16, (i : Int), ((n % cs.length : Nat) : Int)) (by omega)).imp fun _ R H h => xX (N' := μ.N + 2) (by simp) h) fun _ H4 k4 => ?_;refine bD ae ?_;refine aN k4 rfl ?_;refine af k4 (cell cv) fun _ H5 k5 => ?_;refine aH k5 k4 (by rfl) ?_;refine aR k5 ?_;refine dB k4 k5 rfl ?_;refine JW (s := cv) (l := cs) (i := n % cs.length) x k5 hlt (.inl ⟨rfl, rfl⟩) rfl (by omega) rfl rfl fun H6 k6 => ?_;refine am ⟨(), rfl, ?_⟩;have el : (cs.set (n % cs.length) x).length = cs.length := OY;have h6 := lA (m := m) (i := i) (rp := rp) (cs := cs.set (n % cs.length) x) (cv := cv) (R := bP m (μ.acc who 6 (16, (i : Int), ((n % cs.length : Nat) : Int))) * R) (H := H6) (by rw [el]; exact k6.to);exact h6.to
section
variable (p : Nat) (g : XIds) (σ : bd)
theorem UF (hl : g.rp.length = σ.obs.length) (who : Int) (o : Nat) (ho : o < σ.obs.length) (hN : σ.μ.N < 800000) : Sp lJ [vp p, vi who, vi o] (au p g σ) (fun v : Value => v) (fun _ => au p g (σ.mem (σ.μ.acc who 5 (13, (o : Int), 0)))) := by
 refine aY (Aj _ _ _) fun R H h => ?_;refine bo h fun b H1 h1 => ?_;refine aa (bE (by omega)) ?_;refine gs ?_;refine ak h1 ae rfl ?_;refine gs ?_;have h2 := h1;unfold au at h2;refine i4 (s := g.ov) (enc := uI) (l := σ.obs.map fun x : Ob × List Pk => x.1) h2 ?_;rw [sE];refine gs ?_;refine aa (pr (by omega)) ?_;refine gs ?_;refine bD ae ?_;refine aN h1 rfl ?_;refine af h1 (dI 13 (o : Int) 0) fun _ H3 h3 => ?_;refine aH h3 h1 (by rfl) ?_;refine af h3 (QF (p := p) (g := g) (σ := σ) (μ' := σ.μ.acc who 5 (13, (o : Int), 0)) (by simp) ((ae0 g.m σ.μ who 5 (13, (o : Int), 0) (by omega)).imp fun _ R H h => xX (N' := σ.μ.N + 2) (by simp) h)) fun _ H4 h4 => ?_;refine ak h4 ae rfl ?_;have h5 := h4;unfold au at h5;refine wx (enc := uI) (l := σ.obs.map fun x : Ob × List Pk => x.1) h5 (by rw [sE]; exact ho) ?_;refine eM h4 rfl rfl fun H6 h6 => ?_;refine aR h6 ?_;exact am ⟨_, rfl, h6.to⟩
theorem qM (who : Int) (hN : σ.μ.N < 800000) : Sp eR [vp p, vi who] (au p g σ) (fun _ : Unit => vu (σ.μ.V (2, 0, 0))) (fun _ => au p g (σ.mem (σ.μ.acc who 1 (2, 0, 0)))) := by
 refine aY (Ak _ _) fun R H h => ?_;refine bD ae ?_;refine aN h rfl ?_;refine af h (dI 2 0 0) fun _ H1 h1 => ?_;refine aH h1 h (by rfl) ?_;refine af h1 (QF (p := p) (g := g) (σ := σ) (μ' := σ.μ.acc who 1 (2, 0, 0)) (by simp) (s8 g.m σ.μ who (2, 0, 0) (by omega))) fun _ H2 h2 => ?_;exact am ⟨(), rfl, h2.to⟩
theorem Qu (who : Int) (hN : σ.μ.N < 800000) : Sp fQ [vp p, vi who] (au p g σ) (fun _ : Unit => .tuple #[]) (fun _ => au p g (σ.mem (σ.μ.cnt who (2, 0, 0) 1))) := by
 refine aY (yB _ _) fun R H h => ?_;refine bD ae ?_;refine aN h rfl ?_;refine af h (dI 2 0 0) fun _ H1 h1 => ?_;refine aH h1 h (by rfl) ?_;refine af h1 (QF (p := p) (g := g) (σ := σ) (μ' := σ.μ.cnt who (2, 0, 0) 1) (by simp) (Mq g.m σ.μ who (2, 0, 0) 1 (by omega))) fun _ H2 h2 => ?_;exact am ⟨(), rfl, h2.to⟩
theorem mp (t m sh sl : Nat) (hs : 1 ≤ sh ∧ sh ≤ 4) (flow : Int) : Sp fg [vp t, vi flow] (tab t m sh sl) (fun _ : Unit => vi ((flow.tmod sh + sh).tmod sh)) (fun _ => tab t m sh sl) := by
 have q := Yu flow (n := sh) (by omega);refine aY (vY _ _) fun R H h => ?_;unfold tab at h ⊢;refine ak h ae rfl ?_;refine aa (kH (by omega)) ?_;refine ah (rC _ _ _ H) ?_
 by_cases hn : flow.tmod sh < 0
 ·refine aa (bS hn) ?_
  refine gs ?_;refine ak h ae rfl ?_;refine aa (aE (by omega) (by omega)) ?_;refine ah (j6 _ _ H) ?_;refine am ⟨(), ?_, h⟩;have : (flow.tmod sh + sh).tmod sh = flow.tmod sh + sh := Int.tmod_eq_of_lt (by omega) (by omega);rw [this]
 ·refine aa (bE hn) ?_
  refine gs ?_;refine ah (j6 _ _ H) ?_;refine am ⟨(), ?_, h⟩
  have : (flow.tmod sh + sh).tmod sh = flow.tmod sh := by
   rw [ak1 (by omega), Int.add_emod_right];exact Int.emod_eq_of_lt (by omega) (by omega)
  rw [this]
end
end Go.Proofs.YtflbeghglllknaaGreatDoor.Gst
