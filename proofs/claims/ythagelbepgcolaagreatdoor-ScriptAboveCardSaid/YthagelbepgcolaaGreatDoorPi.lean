/- Several texts in one. -/
import Derived.Test.YthagelbepgcolaaGreatDoorPh
namespace Go.Proofs.YthagelbepgcolaaGreatDoor.Gst
open Go Go.RowKit
set_option linter.unusedSimpArgs false
set_option linter.unusedVariables false
set_option maxHeartbeats 1000000
set_option maxRecDepth 10000
def ne (rb b0 p : Nat) (v : Value) (full : List Nat) (c : Cfg) (pv : Value) (ps : List (Sv × List Cl)) (P : SP) (S : RS) : SP := rP rb v full S * (blk p (.cells false (aK c pv)) * (blk b0 (.cells false zeroP) * (ts 1 iK pv (ps.map (·.1)) * (eb ps * P))))
abbrev yi (pk : List Nat) : List Int := pk.map fun n : Nat => (n : Int)
section
variable {rb b0 p : Nat} {v : Value} {full : List Nat} {P X : SP} {H : AH} {pv : Value} {ps : List (Sv × List Cl)} {c : Cfg} {x3 x4 x15 : Value} {er : Int}
theorem NE {i : Nat} {e : Int} (h : StQ full (.error er) i e) : er ≠ 0 := by
 obtain ⟨_, rfl | rfl⟩ := h <;> decide
theorem afT (h : ac (ne rb b0 p v full c pv ps (X * P) (.error er)) H) : wp (gJ (vp b0) x3 x4 (vp rb) (vp p) x15 H) (da P (.error er)) := by
 refine ae (pV _ _ _ _ _ _ H) ?_;unfold ne at h;obtain ⟨i, e, hS, h1⟩ := lW h;have hne := NE hS;obtain ⟨rfl, _⟩ := hS;refine aL h1 bn rfl ?_;refine aa (DG hne) ?_;refine gs ?_;refine xW (cs := zeroP) rfl ?_;refine k8 bn ?_;refine dK h1 rfl ?_;refine cS h1 rfl rfl fun H2 h2 => ?_;refine ci h2 h1 rfl ?_;refine bx h2 ?_;exact ay ⟨rfl, h2.right.right.right.right.right.right⟩
theorem apA {L : List Nat} {cn : CfN} {ls : List (List nq)} {pk : List Nat} (hps : ps.map (·.2) = Od ls) (h : ac (ne rb b0 p v full (lk cn) pv ps (ts 1 bz x15 (yi pk) * P) (.ok L)) H) : wp (gJ (vp b0) x3 x4 (vp rb) (vp p) x15 H) (da P (.ok ⟨cn, ls, pk⟩)) := by
 refine ae (pV _ _ _ _ _ _ H) ?_;unfold ne at h;obtain ⟨i, e, hS, h1⟩ := lW h;obtain ⟨rfl, _, _⟩ := hS;have h2' : ac (ts 1 iK pv (ps.map (·.1)) * (blk p (.cells false (aK (lk cn) pv)) * (eb ps * (ts 1 bz x15 (yi pk) * P)))) H := h1.to;obtain ⟨sv, rfl⟩ := Vd h2';refine aL h1 bn rfl ?_;refine aa (fL rfl) ?_;refine gs ?_;refine bx h1 ?_;refine cS h1 rfl rfl fun H2 h2 => ?_;refine bx h2 ?_;refine ay ⟨sv, ps, x15, rfl, hps, ?_⟩;unfold jx;exact h2.to
theorem afR (h : ac (ne rb b0 p v full c pv ps (X * P) (.error er)) H) : wp (kw v (vp b0) x3 x4 (vp rb) (vp p) x15 H) (da P (.error er)) := by
 refine ae (pU _ _ _ _ _ _ _ H) ?_;have h' := h;unfold ne at h';obtain ⟨i, e, hS, h1⟩ := lW h';have hne := NE hS;obtain ⟨rfl, _⟩ := hS;refine aL h1 bn rfl ?_;refine aa (nw hne) ?_;refine gs ?_;exact afT h
theorem ao9 [r : Rd P v 1 aG full] {L : List Nat} {cn : CfN} {ls : List (List nq)} {pk : List Nat} (hps : ps.map (·.2) = Od ls) (h : ac (ne rb b0 p v full (lk cn) pv ps (ts 1 bz x15 (yi pk) * P) (.ok L)) H) :
 wp (kw v (vp b0) x3 x4 (vp rb) (vp p) x15 H) (da P (match L with | [] => .ok ⟨cn, ls, pk⟩ | _ :: _ => .error 11)) := by
 refine ae (pU _ _ _ _ _ _ _ H) ?_;have h' := h;unfold ne at h';obtain ⟨i, e, hS, h1⟩ := lW h';obtain ⟨rfl, hi, hL⟩ := hS;refine aL h1 bn rfl ?_;refine aa (cM rfl) ?_;refine gs ?_;refine aL h1 bn rfl ?_;refine gs ?_;refine gg (s := v) (l := full) h1 ?_;refine gs ?_
 cases L with
 | nil =>
  have : full.length ≤ i := by
   have := congrArg List.length hL;simp only [List.length_drop, List.length_nil] at this;omega
  refine aa (aU (by omega)) ?_;refine gs ?_;exact apA hps h
 | cons y L =>
  have : i < full.length := by
   have := congrArg List.length hL;simp only [List.length_drop, List.length_cons] at this;omega
  refine aa (aW (by omega)) ?_;refine gs ?_;refine ah h1 (N1 (rb := rb) (v := v) i 11) fun _ H2 h2 => ?_;refine afT (v := v) (full := full) (c := lk cn) (pv := pv) (ps := ps) (X := ts 1 bz x15 (yi pk)) ?_;unfold ne;exact Ba (i := i) (e := 11) (S := .error 11) ⟨rfl, .inl rfl⟩ (by rw [ee] at h2; exact h2)
theorem Mg {k i : Int} (h : ac (ne rb b0 p v full c pv ps (X * P) (.error er)) H) : wp (fN v (vp b0) x3 x4 (vp rb) (vp p) (vi k) x15 (vi i) H) (da P (.error er)) := by
 refine ae (ja _ _ _ _ _ _ _ _ _ H) ?_;have h' := h;unfold ne at h';obtain ⟨i', e, hS, h1⟩ := lW h';have hne := NE hS;obtain ⟨rfl, _⟩ := hS
 by_cases hik : i < k
 ·refine aa (aW hik) ?_
  refine gs ?_;refine aL h1 bn rfl ?_;refine gs ?_;refine aa (nw hne) ?_;refine gs ?_;refine ae (gv _ _ _ _ _ _ _ H) ?_;exact afR h
 ·refine aa (aU hik) ?_
  refine gs ?_;refine ae (gv _ _ _ _ _ _ _ H) ?_;exact afR h
theorem an4 [r : Rd P v 1 aG full] (hf : ∀ y ∈ full, y < 256) (hlen : (full.length : Int) < 9223372036854775807) {cn : CfN} {ls : List (List nq)} (hps : ps.map (·.2) = Od ls) {k : Nat} (hk : k ≤ 4000) : ∀ (d i : Nat) (s : Value) (pk L : List Nat) (H : AH), i + d = k → pk.length = i → ac (ne rb b0 p v full (lk cn) pv ps (ts 1 bz s (yi pk) * P) (.ok L)) H →
 wp (fN v (vp b0) x3 x4 (vp rb) (vp p) (vi k) s (vi i) H) (da P (match dA (fM 0 63) d L with | .ok (qs, []) => .ok ⟨cn, ls, pk ++ qs⟩ | .ok (_, _ :: _) => .error 11 | .error e => .error e)) := by
 intro d
 induction d with
 | zero =>
  intro i s pk L H hi hp h;refine ae (ja _ _ _ _ _ _ _ _ _ H) ?_;refine aa (aU (by omega)) ?_;refine gs ?_;refine ae (gv _ _ _ _ _ _ _ H) ?_;have := ao9 (x3 := x3) (x4 := x4) hps h
  show wp _ (da P (match (Except.ok ([], L) : Except Int (List Nat × List Nat)) with | .ok (qs, []) => .ok ⟨cn, ls, pk ++ qs⟩ | .ok (_, _ :: _) => .error 11 | .error e => .error e))
  cases L with
  | nil => simpa using this
  | cons y L => exact this
 | succ d ih =>
  intro i s pk L H hi hp h;refine ae (ja _ _ _ _ _ _ _ _ _ H) ?_;have h' := h;unfold ne at h';refine aa (aW (by omega)) ?_;refine gs ?_;refine ahM (rb := rb) (v := v) (full := full) (S := .ok L) h' ?_;refine gs ?_;refine aa (cM rfl) ?_;refine gs ?_;refine ae (AM _ _ _ _ _ _ _ _ _ H) ?_;refine ah h' (dW (P := P) (v := v) (full := full) (rb := rb) hf hlen (.ok L) 0 63 (by omega) (by omega)) fun _ H2 h2 => ?_;obtain ⟨a, ea⟩ : ∃ a, jf 0 63 (.ok L) = a := ⟨_, rfl⟩;rw [ea] at h2 ⊢;refine IP h2 fun b1 H3 h3 => ?_;refine d8 (s := s) (l := yi pk) (a.1 : Int) h3 rfl ?_ (by omega) fun a' c' H4 h4 => ?_
  ·unfold cg yi; simp only [dN]; omega
  refine ae (AN _ _ _ _ _ _ _ _ _ H4) ?_;refine aa (aq (by omega) (by omega)) ?_;unfold dA aZ
  rcases dE ea with ⟨r1, e1, n1⟩ | ⟨er, rfl, n1⟩
  ·rw [e1] at h4
   rw [n1]
   have h5 : ac (ne rb b0 p v full (lk cn) pv ps (ts 1 bz (.slice a' ((yi pk).length + 1) c') (yi (pk ++ [a.1])) * P) (.ok r1)) H4 := by
    unfold ne;rw [show yi (pk ++ [a.1]) = yi pk ++ [(a.1 : Int)] from by simp [yi]];exact h4.to
   have := ih (i + 1) (.slice a' ((yi pk).length + 1) c') (pk ++ [a.1]) r1 H4 (by omega) (by simp; omega) h5;refine cast ?_ this
   congr 1
   congr 1
   dsimp only
   cases dA (fM 0 63) d r1 with
   | ok q =>
    obtain ⟨qs, r'⟩ := q
    cases r' with
    | nil => simp [dV]
    | cons y r' => rfl
   | error e => rfl
  ·rw [n1]
   dsimp only at h4 ⊢;refine Mg (full := full) (c := lk cn) (pv := pv) (ps := ps) (X := emp) ?_;unfold ne;rw [ee];exact h4.to
theorem afQ [r : Rd P v 1 aG full] (hf : ∀ y ∈ full, y < 256) (hlen : (full.length : Int) < 9223372036854775807) (h : ac (ne rb b0 p v full c pv ps (X * P) (.error er)) H) : wp (ku v (vp b0) x3 x4 (vp rb) (vp p) H) (da P (.error er)) := by
 refine ae (pS _ _ _ _ _ _ H) ?_;unfold ne at h;refine ah h (dW (P := P) (v := v) (full := full) (rb := rb) hf hlen (.error er) 0 4000 (by omega) (by omega)) fun _ H2 h2 => ?_;have e0 : jf 0 4000 (.error er) = (0, .error er) := rfl;rw [e0] at h2 ⊢;dsimp only at h2 ⊢;refine ae (pT _ _ _ _ _ _ _ _ H2) ?_;refine ae (nQ _ _ _ _ _ _ _ _ _ H2) ?_;refine Mg (full := full) (c := c) (pv := pv) (ps := ps) (X := X) ?_;unfold ne;exact h2.to
theorem ao8 [r : Rd P v 1 aG full] (hf : ∀ y ∈ full, y < 256) (hlen : (full.length : Int) < 9223372036854775807) {cn : CfN} {ls : List (List nq)} (hps : ps.map (·.2) = Od ls) {L : List Nat} (h : ac (ne rb b0 p v full (lk cn) pv ps P (.ok L)) H) : wp (ku v (vp b0) x3 x4 (vp rb) (vp p) H) (da P (PG cn ls L)) := by
 refine ae (pS _ _ _ _ _ _ H) ?_;unfold ne at h;refine ah h (dW (P := P) (v := v) (full := full) (rb := rb) hf hlen (.ok L) 0 4000 (by omega) (by omega)) fun _ H2 h2 => ?_;have hle := Bc (lo := 0) (hi := 4000) (S := .ok L);obtain ⟨a, ea⟩ : ∃ a, jf 0 4000 (.ok L) = a := ⟨_, rfl⟩;rw [ea] at h2 hle ⊢;refine ae (pT _ _ _ _ _ _ _ _ H2) ?_;refine ae (nQ _ _ _ _ _ _ _ _ _ H2) ?_;unfold PG
 rcases dE ea with ⟨r1, e1, n1⟩ | ⟨er, rfl, n1⟩
 ·rw [n1]
  rw [e1] at h2
  have h3 : ac (ne rb b0 p v full (lk cn) pv ps (ts 1 bz (.slice none 0 0) (yi []) * P) (.ok r1)) H2 := by
   unfold ne;have t : ac (ts 1 bz (.slice none 0 0) (yi []) * _) H2 := fR 1 bz h2;exact t.to
  have := an4 (x3 := x3) (x4 := x4) hf hlen hps (k := a.1) hle a.1 0 (.slice none 0 0) [] r1 H2 (by omega) rfl h3;refine cast ?_ this
  congr 1
 ·rw [n1]
  dsimp only at h2 ⊢;refine Mg (full := full) (k := ((0 : Nat) : Int)) (c := lk cn) (pv := pv) (ps := ps) (X := emp) ?_;unfold ne;rw [ee];exact h2.to
theorem UM [r : Rd P v 1 aG full] (hf : ∀ y ∈ full, y < 256) (hlen : (full.length : Int) < 9223372036854775807) {x7 : Value} {n i : Int} (h : ac (ne rb b0 p v full c pv ps (X * P) (.error er)) H) : wp (fO v (vp b0) x3 x4 (vp rb) (vp p) x7 (vi n) (vi i) H) (da P (.error er)) := by
 refine ae (jb _ _ _ _ _ _ _ _ _ H) ?_;have h' := h;unfold ne at h';obtain ⟨i', e, hS, h1⟩ := lW h';have hne := NE hS;obtain ⟨rfl, _⟩ := hS
 by_cases hik : i < n
 ·refine aa (aW hik) ?_
  refine gs ?_;refine aL h1 bn rfl ?_;refine gs ?_;refine aa (nw hne) ?_;refine gs ?_;refine ae (gx _ _ _ _ _ _ H) ?_;exact afQ hf hlen h
 ·refine aa (aU hik) ?_
  refine gs ?_;refine ae (gx _ _ _ _ _ _ H) ?_;exact afQ hf hlen h
theorem afU [r : Rd P v 1 aG full] (hf : ∀ y ∈ full, y < 256) (hlen : (full.length : Int) < 9223372036854775807) {x7 x8 x9 : Value} {cnt : Nat} (hcnt : cnt ≤ 60) (g : List nq → List Nat → Except Int ScN)
 (next : ∀ (s : Sv) (ys : List nq) (L : List Nat) (H : AH), ys.length = cnt → ac (ts 4 Cl.cells s.v (ys.map wT) * ne rb b0 p v full c pv ps P (.ok L)) H → wp (dD v (vp b0) x3 x4 (vp rb) (vp p) x7 x8 x9 s.v H) (da P (g ys L)))
 (bad : ∀ (er : Int) (s : Sv) (l : List Cl) (H : AH), l.length ≤ 60 → ac (ts 4 Cl.cells s.v l * ne rb b0 p v full c pv ps P (.error er)) H → wp (dD v (vp b0) x3 x4 (vp rb) (vp p) x7 x8 x9 s.v H) (da P (.error er))) :
 ∀ (e j : Nat) (s : Sv) (ys : List nq) (L : List Nat) (H : AH), j + e = cnt → ys.length = j → ac (ts 4 Cl.cells s.v (ys.map wT) * ne rb b0 p v full c pv ps P (.ok L)) H →
  wp (jc v (vp b0) x3 x4 (vp rb) (vp p) x7 x8 x9 (vi cnt) s.v (vi j) H) (da P (match dA iG e L with | .ok (bs, r) => g (ys ++ bs) r | .error e => .error e)) := by
 intro e
 induction e with
 | zero =>
  intro j s ys L H hj ha h;refine ae (fw _ _ _ _ _ _ _ _ _ _ _ _ H) ?_;refine aa (aU (by omega)) ?_;refine gs ?_;show wp _ (da P (g (ys ++ []) L));rw [List.append_nil];exact next s ys L H (by omega) h
 | succ e ih =>
  intro j s ys L H hj ha h;refine ae (fw _ _ _ _ _ _ _ _ _ _ _ _ H) ?_;unfold ne at h;refine aa (aW (by omega)) ?_;refine gs ?_;refine ahM (rb := rb) (v := v) (full := full) (S := .ok L) h ?_;refine gs ?_;refine aa (cM rfl) ?_;refine gs ?_;refine ae (AU _ _ _ _ _ _ _ _ _ _ _ _ H) ?_;have h0 : ac (rP rb v full (.ok L) * (P * (ts 4 Cl.cells s.v (ys.map wT) * (blk p (.cells false (aK c pv)) * (blk b0 (.cells false zeroP) * (ts 1 iK pv (ps.map (·.1)) * eb ps)))))) H := h.to;refine ah h0 (dW (P := P) (v := v) (full := full) (rb := rb) hf hlen (.ok L) 0 2147483647 (by omega) (by omega)) fun _ H1 h1 => ?_;obtain ⟨a1, e1⟩ : ∃ a, jf 0 2147483647 (.ok L) = a := ⟨_, rfl⟩;rw [e1] at h1 ⊢;refine xW (cs := [vi (a1.1 : Nat), vi 0, vi 0, vi 0]) rfl ?_;refine ce h1 fun b1 H2 h2 => ?_;refine cS h2 rfl rfl fun H3 h3 => ?_;refine ah h3 (dW (P := P) (v := v) (full := full) (rb := rb) hf hlen a1.2 0 2147483647 (by omega) (by omega)) fun _ H4 h4 => ?_;obtain ⟨a2, e2⟩ : ∃ a, jf 0 2147483647 a1.2 = a := ⟨_, rfl⟩;rw [e2] at h4 ⊢;refine gN h4 aj rfl rfl fun H5 h5 => ?_;refine ah h5 (dW (P := P) (v := v) (full := full) (rb := rb) hf hlen a2.2 0 2147483647 (by omega) (by omega)) fun _ H6 h6 => ?_;obtain ⟨a3, e3⟩ : ∃ a, jf 0 2147483647 a2.2 = a := ⟨_, rfl⟩;rw [e3] at h6 ⊢;refine gN h6 aj rfl rfl fun H7 h7 => ?_;refine ah h7 (dW (P := P) (v := v) (full := full) (rb := rb) hf hlen a3.2 0 2147483647 (by omega) (by omega)) fun _ H8 h8 => ?_;obtain ⟨a4, e4⟩ : ∃ a, jf 0 2147483647 a3.2 = a := ⟨_, rfl⟩;rw [e4] at h8 ⊢;refine gN h8 aj rfl rfl fun H9 h9 => ?_;refine bx h9 ?_
  have h9' : ac (ts 4 Cl.cells s.v (ys.map wT) * ne rb b0 p v full c pv ps P a4.2) H9 := by
   unfold ne;exact h9.to
  obtain ⟨y, hy⟩ : ∃ y : nq, y = ⟨a1.1, a2.1, a3.1, a4.1⟩ := ⟨_, rfl⟩;have hcl : aiI ⟨a1.1, a2.1, a3.1, a4.1⟩ = Cl.cells (wT ⟨a1.1, a2.1, a3.1, a4.1⟩) := rfl;refine IP h9' fun b2 H10 h10 => ?_;refine d8 (s := s.v) (l := ys.map wT) (wT ⟨a1.1, a2.1, a3.1, a4.1⟩) h10 rfl ?_ (by omega) fun a cc H11 h11 => ?_
  ·unfold cg; simp only [dN]; omega
  refine ae (AV _ _ _ _ _ _ _ _ _ _ _ _ H11) ?_;refine aa (aq (by omega) (by omega)) ?_
  have hj1 : ((j : Int) + 1) = ((j + 1 : Nat) : Int) := by omega
  rw [hj1]
  have h12 : ac (ts 4 Cl.cells (Sv.v ⟨a, (ys.map wT).length + 1, cc⟩) ((ys ++ [(⟨a1.1, a2.1, a3.1, a4.1⟩ : nq)]).map wT) * ne rb b0 p v full c pv ps P a4.2) H11 := by
   rw [Ac, List.map_singleton];have h11b := h11;rw [cC] at h11b;have h11c := h11b.right;rw [ee] at h11c;exact h11c
  unfold dA aZ
  rcases Pr e1 e2 e3 e4 with ⟨r4, q4, n4⟩ | ⟨er, q4, n4⟩
  ·rw [n4]
   rw [q4] at h12;have := ih (j + 1) ⟨a, (ys.map wT).length + 1, cc⟩ (ys ++ [⟨a1.1, a2.1, a3.1, a4.1⟩]) r4 H11 (by omega) (by simp; omega) h12;dsimp only
   cases hm : dA iG e r4 with
   | ok q =>
    obtain ⟨bs, r'⟩ := q;rw [hm] at this;dsimp only at this;rw [List.append_assoc] at this;exact this
   | error er =>
    rw [hm] at this;exact this
  ·rw [n4]
   rw [q4] at h12;dsimp only;have hb := bad er (⟨a, (ys.map wT).length + 1, cc⟩ : Sv) ((ys ++ [(⟨a1.1, a2.1, a3.1, a4.1⟩ : nq)]).map wT) H11 (by simp; omega) h12;refine ae (fw _ _ _ _ _ _ _ _ _ _ _ _ H11) ?_;have h13 := h12;unfold ne at h13;have h14 : ac (rP rb v full (.error er) * (blk p (.cells false (aK c pv)) * (blk b0 (.cells false zeroP) * (ts 1 iK pv (ps.map (·.1)) * (eb ps * P))))) H11 := h13.right;obtain ⟨i', e', hS, h15⟩ := lW h14;have hne := NE hS;obtain ⟨rfl, _⟩ := hS
   by_cases hik : ((j + 1 : Nat) : Int) < cnt
   ·refine aa (aW hik) ?_
    refine gs ?_;refine aL h15 bn rfl ?_;refine gs ?_;refine aa (nw hne) ?_;refine gs ?_;exact hb
   ·refine aa (aU hik) ?_
    refine gs ?_;exact hb
end
section
variable {rb b0 p : Nat} {v : Value} {full : List Nat} {P : SP} {x3 x4 : Value}
theorem UN {c : Cfg} {pv : Value} {ps : List (Sv × List Cl)} (hp : ps.length ≤ 6) {S : RS} {x7 x8 x9 : Value} {s : Sv} {l : List Cl} {H : AH} {Q : Value → AH → Prop} (h : ac (ts 4 Cl.cells s.v l * ne rb b0 p v full c pv ps P S) H)
 (hk : ∀ (pv' : Value) (H' : AH), ac (ne rb b0 p v full c pv' (ps ++ [(s, l)]) P S) H' → wp (mI v (vp b0) x3 x4 (vp rb) (vp p) x7 x8 x9 H') Q) : wp (dD v (vp b0) x3 x4 (vp rb) (vp p) x7 x8 x9 s.v H) Q := by
 refine ae (wz _ _ _ _ _ _ _ _ _ _ H) ?_;refine ae (AS _ _ _ _ _ _ _ _ _ _ H) ?_;unfold ne at h;refine aL h aj rfl ?_;refine IP h fun b1 H2 h2 => ?_;refine d8 (s := pv) (l := ps.map fun x : Sv × List Cl => x.1) (s : Sv) h2 rfl ?_ (by omega) fun a cc H3 h3 => ?_
 ·unfold cg; simp only [dN]; omega
 refine gN h3 aj rfl rfl fun H4 h4 => ?_;refine hk (.slice a ((ps.map fun x : Sv × List Cl => x.1).length + 1) cc) H4 ?_;unfold ne;rw [yR, Ac, List.map_singleton];exact h4.to
theorem afS [r : Rd P v 1 aG full] (hf : ∀ y ∈ full, y < 256) (hlen : (full.length : Int) < 9223372036854775807) {n : Nat} (hn : n ≤ 6) (cn : CfN) : ∀ (d i left : Nat) (pv : Value) (ps : List (Sv × List Cl)) (acc : List (List nq)) (L : List Nat) (H : AH), i + d = n → left ≤ 60 → ps.length = i → ps.map (·.2) = Od acc →
 ac (ne rb b0 p v full (lk cn) pv ps P (.ok L)) H →
 wp (fO v (vp b0) x3 x4 (vp rb) (vp p) (vi left) (vi n) (vi i) H) (da P (match dG d left L with | .ok (ls, r) => PG cn (acc ++ ls) r | .error e => .error e)) := by
 intro d
 induction d with
 | zero =>
  intro i left pv ps acc L H hi hleft hp hps h;refine ae (jb _ _ _ _ _ _ _ _ _ H) ?_;refine aa (aU (by omega)) ?_;refine gs ?_;refine ae (gx _ _ _ _ _ _ H) ?_;show wp _ (da P (PG cn (acc ++ []) L));rw [List.append_nil];exact ao8 hf hlen hps h
 | succ d ih =>
  intro i left pv ps acc L H hi hleft hp hps h;refine ae (jb _ _ _ _ _ _ _ _ _ H) ?_;have h' := h;unfold ne at h';refine aa (aW (by omega)) ?_;refine gs ?_;refine ahM (rb := rb) (v := v) (full := full) (S := .ok L) h' ?_;refine gs ?_;refine aa (cM rfl) ?_;refine gs ?_;refine ae (AP _ _ _ _ _ _ _ _ _ H) ?_;refine ah h' (dW (P := P) (v := v) (full := full) (rb := rb) hf hlen (.ok L) 0 left (by omega) (by omega)) fun _ H2 h2 => ?_;have hle := Bc (lo := 0) (hi := left) (S := .ok L);obtain ⟨a, ea⟩ : ∃ a, jf 0 left (.ok L) = a := ⟨_, rfl⟩;rw [ea] at h2 hle ⊢;refine aa (vA (by omega) (by omega)) ?_;refine ae (AQ _ _ _ _ _ _ _ _ _ _ _ H2) ?_;refine ae (AT _ _ _ _ _ _ _ _ _ _ _ _ H2) ?_;rw [show ((left : Int) - (a.1 : Int)) = ((left - a.1 : Nat) : Int) by omega]
  have h3 : ac (ts 4 Cl.cells (Sv.v ⟨none, 0, 0⟩) (([] : List nq).map wT) * ne rb b0 p v full (lk cn) pv ps P a.2) H2 := by
   unfold ne;have t : ac (ts 4 Cl.cells (Sv.v ⟨none, 0, 0⟩) (([] : List nq).map wT) * _) H2 := fR 4 Cl.cells h2;exact t.to
  have bad : ∀ (er : Int) (s : Sv) (l : List Cl) (H : AH), l.length ≤ 60 → ac (ts 4 Cl.cells s.v l * ne rb b0 p v full (lk cn) pv ps P (.error er)) H → wp (dD v (vp b0) x3 x4 (vp rb) (vp p) (vi ((left - a.1 : Nat) : Int)) (vi n) (vi i) s.v H) (da P (.error er)) := by
   intro er s l J hl j;refine UN (by omega) j fun pv' J2 j2 => ?_;refine ae (nR _ _ _ _ _ _ _ _ _ J2) ?_;refine aa (aq (by omega) (by omega)) ?_;refine UM (full := full) hf hlen (c := lk cn) (pv := pv') (ps := ps ++ [(s, l)]) (X := emp) ?_;rw [ee];exact j2
  unfold dG aZ
  rcases dE ea with ⟨r1, e1, n1⟩ | ⟨er, rfl, n1⟩
  ·rw [n1]
   rw [e1] at h3;have key := afU (rb := rb) (b0 := b0) (p := p) (v := v) (full := full) (P := P) (pv := pv) (ps := ps) (c := lk cn) (x3 := x3) (x4 := x4) (x7 := vi ((left - a.1 : Nat) : Int)) (x8 := vi n) (x9 := vi i) hf hlen (cnt := a.1) (by omega)
    (fun ys r => match dG d (left - a.1) r with | .ok (ls, r') => PG cn (acc ++ (ys :: ls)) r' | .error e => .error e)
    (fun s ys M J hys j => ?_) bad a.1 0 ⟨none, 0, 0⟩ [] r1 H2 (by omega) rfl h3
   ·refine cast ?_ key
    congr 1
    congr 1
    dsimp only
    cases dA iG a.1 r1 with
    | ok q =>
     obtain ⟨ys, r'⟩ := q;dsimp only [List.nil_append]
     cases dG d (left - a.1) r' with
     | ok q => obtain ⟨ls, r''⟩ := q; rfl
     | error e => rfl
    | error e => rfl
   ·refine UN (by omega) j fun pv' J2 j2 => ?_
    refine ae (nR _ _ _ _ _ _ _ _ _ J2) ?_;refine aa (aq (by omega) (by omega)) ?_;have := ih (i + 1) (left - a.1) pv' (ps ++ [(s, ys.map wT)]) (acc ++ [ys]) M J2 (by omega) (by omega) (by simp; omega) (by rw [Ac, hps]; simp [Od]) j2;refine cast ?_ this
    congr 1
    congr 1
    cases dG d (left - a.1) M with
    | ok q => obtain ⟨ls, r''⟩ := q; simp
    | error e => rfl
  ·rw [n1]
   dsimp only at h3 ⊢;refine ae (fw _ _ _ _ _ _ _ _ _ _ _ _ H2) ?_;refine aa (aU (by omega)) ?_;refine gs ?_;exact bad er ⟨none, 0, 0⟩ _ H2 (by simp) h3
theorem uE [r : Rd P v 1 aG full] (hf : ∀ y ∈ full, y < 256) (hlen : (full.length : Int) < 9223372036854775807) {H : AH} (h : ac P H) : wp (FF re [v] H) (da P (bC full)) := by
 have hsv : ∃ s : Sv, v = s.v := by
  obtain ⟨_, ⟨a, c, rfl, _⟩ | ⟨b, o, ro, row, rfl, _⟩⟩ := r.rd h
  ·exact ⟨⟨_, _, _⟩, rfl⟩
  ·exact ⟨⟨_, _, _⟩, rfl⟩
 obtain ⟨s, rfl⟩ := hsv;refine eD (fun r => IG _ H) ?_;refine ce h fun b0 H1 h1 => ?_;refine xW (cs := [s.v, vi 0, vi 0]) rfl ?_;refine bH h1 fun rb H2 h2 => ?_;refine xW (cs := zeroP) rfl ?_;refine ce h2 fun p H3 h3 => ?_;refine cS h3 rfl rfl fun H4 h4 => ?_
 have h5 : ac (rP rb s.v full (.ok full) * (blk p (.cells false [vi 0, vi 0, vi 0, vi 0, vw 0, .slice none 0 0]) * (blk b0 (.cells false zeroP) * P))) H4 := by
  refine Ba (i := 0) (e := 0) (S := .ok full) ⟨rfl, by omega, rfl⟩ ?_;exact h4.to
 have step : ∀ {S : RS} {lo hi : Nat} {cs : List Value} {k : Value × AH → OV} {H : AH}, lo < 9223372036854775808 → hi < 9223372036854775808 → ac (rP rb s.v full S * (blk p (.cells false cs) * (blk b0 (.cells false zeroP) * P))) H → (∀ a H', jf lo hi S = a → ac (rP rb s.v full a.2 * (blk p (.cells false cs) * (blk b0 (.cells false zeroP) * P))) H' → wp (k (vi (a.1 : Nat), H')) (da P (bC full))) → wp ((FF aP [vp rb, vi lo, vi hi] H).bind k) (da P (bC full)) := by
  intro S lo hi cs k H hlo hhi h hk;refine ah h (dW (P := P) (v := s.v) (full := full) (rb := rb) hf hlen S lo hi hlo hhi) fun _ H' h' => ?_;exact hk _ H' rfl h'.to
 refine step (lo := 1) (hi := 4) (by omega) (by omega) h5 fun a1 H6 e1 h6 => ?_;refine gN h6 (show Ft _ _ _ 0 from eI (eI db)) rfl rfl fun H7 h7 => ?_;refine step (lo := 1) (hi := 4) (by omega) (by omega) h7 fun a2 H8 e2 h8 => ?_;refine gN h8 (show Ft _ _ _ 1 from eI (eI db)) rfl rfl fun H9 h9 => ?_;refine step (lo := 1) (hi := 6) (by omega) (by omega) h9 fun a3 H10 e3 h10 => ?_;refine gN h10 (show Ft _ _ _ 2 from eI (eI db)) rfl rfl fun H11 h11 => ?_;refine step (lo := 0) (hi := 40) (by omega) (by omega) h11 fun a4 H12 e4 h12 => ?_;refine gN h12 (show Ft _ _ _ 3 from eI (eI db)) rfl rfl fun H13 h13 => ?_;refine ah h13 (DJ (P := P) (v := s.v) (full := full) (rb := rb) (S := a4.2) hf hlen 1 4611686018427387904) fun _ H14 h14 => ?_;obtain ⟨a5, e5⟩ : ∃ a, jf 1 4611686018427387904 a4.2 = a := ⟨_, rfl⟩;rw [e5] at h14 ⊢;refine gN h14 (show Ft _ _ _ 4 from eI (eI db)) rfl rfl fun H15 h15 => ?_;refine aL h15 (eI (eI db)) rfl ?_;have hw := Bc (lo := 1) (hi := 6) (S := a2.2);rw [e3] at hw;have h15' : ac (rP rb s.v full a5.2 * (blk p (.cells false [vi a1.1, vi a2.1, vi a3.1, vi a4.1, vu a5.1, .slice none 0 0]) * (blk b0 (.cells false zeroP) * P))) H15 := h15.to;refine step (S := a5.2) (lo := 0) (hi := a3.1) (by omega) (by omega) h15' fun a6 H16 e6 h16 => ?_;have hn := Bc (lo := 0) (hi := a3.1) (S := a5.2);rw [e6] at hn;refine ae (CN _ _ _ _ _ _ _ _ H16) ?_;refine ae (AO _ _ _ _ _ _ _ _ _ H16) ?_
 have h17 : ac (ne rb b0 p s.v full (lk ⟨a1.1, a2.1, a3.1, a4.1, a5.1⟩) (.slice none 0 0) [] P a6.2) H16 := by
  unfold ne;rw [List.map_nil, show aK (lk ⟨a1.1, a2.1, a3.1, a4.1, a5.1⟩) (.slice none 0 0) = [vi a1.1, vi a2.1, vi a3.1, vi a4.1, vu a5.1, .slice none 0 0] from rfl];have t : ac (ts 1 iK (.slice none 0 0) [] * (eb [] * _)) H16 := fR 1 iK (wu h16 0);exact t.to
 rcases W4 e1 e2 e3 e4 e5 e6 with ⟨r6, q6, n6⟩ | ⟨er, rfl, n6⟩
 ·rw [n6]
  rw [q6] at h17;have := afS (x3 := .slice none 0 0) (x4 := vi 0) hf hlen (n := a6.1) (by omega) ⟨a1.1, a2.1, a3.1, a4.1, a5.1⟩ a6.1 0 60 (.slice none 0 0) [] [] r6 H16 (by omega) (by omega) rfl rfl h17;unfold Vc;refine cast ?_ this
  congr 1
 ·rw [n6]
  refine UM (full := full) hf hlen (c := lk ⟨a1.1, a2.1, a3.1, a4.1, a5.1⟩) (pv := .slice none 0 0) (ps := []) (X := emp) (n := ((0 : Nat) : Int)) ?_;rw [ee];exact h17
end
theorem Hm {α : Type} {p : Ps α} : ∀ {k : Nat} {L : List Nat} {l : List α} {r : List Nat}, dA p k L = .ok (l, r) → l.length = k
 | 0, L, l, r, h => by cases h; rfl
 | k + 1, L, l, r, h => by
  obtain ⟨a, r1, e1, h⟩ := bS h;obtain ⟨l2, r2, e2, h⟩ := bS h;cases h;have := Hm e2;simp [this]
theorem Jy : ∀ {w left : Nat} {L : List Nat} {ls : List (List nq)} {r : List Nat}, dG w left L = .ok (ls, r) → ls.length = w ∧ ∀ l ∈ ls, l.length ≤ left
 | 0, left, L, ls, r, h => by cases h; exact ⟨rfl, fun l hl => by cases hl⟩
 | w + 1, left, L, ls, r, h => by
  obtain ⟨n, r1, e1, h⟩ := bS h;obtain ⟨l, r2, e2, h⟩ := bS h;obtain ⟨ls', r3, e3, h⟩ := bS h;cases h;have hn := j8 e1;have hl := Hm e2;obtain ⟨h1, h2⟩ := Jy e3;refine ⟨by simp [h1], fun x hx => ?_⟩
  rcases Mj.1 hx with rfl | hx
  ·omega
  ·have := h2 x hx; omega
theorem PC {L : List Nat} {s : ScN} (h : bC L = .ok s) : s.ls.length ≤ 6 ∧ (∀ l ∈ s.ls, l.length ≤ 60) ∧ s.pk.length ≤ 4000 := by
 unfold bC at h
 split at h
 ·rename_i x e
  cases h;unfold OB at e;obtain ⟨p, r1, e1, e⟩ := bS e;obtain ⟨k, r2, e2, e⟩ := bS e;obtain ⟨pk, r3, e3, e⟩ := bS e;cases e;unfold ul at e1;obtain ⟨c, r4, e4, e1⟩ := bS e1;obtain ⟨n, r5, e5, e1⟩ := bS e1;obtain ⟨ls, r6, e6, e1⟩ := bS e1;cases e1;have hc := aT.1 (F6 e4);unfold lk at hc;dsimp only at hc;have hn := j8 e5;have hk := j8 e2;have hm := Hm e3;obtain ⟨h1, h2⟩ := Jy e6;refine ⟨?_, h2, ?_⟩
  ·show ls.length ≤ 6
   omega
  ·show pk.length ≤ 4000
   omega
 ·cases h
 ·cases h
section
variable {P : SP} {v : Value} {L : List Nat}
theorem al5 {ps : List (Sv × List Cl)} {ll : List (List Cl)} (h : ps.map (·.2) = ll) (w : Value) : Ls (jx w ps) w ll := by
 have := af0 w ps;rw [h] at this;exact this
theorem HZ [r : Rd P v 1 aG L] (hL : ∀ y ∈ L, y < 256) (hlen : (L.length : Int) < 9223372036854775807) : Sp mA [v] P (fun _ : Unit => vb true) (fun _ => P) := by
 refine gb (Oa _) fun R H h => ?_;obtain ⟨rv, H2, e2, hq⟩ := fA (R := P * R) (v := v) (L := L) inferInstance hL (by omega) h;rw [e2, aB];unfold da at hq
 cases hd : bC L with
 | error e =>
  rw [hd] at hq;obtain ⟨rfl, h2⟩ := hq;refine aa (v := .agg zeroP.toArray) rfl ?_;refine aa (v := .slice none 0 0) rfl ?_;refine aa (v := vi e) rfl ?_;refine ce h2 fun b1 H3 h3 => ?_;refine cS h3 rfl rfl fun H4 h4 => ?_;obtain ⟨rv, H5, e5, hq⟩ := uE (P := blk b1 (.cells false zeroP) * (P * R)) (v := v) (full := L) hL hlen h4;rw [e5, aB];unfold da at hq;rw [hd] at hq;obtain ⟨rfl, h5⟩ := hq;refine aa (v := .agg zeroP.toArray) rfl ?_;refine aa (v := .slice none 0 0) rfl ?_;refine aa (v := vi e) rfl ?_;refine ce h5 fun b2 H6 h6 => ?_;refine cS h6 rfl rfl fun H7 h7 => ?_;refine aa (cM rfl) ?_;refine gs ?_;refine bx h7 ?_;refine gs ?_;refine bx h7 ?_;refine gs ?_
  haveI := Mm P
  haveI := ME P 1 bz
  refine ah h7 (wv (P := P) (v := .slice none 0 0) (v' := .slice none 0 0) (ll := []) ⟨0, 0, 0, 0, 0⟩ (by simp) (fun l hl => by cases hl)) fun _ H8 h8 => ?_;refine gs ?_;refine ah h8 (JL (P := P) (v := .slice none 0 0) (v' := .slice none 0 0) (l := []) (by simp)) fun _ H9 h9 => ?_;refine gs ?_;exact ay ⟨(), rfl, h9.to⟩
 | ok s =>
  rw [hd] at hq;obtain ⟨sv, ps, pv, rfl, hps, h2⟩ := hq;obtain ⟨f1, f2, f3⟩ := PC hd;refine aa (v := .agg (aK (lk s.c) sv.v).toArray) rfl ?_;refine aa (v := pv) rfl ?_;refine aa (v := vi 0) rfl ?_;refine ce h2 fun b1 H3 h3 => ?_;refine cS h3 rfl rfl fun H4 h4 => ?_;obtain ⟨rv, H5, e5, hq⟩ := uE (P := blk b1 (.cells false (aK (lk s.c) sv.v)) * (jx sv.v ps * (ts 1 bz pv (s.pk.map fun n : Nat => (n : Int)) * (P * R)))) (v := v) (full := L) hL hlen h4;rw [e5, aB];unfold da at hq;rw [hd] at hq;obtain ⟨sv', ps', pv', rfl, hps', h5⟩ := hq;refine aa (v := .agg (aK (lk s.c) sv'.v).toArray) rfl ?_;refine aa (v := pv') rfl ?_;refine aa (v := vi 0) rfl ?_;refine ce h5 fun b2 H6 h6 => ?_;refine cS h6 rfl rfl fun H7 h7 => ?_;refine aa (cM rfl) ?_;refine gs ?_;refine bx h7 ?_;refine gs ?_;refine bx h7 ?_;refine gs ?_
  haveI := al5 hps sv.v
  haveI := al5 hps' sv'.v
  refine ah h7 (wv (P := jx sv.v ps * jx sv'.v ps') (v := sv.v) (v' := sv'.v) (ll := Od s.ls) (lk s.c) (by simp only [Od, dN]; omega) (fun l hl => by
   obtain ⟨l0, h0, rfl⟩ := List.mem_map.1 hl;have := f2 l0 h0
   simp only [dN]; omega)) fun _ H8 h8 => ?_
  refine gs ?_;refine ah h8 (JL (P := ts 1 bz pv (s.pk.map fun n : Nat => (n : Int)) * ts 1 bz pv' (s.pk.map fun n : Nat => (n : Int))) (v := pv) (v' := pv') (l := s.pk.map fun n : Nat => (n : Int)) (by simp only [dN]; omega)) fun _ H9 h9 => ?_;refine gs ?_;exact ay ⟨(), rfl, h9.to⟩
end
theorem aqL {cl : TCls} (a : Int) : ∃ y, ag cl .quo (vi a) (vi 7) = some (vi y) := by
 simp only [ag, j9, if_true];rw [if_neg (by decide)];exact ⟨_, rfl⟩
section
variable {H0 : AH} {bv pv av v : Value} {B : List Nat} {pk at' : List Int} {ll : List (List Cl)}
theorem Py [ra : Rd (cq H0) av 1 bz at'] {s : Value} {C : List Nat} (hC : C.length ≤ 2000) (hC7 : 7 ≤ C.length) (hC8 : ∀ y ∈ C, y < 256) : ∀ (d i : Nat) (H : AH), i + d = 12 → ac (ts 1 aG s C * cq H0) H → wp (ej av (vb false) s (vi i) H) fun v' _ => v' = vb true := by
 intro d
 induction d with
 | zero =>
  intro i H hi h;refine ae (iX _ _ _ _ H) ?_;refine aS (s := av) (l := at') h ?_
  by_cases hl : (i : Int) < at'.length
  ·refine aa (aW hl) ?_
   refine gs ?_;refine aa (aU (by omega)) ?_;refine gs ?_;refine ae (d6 _ H) ?_;refine ae (eP _ H) ?_;exact ay rfl
  ·refine aa (aU hl) ?_
   refine gs ?_;refine ae (d6 _ H) ?_;refine ae (eP _ H) ?_;exact ay rfl
 | succ d ih =>
  intro i H hi h;refine ae (iX _ _ _ _ H) ?_;refine aS (s := av) (l := at') h ?_
  by_cases hl : (i : Int) < at'.length
  ·refine aa (aW hl) ?_
   refine gs ?_;refine aa (aW (by omega)) ?_;refine gs ?_;refine gg (s := s) (l := C) h ?_;refine gs ?_;refine aa (iQ (by omega)) ?_;refine gs ?_
   have hil : i < at'.length := by omega
   refine ae (qT _ _ _ _ H) ?_;refine bU (s := av) (l := at') h hil rfl ?_;refine aS (s := s) (l := C) h ?_;refine ah h (aN at'[i] C.length (by omega) (by omega)) fun _ H2 h2 => ?_;have h2' : ac (ts 1 aG s C * cq H0) H2 := h2.to;have hmod := bV (v := at'[i]) (n := C.length) (by omega);obtain ⟨j, hj, hjl⟩ : ∃ j : Nat, bD at'[i] C.length = j ∧ j < C.length := ⟨(bD at'[i] C.length).toNat, by omega, by omega⟩;rw [hj];refine vn (m := C) h2' (by omega) fun v2 H3 h3 => ?_;refine bU (s := av) (l := at') h3 hil rfl ?_;obtain ⟨y, hy⟩ := aqL (cl := .other) at'[i];refine aa hy ?_;refine ah h3 (aN y 256 (by omega) (by omega)) fun _ H4 h4 => ?_;have hm2 := bV (v := y) (n := 256) (by omega);obtain ⟨x, hx, hx2⟩ : ∃ x : Nat, bD y 256 = x ∧ x < 256 := ⟨(bD y 256).toNat, by omega, by omega⟩;rw [hx];refine aa (zk (by omega)) ?_;have h4' : ac (ts 1 aG v2 C * (ts 1 aG s C * cq H0)) H4 := h4.to;refine DS (s := v2) (l := C) (i := j) (x : Nat) h4' hjl (.inl ⟨rfl, rfl⟩) rfl (by omega) rfl rfl fun H5 h5 => ?_
   refine ah h5 (HZ (P := ts 1 aG v2 (C.set j x)) (v := v2) (L := C.set j x) (fun z hz => by
    rcases List.mem_or_eq_of_mem_set hz with hz | rfl
    ·exact hC8 z hz
    ·exact hx2) (by rw [Ec]; omega)) fun _ H6 h6 => ?_
   refine gs ?_;refine ae (qU _ _ _ _ H6) ?_;refine aa (aq (by omega) (by omega)) ?_;exact ih (i + 1) H6 (by omega) h6.to
  ·refine aa (aU hl) ?_
   refine gs ?_;refine ae (d6 _ H) ?_;refine ae (eP _ H) ?_;exact ay rfl
theorem Px (hA : Sp bB [] (cq H0) (fun _ : Unit => vb true) (fun _ => cq H0)) [rb : Rd (cq H0) bv 1 aG B] [L : Ls (cq H0) v ll] [r : Rd (cq H0) pv 1 bz pk] [ra : Rd (cq H0) av 1 bz at'] (hn : (ll.length : Int) < 9223372036854775808) (hb : ∀ l ∈ ll, l.length ≤ 140737488355328) (hB : ∀ y ∈ B, y < 256) (hBl : (B.length : Int) < 9223372036854775807) (c : Cfg) {b : Nat} {s : Value} {T : List Nat} (hT : ∀ y ∈ T, y < 256) (hTl : T.length ≤ 60) {H : AH} (h : ac (ts 1 aG s T * (blk b (.cells false (aK c v)) * cq H0)) H) :
 wp (gt bv pv av (vp b) (vb false) s H) fun v' _ => v' = vb true := by
 refine ae (qQ _ _ _ _ _ _ H) ?_;refine ah h hA fun _ H1 h1 => ?_;refine gs ?_;rw [Bool.not_true];refine gs ?_;refine ah h1 (HZ (P := cq H0) (v := bv) (L := B) hB hBl) fun _ H2 h2 => ?_;refine gs ?_;rw [Bool.not_true];refine gs ?_;refine ah h2 (HZ (P := ts 1 aG s T) (v := s) (L := T) hT (by omega)) fun _ H3 h3 => ?_;refine gs ?_;rw [Bool.not_true];refine gs ?_;refine bx h3 ?_;refine ah h3 (oD (P := cq H0) (v := v) (ll := ll) c 1 hn (fun l hl => by have := hb l hl; omega)) fun y H4 h4 => ?_;obtain ⟨⟨sh, sl, wk, wd, un⟩, qv⟩ := y;unfold yZ at h4;rw [aC] at h4;obtain ⟨ps, h4b⟩ := ac.ex.1 h4
 clear h4
 rw [aC, ac.pu] at h4b;obtain ⟨⟨hr, hpl, hsm, hok⟩, h4c⟩ := h4b;dsimp only at hr hpl h4c;dsimp only;have hcc := aT.1 hr;dsimp only at hcc;refine ah h4c (oE (P := cq H0) (pv := pv) (pk := pk) 1) fun s2 H5 h5 => ?_;have ho := Mr (pk := pk) hr hpl hsm (hok (by decide));have h5' : ac (jx qv.v ps * (ts 1 bz s2 ((pk.take 60).map (bT 1)) * cq H0)) H5 := h5.to
 refine ah h5' (HD (P := jx qv.v ps * (ts 1 bz s2 ((pk.take 60).map (bT 1)) * cq H0)) (v := qv.v) (pv := s2) (ll := ps.map fun x : Sv × List Cl => x.2) (pk := (pk.take 60).map (bT 1)) ⟨sh, sl, wk, wd, un⟩ (fun l hl => by
  obtain ⟨i, hi, rfl⟩ := List.getElem_of_mem hl;have := gM hi
  omega)) fun s1 H6 h6 => ?_
 refine aa (v := s1) rfl ?_;refine aa (v := vi (if m0 ⟨sh, sl, wk, wd, un⟩ (ps.map fun x : Sv × List Cl => x.2) ((pk.take 60).map (bT 1)) then 0 else 1)) rfl ?_;unfold BL at h6;rw [ho, if_pos rfl] at h6;have hlen := ye ho (by simp only [dN, List.length_take]; omega);have hlt := vB ⟨sh, sl, wk, wd, un⟩ (ps.map fun x : Sv × List Cl => x.2) ((pk.take 60).map (bT 1))
 have hpos : 7 ≤ (bP ⟨sh, sl, wk, wd, un⟩ (ps.map fun x : Sv × List Cl => x.2) ((pk.take 60).map (bT 1))).length := by rw [fU]; exact Gj (Mu ho)
 refine ae (qR _ _ _ H6) ?_;refine ae (qS _ _ _ _ H6) ?_;exact Py (H0 := H0) (at' := at') hlen hpos hlt 12 0 H6 (by omega) h6.to
theorem YF (hA : Sp bB [] (cq H0) (fun _ : Unit => vb true) (fun _ => cq H0)) [rb : Rd (cq H0) bv 1 aG B] [L : Ls (cq H0) v ll] [r : Rd (cq H0) pv 1 bz pk] [ra : Rd (cq H0) av 1 bz at'] (hn : (ll.length : Int) < 9223372036854775808) (hb : ∀ l ∈ ll, l.length ≤ 140737488355328) (hB : ∀ y ∈ B, y < 256) (hBl : (B.length : Int) < 9223372036854775807) (c : Cfg) {b : Nat} : ∀ (d i : Nat) (s : Value) (T : List Nat) (H : AH), i + d = 60 → T.length = i → (∀ y ∈ T, y < 256) → ac (ts 1 aG s T * (blk b (.cells false (aK c v)) * cq H0)) H →
 wp (dR bv pv av (vp b) (vb false) s (vi i) H) fun v' _ => v' = vb true := by
 intro d
 induction d with
 | zero =>
  intro i s T H hi hl hT h;refine ae (ii _ _ _ _ _ _ _ H) ?_;refine aS (s := bv) (l := B) h ?_
  by_cases hc : (i : Int) < B.length
  ·refine aa (aW hc) ?_
   refine gs ?_;refine aa (aU (by omega)) ?_;refine gs ?_;refine ae (dM _ _ _ _ _ _ H) ?_;exact Px hA (ll := ll) (pk := pk) (at' := at') (B := B) hn hb hB hBl c hT (by omega) h
  ·refine aa (aU hc) ?_
   refine gs ?_;refine ae (dM _ _ _ _ _ _ H) ?_;exact Px hA (ll := ll) (pk := pk) (at' := at') (B := B) hn hb hB hBl c hT (by omega) h
 | succ d ih =>
  intro i s T H hi hl hT h;refine ae (ii _ _ _ _ _ _ _ H) ?_;refine aS (s := bv) (l := B) h ?_
  by_cases hc : (i : Int) < B.length
  ·refine aa (aW hc) ?_
   refine gs ?_;refine aa (aW (by omega)) ?_;refine gs ?_;refine ae (pD _ _ _ _ _ _ _ H) ?_
   have hil : i < B.length := by omega
   refine bU (s := bv) (l := B) h hil rfl ?_;have hx := hB B[i] (tY hil)
   generalize B[i] = x at hx
   have k56 : ∀ x : Nat, x < 256 → wp (dT bv pv av (vp b) (vb false) s (vi i) (.int .u8 (x : Int)) H) fun v' _ => v' = vb true := by
    intro x hx;refine ae (pH _ _ _ _ _ _ _ _ H) ?_;refine mZ (s := s) (l := T) (n := x) h (by omega) fun v2 H2 h2 => ?_;refine ae (pE _ _ _ _ _ _ _ H2) ?_;refine aa (aq (by omega) (by omega)) ?_;exact ih (i + 1) v2 (T ++ [x]) H2 (by omega) (by simp; omega) (cP hT (t4 hx)) h2.to
   have k55 : ∀ x : Nat, x < 256 → wp (dS bv pv av (vp b) (vb false) s (vi i) (.int .u8 (x : Int)) H) fun v' _ => v' = vb true := by
    intro x hx;refine ae (pG _ _ _ _ _ _ _ _ H) ?_
    by_cases h7 : (i : Int) < 7
    ·refine aa (aW h7) ?_
     refine gs ?_;refine aa (aoJ (a := x) (b := 5) (by omega)) ?_;exact k56 (x % 5) (by omega)
    ·refine aa (aU h7) ?_
     refine gs ?_;exact k56 x hx
   refine ae (pF _ _ _ _ _ _ _ _ H) ?_
   by_cases h128 : (128 : Int) ≤ x
   ·refine aa (ln h128) ?_
    refine gs ?_;refine aa (oV (a := i) (b := 4) (by omega)) ?_;refine gs ?_
    by_cases h4 : (0 : Int) < ((i % 4 : Nat) : Int)
    ·refine aa (iQ h4) ?_
     refine gs ?_;refine aa (aoJ (a := x) (b := 8) (by omega)) ?_;exact k55 (x % 8) (by omega)
    ·refine aa (iP h4) ?_
     refine gs ?_;exact k55 x hx
   ·refine aa (lm h128) ?_
    refine gs ?_;exact k55 x hx
  ·refine aa (aU hc) ?_
   refine gs ?_;refine ae (dM _ _ _ _ _ _ H) ?_;exact Px hA (ll := ll) (pk := pk) (at' := at') (B := B) hn hb hB hBl c hT (by omega) h
theorem MH (hA : Sp bB [] (cq H0) (fun _ : Unit => vb true) (fun _ => cq H0)) [rb : Rd (cq H0) bv 1 aG B] [L : Ls (cq H0) v ll] [r : Rd (cq H0) pv 1 bz pk] [ra : Rd (cq H0) av 1 bz at'] (hn : (ll.length : Int) < 9223372036854775808) (hb : ∀ l ∈ ll, l.length ≤ 140737488355328) (hB : ∀ y ∈ B, y < 256) (hBl : (B.length : Int) < 9223372036854775807) (c : Cfg) :
 ∃ H', FF eS [bv, .agg (aK c v).toArray, pv, av] H0 = some (vb true, H') := by
 have key : wp (FF eS [bv, .agg (aK c v).toArray, pv, av] H0) fun v' _ => v' = vb true := by
  refine eD (fun r => wy _ _ _ _ H0) ?_
  have hsv : ∃ s : Sv, v = s.v := by
   obtain ⟨us, _, r1, _⟩ := L.out;obtain ⟨_, ⟨a, c, rfl, _⟩ | ⟨b, o, ro, row, rfl, _⟩⟩ := r1.rd (jW H0)
   ·exact ⟨⟨_, _, _⟩, rfl⟩
   ·exact ⟨⟨_, _, _⟩, rfl⟩
  obtain ⟨s, rfl⟩ := hsv;refine bH (jW H0) fun b H1 h1 => ?_;refine ae (qP _ _ _ _ _ _ H1) ?_;refine ae (pC _ _ _ _ _ _ _ H1) ?_;refine YF hA (v := s.v) (ll := ll) (pk := pk) (at' := at') (B := B) hn hb hB hBl c 60 0 (.slice none 0 0) [] H1 (by omega) rfl (fun y hy => by cases hy) ?_;exact fR 1 aG h1
 obtain ⟨v', H', e, rfl⟩ := key;exact ⟨H', e⟩
end
theorem scriptDecode_args {H0 : AH} (hT : Tab4 H0) {bs : List Int} {bv : Value} (hbs : Abs H0 (.slice (.int .u8)) bs [bv]) {xp : PlanTy.I} {cp : List Value} (hp : Abs H0 PlanTy xp cp) (hs : oR PlanTy xp) {pk : List Int} {pv : Value} (hpk : Abs H0 (.slice (.int .i64)) pk [pv]) {ak : List Int} {av : Value} (hak : Abs H0 (.slice (.int .i64)) ak [av]) (hbz : oR (.slice (.int .u8)) bs) :
 ∃ H', FF eS [bv, .agg cp.toArray, pv, av] H0 = some (vb true, H') := by
 obtain ⟨c, v, ll, rfl, hl, h1, h2⟩ := Cx hp hs
 haveI := hl
 haveI := vx hpk
 haveI := vx hak
 obtain ⟨rb, hb1⟩ := FE hbs
 haveI := rb
 have hr : reachBytes = 140737488351232 := by decide
 have hb2 := hbz.1;exact MH (ll := ll) (pk := pk) (at' := ak) (B := bs.map Int.toNat) (l7 hT) h1 h2 hb1 (by simp only [dN]; omega) c
end Go.Proofs.YthagelbepgcolaaGreatDoor.Gst
