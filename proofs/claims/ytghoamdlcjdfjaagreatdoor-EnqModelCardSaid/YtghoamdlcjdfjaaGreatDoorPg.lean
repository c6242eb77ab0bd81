/- Several texts in one. -/
import Derived.Test.YtghoamdlcjdfjaaGreatDoorPf
namespace Go.Proofs.YtghoamdlcjdfjaaGreatDoor.Gst
open Go Go.RowKit
set_option linter.unusedSimpArgs false
set_option linter.unusedVariables false
set_option linter.unusedSectionVars false
set_option maxHeartbeats 1000000
set_option synthInstance.maxSize 2000
set_option synthInstance.maxHeartbeats 400000
def Ep (c : eg) : Nat → List Mf
 | 0 => []
 | n + 1 => (tH c (Ep c n) ⟨1, n, 1 + n, 2 + (n : Int).tmod 2⟩).1
theorem jt.new (c : eg) : jt (aN.new c) [] :=
 ⟨List.Pairwise.nil, (fun g h => by cases h), (fun g h => by cases h), (fun g h => by cases h), (fun s i h => absurd rfl h), fun _ => rfl⟩
section
variable {c : eg} {k : Nat} (hk : c.sh = (k : Int)) (hk1 : 1 ≤ k)
include hk hk1
omit hk1 in
theorem Qe (n : Nat) : (n : Int).tmod c.sh = ((n % k : Nat) : Int) := by rw [hk]; exact (Int.ofNat_tmod n k).symm
omit hk1 in
theorem KB (n : Nat) : (n : Int).tdiv c.sh = ((n / k : Nat) : Int) := by rw [hk]; exact (Int.ofNat_tdiv n k).symm
theorem O5 (hc : bZ c = true) : ∀ n, n ≤ 16 → (∀ s i : Int, (aN.made c n).μ.V (10, s, i) ≠ 0 → ∃ f : Nat, f < n ∧ s = ((f % k : Nat) : Int) ∧ i = ((f / k : Nat) : Int)) ∧ (∀ f : Nat, f < n → ((f / k : Nat) : Int) < c.sl → (aN.made c n).μ.V (10, ((f % k : Nat) : Int), ((f / k : Nat) : Int)) ≠ 0) := by
 intro n
 induction n with
 | zero => exact fun _ => ⟨fun s i h => absurd rfl h, fun f hf => by omega⟩
 | succ n ih =>
  intro hn;obtain ⟨h1, h2⟩ := ih (by omega);have hcc := (vl c n).1;unfold aN.made;rw [KB hk]
  split
  ·rename_i hlt
   have V : ∀ l, ((aN.made c n).lay n (1 + n) (2 + (n : Int).tmod 2)).μ.V l = upd (aN.made c n).μ.V (10, ((n % k : Nat) : Int), ((n / k : Nat) : Int)) (cy n (aN.made c n).obs.length) l := fun l => by
    show upd (aN.made c n).μ.V (10, (n : Int).tmod (aN.made c n).c.sh, (n : Int).tdiv (aN.made c n).c.sh) (cy n (aN.made c n).obs.length) l = _;rw [hcc, Qe hk, KB hk]
   have hs : cy n (aN.made c n).obs.length ≠ 0 := by unfold cy; omega
   refine ⟨fun s i h => ?_, fun f hf hfl => ?_⟩
   ·rw [V] at h
    by_cases e : s = ((n % k : Nat) : Int) ∧ i = ((n / k : Nat) : Int)
    ·exact ⟨n, by omega, e.1, e.2⟩
    ·rw [upd_ne (fun q => e (by simpa using q))] at h
     obtain ⟨f, q1, q2, q3⟩ := h1 s i h;exact ⟨f, by omega, q2, q3⟩
   ·rw [V]
    by_cases e : ((10 : Int), ((f % k : Nat) : Int), ((f / k : Nat) : Int)) = (10, ((n % k : Nat) : Int), ((n / k : Nat) : Int))
    ·rw [e, oX]; exact hs
    ·rw [upd_ne e]
     have hfn : f < n := by
      rcases Nat.lt_or_ge f n with h | h
      ·exact h
      ·exact absurd (by rw [show f = n from by omega]) e
     exact h2 f hfn hfl
  ·rename_i hlt
   refine ⟨fun s i h => ?_, fun f hf hfl => ?_⟩
   ·obtain ⟨f, q1, q2, q3⟩ := h1 s i h
    exact ⟨f, by omega, q2, q3⟩
   ·by_cases e : f = n
    ·subst e; exact absurd hfl hlt
    ·exact h2 f (by omega) hfl
end
theorem Mg (c : eg) (hc : bZ c = true) : ∀ n, n ≤ 5 → ∃ M, jt (aN.made c n) M ∧ (M.map fun g => g.1) = Ep c n ∧ ∀ g ∈ M, g.1.id < n := by
 have hsl := bo.1 hc;obtain ⟨k, hk⟩ : ∃ k : Nat, c.sh = (k : Int) := ⟨c.sh.toNat, by omega⟩
 have hk1 : 1 ≤ k := by omega
 intro n
 induction n with
 | zero => exact fun _ => ⟨[], jt.new c, rfl, fun g h => by cases h⟩
 | succ n ih =>
  intro hn;obtain ⟨M, R, hM, hid⟩ := ih (by omega);have S := (so c hc n (by omega)).si;have Q := QS.made c hc n (by omega);have hcc := (vl c n).1;have hob := (vl c n).2.2;obtain ⟨s1, s2⟩ := O5 hk hk1 hc n (by omega);have t2 : 0 ≤ (n : Int).tmod 2 ∧ (n : Int).tmod 2 < 2 := ⟨Int.tmod_nonneg _ (by omega), Int.tmod_lt_of_pos _ (by omega)⟩
  have hr : dM ⟨1, n, 1 + n, 2 + (n : Int).tmod 2⟩ = none := by
   unfold dM;rw [if_pos rfl, if_neg (by unfold lN; dsimp only; omega)];dsimp only;rw [if_neg (by omega), if_neg (by omega)]
  have hg : gD n (Ep c n) = none := by
   cases e : gD n (Ep c n) with
   | none => rfl
   | some a =>
    obtain ⟨q1, q2⟩ := mo e;rw [← hM, List.mem_map] at q1;obtain ⟨g, q3, rfl⟩ := q1;have := hid g q3;omega
  have hsd : nH (aN.made c n).c n = ((n % k : Nat) : Int) := by
   rw [hcc, P5 hc (by omega), Qe hk]
  obtain ⟨C1, C2⟩ := R.cnt (by rw [hcc]; exact hc) S (by omega) (f := (n : Int)) (by omega);rw [hsd, hcc, hM] at C1 C2;have eD : Ep c (n + 1) = (tH c (Ep c n) ⟨1, n, 1 + n, 2 + (n : Int).tmod 2⟩).1 := rfl;rw [eD, Eo rfl, hr];dsimp only;rw [hg];dsimp only;unfold aN.made;rw [KB hk]
  by_cases hlt : ((n / k : Nat) : Int) < c.sl
  ·rw [if_pos hlt]
   have h0 : (aN.made c n).μ.V (10, ((n % k : Nat) : Int), ((n / k : Nat) : Int)) = 0 := by
    by_cases h : (aN.made c n).μ.V (10, ((n % k : Nat) : Int), ((n / k : Nat) : Int)) = 0
    ·exact h
    ·obtain ⟨f, q1, q2, q3⟩ := s1 _ _ h
     have e1 : n % k = f % k := by omega
     have e2 : n / k = f / k := by omega
     have a1 := Nat.div_add_mod n k;have a2 := Nat.div_add_mod f k;rw [e1, e2] at a1;omega
   have hc2 := C2 ⟨n / k, by omega, h0⟩;rw [if_neg (by omega)]
   have nw : Newly (aN.made c n) ((aN.made c n).lay n (1 + n) (2 + (n : Int).tmod 2)) (nH (aN.made c n).c n) (n / k) ⟨1, n, 1 + n, 2 + (n : Int).tmod 2⟩ := by
    refine ⟨rfl, ?_, rfl⟩;show upd (aN.made c n).μ.V (10, (n : Int).tmod (aN.made c n).c.sh, (n : Int).tdiv (aN.made c n).c.sh) (cy n (aN.made c n).obs.length) = _;rw [hsd, hcc, Qe hk, KB hk]
   refine ⟨_, R.newly (m := n / k) (x := ⟨1, n, 1 + n, 2 + (n : Int).tmod 2⟩) Q S (by omega) (by show 0 ≤ (n : Int) ∧ (n : Int) ≤ 1048576; omega) (fun g hg => by have := hid g hg; show g.1.id ≠ (n : Int); omega) (by rw [hcc]; omega) (by rw [hsd]; exact h0) nw, ?_, fun g hg => ?_⟩
   ·rw [Mq, hM, hcc]
   ·rcases mZ.1 hg with rfl | hg
    ·show (n : Int) < _; omega
    ·have := hid g hg; omega
  ·rw [if_neg hlt]
   have hc1 := C1 fun i hi => by
    have hik : i + 1 ≤ n / k := by omega
    have d := Nat.div_add_mod n k;have hmul : k * (i + 1) ≤ k * (n / k) := Nat.mul_le_mul_left k hik;rw [Nat.mul_add, Nat.mul_one] at hmul;have hml := Nat.mod_lt n (show k > 0 by omega)
    have f1 : (k * i + n % k) % k = n % k := by rw [Nat.mul_add_mod, Nat.mod_mod]
    have f2 : (k * i + n % k) / k = i := by rw [Nat.mul_add_div (by omega), Nat.div_eq_of_lt hml, Nat.add_zero]
    have := s2 (k * i + n % k) (by omega) (by rw [f2]; omega);rw [f1, f2] at this;exact this
   rw [if_pos hc1];exact ⟨M, R, hM, fun g hg => by have := hid g hg; omega⟩
abbrev Qf := Nat × Mf
abbrev l4 (q : Qf) : List Value := [vp q.1]
instance : Enc l4 1 := ⟨fun _ => rfl, fun _ => rfl, by omega⟩
abbrev mfC (a : Mf) (lv : Value) : List Value := [vi a.id, vi a.most, vu a.r, lv, vw 0, vw 0]
def O9 (q : Qf) : SP := ex fun lv : Value => blk q.1 (.cells false (mfC q.2 lv)) * ts 3 Pk.cells lv q.2.L
def gY : List Qf → SP
 | [] => emp
 | q :: l => O9 q * gY l
theorem xA : ∀ A B : List Qf, gY (A ++ B) = gY A * gY B := by
 intro A
 induction A with
 | nil => intro B; show gY B = emp * gY B; rw [kR]
 | cons a A ih => intro B; show O9 a * gY (A ++ B) = O9 a * gY A * gY B; rw [ih, ai]
theorem Ez : ∀ {Q : List Qf} {i : Nat} (h : i < Q.length), ∃ R, gY Q = O9 Q[i] * R ∧ ∀ q, gY (Q.set i q) = O9 q * R := by
 intro Q
 induction Q with
 | nil => intro i h; simp at h
 | cons q Q ih =>
  intro i h
  cases i with
  | zero => exact ⟨gY Q, rfl, fun q => rfl⟩
  | succ i =>
   obtain ⟨R, e1, e2⟩ := ih (i := i) (by simpa using h);refine ⟨O9 q * R, ?_, fun q' => ?_⟩
   ·show O9 q * gY Q = _
    rw [e1, cr]; rfl
   ·show O9 q * gY (Q.set i q') = _
    rw [e2, cr]
theorem Cs {Q : List Qf} {R : SP} {H : AH} {i : Nat} (hi : i < Q.length) (h : ae (gY Q * R) H) :
 ∃ (lv : Value) (Z : SP), ae (blk Q[i].1 (.cells false (mfC Q[i].2 lv)) * (ts 3 Pk.cells lv Q[i].2.L * (Z * R))) H ∧
  ∀ {R' : SP} {H' : AH} (a : Mf) (lv' : Value), ae (blk Q[i].1 (.cells false (mfC a lv')) * (ts 3 Pk.cells lv' a.L * (Z * R'))) H' → ae (gY (Q.set i (Q[i].1, a)) * R') H' := by
 obtain ⟨Z, e1, e2⟩ := Ez hi;rw [e1, ai] at h;obtain ⟨lv, h1⟩ := ae.ex.1 (show ae ((ex fun lv : Value => blk Q[i].1 (.cells false (mfC Q[i].2 lv)) * ts 3 Pk.cells lv Q[i].2.L) * (Z * R)) H from h);refine ⟨lv, Z, by rw [← ai]; exact h1, fun {R' H'} a lv' h' => ?_⟩;rw [e2, ai];show ae ((ex fun lv : Value => blk Q[i].1 (.cells false (mfC a lv)) * ts 3 Pk.cells lv a.L) * (Z * R')) H';exact ae.ex.2 ⟨lv', by rw [ai]; exact h'⟩
abbrev MS (s : Nat) (fv : Value) (Q : List Qf) : SP := blk s (.cells false [fv, vw 0, vw 0]) * (ts 1 l4 fv Q * gY Q)
abbrev mdB (m s : Nat) (fv : Value) (c : eg) (Q : List Qf) : SP := blk m (.cells false [vi c.sh, vi c.sl, vi c.wk, vi c.wd, vu c.un, vp s, vi 0]) * MS s fv Q
def O7 (m : Nat) (c : eg) (M : List Mf) : SP := ex fun g : Nat × Value × List Qf => pu (g.2.2.map (fun q => q.2) = M) * mdB m g.1 g.2.1 c g.2.2
theorem Eu {m : Nat} {c : eg} {M : List Mf} {R : SP} {H : AH} (h : ae (O7 m c M * R) H) : ∃ (s : Nat) (fv : Value) (Q : List Qf), Q.map (fun q => q.2) = M ∧ ae (mdB m s fv c Q * R) H := by
 obtain ⟨⟨s, fv, Q⟩, h1⟩ := ae.ex.1 h;rw [ai, ae.pu] at h1;exact ⟨s, fv, Q, h1.1, h1.2⟩
theorem Hm {m : Nat} {c : eg} {M : List Mf} {R : SP} {H : AH} (s : Nat) (fv : Value) (Q : List Qf) (e : Q.map (fun q => q.2) = M) (h : ae (mdB m s fv c Q * R) H) : ae (O7 m c M * R) H :=
 ae.ex.2 ⟨(s, fv, Q), by rw [ai]; exact ae.pu.2 ⟨e, h⟩⟩
def AtR (f : Int) (Q : List Qf) (n : Int) : Prop := n = -1 ∧ (∀ q ∈ Q, q.2.id ≠ f) ∨ ∃ (i : Nat) (h : i < Q.length), n = (i : Int) ∧ Q[i].2.id = f
theorem Ks (s : Nat) (fv : Value) (Q : List Qf) (f : Int) (hl : Q.length < 100000) : Sp ik [vp s, vi f] (MS s fv Q) (fun n : Int => vi n) (fun n => pu (AtR f Q n) * MS s fv Q) := by
 refine br (Gn _ _) fun R H h => ?_;refine ah (zH ..) ?_;refine ah (zJ ..) ?_
 have loop : ∀ (d i : Nat), i + d = Q.length → (∀ (k : Nat) (h : k < Q.length), k < i → Q[k].2.id ≠ f) → wp (kZ (vp s) (vi f) (vi 0) (vi (i : Int)) H) fun v' H' => ∃ n : Int, v' = vi n ∧ ae (pu (AtR f Q n) * MS s fv Q * R) H' := by
  intro d
  induction d with
  | zero =>
   intro i hi hm;refine ah (pH ..) ?_;refine aj h ac rfl ?_;refine gi (s := fv) (l := Q) h ?_;refine aa (ch (by omega)) ?_;refine gs ?_;refine ah (vJ ..) ?_;refine ah (zI ..) ?_;refine aq ⟨-1, rfl, ?_⟩;rw [ai];refine ae.pu.2 ⟨.inl ⟨rfl, fun q hq => ?_⟩, h⟩;obtain ⟨k, hk, e⟩ := List.getElem_of_mem hq;rw [← e];exact hm k hk (by omega)
  | succ d ih =>
   intro i hi hm
   have hil : i < Q.length := by omega
   refine ah (pH ..) ?_;refine aj h ac rfl ?_;refine gi (s := fv) (l := Q) h ?_;refine aa (cK (by omega)) ?_;refine gs ?_;refine ah (zK ..) ?_;refine aj h ac rfl ?_;refine qv (s := fv) (l := Q) (v := vp Q[i].1) h hil rfl ?_;have h0 : ae (gY Q * (blk s (.cells false [fv, vw 0, vw 0]) * (ts 1 l4 fv Q * R))) H := h.to;obtain ⟨lv, Z, h1, _⟩ := Cs hil h0;refine aj h1 ac rfl ?_
   by_cases hf : Q[i].2.id = f
   ·refine aa (bk hf) ?_
    refine gs ?_;refine aq ⟨(i : Int), rfl, ?_⟩;rw [ai];exact ae.pu.2 ⟨.inr ⟨i, hil, rfl, hf⟩, h⟩
   ·refine aa (aG hf) ?_
    refine gs ?_;refine ah (zL ..) ?_;refine aa (aM (by omega) (by omega)) ?_;rw [show ((i : Nat) : Int) + 1 = ((i + 1 : Nat) : Int) from by omega];refine ih (i + 1) (by omega) fun k hk hki => ?_
    by_cases e : k = i
    ·subst e; exact hf
    ·exact hm k hk (by omega)
 exact loop Q.length 0 (by omega) fun k _ hk => by omega
theorem aaZ (id most : Int) (r : Nat) : Sp oN [vi id, vu r, vi most] emp (fun b : Nat => vp b) (fun b => O9 (b, ⟨id, r, bP most, []⟩)) := by
 obtain ⟨q1, q2, q3⟩ := mp most;refine br (EQ _ _ _) fun R H h => ?_;refine aa (lx) ?_;refine aa (ly) ?_;rw [← q3];refine iz ?_;refine aS h fun b H2 h2 => ?_;refine aq ⟨b, rfl, ?_⟩;have h3 := fX 3 Pk.cells h2;exact ae.ex.2 ⟨.slice none 0 0, h3.to⟩
theorem XO (e : Int) : Sp jf [vi e] emp (fun _ : Unit => .agg (ef e).toArray) (fun _ => emp) := by
 refine br (MC _) fun R H h => ?_;refine bf h fun b H1 h1 => ?_;refine iz ?_;refine cX h1 rfl rfl fun H2 h2 => ?_;refine aJ h2 ?_;exact aq ⟨(), rfl, h2.to⟩
theorem af9 {n : Mf} : ∀ {M : List Mf} {k : Nat}, k ≤ M.length → (∀ (i : Nat) (h : i < M.length), i < k → M[i].id < n.id) → (∀ h : k < M.length, ¬ M[k].id < n.id) → pz n M = M.take k ++ n :: M.drop k := by
 intro M
 induction M with
 | nil =>
  intro k hk _ _
  obtain rfl : k = 0 := by simpa using hk
  rfl
 | cons a l ih =>
  intro k hk h1 h2
  cases k with
  | zero =>
   have : ¬ a.id < n.id := h2 (by simp);show (if a.id < n.id then a :: pz n l else n :: a :: l) = _;rw [if_neg this]
   rfl
  | succ k =>
   have : a.id < n.id := h1 0 (by simp) (by omega);show (if a.id < n.id then a :: pz n l else n :: a :: l) = _;rw [if_pos this, ih (k := k) (by simpa using hk) (fun i h hi => h1 (i + 1) (by simpa using h) (by omega)) (fun h => h2 (by simpa using h))]
   rfl
def FY (M : List Mf) : Prop := M.Pairwise fun a b => a.id < b.id
theorem JA {f : Int} : ∀ {M : List Mf}, (∀ a ∈ M, a.id ≠ f) → gD f M = none := by
 intro M
 induction M with
 | nil => intro _; rfl
 | cons a l ih =>
  intro h;unfold gD;rw [if_neg (h a (List.mem_cons_self ..))];exact ih fun b hb => h b (List.mem_cons_of_mem _ hb)
theorem acG {M : List Mf} (h : FY M) {i j : Nat} (hi : i < M.length) (hj : j < M.length) (e : M[i].id = M[j].id) : i = j := by
 have h' := List.pairwise_iff_getElem.1 h
 rcases Nat.lt_trichotomy i j with q | q | q
 ·have := h' i j hi hj q; omega
 ·exact q
 ·have := h' j i hj hi q; omega
theorem Jz {M : List Mf} (h : FY M) {i : Nat} (hi : i < M.length) {f : Int} (e : M[i].id = f) : gD f M = some M[i] := by
 cases q : gD f M with
 | none => exact absurd e (zn q _ (Mb hi))
 | some a =>
  obtain ⟨q1, q2⟩ := mo q;obtain ⟨j, hj, rfl⟩ := List.getElem_of_mem q1;have := acG h hi hj (e.trans q2.symm);subst this
  rfl
theorem af8 : ∀ {M : List Mf}, FY M → ∀ {i : Nat} (hi : i < M.length), O3 M[i].id M = M.take i ++ M.drop (i + 1) := by
 intro M
 induction M with
 | nil => intro _ i hi; simp at hi
 | cons a l ih =>
  intro h i hi;have h' := List.pairwise_cons.1 h
  cases i with
  | zero =>
   show (a :: l).filter _ = l;rw [List.filter_cons_of_neg (by simp)];apply List.filter_eq_self.2;intro b hb;have := h'.1 b hb;apply dj;show b.id ≠ a.id;omega
  | succ i =>
   have hi' : i < l.length := by simpa using hi
   have := h'.1 l[i] (Mb hi');show (a :: l).filter (fun b => decide (b.id ≠ l[i].id)) = a :: (l.take i ++ l.drop (i + 1));rw [List.filter_cons, if_pos (dj (show a.id ≠ l[i].id by omega)), ← ih h'.2 hi']
   rfl
theorem agA {M : List Mf} (h : FY M) {i : Nat} (hi : i < M.length) (g : Mf → Mf) : Gc M[i].id g M = M.set i (g M[i]) := by
 apply List.ext_getElem?;intro j;unfold Gc;rw [Bp]
 by_cases e : i = j
 ·subst e
  rw [List.getElem?_set_self hi, cS hi];show some (if M[i].id = M[i].id then _ else _) = _;rw [if_pos rfl]
 ·rw [List.getElem?_set_ne e]
  cases q : M[j]? with
  | none => rfl
  | some a =>
   obtain ⟨hj, rfl⟩ := Gb.1 q;show some (if M[j].id = M[i].id then _ else M[j]) = some M[j];rw [if_neg (fun q => e (acG h hi hj q.symm))]
theorem LY (Q : List Qf) : Q.flatMap l4 = Q.map fun q => vp q.1 := by
 induction Q with
 | nil => rfl
 | cons q Q ih => rw [List.flatMap_cons, List.map_cons, ih]; rfl
theorem aj9 {Q Q' : List Qf} (h : (Q.map fun q => q.1) = Q'.map fun q => q.1) (fv : Value) : ts 1 l4 fv Q = ts 1 l4 fv Q' := by
 have hl : Q.length = Q'.length := by have := congrArg List.length h; simpa using this
 have hf : Q.flatMap l4 = Q'.flatMap l4 := by
  rw [LY, LY];have := congrArg (List.map fun b : Nat => vp b) h;rw [List.map_map, List.map_map] at this;exact this
 unfold ts;rw [hl, hf]
theorem agN (Q : List Qf) (i : Nat) (h : i < Q.length) (a : Mf) : ((Q.set i (Q[i].1, a)).map fun q => q.1) = Q.map fun q => q.1 := by
 rw [List.map_set];apply List.ext_getElem
 ·simp
 ·intro j h1 h2
  rw [List.getElem_set]
  split
  ·rename_i e; subst e; simp
  ·rfl
theorem SH (Q : List Qf) (k : Nat) : gY Q = gY (Q.take k) * gY (Q.drop k) := by rw [← xA, List.take_append_drop]
theorem agO (s : Nat) (fv : Value) (Q : List Qf) (id most : Int) (r : Nat) (hn : ∀ q ∈ Q, q.2.id ≠ id) (hl : Q.length < 1000) :
 Sp oO [vp s, vi id, vu r, vi most] (MS s fv Q) (fun _ : Value × List Qf => vb true) (fun g => pu (g.2.map (fun q => q.2) = pz ⟨id, r, bP most, []⟩ (Q.map fun q => q.2)) * MS s g.1 g.2) := by
 refine aP fun R H h0 => ?_;refine bg (fun r => ES _ _ _ _ H) ?_;refine ag h0 (Ks s fv Q id (by omega)) fun n H1 h1 => ?_;rw [ai, ae.pu] at h1;obtain ⟨ha, h⟩ := h1
 have hn1 : n = -1 := by
  rcases ha with ha | ⟨i, hi, _, e⟩
  ·exact ha.1
  ·exact absurd e (hn _ (Mb hi))
 subst hn1;refine aa (mV (by omega)) ?_;refine gs ?_;refine ah (yc ..) ?_;have ins : ∀ k : Nat, k ≤ Q.length → (∀ (i : Nat) (h : i < Q.length), i < k → Q[i].2.id < id) → (∀ h : k < Q.length, ¬ Q[k].2.id < id) →
  wp (nq (vp s) (vi id) (vu r) (vi most) (vb false) (vi (k : Int)) H1) fun v' H' => ∃ g : Value × List Qf, v' = vb true ∧ ae (pu (g.2.map (fun q => q.2) = pz ⟨id, r, bP most, []⟩ (Q.map fun q => q.2)) * MS s g.1 g.2 * R) H' := by
  intro k hk h3 h4;refine ah (yd ..) ?_;refine aj h ac rfl ?_;obtain ⟨s1, e1, r1⟩ := pO (s := fv) (l := Q) (lo := none) (hi := some (vi (k : Int))) (a := 0) (b := k) h (.inl ⟨rfl, rfl⟩) (.inr ⟨_, rfl⟩) (by omega) hk;refine aa e1 ?_
  haveI := r1
  have h5 := fX 1 l4 h;refine tf (s := .slice none 0 0) (l := ([] : List Qf)) (m := (Q.take k).drop 0) h5 ?_ (by omega) fun v3 H3 h6 => ?_
  ·unfold room; simp; omega
  rw [List.nil_append, List.drop_zero] at h6;refine ag h6 (aaZ id most r) fun b H4 h7 => ?_;refine Nq h7 fun rb H5 h8 => ?_;refine iL (s := v3) (l := Q.take k) ((b, ⟨id, r, bP most, []⟩) : Qf) h8 rfl ?_ (by omega) fun a cc H6 h9 => ?_
  ·unfold room; simp; omega
  refine bz ac ?_;refine aR h9 rfl ?_;refine aH h6 h9 rfl ?_;refine aH h8 h9 rfl ?_;obtain ⟨s2, e2, r2⟩ := pO (s := fv) (l := Q) (lo := some (vi (k : Int))) (hi := none) (a := k) (b := Q.length) h9.right (.inr ⟨_, rfl⟩) (.inl ⟨rfl, rfl⟩) hk (bI _);refine aa e2 ?_
  haveI := r2
  refine tf (s := .slice a ((Q.take k).length + 1) cc) (l := Q.take k ++ [(b, ⟨id, r, bP most, []⟩)]) (m := (Q.take Q.length).drop k) h9 ?_ (by omega) fun v4 H7 h10 => ?_
  ·unfold room; simp; omega
  rw [List.take_length] at h10
  obtain ⟨a4, n4, c4, rfl⟩ : ∃ a n c, v4 = .slice a n c := by
   rcases oC (s := v4) (enc := l4) h10 with ⟨e, _⟩ | ⟨b, e, _⟩ <;> exact ⟨_, _, _, e⟩
  refine bi h10 ac rfl rfl fun H8 h11 => ?_;refine aq ⟨(.slice a4 n4 c4, Q.take k ++ [(b, ⟨id, r, bP most, []⟩)] ++ Q.drop k), rfl, ?_⟩;rw [ai];refine ae.pu.2 ⟨?_, ?_⟩
  ·dsimp only
   rw [af9 (k := k) (by simpa using hk) (fun i hi hik => by rw [List.getElem_map]; exact h3 i (by simpa using hi) hik) (fun hi => by rw [List.getElem_map]; exact h4 (by simpa using hi))];rw [zw, zw, List.map_take, List.map_drop, List.append_assoc]
   rfl
  ·rw [SH Q k] at h11
   show ae (blk s (.cells false [.slice a4 n4 c4, vw 0, vw 0]) * (ts 1 l4 (.slice a4 n4 c4) (Q.take k ++ [(b, ⟨id, r, bP most, []⟩)] ++ Q.drop k) * gY (Q.take k ++ [(b, ⟨id, r, bP most, []⟩)] ++ Q.drop k)) * R) H8;rw [xA, xA];show ae (blk s (.cells false [.slice a4 n4 c4, vw 0, vw 0]) * (ts 1 l4 (.slice a4 n4 c4) (Q.take k ++ [(b, ⟨id, r, bP most, []⟩)] ++ Q.drop k) * (gY (Q.take k) * (O9 (b, ⟨id, r, bP most, []⟩) * emp) * gY (Q.drop k))) * R) H8;exact h11.to
 have loop : ∀ (d k : Nat), k + d = Q.length → (∀ (i : Nat) (h : i < Q.length), i < k → Q[i].2.id < id) → wp (i5 (vp s) (vi id) (vu r) (vi most) (vb false) (vi (k : Int)) H1) fun v' H' => ∃ g : Value × List Qf, v' = vb true ∧ ae (pu (g.2.map (fun q => q.2) = pz ⟨id, r, bP most, []⟩ (Q.map fun q => q.2)) * MS s g.1 g.2 * R) H' := by
  intro d
  induction d with
  | zero =>
   intro k hk h3;refine ah (nr ..) ?_;refine aj h ac rfl ?_;refine gi (s := fv) (l := Q) h ?_;refine aa (ch (by omega)) ?_;refine gs ?_;refine ah (lB ..) ?_
   exact ins k (by omega) h3 fun h => by omega
  | succ d ih =>
   intro k hk h3
   have hkl : k < Q.length := by omega
   refine ah (nr ..) ?_;refine aj h ac rfl ?_;refine gi (s := fv) (l := Q) h ?_;refine aa (cK (by omega)) ?_;refine gs ?_;refine aj h ac rfl ?_;refine gs ?_;refine qv (s := fv) (l := Q) (v := vp Q[k].1) h hkl rfl ?_;refine gs ?_;have h5 : ae (gY Q * (blk s (.cells false [fv, vw 0, vw 0]) * (ts 1 l4 fv Q * R))) H1 := h.to;obtain ⟨lv, Z, h6, _⟩ := Cs hkl h5;refine aj h6 ac rfl ?_;refine gs ?_
   by_cases hf : Q[k].2.id < id
   ·refine aa (cK hf) ?_
    refine gs ?_;refine ah (vI ..) ?_;refine aa (aM (by omega) (by omega)) ?_;rw [show ((k : Nat) : Int) + 1 = ((k + 1 : Nat) : Int) from by omega];refine ih (k + 1) (by omega) fun i hi hik => ?_
    by_cases e : i = k
    ·subst e; exact hf
    ·exact h3 i hi (by omega)
   ·refine aa (ch hf) ?_
    refine gs ?_;refine ah (lB ..) ?_;exact ins k (by omega) h3 fun _ => hf
 exact loop Q.length 0 (by omega) fun i _ hi => by omega
theorem PW (s : Nat) (fv : Value) (Q : List Qf) (f : Int) (hs : FY (Q.map fun q => q.2)) (hl : Q.length < 1000) :
 Sp kE [vp s, vi f] (MS s fv Q) (fun g : Int × Value × List Qf => vi g.1) (fun g => pu ((g.2.2.map (fun q => q.2), g.1) = (match gD f (Q.map fun q => q.2) with
  | none => (Q.map (fun q => q.2), (5 : Int))
  | some a => if a.L.length = 0 then (O3 f (Q.map fun q => q.2), 0) else (Q.map (fun q => q.2), 8))) * MS s g.2.1 g.2.2) := by
 refine aP fun R H h0 => ?_;refine bg (fun r => yf _ _ H) ?_;refine ag h0 (Ks s fv Q f (by omega)) fun n H1 h1 => ?_;rw [ai, ae.pu] at h1;obtain ⟨ha, h⟩ := h1;refine ah (sK ..) ?_
 rcases ha with ⟨rfl, hn⟩ | ⟨i, hi, rfl, hid⟩
 ·have e : gD f (Q.map fun q => q.2) = none := JA fun a ha => by
   rw [List.mem_map] at ha;obtain ⟨q, hq, rfl⟩ := ha;exact hn q hq
  refine aa (cK (by omega)) ?_;refine gs ?_;refine aq ⟨(5, fv, Q), rfl, ?_⟩;rw [e, ai];exact ae.pu.2 ⟨rfl, (show ae (MS s fv Q * R) H1 from h.to)⟩
 ·have e : gD f (Q.map fun q => q.2) = some Q[i].2 := by
   rw [Jz hs (i := i) (by simpa using hi) (by rw [List.getElem_map]; exact hid), List.getElem_map]
  have ed : O3 f (Q.map fun q => q.2) = (Q.take i ++ Q.drop (i + 1)).map fun q => q.2 := by
   have := af8 hs (i := i) (by simpa using hi);rw [List.getElem_map, hid] at this;rw [this, zw, List.map_take, List.map_drop]
  rw [e];refine aa (ch (by omega)) ?_;refine gs ?_;refine aj h ac rfl ?_;refine qv (s := fv) (l := Q) (v := vp Q[i].1) h hi rfl ?_;have h5 : ae (gY Q * (blk s (.cells false [fv, vw 0, vw 0]) * (ts 1 l4 fv Q * R))) H1 := h.to;obtain ⟨lv, Z, h6, _⟩ := Cs hi h5;refine aj h6 ac rfl ?_;refine gi (s := lv) (l := Q[i].2.L) h6 ?_
  by_cases hL : Q[i].2.L.length = 0
  ·refine aa (f7 (by omega)) ?_
   refine gs ?_;refine ah (sL ..) ?_;refine aj h ac rfl ?_;obtain ⟨s1, e1, r1⟩ := pO (s := fv) (l := Q) (lo := none) (hi := some (vi (i : Int))) (a := 0) (b := i) h (.inl ⟨rfl, rfl⟩) (.inr ⟨_, rfl⟩) (by omega) (by omega);refine aa e1 ?_
   haveI := r1
   have h7 := fX 1 l4 h;refine tf (s := .slice none 0 0) (l := ([] : List Qf)) (m := (Q.take i).drop 0) h7 ?_ (by omega) fun v3 H3 h8 => ?_
   ·unfold room; simp; omega
   rw [List.nil_append, List.drop_zero] at h8;refine aj h8 ac rfl ?_;refine aa (aM (by omega) (by omega)) ?_;rw [show ((i : Nat) : Int) + 1 = ((i + 1 : Nat) : Int) from by omega];obtain ⟨s2, e2, r2⟩ := pO (s := fv) (l := Q) (lo := some (vi ((i + 1 : Nat) : Int))) (hi := none) (a := i + 1) (b := Q.length) h8.right (.inr ⟨_, rfl⟩) (.inl ⟨rfl, rfl⟩) (by omega) (bI _);refine aa e2 ?_
   haveI := r2
   refine tf (s := v3) (l := Q.take i) (m := (Q.take Q.length).drop (i + 1)) h8 ?_ (by omega) fun v4 H7 h10 => ?_
   ·unfold room; simp; omega
   rw [List.take_length] at h10
   obtain ⟨a4, n4, c4, rfl⟩ : ∃ a n c, v4 = .slice a n c := by
    rcases oC (s := v4) (enc := l4) h10 with ⟨e, _⟩ | ⟨b, e, _⟩ <;> exact ⟨_, _, _, e⟩
   refine bi h10 ac rfl rfl fun H8 h11 => ?_;refine aq ⟨(0, .slice a4 n4 c4, Q.take i ++ Q.drop (i + 1)), rfl, ?_⟩;rw [ai];refine ae.pu.2 ⟨?_, ?_⟩
   ·dsimp only
    rw [if_pos hL, ed]
   ·rw [SH Q i, List.drop_eq_getElem_cons hi, show gY (Q[i] :: Q.drop (i + 1)) = O9 Q[i] * gY (Q.drop (i + 1)) from rfl] at h11
    have h12 : ae (blk s (.cells false [.slice a4 n4 c4, vw 0, vw 0]) * (ts 1 l4 (.slice a4 n4 c4) (Q.take i ++ Q.drop (i + 1)) * (gY (Q.take i) * (O9 Q[i] * gY (Q.drop (i + 1))))) * R) H8 := h11.to;show ae (blk s (.cells false [.slice a4 n4 c4, vw 0, vw 0]) * (ts 1 l4 (.slice a4 n4 c4) (Q.take i ++ Q.drop (i + 1)) * gY (Q.take i ++ Q.drop (i + 1))) * R) H8;rw [xA];exact h12.to
  ·refine aa (lq (by omega)) ?_
   refine gs ?_;refine aq ⟨(8, fv, Q), rfl, ?_⟩;rw [ai];refine ae.pu.2 ⟨?_, (show ae (MS s fv Q * R) H1 from h.to)⟩;dsimp only;rw [if_neg hL]
theorem L1 (b : Nat) (a : Mf) (pk : Pk) (hl : a.L.length < 1000) :
 Sp jK [vp b, vw 0, .agg (Pk.cells pk).toArray] (O9 (b, a)) (fun _ : Unit => vb (decide (a.L.length < a.most))) (fun _ => O9 (b, if a.L.length < a.most then { a with L := a.L ++ [pk] } else a)) := by
 refine aP fun R H h0 => ?_;obtain ⟨lv, h0⟩ := ae.ex.1 (show ae ((ex fun lv : Value => blk b (.cells false (mfC a lv)) * ts 3 Pk.cells lv a.L) * R) H from h0);refine bg (fun r => vE _ _ _ H) ?_;refine aS h0 fun xb H1 h1 => ?_;refine aj h1 ac rfl ?_;refine gi (s := lv) (l := a.L) h1 ?_;refine aj h1 ac rfl ?_
 by_cases hm : a.L.length < a.most
 ·rw [dj hm, if_pos hm]
  refine aa (mV (by omega)) ?_;refine gs ?_;refine ah (rm ..) ?_;refine aj h1 ac rfl ?_;refine gi (s := lv) (l := a.L) h1 ?_
  have rest : ∀ H1, ae (blk xb (.cells false (Pk.cells pk)) * (blk b (.cells false (mfC a lv)) * ts 3 Pk.cells lv a.L * R)) H1 → wp (gf (vp b) (vp xb) (vb false) H1) fun v' H' => ∃ x : Unit, v' = vb true ∧ ae (O9 (b, { a with L := a.L ++ [pk] }) * R) H' := by
   intro H1 h1;refine ah (rn ..) ?_;refine aj h1 ac rfl ?_;have h2 := fX 3 Pk.cells h1;refine tf (s := .slice none 0 0) (l := ([] : List Pk)) (m := a.L) h2 ?_ (by omega) fun v3 H3 h3 => ?_
   ·unfold room; simp; omega
   rw [List.nil_append] at h3;refine aJ h3 ?_;refine dA h1 h3 rfl ?_;refine Nq h3 fun rb H4 h4 => ?_;refine iL (s := v3) (l := a.L) (pk : Pk) h4 rfl ?_ (by omega) fun q cc H5 h5 => ?_
   ·unfold room; omega
   refine bi h5 ac rfl rfl fun H6 h6 => ?_;refine aq ⟨(), rfl, ?_⟩;show ae ((ex fun lv : Value => blk b (.cells false (mfC { a with L := a.L ++ [pk] } lv)) * ts 3 Pk.cells lv (a.L ++ [pk])) * R) H6;exact ae.ex.2 ⟨.slice q (a.L.length + 1) cc, h6.to⟩
  by_cases hz : a.L.length = 0
  ·refine aa (bk (by omega)) ?_
   refine gs ?_;refine aj h1 ac rfl ?_;refine aa (v := vw 0) rfl ?_;refine bi h1 ac rfl rfl fun H2 h2 => ?_;exact rest H2 h2.to
  ·refine aa (aG (by omega)) ?_
   refine gs ?_;exact rest H1 h1
 ·rw [dP hm, if_neg hm]
  refine aa (r7 (by omega)) ?_;refine gs ?_;refine aq ⟨(), rfl, ?_⟩;show ae ((ex fun lv : Value => blk b (.cells false (mfC a lv)) * ts 3 Pk.cells lv a.L) * R) H1;exact ae.ex.2 ⟨lv, h1.to⟩
theorem PV (s : Nat) (fv : Value) (Q : List Qf) (pk : Pk) (hs : FY (Q.map fun q => q.2)) (hl : Q.length < 1000) (hL : ∀ q ∈ Q, q.2.L.length < 1000) :
 Sp kD [vp s, .agg (Pk.cells pk).toArray] (MS s fv Q) (fun g : Int × List Qf => vi g.1) (fun g => pu ((g.2.map (fun q => q.2), g.1) = (match gD pk.flow (Q.map fun q => q.2) with
  | none => (Q.map (fun q => q.2), (5 : Int))
  | some a => if a.most ≤ a.L.length then (Q.map (fun q => q.2), 9) else (Gc pk.flow (fun a => { a with L := a.L ++ [pk] }) (Q.map fun q => q.2), 0))) * MS s fv g.2) := by
 refine aP fun R H h0 => ?_;refine bg (fun r => ye _ _ H) ?_;refine aS h0 fun xb H0 h0 => ?_;refine aj h0 aA rfl ?_;refine ag h0 (Ks s fv Q pk.flow (by omega)) fun n H1 h1 => ?_;rw [ai, ae.pu] at h1;obtain ⟨ha, h⟩ := h1
 rcases ha with ⟨rfl, hn⟩ | ⟨i, hi, rfl, hid⟩
 ·have e : gD pk.flow (Q.map fun q => q.2) = none := JA fun a ha => by
   rw [List.mem_map] at ha;obtain ⟨q, hq, rfl⟩ := ha;exact hn q hq
  refine aa (cK (by omega)) ?_;refine gs ?_;refine aq ⟨(5, Q), rfl, ?_⟩;rw [e, ai];exact ae.pu.2 ⟨rfl, (show ae (MS s fv Q * R) H1 from h.to)⟩
 ·have e : gD pk.flow (Q.map fun q => q.2) = some Q[i].2 := by
   rw [Jz hs (i := i) (by simpa using hi) (by rw [List.getElem_map]; exact hid), List.getElem_map]
  have eu : Gc pk.flow (fun a => { a with L := a.L ++ [pk] }) (Q.map fun q => q.2) = (Q.set i (Q[i].1, { Q[i].2 with L := Q[i].2.L ++ [pk] })).map fun q => q.2 := by
   have := agA hs (i := i) (by simpa using hi) (fun a => { a with L := a.L ++ [pk] });rw [List.getElem_map, hid] at this;rw [this, List.map_set];show List.set _ i (⟨pk.flow, Q[i].2.r, Q[i].2.most, Q[i].2.L ++ [pk]⟩ : Mf) = List.set _ i (⟨Q[i].2.id, Q[i].2.r, Q[i].2.most, Q[i].2.L ++ [pk]⟩ : Mf);rw [hid]
  have hLi := hL _ (Mb hi);refine aa (ch (by omega)) ?_;refine gs ?_;refine aj h ac rfl ?_;refine qv (s := fv) (l := Q) (v := vp Q[i].1) h hi rfl ?_;refine aj h ac rfl ?_;refine aJ h ?_;obtain ⟨Z, e1, e2⟩ := Ez hi;rw [show MS s fv Q = blk s (.cells false [fv, vw 0, vw 0]) * (ts 1 l4 fv Q * gY Q) from rfl, e1] at h;refine ag h (L1 Q[i].1 Q[i].2 pk hLi) fun _ H2 h2 => ?_;rw [e]
  by_cases hm : Q[i].2.L.length < Q[i].2.most
  ·rw [dj hm]
   rw [if_pos hm] at h2;refine gs ?_;rw [Bool.not_true];refine gs ?_;refine aq ⟨(0, Q.set i (Q[i].1, { Q[i].2 with L := Q[i].2.L ++ [pk] })), rfl, ?_⟩;rw [ai];refine ae.pu.2 ⟨?_, ?_⟩
   ·dsimp only
    rw [if_neg (by omega), eu]
   ·show ae (blk s (.cells false [fv, vw 0, vw 0]) * (ts 1 l4 fv (Q.set i (Q[i].1, { Q[i].2 with L := Q[i].2.L ++ [pk] })) * gY (Q.set i (Q[i].1, { Q[i].2 with L := Q[i].2.L ++ [pk] }))) * R) H2
    rw [e2, aj9 (agN Q i hi _) fv];exact h2.to
  ·rw [dP hm]
   rw [if_neg hm] at h2;refine gs ?_;rw [Bool.not_false];refine gs ?_;refine aq ⟨(9, Q), rfl, ?_⟩;rw [ai];refine ae.pu.2 ⟨?_, ?_⟩
   ·dsimp only
    rw [if_pos (by omega)]
   ·show ae (blk s (.cells false [fv, vw 0, vw 0]) * (ts 1 l4 fv Q * gY Q) * R) H2
    rw [e1];exact h2.to
theorem XN (c : eg) (Q : List Qf) (f : Int) {i : Nat} (hi : i < Q.length) : py c ((Q.take (i + 1)).map fun q => q.2) f = py c ((Q.take i).map fun q => q.2) f + (if Q[i].2.id.tmod c.sh = f.tmod c.sh then 1 else 0) := by
 unfold py;rw [List.take_succ_eq_append_getElem hi, zw, List.filter_append, sn]
 congr 1
 show ([Q[i].2].filter _).length = _;rw [List.filter_cons]
 split
 ·rename_i h
  rw [if_pos (of_decide_eq_true h)]
  rfl
 ·rename_i h
  rw [if_neg (fun q => h (dj q))]
  rfl
theorem ED (m s : Nat) (fv : Value) (c : eg) (Q : List Qf) (x : Cl) (hc : bZ c = true) (hs : FY (Q.map fun q => q.2)) (hl : Q.length < 1000) (ho : x.op = 1) :
 Sp g7 [vp m, .agg (Cl.cells x).toArray] (mdB m s fv c Q) (fun g : Int × Value × List Qf => vi g.1) (fun g => pu ((g.2.2.map (fun q => q.2), g.1) = tH c (Q.map fun q => q.2) x) * mdB m s g.2.1 c g.2.2) := by
 have hsl := bo.1 hc;refine aP fun R H h0 => ?_;refine bg (fun r => rq _ _ H) ?_;refine aS h0 fun xb H0 h => ?_;refine ah (oT ..) ?_;rw [Eo ho]
 have out : ∀ (e : Int) (H' : AH), ae (mdB m s fv c Q * R) H' → (Q.map (fun q => q.2), e) = (match dM x with
  | some e => (Q.map (fun q => q.2), e)
  | none => match gD x.flow (Q.map fun q => q.2) with
   | some _ => (Q.map (fun q => q.2), 6)
   | none => if c.sl ≤ (py c (Q.map fun q => q.2) x.flow : Int) then (Q.map (fun q => q.2), 7) else (pz ⟨x.flow, max (c.un / x.a.toNat) 1, bP x.b, []⟩ (Q.map fun q => q.2), 0)) →
   ∃ g : Int × Value × List Qf, vi e = vi g.1 ∧ ae (pu ((g.2.2.map (fun q => q.2), g.1) = (match dM x with
  | some e => (Q.map (fun q => q.2), e)
  | none => match gD x.flow (Q.map fun q => q.2) with
   | some _ => (Q.map (fun q => q.2), 6)
   | none => if c.sl ≤ (py c (Q.map fun q => q.2) x.flow : Int) then (Q.map (fun q => q.2), 7) else (pz ⟨x.flow, max (c.un / x.a.toNat) 1, bP x.b, []⟩ (Q.map fun q => q.2), 0))) * mdB m s g.2.1 c g.2.2 * R) H' := by
  intro e H' h' he;refine ⟨(e, fv, Q), rfl, ?_⟩;rw [ai];exact ae.pu.2 ⟨he, h'⟩
 refine aj h aA rfl ?_
 have flowbad : lN x → dM x = some 1 := fun hx => by unfold dM; rw [if_pos ho, if_pos hx]
 by_cases f1 : x.flow < 0
 ·refine aa (cK f1) ?_
  refine gs ?_;exact aq (out 1 H0 h.to (by rw [flowbad (.inl f1)]))
 refine aa (ch f1) ?_;refine gs ?_;refine aj h aA rfl ?_;refine gs ?_
 by_cases f2 : 1048576 < x.flow
 ·refine aa (lq f2) ?_
  refine gs ?_;exact aq (out 1 H0 h.to (by rw [flowbad (.inr f2)]))
 refine aa (f7 f2) ?_;refine gs ?_
 have nout : ¬ lN x := fun h => by unfold lN at h; omega
 refine aj h aA rfl ?_
 have wbad : (x.a < 1 ∨ 65536 < x.a) → dM x = some 4 := fun hx => by unfold dM; rw [if_pos ho, if_neg nout, if_pos hx]
 by_cases a1 : x.a < 1
 ·refine aa (cK a1) ?_
  refine gs ?_;exact aq (out 4 H0 h.to (by rw [wbad (.inl a1)]))
 refine aa (ch a1) ?_;refine gs ?_;refine aj h aA rfl ?_;refine gs ?_
 by_cases a2 : 65536 < x.a
 ·refine aa (lq a2) ?_
  refine gs ?_;exact aq (out 4 H0 h.to (by rw [wbad (.inr a2)]))
 refine aa (f7 a2) ?_;refine gs ?_;refine aj h aA rfl ?_
 have cbad : (x.b < 1 ∨ 8 < x.b) → dM x = some 1 := fun hx => by unfold dM; rw [if_pos ho, if_neg nout, if_neg (by omega), if_pos hx]
 by_cases b1 : x.b < 1
 ·refine aa (cK b1) ?_
  refine gs ?_;exact aq (out 1 H0 h.to (by rw [cbad (.inl b1)]))
 refine aa (ch b1) ?_;refine gs ?_;refine aj h aA rfl ?_;refine gs ?_
 by_cases b2 : 8 < x.b
 ·refine aa (lq b2) ?_
  refine gs ?_;exact aq (out 1 H0 h.to (by rw [cbad (.inr b2)]))
 refine aa (f7 b2) ?_;refine gs ?_
 have hr : dM x = none := by unfold dM; rw [if_pos ho, if_neg nout, if_neg (by omega), if_neg (by omega)]
 refine aj h ac rfl ?_;refine aj h aA rfl ?_;refine ag h (Ks s fv Q x.flow (by omega)) fun n H1 h1 => ?_;rw [ai, ae.pu] at h1;obtain ⟨ha, h1⟩ := h1
 rcases ha with ⟨rfl, hn⟩ | ⟨i, hi, rfl, hid⟩
 case inr =>
  have e : gD x.flow (Q.map fun q => q.2) = some Q[i].2 := by
   rw [Jz hs (i := i) (by simpa using hi) (by rw [List.getElem_map]; exact hid), List.getElem_map]
  refine aa (r7 (by omega)) ?_;refine gs ?_;exact aq (out 6 H1 h1.to (by rw [hr, e]))
 have e : gD x.flow (Q.map fun q => q.2) = none := JA fun a ha => by
  rw [List.mem_map] at ha;obtain ⟨q, hq, rfl⟩ := ha;exact hn q hq
 refine aa (mV (by omega)) ?_;refine gs ?_;refine ah (oU ..) ?_;refine ah (oV ..) ?_;refine ah (nJ ..) ?_;have h2 : ae (blk xb (.cells false (Cl.cells x)) * (blk m (.cells false [vi c.sh, vi c.sl, vi c.wk, vi c.wd, vu c.un, vp s, vi 0]) * (MS s fv Q * R))) H1 := h1.to
 have loop : ∀ (d i : Nat), i + d = Q.length → wp (dU (vp m) (vp xb) (vi 0) (vi ((py c ((Q.take i).map fun q => q.2) x.flow : Nat) : Int)) (vi (i : Int)) H1) fun v' H' => ∃ g : Int × Value × List Qf, v' = vi g.1 ∧ ae (pu ((g.2.2.map (fun q => q.2), g.1) = (match dM x with
  | some e => (Q.map (fun q => q.2), e)
  | none => match gD x.flow (Q.map fun q => q.2) with
   | some _ => (Q.map (fun q => q.2), 6)
   | none => if c.sl ≤ (py c (Q.map fun q => q.2) x.flow : Int) then (Q.map (fun q => q.2), 7) else (pz ⟨x.flow, max (c.un / x.a.toNat) 1, bP x.b, []⟩ (Q.map fun q => q.2), 0))) * mdB m s g.2.1 c g.2.2 * R) H' := by
  intro d
  induction d with
  | zero =>
   intro i hi;refine ah (iA ..) ?_;refine aj h2 ac rfl ?_;refine aj h2 ac rfl ?_;refine gi (s := fv) (l := Q) h2 ?_;refine aa (ch (by omega)) ?_;refine gs ?_;refine ah (mg ..) ?_;refine ah (oW ..) ?_;rw [List.take_of_length_le (by omega)];refine aj h2 (bV (aO (aO aY))) rfl ?_
   by_cases hcn : c.sl ≤ (py c (Q.map fun q => q.2) x.flow : Int)
   ·refine aa (r7 hcn) ?_
    refine gs ?_;exact aq (out 7 H1 h2.to (by rw [hr, e]; dsimp only; rw [if_pos hcn]))
   ·refine aa (mV hcn) ?_
    refine gs ?_;refine aj h2 (bV (aO (aO aY))) rfl ?_;refine aj h2 aA rfl ?_;refine ag h2 (og c.un x.a ⟨hsl.2.2.2.2.2.2.2.2.1, hsl.2.2.2.2.2.2.2.2.2⟩ ⟨by omega, by omega⟩) fun _ H3 h3 => ?_;refine aa (v := vu (max (c.un / x.a.toNat) 1)) rfl ?_;refine aa (v := vb true) rfl ?_;refine aj h3 ac rfl ?_;refine aj h3 aA rfl ?_;refine aj h3 aA rfl ?_;refine ag h3 (agO s fv Q x.flow x.b (max (c.un / x.a.toNat) 1) hn hl) fun g H4 h4 => ?_;rw [ai, ae.pu] at h4;obtain ⟨hg, h4⟩ := h4;refine aq ⟨(0, g.1, g.2), rfl, ?_⟩;rw [hr, e, ai];refine ae.pu.2 ⟨?_, h4.to⟩;dsimp only;rw [if_neg hcn, hg]
  | succ d ih =>
   intro i hi
   have hil : i < Q.length := by omega
   refine ah (iA ..) ?_;refine aj h2 ac rfl ?_;refine aj h2 ac rfl ?_;refine gi (s := fv) (l := Q) h2 ?_;refine aa (cK (by omega)) ?_;refine gs ?_;refine ah (nK ..) ?_;refine aj h2 ac rfl ?_;refine aj h2 ac rfl ?_;refine qv (s := fv) (l := Q) (v := vp Q[i].1) h2 hil rfl ?_;have h5 : ae (gY Q * (blk s (.cells false [fv, vw 0, vw 0]) * ts 1 l4 fv Q)) H1 := h2.to;obtain ⟨lv, Z, h6, _⟩ := Cs hil h5;refine aj h6 ac rfl ?_;refine aj h2 (bV (aO (aO aY))) rfl ?_;refine aa (nE (by omega)) ?_;refine aj h2 aA rfl ?_;refine aj h2 (bV (aO (aO aY))) rfl ?_;refine aa (nE (by omega)) ?_;have hct := XN c Q x.flow hil
   have hcb : py c ((Q.take i).map fun q => q.2) x.flow ≤ Q.length := by
    unfold py;refine fy (List.length_filter_le ..) ?_;rw [pw, List.length_take];omega
   have next : ∀ n : Nat, n = py c ((Q.take (i + 1)).map fun q => q.2) x.flow → wp (dV (vp m) (vp xb) (vi 0) (vi (n : Int)) (vi (i : Int)) H1) fun v' H' => ∃ g : Int × Value × List Qf, v' = vi g.1 ∧ ae (pu ((g.2.2.map (fun q => q.2), g.1) = (match dM x with
  | some e => (Q.map (fun q => q.2), e)
  | none => match gD x.flow (Q.map fun q => q.2) with
   | some _ => (Q.map (fun q => q.2), 6)
   | none => if c.sl ≤ (py c (Q.map fun q => q.2) x.flow : Int) then (Q.map (fun q => q.2), 7) else (pz ⟨x.flow, max (c.un / x.a.toNat) 1, bP x.b, []⟩ (Q.map fun q => q.2), 0))) * mdB m s g.2.1 c g.2.2 * R) H' := by
    intro n hn2;subst hn2;refine ah (nL ..) ?_;refine aa (aM (by omega) (by omega)) ?_;rw [show ((i : Nat) : Int) + 1 = ((i + 1 : Nat) : Int) from by omega];exact ih (i + 1) (by omega)
   by_cases hq : Q[i].2.id.tmod c.sh = x.flow.tmod c.sh
   ·rw [if_pos hq] at hct
    refine aa (bk hq) ?_;refine gs ?_;refine aa (aM (by omega) (by omega)) ?_;rw [show ((py c ((Q.take i).map fun q => q.2) x.flow : Nat) : Int) + 1 = ((py c ((Q.take i).map fun q => q.2) x.flow + 1 : Nat) : Int) from by omega];exact next _ hct.symm
   ·rw [if_neg hq] at hct
    refine aa (aG hq) ?_;refine gs ?_;exact next _ hct.symm
 exact loop Q.length 0 (by omega)
theorem EC (m : Nat) (c : eg) (M : List Mf) (x : Cl) (hc : bZ c = true) (hs : FY M) (hl : M.length < 1000) (hL : ∀ a ∈ M, a.L.length < 1000) (ho : x.op = 1 ∨ x.op = 2 ∨ x.op = 3) :
 Sp g6 [vp m, .agg (Cl.cells x).toArray] (O7 m c M) (fun _ : Unit => .agg (ef (tH c M x).2).toArray) (fun _ => O7 m c (tH c M x).1) := by
 refine aP fun R H hA => ?_;obtain ⟨s, fv, Q, hQ, hB⟩ := Eu hA;subst hQ
 have hlQ : Q.length < 1000 := by rwa [pw] at hl
 refine bg (fun r => BL _ _ H) ?_;refine aS hB fun xb H1 h1 => ?_;refine bf h1 fun rb H2 h2 => ?_;refine ah (vF ..) ?_;refine aj h2 aA rfl ?_;refine ah (vG ..) ?_;have fin : ∀ (e : Int) (fv' : Value) (Q' : List Qf) (H' : AH), (Q'.map (fun q => q.2), e) = tH c (Q.map fun q => q.2) x → ae (blk rb (.cells false [vi 0, .slice none 0 0, vi 0, vw 0]) * (mdB m s fv' c Q' * R)) H' →
  wp ((FF jf [vi e] H').bind fun r10 => (cf 4 (vp rb) r10.1 r10.2).bind fun H11 => (ay 4 (vp rb) H11).bind fun v12 => some (v12, H11)) fun v' H' => ∃ _x : Unit, v' = .agg (ef (tH c (Q.map fun q => q.2) x).2).toArray ∧ ae (O7 m c (tH c (Q.map fun q => q.2) x).1 * R) H' := by
  intro e fv' Q' H' he h';rw [← he];refine ag h' (XO e) fun _ H3 h3 => ?_;refine cX h3 rfl rfl fun H4 h4 => ?_;refine aJ h4 ?_;exact aq ⟨(), rfl, Hm s fv' Q' rfl h4.to⟩
 rcases ho with ho | ho | ho
 ·rw [show vi x.op = vi 1 from by rw [ho]]
  refine aa (bk rfl) ?_;refine gs ?_;refine aJ h2 ?_;refine ag h2 (ED m s fv c Q x hc hs hlQ ho) fun g H3 h3 => ?_;rw [ai, ae.pu] at h3;obtain ⟨hg, h3⟩ := h3;exact fin g.1 g.2.1 g.2.2 H3 hg h3.to
 ·rw [show vi x.op = vi 2 from by rw [ho]]
  refine aa (aG (by omega)) ?_;refine gs ?_;refine aa (bk rfl) ?_;refine gs ?_;refine aj h2 ac rfl ?_;refine aj h2 aA rfl ?_;refine ag h2 (PW s fv Q x.flow hs hlQ) fun g H3 h3 => ?_;rw [ai, ae.pu] at h3;obtain ⟨hg, h3⟩ := h3;exact fin g.1 g.2.1 g.2.2 H3 (hg.trans (Hk ho).symm) h3.to
 ·rw [show vi x.op = vi 3 from by rw [ho]]
  refine aa (aG (by omega)) ?_;refine gs ?_;refine aa (aG (by omega)) ?_;refine gs ?_;refine aa (bk rfl) ?_;refine gs ?_;refine aj h2 aA rfl ?_
  by_cases a1 : x.a < 1
  ·refine aa (cK a1) ?_
   refine gs ?_;exact fin 3 fv Q H2 (by rw [xx ho, if_pos (.inl a1)]) h2.to
  refine aa (ch a1) ?_;refine gs ?_;refine aj h2 aA rfl ?_;refine gs ?_
  by_cases a2 : 65536 < x.a
  ·refine aa (lq a2) ?_
   refine gs ?_;exact fin 3 fv Q H2 (by rw [xx ho, if_pos (.inr a2)]) h2.to
  refine aa (f7 a2) ?_;refine gs ?_;refine aj h2 ac rfl ?_;refine aj h2 aA rfl ?_;refine aj h2 aA rfl ?_;refine aj h2 aA rfl ?_;refine iz ?_;refine ag h2 (PV s fv Q ⟨x.flow, x.a, x.b⟩ hs hlQ (fun q hq => hL q.2 (List.mem_map_of_mem hq))) fun g H3 h3 => ?_;rw [ai, ae.pu] at h3;obtain ⟨hg, h3⟩ := h3;exact fin g.1 fv g.2 H3 (hg.trans (by rw [xx ho, if_neg (by omega)]; rfl)) h3.to
theorem Ho (c : eg) : Sp jL [.agg (eg.cells c).toArray] emp (fun b : Nat => vp b) (fun b => O7 b c []) := by
 refine br (BM _) fun R H h => ?_;refine aS (l := eg.cells c) h fun b0 H1 h1 => ?_;refine aJ h1 ?_;refine iz ?_;refine aS h1 fun s H2 h2 => ?_;refine iz ?_;refine aS h2 fun b H3 h3 => ?_;refine aq ⟨b, rfl, Hm s (.slice none 0 0) [] rfl ?_⟩;have h4 := fX 1 l4 h3;show ae (blk b (.cells false [vi c.sh, vi c.sl, vi c.wk, vi c.wd, vu c.un, vp s, vi 0]) * (blk s (.cells false [.slice none 0 0, vw 0, vw 0]) * (ts 1 l4 (.slice none 0 0) [] * emp)) * R) H3;exact h4.to
def Hu (c : eg) : eg := ⟨1 + eJ c.sh 4, 1 + eJ c.sl 4, 1 + eJ c.wk 6, eJ c.wd 12, if c.un % 4 = 3 then 1 + c.un % 4611686018427387904 else 1 + c.un % 5000⟩
theorem Ap (b b2 : Nat) (c : eg) (u : Nat) (hu : 1 ≤ u ∧ u ≤ 4611686018427387904) {R : SP} {H : AH} (h : ae (blk b2 (.cells false [vi 0, vi 0, vi 0, vi 0, vw 0]) * (blk b (.cells false (eg.cells c)) * R)) H) :
 wp (jW (vp b) (vp b2) (vu u) H) fun v' H' => ∃ c' : eg, v' = .agg (eg.cells c').toArray ∧ ae (pu (bZ c' = true ∧ c' = ⟨1 + eJ c.sh 4, 1 + eJ c.sl 4, 1 + eJ c.wk 6, eJ c.wd 12, u⟩) * R) H' := by
 refine ah (xS _ _ _ H) ?_;refine aj h aA rfl ?_;refine ag h (eE c.sh 4 (by omega) (by omega)) fun _ H1 h1 => ?_;have m1 := gH (v := c.sh) (n := 4) (by omega);refine aa (aM (by omega) (by omega)) ?_;refine bz aA ?_;refine aR h1 rfl ?_;refine aH h h1 rfl ?_;refine ag h1 (eE c.sl 4 (by omega) (by omega)) fun _ H2 h2 => ?_;have m2 := gH (v := c.sl) (n := 4) (by omega);refine aa (aM (by omega) (by omega)) ?_;refine bz aA ?_;refine aR h2 rfl ?_;refine aH h h2 rfl ?_;refine aH h1 h2 rfl ?_;refine ag h2 (eE c.wk 6 (by omega) (by omega)) fun _ H3 h3 => ?_;have m3 := gH (v := c.wk) (n := 6) (by omega);refine aa (aM (by omega) (by omega)) ?_;refine bz aA ?_;refine aR h3 rfl ?_;refine aH h h3 rfl ?_;refine aH h1 h3 rfl ?_;refine aH h2 h3 rfl ?_;refine ag h3 (eE c.wd 12 (by omega) (by omega)) fun _ H4 h4 => ?_;have m4 := gH (v := c.wd) (n := 12) (by omega);refine iz ?_;refine cX h4 rfl rfl fun H5 h5 => ?_;refine aJ h5 ?_;refine aq ⟨⟨1 + eJ c.sh 4, 1 + eJ c.sl 4, 1 + eJ c.wk 6, eJ c.wd 12, u⟩, rfl, ?_⟩;exact ae.pu.2 ⟨⟨bo.2 (by dsimp only; omega), rfl⟩, h5.to⟩
theorem me (c : eg) : Sp gz [.agg (eg.cells c).toArray] emp (fun c' : eg => .agg (eg.cells c').toArray) (fun c' => pu (bZ c' = true ∧ c' = Hu c)) := by
 refine aP fun R H h => ?_;rw [kR] at h;refine bg (fun r => EN _ H) ?_;refine aS h fun b H1 h1 => ?_;refine bf h1 fun b2 H2 h2 => ?_;refine aj h2 aA rfl ?_;refine aa (PQ 5000 (by omega)) ?_;refine aa (gv (a := 1) (by omega)) ?_;refine ah (xR _ _ _ H2) ?_;refine aj h2 aA rfl ?_;refine aa (PQ 4 (by omega)) ?_;refine aa (fI) ?_;refine cm (fun hu => ?_) (fun hu => ?_)
 ·refine aj h2 aA rfl ?_
  refine aa (PQ 4611686018427387904 (by omega)) ?_;have hm := Nat.mod_lt c.un (show 4611686018427387904 > 0 by omega)
  have hu3 : c.un % 4 = 3 := by have := eq_of_beq hu; omega
  refine aa (gv (a := 1) (by omega)) ?_;refine Aj ?_ (Ap b b2 c _ (by omega) h2)
  rintro v' H' ⟨c', rfl, h9⟩
  rw [ae.pu] at h9;refine ⟨c', rfl, ae.pu.2 ⟨⟨h9.1.1, ?_⟩, h9.2⟩⟩;rw [h9.1.2];unfold Hu;rw [if_pos hu3]
 ·have hm := Nat.mod_lt c.un (show 5000 > 0 by omega)
  have hu3 : ¬ c.un % 4 = 3 := by have := ne_of_beq_false hu; omega
  refine Aj ?_ (Ap b b2 c _ (by omega) h2)
  rintro v' H' ⟨c', rfl, h9⟩
  rw [ae.pu] at h9;refine ⟨c', rfl, ae.pu.2 ⟨⟨h9.1.1, ?_⟩, h9.2⟩⟩;rw [h9.1.2];unfold Hu;rw [if_neg hu3]
theorem zv (c0 : eg) (n : Nat) (hn : n ≤ 16) : Sp m7 [.agg (eg.cells c0).toArray, vi n] emp (fun g : Nat × Nat × eg => .tuple #[.agg [vp g.1, vp g.2.1].toArray, vb true])
 (fun g => pu (bZ g.2.2 = true ∧ g.2.2 = Hu c0) * (fC g.1 (aN.made g.2.2 n) * aK g.2.1 (aN.made g.2.2 n))) := by
 refine br (L9 _ _) fun R H h => ?_;refine aS h fun b H1 h1 => ?_;refine bf h1 fun b2 H2 h2 => ?_;refine aJ h2 ?_;refine ag h2 (me c0) fun c H3 h3 => ?_;rw [ae.pu] at h3;obtain ⟨⟨hc, hpc⟩, h3⟩ := h3;refine cX h3 rfl rfl fun H4 h4 => ?_;refine aJ h4 ?_;refine ag h4 (Pi c hc) fun p H5 h5 => ?_;refine aa (v := vp p) rfl ?_;refine aa (v := vi 0) rfl ?_;refine aa (AJ rfl) ?_;refine gs ?_;refine aa (zF _) ?_;refine gs ?_;obtain ⟨g, hg, k5⟩ := oc (p := p) (σ := aN.new c) (R := blk b2 (.cells false [.pointer none, .pointer none]) * (blk b (.cells false (eg.cells c)) * R)) (H := H5) h5.to;unfold aE at k5;refine aj k5 ac rfl ?_;refine gs ?_;refine aa (zF _) ?_;refine gs ?_;refine aj k5 ac rfl ?_;refine gs ?_;refine aa (zF _) ?_;refine gs ?_;refine aj k5 ac rfl ?_;refine gs ?_;refine aa (zF _) ?_;refine gs ?_;refine aj k5 ac rfl ?_;refine gs ?_;refine aa (zF _) ?_;refine gs ?_;refine aj k5 ac rfl ?_;refine gs ?_;refine aa (zF _) ?_;refine gs ?_;refine aJ h5 ?_;refine ag h5 (Ka c hc) fun x H6 h6 => ?_;refine iz ?_;refine bf h6 fun b3 H7 h7 => ?_;refine cX h7 rfl rfl fun H8 h8 => ?_;refine ah (Ed _ _ _ _ _ H8) ?_;refine ah (Ef _ _ _ _ _ _ H8) ?_;have hr := bo.1 hc;have loop : ∀ (d i : Nat) (H : AH), i + d = n → ae (blk b3 (.cells false [vp p, vp x]) * (blk b2 (.cells false [.pointer none, .pointer none]) * (blk b (.cells false (eg.cells c)) * (fC p (aN.made c i) * (aK x (aN.made c i) * R))))) H →
  wp (nV (vi n) (vp b) (vp b2) (vb false) (vp b3) (vi i) H) fun v' H' => ∃ g : Nat × Nat × eg, v' = .tuple #[.agg [vp g.1, vp g.2.1].toArray, vb true] ∧ ae (pu (bZ g.2.2 = true ∧ g.2.2 = Hu c0) * (fC g.1 (aN.made g.2.2 n) * aK g.2.1 (aN.made g.2.2 n)) * R) H' := by
  intro d
  induction d with
  | zero =>
   intro i H hi h;refine ah (sf _ _ _ _ _ _ H) ?_;refine aa (ch (by omega)) ?_;refine gs ?_;refine ah (zu _ _ _ H) ?_;refine ah (Ee _ _ _ H) ?_;refine aJ h ?_;refine cX h rfl rfl fun H2 h2 => ?_;refine aJ h2 ?_;refine aq ⟨(p, x, c), rfl, ?_⟩;rw [ai, ae.pu]
   have e : i = n := by omega
   subst e;exact ⟨⟨hc, hpc⟩, h2.to⟩
  | succ d ih =>
   intro i H hi h;obtain ⟨m1, m2, m3⟩ := vl c i;have q0 : 0 ≤ (i : Int).tdiv c.sh := Int.tdiv_nonneg (by omega) (by omega);have q1 : (i : Int).tdiv c.sh ≤ i := Int.tdiv_le_self _ (by omega);have t0 : 0 ≤ (i : Int).tmod 2 := Int.tmod_nonneg _ (by omega);have t1 : (i : Int).tmod 2 < 2 := Int.tmod_lt_of_pos _ (by omega);have next : ∀ {H : AH}, ae (blk b3 (.cells false [vp p, vp x]) * (blk b2 (.cells false [.pointer none, .pointer none]) * (blk b (.cells false (eg.cells c)) * (fC p (aN.made c (i + 1)) * (aK x (aN.made c (i + 1)) * R))))) H →
    wp (sg (vi n) (vp b) (vp b2) (vb false) (vp b3) (vi i) H) fun v' H' => ∃ g : Nat × Nat × eg, v' = .tuple #[.agg [vp g.1, vp g.2.1].toArray, vb true] ∧ ae (pu (bZ g.2.2 = true ∧ g.2.2 = Hu c0) * (fC g.1 (aN.made g.2.2 n) * aK g.2.1 (aN.made g.2.2 n)) * R) H' := by
    intro H h;refine ah (Eh _ _ _ _ _ _ H) ?_;refine aa (aM (by omega) (by omega)) ?_;exact ih (i + 1) H (by omega) h
   refine ah (sf _ _ _ _ _ _ H) ?_;refine aa (cK (by omega)) ?_;refine gs ?_;refine ah (Eg _ _ _ _ _ _ H) ?_;refine aj h aA rfl ?_;refine aa (Po (by omega) (by omega) (by omega)) ?_;refine aj h aA rfl ?_
   by_cases hf : (i : Int).tdiv c.sh < c.sl
   ·have e : aN.made c (i + 1) = (aN.made c i).lay i (1 + i) (2 + (i : Int).tmod 2) := by show (if _ then _ else _) = _; rw [if_pos hf]
    rw [e] at next;refine aa (cK hf) ?_;refine gs ?_;refine aJ h ?_;refine gs ?_;refine aa (aM (by omega) (by omega)) ?_;refine gs ?_;refine aa (nE (by omega)) ?_;refine gs ?_;refine aa (aM (by omega) (by omega)) ?_;refine gs ?_;refine ag h (af4 p (aN.made c i) x i (1 + i) (2 + (i : Int).tmod 2) (by rw [m1]; exact hc) (by omega) (by omega) (by omega) (by omega)) fun _ H2 h2 => ?_;refine gs ?_;rw [Bool.not_true];refine gs ?_;exact next h2.to
   ·have e : aN.made c (i + 1) = aN.made c i := by show (if _ then _ else _) = _; rw [if_neg hf]
    rw [e] at next;refine aa (ch hf) ?_;refine gs ?_;exact next h
 exact loop n 0 H8 (by omega) (show ae (blk b3 (.cells false [vp p, vp x]) * (blk b2 (.cells false [.pointer none, .pointer none]) * (blk b (.cells false (eg.cells c)) * (fC p (aN.new c) * (aK x (aN.new c) * R))))) H8 from h8.to)
theorem T3 (c : Cl) (mark : Int) : Sp vr [.agg (Cl.cells c).toArray, vi mark] emp (fun y : Cl => .agg (Cl.cells y).toArray) (fun y => pu (y.op = 1 ∨ y.op = 2 ∨ y.op = 3)) := by
 refine br (Ma _ _) fun R H h => ?_;refine aS h fun b1 H1 h1 => ?_;refine bf h1 fun b2 H2 h2 => ?_;refine aJ h2 ?_;refine ag h2 (Hv c) fun y H3 h3 => ?_;refine bf h3 fun b4 H4 h4 => ?_;refine cX h4 rfl rfl fun H5 h5 => ?_;refine ah (Ei ..) ?_;refine aj h5 aA rfl ?_;refine wj h5 (by omega) (by omega) fun H6 h6 => ?_
 have out : ∀ (z : Cl) (hz : z.op = 1 ∨ z.op = 2 ∨ z.op = 3) {H : AH}, ae (blk b4 (.cells false (Cl.cells z)) * (blk b2 (.cells false [vi 0, vi 0, vi 0, vi 0]) * R)) H → wp (jp (vp b2) (vp b4) H) fun v' H' => ∃ y : Cl, v' = .agg (Cl.cells y).toArray ∧ ae (pu (y.op = 1 ∨ y.op = 2 ∨ y.op = 3) * R) H' := by
  intro z hz H h;refine ah (Ej ..) ?_;refine aJ h ?_;refine cX h rfl rfl fun H2 h2 => ?_;refine aJ h2 ?_;exact aq ⟨z, rfl, ae.pu.2 ⟨hz, h2.to⟩⟩
 refine ah (El ..) ?_
 have r1 : wp (lu (vi mark) (vp b1) (vp b2) (vp b4) (vi (eJ c.op 5)) (vb true) H6) fun v' H' => ∃ y : Cl, v' = .agg (Cl.cells y).toArray ∧ ae (pu (y.op = 1 ∨ y.op = 2 ∨ y.op = 3) * R) H' := by
  refine ah (sj ..) ?_;refine gs ?_;refine bi h6 aA rfl rfl fun H7 h7 => ?_;refine aj h7 aA rfl ?_;refine wj h7 (by omega) (by omega) fun H8 h8 => ?_
  by_cases hg : 0 < eJ c.a 4
  ·refine aa (lq hg) ?_
   refine gs ?_;refine aj h8 aA rfl ?_;refine wj h8 (by omega) (by omega) fun H9 h9 => ?_;have m5 := gH (v := c.a) (n := 5) (by omega);refine aa (aM (by omega) (by omega)) ?_;refine bz aA ?_;refine aR h9 rfl ?_;refine aH h8 h9 (by rfl) ?_;refine wj h9 (by omega) (by omega) fun HA hA => ?_;have m3 := gH (v := c.b) (n := 3) (by omega);refine aa (aM (by omega) (by omega)) ?_;refine bi hA aA rfl rfl fun HB hB => ?_;refine bi hB aA rfl rfl fun HC hC => ?_;exact out ⟨1, y.flow, 1 + eJ c.a 5, 1 + eJ c.b 3⟩ (.inl rfl) hC.to
  ·refine aa (f7 hg) ?_
   refine gs ?_;exact out ⟨1, y.flow, y.a, y.b⟩ (.inl rfl) h8.to
 have k21 : ∀ b : Bool, wp (l7 (vi mark) (vp b2) (vp b4) (vb b) H6) fun v' H' => ∃ y : Cl, v' = .agg (Cl.cells y).toArray ∧ ae (pu (y.op = 1 ∨ y.op = 2 ∨ y.op = 3) * R) H' := by
  intro b;refine ah (Bh ..) ?_;cases b
  ·refine gs ?_
   refine bi h6 aA rfl rfl fun H7 h7 => ?_;refine bi h7 aA rfl rfl fun H8 h8 => ?_;exact out ⟨3, y.flow, y.a, mark⟩ (.inr (.inr rfl)) h8.to
  ·refine gs ?_
   refine bi h6 aA rfl rfl fun H7 h7 => ?_;exact out ⟨2, y.flow, y.a, y.b⟩ (.inr (.inl rfl)) h7.to
 have r2 : wp (lu (vi mark) (vp b1) (vp b2) (vp b4) (vi (eJ c.op 5)) (vb false) H6) fun v' H' => ∃ y : Cl, v' = .agg (Cl.cells y).toArray ∧ ae (pu (y.op = 1 ∨ y.op = 2 ∨ y.op = 3) * R) H' := by
  refine ah (sj ..) ?_;refine gs ?_
  by_cases h2 : eJ c.op 5 = 2
  ·refine aa (bk h2) ?_
   refine gs ?_;exact k21 true
  ·refine aa (aG h2) ?_
   refine gs ?_
   by_cases h3 : eJ c.op 5 = 3
   ·refine aa (bk h3) ?_
    exact k21 true
   ·refine aa (aG h3) ?_
    exact k21 false
 by_cases h0 : eJ c.op 5 = 0
 ·refine aa (bk h0) ?_
  refine gs ?_;exact r1
 ·refine aa (aG h0) ?_
  refine gs ?_
  by_cases h1 : eJ c.op 5 = 1
  ·refine aa (bk h1) ?_
   exact r1
  ·refine aa (aG h1) ?_
   exact r2
def uJ : Nat → aN → Tk → Int → Option (aN × Tk × Int)
 | 0, _, _, _ => none
 | n + 1, σ, t, now => if (ak σ t now).2.2 = true then some ((ak σ t now).1, (ak σ t now).2.1, now + 1) else uJ n (ak σ t now).1 (ak σ t now).2.1 (now + 1)
section
variable (p x : Nat) (rp : List Nat)
theorem Ny (now most : Int) (pb rb e xb : Nat) (x13 x14 : Value) (res : aN × Tk × Int) (hnow : 0 ≤ now ∧ now < 1000000) (hm : most < 1000) {R : SP} :
 ∀ (fuel k K : Nat) (σ : aN) (t : Tk) (H : AH), (k : Int) + fuel = most → uJ fuel σ t (now + k) = some res → SI σ K → hU σ t → K + 3 * fuel < 300000 →
  ae (blk pb (.cells false [vp p, vp x]) * (blk rb (.cells false [vi 0, .slice none 0 0, vi 0, vw 0]) * (eT e p rp t * (bn p rp σ * (xT xb x t * (aK x σ * R)))))) H →
  wp (JM (vi now) (vi most) (vp pb) (vp rb) x13 x14 (vp e) (vp xb) (vi (k : Int)) H) fun v' H' => v' = .tuple #[.agg (ef res.2.1.code).toArray, vi res.2.2, vb true] ∧ ae (bn p rp res.1 * aK x res.1 * R) H' := by
 intro fuel
 induction fuel with
 | zero => intro k K σ t H _ h; cases h
 | succ fuel ih =>
  intro k K σ t H hk ha S T hK h;have K1 := HW (now + k) (by omega) S T;unfold uJ at ha;refine ah (VZ ..) ?_;refine aa (cK (by omega)) ?_;refine gs ?_;refine ah (V0 ..) ?_;refine aa (aM (by omega) (by omega)) ?_
  have h1 : ae (eP e p rp σ t * (blk pb (.cells false [vp p, vp x]) * (blk rb (.cells false [vi 0, .slice none 0 0, vi 0, vw 0]) * (xT xb x t * (aK x σ * R))))) H := by
   rw [QO, ai]; exact h.to
  refine ag h1 (Lz e p rp σ t (now + k) (S.ok (by omega)) T) fun _ H2 h2 => ?_;refine aa (v := .agg (ef (if (ak σ t (now + k)).2.2 = true then (ak σ t (now + k)).2.1.code else 0)).toArray) rfl ?_;refine aa (v := vb (ak σ t (now + k)).2.2) rfl ?_;refine bf h2 fun qb H3 h3 => ?_;refine cX h3 rfl rfl fun H4 h4 => ?_;refine aa (aM (by omega) (by omega)) ?_
  have h5 : ae (xP xb x σ t * (eQ e p rp (ak σ t (now + k)) * (blk qb (.cells false (ef (if (ak σ t (now + k)).2.2 = true then (ak σ t (now + k)).2.1.code else 0))) * (blk pb (.cells false [vp p, vp x]) * (blk rb (.cells false [vi 0, .slice none 0 0, vi 0, vw 0]) * R))))) H4 := by
   rw [aiQ, ai]; exact h4.to
  refine ag h5 (If xb x σ t (now + k) (S.ok (by omega)) T) fun _ H6 h6 => ?_;refine aa (ajP _) ?_;rw [aiR, ahO] at h6;refine qu ?_;refine aJ h6 ?_;refine gs ?_;refine ag h6 (acT x xb (ak σ t (now + k))) fun _ H7 h7 => ?_;refine dA h7 h6 (by rfl) ?_;refine CB ?_;refine ag h7 (xl _) fun _ H8 h8 => ?_;refine qu ?_;refine aa Ah ?_;rw [Bool.not_true];refine aa (JZ _ _) ?_;refine akA (p := p) (x := x) (pb := pb) (rp := rp) (σ := (ak σ t (now + k)).1) h8 fun H9 h9 => ?_;refine gs ?_;cases hd : (ak σ t (now + k)).2.2
  ·rw [hd] at ha
   rw [if_neg (by simp)] at ha;refine gs ?_;refine ah (V1 ..) ?_;refine aa (aM (by omega) (by omega)) ?_;rw [show ((k : Nat) : Int) + 1 = ((k + 1 : Nat) : Int) from by omega];rw [ak5 hd, aiS hd] at h9;refine ih (k + 1) (K + 3) _ _ H9 (by omega) (by rw [← ha]; congr 1; omega) K1.si (K1.ok hd) (by omega) h9.to
  ·rw [hd, if_pos rfl] at ha
   obtain rfl := gr ha;rw [hd, if_pos rfl] at h9;refine gs ?_;refine aJ h9 ?_;refine aa (aM (by omega) (by omega)) ?_;refine aa (aM (by omega) (by omega)) ?_;refine cX h9 rfl rfl fun HA hA => ?_;refine aJ hA ?_;exact aq ⟨rfl, hA.to⟩
theorem Pf (σ : aN) (K : Nat) (S : SI σ K) (who place : Int) (c : Cl) (now : Int) (fuel : Nat) (hnow : 0 ≤ now ∧ now < 1000000) (hm : fuel < 1000) (hK : K + 1 + 3 * fuel < 300000) (res : aN × Tk × Int)
 (ha : uJ fuel (σ.begin who place) (Tk.new σ.c who c) now = some res) :
 Sp aaT [.agg [vp p, vp x].toArray, vi who, vi place, .agg (Cl.cells c).toArray, vi now, vi (fuel : Int)] (bn p rp σ * aK x σ) (fun _ : Unit => .tuple #[.agg (ef res.2.1.code).toArray, vi res.2.2, vb true]) (fun _ => bn p rp res.1 * aK x res.1) := by
 have S1 := S.begin who place;have hb : bZ (σ.begin who place).c = true := S.c;refine br (ajN _ _ _ _ _ _) fun R H h => ?_;refine aS (l := [vp p, vp x]) h fun pb H1 h1 => ?_;refine aS h1 fun cb H2 h2 => ?_;refine bf h2 fun rb H3 h3 => ?_;refine aJ h3 ?_;refine ag h3 (EK p x rp σ who place (by have := S.N; omega)) fun _ H4 h4 => ?_;refine aj h4 aA rfl ?_;refine aJ h4 ?_;refine ag h4 (Ly p rp (σ.begin who place) hb who c) fun e H5 h5 => ?_;refine bz aA ?_;refine aR h5 rfl ?_;refine aH h4 h5 (by rfl) ?_;refine aJ h5 ?_;refine dA h4 h5 rfl ?_;refine ag h5 (AL x (σ.begin who place) who c 0) fun xb H6 h6 => ?_;refine aa (v := vb false) rfl ?_;refine gs ?_;refine ah (VX ..) ?_;refine ah (VY ..) ?_;refine Aj ?_ (Ny p x rp now fuel pb rb e xb (vi 0) (vb false) res hnow (by omega) (R := R) fuel 0 (K + 1) (σ.begin who place) (Tk.new σ.c who c) H6 (by omega) (by rw [← ha]; congr 1; omega) S1 (hU.new hb who c) (by omega) h6.to)
 rintro v' H' ⟨rfl, h7⟩
 exact ⟨(), rfl, h7⟩
end
theorem aaQ {n x : Mf} : ∀ {M : List Mf}, x ∈ pz n M → x = n ∨ x ∈ M := by
 intro M
 induction M with
 | nil => intro h; exact .inl (List.mem_singleton.1 h)
 | cons a l ih =>
  intro h;have h2 : x ∈ (if a.id < n.id then a :: pz n l else n :: a :: l) := h
  split at h2
  ·rcases vj.1 h2 with h3 | h3
   ·exact .inr (h3 ▸ List.mem_cons_self ..)
   ·rcases ih h3 with h4 | h4
    ·exact .inl h4
    ·exact .inr (List.mem_cons_of_mem _ h4)
  ·rcases vj.1 h2 with h3 | h3
   ·exact .inl h3
   ·exact .inr h3
theorem aaF {n : Mf} : ∀ {M : List Mf}, (pz n M).length = M.length + 1 := by
 intro M
 induction M with
 | nil => rfl
 | cons a l ih =>
  show (if a.id < n.id then a :: pz n l else n :: a :: l).length = _
  split
  ·rw [List.length_cons, ih]; rfl
  ·rfl
structure Ns (M : List Mf) (k : Nat) : Prop where
 n : M.length ≤ k
 L : ∀ a ∈ M, a.L.length ≤ k
theorem Ns.do {c : eg} {M : List Mf} {k : Nat} (h : Ns M k) (x : Cl) (ho : x.op = 1 ∨ x.op = 2 ∨ x.op = 3) : Ns (tH c M x).1 (k + 1) := by
 have same : Ns M (k + 1) := ⟨fy h.n (by omega), fun a ha => fy (h.L a ha) (by omega)⟩
 rcases ho with ho | ho | ho
 ·rw [Eo ho]
  split
  ·exact same
  ·split
   ·exact same
   ·split
    ·exact same
    ·refine ⟨by rw [aaF]; have := h.n; omega, fun a ha => ?_⟩
     rcases aaQ ha with rfl | ha
     ·exact Nat.zero_le _
     ·exact same.L a ha
 ·rw [Hk ho]
  split
  ·exact same
  ·split
   ·exact ⟨fy (List.length_filter_le ..) same.n, fun a ha => same.L a (List.mem_filter.1 ha).1⟩
   ·exact same
 ·rw [xx ho]
  split
  ·exact same
  ·split
   ·exact same
   ·split
    ·exact same
    ·refine ⟨by unfold Gc; rw [pw]; exact same.n, fun a ha => ?_⟩
     unfold Gc at ha;rw [List.mem_map] at ha;obtain ⟨b, hb, e⟩ := ha
     split at e
     ·subst e
      have := h.L b hb;show (b.L ++ _).length ≤ _;rw [sn];show b.L.length + 1 ≤ _;omega
     ·subst e; exact same.L _ hb
theorem Kw {M : List Gf} (h : M.Pairwise fun a b => a.1.id < b.1.id) : FY (M.map fun g => g.1) := List.pairwise_map.2 h
theorem Xr : ∀ (n : Nat) (σ : aN) (t : Tk) (now : Int), t.x.op = 3 → uJ n σ t now = i9 n σ t now := by
 intro n
 induction n with
 | zero => intro σ t now _; rfl
 | succ n ih =>
  intro σ t now h;unfold uJ i9;rw [cg h, ih _ _ _ (by rw [Kx]; exact h)]
theorem abU {H0 : AH} (hT : H0.get 0 = some (.cells true tabC)) (c : eg) (s : Value) (L : List Cl) [hR : Rd (Nn H0) s 4 Cl.cells L] :
 ∃ H', FF jI [.agg (eg.cells c).toArray, s] H0 = some (vb true, H') := by
 have key : wp (FF jI [.agg (eg.cells c).toArray, s] H0) fun v' _ => v' = vb true := by
  haveI := CV hT
  refine bg (fun r => Bj _ _ H0) ?_;refine aS (l := eg.cells c) (zp H0) fun b1 H1 h1 => ?_;refine aJ h1 ?_;refine ag h1 (zv c 0 (by omega)) fun q H3 h3 => ?_;obtain ⟨p, x, c'⟩ := q;dsimp only at h3 ⊢;rw [ai, ae.pu] at h3;obtain ⟨⟨hc, hpc⟩, h3⟩ := h3;refine aa (v := .agg [vp p, vp x].toArray) rfl ?_;refine aa (v := vb true) rfl ?_;refine bf h3 fun pb H4 h4 => ?_;refine cX h4 rfl rfl fun H5 h5 => ?_;refine aJ h5 ?_;refine ag h5 (me c) fun c2 H6 h6 => ?_;rw [ae.pu] at h6;obtain ⟨⟨_, hpc2⟩, h6⟩ := h6
  obtain rfl : c2 = c' := by rw [hpc, hpc2]
  refine ag h6 (Ho c2) fun m H7 h7 => ?_;refine Id h7 fun H8 h8 => ?_;refine gs ?_;rw [Bool.not_true];refine gs ?_;rw [Bool.not_true];refine gs ?_;refine ah (vc ..) ?_;refine ah (vf ..) ?_;have M := so c2 hc 0 (by omega);have M16 : SI (aN.made c2 0) 16 := M.si.mono (by omega);have hsl := bo.1 hc;obtain ⟨rp, h9⟩ := EM (p := p) (σ := aN.made c2 0) (R := aK x (aN.made c2 0) * (O7 m c2 [] * (blk pb (.cells false [vp p, vp x]) * Nn H0))) (H := H8) h8.to;have loop : ∀ (d i K : Nat) (now : Int) (rp : List Nat) (σ : aN) (M : List Gf) (H : AH), i + d = min L.length 30 → SI σ K → QS σ i → jt σ M → Ns (M.map fun g => g.1) i → σ.c = c2 → K ≤ 16 + 130 * i → 0 ≤ now → now ≤ 40 * i → ae (bn p rp σ * (aK x σ * (O7 m c2 (M.map fun g => g.1) * (blk pb (.cells false [vp p, vp x]) * Nn H0)))) H →
   wp (iX s (vb false) (vp pb) (vp m) (vi now) (vi (i : Int)) H) fun v' _ => v' = vb true := by
   intro d
   induction d with
   | zero =>
    intro i K now rp σ M H hi S J R ML hcc hK h0 hn h;refine ah (mY ..) ?_;refine gi (s := s) (l := L) h ?_
    have fin : wp (jC (vb false) H) fun v' _ => v' = vb true := by
     refine ah (sk ..) ?_;refine ah (vd ..) ?_;exact aq rfl
    by_cases hl : i < L.length
    ·refine aa (cK (by omega)) ?_
     refine gs ?_;refine aa (ch (by omega)) ?_;refine gs ?_;exact fin
    ·refine aa (ch (by omega)) ?_
     refine gs ?_;exact fin
   | succ d ih =>
    intro i K now rp σ M H hi S J R ML hcc hK h0 hn h
    have hil : i < L.length := by omega
    refine ah (mY ..) ?_;refine gi (s := s) (l := L) h ?_;refine aa (cK (by omega)) ?_;refine gs ?_;refine aa (cK (by omega)) ?_;refine gs ?_;refine ah (vg ..) ?_;refine Qj (s := s) (l := L) h hil ?_;refine ag h (T3 L[i] i) fun y H8 h8 => ?_;rw [ae.pu] at h8;obtain ⟨hy, h8⟩ := h8;refine bf h8 fun yb H9 h9 => ?_;refine cX h9 rfl rfl fun H10 h10 => ?_;refine aJ h10 ?_;refine aa (nE (by omega)) ?_;refine aJ h10 ?_;have hA : ae (O7 m c2 (M.map fun g => g.1) * (blk pb (.cells false [vp p, vp x]) * Nn H0)) H10 := h10.to;obtain ⟨ms, fv, Q, _, hB⟩ := Eu hA;refine aj hB (bV (aO (aO aY))) rfl ?_;refine aa (aM (by omega) (by omega)) ?_;rw [show c2.sl + 11 = ((c2.sl.toNat + 11 : Nat) : Int) from by omega];obtain ⟨res, ha, hQ, hcode, M', R', hM'⟩ := EE (σ := σ.begin ((i : Int).tmod 3) i) (M := M) ⟨R.srt, R.ids, R.fl, R.w, R.slot, R.hd⟩ (J.begin ((i : Int).tmod 3) i) (by omega) (S.begin ((i : Int).tmod 3) i) (by omega) ((i : Int).tmod 3) y hy now;have hca : (σ.begin ((i : Int).tmod 3) i).c = c2 := hcc;rw [hca] at ha hcode hM';obtain ⟨k1, k2, k3, k4⟩ := rz (c2.sl.toNat + 11) _ _ now (K + 1) res (S.begin ((i : Int).tmod 3) i) (by rw [← hcc]; exact FX.new' S.c _ _ y) (by omega) ha;refine ag h10 (GI p x rp σ K S ((i : Int).tmod 3) i y now (c2.sl.toNat + 11) (by omega) (by omega) (by omega) res (by rw [hcc]; exact ha)) fun rp' H12 h12 => ?_;rw [ai, ae.pu] at h12;obtain ⟨_, h12⟩ := h12;rw [hcode];refine aa (v := .agg (ef (tH c2 (M.map fun g => g.1) y).2).toArray) rfl ?_;refine aa (v := vi res.2.2) rfl ?_;refine aa (v := vb true) rfl ?_;refine bf h12 fun rb H13 h13 => ?_;refine cX h13 rfl rfl fun H14 h14 => ?_;refine gs ?_;rw [Bool.not_true];refine gs ?_;refine aJ h14 ?_;refine gs ?_;refine aJ h14 ?_;refine gs ?_;refine ag h14 (EC m c2 (M.map fun g => g.1) y hc (Kw R.srt) (by have := ML.n; omega) (fun a ha => by have := ML.L a ha; omega) hy) fun _ H15 h15 => ?_;refine dA h15 h14 rfl ?_;refine gs ?_;refine ag h15 (xl _) fun _ H16 h16 => ?_;refine gs ?_;rw [Bool.not_true];refine gs ?_;refine ah (vh ..) ?_;refine aa (aM (by omega) (by omega)) ?_;have ML' := ML.do (c := c2) y hy;rw [← hM'] at ML' h16;exact ih (i + 1) (K + 1 + 3 * (c2.sl.toNat + 11)) res.2.2 rp' res.1 M' H16 (by omega) k1 hQ R' ML' (k2.trans hca) (by omega) (by omega) (by omega) h16.to
  exact loop (min L.length 30) 0 16 0 rp (aN.made c2 0) [] H8 (by omega) M16 (QS.made c2 hc 0 (by omega)) (jt.new c2) ⟨bI _, fun a h => by cases h⟩ rfl (by omega) (by omega) (by omega) h9
 obtain ⟨v, H', e, rfl⟩ := key;exact ⟨H', e⟩
theorem regModel_args {H0 : AH} (hT : H0.get 0 = some (.cells true tabC)) {xc : CfgTy.I} {cc : List Value} (hc : Abs H0 CfgTy xc cc) {l : List ClTy.I} {v : Value} (hl : Abs H0 (.slice ClTy) l [v]) :
 ∃ H', FF jI [.agg cc.toArray, v] H0 = some (vb true, H') := by
 obtain ⟨c, rfl⟩ := Ir hc
 haveI := CU hl
 exact abU hT c v (l.map Qg)
theorem WW {P : SP} {H : AH} {k : Value × AH → OV} {Q : Value → AH → Prop} (h : ae P H) [i : Hs P 0 (.cells true tabC)] (hk : ∀ H', ae P H' → wp (k (vb true, H')) Q) : wp ((FF su [] H).bind k) Q := by
 obtain ⟨H', e, _, hg⟩ := Dc (D := []) (fun j hj => by cases hj) (by decide) TT (i.get h);have e' : FF su [] H = some (vb true, H') := e;rw [e'];exact hk H' (h.keeps hg)
theorem Ta (c : eg) : ∀ n, Ns (Ep c n) n := by
 intro n
 induction n with
 | zero => exact ⟨bI _, fun a h => by cases h⟩
 | succ n ih => exact ih.do _ (.inl rfl)
theorem XX {H0 : AH} (hT : H0.get 0 = some (.cells true tabC)) (c : eg) (s : Value) (L : List Cl) [hR : Rd (Nn H0) s 4 Cl.cells L] :
 ∃ H', FF jG [.agg (eg.cells c).toArray, s] H0 = some (vb true, H') := by
 have key : wp (FF jG [.agg (eg.cells c).toArray, s] H0) fun v' _ => v' = vb true := by
  haveI := CV hT
  refine bg (fun r => Bf _ _ H0) ?_;refine aS (l := eg.cells c) (zp H0) fun b1 H1 h1 => ?_;refine aJ h1 ?_;refine ag h1 (zv c 4 (by omega)) fun q H3 h3 => ?_;obtain ⟨p, x, c'⟩ := q;dsimp only at h3 ⊢;rw [ai, ae.pu] at h3;obtain ⟨⟨hc, hpc⟩, h3⟩ := h3;refine aa (v := .agg [vp p, vp x].toArray) rfl ?_;refine aa (v := vb true) rfl ?_;refine bf h3 fun pb H4 h4 => ?_;refine cX h4 rfl rfl fun H5 h5 => ?_;refine aJ h5 ?_;refine ag h5 (me c) fun c2 H6 h6 => ?_;rw [ae.pu] at h6;obtain ⟨⟨_, hpc2⟩, h6⟩ := h6
  obtain rfl : c2 = c' := by rw [hpc, hpc2]
  refine ag h6 (Ho c2) fun m H7 h7 => ?_;refine WW h7 fun H8 h8 => ?_;refine gs ?_;rw [Bool.not_true];refine gs ?_;rw [Bool.not_true];refine gs ?_;refine ah (u0 ..) ?_;refine ah (tY ..) ?_;have M := so c2 hc 4 (by omega);have M16 : SI (aN.made c2 4) 16 := M.si.mono (by omega);have hsl := bo.1 hc;have loop : ∀ (d i K : Nat) (now : Int) (rp : List Nat) (σ : aN) (M : List Gf) (H : AH), i + d = min L.length 30 → SI σ K → QS σ i → jt σ M → Ns (M.map fun g => g.1) (i + 4) → σ.c = c2 → K ≤ 16 + 130 * i → 0 ≤ now → now ≤ 40 * i → ae (bn p rp σ * (aK x σ * (O7 m c2 (M.map fun g => g.1) * (blk pb (.cells false [vp p, vp x]) * Nn H0)))) H →
   wp (iW s (vb false) (vp pb) (vp m) (vi now) (vi (i : Int)) H) fun v' _ => v' = vb true := by
   intro d
   induction d with
   | zero =>
    intro i K now rp σ M H hi S J R ML hcc hK h0 hn h;refine ah (mX ..) ?_;refine gi (s := s) (l := L) h ?_
    have fin : wp (jB (vb false) H) fun v' _ => v' = vb true := by
     refine ah (se ..) ?_;refine ah (u5 ..) ?_;exact aq rfl
    by_cases hl : i < L.length
    ·refine aa (cK (by omega)) ?_
     refine gs ?_;refine aa (ch (by omega)) ?_;refine gs ?_;exact fin
    ·refine aa (ch (by omega)) ?_
     refine gs ?_;exact fin
   | succ d ih =>
    intro i K now rp σ M H hi S J R ML hcc hK h0 hn h
    have hil : i < L.length := by omega
    refine ah (mX ..) ?_;refine gi (s := s) (l := L) h ?_;refine aa (cK (by omega)) ?_;refine gs ?_;refine aa (cK (by omega)) ?_;refine gs ?_;refine ah (u7 ..) ?_;refine Qj (s := s) (l := L) h hil ?_;refine ag h (Hv L[i]) fun y0 H8 h8 => ?_;refine bf h8 fun yb H9 h9 => ?_;refine cX h9 rfl rfl fun HZ hZ => ?_;refine bi hZ aA rfl rfl fun H10 h10 => ?_;obtain ⟨y, ey⟩ : ∃ y : Cl, y = ⟨3, y0.flow, y0.a, y0.b⟩ := ⟨_, rfl⟩
    have hy3 : y.op = 3 := by rw [ey]
    have hy : y.op = 1 ∨ y.op = 2 ∨ y.op = 3 := .inr (.inr hy3)
    have ec : [vi 3, vi y0.flow, vi y0.a, vi y0.b] = Cl.cells y := by rw [ey]
    rw [ec] at h10;refine aJ h10 ?_;refine aa (nE (by omega)) ?_;refine aJ h10 ?_;have hA : ae (O7 m c2 (M.map fun g => g.1) * (blk pb (.cells false [vp p, vp x]) * Nn H0)) H10 := h10.to;obtain ⟨ms, fv, Q, _, hB⟩ := Eu hA;refine aj hB (bV (aO (aO aY))) rfl ?_;refine aa (aM (by omega) (by omega)) ?_;rw [show c2.sl + 11 = ((c2.sl.toNat + 11 : Nat) : Int) from by omega];obtain ⟨res, ha, hQ, hcode, M', R', hM'⟩ := EE (σ := σ.begin ((i : Int).tmod 3) i) (M := M) ⟨R.srt, R.ids, R.fl, R.w, R.slot, R.hd⟩ (J.begin ((i : Int).tmod 3) i) (by omega) (S.begin ((i : Int).tmod 3) i) (by omega) ((i : Int).tmod 3) y hy now;have hca : (σ.begin ((i : Int).tmod 3) i).c = c2 := hcc;rw [hca] at ha hcode hM';obtain ⟨k1, k2, k3, k4⟩ := rz (c2.sl.toNat + 11) _ _ now (K + 1) res (S.begin ((i : Int).tmod 3) i) (by rw [← hcc]; exact FX.new' S.c _ _ y) (by omega) ha
    have ha2 : uJ (c2.sl.toNat + 11) (σ.begin ((i : Int).tmod 3) i) (Tk.new σ.c ((i : Int).tmod 3) y) now = some res := by
     rw [Xr _ _ _ _ hy3, hcc];rw [show Tk.newA c2 ((i : Int).tmod 3) y = Tk.new c2 ((i : Int).tmod 3) y from if_pos hy3] at ha;exact ha
    refine ag h10 (Pf p x rp σ K S ((i : Int).tmod 3) i y now (c2.sl.toNat + 11) (by omega) (by omega) (by omega) res ha2) fun _ H12 h12 => ?_;rw [hcode];refine aa (v := .agg (ef (tH c2 (M.map fun g => g.1) y).2).toArray) rfl ?_;refine aa (v := vi res.2.2) rfl ?_;refine aa (v := vb true) rfl ?_;refine bf h12 fun rb H13 h13 => ?_;refine cX h13 rfl rfl fun H14 h14 => ?_;refine gs ?_;rw [Bool.not_true];refine gs ?_;refine aJ h14 ?_;refine gs ?_;refine aJ h14 ?_;refine gs ?_;refine ag h14 (EC m c2 (M.map fun g => g.1) y hc (Kw R.srt) (by have := ML.n; omega) (fun a ha => by have := ML.L a ha; omega) hy) fun _ H15 h15 => ?_;refine dA h15 h14 rfl ?_;refine gs ?_;refine ag h15 (xl _) fun _ H16 h16 => ?_;refine gs ?_;rw [Bool.not_true];refine gs ?_;refine ah (u9 ..) ?_;refine aa (aM (by omega) (by omega)) ?_;have ML' := ML.do (c := c2) y hy;rw [← hM'] at ML' h16;exact ih (i + 1) (K + 1 + 3 * (c2.sl.toNat + 11)) res.2.2 rp res.1 M' H16 (by omega) k1 hQ R' ML' (k2.trans hca) (by omega) (by omega) (by omega) h16.to
  have regs : ∀ (d n : Nat) (H : AH), n + d = 4 → ae (O7 m c2 (Ep c2 n) * (fC p (aN.made c2 4) * (aK x (aN.made c2 4) * (blk pb (.cells false [vp p, vp x]) * Nn H0)))) H → wp (ic s (vb false) (vp pb) (vp m) (vi (n : Int)) H) fun v' _ => v' = vb true := by
   intro d
   induction d with
   | zero =>
    intro n H hn h
    obtain rfl : n = 4 := by omega
    refine ah (lQ ..) ?_;refine aa (ch (by omega)) ?_;refine gs ?_;refine ah (rj ..) ?_;refine ah (u3 ..) ?_;refine ah (u4 ..) ?_;refine ah (u6 ..) ?_;obtain ⟨M4, R4, hM4, _⟩ := Mg c2 hc 4 (by omega);rw [← hM4] at h;obtain ⟨rp, h9⟩ := EM (p := p) (σ := aN.made c2 4) (R := aK x (aN.made c2 4) * (O7 m c2 (M4.map fun g => g.1) * (blk pb (.cells false [vp p, vp x]) * Nn H0))) (H := H) h.to;exact loop (min L.length 30) 0 16 0 rp (aN.made c2 4) M4 H (by omega) M16 (QS.made c2 hc 4 (by omega)) R4 (by rw [hM4]; exact Ta c2 4) (vl c2 4).1 (by omega) (by omega) (by omega) h9
   | succ d ih =>
    intro n H hn h;obtain ⟨M4, R4, hM4, _⟩ := Mg c2 hc n (by omega)
    have hs : FY (Ep c2 n) := by rw [← hM4]; exact Kw R4.srt
    have hl := Ta c2 n;refine ah (lQ ..) ?_;refine aa (cK (by omega)) ?_;refine gs ?_;refine ah (tZ ..) ?_;refine aa (aM (by omega) (by omega)) ?_;refine aa (nE (by omega)) ?_;have t2 : 0 ≤ (n : Int).tmod 2 ∧ (n : Int).tmod 2 < 2 := ⟨Int.tmod_nonneg _ (by omega), Int.tmod_lt_of_pos _ (by omega)⟩;refine aa (aM (by omega) (by omega)) ?_;refine iz ?_;refine ag h (EC m c2 (Ep c2 n) ⟨1, n, 1 + n, 2 + (n : Int).tmod 2⟩ hc hs (by have := hl.n; omega) (fun a ha => by have := hl.L a ha; omega) (.inl rfl)) fun _ H3 h3 => ?_;refine ah (t3 ..) ?_;refine aa (aM (by omega) (by omega)) ?_;rw [show ((n : Nat) : Int) + 1 = ((n + 1 : Nat) : Int) from by omega];refine ih (n + 1) H3 (by omega) ?_;show ae (O7 m c2 (tH c2 (Ep c2 n) ⟨1, n, 1 + n, 2 + (n : Int).tmod 2⟩).1 * (fC p (aN.made c2 4) * (aK x (aN.made c2 4) * (blk pb (.cells false [vp p, vp x]) * Nn H0)))) H3;exact h3.to
  refine regs 4 0 H8 (by omega) ?_;show ae (O7 m c2 [] * (fC p (aN.made c2 4) * (aK x (aN.made c2 4) * (blk pb (.cells false [vp p, vp x]) * Nn H0)))) H8;exact h8.to
 obtain ⟨v, H', e, rfl⟩ := key;exact ⟨H', e⟩
theorem enqModel_args {H0 : AH} (hT : H0.get 0 = some (.cells true tabC)) {xc : CfgTy.I} {cc : List Value} (hc : Abs H0 CfgTy xc cc) {l : List ClTy.I} {v : Value} (hl : Abs H0 (.slice ClTy) l [v]) :
 ∃ H', FF jG [.agg cc.toArray, v] H0 = some (vb true, H') := by
 obtain ⟨c, rfl⟩ := Ir hc
 haveI := CU hl
 exact XX hT c v (l.map Qg)
section
variable {p : Nat} {g : PIds} {σ : aN}
theorem Pl (hl : g.rp.length = σ.obs.length) (who : Int) (o : Nat) (ho : o < σ.obs.length) (hN : σ.μ.N < 800000) : Sp ff [vp p, vi who, vi o] (aE p g σ) (fun _ : Unit => .agg (#[vi (σ.obs[o]).1.flow, vi (σ.obs[o]).1.most, vu (σ.obs[o]).1.r] : Array Value)) (fun _ => aE p g (σ.mem (σ.μ.acc who 5 (13, (o : Int), 0)))) := by
 have hz : ((σ.obs.map fun x => x.1).zip g.rp).length = σ.obs.length := by simp [hl]
 refine br (nl _ _ _) fun R H h => ?_;refine bf h fun b H1 h1 => ?_;refine ag h1 (sG p g σ hl o ho) fun _ H2 h2 => ?_;refine gs ?_;rw [Bool.not_true];refine gs ?_;refine aj h2 ac rfl ?_;refine iz ?_;refine ag h2 (KO (p := p) (g := g) (σ := σ) ((Mi g.m σ.μ who (13, (o : Int), 0) (by omega)).imp fun _ R H h => jE (N' := σ.μ.N + 2) (by simp) h)) fun _ H3 h3 => ?_;refine aj h3 ac rfl ?_;have h4 := h3;unfold aE at h4
 have ez : (F6 ((σ.obs.map fun x : Ob × List Pk => x.1).zip g.rp)[o]).take 3 = [vi (σ.obs[o]).1.flow, vi (σ.obs[o]).1.most, vu (σ.obs[o]).1.r] := by
  rw [List.getElem_zip, List.getElem_map]
  rfl
 refine Tz (enc := F6) (l := (σ.obs.map fun x : Ob × List Pk => x.1).zip g.rp) h4 (by omega) (by omega) ez ?_;refine cX h3 rfl rfl fun H5 h5 => ?_;refine aJ h5 ?_;exact aq ⟨(), rfl, h5.to⟩
theorem WB (m i rp : Nat) (cs : List Pk) : Sp kJ [vp rp] (cH m i rp cs) (fun _ : Unit => vi cs.length) (fun _ => cH m i rp cs) := by
 refine aP fun R H h => ?_;obtain ⟨cv, h0⟩ := cF h;refine bg (fun r => yC _ H) ?_;refine aj h0 ac rfl ?_;refine gi (s := cv) (l := cs) h0 ?_;exact aq ⟨(), rfl, h⟩
end
theorem Z0 (a b : Int) (r : Nat) : ap (.flat 3) .eql (.agg (#[vi a, vi b, vu r] : Array Value)) (.agg (#[vi a, vi b, vu r] : Array Value)) = some (vb true) := by
 show (qk (.flat 3) (.agg #[vi a, vi b, vu r]) (.agg #[vi a, vi b, vu r])).map (fun b => Value.bool b) = _;simp only [qk];rw [if_pos ⟨rfl, rfl⟩];simp [bM]
theorem Uc (c : eg) (hc : bZ c = true) (x : Cl) (ho : x.op = 1) (hr : dM x = none) : ju 30 ((aN.made c 0).begin 0 0) (Tk.newA c 0 x) 0 fun σ' code => code = 0 ∧ Newly ((aN.made c 0).begin 0 0) σ' (nH c x.flow) 0 x := by
 have hsl := bo.1 hc
 have ho3 : ¬ x.op = 3 := by omega
 rw [show Tk.newA c 0 x = Tk.newR c 0 x from if_neg ho3];refine .mono (n := c.sl.toNat + 11) (by omega) ?_;refine XW (σ := (aN.made c 0).begin 0 0) ho 0 hc rfl (fun e h => by rw [hr] at h; cases h) (fun _ j _ hj => ?_) (fun _ _ h => ?_) (fun _ _ m _ _ hm σ' a => ?_)
 ·exact absurd rfl (r9 hj)
 ·exact absurd rfl (h 0 (by show 0 < c.sl.toNat; omega))
 ·obtain rfl : m = 0 := by
   rcases Nat.eq_zero_or_pos m with h | h
   ·exact h
   ·exact absurd rfl (hm 0 h)
  exact ⟨rfl, a⟩
theorem abT {H0 : AH} (hT : H0.get 0 = some (.cells true tabC)) (c : eg) (y : Cl) :
 ∃ H', FF jH [.agg (eg.cells c).toArray, .agg (Cl.cells y).toArray] H0 = some (vb true, H') := by
 have key : wp (FF jH [.agg (eg.cells c).toArray, .agg (Cl.cells y).toArray] H0) fun v' _ => v' = vb true := by
  haveI := CV hT
  refine bg (fun r => Bi _ _ H0) ?_;refine aS (l := eg.cells c) (zp H0) fun b1 HA hA => ?_;refine aS (l := Cl.cells y) hA fun yb H1 h1 => ?_;refine aJ h1 ?_;refine ag h1 (zv c 0 (by omega)) fun q H3 h3 => ?_;obtain ⟨p, x, c'⟩ := q;dsimp only at h3 ⊢;rw [ai, ae.pu] at h3;obtain ⟨⟨hc, hpc⟩, h3⟩ := h3;refine aa (v := .agg [vp p, vp x].toArray) rfl ?_;refine aa (v := vb true) rfl ?_;refine bf h3 fun pb H4 h4 => ?_;refine cX h4 rfl rfl fun H5 h5 => ?_;refine Id h5 fun H6 h6 => ?_;refine gs ?_;rw [Bool.not_true];refine gs ?_;rw [Bool.not_true];refine gs ?_;have hsl := bo.1 hc;refine aj h6 aA rfl ?_;refine wj h6 (by omega) (by omega) fun H7 h7 => ?_;have m1 := gH (v := y.flow) (n := 1048577) (by omega);refine bz aA ?_;refine aR h7 rfl ?_;refine aH h6 h7 rfl ?_;refine wj h7 (by omega) (by omega) fun H8 h8 => ?_;have m2 := gH (v := y.a) (n := 65536) (by omega);refine aa (aM (by omega) (by omega)) ?_;refine bz aA ?_;refine aR h8 rfl ?_;refine aH h6 h8 rfl ?_;refine aH h7 h8 rfl ?_;refine wj h8 (by omega) (by omega) fun H9 h9 => ?_;have m3 := gH (v := y.b) (n := 8) (by omega);refine aa (aM (by omega) (by omega)) ?_;refine iz ?_;obtain ⟨z, hz⟩ : ∃ z : Cl, z = ⟨1, eJ y.flow 1048577, 1 + eJ y.a 65536, 1 + eJ y.b 8⟩ := ⟨_, rfl⟩
  have zo : z.op = 1 := by rw [hz]
  have zf : 0 ≤ z.flow ∧ z.flow ≤ 1048576 := by rw [hz]; dsimp only; omega
  have za : 1 ≤ z.a ∧ z.a ≤ 65536 := by rw [hz]; dsimp only; omega
  have zb : 1 ≤ z.b ∧ z.b ≤ 8 := by rw [hz]; dsimp only; omega
  have zr : dM z = none := by
   unfold dM;rw [if_pos zo, if_neg (by unfold lN; omega), if_neg (by omega), if_neg (by omega)]
  refine cX h9 rfl rfl fun H10 h10 => ?_
  have ec : [vi 1, vi (eJ y.flow 1048577), vi (1 + eJ y.a 65536), vi (1 + eJ y.b 8)] = Cl.cells z := by rw [hz]
  rw [ec] at h10;refine aJ h10 ?_;refine aJ h10 ?_;have M := so c' hc 0 (by omega);have M16 : SI (aN.made c' 0) 16 := M.si.mono (by omega);obtain ⟨rp, h11⟩ := EM (p := p) (σ := aN.made c' 0) (R := blk pb (.cells false [vp p, vp x]) * (aK x (aN.made c' 0) * (blk yb (.cells false (Cl.cells z)) * blk b1 (.cells false (eg.cells c))))) (H := H10) h10.to;obtain ⟨res, ha, hcode, Nw⟩ := Uc c' hc z zo zr;obtain ⟨k1, k2, k3, k4⟩ := rz 30 _ _ _ (16 + 1) res (M16.begin 0 0) (FX.new' (σ := aN.made c' 0) hc 0 0 z) (by omega) ha;refine ag h11 (GI p x rp (aN.made c' 0) 16 M16 0 0 z 0 30 (by omega) (by omega) (by omega) res ha) fun rp1 H12 h12 => ?_;rw [ai, ae.pu] at h12;obtain ⟨_, h12⟩ := h12;rw [hcode];refine aa (v := .agg (ef 0).toArray) rfl ?_;refine aa (v := vi res.2.2) rfl ?_;refine aa (v := vb true) rfl ?_;refine bf h12 fun qb H13 h13 => ?_;refine cX h13 rfl rfl fun H14 h14 => ?_;refine aJ h14 ?_;refine ag h14 (me c) fun c2 H15 h15 => ?_;rw [ae.pu] at h15;obtain ⟨⟨_, hpc2⟩, h15⟩ := h15
  obtain rfl : c2 = c' := by rw [hpc, hpc2]
  refine aa (v := vu c2.un) rfl ?_;refine bz aA ?_;refine aR h15 rfl ?_;refine aH h14 h15 rfl ?_;refine ag h15 (og c2.un z.a ⟨hsl.2.2.2.2.2.2.2.2.1, hsl.2.2.2.2.2.2.2.2.2⟩ za) fun _ H16 h16 => ?_;refine aa (v := vu (max (c2.un / z.a.toNat) 1)) rfl ?_;refine aa (v := vb true) rfl ?_;have hN := k1.N;obtain ⟨σ, hσ⟩ : ∃ σ, σ = res.1 := ⟨_, rfl⟩;rw [← hσ] at h16 Nw k1 hN;obtain ⟨n1, n2, n3⟩ := Nw;have n1' : σ.c = c2 := n1;have n3' : σ.obs = [((⟨z.flow, z.b, max (c2.un / z.a.toNat) 1⟩ : Ob), List.replicate (bP z.b) FW)] := n3
  have v0 : σ.μ.V (10, nH c2 z.flow, ((0 : Nat) : Int)) = cy z.flow 0 := by
   rw [n2, oX]
   rfl
  obtain ⟨s1, s2, s3⟩ := gh (f := z.flow) (o := 0) zf.1 (by omega);obtain ⟨g, hrp, hg, h17⟩ := dZ (p := p) (rp := rp1) (σ := σ) (R := blk pb (.cells false [vp p, vp x]) * (blk qb (.cells false (ef 0)) * (blk yb (.cells false (Cl.cells z)) * blk b1 (.cells false (eg.cells c))))) (H := H16) h16.to
  have hg' : g.rp.length = σ.obs.length := by rw [hrp]; exact hg
  have ho : 0 < σ.obs.length := by rw [n3']; simp
  obtain ⟨b0, hb0⟩ : ∃ b0, g.rp[0]? = some b0 := ⟨_, cS (by omega)⟩
  have hsh : σ.c.sh.toNat = c2.sh.toNat := by rw [n1']
  refine bz aA ?_;refine aR h17 rfl ?_;refine bz ac ?_;refine aR h17 rfl ?_;refine aj h17 aA rfl ?_;refine aj h17 ac rfl ?_;refine aj h17 aA rfl ?_;refine ag h17 (CD (p := p) (g := g) (σ := σ) (s7 g.tb g.m σ.c.sh.toNat σ.c.sl.toNat (by rw [n1']; omega) z.flow)) fun _ H18 h18 => ?_;refine aH h18 h17 (by rfl) ?_;refine aH h18 h17 (by rfl) ?_
  have esh : (z.flow.tmod ((σ.c.sh.toNat : Nat) : Int) + ((σ.c.sh.toNat : Nat) : Int)).tmod ((σ.c.sh.toNat : Nat) : Int) = nH c2 z.flow := by
   rw [n1', show ((c2.sh.toNat : Nat) : Int) = c2.sh from by omega]
  rw [esh];refine ag h18 (ue (p := p) (g := g) (σ := σ) (s8 g.tb g.m σ.c.sh.toNat σ.c.sl.toNat σ.μ 1 (nH c2 z.flow) ((0 : Nat) : Int) (by omega) (k1.V _))) fun _ H19 h19 => ?_;rw [v0, show gP (cy z.flow 0) = .tuple #[vi z.flow, vi 0, vb true] from by rw [gP, if_neg s2, s1, s3]; rfl];refine aa (v := vi z.flow) rfl ?_;refine aa (v := vi 0) rfl ?_;refine aa (v := vb true) rfl ?_;refine gs ?_;refine aj h19 aA rfl ?_;refine gs ?_;refine aa (bk rfl) ?_;refine gs ?_;refine aj h19 aA rfl ?_;refine gs ?_;refine aa (bk rfl) ?_;refine gs ?_;refine aj h19 aA rfl ?_;refine gs ?_;have ho1 : 0 < (σ.mem (σ.μ.acc 1 1 (10, nH c2 z.flow, ((0 : Nat) : Int)))).obs.length := ho;have hg1 : g.rp.length = (σ.mem (σ.μ.acc 1 1 (10, nH c2 z.flow, ((0 : Nat) : Int)))).obs.length := hg';refine ag h19 (Pl (p := p) (g := g) hg1 1 0 ho1 (by show σ.μ.N + 2 < _; omega)) fun _ H20 h20 => ?_
  have eo : (σ.obs[0]'ho).1 = ⟨z.flow, z.b, max (c2.un / z.a.toNat) 1⟩ := by simp only [n3']; rfl
  rw [show ((σ.mem (σ.μ.acc 1 1 (10, nH c2 z.flow, ((0 : Nat) : Int)))).obs[0]'ho1).1 = ⟨z.flow, z.b, max (c2.un / z.a.toNat) 1⟩ from eo];refine j5 ?_;refine bz aA ?_;refine gs ?_;refine aR h20 rfl ?_;refine aH h19 h20 (by rfl) ?_;refine j5 ?_;refine bz aA ?_;refine gs ?_;refine aR h20 rfl ?_;refine aH h19 h20 (by rfl) ?_;refine gs ?_;refine aa (v := .agg (#[vi z.flow, vi z.b, vu (max (c2.un / z.a.toNat) 1)] : Array Value)) rfl ?_;refine gs ?_;refine aa (Z0 _ _ _) ?_;refine gs ?_;refine aj h20 aA rfl ?_;refine gs ?_;obtain ⟨σ2, hσ2⟩ : ∃ σ2, σ2 = (σ.mem (σ.μ.acc 1 1 (10, nH c2 z.flow, ((0 : Nat) : Int)))).mem ((σ.mem (σ.μ.acc 1 1 (10, nH c2 z.flow, ((0 : Nat) : Int)))).μ.acc 1 5 (13, ((0 : Nat) : Int), 0)) := ⟨_, rfl⟩;rw [← hσ2] at h20
  have o2 : σ2.obs = σ.obs := by rw [hσ2]
  have hg2 : g.rp.length = σ2.obs.length := by rw [o2]; exact hg'
  have ho2 : 0 < σ2.obs.length := by rw [o2]; exact ho
  refine ag h20 (od (p := p) (g := g) (σ := σ2) hg2 0 b0 ho2 hb0) fun _ H21 h21 => ?_;refine aa (agD _) ?_;refine gs ?_;refine aj h21 aA rfl ?_;refine gs ?_;refine ag h21 (od (p := p) (g := g) (σ := σ2) hg2 0 b0 ho2 hb0) fun _ H22 h22 => ?_;refine gs ?_;refine ag h22 (Ij (p := p) hg2 ho2 hb0 (WB g.m 0 b0 (au σ2 0))) fun _ H23 h23 => ?_;refine j5 ?_;refine bz aA ?_;refine gs ?_;refine aR h23 rfl ?_;refine aH h21 h23 (by rfl) ?_;refine aH h22 h23 (by rfl) ?_;refine gs ?_
  have el : (((au σ2 0).length : Nat) : Int) = z.b := by
   unfold au;rw [o2, n3'];show ((List.replicate (bP z.b) FW).length : Int) = _;rw [List.length_replicate];have := mp z.b;omega
  refine aa (bk el) ?_;refine gs ?_;exact aq rfl
 obtain ⟨v, H', e, rfl⟩ := key;exact ⟨H', e⟩
theorem regCosts_args {H0 : AH} (hT : H0.get 0 = some (.cells true tabC)) {xc : CfgTy.I} {cc : List Value} (hc : Abs H0 CfgTy xc cc) {x : ClTy.I} {cx : List Value} (hx : Abs H0 ClTy x cx) :
 ∃ H', FF jH [.agg cc.toArray, .agg cx.toArray] H0 = some (vb true, H') := by
 obtain ⟨c, rfl⟩ := Ir hc;rw [XM hx];exact abT hT c (Qg x)
end Go.Proofs.YtghoamdlcjdfjaaGreatDoor.Gst
