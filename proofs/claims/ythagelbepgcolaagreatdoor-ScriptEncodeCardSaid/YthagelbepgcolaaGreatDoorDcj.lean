/- What the statements on scripts are made of: small plans. -/
import Derived.Test.YthagelbepgcolaaGreatDoorDci
namespace Go.Proofs.YthagelbepgcolaaGreatDoor.Gst
open Go Go.RowKit
set_option linter.unusedSimpArgs false
set_option linter.unusedVariables false
set_option maxHeartbeats 1000000

section
variable {α : Type} {P R : SP} {H : AH} {e : Nat} {enc : α → List Value} {l : List α} {Q : Value → AH → Prop}
/-- One field of a thing of an opened row is written over. -/
theorem w_rowSt {b j f : Nat} {k : AH → OV} {z : Value} {xs : List Value} (y : α) [E : Enc enc e] (h : Holds (blk b (.cells false (l.flatMap enc)) * R) H) (hj : j < l.length) (hf : f + 1 ≤ e) [c : Cel z xs] (hn : xs.length = 1) (hx : xs.all Value.oneCell' = true) (hy : splice (enc l[j]) f xs = enc y)
    (hk : ∀ H', Holds (blk b (.cells false ((l.set j y).flatMap enc)) * R) H' → wp (k H') Q) : wp (st 1 [.n, .f f] (vpo b (0 + j * e)) z H k) Q := by
  have hend : End [.n, .f f] (vpo b (0 + j * e)) b (j * e + f) := by
    intro R' k'
    rw [end_n (end_f end_nil)]
    rw [Nat.zero_add]
  unfold st
  have hc := c.eq
  subst hc
  rw [hend]
  have hlen := flat_len E.len l
  have hm : (j + 1) * e ≤ l.length * e := Nat.mul_le_mul_right _ (by omega)
  rw [Nat.add_mul] at hm
  rw [st_at h (by simpa using hn) (by omega) hx, Option.bind_some, flat_splice E.len l j hj f _ (by rw [hn]; exact hf) y hy]
  exact hk _ (h.set (.cells false ((l.set j y).flatMap enc)))
theorem row_cell {j f : Nat} [E : Enc enc e] (hj : j < l.length) (hf : f < e) : (l.flatMap enc)[0 + j * e + f]? = (enc l[j])[f]? := by
  rw [Nat.zero_add]; exact flat_field E.len l j hj f hf
end

/-- Calls up to a place may be encoded. -/
def Mk (ps : List (Sv × List Cl)) (i j : Nat) : Prop := ∀ (k m : Nat) (p : Sv × List Cl) (x : Cl), ps[k]? = some p → p.2[m]? = some x → (k < i ∨ k = i ∧ m < j) → okCl x = true
theorem Mk.set {ps : List (Sv × List Cl)} {i j : Nat} (h : Mk ps i j) (hi : i < ps.length) {y : Cl} (hy : okCl y = true) : Mk (ps.set i ((ps[i]).1, (ps[i]).2.set j y)) i (j + 1) := by
  intro k m p x h1 h2 h3
  rw [List.getElem?_set] at h1
  by_cases hk : i = k
  · subst hk
    rw [if_pos rfl, if_pos hi] at h1
    obtain rfl := Option.some.inj h1
    rw [List.getElem?_set] at h2
    by_cases hm : j = m
    · rw [if_pos hm] at h2
      split at h2
      · obtain rfl := Option.some.inj h2; exact hy
      · cases h2
    · rw [if_neg hm] at h2
      exact h i m _ x (List.getElem?_eq_getElem hi) h2 (by omega)
  · rw [if_neg hk] at h1
    exact h k m p x h1 h2 (by omega)
theorem Mk.next {ps : List (Sv × List Cl)} {i j : Nat} (h : Mk ps i j) (hi : i < ps.length) (hj : j = (ps[i]).2.length) : Mk ps (i + 1) 0 := by
  intro k m p x h1 h2 h3
  by_cases hk : k = i
  · subst hk
    rw [List.getElem?_eq_getElem hi] at h1
    obtain rfl := Option.some.inj h1
    refine h k m _ x (List.getElem?_eq_getElem hi) h2 (.inr ⟨rfl, ?_⟩)
    have := (List.getElem?_eq_some_iff.1 h2).1
    omega
  · exact h k m p x h1 h2 (by omega)
theorem Mk.all {ps : List (Sv × List Cl)} {i : Nat} (h : Mk ps i 0) (hi : ps.length ≤ i) : ∀ l ∈ ps.map (·.2), ∀ x ∈ l, okCl x = true := by
  intro l hl x hx
  obtain ⟨p, hp, rfl⟩ := List.mem_map.1 hl
  obtain ⟨k, hk, rfl⟩ := List.getElem_of_mem hp
  obtain ⟨m, hm, rfl⟩ := List.getElem_of_mem hx
  exact h k m _ _ (List.getElem?_eq_getElem hk) (List.getElem?_eq_getElem hm) (.inl (by omega))
theorem sumL_same {ps : List (Sv × List Cl)} {i : Nat} (hi : i < ps.length) {q : Sv × List Cl} (hq : q.2.length = (ps[i]).2.length) : sumL ((ps.set i q).map (·.2)) = sumL (ps.map (·.2)) := by
  have := sumL_set (ll := ps.map (·.2)) (i := i) (by simpa using hi) q.2
  rw [List.map_set]
  simp only [List.getElem_map] at this
  omega

section
variable {P R X : SP} {v : Value} {ll : List (List Cl)}
def smallQ (P : SP) (n : Int) (y : Cfg × Sv) : SP := ex (fun ps : List (Sv × List Cl) => pu (rightB y.1 = true ∧ (ps.length : Int) = y.1.wk ∧ sumL (ps.map (·.2)) ≤ 60 ∧ (n.tmod 5 ≠ 0 → ∀ l ∈ ps.map (·.2), ∀ x ∈ l, okCl x = true)) * lsS y.2.v ps) * P
def smS (b b4 : Nat) (c : Cfg) (pv : Sv) (ps : List (Sv × List Cl)) (X : SP) : SP := blk b (.cells false (planV c pv.v)) * (blk b4 (.cells false [vi 0, vi 0, vi 0, vi 0, vw 0, .slice none 0 0]) * (ts 1 encS pv.v (ps.map (·.1)) * (rowsS ps * X)))
theorem modOk (x : Int) : okI (modI x 2147483648) = true := by
  have := modI_lt (v := x) (n := 2147483648) (by omega)
  unfold okI
  exact decide_eq_true (by omega)
theorem small_inner {b b4 : Nat} {c : Cfg} {pv : Sv} {Q : Value → AH → Prop} {i L : Nat} (hL : L ≤ 60) (hi : i < L) {m : Nat} (next : ∀ (ps : List (Sv × List Cl)) (H : AH), ps.length = L → sumL (ps.map (·.2)) = m → Mk ps (i + 1) 0 → Holds (smS b b4 c pv ps X) H → wp (l30_small_k9 (vp b) (vp b4) (vi i) H) Q) : ∀ (d j : Nat) (ps : List (Sv × List Cl)) (hps : ps.length = L) (H : AH),
    j + d = (ps[i]'(by omega)).2.length → (ps[i]'(by omega)).2.length ≤ 60 → sumL (ps.map (·.2)) = m → Mk ps i j → Holds (smS b b4 c pv ps X) H → wp (l30_small_k14 (vp b) (vp b4) (vi i) (vi j) H) Q := by
  intro d
  induction d with
  | zero =>
    intro j ps hps H hj h60 hm hk h
    refine wp_eq (l30_small_k14_eq _ _ _ _ H) ?_
    have h' := h
    unfold smS at h'
    have hil : i < ps.length := by omega
    have hqm : i < (ps.map (·.1)).length := by simpa using hil
    refine w_ld h' end_f0 rfl ?_
    refine w_rld1 (s := pv.v) (l := ps.map fun x : Sv × List Cl => x.1) h' hqm (v := (ps[i]).1.v) (by simp) ?_
    obtain ⟨Rr, e1, e2⟩ := rowsS_split hil
    rw [e1] at h'
    refine w_rlen (s := (ps[i]).1.v) (l := (ps[i]).2) h' ?_
    refine w_bind (lss_f (by omega)) ?_
    refine gs ?_
    refine wp_eq (l30_small_e13_2_eq _ _ _ H) ?_
    exact next ps H hps hm (hk.next hil (by omega)) h
  | succ d ih =>
    intro j ps hps H hj h60 hm hk h
    refine wp_eq (l30_small_k14_eq _ _ _ _ H) ?_
    have hil : i < ps.length := by omega
    have hqm : i < (ps.map (·.1)).length := by simpa using hil
    have hjl : j < (ps[i]).2.length := by omega
    obtain ⟨Rr, e1, e2⟩ := rowsS_split hil
    have h' := h
    unfold smS at h'
    rw [e1] at h'
    refine w_ld h' end_f0 rfl ?_
    refine w_rld1 (s := pv.v) (l := ps.map fun x : Sv × List Cl => x.1) h' hqm (v := (ps[i]).1.v) (by simp) ?_
    refine w_rlen (s := (ps[i]).1.v) (l := (ps[i]).2) h' ?_
    refine w_bind (lss_t (by omega)) ?_
    refine gs ?_
    refine wp_eq (l30_small_k15_eq _ _ _ _ H) ?_
    refine w_ld h' end_f0 rfl ?_
    refine w_rld1 (s := pv.v) (l := ps.map fun x : Sv × List Cl => x.1) h' hqm (v := (ps[i]).1.v) (by simp) ?_
    rcases ts_open (s := (ps[i]).1.v) (l := (ps[i]).2) h' with ⟨_, e0, _⟩ | ⟨br, hv, h2⟩
    · rw [e0] at hjl; simp at hjl
    have hsv : (ps[i]).1.v = vs br (ps[i]).2.length 4 := hv
    rw [hv]
    refine w_ad (end_i hjl end_nil) ?_
    have c0 : (((ps[i]).2).flatMap Cl.cells)[0 + j * 4 + 0]? = some (vi ((ps[i]).2[j]).op) := row_cell (enc := Cl.cells) (e := 4) hjl (by omega)
    have c1 : (((ps[i]).2).flatMap Cl.cells)[0 + j * 4 + 1]? = some (vi ((ps[i]).2[j]).flow) := row_cell (enc := Cl.cells) (e := 4) hjl (by omega)
    have c2 : (((ps[i]).2).flatMap Cl.cells)[0 + j * 4 + 2]? = some (vi ((ps[i]).2[j]).a) := row_cell (enc := Cl.cells) (e := 4) hjl (by omega)
    have c3 : (((ps[i]).2).flatMap Cl.cells)[0 + j * 4 + 3]? = some (vi ((ps[i]).2[j]).b) := row_cell (enc := Cl.cells) (e := 4) hjl (by omega)
    refine w_ld h2 (end_n (end_f end_nil)) c0 ?_
    refine w_call h2 (play_mod _ 2147483648 (by omega) (by omega)) fun _ J1 j1 => ?_
    refine w_ad (end_n (end_f end_nil)) ?_
    refine w_Ld1 j1 c1 ?_
    refine w_eq1 h2 j1 rfl ?_
    refine w_call j1 (play_mod _ 2147483648 (by omega) (by omega)) fun _ J2 j2 => ?_
    refine w_ad (end_n (end_f end_nil)) ?_
    refine w_Ld1 j2 c2 ?_
    refine w_eq1 h2 j2 rfl ?_
    refine w_eq1 j1 j2 rfl ?_
    refine w_call j2 (play_mod _ 2147483648 (by omega) (by omega)) fun _ J3 j3 => ?_
    refine w_ad (end_n (end_f end_nil)) ?_
    refine w_Ld1 j3 c3 ?_
    refine w_eq1 h2 j3 rfl ?_
    refine w_eq1 j1 j3 rfl ?_
    refine w_eq1 j2 j3 rfl ?_
    refine w_call j3 (play_mod _ 2147483648 (by omega) (by omega)) fun _ J4 j4 => ?_
    simp only [emp_sep] at j4
    generalize hx : (ps[i]).2[j] = x at *
    generalize hl : (ps[i]).2 = l at *
    refine w_rowSt (enc := Cl.cells) (e := 4) (l := l) (⟨modI x.op 2147483648, x.flow, x.a, x.b⟩ : Cl) j4 hjl (by omega) rfl rfl (by rw [hx]; rfl) fun K1 k1 => ?_
    refine w_rowSt (enc := Cl.cells) (e := 4) (⟨modI x.op 2147483648, modI x.flow 2147483648, x.a, x.b⟩ : Cl) k1 (by simpa using hjl) (by omega) rfl rfl (by rw [List.getElem_set_self]; rfl) fun K2 k2 => ?_
    refine w_rowSt (enc := Cl.cells) (e := 4) (⟨modI x.op 2147483648, modI x.flow 2147483648, modI x.a 2147483648, x.b⟩ : Cl) k2 (by simpa using hjl) (by omega) rfl rfl (by rw [List.getElem_set_self]; rfl) fun K3 k3 => ?_
    refine w_rowSt (enc := Cl.cells) (e := 4) (⟨modI x.op 2147483648, modI x.flow 2147483648, modI x.a 2147483648, modI x.b 2147483648⟩ : Cl) k3 (by simpa using hjl) (by omega) rfl rfl (by rw [List.getElem_set_self]; rfl) fun K4 k4 => ?_
    simp only [List.set_set] at k4
    refine wp_eq (l30_small_k16_eq _ _ _ _ K4) ?_
    refine w_bind (bin_add_i (by omega) (by omega)) ?_
    have k5 := ts_back (e := 4) (enc := Cl.cells) k4
    rw [List.length_set, ← hsv] at k5
    have hy : okCl ⟨modI x.op 2147483648, modI x.flow 2147483648, modI x.a 2147483648, modI x.b 2147483648⟩ = true := by
      unfold okCl
      simp only [modOk, Bool.and_self]
    have mk := hk.set hil hy
    rw [hl] at mk
    have hsm := sumL_same hil (q := ((ps[i]).1, l.set j ⟨modI x.op 2147483648, modI x.flow 2147483648, modI x.a 2147483648, modI x.b 2147483648⟩)) (by rw [hl]; simp)
    have hmap : (ps.set i ((ps[i]).1, l.set j ⟨modI x.op 2147483648, modI x.flow 2147483648, modI x.a 2147483648, modI x.b 2147483648⟩)).map (·.1) = ps.map (·.1) := by
      rw [List.map_set]
      refine List.ext_getElem (by simp) fun k hk1 hk2 => ?_
      rw [List.getElem_set]
      split
      · rename_i e; subst e; simp
      · rfl
    refine ih (j + 1) (ps.set i ((ps[i]).1, l.set j ⟨modI x.op 2147483648, modI x.flow 2147483648, modI x.a 2147483648, modI x.b 2147483648⟩)) (by rw [List.length_set]; exact hps) K4 ?_ ?_ (by rw [hsm]; exact hm) mk ?_
    · rw [List.getElem_set_self]; simp only [List.length_set]; omega
    · rw [List.getElem_set_self]; simp only [List.length_set]; omega
    · unfold smS
      rw [hmap, e2]
      exact k5.to
theorem l30_small_law [L : Ls P v ll] (c : Cfg) (n : Int) (hn : (ll.length : Int) < 9223372036854775808) (hb : ∀ l ∈ ll, (l.length : Int) < 9223372036854775808) :
    Sp n_l30_small [.agg (planV c v).toArray, vi n] P (fun y : Cfg × Sv => .agg (planV y.1 y.2.v).toArray) (fun y => smallQ P n y) := by
  refine sp_of fun R H h => ?_
  refine wp_of (fun r => l30_small_of _ _ H) ?_
  refine w_newC h fun b H1 h1 => ?_
  refine w_new h1 fun b4 H2 h2 => ?_
  refine w_LdN h2 ?_
  refine w_call h2 (play_plan (P := P) (v := v) (ll := ll) c hn hb) fun y H3 h3 => ?_
  obtain ⟨⟨sh, sl, wk, wd, un⟩, pv⟩ := y
  rw [sep_assoc] at h3
  obtain ⟨ps, h3b⟩ := Holds.ex.1 h3
  clear h3
  rw [sep_assoc, Holds.pu] at h3b
  obtain ⟨⟨hr, hpl, hps, hsm⟩, h3c⟩ := h3b
  dsimp only at hr hpl h3c
  dsimp only
  have hc := rightB_iff.1 hr
  dsimp only at hc
  refine w_St h3c rfl rfl fun H4 h4 => ?_
  have fin : ∀ (ps : List (Sv × List Cl)) (H : AH), (ps.length : Int) = wk → sumL (ps.map (·.2)) ≤ 60 → (n.tmod 5 ≠ 0 → ∀ l ∈ ps.map (·.2), ∀ x ∈ l, okCl x = true) → Holds (smS b b4 ⟨sh, sl, wk, wd, un⟩ pv ps (P * R)) H →
      wp (l30_small_k1 (vp b) (vp b4) H) fun v' H' => ∃ y : Cfg × Sv, v' = .agg (planV y.1 y.2.v).toArray ∧ Holds (smallQ P n y * R) H' := by
    intro ps H hp hs ha h
    refine wp_eq (l30_small_k1_eq _ _ H) ?_
    unfold smS at h
    refine w_LdN h ?_
    refine w_St h rfl rfl fun H5 h5 => ?_
    refine w_LdN h5 ?_
    refine w_ret ⟨(⟨sh, sl, wk, wd, un⟩, pv), rfl, ?_⟩
    unfold smallQ
    rw [sep_assoc]
    refine Holds.ex.2 ⟨ps, ?_⟩
    rw [sep_assoc]
    refine Holds.pu.2 ⟨⟨hr, hp, hs, ha⟩, ?_⟩
    unfold lsS
    exact h5.to
  have h5 : Holds (smS b b4 ⟨sh, sl, wk, wd, un⟩ pv ps (P * R)) H4 := by
    unfold smS
    unfold lsS at h4
    exact h4.to
  refine w_bind (rem_ii (by omega)) ?_
  by_cases h7 : n.tmod 5 = 0
  · refine w_bind (eql_t h7) ?_
    refine gs ?_
    exact wp_eq (l30_small_k1_eq _ _ H4).symm (fin ps H4 hpl hsm (fun h => absurd h7 h) h5)
  · refine w_bind (eql_f h7) ?_
    refine gs ?_
    refine wp_eq (l30_small_k0_eq _ _ H4) ?_
    refine wp_eq (l30_small_k5_eq _ _ _ H4) ?_
    have outer : ∀ (d i : Nat) (ps : List (Sv × List Cl)) (H : AH), i + d = ps.length → (ps.length : Int) = wk → sumL (ps.map (·.2)) ≤ 60 → Mk ps i 0 → Holds (smS b b4 ⟨sh, sl, wk, wd, un⟩ pv ps (P * R)) H →
        wp (l30_small_k7 (vp b) (vp b4) (vi i) H) fun v' H' => ∃ y : Cfg × Sv, v' = .agg (planV y.1 y.2.v).toArray ∧ Holds (smallQ P n y * R) H' := by
      intro d
      induction d with
      | zero =>
        intro i ps H hi hp hs hk h
        refine wp_eq (l30_small_k7_eq _ _ _ H) ?_
        have h' := h
        unfold smS at h'
        refine w_ld h' end_f0 rfl ?_
        refine w_tlen (s := pv.v) h' ?_
        refine w_bind (lss_f (by simp only [List.length_map]; omega)) ?_
        refine gs ?_
        refine wp_eq (l30_small_e6_0_eq _ _ H) ?_
        exact fin ps H hp hs (fun _ => hk.all (by omega)) h
      | succ d ih =>
        intro i ps H hi hp hs hk h
        refine wp_eq (l30_small_k7_eq _ _ _ H) ?_
        have h' := h
        unfold smS at h'
        refine w_ld h' end_f0 rfl ?_
        refine w_tlen (s := pv.v) h' ?_
        refine w_bind (lss_t (by simp only [List.length_map]; omega)) ?_
        refine gs ?_
        refine wp_eq (l30_small_k8_eq _ _ _ H) ?_
        refine wp_eq (l30_small_k12_eq _ _ _ _ H) ?_
        have hil : i < ps.length := by omega
        have hrow : (ps[i]).2.length ≤ 60 := by
          have := sumL_mem (ll := ps.map (·.2)) (i := i) (by simpa using hil)
          simp only [List.getElem_map] at this
          omega
        refine small_inner (L := ps.length) (i := i) (by omega) hil (m := sumL (ps.map (·.2))) (fun ps' H' hp' hs' hk' h' => ?_) (ps[i]).2.length 0 ps rfl H (by omega) hrow rfl hk h
        refine wp_eq (l30_small_k9_eq _ _ _ H') ?_
        refine w_bind (bin_add_i (by omega) (by omega)) ?_
        exact ih (i + 1) ps' H' (by omega) (by omega) (by omega) hk' h'
    exact outer ps.length 0 ps H4 (by omega) hpl hsm (fun k m p x _ _ h => by omega) h5
end
end Go.Proofs.YthagelbepgcolaaGreatDoor.Gst
