/- Configs, plans; whether they may be: of the program, and of the reference. -/
import Derived.Test.YthagelbepgcolaaGreatDoorDpa
namespace Go.Proofs.YthagelbepgcolaaGreatDoor.Gst
open Go Go.RowKit
set_option linter.unusedSimpArgs false
set_option linter.unusedVariables false
set_option maxHeartbeats 1000000

structure Cfg where
  sh : Int
  sl : Int
  wk : Int
  wd : Int
  un : Nat
abbrev Cfg.cells (c : Cfg) : List Value := [vi c.sh, vi c.sl, vi c.wk, vi c.wd, vu c.un]
structure Cl where
  op : Int
  flow : Int
  a : Int
  b : Int
abbrev Cl.cells (x : Cl) : List Value := [vi x.op, vi x.flow, vi x.a, vi x.b]
instance : Enc Cl.cells 4 := ⟨fun _ => rfl, fun _ => rfl, by omega⟩
/-- A slice's value. -/
structure Sv where
  a : Option Addr
  n : Nat
  c : Nat
abbrev Sv.v (s : Sv) : Value := .slice s.a s.n s.c
abbrev encS (s : Sv) : List Value := [.slice s.a s.n s.c]
instance : Enc encS 1 := ⟨fun _ => rfl, fun _ => rfl, by omega⟩
abbrev planV (c : Cfg) (v : Value) : List Value := [vi c.sh, vi c.sl, vi c.wk, vi c.wd, vu c.un, v]
def rightB (c : Cfg) : Bool := decide (1 ≤ c.sh ∧ c.sh ≤ 4 ∧ 1 ≤ c.sl ∧ c.sl ≤ 4 ∧ 1 ≤ c.wk ∧ c.wk ≤ 6 ∧ 0 ≤ c.wd ∧ c.wd ≤ 40 ∧ 1 ≤ c.un ∧ c.un ≤ 4611686018427387904)
theorem rightB_iff {c : Cfg} : rightB c = true ↔ (1 ≤ c.sh ∧ c.sh ≤ 4 ∧ 1 ≤ c.sl ∧ c.sl ≤ 4 ∧ 1 ≤ c.wk ∧ c.wk ≤ 6 ∧ 0 ≤ c.wd ∧ c.wd ≤ 40 ∧ 1 ≤ c.un ∧ c.un ≤ 4611686018427387904) := by unfold rightB; exact decide_eq_true_iff
theorem rightB_no {c : Cfg} (h : ¬ (1 ≤ c.sh ∧ c.sh ≤ 4 ∧ 1 ≤ c.sl ∧ c.sl ≤ 4 ∧ 1 ≤ c.wk ∧ c.wk ≤ 6 ∧ 0 ≤ c.wd ∧ c.wd ≤ 40 ∧ 1 ≤ c.un ∧ c.un ≤ 4611686018427387904)) : rightB c = false := by unfold rightB; exact decide_eq_false h
theorem model_within_law (x a b : Int) : Sp n_model_within [vi x, vi a, vi b] emp (fun _ : Unit => vb (decide (a ≤ x ∧ x ≤ b))) (fun _ => emp) := by
  refine sp_of fun R H h => ?_
  refine wp_of (fun r => model_within_of _ _ _ H) ?_
  by_cases h1 : a ≤ x
  · refine w_bind (geq_t h1) ?_
    refine gs ?_
    by_cases h2 : x ≤ b
    · refine w_bind (leq_t h2) ?_
      refine gs ?_
      rw [decide_eq_true ⟨h1, h2⟩]
      exact w_ret ⟨(), rfl, Holds.to (by assumption)⟩
    · refine w_bind (leq_f h2) ?_
      refine gs ?_
      rw [decide_eq_false (fun h => h2 h.2)]
      exact w_ret ⟨(), rfl, Holds.to (by assumption)⟩
  · refine w_bind (geq_f h1) ?_
    refine gs ?_
    rw [decide_eq_false (fun h => h1 h.1)]
    exact w_ret ⟨(), rfl, Holds.to (by assumption)⟩
theorem r09_right (c : Cfg) : Sp n_r09_Right [.agg (Cfg.cells c).toArray] emp (fun _ : Unit => vb (rightB c)) (fun _ => emp) := by
  refine sp_of fun R H h => ?_
  refine wp_of (fun r => r09_Right_of _ H) ?_
  refine w_newC h fun b H1 h1 => ?_
  refine w_ld h1 end_f0 rfl ?_
  by_cases g0 : 1 ≤ c.sh
  case neg =>
    refine w_bind (geq_f g0) ?_
    refine gs ?_
    rw [rightB_no (by omega)]
    exact w_ret ⟨(), rfl, Holds.to (by assumption)⟩
  refine w_bind (geq_t g0) ?_
  refine gs ?_
  refine w_ld h1 end_f0 rfl ?_
  refine gs ?_
  by_cases g1 : c.sh ≤ 4
  case neg =>
    refine w_bind (leq_f g1) ?_
    refine gs ?_
    rw [rightB_no (by omega)]
    exact w_ret ⟨(), rfl, Holds.to (by assumption)⟩
  refine w_bind (leq_t g1) ?_
  refine gs ?_
  refine w_ld h1 end_f0 rfl ?_
  refine gs ?_
  by_cases g2 : 1 ≤ c.sl
  case neg =>
    refine w_bind (geq_f g2) ?_
    refine gs ?_
    rw [rightB_no (by omega)]
    exact w_ret ⟨(), rfl, Holds.to (by assumption)⟩
  refine w_bind (geq_t g2) ?_
  refine gs ?_
  refine w_ld h1 end_f0 rfl ?_
  refine gs ?_
  by_cases g3 : c.sl ≤ 4
  case neg =>
    refine w_bind (leq_f g3) ?_
    refine gs ?_
    rw [rightB_no (by omega)]
    exact w_ret ⟨(), rfl, Holds.to (by assumption)⟩
  refine w_bind (leq_t g3) ?_
  refine gs ?_
  refine w_ld h1 end_f0 rfl ?_
  refine gs ?_
  by_cases g4 : 1 ≤ c.wk
  case neg =>
    refine w_bind (geq_f g4) ?_
    refine gs ?_
    rw [rightB_no (by omega)]
    exact w_ret ⟨(), rfl, Holds.to (by assumption)⟩
  refine w_bind (geq_t g4) ?_
  refine gs ?_
  refine w_ld h1 end_f0 rfl ?_
  refine gs ?_
  by_cases g5 : c.wk ≤ 6
  case neg =>
    refine w_bind (leq_f g5) ?_
    refine gs ?_
    rw [rightB_no (by omega)]
    exact w_ret ⟨(), rfl, Holds.to (by assumption)⟩
  refine w_bind (leq_t g5) ?_
  refine gs ?_
  refine w_ld h1 end_f0 rfl ?_
  refine gs ?_
  by_cases g6 : 0 ≤ c.wd
  case neg =>
    refine w_bind (geq_f g6) ?_
    refine gs ?_
    rw [rightB_no (by omega)]
    exact w_ret ⟨(), rfl, Holds.to (by assumption)⟩
  refine w_bind (geq_t g6) ?_
  refine gs ?_
  refine w_ld h1 end_f0 rfl ?_
  refine gs ?_
  by_cases g7 : c.wd ≤ 40
  case neg =>
    refine w_bind (leq_f g7) ?_
    refine gs ?_
    rw [rightB_no (by omega)]
    exact w_ret ⟨(), rfl, Holds.to (by assumption)⟩
  refine w_bind (leq_t g7) ?_
  refine gs ?_
  refine w_ld h1 end_f0 rfl ?_
  refine gs ?_
  by_cases g8 : (1 : Int) ≤ c.un
  case neg =>
    refine w_bind (geq_f g8) ?_
    refine gs ?_
    rw [rightB_no (by omega)]
    exact w_ret ⟨(), rfl, Holds.to (by assumption)⟩
  refine w_bind (geq_t g8) ?_
  refine gs ?_
  refine w_ld h1 end_f0 rfl ?_
  refine gs ?_
  by_cases g9 : (c.un : Int) ≤ 4611686018427387904
  case neg =>
    refine w_bind (leq_f g9) ?_
    refine gs ?_
    rw [rightB_no (by omega)]
    exact w_ret ⟨(), rfl, Holds.to (by assumption)⟩
  refine w_bind (leq_t g9) ?_
  refine gs ?_
  rw [rightB_iff.2 (by omega)]
  exact w_ret ⟨(), rfl, Holds.to (by assumption)⟩
theorem model_right (c : Cfg) : Sp n_model_Right [.agg (Cfg.cells c).toArray] emp (fun _ : Unit => vb (rightB c)) (fun _ => emp) := by
  refine sp_of fun R H h => ?_
  refine wp_of (fun r => model_Right_of _ H) ?_
  refine w_newC h fun b H1 h1 => ?_
  refine w_ld h1 end_f0 rfl ?_
  refine w_call h1 (model_within_law c.sh 1 4) fun _ K0 k0 => ?_
  by_cases g0 : (1 : Int) ≤ c.sh ∧ c.sh ≤ 4
  case neg =>
    rw [decide_eq_false g0]
    refine gs ?_
    rw [rightB_no (by omega)]
    exact w_ret ⟨(), rfl, Holds.to (by assumption)⟩
  rw [decide_eq_true g0]
  refine gs ?_
  refine w_ld k0 end_f0 rfl ?_
  refine gs ?_
  refine w_call k0 (model_within_law c.sl 1 4) fun _ K1 k1 => ?_
  by_cases g1 : (1 : Int) ≤ c.sl ∧ c.sl ≤ 4
  case neg =>
    rw [decide_eq_false g1]
    refine gs ?_
    rw [rightB_no (by omega)]
    exact w_ret ⟨(), rfl, Holds.to (by assumption)⟩
  rw [decide_eq_true g1]
  refine gs ?_
  refine w_ld k1 end_f0 rfl ?_
  refine gs ?_
  refine w_call k1 (model_within_law c.wk 1 6) fun _ K2 k2 => ?_
  by_cases g2 : (1 : Int) ≤ c.wk ∧ c.wk ≤ 6
  case neg =>
    rw [decide_eq_false g2]
    refine gs ?_
    rw [rightB_no (by omega)]
    exact w_ret ⟨(), rfl, Holds.to (by assumption)⟩
  rw [decide_eq_true g2]
  refine gs ?_
  refine w_ld k2 end_f0 rfl ?_
  refine gs ?_
  refine w_call k2 (model_within_law c.wd 0 40) fun _ K3 k3 => ?_
  by_cases g3 : (0 : Int) ≤ c.wd ∧ c.wd ≤ 40
  case neg =>
    rw [decide_eq_false g3]
    refine gs ?_
    rw [rightB_no (by omega)]
    exact w_ret ⟨(), rfl, Holds.to (by assumption)⟩
  rw [decide_eq_true g3]
  refine gs ?_
  refine w_ld k3 end_f0 rfl ?_
  refine gs ?_
  by_cases g4 : (1 : Int) ≤ c.un
  case neg =>
    refine w_bind (geq_f g4) ?_
    refine gs ?_
    rw [rightB_no (by omega)]
    exact w_ret ⟨(), rfl, Holds.to (by assumption)⟩
  refine w_bind (geq_t g4) ?_
  refine gs ?_
  refine w_ld k3 end_f0 rfl ?_
  refine gs ?_
  by_cases g5 : (c.un : Int) ≤ 4611686018427387904
  case neg =>
    refine w_bind (leq_f g5) ?_
    refine gs ?_
    rw [rightB_no (by omega)]
    exact w_ret ⟨(), rfl, Holds.to (by assumption)⟩
  refine w_bind (leq_t g5) ?_
  refine gs ?_
  rw [rightB_iff.2 (by omega)]
  exact w_ret ⟨(), rfl, Holds.to (by assumption)⟩

/-! ### Lists of calls -/
/-- A row of rows of calls, that can be read. -/
class Ls (P : SP) (v : Value) (ll : outParam (List (List Cl))) : Prop where
  out : ∃ vs : List Sv, vs.length = ll.length ∧ Rd P v 1 encS vs ∧ ∀ i (h : i < vs.length) (h' : i < ll.length), Rd P (vs[i]).v 4 Cl.cells ll[i]
instance Ls.left (P Q : SP) (v : Value) (ll : List (List Cl)) [L : Ls P v ll] : Ls (P * Q) v ll := ⟨by
  obtain ⟨vs, h1, h2, h3⟩ := L.out
  exact ⟨vs, h1, inferInstance, fun i h h' => by haveI := h3 i h h'; infer_instance⟩⟩
instance Ls.right (P Q : SP) (v : Value) (ll : List (List Cl)) [L : Ls Q v ll] : Ls (P * Q) v ll := ⟨by
  obtain ⟨vs, h1, h2, h3⟩ := L.out
  exact ⟨vs, h1, inferInstance, fun i h h' => by haveI := h3 i h h'; infer_instance⟩⟩
def sumL (ll : List (List Cl)) : Nat := (ll.map List.length).sum
theorem sumL_take {ll : List (List Cl)} {i : Nat} (h : i < ll.length) : sumL (ll.take (i + 1)) = sumL (ll.take i) + ll[i].length := by
  unfold sumL
  rw [← List.take_append_getElem h, List.map_append, List.sum_append]
  simp
theorem sumL_le {ll : List (List Cl)} (i : Nat) : sumL (ll.take i) ≤ sumL ll := by
  have : sumL ll = sumL (ll.take i) + sumL (ll.drop i) := by
    unfold sumL
    rw [← List.sum_append, ← List.map_append, List.take_append_drop]
  omega
theorem sumL_all {ll : List (List Cl)} {i : Nat} (h : ll.length ≤ i) : sumL (ll.take i) = sumL ll := by rw [List.take_of_length_le h]
theorem sumL_bound {ll : List (List Cl)} {m : Nat} (h : ∀ l ∈ ll, l.length ≤ m) : sumL ll ≤ ll.length * m := by
  induction ll with
  | nil => simp [sumL]
  | cons l ll ih =>
    have h1 := h l (by simp)
    have h2 := ih (fun x hx => h x (by simp [hx]))
    have h3 : sumL (l :: ll) = l.length + sumL ll := by simp [sumL]
    rw [h3, List.length_cons, Nat.add_mul]
    omega
theorem sumL_mem {ll : List (List Cl)} {i : Nat} (h : i < ll.length) : ll[i].length ≤ sumL ll := by
  have h1 := sumL_take h
  have h2 := sumL_le (ll := ll) (i + 1)
  omega
def mayB (c : Cfg) (ll : List (List Cl)) : Bool := rightB c && decide ((ll.length : Int) ≤ c.wk ∧ sumL ll ≤ 60)
theorem w_rox {α : Type} {P : SP} {H : AH} {f : Nat} {args : List Value} {v : α → Value} {k : Value × AH → OV} {Q : Value → AH → Prop} (h : Holds P H) (s : Sp f args P v (fun _ => P)) (hk : ∀ x H', Holds P H' → wp (k (v x, H')) Q) : wp ((FF f args H).bind k) Q := by
  obtain ⟨x, H', e, h'⟩ := s emp H (by rw [sep_emp]; exact h)
  rw [e]
  rw [sep_emp] at h'
  exact hk x H' h'
theorem bin_add_w {cl : TCls} {a b : Int} : pBin cl .add (vi a) (vi b) = some (vi (IntKind.wrap .i64 (a + b))) := by simp only [pBin, pInt, if_true]

section
variable {P : SP} {v : Value} {ll : List (List Cl)}
theorem r16_calls [L : Ls P v ll] (c : Cfg) (hn : ll.length < 1099511627776) (hs : sumL ll < 1152921504606846976) : Sp n_r16_Calls [.agg (planV c v).toArray] P (fun _ : Unit => vi (sumL ll)) (fun _ => P) := by
  refine sp_of fun R H h => ?_
  obtain ⟨vs, hvl, r1, r2⟩ := L.out
  refine wp_of (fun r => r16_Calls_of _ H) ?_
  refine w_newC h fun b H1 h1 => ?_
  refine wp_eq (r16_Calls_k0_eq _ _ _ H1) ?_
  refine wp_eq (r16_Calls_k2_eq _ _ _ _ H1) ?_
  have loop : ∀ (d i : Nat), i + d = ll.length → wp (r16_Calls_k4 (vp b) (vi 0) (vi (sumL (ll.take i))) (vi i) H1) fun v' H' => ∃ x : Unit, v' = vi (sumL ll) ∧ Holds (P * R) H' := by
    intro d
    induction d with
    | zero =>
      intro i hi
      refine wp_eq (r16_Calls_k4_eq _ _ _ _ H1) ?_
      refine w_ld h1 end_f0 rfl ?_
      refine w_rlen (l := vs) h1 ?_
      refine w_bind (lss_f (by omega)) ?_
      refine gs ?_
      refine wp_eq (r16_Calls_e3_0_eq _ _ H1) ?_
      refine wp_eq (r16_Calls_k1_eq _ _ H1) ?_
      rw [sumL_all (by omega)]
      exact w_ret ⟨(), rfl, h1.to⟩
    | succ d ih =>
      intro i hi
      have hiv : i < vs.length := by omega
      have hil : i < ll.length := by omega
      haveI := r2 i hiv hil
      refine wp_eq (r16_Calls_k4_eq _ _ _ _ H1) ?_
      refine w_ld h1 end_f0 rfl ?_
      refine w_rlen (l := vs) h1 ?_
      refine w_bind (lss_t (by omega)) ?_
      refine gs ?_
      refine wp_eq (r16_Calls_k5_eq _ _ _ _ H1) ?_
      refine w_ld h1 end_f0 rfl ?_
      refine w_rld1 (l := vs) h1 hiv rfl ?_
      refine w_rlen (l := ll[i]) h1 ?_
      have e1 := sumL_take hil
      have e2 := sumL_le (ll := ll) (i + 1)
      refine w_bind (bin_add_i (by omega) (by omega)) ?_
      refine wp_eq (r16_Calls_k6_eq _ _ _ _ H1) ?_
      refine w_bind (bin_add_i (by omega) (by omega)) ?_
      have e3 : ((sumL (ll.take i) : Nat) : Int) + ((ll[i].length : Nat) : Int) = ((sumL (ll.take (i + 1)) : Nat) : Int) := by omega
      rw [e3]
      exact ih (i + 1) (by omega)
  exact loop ll.length 0 (by omega)
theorem r16_may [L : Ls P v ll] (c : Cfg) (hb : ∀ l ∈ ll, l.length ≤ 140737488355328) : Sp n_r16_May [.agg (planV c v).toArray] P (fun _ : Unit => vb (mayB c ll)) (fun _ => P) := by
  refine sp_of fun R H h => ?_
  obtain ⟨vs, hvl, r1, r2⟩ := L.out
  refine wp_of (fun r => r16_May_of _ H) ?_
  refine w_newC h fun b H1 h1 => ?_
  refine w_ldN h1 end_f0 ?_
  refine w_call h1 (r09_right c) fun _ H2 h2 => ?_
  unfold mayB
  cases hr : rightB c with
  | false =>
    refine gs ?_
    rw [Bool.false_and]
    exact w_ret ⟨(), rfl, Holds.to (by assumption)⟩
  | true =>
    refine gs ?_
    rw [Bool.true_and]
    have hc := rightB_iff.1 hr
    refine w_ld h2 end_f0 rfl ?_
    refine w_rlenB (l := vs) h2 ?_
    refine gs ?_
    refine w_ld h2 (end_f (end_f end_nil)) rfl ?_
    refine gs ?_
    by_cases hlw : (vs.length : Int) ≤ c.wk
    · refine w_bind (leq_t hlw) ?_
      refine gs ?_
      refine w_LdN h2 ?_
      have hs := sumL_bound hb
      have hs2 : ll.length * 140737488355328 ≤ 6 * 140737488355328 := Nat.mul_le_mul_right _ (by omega)
      refine gs ?_
      refine w_ro h2 (r16_calls (v := v) (ll := ll) c (by omega) (by omega)) fun H3 h3 => ?_
      refine gs ?_
      by_cases hs60 : ((sumL ll : Nat) : Int) ≤ 60
      · refine w_bind (leq_t hs60) ?_
        refine gs ?_
        rw [decide_eq_true ⟨by omega, by omega⟩]
        exact w_ret ⟨(), rfl, h3.to⟩
      · refine w_bind (leq_f hs60) ?_
        refine gs ?_
        rw [decide_eq_false (fun h => hs60 (by omega))]
        exact w_ret ⟨(), rfl, h3.to⟩
    · refine w_bind (leq_f hlw) ?_
      refine gs ?_
      rw [decide_eq_false (fun h => hlw (by omega))]
      exact w_ret ⟨(), rfl, Holds.to (by assumption)⟩
end
end Go.Proofs.YthagelbepgcolaaGreatDoor.Gst
