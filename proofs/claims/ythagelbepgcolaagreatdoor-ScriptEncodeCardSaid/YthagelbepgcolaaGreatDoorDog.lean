/- Arguments of the statements on scripts; their closed call; the statement on Encode, of arguments. -/
import Derived.Test.YthagelbepgcolaaGreatDoorDck
import Derived.Test.YthagelbepgcolaaGreatDoorDof
namespace Go.Proofs.YthagelbepgcolaaGreatDoor.Gst
open Go Go.RowKit
set_option linter.unusedSimpArgs false
set_option linter.unusedVariables false
set_option maxHeartbeats 1000000

abbrev ITy : Ty := .int .i64
abbrev CfgTy : Ty := .pair ITy (.pair ITy (.pair ITy (.pair ITy (.pair (.int .u64) .unit))))
abbrev ClTy : Ty := .pair ITy (.pair ITy (.pair ITy (.pair ITy .unit)))
def toCl (x : ClTy.I) : Cl := ⟨x.1, x.2.1, x.2.2.1, x.2.2.2.1⟩
theorem cl_abs {H : AH} {x : ClTy.I} {cs : List Value} (h : Abs H ClTy x cs) : cs = Cl.cells (toCl x) := by
  obtain ⟨c1, c2, rfl, h1, c3, c4, rfl, h2, c5, c6, rfl, h3, c7, c8, rfl, h4, h5⟩ := h
  have h5 : c8 = [] := h5
  rw [h1.1, h2.1, h3.1, h4.1, h5]
  rfl
theorem cfg_abs {H : AH} {x : CfgTy.I} {cs : List Value} (h : Abs H CfgTy x cs) : ∃ c : Cfg, cs = Cfg.cells c := by
  obtain ⟨c1, c2, rfl, h1, c3, c4, rfl, h2, c5, c6, rfl, h3, c7, c8, rfl, h4, c9, c10, rfl, h5, h6⟩ := h
  have h6 : c10 = [] := h6
  obtain ⟨e5, hw⟩ := h5
  have : 0 ≤ x.2.2.2.2.1 ∧ x.2.2.2.2.1 ≤ 18446744073709551615 := by simpa [Lit.wf, IntKind.has, IntKind.min, IntKind.max, IntKind.bits, IntKind.signed] using hw
  refine ⟨⟨x.1, x.2.1, x.2.2.1, x.2.2.2.1, x.2.2.2.2.1.toNat⟩, ?_⟩
  rw [h1.1, h2.1, h3.1, h4.1, e5, h6]
  show _ = [vi x.1, vi x.2.1, vi x.2.2.1, vi x.2.2.2.1, .int .u64 ((x.2.2.2.2.1.toNat : Nat) : Int)]
  rw [Int.toNat_of_nonneg this.1]
  rfl
theorem args_calls {H0 : AH} {v : Value} {l : List ClTy.I} (h : Abs H0 (.slice ClTy) l [v]) : Rd (fix H0) v 4 Cl.cells (l.map toCl) := by
  have E : Enc (fun x : ClTy.I => Cl.cells (toCl x)) ClTy.w := ⟨fun _ => rfl, fun _ => rfl, by decide⟩
  have r := Rd.arg (t := ClTy) (enc := fun x => Cl.cells (toCl x)) (E := E) (fun x c hx => cl_abs hx) h
  refine ⟨fun {H} hh => ?_⟩
  have := r.rd hh
  rw [List.flatMap_map, List.length_map]
  exact this
theorem rows_of {H0 : AH} {t : Ty} {L : List (List t.I)} {row : List Value} (h : RowAbs (Abs H0 (.slice t)) L row) : ∃ us : List Sv, row = us.flatMap encS ∧ us.length = L.length ∧ ∀ i (h : i < us.length) (h' : i < L.length), Abs H0 (.slice t) L[i] [(us[i]).v] := by
  induction h with
  | nil => exact ⟨[], rfl, rfl, fun i h => by simp at h⟩
  | @cons x l c cs h1 _ ih =>
    obtain ⟨us, rfl, h2, h3⟩ := ih
    have : ∃ s : Sv, c = [s.v] := by
      rcases h1 with ⟨_, rfl⟩ | ⟨_, b, rfl⟩ | ⟨b, row, _, rfl, _⟩
      · exact ⟨⟨none, 0, 0⟩, rfl⟩
      · exact ⟨⟨_, _, _⟩, rfl⟩
      · exact ⟨⟨_, _, _⟩, rfl⟩
    obtain ⟨s, rfl⟩ := this
    refine ⟨s :: us, rfl, by simp [h2], fun i h h' => ?_⟩
    cases i with
    | zero => exact h1
    | succ i => exact h3 i (by simpa using h) (by simpa using h')
/-- Lists of calls, handed in. -/
theorem args_lists {H0 : AH} {v : Value} {L : List (List ClTy.I)} (h : Abs H0 (.slice (.slice ClTy)) L [v]) : Ls (fix H0) v (L.map fun l => l.map toCl) ∧ ∀ l ∈ L, ∃ s : Sv, Abs H0 (.slice ClTy) l [s.v] := by
  have key : ∃ us : List Sv, us.length = L.length ∧ Rd (fix H0) v 1 encS us ∧ ∀ i (h : i < us.length) (h' : i < L.length), Abs H0 (.slice ClTy) L[i] [(us[i]).v] := by
    rcases h with ⟨rfl, e⟩ | ⟨rfl, b, e⟩ | ⟨b, row, h1, e, h3, _⟩
    · obtain rfl : v = .slice none 0 0 := by simpa using e
      exact ⟨[], rfl, ⟨fun {H} hH => ⟨rfl, .inl ⟨none, 0, rfl, rfl, fun _ => rfl, fun x hx => by cases hx⟩⟩⟩, fun i h => by simp at h⟩
    · obtain rfl : v = .slice (some ⟨b, 0, none⟩) 0 0 := by simpa using e
      exact ⟨[], rfl, ⟨fun {H} hH => ⟨rfl, .inl ⟨_, 0, rfl, rfl, (fun h => by cases h), fun x hx => ⟨b, 0, (Option.some.inj hx).symm⟩⟩⟩⟩, fun i h => by simp at h⟩
    · obtain rfl : v = .slice (some ⟨b, 0, none⟩) L.length 1 := by simpa [Ty.w] using e
      obtain ⟨us, rfl, h4, h5⟩ := rows_of h3
      refine ⟨us, h4, ⟨fun {H} hH => ?_⟩, h5⟩
      have hl := flat_len (enc := encS) (e := 1) (fun _ => rfl) us
      refine ⟨hl, .inr ⟨b, 0, true, _, by rw [h4], (Fx.refl H0).fx hH b _ h1, by omega, ?_⟩⟩
      rw [List.drop_zero, ← hl, List.take_length]
  obtain ⟨us, h1, h2, h3⟩ := key
  refine ⟨⟨us, by simp [h1], h2, fun i h h' => ?_⟩, fun l hl => ?_⟩
  · rw [List.getElem_map]
    exact args_calls (h3 i h (by simpa using h'))
  · obtain ⟨i, hi, rfl⟩ := List.mem_iff_getElem.1 hl
    exact ⟨us[i]'(by omega), h3 i (by omega) hi⟩
theorem args_ints {H0 : AH} {v : Value} {l : List Int} (h : Abs H0 (.slice (.int .i64)) l [v]) : Rd (fix H0) v 1 encI l :=
  Rd.arg (t := .int .i64) (enc := encI) (E := inferInstanceAs (Enc encI 1)) (fun x c h => h.1) h
/-- The first blocks: three that are dead, the table. -/
structure Tab4 (H0 : AH) : Prop where
  d0 : H0.get 0 = some .dead
  d1 : H0.get 1 = some .dead
  d2 : H0.get 2 = some .dead
  t3 : H0.get 3 = some (.cells true tabC)
theorem Tab4.objs {H : AH} (h : Tab4 H) : ∃ F, H.objs = [.dead, .dead, .dead, .cells true tabC] ++ F := by
  obtain ⟨objs⟩ := H
  obtain ⟨h0, h1, h2, h3⟩ := h
  simp only [AH.get] at h0 h1 h2 h3
  match objs, h0, h1, h2, h3 with
  | a :: b :: c :: d :: F, h0, h1, h2, h3 =>
    simp at h0 h1 h2 h3
    subst h0 h1 h2 h3
    exact ⟨F, rfl⟩
theorem awake_law {H0 : AH} (hT : Tab4 H0) : Sp n_l30_awake [] (fix H0) (fun _ : Unit => vb true) (fun _ => fix H0) := by
  refine sp_of fun R H h => ?_
  have hf : ∀ b o, H0.get b = some o → H.get b = some o := (Fx.refl H0).fx h.left
  have h4 : Tab4 H := ⟨hf _ _ hT.d0, hf _ _ hT.d1, hf _ _ hT.d2, hf _ _ hT.t3⟩
  obtain ⟨F, hF⟩ := h4.objs
  obtain ⟨H', e, hs, hg⟩ := closed_law4 (P := Tryz.prog) (D := [52, 338]) (O := orc) (N := 100000) (k := 60) (f := 14) (tab := tabC) (fun k hk => by
      rcases List.mem_cons.1 hk with rfl | hk
      · exact harm_read
      · rw [List.mem_singleton.1 hk]; exact harm_may) (fun F => orc_did rfl) (by decide) awake_run hF
  refine ⟨vb true, H', e, (), rfl, ?_⟩
  obtain ⟨h1, h2, h3⟩ := h
  exact ⟨h1, h2, fun i o hi => by rw [hg i (AH.lt_of_get (h3 i o hi))]; exact h3 i o hi⟩
abbrev PlanTy : Ty := .pair CfgTy (.pair (.slice (.slice ClTy)) .unit)
theorem plan_args {H0 : AH} {xp : PlanTy.I} {cp : List Value} (hp : Abs H0 PlanTy xp cp) (hs : Small PlanTy xp) : ∃ (c : Cfg) (v : Value) (ll : List (List Cl)), cp = planV c v ∧ Ls (fix H0) v ll ∧ (ll.length : Int) < 9223372036854775808 ∧ ∀ l ∈ ll, l.length ≤ 140737488355328 := by
  obtain ⟨c1, c2, rfl, h1, c3, c4, rfl, h2, h3⟩ := hp
  have h3 : c4 = [] := h3
  obtain ⟨c, rfl⟩ := cfg_abs h1
  have hv : ∃ v, c3 = [v] := by
    rcases h2 with ⟨_, rfl⟩ | ⟨_, b, rfl⟩ | ⟨b, row, _, rfl, _⟩ <;> exact ⟨_, rfl⟩
  obtain ⟨v, rfl⟩ := hv
  subst h3
  obtain ⟨hl, hi⟩ := args_lists h2
  have hm : maxLen = 9223372036854775807 := by decide
  have hr : reachBytes = 140737488351232 := by decide
  refine ⟨c, v, _, rfl, hl, ?_, fun l hl' => ?_⟩
  · have := arg_max h2
    simp only [List.length_map]
    omega
  · obtain ⟨l0, h0, rfl⟩ := List.mem_map.1 hl'
    have := (hs.2.1.2 l0 h0).1
    simp only [List.length_map]
    omega
theorem scriptEncode_args {H0 : AH} (hT : Tab4 H0) {xp : PlanTy.I} {cp : List Value} (hp : Abs H0 PlanTy xp cp) (hs : Small PlanTy xp) {pk : List Int} {pv : Value} (hpk : Abs H0 (.slice (.int .i64)) pk [pv]) (n : Int) :
    ∃ H', FF n_l30_ScriptEncode [.agg cp.toArray, pv, vi n] H0 = some (vb true, H') := by
  obtain ⟨c, v, ll, rfl, hl, h1, h2⟩ := plan_args hp hs
  haveI := hl
  haveI := args_ints hpk
  exact scriptEncode (ll := ll) (pk := pk) (awake_law hT) h1 h2 c n
end Go.Proofs.YthagelbepgcolaaGreatDoor.Gst
