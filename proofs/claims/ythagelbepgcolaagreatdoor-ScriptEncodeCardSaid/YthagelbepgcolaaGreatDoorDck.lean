/- The statement on Encode, of the abstract run. -/
import Derived.Test.YthagelbepgcolaaGreatDoorDcj
namespace Go.Proofs.YthagelbepgcolaaGreatDoor.Gst
open Go Go.RowKit
set_option linter.unusedSimpArgs false
set_option linter.unusedVariables false
set_option maxHeartbeats 1000000

theorem rd_none {α : Type} (P : SP) (e : Nat) (enc : α → List Value) : Rd P (.slice none 0 0) e enc [] := ⟨fun {H} h => ⟨by simp, .inl ⟨none, 0, rfl, rfl, fun _ => rfl, fun x hx => by cases hx⟩⟩⟩
section
variable {P R X : SP} {H0 : AH} {v pv : Value} {ll : List (List Cl)} {pk : List Int}
theorem encode_tail [L : Ls P v ll] [r : Rd P pv 1 encI pk] (hA : Sp n_l30_awake [] (fix H0) (fun _ : Unit => vb true) (fun _ => fix H0)) {F : SP} [fr : Fr P (fix H0) F] (c : Cfg) (hn : (ll.length : Int) < 9223372036854775808) (hb : ∀ l ∈ ll, l.length ≤ 140737488355328)
    (b : Nat) (x6 : Value) {H : AH} (h : Holds (blk b (.cells false (planV c v)) * P) H) : wp (l30_ScriptEncode_k1 x6 (vp b) pv H) fun v' _ => v' = vb true := by
  refine wp_eq (l30_ScriptEncode_k1_eq _ _ _ H) ?_
  refine w_LdN h ?_
  refine w_call h (script_Encode_law (P := P) (v := v) (pv := pv) (ll := ll) (pk := pk) c hn (fun _ => hb)) fun s1 H1 h1 => ?_
  refine w_bind rfl ?_
  refine w_bind rfl ?_
  unfold EncQ at h1
  cases hm : okS c ll pk with
  | true =>
    rw [hm, if_pos rfl] at h1
    refine w_LdN h1 ?_
    refine w_call h1 (r30_Encode_law (P := P) (v := v) (pv := pv) (ll := ll) (pk := pk) c hb) fun s2 H2 h2 => ?_
    refine w_bind rfl ?_
    refine w_bind rfl ?_
    unfold EncQ at h2
    rw [hm, if_pos rfl] at h2
    rw [fr.eq] at h2
    refine w_call h2 hA fun _ H3 h3 => ?_
    refine gs ?_
    refine w_call h3 (help_bytes (P := ts 1 encB s2 (bytesS c ll pk) * ts 1 encB s1 (bytesS c ll pk)) (x := s1) (y := s2) (l := bytesS c ll pk)) fun _ H4 h4 => ?_
    refine gs ?_
    refine w_bind (eql_t (by rw [hm])) ?_
    refine gs ?_
    refine w_bind (eql_t rfl) ?_
    refine gs ?_
    exact w_ret rfl
  | false =>
    rw [hm, if_neg (by simp), sep_assoc] at h1
    obtain ⟨rfl, h1⟩ := Holds.pu.1 h1
    refine w_LdN h1 ?_
    refine w_call h1 (r30_Encode_law (P := P) (v := v) (pv := pv) (ll := ll) (pk := pk) c hb) fun s2 H2 h2 => ?_
    refine w_bind rfl ?_
    refine w_bind rfl ?_
    unfold EncQ at h2
    rw [hm, if_neg (by simp), sep_assoc] at h2
    obtain ⟨rfl, h2⟩ := Holds.pu.1 h2
    rw [fr.eq] at h2
    refine w_call h2 hA fun _ H3 h3 => ?_
    refine gs ?_
    haveI := rd_none emp 1 encB
    refine w_call h3 (help_bytes (P := emp) (x := .slice none 0 0) (y := .slice none 0 0) (l := [])) fun _ H4 h4 => ?_
    refine gs ?_
    refine w_bind (eql_t (by rw [hm])) ?_
    refine gs ?_
    refine w_bind (eql_f (by decide)) ?_
    refine gs ?_
    refine w_bind (v := vi 0) rfl ?_
    refine w_bind (gB_y (eql_t rfl)) ?_
    refine gs ?_
    exact w_ret rfl
end
theorem scriptEncode {H0 : AH} {v pv : Value} {ll : List (List Cl)} {pk : List Int} [L : Ls (fix H0) v ll] [r : Rd (fix H0) pv 1 encI pk] (hA : Sp n_l30_awake [] (fix H0) (fun _ : Unit => vb true) (fun _ => fix H0)) (hn : (ll.length : Int) < 9223372036854775808) (hb : ∀ l ∈ ll, l.length ≤ 140737488355328) (c : Cfg) (n : Int) :
    ∃ H', FF n_l30_ScriptEncode [.agg (planV c v).toArray, pv, vi n] H0 = some (vb true, H') := by
  have key : wp (FF n_l30_ScriptEncode [.agg (planV c v).toArray, pv, vi n] H0) fun v' _ => v' = vb true := by
    refine wp_of (fun r => l30_ScriptEncode_of _ _ _ H0) ?_
    refine w_newC (fix_holds H0) fun b H1 h1 => ?_
    refine w_LdN h1 ?_
    refine w_new h1 fun b2 H2 h2 => ?_
    obtain ⟨sv, rfl⟩ : ∃ s : Sv, v = s.v := by
      obtain ⟨us, _, r1, _⟩ := L.out
      obtain ⟨_, ⟨a, c, rfl, _⟩ | ⟨b, o, ro, row, rfl, _⟩⟩ := r1.rd (fix_holds H0)
      · exact ⟨⟨_, _, _⟩, rfl⟩
      · exact ⟨⟨_, _, _⟩, rfl⟩
    refine w_St h2 rfl rfl fun H3 h3 => ?_
    refine wp_eq (l30_ScriptEncode_k0_eq _ _ _ _ _ _ H3) ?_
    refine w_bind (rem_ii (by omega)) ?_
    by_cases hc : 0 < n.tmod 3
    · refine w_bind (gtr_t hc) ?_
      refine gs ?_
      refine w_LdN h3 ?_
      refine w_call h3 (l30_small_law (P := fix H0) (v := sv.v) (ll := ll) c n hn (fun l hl => by have := hb l hl; omega)) fun y H4 h4 => ?_
      obtain ⟨⟨sh, sl, wk, wd, un⟩, qv⟩ := y
      unfold smallQ at h4
      rw [sep_assoc] at h4
      obtain ⟨ps, h4b⟩ := Holds.ex.1 h4
      clear h4
      rw [sep_assoc, Holds.pu] at h4b
      obtain ⟨⟨hr, hpl, hsm, hok⟩, h4c⟩ := h4b
      dsimp only at hr hpl h4c
      dsimp only
      have hcc := rightB_iff.1 hr
      dsimp only at hcc
      refine w_call h4c (l30_steps_law (P := fix H0) (pv := pv) (pk := pk) n) fun s H5 h5 => ?_
      refine w_St h5 rfl rfl fun H6 h6 => ?_
      have h7 : Holds (blk b2 (.cells false (planV ⟨sh, sl, wk, wd, un⟩ qv.v)) * (lsS qv.v ps * (ts 1 encI s ((pk.take 60).map (stepB n)) * fix H0))) H6 := h6.to
      refine encode_tail (H0 := H0) (P := lsS qv.v ps * (ts 1 encI s ((pk.take 60).map (stepB n)) * fix H0)) (v := qv.v) (pv := s) (ll := ps.map fun x : Sv × List Cl => x.2) (pk := (pk.take 60).map (stepB n)) hA ⟨sh, sl, wk, wd, un⟩ (by simp only [List.length_map]; omega) (fun l hl => ?_) b2 _ h7
      obtain ⟨i, hi, rfl⟩ := List.getElem_of_mem hl
      have := sumL_mem hi
      omega
    · refine w_bind (gtr_f hc) ?_
      refine gs ?_
      exact encode_tail (H0 := H0) (P := blk b (.cells false (planV c sv.v)) * fix H0) (v := sv.v) (pv := pv) (ll := ll) (pk := pk) hA c hn hb b2 _ h3
  obtain ⟨v', H', e, rfl⟩ := key
  exact ⟨H', e⟩
end Go.Proofs.YthagelbepgcolaaGreatDoor.Gst
