/- A closed call, ahead of whose heap three blocks are dead and the fourth is the table; blocks behind others. -/
import Derived.Test.YthagelbepgcolaaGreatDoorVn
import Derived.Test.YthagelbepgcolaaGreatDoorMd
namespace Go.Proofs.YthagelbepgcolaaGreatDoor.Gst
open Go Go.RowKit
set_option linter.unusedSimpArgs false
set_option linter.unusedVariables false
def okRun4 (tab : List Value) : Option (Value × EH) → Bool
  | some (.bool true, E) => match E.get 0, E.get 1, E.get 2, E.get 3 with
    | some .dead, some .dead, some .dead, some (.cells true cs) => eqVs (eqV 0) cs tab
    | _, _, _, _ => false
  | _ => false
def tabE4 (tab : List Value) : EH := ⟨4, .nd (some .dead) (.nd (some .dead) (.nd (some (.cells true tab)) .lf .lf) .lf) (.nd (some .dead) .lf .lf)⟩
theorem tabE4_get (tab : List Value) : ∀ b, (tabE4 tab).get b = match b with | 0 => some .dead | 1 => some .dead | 2 => some .dead | 3 => some (.cells true tab) | _ => none := by
  have e : some (tabE4 tab) = ((((⟨0, .lf⟩ : EH).push .dead).bind fun E => E.push .dead).bind fun E => E.push .dead).bind fun E => E.push (.cells true tab) := rfl
  have hp : ∀ {E E' : EH} {o : AObj}, E.push o = some E' → (∀ b, E'.get b = if b = E.n then some o else E.get b) ∧ E'.n = E.n + 1 := by
    intro E E' o h
    obtain ⟨t, h1, rfl⟩ := Option.map_eq_some_iff.1 h
    exact ⟨Tr.get_set _ h1, rfl⟩
  obtain ⟨E3, h3, h4⟩ := Option.bind_eq_some_iff.1 e.symm
  obtain ⟨E2, h2, h3⟩ := Option.bind_eq_some_iff.1 h3
  obtain ⟨E1, h1, h2⟩ := Option.bind_eq_some_iff.1 h2
  obtain ⟨g1, n1⟩ := hp h1
  obtain ⟨g2, n2⟩ := hp h2
  obtain ⟨g3, n3⟩ := hp h3
  obtain ⟨g4, n4⟩ := hp h4
  have n1 : E1.n = 1 := n1
  have n2 : E2.n = 2 := by rw [n2, n1]
  have n3 : E3.n = 3 := by rw [n3, n2]
  intro b
  rw [g4, n3, g3, n2, g2, n1, g1]
  have lf : (⟨0, .lf⟩ : EH).get b = none := by cases b <;> rfl
  rw [lf]
  match b with
  | 0 => rfl
  | 1 => rfl
  | 2 => rfl
  | 3 => rfl
  | b + 4 =>
    rw [if_neg (by omega), if_neg (by omega), if_neg (by omega), if_neg (by show b + 4 ≠ 0; omega)]
    rfl
theorem closed_law4 {P : Program} {D : List Nat} {O : TF} {N k f : Nat} {tab : List Value} (hD : ∀ k ∈ D, Harmless P k) (hO : ∀ F : List AObj, CallDid 4 F.length F O (aF P [3])) (hl : tab.all litV = true) (h : okRun4 tab (tCallO P [3] D O N k f [] (tabE4 tab)) = true)
    {H : AH} {F : List AObj} (hH : H.objs = [.dead, .dead, .dead, .cells true tab] ++ F) : ∃ H', aF P [3] f [] H = some (.bool true, H') ∧ H.size ≤ H'.size ∧ ∀ i, i < H.size → H'.get i = H.get i := by
  obtain ⟨objs⟩ := H
  dsimp only at hH
  subst hH
  have hR : HR 4 F.length F (tabE4 tab) ⟨[.dead, .dead, .dead, .cells true tab] ++ F⟩ := by
    refine ⟨rfl, Nat.le_refl _, by simp [AH.size, tabE4]; omega, fun b => ?_, fun b hb => ?_, fun b h1 h2 => ?_⟩
    · rw [tabE4_get]
      match b with
      | 0 => rfl
      | 1 => rfl
      | 2 => rfl
      | 3 =>
        show some _ = some (AObj.cells true (shL 4 F.length tab))
        rw [sh_lits hl]
      | b + 4 =>
        have e : shB 4 F.length (b + 4) = b + 4 + F.length := by unfold shB; rw [if_neg (by omega)]
        rw [e]
        exact AH.get_none (by simp [AH.size]; omega)
    · have hb : 4 ≤ b := hb
      rw [tabE4_get]
      obtain ⟨b, rfl⟩ : ∃ c, b = c + 4 := ⟨b - 4, by omega⟩
      rfl
    · obtain ⟨b, rfl⟩ : ∃ c, b = c + 4 := ⟨b - 4, by omega⟩
      simp [AH.get]
  unfold okRun4 at h
  split at h
  · rename_i E' hE
    obtain ⟨H', h1, h2⟩ := callO_did (F := F) (N := N) (P := P) (by simp) hD (hO F) k (tabE4 tab) _ f [] hR _ _ hE
    refine ⟨H', ?_, ?_, fun i hi => ?_⟩
    · simpa using h1
    · rw [h2.size]
      have := h2.le
      simp [AH.size]; omega
    · split at h
      · rename_i cs h0 h1' h2' h3'
        have he : cs = tab := eqVs_sound (eqV_sound 0) _ _ h
        subst he
        match i with
        | 0 =>
          have := h2.get 0
          rw [show shB 4 F.length 0 = 0 from rfl, h0] at this
          exact this
        | 1 =>
          have := h2.get 1
          rw [show shB 4 F.length 1 = 1 from rfl, h1'] at this
          exact this
        | 2 =>
          have := h2.get 2
          rw [show shB 4 F.length 2 = 2 from rfl, h2'] at this
          exact this
        | 3 =>
          have := h2.get 3
          rw [show shB 4 F.length 3 = 3 from rfl, h3'] at this
          rw [this]
          show some (AObj.cells true (shL 4 F.length cs)) = _
          rw [sh_lits hl]; rfl
        | i + 4 =>
          have hi : i < F.length := by simp [AH.size] at hi; omega
          rw [h2.fr (i + 4) (by omega) (by omega)]
          simp [AH.get]
      · cases h
  · cases h
/-! ### Blocks behind others -/
def ap (H : AH) (l : List AObj) : AH := ⟨H.objs ++ l⟩
section
variable {H : AH} {l : List AObj} {i : Nat} {o : AObj}
theorem ap_nil (H : AH) : H = ap H [] := by unfold ap; rw [List.append_nil]
theorem ap_push : (ap H l).push o = ap H (l ++ [o]) := by unfold ap AH.push; rw [List.append_assoc]
theorem ap_size : (ap H l).size = H.size + l.length := by simp [ap, AH.size]
theorem ap_get : (ap H l).get (H.size + i) = l[i]? := by
  simp only [ap, AH.get, AH.size]
  rw [List.getElem?_append_right (by omega)]
  congr 1; omega
theorem ap_set : (ap H l).set (H.size + i) o = ap H (l.set i o) := by
  simp only [ap, AH.set, AH.size]
  rw [List.set_append_right _ _ (by omega)]
  congr 3; omega
theorem ap_new {R : Type} {cs : List Value} {k : Value → AH → Option R} : newK cs (ap H l) k = k (.pointer (some ⟨H.size + l.length, 0, none⟩)) (ap H (l ++ [.cells false cs])) := by
  unfold newK
  rw [ap_push, ap_size]
theorem ap_ld1 {j : Nat} {ro : Bool} {cs : List Value} {v : Value} (h : l[i]? = some (.cells ro cs)) (hv : cs[j]? = some v) : pLd1 (.pointer (some ⟨H.size + i, j, none⟩)) (ap H l) = some v := by
  simp only [pLd1, pAt, pCells, Option.bind_some, ap_get, h]
  exact hv
theorem ap_ldN {j n : Nat} {ro : Bool} {cs : List Value} (h : l[i]? = some (.cells ro cs)) (hn : j + n ≤ cs.length) : pLdN n (.pointer (some ⟨H.size + i, j, none⟩)) (ap H l) = some (.agg ((cs.drop j).take n).toArray) := by
  simp only [pLdN, pAt, pCells, Option.bind_some, ap_get, h]
  rw [if_pos hn]
theorem ap_st {j n : Nat} {cs : List Value} {x : Value} (h : l[i]? = some (.cells false cs)) (hx : x.cells.size = n) (hn : j + n ≤ cs.length) (hc : x.cells.toList.all Value.oneCell' = true) :
    pSt n (.pointer (some ⟨H.size + i, j, none⟩)) x (ap H l) = some (ap H (l.set i (.cells false (splice cs j x.cells.toList)))) := by
  simp only [pSt, pAt, Option.bind_some, ap_get, h]
  rw [if_pos ⟨hx, hn, hc⟩, ap_set]
end
end Go.Proofs.YthagelbepgcolaaGreatDoor.Gst
