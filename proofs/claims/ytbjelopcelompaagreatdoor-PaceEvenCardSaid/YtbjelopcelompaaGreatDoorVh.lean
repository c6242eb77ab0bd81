/- A closed call that the kernel has done on the laid table alone, done in any heap whose first block is that table. -/
import Derived.Test.YtbjelopcelompaaGreatDoorVg
namespace Go.Proofs.YtbjelopcelompaaGreatDoor.Gst
open Go Go.RowKit
set_option linter.unusedSimpArgs false
set_option linter.unusedVariables false

/-- It told true, and the table is as it was. -/
def okRun (tab : List Value) : Option (Value × EH) → Bool
  | some (.bool true, E) => match E.get 0 with
    | some (.cells true cs) => eqVs (eqV 0) cs tab
    | _ => false
  | _ => false
def tabE (tab : List Value) : EH := ⟨1, .nd (some (.cells true tab)) .lf .lf⟩
theorem closed_law {P : Program} {D : List Nat} {N k f : Nat} {tab : List Value} (hD : ∀ k ∈ D, Harmless P k) (hl : tab.all litV = true) (h : okRun tab (tCall P [0] D N k f [] (tabE tab)) = true)
    {H : AH} (hH : H.get 0 = some (.cells true tab)) : ∃ H', aF P [0] f [] H = some (.bool true, H') ∧ H.size ≤ H'.size ∧ ∀ i, i < H.size → H'.get i = H.get i := by
  obtain ⟨objs⟩ := H
  cases objs with
  | nil => cases hH
  | cons o F =>
    have ho : o = .cells true tab := by simpa [AH.get] using hH
    subst ho
    have hR : HR 1 F.length F (tabE tab) ⟨.cells true tab :: F⟩ := by
      refine ⟨rfl, Nat.le_refl _, by simp [AH.size, tabE, Nat.add_comm], fun b => ?_, fun b hb => ?_, fun b h1 h2 => ?_⟩
      · cases b with
        | zero =>
          have : shB 1 F.length 0 = 0 := rfl
          rw [this]
          show some _ = some (AObj.cells true (shL 1 F.length tab))
          rw [sh_lits hl]
        | succ b =>
          have e : shB 1 F.length (b + 1) = b + 1 + F.length := by simp [shB]
          have e2 : (tabE tab).get (b + 1) = none := by
            simp only [EH.get, tabE, Tr.get]; split <;> rfl
          rw [e, e2]
          exact AH.get_none (by simp [AH.size]; omega)
      · have : 1 ≤ b := hb
        obtain ⟨b, rfl⟩ : ∃ c, b = c + 1 := ⟨b - 1, by omega⟩
        simp only [EH.get, tabE, Tr.get]; split <;> rfl
      · obtain ⟨b, rfl⟩ : ∃ c, b = c + 1 := ⟨b - 1, by omega⟩
        simp [AH.get]
    unfold okRun at h
    split at h
    · rename_i E' hE
      obtain ⟨H', h1, h2⟩ := call_did (F := F) (N := N) (P := P) (by simp) hD k (tabE tab) _ f [] hR _ _ hE
      refine ⟨H', ?_, ?_, fun i hi => ?_⟩
      · have := aCall_F k _ _ _ _ h1
        simpa using this
      · rw [h2.size]
        have := h2.le
        simp [AH.size]; omega
      · split at h
        · rename_i cs hcs
          have he : cs = tab := eqVs_sound (eqV_sound 0) _ _ h
          subst he
          cases i with
          | zero =>
            have := h2.get 0
            rw [show shB 1 F.length 0 = 0 from rfl, hcs] at this
            rw [this]
            show some (AObj.cells true (shL 1 F.length cs)) = _
            rw [sh_lits hl]; rfl
          | succ i =>
            have hi : i < F.length := by simpa [AH.size] using hi
            rw [h2.fr (i + 1) (by omega) (by omega)]
            simp [AH.get]
        · cases h
    · cases h
end Go.Proofs.YtbjelopcelompaaGreatDoor.Gst
