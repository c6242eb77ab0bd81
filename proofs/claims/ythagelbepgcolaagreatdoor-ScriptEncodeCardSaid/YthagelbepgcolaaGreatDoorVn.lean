/- A world that has grown is still of the shape; what strings.Join tells of five strings. -/
import Derived.Test.YthagelbepgcolaaGreatDoorVm
import Derived.Lib.Join
namespace Go.Proofs.YthagelbepgcolaaGreatDoor.Gst
open Go Go.RowKit
set_option linter.unusedSimpArgs false
set_option linter.unusedVariables false
section
variable {P : Program} {w0 : World} {B : Nat} {ρ : Ren} {H : AH} {w w' : World}
theorem Rel.grown (h : Rel P w0 B ρ H w) (hb : Below w.heap.size w w') : Rel P w0 B ρ H w' := by
  have hs : w.heap.size ≤ w'.heap.size := hb.size
  have hc : ∀ c, c < w.heap.size → w'.heap[c]? = w.heap[c]? := fun c hc => hb.block c hc
  exact ⟨h.base, h.below.trans (hb.mono h.size), h.dom, fun b c d sz e => Nat.lt_of_lt_of_le (h.blk b c d sz e) hs,
    fun b c d sz o e1 e2 => by rw [hc c (h.blk b c d sz e1)]; exact h.obj b c d sz o e1 e2, h.own, h.ro, h.inj⟩
theorem Ext.grown (hb : Below w.heap.size w w') : Ext ρ H w ρ H w' :=
  ⟨fun _ _ h => h, fun b x h1 h2 => (by rw [h1] at h2; cases h2), Nat.le_refl _, hb.size, fun _ _ _ => rfl, fun _ _ h _ => h, fun c hc _ => hb.block c hc, fun b c d sz h1 h2 => (by rw [h1] at h2; cases h2)⟩
abbrev str0 : ByteArray := ⟨#[48]⟩
abbrev strS : ByteArray := ⟨#[32]⟩
abbrev str00000 : ByteArray := ⟨#[48, 32, 48, 32, 48, 32, 48, 32, 48]⟩
theorem told_join {G : List Nat} {f : Nat} (hfn : ∃ fn, P.funcs[f]? = some fn ∧ fn.body.isSome = true ∧ fn.name ≠ "runtime.NumGoroutine")
    (hj : ∀ (bk o c : Nat) (w : World), (∀ (j : Nat) x, [str0, str0, str0, str0, str0][j]? = some x → w.cell? ⟨bk, o + j, none⟩ = some (.string x)) → bk < w.heap.size → 5 ≤ c →
      Calls P f #[.slice (some ⟨bk, o, none⟩) 5 c, .string strS] w fun e w' => e = .returned (.string str00000) ∧ Below w.heap.size w w')
    {b o : Nat} {ro : Bool} {cs : List Value} (hH : H.get b = some (.cells ro cs)) (hc : ∀ j, j < 5 → cs[o + j]? = some (.string str0)) :
    Told P G f [.slice (some ⟨b, o, none⟩) 5 1, .string strS] H (.string str00000) := by
  refine ⟨hfn, fun w0 B ρ w args' hR hG hl => ?_⟩
  obtain ⟨x, hx, hvx⟩ := hl.get (i := 0) (x := .slice (some ⟨b, o, none⟩) 5 1) rfl
  obtain ⟨y, hy, hvy⟩ := hl.get (i := 1) (x := .string strS) rfl
  have hlen : args'.length = 2 := hl.1.symm
  have ha : args' = [x, y] := by
    match args', hlen, hx, hy with
    | [p, q], _, hx, hy => simp at hx hy; rw [hx, hy]
  subst ha
  rw [hvy.string_inv]
  rcases hvx.slice_inv (by omega) with ⟨c, d, sz, a, _, h0, _⟩ | ⟨c, d, sz, k, hb, hk, hn, rfl⟩
  · cases h0
  obtain ⟨cc, el, fz, hw, _, _, _, hcl⟩ := hR.cells hb hH
  refine (hj c (d + o) k w (fun j x hjx => ?_) (hR.blk _ _ _ _ hb) hn).mono ?_
  · have hj5 : j < 5 := by
      have := (List.getElem?_eq_some_iff.1 hjx).1
      simpa using this
    have hx0 : x = str0 := by
      match j, hj5, hjx with
      | 0, _, h => simpa using h.symm
      | 1, _, h => simpa using h.symm
      | 2, _, h => simpa using h.symm
      | 3, _, h => simpa using h.symm
      | 4, _, h => simpa using h.symm
    subst hx0
    obtain ⟨x', hx', hxx⟩ := hcl.get (hc j hj5)
    have := cell_at hw hx'
    rw [hxx.string_inv] at this
    rw [Nat.add_assoc]
    exact this
  · rintro e w' ⟨rfl, hbw⟩
    exact ⟨ρ, ⟨_, rfl, .lit rfl⟩, Ext.grown hbw, hR.grown hbw⟩
end
end Go.Proofs.YthagelbepgcolaaGreatDoor.Gst
