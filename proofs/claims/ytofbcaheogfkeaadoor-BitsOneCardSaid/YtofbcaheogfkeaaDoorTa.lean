/- The six statements on bits (which bits of a number are 1, the next and the last one, a bit made 1, and 0, and asked) are true of the program for every input; the table of Go's library holds what its text lays. -/
import Derived.Test.YtofbcaheogfkeaaDoorSj
import Derived.Test.YtofbcaheogfkeaaDoorGz
import Derived.Test.YtofbcaheogfkeaaDoorCards
import Derived.Test.YtofbcaheogfkeaaDoorTie
import Derived.WalkKit
import Derived.OpenShut
import Derived.Deep.DeepHandedRow
import Derived.Lib.LaidTab
namespace Go.Proofs.YtofbcaheogfkeaaDoor.Gst
open Go Go.ChangeShapes Go.WideShapes Go.ChangeAt Go.RowKit
set_option maxRecDepth 100000
set_option linter.unusedSimpArgs false

theorem own : ownKnob Tryd.prog.godebug = none := by kernel_rfl
theorem mixed : Tryd.prog.follows .mixedOrders = true := by kernel_rfl
theorem laidOut : laidOutB Tryd.prog = true := by kernel_rfl
theorem gTab : Tryd.prog.globalNamed "math/bits.deBruijn64tab" = some 0 := by kernel_rfl
def tabZ : List Int := Go.Lib.deBruijn64tab.map fun (k : Nat) => (k : Int)
noncomputable def tabT : TypeId := ((Tryd.prog.globals[0]?).map (·.type)).getD 0
theorem gTabType : (Tryd.prog.globals[0]?).map (·.type) = some tabT := by kernel_rfl
noncomputable def tabE : TypeId := match Tryd.prog.underlying tabT with | some (.array _ e) => e | _ => 0
theorem undT : Tryd.prog.underlying tabT = some (.array 64 tabE) := by kernel_rfl
theorem undE : Tryd.prog.underlying tabE = some (.int .u8) := by kernel_rfl
theorem cellsE : Tryd.prog.cellsOf tabE = 1 := by kernel_rfl
theorem cellsT : Tryd.prog.cellsOf tabT = 64 := by kernel_rfl

theorem table {W : World} (h : laidMetH Tryd.prog Rows.bitsAllRow.laid W) : Lib.TabIs Tryd.prog W "math/bits.deBruijn64tab" .u8 tabZ :=
  Lib.tabIs_of_head (rest := []) gTab gTabType undT undE cellsE cellsT h

/-- The heap with the library's table. -/
def tabH : AH := ⟨[.cells true (Go.Lib.deBruijn64tab.map fun (k : Nat) => Value.int .u8 (k : Int))]⟩
theorem tabH_tab : Tab tabH := rfl
theorem rel_tab {W : World} (h : laidMetH Tryd.prog Rows.bitsAllRow.laid W) : ∃ ρ, Rel PP W W.heap.size ρ tabH W ∧ GlobRel ρ GG := by
  have ht := table h
  have hz : tabZ.length = 64 := by decide
  have cell := fun i hi => ht.cell gTab i hi
  have c0 := cell 0 (by omega)
  unfold World.cell? at c0
  split at c0
  · rename_i c el fz hblk
    simp only at hblk
    have at' : ∀ i, i < 64 → c[i]? = some (.int .u8 (tabZ.getD i 0)) := by
      intro i hi
      have := cell i (by omega)
      unfold World.cell? at this
      simp only [hblk] at this
      simpa using this
    have hsz : 64 ≤ c.size := by
      have := (Array.getElem?_eq_some_iff.1 (at' 63 (by omega))).1
      omega
    have h0 : 0 < W.heap.size := (Array.getElem?_eq_some_iff.1 hblk).1
    have hr := (rel_none PP W).pushRo (row := Go.Lib.deBruijn64tab.map fun (k : Nat) => Value.int .u8 (k : Int)) (c := 0) (d := 0) (sz := c.size) h0 h0
      ⟨c, el, fz, hblk, rfl, by rw [List.length_map, tab_len]; omega, (fun h => by cases h), ?_⟩
    · refine ⟨_, hr, fun g hg => ⟨c.size, ?_⟩⟩
      have : g = 0 := by simpa [GG] using hg
      subst this
      rfl
    · have e : (c.toList.drop 0).take (Go.Lib.deBruijn64tab.map fun (k : Nat) => Value.int .u8 (k : Int)).length = Go.Lib.deBruijn64tab.map fun (k : Nat) => Value.int .u8 (k : Int) := by
        rw [List.length_map, tab_len]
        apply List.ext_getElem?
        intro i
        rw [List.drop_zero, List.getElem?_take]
        by_cases hi : i < 64
        · rw [if_pos hi, Array.getElem?_toList, at' i hi]
          rw [List.getElem?_map, List.getElem?_eq_getElem (by rw [tab_len]; exact hi), Option.map_some]
          congr 2
          unfold tabZ
          rw [List.getD_eq_getElem?_getD, List.getElem?_map, List.getElem?_eq_getElem (by rw [tab_len]; exact hi)]
          rfl
        · rw [if_neg hi]
          have : (Go.Lib.deBruijn64tab.map fun (k : Nat) => Value.int .u8 (k : Int)).length = 64 := by rw [List.length_map, tab_len]
          rw [List.getElem?_eq_none (by omega)]
      rw [e]
      refine LRel.of_all ?_
      rw [List.all_eq_true]
      intro x hx
      obtain ⟨n, _, rfl⟩ := List.mem_map.1 hx
      rfl
  · cases c0

/-- Numbers of an argument. -/
theorem u64_of {H : AH} {n : Int} {cs : List Value} (h : Abs H (.int .u64) n cs) : ∃ b : Nat, b < 18446744073709551616 ∧ valOf (.int .u64) cs = vu b := by
  obtain ⟨rfl, hw⟩ := h
  have : 0 ≤ n ∧ n ≤ 18446744073709551615 := by simpa [Lit.wf, IntKind.has, IntKind.min, IntKind.max, IntKind.bits, IntKind.signed] using hw
  exact ⟨n.toNat, by omega, by show Value.int .u64 n = Value.int .u64 (n.toNat : Int); rw [Int.toNat_of_nonneg this.1]⟩
theorem i64_of {H : AH} {n : Int} {cs : List Value} (h : Abs H (.int .i64) n cs) : valOf (.int .i64) cs = vi n := by
  obtain ⟨rfl, hw⟩ := h
  rfl
theorem rowAbs_ints {H : AH} {l : List Int} {row : List Value} (h : RowAbs (Abs H (.int .i64)) l row) : row = l.map vi := by
  induction h with
  | nil => rfl
  | cons h1 _ ih =>
    rw [ih, h1.1]; rfl
theorem ints_of {H : AH} {l : List Int} {cs : List Value} (h : Abs H (.slice (.int .i64)) l cs) : Ints H (valOf (.slice (.int .i64)) cs) l := by
  rcases h with ⟨rfl, rfl⟩ | ⟨rfl, b, rfl⟩ | ⟨b, row, h1, rfl, h3, _⟩
  · exact .nil
  · exact .zero b 0
  · rw [rowAbs_ints h3] at h1
    exact .row b true l h1

/-- A world for the witness. -/
noncomputable def laidWorld (os : Os) : World :=
  { World.holding Tryd.prog os ⟨#[], #[], []⟩ with heap := (World.holding Tryd.prog os ⟨#[], #[], []⟩).heap.modify 0 fun
      | .cells _ t frozen => .cells (tabZ.map fun z => Value.int .u8 z).toArray t frozen
      | o => o }

end Go.Proofs.YtofbcaheogfkeaaDoor.Gst
