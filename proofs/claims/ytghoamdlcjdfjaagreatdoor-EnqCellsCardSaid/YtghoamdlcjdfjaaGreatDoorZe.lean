/- What the statements' tops share: the table of Go's library holds what its text lays; numbers of an argument. -/
import Derived.Test.YtghoamdlcjdfjaaGreatDoorAcg
import Derived.Test.YtghoamdlcjdfjaaGreatDoorCards
import Derived.Test.YtghoamdlcjdfjaaGreatDoorTie
import Derived.WalkKit
import Derived.OpenShut
import Derived.Deep.DeepHandedRow
import Derived.Lib.LaidTab
namespace Go.Proofs.YtghoamdlcjdfjaaGreatDoor.Gst
open Go Go.ChangeShapes Go.WideShapes Go.ChangeAt Go.RowKit
set_option maxRecDepth 100000
set_option linter.unusedSimpArgs false

theorem own : ownKnob Tryz.prog.godebug = none := by kernel_rfl
theorem mixed : Tryz.prog.follows .mixedOrders = true := by kernel_rfl
theorem laidOut : laidOutB Tryz.prog = true := by kernel_rfl
theorem gTab : Tryz.prog.globalNamed "math/bits.deBruijn64tab" = some 0 := by kernel_rfl
def tabN : List Nat := [0,1,56,2,57,49,28,3,61,58,42,50,38,29,17,4,62,47,59,36,45,43,51,22,53,39,33,30,24,18,12,5,63,55,48,27,60,41,37,16,46,35,44,21,52,32,23,11,54,26,40,15,34,20,31,10,25,14,19,9,13,8,7,6]
theorem tab_len : tabN.length = 64 := by decide
def tabZ : List Int := tabN.map fun (k : Nat) => (k : Int)
noncomputable def tabT : TypeId := ((Tryz.prog.globals[0]?).map (·.type)).getD 0
theorem gTabType : (Tryz.prog.globals[0]?).map (·.type) = some tabT := by kernel_rfl
noncomputable def tabEl : TypeId := match Tryz.prog.underlying tabT with | some (.array _ e) => e | _ => 0
theorem undT : Tryz.prog.underlying tabT = some (.array 64 tabEl) := by kernel_rfl
theorem undE : Tryz.prog.underlying tabEl = some (.int .u8) := by kernel_rfl
theorem cellsE : Tryz.prog.cellsOf tabEl = 1 := by kernel_rfl
theorem cellsT : Tryz.prog.cellsOf tabT = 64 := by kernel_rfl

theorem table {W : World} (h : laidMetH Tryz.prog Rows.regModelRow.laid W) : Lib.TabIs Tryz.prog W "math/bits.deBruijn64tab" .u8 tabZ :=
  Lib.tabIs_of_head (rest := []) gTab gTabType undT undE cellsE cellsT h

/-- The heap with the library's table. -/
def tabH : AH := ⟨[.cells true (tabN.map fun (k : Nat) => Value.int .u8 (k : Int))]⟩
theorem tabH_get : tabH.get 0 = some (.cells true tabC) := by
  have e : (tabN.map fun (k : Nat) => Value.int .u8 (k : Int)) = tabC := by kernel_rfl
  show some (AObj.cells true _) = _
  rw [e]
theorem rel_tab {W : World} (h : laidMetH Tryz.prog Rows.regModelRow.laid W) : ∃ ρ, Rel PP W W.heap.size ρ tabH W ∧ GlobRel ρ GG := by
  have ht := table h
  have hz : tabZ.length = 64 := by decide
  have cell := fun i hi => ht.cell gTab i hi
  have c0 := cell 0 (by omega)
  unfold World.cell? at c0
  split at c0
  · rename_i c el fz hblk
    simp only at hblk
    have at' : ∀ i, i < 64 → c[i]? = some (.int .u8 (tabZ.getD i 0)) := by
      intro i hi
      have := cell i (by omega)
      unfold World.cell? at this
      simp only [hblk] at this
      simpa using this
    have hsz : 64 ≤ c.size := by
      have := (Array.getElem?_eq_some_iff.1 (at' 63 (by omega))).1
      omega
    have h0 : 0 < W.heap.size := (Array.getElem?_eq_some_iff.1 hblk).1
    have hr := (rel_none PP W).pushRo (row := tabN.map fun (k : Nat) => Value.int .u8 (k : Int)) (c := 0) (d := 0) (sz := c.size) h0 h0
      ⟨c, el, fz, hblk, rfl, by rw [List.length_map, tab_len]; omega, (fun h => by cases h), ?_⟩
    · refine ⟨_, hr, fun g hg => ⟨c.size, ?_⟩⟩
      have : g = 0 := by simpa [GG] using hg
      subst this
      rfl
    · have e : (c.toList.drop 0).take (tabN.map fun (k : Nat) => Value.int .u8 (k : Int)).length = tabN.map fun (k : Nat) => Value.int .u8 (k : Int) := by
        rw [List.length_map, tab_len]
        apply List.ext_getElem?
        intro i
        rw [List.drop_zero, List.getElem?_take]
        by_cases hi : i < 64
        · rw [if_pos hi, Array.getElem?_toList, at' i hi]
          rw [List.getElem?_map, List.getElem?_eq_getElem (by rw [tab_len]; exact hi), Option.map_some]
          congr 2
          unfold tabZ
          rw [List.getD_eq_getElem?_getD, List.getElem?_map, List.getElem?_eq_getElem (by rw [tab_len]; exact hi)]
          rfl
        · rw [if_neg hi]
          have : (tabN.map fun (k : Nat) => Value.int .u8 (k : Int)).length = 64 := by rw [List.length_map, tab_len]
          rw [List.getElem?_eq_none (by omega)]
      rw [e]
      refine LRel.of_all ?_
      rw [List.all_eq_true]
      intro x hx
      obtain ⟨n, _, rfl⟩ := List.mem_map.1 hx
      rfl
  · cases c0

/-- Numbers of an argument. -/
theorem u64_of {H : AH} {n : Int} {cs : List Value} (h : Abs H (.int .u64) n cs) : ∃ b : Nat, b < 18446744073709551616 ∧ valOf (.int .u64) cs = vu b := by
  obtain ⟨rfl, hw⟩ := h
  have : 0 ≤ n ∧ n ≤ 18446744073709551615 := by simpa [Lit.wf, IntKind.has, IntKind.min, IntKind.max, IntKind.bits, IntKind.signed] using hw
  exact ⟨n.toNat, by omega, by show Value.int .u64 n = Value.int .u64 (n.toNat : Int); rw [Int.toNat_of_nonneg this.1]⟩
theorem i64_of {H : AH} {n : Int} {cs : List Value} (h : Abs H (.int .i64) n cs) : valOf (.int .i64) cs = vi n := by
  obtain ⟨rfl, hw⟩ := h
  rfl
theorem bool_of {H : AH} {b : Bool} {cs : List Value} (h : Abs H .bool b cs) : valOf .bool cs = vb b := by
  have h : cs = _ := h
  rw [h]; rfl
theorem i64_lt {H : AH} {n : Int} {cs : List Value} (h : Abs H (.int .i64) n cs) : -9223372036854775808 ≤ n ∧ n < 9223372036854775808 := by
  obtain ⟨_, hw⟩ := h
  have : -9223372036854775808 ≤ n ∧ n ≤ 9223372036854775807 := by simpa [Lit.wf, IntKind.has, IntKind.min, IntKind.max, IntKind.bits, IntKind.signed] using hw
  omega
theorem slice_one {H : AH} {t : Ty} {l : List t.I} {cs : List Value} (h : Abs H (.slice t) l cs) : ∃ v, cs = [v] ∧ valOf (.slice t) cs = v := by
  rcases h with ⟨_, rfl⟩ | ⟨_, b, rfl⟩ | ⟨b, row, _, rfl, _⟩ <;> exact ⟨_, rfl, rfl⟩

/-- A world for the witness. -/
noncomputable def laidWorld (os : Os) : World :=
  { World.holding Tryz.prog os ⟨#[], #[], []⟩ with heap := (World.holding Tryz.prog os ⟨#[], #[], []⟩).heap.modify 0 fun
      | .cells _ t frozen => .cells (tabZ.map fun z => Value.int .u8 z).toArray t frozen
      | o => o }
theorem and_t {a b : Bool} (ha : a = true) (hb : b = true) : (a && b) = true := by rw [ha, hb]; rfl
theorem mapsRowed_t : mapsRowed Tryz.prog = true := by kernel_rfl
theorem stopsHeard_t : Tryz.prog.stopsHeard = true := by kernel_rfl
theorem mayEnter_t : Tryz.prog.mayEnter = true := by kernel_rfl

end Go.Proofs.YtghoamdlcjdfjaaGreatDoor.Gst
