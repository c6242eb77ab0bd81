/- What the statements' tops share: the table of Go's library holds what its text lays; numbers of an argument. -/
import Derived.Test.YthagelbepgcolaaGreatDoorPi
import Derived.Test.YthagelbepgcolaaGreatDoorCards
import Derived.Test.YthagelbepgcolaaGreatDoorTie
import Derived.WalkKit
import Derived.OpenShut
import Derived.Deep.DeepHandedRow
import Derived.Lib.LaidTab
namespace Go.Proofs.YthagelbepgcolaaGreatDoor.Gst
open Go Go.ChangeShapes Go.WideShapes Go.ChangeAt Go.RowKit
set_option maxRecDepth 100000
set_option linter.unusedSimpArgs false

theorem own : ownKnob Tryz.prog.godebug = none := by kernel_rfl
theorem mixed : Tryz.prog.follows .mixedOrders = true := by kernel_rfl
theorem laidOut : laidOutB Tryz.prog = true := by kernel_rfl
theorem gTab : Tryz.prog.globalNamed "math/bits.deBruijn64tab" = some 3 := by kernel_rfl
def tabN : List Nat := [0,1,56,2,57,49,28,3,61,58,42,50,38,29,17,4,62,47,59,36,45,43,51,22,53,39,33,30,24,18,12,5,63,55,48,27,60,41,37,16,46,35,44,21,52,32,23,11,54,26,40,15,34,20,31,10,25,14,19,9,13,8,7,6]
theorem tab_len : tabN.length = 64 := by decide
def tabZ : List Int := tabN.map fun (k : Nat) => (k : Int)
noncomputable def tabT : TypeId := ((Tryz.prog.globals[3]?).map (·.type)).getD 0
theorem gTabType : (Tryz.prog.globals[3]?).map (·.type) = some tabT := by kernel_rfl
noncomputable def tabEl : TypeId := match Tryz.prog.underlying tabT with | some (.array _ e) => e | _ => 0
theorem undT : Tryz.prog.underlying tabT = some (.array 64 tabEl) := by kernel_rfl
theorem undE : Tryz.prog.underlying tabEl = some (.int .u8) := by kernel_rfl
theorem cellsE : Tryz.prog.cellsOf tabEl = 1 := by kernel_rfl
theorem cellsT : Tryz.prog.cellsOf tabT = 64 := by kernel_rfl

theorem laid_rest {P : Program} {x : String × DataW Unit} {l : List (String × DataW Unit)} {w : World} (h : laidMet P (x :: l) w) : laidMet P l w := by
  obtain ⟨ps, h1, h2, h3⟩ := h
  obtain ⟨n, y⟩ := x
  obtain ⟨g, t, cs, fuel, p, q, _, _, _, _, hq, rfl⟩ := h1
  refine ⟨q, hq, (List.nodup_append.1 h2).2.1, fun b o hm => h3 b o ?_⟩
  exact List.mem_append.2 (.inr hm)
theorem table {W : World} (h : laidMetH Tryz.prog Rows.scriptEncodeRow.laid W) : Lib.TabIs Tryz.prog W "math/bits.deBruijn64tab" .u8 tabZ :=
  Lib.tabIs_of_head (rest := [("internal/strconv.uint64pow10", Rows.laid_internal_strconv_uint64pow10)]) gTab gTabType undT undE cellsE cellsT (laid_rest (x := ("math/bits.deBruijn32tab", Rows.laid_math_bits_deBruijn32tab)) h)

/-- The heap with the library's table. -/
def tabH : AH := ⟨[.dead, .dead, .dead, .cells true (tabN.map fun (k : Nat) => Value.int .u8 (k : Int))]⟩
theorem tabH_get : tabH.get 3 = some (.cells true tabC) := by
  have e : (tabN.map fun (k : Nat) => Value.int .u8 (k : Int)) = tabC := by kernel_rfl
  show some (AObj.cells true _) = _
  rw [e]
theorem tab4 {H' : AH} (hk : Keeps tabH H') : Tab4 H' := ⟨hk.get rfl, hk.get rfl, hk.get rfl, hk.get tabH_get⟩
theorem rel_tab {W : World} (h : laidMetH Tryz.prog Rows.scriptEncodeRow.laid W) : ∃ ρ, Rel PP W W.heap.size ρ tabH W ∧ GlobRel ρ GG := by
  have ht := table h
  have hz : tabZ.length = 64 := by decide
  have cell := fun i hi => ht.cell gTab i hi
  have c0 := cell 0 (by omega)
  unfold World.cell? at c0
  split at c0
  · rename_i c el fz hblk
    simp only at hblk
    have at' : ∀ i, i < 64 → c[i]? = some (.int .u8 (tabZ.getD i 0)) := by
      intro i hi
      have := cell i (by omega)
      unfold World.cell? at this
      simp only [hblk] at this
      simpa using this
    have hsz : 64 ≤ c.size := by
      have := (Array.getElem?_eq_some_iff.1 (at' 63 (by omega))).1
      omega
    have h0 : 3 < W.heap.size := (Array.getElem?_eq_some_iff.1 hblk).1
    have hr := ((((rel_none PP W).pushU .dead).pushU .dead).pushU .dead).pushRo (row := tabN.map fun (k : Nat) => Value.int .u8 (k : Int)) (c := 3) (d := 0) (sz := c.size) h0 h0
      ⟨c, el, fz, hblk, rfl, by rw [List.length_map, tab_len]; omega, (fun h => by cases h), ?_⟩
    · refine ⟨_, hr, fun g hg => ⟨c.size, ?_⟩⟩
      have : g = 3 := by simpa [GG] using hg
      subst this
      rfl
    · have e : (c.toList.drop 0).take (tabN.map fun (k : Nat) => Value.int .u8 (k : Int)).length = tabN.map fun (k : Nat) => Value.int .u8 (k : Int) := by
        rw [List.length_map, tab_len]
        apply List.ext_getElem?
        intro i
        rw [List.drop_zero, List.getElem?_take]
        by_cases hi : i < 64
        · rw [if_pos hi, Array.getElem?_toList, at' i hi]
          rw [List.getElem?_map, List.getElem?_eq_getElem (by rw [tab_len]; exact hi), Option.map_some]
          congr 2
          unfold tabZ
          rw [List.getD_eq_getElem?_getD, List.getElem?_map, List.getElem?_eq_getElem (by rw [tab_len]; exact hi)]
          rfl
        · rw [if_neg hi]
          have : (tabN.map fun (k : Nat) => Value.int .u8 (k : Int)).length = 64 := by rw [List.length_map, tab_len]
          rw [List.getElem?_eq_none (by omega)]
      rw [e]
      refine LRel.of_all ?_
      rw [List.all_eq_true]
      intro x hx
      obtain ⟨n, _, rfl⟩ := List.mem_map.1 hx
      rfl
  · cases c0

/-- Numbers of an argument. -/
theorem u64_of {H : AH} {n : Int} {cs : List Value} (h : Abs H (.int .u64) n cs) : ∃ b : Nat, b < 18446744073709551616 ∧ valOf (.int .u64) cs = vu b := by
  obtain ⟨rfl, hw⟩ := h
  have : 0 ≤ n ∧ n ≤ 18446744073709551615 := by simpa [Lit.wf, IntKind.has, IntKind.min, IntKind.max, IntKind.bits, IntKind.signed] using hw
  exact ⟨n.toNat, by omega, by show Value.int .u64 n = Value.int .u64 (n.toNat : Int); rw [Int.toNat_of_nonneg this.1]⟩
theorem i64_of {H : AH} {n : Int} {cs : List Value} (h : Abs H (.int .i64) n cs) : valOf (.int .i64) cs = vi n := by
  obtain ⟨rfl, hw⟩ := h
  rfl
theorem bool_of {H : AH} {b : Bool} {cs : List Value} (h : Abs H .bool b cs) : valOf .bool cs = vb b := by
  have h : cs = _ := h
  rw [h]; rfl
theorem i64_lt {H : AH} {n : Int} {cs : List Value} (h : Abs H (.int .i64) n cs) : -9223372036854775808 ≤ n ∧ n < 9223372036854775808 := by
  obtain ⟨_, hw⟩ := h
  have : -9223372036854775808 ≤ n ∧ n ≤ 9223372036854775807 := by simpa [Lit.wf, IntKind.has, IntKind.min, IntKind.max, IntKind.bits, IntKind.signed] using hw
  omega
theorem slice_one {H : AH} {t : Ty} {l : List t.I} {cs : List Value} (h : Abs H (.slice t) l cs) : ∃ v, cs = [v] ∧ valOf (.slice t) cs = v := by
  rcases h with ⟨_, rfl⟩ | ⟨_, b, rfl⟩ | ⟨b, row, _, rfl, _⟩ <;> exact ⟨_, rfl, rfl⟩

/-- A world for the witness. -/
def pow10V : List Value := [.int .u64 1, .int .u64 10, .int .u64 100, .int .u64 1000, .int .u64 10000, .int .u64 100000, .int .u64 1000000, .int .u64 10000000, .int .u64 100000000, .int .u64 1000000000, .int .u64 10000000000, .int .u64 100000000000, .int .u64 1000000000000, .int .u64 10000000000000, .int .u64 100000000000000, .int .u64 1000000000000000, .int .u64 10000000000000000, .int .u64 100000000000000000, .int .u64 1000000000000000000, .int .u64 10000000000000000000]
def tab32V : List Value := [.int .u8 0, .int .u8 1, .int .u8 28, .int .u8 2, .int .u8 29, .int .u8 14, .int .u8 24, .int .u8 3, .int .u8 30, .int .u8 22, .int .u8 20, .int .u8 15, .int .u8 25, .int .u8 17, .int .u8 4, .int .u8 8, .int .u8 31, .int .u8 27, .int .u8 13, .int .u8 23, .int .u8 21, .int .u8 19, .int .u8 16, .int .u8 7, .int .u8 26, .int .u8 12, .int .u8 18, .int .u8 6, .int .u8 11, .int .u8 5, .int .u8 10, .int .u8 9]
def putIn (l : List Value) : Obj → Obj
  | .cells _ t frozen => .cells l.toArray t frozen
  | o => o
noncomputable def laidWorld (os : Os) : World :=
  { World.holding Tryz.prog os ⟨#[], #[], []⟩ with heap := (((World.holding Tryz.prog os ⟨#[], #[], []⟩).heap.modify 0 (putIn pow10V)).modify 2 (putIn tab32V)).modify 3 (putIn (tabZ.map fun z => Value.int .u8 z)) }
theorem and_t {a b : Bool} (ha : a = true) (hb : b = true) : (a && b) = true := by rw [ha, hb]; rfl
theorem mapsRowed_t : mapsRowed Tryz.prog = true := by kernel_rfl
theorem stopsHeard_t : Tryz.prog.stopsHeard = true := by kernel_rfl
theorem mayEnter_t : Tryz.prog.mayEnter = true := by kernel_rfl

end Go.Proofs.YthagelbepgcolaaGreatDoor.Gst
