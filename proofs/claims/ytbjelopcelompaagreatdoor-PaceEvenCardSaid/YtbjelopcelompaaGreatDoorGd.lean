/- What an operation does to a value of the run is what it does to the abstract one: operations that touch no memory. -/
import Derived.Test.YtbjelopcelompaaGreatDoorGb
import Derived.Test.YtbjelopcelompaaGreatDoorGc
namespace Go.Proofs.YtbjelopcelompaaGreatDoor.Gst
open Go Go.RowKit
section
variable {P : Program} {ρ : Ren}

theorem VRel.int_inv {k : IntKind} {n : Int} {v : Value} (h : VRel P ρ (.int k n) v) : v = .int k n := by cases h; rfl
theorem VRel.bool_inv {b : Bool} {v : Value} (h : VRel P ρ (.bool b) v) : v = .bool b := by cases h; rfl
theorem VRel.string_inv {s : ByteArray} {v : Value} (h : VRel P ρ (.string s) v) : v = .string s := by cases h; rfl
theorem VRel.nilFunc_inv {v : Value} (h : VRel P ρ .nilFunc v) : v = .nilFunc := by cases h; rfl
theorem VRel.ptr_inv {b o : Nat} {v : Value} (h : VRel P ρ (.pointer (some ⟨b, o, none⟩)) v) : ∃ c d sz, ρ b = some (c, d, sz) ∧ v = .pointer (some ⟨c, d + o, none⟩) := by
  cases h with
  | lit h => simp [litV] at h
  | ptr h => exact ⟨_, _, _, h, rfl⟩
theorem VRel.pointer_inv {a : Option Addr} {v : Value} (h : VRel P ρ (.pointer a) v) : ∃ a', v = .pointer a' ∧ a'.isNone = a.isNone := by
  cases h with
  | lit h => exact ⟨_, rfl, rfl⟩
  | ptr h => exact ⟨_, rfl, rfl⟩
theorem VRel.nilptr_inv {v : Value} (h : VRel P ρ (.pointer none) v) : v = .pointer none := by cases h; rfl
theorem VRel.nilslice_inv {n k : Nat} {v : Value} (h : VRel P ρ (.slice none n k) v) : v = .slice none n k := by cases h; rfl
theorem VRel.nilmap_inv {v : Value} (h : VRel P ρ (.map none) v) : v = .map none := by cases h; rfl
theorem VRel.map_inv {b : Nat} {v : Value} (h : VRel P ρ (.map (some b)) v) : ∃ c d sz, ρ b = some (c, d, sz) ∧ v = .map (some c) := by
  cases h with
  | lit h => simp [litV] at h
  | map h => exact ⟨_, _, _, h, rfl⟩
theorem VRel.anymap_inv {r : Option Nat} {v : Value} (h : VRel P ρ (.map r) v) : ∃ r', v = .map r' ∧ r'.isNone = r.isNone := by
  cases h with
  | lit h => exact ⟨_, rfl, rfl⟩
  | map h => exact ⟨_, rfl, rfl⟩
theorem VRel.anyslice_inv {a : Option Addr} {n e : Nat} {v : Value} (h : VRel P ρ (.slice a n e) v) : ∃ a' k, v = .slice a' n k ∧ a'.isNone = a.isNone := by
  cases h with
  | lit h => exact ⟨_, _, rfl, rfl⟩
  | slice h => exact ⟨_, _, rfl, rfl⟩
  | slice0 h => exact ⟨_, _, rfl, rfl⟩
  | empty => exact ⟨_, _, rfl, rfl⟩
theorem VRel.agg_inv {xs : Array Value} {v : Value} (h : VRel P ρ (.agg xs) v) : ∃ ys : Array Value, v = .agg ys ∧ xs.size = ys.size ∧ ∀ (i : Nat) (x y : Value), xs[i]? = some x → ys[i]? = some y → VRel P ρ x y := by
  cases h with
  | lit h => simp [litV] at h
  | agg hs he => exact ⟨_, rfl, hs, he⟩
theorem VRel.tuple_inv {xs : Array Value} {v : Value} (h : VRel P ρ (.tuple xs) v) : ∃ ys : Array Value, v = .tuple ys ∧ xs.size = ys.size ∧ ∀ (i : Nat) (x y : Value), xs[i]? = some x → ys[i]? = some y → VRel P ρ x y := by
  cases h with
  | lit h => simp [litV] at h
  | tuple hs he => exact ⟨_, rfl, hs, he⟩
theorem VRel.func_inv {fn : Fn} {f c : Array Value} {v : Value} (h : VRel P ρ (.func fn f c) v) : ∃ f' c' : Array Value, v = .func fn f' c' ∧ LRel P ρ f.toList f'.toList ∧ LRel P ρ c.toList c'.toList := by
  cases h with
  | lit h => simp [litV] at h
  | func hf h1 hc h2 => exact ⟨_, _, rfl, ⟨by simpa using hf, fun i x y hx hy => h1 i x y (by simpa using hx) (by simpa using hy)⟩, ⟨by simpa using hc, fun i x y hx hy => h2 i x y (by simpa using hx) (by simpa using hy)⟩⟩

theorem LRel.toAgg {xs ys : List Value} (h : LRel P ρ xs ys) : VRel P ρ (.agg xs.toArray) (.agg ys.toArray) :=
  .agg (by simpa using h.1) (fun i x y hx hy => h.2 i x y (by simpa using hx) (by simpa using hy))
theorem LRel.toTuple {xs ys : List Value} (h : LRel P ρ xs ys) : VRel P ρ (.tuple xs.toArray) (.tuple ys.toArray) :=
  .tuple (by simpa using h.1) (fun i x y hx hy => h.2 i x y (by simpa using hx) (by simpa using hy))

/-! ### Facts on types -/
theorem szOf_run {t : TypeId} {n : Nat} (h : szOf P t = some n) (w : World) : (sizeOf t).run P w = .ok n w := by
  unfold szOf at h
  cases hi : P.info? t with
  | none => simp [hi] at h
  | some i => simp [hi] at h; simp [sizeOf, typeInfo, hi, h]
theorem szOf_info {t : TypeId} {n : Nat} (h : szOf P t = some n) : ∃ i, P.info? t = some i ∧ i.size = n := by
  unfold szOf at h
  cases hi : P.info? t with
  | none => simp [hi] at h
  | some i => exact ⟨i, rfl, by simpa [hi] using h⟩
theorem zeroOf_info {t : TypeId} {z : Value} (h : zeroOf P t = some z) : ∃ i, P.info? t = some i ∧ i.zero = some z ∧ z.cells.toList.all litV = true ∧ constV z = true := by
  unfold zeroOf at h
  cases hi : P.info? t with
  | none => simp [hi] at h
  | some i =>
    simp only [hi] at h
    cases hz : i.zero with
    | none => simp [hz] at h
    | some z =>
      simp only [hz] at h
      split at h
      · rename_i hl; cases h; exact ⟨i, rfl, hz, hl⟩
      · cases h
theorem zeroOf_run {t : TypeId} {z : Value} (h : zeroOf P t = some z) (w : World) : (zeroValue t).run P w = .ok z w := by
  obtain ⟨i, hi, hz, _⟩ := zeroOf_info h
  simp [zeroValue, typeInfo, hi, hz]
theorem zero_rel {cs : List Value} (h : cs.all litV = true) : LRel P ρ cs cs := LRel.of_all h
theorem underlying_some {t : TypeId} {d : TypeDesc} (h : P.underlying t = some d) (w : World) : (underlying t).run P w = .ok d w := run_underlying h w
theorem aggOf_none {t : TypeId} (h : aggOf P t = some none) (w : World) : (isAgg t).run P w = .ok false w := by
  unfold aggOf at h
  cases hu : P.underlying t with
  | none => simp [hu] at h
  | some d =>
    simp only [hu] at h
    cases d <;> simp_all [isAgg, run_underlying hu]
theorem aggOf_some {t : TypeId} {n : Nat} (h : aggOf P t = some (some n)) (w : World) : (isAgg t).run P w = .ok true w ∧ szOf P t = some n := by
  unfold aggOf at h
  cases hu : P.underlying t with
  | none => simp [hu] at h
  | some d =>
    simp only [hu] at h
    cases d <;> simp_all [isAgg, run_underlying hu]

/-! ### Whole numbers -/
theorem pInt_run {op : BinOp} {k : IntKind} {a b : Int} {v : Value} (h : pInt op k a b = some v) (t : TypeId) (w : World) (hs : op ≠ .shl) (hr : op ≠ .shr) : (binOp op t (.int k a) (.int k b)).run P w = .ok v w := by
  cases op <;> simp only [pInt] at h <;> first
    | (cases h; simp [binOp, Op.intArith, Op.intCmp, Op.intBits, Go.bits]; done)
    | (split at h <;> first | (cases h; done) | (cases h; rename_i hb; simp [binOp, Op.intDiv, hb]; done))
    | (cases h; done)
    | exact absurd rfl hs
    | exact absurd rfl hr
theorem pShift_run {op : BinOp} {k yk : IntKind} {a b : Int} {v : Value} (h : pShift op k a b = some v) (w : World) : (Op.shift op k a yk b).run P w = .ok v w := by
  unfold pShift at h
  split at h
  · cases h
  · rename_i hb
    cases op <;> simp only at h <;> first | (cases h; done) | (cases h; simp [Op.shift, hb])

theorem eqCells_rel : ∀ {xs ys : List Value} {xs' ys' : List Value} {r : Bool}, eqCells xs ys = some r → LRel P ρ xs xs' → LRel P ρ ys ys' → xs' = xs ∧ ys' = ys := by
  intro xs
  induction xs with
  | nil =>
    intro ys xs' ys' r h h1 h2
    cases ys with
    | nil => exact ⟨List.eq_nil_of_length_eq_zero h1.1.symm, List.eq_nil_of_length_eq_zero h2.1.symm⟩
    | cons => simp [eqCells] at h
  | cons x xs ih =>
    intro ys xs' ys' r h h1 h2
    cases ys with
    | nil => simp [eqCells] at h
    | cons y ys =>
      cases xs' with
      | nil => have := h1.1; simp at this
      | cons x' xs' =>
        cases ys' with
        | nil => have := h2.1; simp at this
        | cons y' ys' =>
          cases x <;> cases y <;> simp only [eqCells] at h <;> try (cases h; done)
          rename_i k a k' b
          split at h
          · obtain ⟨r', hr', _⟩ := Option.map_eq_some_iff.1 h
            have hx := (h1.2 0 (.int k a) x' (by simp) (by simp)).int_inv
            have hy := (h2.2 0 (.int k' b) y' (by simp) (by simp)).int_inv
            have t1 : LRel P ρ xs xs' := by simpa using h1.drop 1
            have t2 : LRel P ρ ys ys' := by simpa using h2.drop 1
            obtain ⟨e1, e2⟩ := ih hr' t1 t2
            exact ⟨by rw [hx, e1], by rw [hy, e2]⟩
          · cases h
end
end Go.Proofs.YtbjelopcelompaaGreatDoor.Gst
