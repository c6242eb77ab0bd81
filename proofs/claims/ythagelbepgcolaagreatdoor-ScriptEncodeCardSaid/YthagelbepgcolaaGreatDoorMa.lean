/- An abstract heap, abstract operations, and what the operations of a run do, one by one. -/
import Derived.Calls
import Derived.Orders
import Derived.Below
import Derived.Laws.Entries
import Derived.Laws.Cells
import Derived.Laws.CopyRow
import Derived.Laws.Append
import Derived.Laws.AppendOwn
import Derived.Laws.MakeOwn
import Derived.Laws.StructEq
import Derived.Laws.Pointers
import Derived.Laws.Slices
import Derived.Laws.Strings
import Derived.Deep.LoopGhost
namespace Go.Proofs.YthagelbepgcolaaGreatDoor.Gst
open Go Go.RowKit

/-! ### The abstract heap -/

/-- A block: cells (that may be written, or not), a map, or one that nobody asks any more. -/
inductive AObj where
  | cells (ro : Bool) (cs : List Value)
  | map (es : List MapEntry) (clock : Nat)
  | dead

def AObj.rw : AObj → Bool
  | .cells false _ => true
  | .map _ _ => true
  | _ => false

structure AH where
  objs : List AObj

def AH.size (H : AH) : Nat := H.objs.length
def AH.get (H : AH) (b : Nat) : Option AObj := H.objs[b]?
def AH.set (H : AH) (b : Nat) (o : AObj) : AH := ⟨H.objs.set b o⟩
def AH.push (H : AH) (o : AObj) : AH := ⟨H.objs ++ [o]⟩

theorem AH.size_set (H : AH) (b : Nat) (o : AObj) : (H.set b o).size = H.size := by simp [AH.size, AH.set]
theorem AH.size_push (H : AH) (o : AObj) : (H.push o).size = H.size + 1 := by simp [AH.size, AH.push]
theorem AH.lt_of_get {H : AH} {b : Nat} {o : AObj} (h : H.get b = some o) : b < H.size := by
  unfold AH.get at h; unfold AH.size
  exact (List.getElem?_eq_some_iff.1 h).1
theorem AH.get_none {H : AH} {b : Nat} (h : H.size ≤ b) : H.get b = none := by
  unfold AH.get; unfold AH.size at h; exact List.getElem?_eq_none h
theorem AH.get_push (H : AH) (o : AObj) (b : Nat) : (H.push o).get b = if b = H.size then some o else H.get b := by
  unfold AH.get AH.push AH.size
  by_cases h : b = H.objs.length
  · subst h; simp
  · rw [if_neg h]
    by_cases hl : b < H.objs.length
    · rw [List.getElem?_append_left hl]
    · rw [List.getElem?_append_right (by omega), List.getElem?_eq_none (by simp; omega), List.getElem?_eq_none (by omega)]
theorem AH.get_set (H : AH) (b : Nat) (o : AObj) (b' : Nat) : (H.set b o).get b' = if b' = b then (if b < H.size then some o else none) else H.get b' := by
  unfold AH.get AH.set AH.size
  rw [List.getElem?_set]
  by_cases h : b = b'
  · subst h; simp
  · rw [if_neg h, if_neg (fun e => h e.symm)]
theorem AH.get_set_ne {H : AH} {b : Nat} {o : AObj} {b' : Nat} (h : b' ≠ b) : (H.set b o).get b' = H.get b' := by rw [AH.get_set, if_neg h]
theorem AH.get_set_eq {H : AH} {b : Nat} {o : AObj} (h : b < H.size) : (H.set b o).get b = some o := by rw [AH.get_set, if_pos rfl, if_pos h]
theorem AH.get_push_old {H : AH} {o : AObj} {b : Nat} (h : b < H.size) : (H.push o).get b = H.get b := by rw [AH.get_push, if_neg (by omega)]
theorem AH.get_push_new (H : AH) (o : AObj) : (H.push o).get H.size = some o := by rw [AH.get_push, if_pos rfl]

/-! ### Values -/

/-- A value without an address in it, and without parts. -/
def litV : Value → Bool
  | .bool _ | .int _ _ | .float _ _ | .complex _ _ _ | .string _ | .pointer none | .slice none _ _ | .map none | .chan none | .nilFunc | .nilIface => true
  | _ => false

/-- A constant of the text. -/
def constV : Value → Bool
  | .agg cs => cs.toList.all litV
  | .tuple cs => cs.toList.all litV
  | v => litV v

/-- Of an abstract block the block that it stands for, where it begins there, and how many cells that block has. -/
abbrev Ren := Nat → Option (Nat × Nat × Nat)

def Ren.upd (ρ : Ren) (b : Nat) (x : Nat × Nat × Nat) : Ren := fun i => if i = b then some x else ρ i

/-- An abstract value, and a value of the run: an abstract slice bears the number of cells of an element where a slice has its capacity (0: it has no room at all). -/
inductive VRel (P : Program) (ρ : Ren) : Value → Value → Prop
  | lit {v : Value} (h : litV v = true) : VRel P ρ v v
  | ptr {b o c d sz : Nat} (h : ρ b = some (c, d, sz)) : VRel P ρ (.pointer (some ⟨b, o, none⟩)) (.pointer (some ⟨c, d + o, none⟩))
  | slice {b o n e c d sz k : Nat} (h : ρ b = some (c, d, sz)) (hk : d + o + k * e ≤ sz) (hn : n ≤ k) (he : 0 < e) :
      VRel P ρ (.slice (some ⟨b, o, none⟩) n e) (.slice (some ⟨c, d + o, none⟩) n k)
  | slice0 {b o e c d sz : Nat} {a : Addr} (h : ρ b = some (c, d, sz)) : VRel P ρ (.slice (some ⟨b, o, none⟩) 0 e) (.slice (some a) 0 0)
  | empty {b o : Nat} {a : Addr} : VRel P ρ (.slice (some ⟨b, o, none⟩) 0 0) (.slice (some a) 0 0)
  | map {b c d sz : Nat} (h : ρ b = some (c, d, sz)) : VRel P ρ (.map (some b)) (.map (some c))
  | func {fn : Fn} {f f' c c' : Array Value} (hf : f.size = f'.size) (hfe : ∀ (i : Nat) (x y : Value), f[i]? = some x → f'[i]? = some y → VRel P ρ x y)
      (hc : c.size = c'.size) (hce : ∀ (i : Nat) (x y : Value), c[i]? = some x → c'[i]? = some y → VRel P ρ x y) : VRel P ρ (.func fn f c) (.func fn f' c')
  | iface {t : TypeId} {v v' : Value} (h : VRel P ρ v v') : VRel P ρ (.iface t v) (.iface t v')
  | agg {xs ys : Array Value} (hs : xs.size = ys.size) (he : ∀ (i : Nat) (x y : Value), xs[i]? = some x → ys[i]? = some y → VRel P ρ x y) : VRel P ρ (.agg xs) (.agg ys)
  | tuple {xs ys : Array Value} (hs : xs.size = ys.size) (he : ∀ (i : Nat) (x y : Value), xs[i]? = some x → ys[i]? = some y → VRel P ρ x y) : VRel P ρ (.tuple xs) (.tuple ys)

theorem VRel.mono {P : Program} {ρ ρ' : Ren} (hle : ∀ b x, ρ b = some x → ρ' b = some x) {v v' : Value} (h : VRel P ρ v v') : VRel P ρ' v v' := by
  induction h with
  | lit h => exact .lit h
  | ptr h => exact .ptr (hle _ _ h)
  | slice h hk hn he => exact .slice (hle _ _ h) hk hn he
  | slice0 h => exact .slice0 (hle _ _ h)
  | empty => exact .empty
  | map h => exact .map (hle _ _ h)
  | func hf _ hc _ ih1 ih2 => exact .func hf ih1 hc ih2
  | iface _ ih => exact .iface ih
  | agg hs _ ih => exact .agg hs ih
  | tuple hs _ ih => exact .tuple hs ih

theorem VRel.slice_inv {P : Program} {ρ : Ren} {b o n e : Nat} {s' : Value} (h : VRel P ρ (.slice (some ⟨b, o, none⟩) n e) s') (he : e ≠ 0) :
    (∃ c d sz a, ρ b = some (c, d, sz) ∧ n = 0 ∧ s' = .slice (some a) 0 0) ∨ ∃ c d sz k, ρ b = some (c, d, sz) ∧ d + o + k * e ≤ sz ∧ n ≤ k ∧ s' = .slice (some ⟨c, d + o, none⟩) n k := by
  cases h with
  | lit h => simp [litV] at h
  | slice h hk hn he => exact .inr ⟨_, _, _, _, h, hk, hn, rfl⟩
  | slice0 h => exact .inl ⟨_, _, _, _, h, rfl, rfl⟩
  | empty => exact absurd rfl he

theorem VRel.const {P : Program} {ρ : Ren} {v : Value} (h : constV v = true) : VRel P ρ v v := by
  have all : ∀ cs : Array Value, cs.toList.all litV = true → ∀ (i : Nat) (x y : Value), cs[i]? = some x → cs[i]? = some y → VRel P ρ x y := by
    intro cs hcs i x y hx hy
    rw [hx] at hy
    cases hy
    have hm : x ∈ cs.toList := by
      have := Array.mem_of_getElem? hx
      simpa using this
    exact .lit (List.all_eq_true.1 hcs x hm)
  cases v <;> first
    | exact .lit h
    | exact .agg rfl (all _ h)
    | exact .tuple rfl (all _ h)

theorem VRel.undef {P : Program} {ρ : Ren} : VRel P ρ undef undef := .tuple rfl (fun i x y hx _ => by simp at hx)

/-- Two lists of values, one by one. -/
def LRel (P : Program) (ρ : Ren) (xs ys : List Value) : Prop := xs.length = ys.length ∧ ∀ (i : Nat) (x y : Value), xs[i]? = some x → ys[i]? = some y → VRel P ρ x y

theorem LRel.mono {P : Program} {ρ ρ' : Ren} (hle : ∀ b x, ρ b = some x → ρ' b = some x) {xs ys : List Value} (h : LRel P ρ xs ys) : LRel P ρ' xs ys :=
  ⟨h.1, fun i x y hx hy => (h.2 i x y hx hy).mono hle⟩
theorem LRel.nil {P : Program} {ρ : Ren} : LRel P ρ [] [] := ⟨rfl, fun _ _ _ h => by simp at h⟩
theorem LRel.cons {P : Program} {ρ : Ren} {x y : Value} {xs ys : List Value} (h : VRel P ρ x y) (hs : LRel P ρ xs ys) : LRel P ρ (x :: xs) (y :: ys) := by
  refine ⟨by simp [hs.1], fun i a b ha hb => ?_⟩
  cases i with
  | zero => simp at ha hb; subst ha; subst hb; exact h
  | succ i => simp at ha hb; exact hs.2 i a b ha hb
theorem LRel.append {P : Program} {ρ : Ren} {xs ys xs' ys' : List Value} (h : LRel P ρ xs ys) (h' : LRel P ρ xs' ys') : LRel P ρ (xs ++ xs') (ys ++ ys') := by
  refine ⟨by simp [h.1, h'.1], fun i a b ha hb => ?_⟩
  have hl := h.1
  rw [List.getElem?_append] at ha hb
  by_cases hi : i < xs.length
  · rw [if_pos hi] at ha; rw [if_pos (by omega)] at hb; exact h.2 i a b ha hb
  · rw [if_neg hi] at ha; rw [if_neg (by omega)] at hb
    rw [← hl] at hb
    exact h'.2 _ a b ha hb
theorem LRel.take {P : Program} {ρ : Ren} {xs ys : List Value} (h : LRel P ρ xs ys) (n : Nat) : LRel P ρ (xs.take n) (ys.take n) := by
  refine ⟨by simp [h.1], fun i a b ha hb => ?_⟩
  rw [List.getElem?_take] at ha hb
  by_cases hi : i < n
  · rw [if_pos hi] at ha hb; exact h.2 i a b ha hb
  · rw [if_neg hi] at ha; cases ha
theorem LRel.drop {P : Program} {ρ : Ren} {xs ys : List Value} (h : LRel P ρ xs ys) (n : Nat) : LRel P ρ (xs.drop n) (ys.drop n) := by
  refine ⟨by simp [h.1], fun i a b ha hb => ?_⟩
  rw [List.getElem?_drop] at ha hb
  exact h.2 _ a b ha hb
theorem LRel.set {P : Program} {ρ : Ren} {xs ys : List Value} (h : LRel P ρ xs ys) (n : Nat) {x y : Value} (hx : VRel P ρ x y) : LRel P ρ (xs.set n x) (ys.set n y) := by
  refine ⟨by simp [h.1], fun i a b ha hb => ?_⟩
  rw [List.getElem?_set] at ha hb
  by_cases hi : n = i
  · rw [if_pos hi] at ha hb
    have := h.1
    split at ha <;> split at hb <;> first | (cases ha; cases hb; exact hx) | omega | cases ha
  · rw [if_neg hi] at ha hb; exact h.2 i a b ha hb
theorem LRel.get {P : Program} {ρ : Ren} {xs ys : List Value} (h : LRel P ρ xs ys) {i : Nat} {x : Value} (hx : xs[i]? = some x) : ∃ y, ys[i]? = some y ∧ VRel P ρ x y := by
  have hi := (List.getElem?_eq_some_iff.1 hx).1
  have hy : i < ys.length := by have := h.1; omega
  exact ⟨ys[i], List.getElem?_eq_getElem hy, h.2 i x _ hx (List.getElem?_eq_getElem hy)⟩
theorem LRel.of_all {P : Program} {ρ : Ren} {xs : List Value} (h : xs.all litV = true) : LRel P ρ xs xs :=
  ⟨rfl, fun i x y hx hy => by
    rw [hx] at hy; cases hy
    exact .lit (List.all_eq_true.1 h x (List.mem_of_getElem? hx))⟩

/-- The cells of a value. -/
theorem VRel.cells {P : Program} {ρ : Ren} {v v' : Value} (h : VRel P ρ v v') : LRel P ρ v.cells.toList v'.cells.toList := by
  have one : ∀ {v v' : Value}, VRel P ρ v v' → LRel P ρ [v] [v'] := fun h => LRel.cons h LRel.nil
  cases h with
  | lit h =>
    cases v <;> first | exact one (.lit h) | (simp [litV] at h)
  | agg hs he =>
    exact ⟨by simpa [Value.cells] using hs, fun i x y hx hy => he i x y (by simpa [Value.cells] using hx) (by simpa [Value.cells] using hy)⟩
  | ptr h => exact one (.ptr h)
  | slice h hk hn he => exact one (.slice h hk hn he)
  | slice0 h => exact one (.slice0 h)
  | empty => exact one .empty
  | map h => exact one (.map h)
  | func hf h1 hc h2 => exact one (.func hf h1 hc h2)
  | iface h => exact one (.iface h)
  | tuple hs he => exact one (.tuple hs he)

theorem VRel.oneCell {P : Program} {ρ : Ren} {v v' : Value} (h : VRel P ρ v v') : v.oneCell' = v'.oneCell' := by
  cases h <;> rfl

/-! ### Worlds -/

def ERel (P : Program) (ρ : Ren) (e e' : MapEntry) : Prop := VRel P ρ e.key e'.key ∧ VRel P ρ e.val e'.val ∧ e.born = e'.born

/-- A block of the run is as the abstract one says. -/
def ORel (P : Program) (ρ : Ren) (d sz : Nat) (o : AObj) (x : Option Obj) : Prop :=
  match o with
  | .dead => True
  | .cells ro cs => ∃ cc el fz, x = some (.cells cc el fz) ∧ cc.size = sz ∧ d + cs.length ≤ sz ∧ (ro = false → fz = (0, 0)) ∧ LRel P ρ cs ((cc.toList.drop d).take cs.length)
  | .map es clock => ∃ es', x = some (.map es' clock) ∧ es'.size = es.length ∧ ∀ (i : Nat) (e e' : MapEntry), es[i]? = some e → es'[i]? = some e' → ERel P ρ e e'

theorem ORel.mono {P : Program} {ρ ρ' : Ren} (hle : ∀ b x, ρ b = some x → ρ' b = some x) {d sz : Nat} {o : AObj} {x : Option Obj} (h : ORel P ρ d sz o x) : ORel P ρ' d sz o x := by
  cases o with
  | dead => trivial
  | cells ro cs =>
    obtain ⟨cc, el, fz, h1, h2, h3, h4, h5⟩ := h
    exact ⟨cc, el, fz, h1, h2, h3, h4, h5.mono hle⟩
  | map es clock =>
    obtain ⟨es', h1, h2, h3⟩ := h
    exact ⟨es', h1, h2, fun i e e' he he' => let ⟨a, b, c⟩ := h3 i e e' he he'; ⟨a.mono hle, b.mono hle, c⟩⟩

/-- The world is of the abstract heap's shape: what was there below B is as it was. -/
structure Rel (P : Program) (w0 : World) (B : Nat) (ρ : Ren) (H : AH) (w : World) : Prop where
  base : B ≤ w0.heap.size
  below : Below B w0 w
  dom : ∀ b x, ρ b = some x → b < H.size
  blk : ∀ b c d sz, ρ b = some (c, d, sz) → c < w.heap.size
  obj : ∀ b c d sz o, ρ b = some (c, d, sz) → H.get b = some o → ORel P ρ d sz o w.heap[c]?
  own : ∀ b c d sz o, ρ b = some (c, d, sz) → H.get b = some o → o.rw = true → B ≤ c
  ro : ∀ b c d sz cs, ρ b = some (c, d, sz) → H.get b = some (.cells true cs) → c < B
  inj : ∀ b b' c d d' sz sz' o o', ρ b = some (c, d, sz) → ρ b' = some (c, d', sz') → H.get b = some o → H.get b' = some o' → o.rw = true → o'.rw = true → b = b'

/-- What a piece of the run may do. -/
structure Ext (ρ : Ren) (H : AH) (w : World) (ρ' : Ren) (H' : AH) (w' : World) : Prop where
  le : ∀ b x, ρ b = some x → ρ' b = some x
  fresh : ∀ b x, ρ' b = some x → ρ b = none → H.size ≤ b ∧ b < H'.size
  hsize : H.size ≤ H'.size
  wsize : w.heap.size ≤ w'.heap.size
  keepA : ∀ b, b < H.size → ρ b = none → H'.get b = H.get b
  keepRo : ∀ b o, H.get b = some o → o.rw = false → H'.get b = some o
  keepC : ∀ c, c < w.heap.size → (∀ b d sz o, ρ b = some (c, d, sz) → H.get b = some o → o.rw = false) → w'.heap[c]? = w.heap[c]?
  newC : ∀ b c d sz, ρ' b = some (c, d, sz) → ρ b = none → w.heap.size ≤ c ∨ ∃ b0 d0 sz0 o, ρ b0 = some (c, d0, sz0) ∧ H.get b0 = some o ∧ o.rw = true

theorem Ext.refl (ρ : Ren) (H : AH) (w : World) : Ext ρ H w ρ H w where
  le := fun _ _ h => h
  fresh := fun b x h hn => by rw [hn] at h; cases h
  hsize := Nat.le_refl _
  wsize := Nat.le_refl _
  keepA := fun _ _ _ => rfl
  keepRo := fun _ _ h _ => h
  keepC := fun _ _ _ => rfl
  newC := fun b c d sz h hn => by rw [hn] at h; cases h

theorem Ext.trans {P : Program} {w0 : World} {B : Nat} {ρ ρ1 ρ2 : Ren} {H H1 H2 : AH} {w w1 w2 : World} (hr : Rel P w0 B ρ H w)
    (h : Ext ρ H w ρ1 H1 w1) (k : Ext ρ1 H1 w1 ρ2 H2 w2) : Ext ρ H w ρ2 H2 w2 where
  le := fun b x hb => k.le b x (h.le b x hb)
  fresh := fun b x hb hn => by
    cases h1 : ρ1 b with
    | none => have := k.fresh b x hb h1; have := h.hsize; omega
    | some y => have := h.fresh b y h1 hn; have := k.hsize; omega
  hsize := Nat.le_trans h.hsize k.hsize
  wsize := Nat.le_trans h.wsize k.wsize
  keepA := fun b hb hn => by
    have h1 : ρ1 b = none := by
      cases h1 : ρ1 b with
      | none => rfl
      | some y => have := h.fresh b y h1 hn; omega
    rw [k.keepA b (by have := h.hsize; omega) h1, h.keepA b hb hn]
  keepRo := fun b o ho hrw => k.keepRo b o (h.keepRo b o ho hrw) hrw
  keepC := fun c hc hf => by
    have e1 := h.keepC c hc hf
    rw [← e1]
    refine k.keepC c (Nat.lt_of_lt_of_le hc h.wsize) ?_
    intro b d sz o hb ho
    cases hn : ρ b with
    | some y =>
      have hy : y = (c, d, sz) := by have := h.le b y hn; rw [hb] at this; exact (Option.some.inj this).symm
      subst hy
      cases hH : H.get b with
      | some o1 =>
        have h2 := hf b d sz o1 hn hH
        have h3 := h.keepRo b o1 hH h2
        rw [ho] at h3
        cases h3
        exact h2
      | none =>
        have h4 := hr.dom b _ hn
        unfold AH.get at hH; unfold AH.size at h4
        rw [List.getElem?_eq_none_iff] at hH
        omega
    | none =>
      rcases h.newC b c d sz hb hn with h3 | ⟨b0, d0, sz0, o0, h3, h4, h5⟩
      · omega
      · have := hf b0 d0 sz0 o0 h3 h4; rw [h5] at this; cases this
  newC := fun b c d sz hb hn => by
    cases h1 : ρ1 b with
    | some y =>
      have hy : y = (c, d, sz) := by have := k.le b y h1; rw [hb] at this; exact (Option.some.inj this).symm
      subst hy
      exact h.newC b c d sz h1 hn
    | none =>
      rcases k.newC b c d sz hb h1 with h3 | ⟨b0, d0, sz0, o0, h3, h4, h5⟩
      · exact .inl (Nat.le_trans h.wsize h3)
      · cases h6 : ρ b0 with
        | none =>
          rcases h.newC b0 c d0 sz0 h3 h6 with h7 | h7
          · exact .inl h7
          · exact .inr h7
        | some y =>
          have hy : y = (c, d0, sz0) := by have := h.le b0 y h6; rw [h3] at this; exact (Option.some.inj this).symm
          subst hy
          cases hH : H.get b0 with
          | none =>
            have h8 := hr.dom b0 _ h6
            unfold AH.get at hH; unfold AH.size at h8
            rw [List.getElem?_eq_none_iff] at hH
            omega
          | some o1 =>
            refine .inr ⟨b0, d0, sz0, o1, h6, hH, ?_⟩
            cases hrw : o1.rw with
            | true => rfl
            | false =>
              have := h.keepRo b0 o1 hH hrw
              rw [h4] at this
              cases this
              rw [h5] at hrw
              cases hrw

/-- A draw changes nothing. -/
theorem Rel.drew {P : Program} {w0 : World} {B : Nat} {ρ : Ren} {H : AH} {w : World} (h : Rel P w0 B ρ H w) : Rel P w0 B ρ H w.drew :=
  { h with below := h.below.drew }
theorem Ext.drew {ρ ρ' : Ren} {H H' : AH} {w w' : World} (h : Ext ρ H w ρ' H' w') : Ext ρ H w ρ' H' w'.drew := { h with }
theorem Ext.drew0 (ρ : Ren) (H : AH) (w : World) : Ext ρ H w ρ H w.drew := (Ext.refl ρ H w).drew
theorem Ext.of_drew {ρ ρ' : Ren} {H H' : AH} {w w' : World} (h : Ext ρ H w.drew ρ' H' w') : Ext ρ H w ρ' H' w' := { h with }

end Go.Proofs.YthagelbepgcolaaGreatDoor.Gst
/- Three ways in which a world and its abstract heap change together: a block is written, a block is new, a row of cells goes on under a new number. -/
namespace Go.Proofs.YthagelbepgcolaaGreatDoor.Gst
open Go Go.RowKit
section
variable {P : Program} {w0 : World} {B : Nat} {ρ : Ren} {H : AH} {w : World}

/-- A block of the call's own is written. -/
theorem Rel.setBlock (h : Rel P w0 B ρ H w) {b c d sz : Nat} {o o' : AObj} (hb : ρ b = some (c, d, sz)) (ho : H.get b = some o) (hrw : o.rw = true) (hrw' : o'.rw = true) {w' : World}
    (hos : w'.os = w.os) (htape : w'.tape = w.tape) (hout : w'.output = w.output) (hsz : w'.heap.size = w.heap.size) (hoth : ∀ k, k ≠ c → w'.heap[k]? = w.heap[k]?)
    (hnew : ORel P ρ d sz o' w'.heap[c]?) : Rel P w0 B ρ (H.set b o') w' ∧ Ext ρ H w ρ (H.set b o') w' := by
  have hlt := AH.lt_of_get ho
  have hB : B ≤ c := h.own b c d sz o hb ho hrw
  have key : ∀ b1 o1, (H.set b o').get b1 = some o1 → (b1 = b ∧ o1 = o') ∨ (b1 ≠ b ∧ H.get b1 = some o1) := by
    intro b1 o1 h1
    rw [AH.get_set] at h1
    by_cases hb1 : b1 = b
    · rw [if_pos hb1, if_pos hlt] at h1
      exact .inl ⟨hb1, (Option.some.inj h1).symm⟩
    · rw [if_neg hb1] at h1
      exact .inr ⟨hb1, h1⟩
  constructor
  · refine ⟨h.base, ?_, ?_, ?_, ?_, ?_, ?_, ?_⟩
    · exact h.below.trans ⟨hos, htape, hout, Nat.le_of_eq hsz.symm, fun k hk => hoth k (by omega)⟩
    · intro b1 x hx; rw [AH.size_set]; exact h.dom b1 x hx
    · intro b1 c1 d1 sz1 hx; rw [hsz]; exact h.blk b1 c1 d1 sz1 hx
    · intro b1 c1 d1 sz1 o1 hx ho1
      rcases key b1 o1 ho1 with ⟨rfl, rfl⟩ | ⟨hne, ho1⟩
      · rw [hb] at hx; cases hx; exact hnew
      · by_cases hc : c1 = c
        · subst hc
          cases hr1 : o1.rw with
          | true => exact absurd (h.inj b1 b _ _ _ _ _ _ _ hx hb ho1 ho hr1 hrw) hne
          | false =>
            cases o1 with
            | dead => trivial
            | map es cl => simp [AObj.rw] at hr1
            | cells r cs =>
              cases r with
              | false => simp [AObj.rw] at hr1
              | true => have := h.ro b1 _ _ _ _ hx ho1; omega
        · rw [hoth c1 hc]; exact h.obj b1 c1 d1 sz1 o1 hx ho1
    · intro b1 c1 d1 sz1 o1 hx ho1 hr1
      rcases key b1 o1 ho1 with ⟨rfl, rfl⟩ | ⟨_, ho1⟩
      · rw [hb] at hx; cases hx; exact hB
      · exact h.own b1 c1 d1 sz1 o1 hx ho1 hr1
    · intro b1 c1 d1 sz1 cs hx ho1
      rcases key b1 _ ho1 with ⟨rfl, rfl⟩ | ⟨_, ho1⟩
      · simp [AObj.rw] at hrw'
      · exact h.ro b1 c1 d1 sz1 cs hx ho1
    · intro b1 b2 c1 d1 d2 sz1 sz2 o1 o2 hx1 hx2 ho1 ho2 hr1 hr2
      rcases key b1 o1 ho1 with ⟨rfl, rfl⟩ | ⟨n1, k1⟩ <;> rcases key b2 o2 ho2 with ⟨rfl, rfl⟩ | ⟨n2, k2⟩
      · rfl
      · exact h.inj _ _ _ _ _ _ _ _ _ hx1 hx2 ho k2 hrw hr2
      · exact h.inj _ _ _ _ _ _ _ _ _ hx1 hx2 k1 ho hr1 hrw
      · exact h.inj _ _ _ _ _ _ _ _ _ hx1 hx2 k1 k2 hr1 hr2
  · refine ⟨fun _ _ hx => hx, fun b1 x hx hn => absurd hx (by rw [hn]; simp), Nat.le_of_eq (AH.size_set ..).symm, Nat.le_of_eq hsz.symm, ?_, ?_, ?_, fun b1 c1 d1 sz1 hx hn => absurd hx (by rw [hn]; simp)⟩
    · intro b1 _ hn
      exact AH.get_set_ne (fun e => by rw [e, hb] at hn; cases hn)
    · intro b1 o1 ho1 hr1
      rw [AH.get_set_ne (fun e => by rw [e, ho] at ho1; cases ho1; rw [hrw] at hr1; cases hr1)]
      exact ho1
    · intro c1 _ hf
      exact hoth c1 (fun e => by subst e; have := hf b d sz o hb ho; rw [hrw] at this; cases this)

theorem Ren.upd_same (ρ : Ren) (b : Nat) (x : Nat × Nat × Nat) : ρ.upd b x b = some x := by simp [Ren.upd]
theorem Ren.upd_ne {ρ : Ren} {b b' : Nat} {x : Nat × Nat × Nat} (h : b' ≠ b) : ρ.upd b x b' = ρ b' := by simp [Ren.upd, h]
theorem Ren.upd_le {ρ : Ren} {b : Nat} {x : Nat × Nat × Nat} (h : ρ b = none) : ∀ b' y, ρ b' = some y → ρ.upd b x b' = some y := by
  intro b' y hy
  rw [Ren.upd_ne (fun e => by rw [e, h] at hy; cases hy)]
  exact hy

theorem Rel.size (h : Rel P w0 B ρ H w) : B ≤ w.heap.size := Nat.le_trans h.base h.below.size

/-- A new block. -/
theorem Rel.push (h : Rel P w0 B ρ H w) {o : AObj} {ob : Obj} {sz : Nat} (hrw : o.rw = true) (hnew : ORel P ρ 0 sz o (some ob)) :
    Rel P w0 B (ρ.upd H.size (w.heap.size, 0, sz)) (H.push o) (w.alloc ob) ∧ Ext ρ H w (ρ.upd H.size (w.heap.size, 0, sz)) (H.push o) (w.alloc ob) := by
  have hB := h.size
  have hnone : ρ H.size = none := by
    cases hn : ρ H.size with
    | none => rfl
    | some x => have := h.dom _ _ hn; omega
  have hle := Ren.upd_le (x := (w.heap.size, 0, sz)) hnone
  have hheap : ∀ k, k < w.heap.size → (w.alloc ob).heap[k]? = w.heap[k]? := fun k hk => Below.heap_alloc w ob k hk
  have hlast : (w.alloc ob).heap[w.heap.size]? = some ob  := heap_alloc_new w ob
  have key : ∀ b1 o1, (H.push o).get b1 = some o1 → (b1 = H.size ∧ o1 = o) ∨ (b1 < H.size ∧ H.get b1 = some o1) := by
    intro b1 o1 h1
    rw [AH.get_push] at h1
    by_cases hb1 : b1 = H.size
    · rw [if_pos hb1] at h1; exact .inl ⟨hb1, (Option.some.inj h1).symm⟩
    · rw [if_neg hb1] at h1; exact .inr ⟨AH.lt_of_get h1, h1⟩
  have old : ∀ {b1 c1 d1 sz1}, b1 < H.size → ρ.upd H.size (w.heap.size, 0, sz) b1 = some (c1, d1, sz1) → ρ b1 = some (c1, d1, sz1) := by
    intro b1 c1 d1 sz1 hb1 hx
    rwa [Ren.upd_ne (by omega)] at hx
  constructor
  · refine ⟨h.base, ?_, ?_, ?_, ?_, ?_, ?_, ?_⟩
    · exact h.below.alloc hB ob
    · intro b1 x hx
      rw [AH.size_push]
      by_cases hb1 : b1 = H.size
      · omega
      · rw [Ren.upd_ne hb1] at hx; have := h.dom b1 x hx; omega
    · intro b1 c1 d1 sz1 hx
      rw [World.size_alloc]
      by_cases hb1 : b1 = H.size
      · subst hb1; rw [Ren.upd_same] at hx; cases hx; omega
      · rw [Ren.upd_ne hb1] at hx; have := h.blk b1 c1 d1 sz1 hx; omega
    · intro b1 c1 d1 sz1 o1 hx ho1
      rcases key b1 o1 ho1 with ⟨rfl, rfl⟩ | ⟨hlt, ho1⟩
      · rw [Ren.upd_same] at hx; cases hx; rw [hlast]; exact hnew.mono hle
      · have hx' := old hlt hx
        rw [hheap c1 (h.blk b1 c1 d1 sz1 hx')]; exact (h.obj b1 c1 d1 sz1 o1 hx' ho1).mono hle
    · intro b1 c1 d1 sz1 o1 hx ho1 hr1
      rcases key b1 o1 ho1 with ⟨rfl, rfl⟩ | ⟨hlt, ho1⟩
      · rw [Ren.upd_same] at hx; cases hx; exact hB
      · exact h.own b1 c1 d1 sz1 o1 (old hlt hx) ho1 hr1
    · intro b1 c1 d1 sz1 cs hx ho1
      rcases key b1 _ ho1 with ⟨rfl, rfl⟩ | ⟨hlt, ho1⟩
      · simp [AObj.rw] at hrw
      · exact h.ro b1 c1 d1 sz1 cs (old hlt hx) ho1
    · intro b1 b2 c1 d1 d2 sz1 sz2 o1 o2 hx1 hx2 ho1 ho2 hr1 hr2
      rcases key b1 o1 ho1 with ⟨rfl, rfl⟩ | ⟨n1, k1⟩ <;> rcases key b2 o2 ho2 with ⟨rfl, rfl⟩ | ⟨n2, k2⟩
      · rfl
      · rw [Ren.upd_same] at hx1; cases hx1
        have := h.blk _ _ _ _ (old n2 hx2); omega
      · rw [Ren.upd_same] at hx2; cases hx2
        have := h.blk _ _ _ _ (old n1 hx1); omega
      · exact h.inj _ _ _ _ _ _ _ _ _ (old n1 hx1) (old n2 hx2) k1 k2 hr1 hr2
  · refine ⟨hle, ?_, by rw [AH.size_push]; omega, by simp, ?_, ?_, ?_, ?_⟩
    · intro b1 x hx hn
      by_cases hb1 : b1 = H.size
      · rw [AH.size_push]; omega
      · rw [Ren.upd_ne hb1, hn] at hx; cases hx
    · intro b1 hb1 _; exact AH.get_push_old hb1
    · intro b1 o1 ho1 _; rw [AH.get_push_old (AH.lt_of_get ho1)]; exact ho1
    · intro c1 hc _; exact hheap c1 hc
    · intro b1 c1 d1 sz1 hx hn
      by_cases hb1 : b1 = H.size
      · subst hb1; rw [Ren.upd_same] at hx; cases hx; exact .inl (Nat.le_refl _)
      · rw [Ren.upd_ne hb1, hn] at hx; cases hx

/-- A row of cells that goes on under a new number, in its own block (that may have been written behind its end) or in a new one. -/
theorem Rel.move (h : Rel P w0 B ρ H w) {b c d sz : Nat} {cs : List Value} (hb : ρ b = some (c, d, sz)) (ho : H.get b = some (.cells false cs)) {o' : AObj} (hrw' : o'.rw = true) {w' : World} {c' d' sz' : Nat}
    (hos : w'.os = w.os) (htape : w'.tape = w.tape) (hout : w'.output = w.output) (hsz : w.heap.size ≤ w'.heap.size)
    (hc' : c' = c ∧ w'.heap.size = w.heap.size ∨ c' = w.heap.size ∧ c' < w'.heap.size) (hoth : ∀ k, k < w.heap.size → k ≠ c → w'.heap[k]? = w.heap[k]?)
    (hnew : ORel P ρ d' sz' o' w'.heap[c']?) (hkeep : c' ≠ c → w'.heap[c]? = w.heap[c]?) :
    Rel P w0 B (ρ.upd H.size (c', d', sz')) ((H.set b .dead).push o') w' ∧ Ext ρ H w (ρ.upd H.size (c', d', sz')) ((H.set b .dead).push o') w' := by
  have hlt := AH.lt_of_get ho
  have hcB : B ≤ c := h.own b c d sz _ hb ho rfl
  have hB := h.size
  have hcw : c < w.heap.size := h.blk b c d sz hb
  have hc'w : c' < w'.heap.size := by rcases hc' with ⟨e, e2⟩ | ⟨_, e⟩ <;> omega
  have hBc' : B ≤ c' := by rcases hc' with ⟨e, _⟩ | ⟨e, _⟩ <;> omega
  have hsize : (H.set b .dead).size = H.size := AH.size_set ..
  have hnone : ρ H.size = none := by
    cases hn : ρ H.size with
    | none => rfl
    | some x => have := h.dom _ _ hn; omega
  have hle := Ren.upd_le (x := (c', d', sz')) hnone
  have key : ∀ b1 o1, ((H.set b .dead).push o').get b1 = some o1 → (b1 = H.size ∧ o1 = o') ∨ (b1 = b ∧ o1 = .dead) ∨ (b1 < H.size ∧ b1 ≠ b ∧ H.get b1 = some o1) := by
    intro b1 o1 h1
    rw [AH.get_push, hsize] at h1
    by_cases hb1 : b1 = H.size
    · rw [if_pos hb1] at h1; exact .inl ⟨hb1, (Option.some.inj h1).symm⟩
    · rw [if_neg hb1, AH.get_set] at h1
      by_cases hb2 : b1 = b
      · rw [if_pos hb2, if_pos hlt] at h1; exact .inr (.inl ⟨hb2, (Option.some.inj h1).symm⟩)
      · rw [if_neg hb2] at h1; exact .inr (.inr ⟨AH.lt_of_get h1, hb2, h1⟩)
  have old : ∀ {b1 c1 d1 sz1}, b1 < H.size → ρ.upd H.size (c', d', sz') b1 = some (c1, d1, sz1) → ρ b1 = some (c1, d1, sz1) := by
    intro b1 c1 d1 sz1 hb1 hx
    rwa [Ren.upd_ne (by omega)] at hx
  -- an old block that is written lies elsewhere
  have apart : ∀ {b1 c1 d1 sz1 o1}, b1 ≠ b → ρ b1 = some (c1, d1, sz1) → H.get b1 = some o1 → o1.rw = true → c1 ≠ c := by
    intro b1 c1 d1 sz1 o1 hne hx ho1 hr1 e
    subst e
    exact hne (h.inj _ _ _ _ _ _ _ _ _ hx hb ho1 ho hr1 rfl)
  have ne' : ∀ {b1 c1 d1 sz1 o1}, b1 ≠ b → ρ b1 = some (c1, d1, sz1) → H.get b1 = some o1 → o1.rw = true → c1 ≠ c' := by
    intro b1 c1 d1 sz1 o1 hne hx ho1 hr1 e
    rcases hc' with ⟨e1, _⟩ | ⟨e1, _⟩
    · exact apart hne hx ho1 hr1 (e.trans e1)
    · have := h.blk _ _ _ _ hx; omega
  constructor
  · refine ⟨h.base, ?_, ?_, ?_, ?_, ?_, ?_, ?_⟩
    · exact h.below.trans ⟨hos, htape, hout, hsz, fun k hk => hoth k (by omega) (by omega)⟩
    · intro b1 x hx
      rw [AH.size_push, hsize]
      by_cases hb1 : b1 = H.size
      · omega
      · rw [Ren.upd_ne hb1] at hx; have := h.dom b1 x hx; omega
    · intro b1 c1 d1 sz1 hx
      by_cases hb1 : b1 = H.size
      · subst hb1; rw [Ren.upd_same] at hx; cases hx; exact hc'w
      · rw [Ren.upd_ne hb1] at hx; have := h.blk b1 c1 d1 sz1 hx; omega
    · intro b1 c1 d1 sz1 o1 hx ho1
      rcases key b1 o1 ho1 with ⟨rfl, rfl⟩ | ⟨rfl, rfl⟩ | ⟨hl, hne, ho1⟩
      · rw [Ren.upd_same] at hx; cases hx; exact hnew.mono hle
      · trivial
      · have hx' := old hl hx
        have hw := h.blk b1 c1 d1 sz1 hx'
        by_cases e : c1 = c
        · subst e
          by_cases e' : c' = c1
          · cases hr1 : o1.rw with
            | true => exact absurd rfl (apart hne hx' ho1 hr1)
            | false =>
              cases o1 with
              | dead => trivial
              | map es cl => simp [AObj.rw] at hr1
              | cells r cs1 =>
                cases r with
                | false => simp [AObj.rw] at hr1
                | true => have := h.ro b1 _ _ _ _ hx' ho1; omega
          · rw [hkeep e']; exact (h.obj b1 _ d1 sz1 o1 hx' ho1).mono hle
        · rw [hoth c1 hw e]; exact (h.obj b1 c1 d1 sz1 o1 hx' ho1).mono hle
    · intro b1 c1 d1 sz1 o1 hx ho1 hr1
      rcases key b1 o1 ho1 with ⟨rfl, rfl⟩ | ⟨rfl, rfl⟩ | ⟨hl, hne, ho1⟩
      · rw [Ren.upd_same] at hx; cases hx; exact hBc'
      · simp [AObj.rw] at hr1
      · exact h.own b1 c1 d1 sz1 o1 (old hl hx) ho1 hr1
    · intro b1 c1 d1 sz1 cs1 hx ho1
      rcases key b1 _ ho1 with ⟨rfl, rfl⟩ | ⟨rfl, e⟩ | ⟨hl, hne, ho1⟩
      · simp [AObj.rw] at hrw'
      · cases e
      · exact h.ro b1 c1 d1 sz1 cs1 (old hl hx) ho1
    · intro b1 b2 c1 d1 d2 sz1 sz2 o1 o2 hx1 hx2 ho1 ho2 hr1 hr2
      rcases key b1 o1 ho1 with ⟨rfl, rfl⟩ | ⟨rfl, rfl⟩ | ⟨n1, m1, k1⟩ <;> rcases key b2 o2 ho2 with ⟨rfl, rfl⟩ | ⟨rfl, rfl⟩ | ⟨n2, m2, k2⟩ <;> try (simp [AObj.rw] at hr1; done)
      all_goals try (simp [AObj.rw] at hr2; done)
      · rfl
      · rw [Ren.upd_same] at hx1; cases hx1; exact absurd rfl (ne' m2 (old n2 hx2) k2 hr2)
      · rw [Ren.upd_same] at hx2; cases hx2; exact absurd rfl (ne' m1 (old n1 hx1) k1 hr1)
      · exact h.inj _ _ _ _ _ _ _ _ _ (old n1 hx1) (old n2 hx2) k1 k2 hr1 hr2
  · refine ⟨hle, ?_, by rw [AH.size_push, hsize]; omega, hsz, ?_, ?_, ?_, ?_⟩
    · intro b1 x hx hn
      by_cases hb1 : b1 = H.size
      · rw [AH.size_push, hsize]; omega
      · rw [Ren.upd_ne hb1, hn] at hx; cases hx
    · intro b1 hb1 hn
      rw [AH.get_push_old (by rw [hsize]; exact hb1), AH.get_set_ne (fun e => by rw [e, hb] at hn; cases hn)]
    · intro b1 o1 ho1 hr1
      rw [AH.get_push_old (by rw [hsize]; exact AH.lt_of_get ho1), AH.get_set_ne (fun e => by rw [e, ho] at ho1; cases ho1; cases hr1)]
      exact ho1
    · intro c1 hc1 hf
      exact hoth c1 hc1 (fun e => by subst e; have := hf b d sz _ hb ho; cases this)
    · intro b1 c1 d1 sz1 hx hn
      by_cases hb1 : b1 = H.size
      · subst hb1; rw [Ren.upd_same] at hx; cases hx
        rcases hc' with ⟨e, _⟩ | ⟨e, _⟩
        · exact .inr ⟨b, d, sz, _, by rw [hb, e], ho, rfl⟩
        · exact .inl (by omega)
      · rw [Ren.upd_ne hb1, hn] at hx; cases hx
end
end Go.Proofs.YthagelbepgcolaaGreatDoor.Gst
/- The abstract run: what each operation does to the abstract heap; then regions, code, calls. No tape, no capacities. -/
namespace Go.Proofs.YthagelbepgcolaaGreatDoor.Gst
open Go Go.RowKit

/-! ### Of the program's types -/
def szOf (P : Program) (t : TypeId) : Option Nat := (P.info? t).map (·.size)
/-- How many cells an aggregate has; 'some none': a type of one cell. -/
def aggOf (P : Program) (t : TypeId) : Option (Option Nat) :=
  match P.underlying t with
  | some (.struct _) | some (.array _ _) => (szOf P t).map some
  | some _ => some none
  | none => none
def zeroOf (P : Program) (t : TypeId) : Option Value :=
  match P.info? t with
  | some i => match i.zero with
    | some z => if z.cells.toList.all litV = true ∧ constV z = true then some z else none
    | none => none
  | none => none
def fieldOf (P : Program) (t : TypeId) (f : Nat) : Option Field :=
  match P.underlying t with
  | some (.struct fs) => fs[f]?
  | _ => none
def elemOf' (P : Program) (t : TypeId) : Option TypeId :=
  match P.underlying t with
  | some (.slice e) => some e
  | _ => none
def bytesOf' (P : Program) (t : TypeId) : Option Nat := (P.info? t).map (·.bytes)
/-- A struct of whole numbers, and of such structs, one cell behind the other: how many. -/
def flatStep (P : Program) (sub : List Field → Option Nat) : Nat → List Field → Option Nat
  | n, [] => some n
  | n, f :: fs => if f.name ≠ "_" ∧ f.offset = n then (match P.underlying f.type with
    | some (.int _) => flatStep P sub (n + 1) fs
    | some (.struct gs) => (match sub gs.toList with
      | some k => if szOf P f.type = some k ∧ P.stoodInHeld f.type = false then flatStep P sub (n + k) fs else none
      | none => none)
    | _ => none) else none
def flatFields (P : Program) : Nat → Nat → List Field → Option Nat
  | 0 => flatStep P fun _ => none
  | e + 1 => flatStep P (flatFields P e 0)
def flatOf (P : Program) (t : TypeId) : Option Nat :=
  match P.underlying t with
  | some (.struct fs) => if P.stoodInHeld t = false ∧ P.eqGuardType P.depth t = false then flatFields P 2 0 fs.toList else none
  | _ => none
def kindOf (P : Program) (t : TypeId) : Option IntKind :=
  match P.underlying t with
  | some (.int k) => some k
  | _ => none

/-! ### Operations -/
def pAt : Value → Option (Nat × Nat)
  | .pointer (some ⟨b, o, none⟩) => some (b, o)
  | _ => none
def pCells (H : AH) (b : Nat) : Option (List Value) :=
  match H.get b with
  | some (.cells _ cs) => some cs
  | _ => none
def pPick (c a b : Value) : Option Value :=
  match c with
  | .bool t => some (if t = true then a else b)
  | _ => none
def pNil : Value → Option Value
  | .pointer none | .nilIface | .nilFunc => none
  | .func (.method _) _ _ => none
  | v => some v
def pLd1 (v : Value) (H : AH) : Option Value := (pAt v).bind fun a => (pCells H a.1).bind fun cs => cs[a.2]?
def pLdN (n : Nat) (v : Value) (H : AH) : Option Value :=
  (pAt v).bind fun a => (pCells H a.1).bind fun cs => if a.2 + n ≤ cs.length then some (.agg ((cs.drop a.2).take n).toArray) else none
def splice (cs : List Value) (o : Nat) (xs : List Value) : List Value := cs.take o ++ xs ++ cs.drop (o + xs.length)
def pSt (n : Nat) (v x : Value) (H : AH) : Option AH :=
  (pAt v).bind fun a => match H.get a.1 with
    | some (.cells false cs) => if x.cells.size = n ∧ a.2 + n ≤ cs.length ∧ x.cells.toList.all Value.oneCell' = true then some (H.set a.1 (.cells false (splice cs a.2 x.cells.toList))) else none
    | _ => none
def pNew (cs : List Value) (H : AH) : Value × AH := (.pointer (some ⟨H.size, 0, none⟩), H.push (.cells false cs))
def pFld (off : Nat) (v : Value) : Option Value := (pAt v).map fun a => .pointer (some ⟨a.1, a.2 + off, none⟩)
def pPart (n : Option Nat) (off : Nat) (v : Value) : Option Value :=
  match v with
  | .agg cs => match n with
    | some n => some (.agg (cs.extract off (off + n)))
    | none => cs[off]?
  | _ => none
def pIdx (e : Nat) (v i : Value) : Option Value :=
  match v, i with
  | .slice (some ⟨b, o, none⟩) n _, .int _ i => if 0 ≤ i ∧ i < n then some (.pointer (some ⟨b, o + i.toNat * e, none⟩)) else none
  | _, _ => none
def pIdxA (len e : Nat) (v i : Value) : Option Value :=
  match v, i with
  | .pointer (some ⟨b, o, none⟩), .int _ i => if 0 ≤ i ∧ i < len then some (.pointer (some ⟨b, o + i.toNat * e, none⟩)) else none
  | _, _ => none
def pIndexV (len : Nat) (n : Option Nat) (e : Nat) (v i : Value) : Option Value :=
  match v, i with
  | .agg cs, .int _ i => if 0 ≤ i ∧ i < len then (match n with | some n => some (.agg (cs.extract (i.toNat * e) (i.toNat * e + n))) | none => cs[i.toNat * e]?) else none
  | _, _ => none
def pIndexS (v i : Value) : Option Value :=
  match v, i with
  | .string s, .int _ i => if 0 ≤ i then (s[i.toNat]?).map fun b => .int .u8 b.toNat else none
  | _, _ => none
def pLen : Value → Option Value
  | .slice _ n _ => some (.int .i64 n)
  | .string s => some (.int .i64 s.size)
  | _ => none
def pLenM (v : Value) (H : AH) : Option Value :=
  match v with
  | .map none => some (.int .i64 0)
  | .map (some b) => match H.get b with
    | some (.map es _) => some (.int .i64 es.length)
    | _ => none
  | _ => none
def pMax : List Value → Option Value
  | [.int k x, .int _ y] => some (.int k (if y > x then y else x))
  | _ => none
def pMin : List Value → Option Value
  | [.int k x, .int _ y] => some (.int k (if y < x then y else x))
  | _ => none
/-- Are the whole numbers alike, one by one? none: they are of other kinds. -/
def eqCells : List Value → List Value → Option Bool
  | [], [] => some true
  | .int k a :: xs, .int k' b :: ys => if k = k' then (eqCells xs ys).map fun r => a == b && r else none
  | _, _ => none
def pInt (op : BinOp) (k : IntKind) (a b : Int) : Option Value :=
  match op with
  | .add => some (.int k (k.wrap (a + b)))
  | .sub => some (.int k (k.wrap (a - b)))
  | .mul => some (.int k (k.wrap (a * b)))
  | .quo => if b = 0 then none else some (.int k (k.wrap (a.tdiv b)))
  | .rem => if b = 0 then none else some (.int k (a.tmod b))
  | .and => some (.int k (Go.bits .and k a b))
  | .or => some (.int k (Go.bits .or k a b))
  | .xor => some (.int k (Go.bits .xor k a b))
  | .andNot => some (.int k (Go.bits .andNot k a b))
  | .eql => some (.bool (a == b))
  | .neq => some (.bool (a != b))
  | .lss => some (.bool (decide (a < b)))
  | .leq => some (.bool (decide (a ≤ b)))
  | .gtr => some (.bool (decide (a > b)))
  | .geq => some (.bool (decide (a ≥ b)))
  | _ => none
def pShift (op : BinOp) (k : IntKind) (a b : Int) : Option Value :=
  if b < 0 then none else
  match op with
  | .shl => some (.int k (k.wrap (a * 2 ^ min b.toNat k.bits)))
  | .shr => some (.int k (a.fdiv (2 ^ min b.toNat k.bits)))
  | _ => none
/-- What kind of type it is, as far as '==' asks. -/
inductive TCls where
  | bool | ptr | slice | map | func | flat (n : Nat) | other
def clsOf (P : Program) (t : TypeId) : TCls :=
  match P.underlying t with
  | some .bool => .bool
  | some (.pointer _) => .ptr
  | some (.slice _) => .slice
  | some (.map _ _) => .map
  | some (.func _ _ _) => .func
  | some (.struct _) => match flatOf P t with
    | some n => .flat n
    | none => .other
  | _ => .other
def pEq (cl : TCls) (x y : Value) : Option Bool :=
  match cl, x, y with
  | .bool, .bool a, .bool b => some (a == b)
  | .flat n, .agg a, .agg b => if a.size = n ∧ b.size = n then eqCells a.toList b.toList else none
  | .ptr, .pointer a, .pointer none => some a.isNone
  | .ptr, .pointer none, .pointer (some _) => some false
  | .slice, .slice a _ _, .slice none _ _ => some a.isNone
  | .slice, .slice none _ _, .slice (some _) _ _ => some false
  | .map, .map a, .map none => some a.isNone
  | .map, .map none, .map (some _) => some false
  | .func, .func _ _ _, .nilFunc => some false
  | .func, .nilFunc, .func _ _ _ => some false
  | .func, .nilFunc, .nilFunc => some true
  | _, _, _ => none
def pStr (op : BinOp) (a b : ByteArray) : Option Value :=
  match op with
  | .eql => some (.bool (a == b))
  | .neq => some (.bool !(a == b))
  | .add => if a.size + b.size ≤ 9223372036854775807 then some (.string (a ++ b)) else none
  | _ => none
def pEqOp (cl : TCls) (op : BinOp) (x y : Value) : Option Value :=
  match op with
  | .eql => (pEq cl x y).map fun b => .bool b
  | .neq => (pEq cl x y).map fun b => .bool !b
  | _ => none
def pBin (cl : TCls) (op : BinOp) (x y : Value) : Option Value :=
  match x, y with
  | .int k a, .int k' b =>
    match op with
    | .shl => pShift .shl k a b
    | .shr => pShift .shr k a b
    | op => if k = k' then pInt op k a b else none
  | .string a, .string b => pStr op a b
  | x, y => pEqOp cl op x y
def pUn (op : UnOp) (x : Value) : Option Value :=
  match op, x with
  | .neg, .int k n => some (.int k (k.wrap (0 - n)))
  | .xor, .int k n => some (.int k (Go.bits .xor k (if k.signed then -1 else k.max) n))
  | .not, .bool b => some (.bool !b)
  | _, _ => none
def pConv (k : Option IntKind) (x : Value) : Option Value :=
  match k, x with
  | some k, .int _ n => some (.int k (k.wrap n))
  | _, _ => none
def pExtract (v : Value) (i : Nat) : Option Value :=
  match v with
  | .tuple vs => vs[i]?
  | _ => none
def pInt? : Value → Option Int
  | .int _ n => some n
  | _ => none
/-- x[lo:hi] of a slice: its elements have e cells. -/
def pSlice (e : Nat) (x : Value) (lo hi : Option Value) : Option Value :=
  match x with
  | .slice a n e' =>
    (match lo with | some v => pInt? v | none => some 0).bind fun l => (match hi with | some v => pInt? v | none => some (n : Int)).bind fun h =>
      if 0 ≤ l ∧ l ≤ h ∧ h ≤ n then
        match a with
        | none => if n = 0 ∧ e' = 0 then some (.slice none 0 0) else none
        | some ⟨b, o, none⟩ => if e' = e ∧ 0 < e then some (.slice (some ⟨b, o + l.toNat * e, none⟩) (h.toNat - l.toNat) e) else none
        | _ => none
      else none
  | _ => none
/-- x[:0:0]: none of its room. -/
def pSlice0 (x : Value) (hi mx : Value) : Option Value :=
  match x, hi, mx with
  | .slice none 0 0, .int _ 0, .int _ 0 => some (.slice none 0 0)
  | .slice (some ⟨b, o, none⟩) _ _, .int _ 0, .int _ 0 => some (.slice (some ⟨b, o, none⟩) 0 0)
  | _, _, _ => none
def pRow (e : Nat) (x : Value) (H : AH) : Option (Nat × List Value) :=
  match x with
  | .slice none n _ => if n = 0 then some (0, []) else none
  | .slice (some ⟨b, o, none⟩) m _ => if m = 0 then some (0, []) else (pCells H b).bind fun cs => if o + m * e ≤ cs.length then some (m, (cs.drop o).take (m * e)) else none
  | _ => none
def room : Nat := 140737488355328
def pApp (e bytes : Nat) (s x : Value) (H : AH) : Option (Value × AH) :=
  (pRow e x H).bind fun r =>
    if r.2.all Value.oneCell' = true ∧ 0 < e then
      match s with
      | .slice none n k => if n = 0 ∧ k = 0 then (if r.1 = 0 then some (.slice none 0 0, H) else if r.1 * bytes ≤ room ∧ r.1 ≤ room then some (.slice (some ⟨H.size, 0, none⟩) r.1 e, H.push (.cells false r.2)) else none) else none
      | .slice (some ⟨b, o, none⟩) n e' =>
        if r.1 = 0 then some (s, H)
        else if e' = 0 then (if n = 0 ∧ r.1 * bytes ≤ room ∧ r.1 ≤ room then some (.slice (some ⟨H.size, 0, none⟩) r.1 e, H.push (.cells false r.2)) else none)
        else match H.get b with
          | some (.cells false cs) =>
            if e' = e ∧ o + n * e ≤ cs.length ∧ (n + r.1) * bytes ≤ room ∧ n + r.1 ≤ room then some (.slice (some ⟨H.size, 0, none⟩) (n + r.1) e, (H.set b .dead).push (.cells false ((cs.drop o).take (n * e) ++ r.2))) else none
          | _ => none
      | _ => none
    else none
def pMake (zero : List Value) (e bytes : Nat) (len cap : Value) (H : AH) : Option (Value × AH) :=
  match len, cap with
  | .int _ l, .int _ c => if 0 ≤ l ∧ l = c ∧ l.toNat * bytes ≤ room ∧ l.toNat ≤ room ∧ 0 < e ∧ zero.length = e then
      some (.slice (some ⟨H.size, 0, none⟩) l.toNat e, H.push (.cells false (List.replicate l.toNat zero).flatten)) else none
  | _, _ => none
/-- What a map's keys are. -/
inductive KCls where
  | int | string | flat (n : Nat)
def isIntV : Value → Bool
  | .int _ _ => true
  | _ => false
def keyOK (cl : KCls) (k : Value) : Bool :=
  match cl, k with
  | .int, .int _ _ => true
  | .string, .string _ => true
  | .flat n, .agg xs => xs.size == n && xs.toList.all isIntV
  | _, _ => false
def keyEq (cl : KCls) (a b : Value) : Option Bool :=
  match cl, a, b with
  | .int, .int k x, .int k' y => if k = k' then some (x == y) else none
  | .string, .string x, .string y => some (x == y)
  | .flat n, .agg x, .agg y => if x.size = n ∧ y.size = n then eqCells x.toList y.toList else none
  | _, _, _ => none
/-- Where a key stands. -/
def findKey' (cl : KCls) (k : Value) : List MapEntry → Nat → Option (Option (Nat × Value))
  | [], _ => some none
  | e :: es, i => (keyEq cl k e.key).bind fun b => if b = true then some (some (i, e.val)) else findKey' cl k es (i + 1)
def pMapOf (v : Value) (H : AH) : Option (List MapEntry × Nat) :=
  match v with
  | .map none => some ([], 0)
  | .map (some b) => match H.get b with
    | some (.map es c) => some (es, c)
    | _ => none
  | _ => none
def pLookup (fl : KCls) (zero : Value) (m k : Value) (ok : Bool) (H : AH) : Option Value :=
  if keyOK fl k = true then (pMapOf m H).bind fun es => (findKey' fl k es.1 0).map fun r => match r with
    | some (_, v) => if ok then .tuple #[v, .bool true] else v
    | none => if ok then .tuple #[zero, .bool false] else zero
  else none
def pUpdate (fl : KCls) (m k x : Value) (H : AH) : Option AH :=
  if keyOK fl k = true then match m with
  | .map (some b) => match H.get b with
    | some (.map es c) => (findKey' fl k es 0).map fun r => match r with
      | some (i, _) => H.set b (.map (es.modify i fun e => { e with key := k, val := x }) c)
      | none => H.set b (.map (es ++ [{ key := k, val := x, born := c }]) (c + 1))
    | _ => none
  | _ => none
  else none
def pDelete (fl : KCls) (m k : Value) (H : AH) : Option AH :=
  if keyOK fl k = true then match m with
  | .map (some b) => match H.get b with
    | some (.map es c) => (findKey' fl k es 0).map fun r => match r with
      | some (i, _) => H.set b (.map (es.eraseIdx i) c)
      | none => H.set b (.map es c)
    | _ => none
  | _ => none
  else none
/-- The parts laid into zeros: where each part's place begins, and its size. -/
def pFill (places : Nat → Option (Nat × Nat)) (zero : List Value) : List (Nat × Value) → Option (List Value)
  | [] => some zero
  | (i, v) :: rest => (places i).bind fun p => if v.cells.size = p.2 ∧ p.1 + p.2 ≤ zero.length then pFill places (splice zero p.1 v.cells.toList) rest else none
/-- How a function value is called. -/
def pCallee (v : Value) (args : List Value) : Option (Nat × List Value) :=
  match v with
  | .func (.func f) first captured => some (f, first.toList ++ args ++ captured.toList)
  | _ => none
def flatKey (P : Program) (t : TypeId) : Option KCls :=
  match P.underlying t with
  | some (.int _) => some .int
  | some .string => some .string
  | some (.struct _) => (flatOf P t).map .flat
  | _ => none
def mapTypes (P : Program) (t : TypeId) : Option (TypeId × TypeId) :=
  match P.underlying t with
  | some (.map k e) => some (k, e)
  | _ => none
def placesOf (P : Program) (fs : List Field) : Option (List (Nat × Nat)) := fs.mapM fun f => (szOf P f.type).map fun n => (f.offset, n)

abbrev CallF := Nat → List Value → AH → Option (Value × AH)

def aBuiltin (P : Program) (b : Builtin) (argTypes : Array TypeId) (args : List Value) (H : AH) : Option (Value × AH) :=
  match b, args with
  | .len, [x] => match (argTypes[0]?).bind fun t => P.underlying t with
    | some (.slice _) => match x with | .slice _ _ _ => (pLen x).map (·, H) | _ => none
    | some .string => match x with | .string _ => (pLen x).map (·, H) | _ => none
    | some (.map _ _) => (pLenM x H).map (·, H)
    | _ => none
  | .max, args => (pMax args).map (·, H)
  | .min, args => (pMin args).map (·, H)
  | .append, [s, x] => (argTypes[0]?).bind fun t => (elemOf' P t).bind fun el => (szOf P el).bind fun e => (bytesOf' P el).bind fun by' => (zeroOf P el).bind fun z =>
      if z.cells.size = e ∧ (argTypes[1]?).bind (fun u => elemOf' P u) = some el then pApp e by' s x H else none
  | .delete, [m, k] => (argTypes[0]?).bind fun t => (mapTypes P t).bind fun kt => (flatKey P kt.1).bind fun fl => (pDelete fl m k H).map fun H' => (.tuple #[], H')
  | _, _ => none

def aOp (P : Program) (call : CallF) (ev : Operand → Value) (o : Oper) (H : AH) : Option (Value × AH) :=
  match o.op with
  | .move x => some (ev x, H)
  | .assign x => some (ev x, H)
  | .pick c a b => (pPick (ev c) (ev a) (ev b)).map (·, H)
  | .alloc t => (zeroOf P t).map fun z => pNew z.cells.toList H
  | .box _ x => some (pNew (ev x).cells.toList H)
  | .build t parts => match P.underlying t with
    | some (.struct fs) => (zeroOf P t).bind fun z => (placesOf P fs.toList).bind fun ps => (pFill (ps[·]?) z.cells.toList (parts.toList.map fun p => (p.1, ev p.2))).map fun cs => (.agg cs.toArray, H)
    | some (.array _ el) => (zeroOf P t).bind fun z => (szOf P el).bind fun e => (pFill (fun i => some (i * e, e)) z.cells.toList (parts.toList.map fun p => (p.1, ev p.2))).map fun cs => (.agg cs.toArray, H)
    | _ => none
  | .buildSlice t len parts => (elemOf' P t).bind fun el => (szOf P el).bind fun e => (zeroOf P el).bind fun z =>
      if 0 < e ∧ z.cells.size = e ∧ len * e ≤ 2 ^ 24 then
        (pFill (fun i => some (i * e, e)) (List.replicate len z.cells.toList).flatten (parts.toList.map fun p => (p.1, ev p.2))).map fun cs => (.slice (some ⟨H.size, 0, none⟩) len e, H.push (.cells false cs))
      else none
  | .load t a => (aggOf P t).bind fun g => match g with
    | some n => (pLdN n (ev a) H).map (·, H)
    | none => (pLd1 (ev a) H).map (·, H)
  | .store t a x => (szOf P t).bind fun n => (pSt n (ev a) (ev x) H).map fun H' => (undef, H')
  | .nilCheck x => (pNil (ev x)).map (·, H)
  | .binOp op t x y _ => (pBin (clsOf P t) op (ev x) (ev y)).map (·, H)
  | .unOp op _ x => (pUn op (ev x)).map (·, H)
  | .convert src dst x => match P.underlying src with
    | some _ => (pConv (kindOf P dst) (ev x)).map (·, H)
    | none => none
  | .makeFunc fn first captured => some (.func fn (first.map ev) (captured.map ev), H)
  | .makeMap _ none => some (.map (some H.size), H.push (.map [] 0))
  | .makeSlice t l c => (elemOf' P t).bind fun el => (szOf P el).bind fun e => (bytesOf' P el).bind fun by' => (zeroOf P el).bind fun z => pMake z.cells.toList e by' (ev l) (ev c) H
  | .slice t x lo hi none => (elemOf' P t).bind fun el => (szOf P el).bind fun e => (pSlice e (ev x) (lo.map ev) (hi.map ev)).map (·, H)
  | .slice t x none (some hi) (some mx) => (elemOf' P t).bind fun el => (szOf P el).bind fun _ => (pSlice0 (ev x) (ev hi) (ev mx)).map (·, H)
  | .fieldAddr s x f => (fieldOf P s f).bind fun f => (szOf P f.type).bind fun n => if n = 0 then none else (pFld f.offset (ev x)).map (·, H)
  | .field s x f => (fieldOf P s f).bind fun f => (aggOf P f.type).bind fun n => (pPart n f.offset (ev x)).map (·, H)
  | .indexAddr t x i => match P.underlying t with
    | some (.slice el) => (szOf P el).bind fun e => (pIdx e (ev x) (ev i)).map (·, H)
    | some (.array len el) => (szOf P el).bind fun e => (pIdxA len e (ev x) (ev i)).map (·, H)
    | _ => none
  | .index t x i => match P.underlying t with
    | some (.array len el) => (szOf P el).bind fun e => (aggOf P el).bind fun n => (pIndexV len n e (ev x) (ev i)).map (·, H)
    | some .string => (pIndexS (ev x) (ev i)).map (·, H)
    | _ => none
  | .lookup t m k ok => (mapTypes P t).bind fun kt => (flatKey P kt.1).bind fun fl => (zeroOf P kt.2).bind fun z => (pLookup fl z (ev m) (ev k) ok H).map (·, H)
  | .mapUpdate t m k x => (mapTypes P t).bind fun kt => (flatKey P kt.1).bind fun fl => (pUpdate fl (ev m) (ev k) (ev x) H).map fun H' => (undef, H')
  | .extract t i => (pExtract (ev t) i).map (·, H)
  | .call c => match c.callee with
    | .builtin b => aBuiltin P b c.argTypes (c.args.toList.map ev) H
    | .value f => (pCallee (ev f) (c.args.toList.map ev)).bind fun fa => call fa.1 fa.2 H
    | _ => none
  | _ => none
end Go.Proofs.YthagelbepgcolaaGreatDoor.Gst
/- What an operation does to a value of the run is what it does to the abstract one: operations that touch no memory. -/
namespace Go.Proofs.YthagelbepgcolaaGreatDoor.Gst
open Go Go.RowKit
section
variable {P : Program} {ρ : Ren}

theorem VRel.int_inv {k : IntKind} {n : Int} {v : Value} (h : VRel P ρ (.int k n) v) : v = .int k n := by cases h; rfl
theorem VRel.bool_inv {b : Bool} {v : Value} (h : VRel P ρ (.bool b) v) : v = .bool b := by cases h; rfl
theorem VRel.string_inv {s : ByteArray} {v : Value} (h : VRel P ρ (.string s) v) : v = .string s := by cases h; rfl
theorem VRel.nilFunc_inv {v : Value} (h : VRel P ρ .nilFunc v) : v = .nilFunc := by cases h; rfl
theorem VRel.ptr_inv {b o : Nat} {v : Value} (h : VRel P ρ (.pointer (some ⟨b, o, none⟩)) v) : ∃ c d sz, ρ b = some (c, d, sz) ∧ v = .pointer (some ⟨c, d + o, none⟩) := by
  cases h with
  | lit h => simp [litV] at h
  | ptr h => exact ⟨_, _, _, h, rfl⟩
theorem VRel.pointer_inv {a : Option Addr} {v : Value} (h : VRel P ρ (.pointer a) v) : ∃ a', v = .pointer a' ∧ a'.isNone = a.isNone := by
  cases h with
  | lit h => exact ⟨_, rfl, rfl⟩
  | ptr h => exact ⟨_, rfl, rfl⟩
theorem VRel.nilptr_inv {v : Value} (h : VRel P ρ (.pointer none) v) : v = .pointer none := by cases h; rfl
theorem VRel.nilslice_inv {n k : Nat} {v : Value} (h : VRel P ρ (.slice none n k) v) : v = .slice none n k := by cases h; rfl
theorem VRel.nilmap_inv {v : Value} (h : VRel P ρ (.map none) v) : v = .map none := by cases h; rfl
theorem VRel.map_inv {b : Nat} {v : Value} (h : VRel P ρ (.map (some b)) v) : ∃ c d sz, ρ b = some (c, d, sz) ∧ v = .map (some c) := by
  cases h with
  | lit h => simp [litV] at h
  | map h => exact ⟨_, _, _, h, rfl⟩
theorem VRel.anymap_inv {r : Option Nat} {v : Value} (h : VRel P ρ (.map r) v) : ∃ r', v = .map r' ∧ r'.isNone = r.isNone := by
  cases h with
  | lit h => exact ⟨_, rfl, rfl⟩
  | map h => exact ⟨_, rfl, rfl⟩
theorem VRel.anyslice_inv {a : Option Addr} {n e : Nat} {v : Value} (h : VRel P ρ (.slice a n e) v) : ∃ a' k, v = .slice a' n k ∧ a'.isNone = a.isNone := by
  cases h with
  | lit h => exact ⟨_, _, rfl, rfl⟩
  | slice h => exact ⟨_, _, rfl, rfl⟩
  | slice0 h => exact ⟨_, _, rfl, rfl⟩
  | empty => exact ⟨_, _, rfl, rfl⟩
theorem VRel.agg_inv {xs : Array Value} {v : Value} (h : VRel P ρ (.agg xs) v) : ∃ ys : Array Value, v = .agg ys ∧ xs.size = ys.size ∧ ∀ (i : Nat) (x y : Value), xs[i]? = some x → ys[i]? = some y → VRel P ρ x y := by
  cases h with
  | lit h => simp [litV] at h
  | agg hs he => exact ⟨_, rfl, hs, he⟩
theorem VRel.tuple_inv {xs : Array Value} {v : Value} (h : VRel P ρ (.tuple xs) v) : ∃ ys : Array Value, v = .tuple ys ∧ xs.size = ys.size ∧ ∀ (i : Nat) (x y : Value), xs[i]? = some x → ys[i]? = some y → VRel P ρ x y := by
  cases h with
  | lit h => simp [litV] at h
  | tuple hs he => exact ⟨_, rfl, hs, he⟩
theorem VRel.func_inv {fn : Fn} {f c : Array Value} {v : Value} (h : VRel P ρ (.func fn f c) v) : ∃ f' c' : Array Value, v = .func fn f' c' ∧ LRel P ρ f.toList f'.toList ∧ LRel P ρ c.toList c'.toList := by
  cases h with
  | lit h => simp [litV] at h
  | func hf h1 hc h2 => exact ⟨_, _, rfl, ⟨by simpa using hf, fun i x y hx hy => h1 i x y (by simpa using hx) (by simpa using hy)⟩, ⟨by simpa using hc, fun i x y hx hy => h2 i x y (by simpa using hx) (by simpa using hy)⟩⟩

theorem LRel.toAgg {xs ys : List Value} (h : LRel P ρ xs ys) : VRel P ρ (.agg xs.toArray) (.agg ys.toArray) :=
  .agg (by simpa using h.1) (fun i x y hx hy => h.2 i x y (by simpa using hx) (by simpa using hy))
theorem LRel.toTuple {xs ys : List Value} (h : LRel P ρ xs ys) : VRel P ρ (.tuple xs.toArray) (.tuple ys.toArray) :=
  .tuple (by simpa using h.1) (fun i x y hx hy => h.2 i x y (by simpa using hx) (by simpa using hy))

/-! ### Facts on types -/
theorem szOf_run {t : TypeId} {n : Nat} (h : szOf P t = some n) (w : World) : (sizeOf t).run P w = .ok n w := by
  unfold szOf at h
  cases hi : P.info? t with
  | none => simp [hi] at h
  | some i => simp [hi] at h; simp [sizeOf, typeInfo, hi, h]
theorem szOf_info {t : TypeId} {n : Nat} (h : szOf P t = some n) : ∃ i, P.info? t = some i ∧ i.size = n := by
  unfold szOf at h
  cases hi : P.info? t with
  | none => simp [hi] at h
  | some i => exact ⟨i, rfl, by simpa [hi] using h⟩
theorem zeroOf_info {t : TypeId} {z : Value} (h : zeroOf P t = some z) : ∃ i, P.info? t = some i ∧ i.zero = some z ∧ z.cells.toList.all litV = true ∧ constV z = true := by
  unfold zeroOf at h
  cases hi : P.info? t with
  | none => simp [hi] at h
  | some i =>
    simp only [hi] at h
    cases hz : i.zero with
    | none => simp [hz] at h
    | some z =>
      simp only [hz] at h
      split at h
      · rename_i hl; cases h; exact ⟨i, rfl, hz, hl⟩
      · cases h
theorem zeroOf_run {t : TypeId} {z : Value} (h : zeroOf P t = some z) (w : World) : (zeroValue t).run P w = .ok z w := by
  obtain ⟨i, hi, hz, _⟩ := zeroOf_info h
  simp [zeroValue, typeInfo, hi, hz]
theorem zero_rel {cs : List Value} (h : cs.all litV = true) : LRel P ρ cs cs := LRel.of_all h
theorem underlying_some {t : TypeId} {d : TypeDesc} (h : P.underlying t = some d) (w : World) : (underlying t).run P w = .ok d w := run_underlying h w
theorem aggOf_none {t : TypeId} (h : aggOf P t = some none) (w : World) : (isAgg t).run P w = .ok false w := by
  unfold aggOf at h
  cases hu : P.underlying t with
  | none => simp [hu] at h
  | some d =>
    simp only [hu] at h
    cases d <;> simp_all [isAgg, run_underlying hu]
theorem aggOf_some {t : TypeId} {n : Nat} (h : aggOf P t = some (some n)) (w : World) : (isAgg t).run P w = .ok true w ∧ szOf P t = some n := by
  unfold aggOf at h
  cases hu : P.underlying t with
  | none => simp [hu] at h
  | some d =>
    simp only [hu] at h
    cases d <;> simp_all [isAgg, run_underlying hu]

/-! ### Whole numbers -/
theorem pInt_run {op : BinOp} {k : IntKind} {a b : Int} {v : Value} (h : pInt op k a b = some v) (t : TypeId) (w : World) (hs : op ≠ .shl) (hr : op ≠ .shr) : (binOp op t (.int k a) (.int k b)).run P w = .ok v w := by
  cases op <;> simp only [pInt] at h <;> first
    | (cases h; simp [binOp, Op.intArith, Op.intCmp, Op.intBits, Go.bits]; done)
    | (split at h <;> first | (cases h; done) | (cases h; rename_i hb; simp [binOp, Op.intDiv, hb]; done))
    | (cases h; done)
    | exact absurd rfl hs
    | exact absurd rfl hr
theorem pShift_run {op : BinOp} {k yk : IntKind} {a b : Int} {v : Value} (h : pShift op k a b = some v) (w : World) : (Op.shift op k a yk b).run P w = .ok v w := by
  unfold pShift at h
  split at h
  · cases h
  · rename_i hb
    cases op <;> simp only at h <;> first | (cases h; done) | (cases h; simp [Op.shift, hb])

theorem eqCells_rel : ∀ {xs ys : List Value} {xs' ys' : List Value} {r : Bool}, eqCells xs ys = some r → LRel P ρ xs xs' → LRel P ρ ys ys' → xs' = xs ∧ ys' = ys := by
  intro xs
  induction xs with
  | nil =>
    intro ys xs' ys' r h h1 h2
    cases ys with
    | nil => exact ⟨List.eq_nil_of_length_eq_zero h1.1.symm, List.eq_nil_of_length_eq_zero h2.1.symm⟩
    | cons => simp [eqCells] at h
  | cons x xs ih =>
    intro ys xs' ys' r h h1 h2
    cases ys with
    | nil => simp [eqCells] at h
    | cons y ys =>
      cases xs' with
      | nil => have := h1.1; simp at this
      | cons x' xs' =>
        cases ys' with
        | nil => have := h2.1; simp at this
        | cons y' ys' =>
          cases x <;> cases y <;> simp only [eqCells] at h <;> try (cases h; done)
          rename_i k a k' b
          split at h
          · obtain ⟨r', hr', _⟩ := Option.map_eq_some_iff.1 h
            have hx := (h1.2 0 (.int k a) x' (by simp) (by simp)).int_inv
            have hy := (h2.2 0 (.int k' b) y' (by simp) (by simp)).int_inv
            have t1 : LRel P ρ xs xs' := by simpa using h1.drop 1
            have t2 : LRel P ρ ys ys' := by simpa using h2.drop 1
            obtain ⟨e1, e2⟩ := ih hr' t1 t2
            exact ⟨by rw [hx, e1], by rw [hy, e2]⟩
          · cases h
end
end Go.Proofs.YthagelbepgcolaaGreatDoor.Gst
/- Operations that touch no memory, one by one. -/
namespace Go.Proofs.YthagelbepgcolaaGreatDoor.Gst
set_option linter.unusedVariables false
open Go Go.RowKit
set_option linter.unusedSimpArgs false
section
variable {P : Program} {ρ : Ren}

theorem flatStep_ge {sub : List Field → Option Nat} : ∀ {fs : List Field} {n m : Nat}, flatStep P sub n fs = some m → n ≤ m := by
  intro fs
  induction fs with
  | nil => intro n m h; simp [flatStep] at h; omega
  | cons f fs ih =>
    intro n m h
    simp only [flatStep] at h
    split at h
    · split at h
      · have := ih h; omega
      · split at h
        · split at h
          · have := ih h; omega
          · cases h
        · cases h
      · cases h
    · cases h
theorem eqCells_app : ∀ {a a' b b' : List Value} {r : Bool}, a.length = a'.length → eqCells (a ++ b) (a' ++ b') = some r → ∃ r1 r2, eqCells a a' = some r1 ∧ eqCells b b' = some r2 ∧ r = (r1 && r2) := by
  intro a
  induction a with
  | nil =>
    intro a' b b' r hl h
    have : a' = [] := List.eq_nil_of_length_eq_zero hl.symm
    subst this
    exact ⟨true, r, rfl, h, by simp⟩
  | cons x a ih =>
    intro a' b b' r hl h
    cases a' with
    | nil => simp at hl
    | cons y a' =>
      simp only [List.cons_append] at h
      cases x <;> cases y <;> simp only [eqCells] at h <;> try (cases h; done)
      rename_i k1 u k2 v
      split at h
      · rename_i hk
        obtain ⟨r', hr', hr⟩ := Option.map_eq_some_iff.1 h
        obtain ⟨r1, r2, h1, h2, h3⟩ := ih (by simpa using hl) hr'
        refine ⟨u == v && r1, r2, ?_, h2, ?_⟩
        · simp only [eqCells, if_pos hk, h1, Option.map_some]
        · rw [← hr, h3, Bool.and_assoc]
      · cases h
theorem drop_parts (X : Array Value) {n k : Nat} (h : n + k ≤ X.size) : X.toList.drop n = (X.extract n (n + k)).toList ++ X.toList.drop (n + k) := by
  rw [Array.toList_extract, List.extract_eq_take_drop, show n + k - n = k from by omega, ← List.drop_drop]
  exact (List.take_append_drop k (X.toList.drop n)).symm
theorem flatStep_eq {sub : List Field → Option Nat} {D : Nat} {w : World} (hsub : ∀ (gs : List Field) (k : Nat) (X Y : Array Value) (r : Bool), sub gs = some k → X.size = k → Y.size = k → eqCells X.toList Y.toList = some r → (Op.eqFields D X Y gs).run P w = .ok r w) (X Y : Array Value) :
    ∀ {fs : List Field} {n m : Nat} {r : Bool}, flatStep P sub n fs = some m → X.size = m → Y.size = m →
    eqCells (X.toList.drop n) (Y.toList.drop n) = some r → (Op.eqFields (D + 1) X Y fs).run P w = .ok r w := by
  intro fs
  induction fs with
  | nil =>
    intro n m r h hX hY he
    simp [flatStep] at h
    rw [List.drop_eq_nil_of_le (by simp; omega), List.drop_eq_nil_of_le (by simp; omega)] at he
    simp [eqCells] at he
    simp [Op.eqFields, ← he]
  | cons f fs ih =>
    intro n m r h hX hY he
    simp only [flatStep] at h
    split at h
    · rename_i hf
      split at h
      · rename_i k hk
        have hlen := flatStep_ge h
        have hnX : n < X.toList.length := by simp; omega
        have hnY : n < Y.toList.length := by simp; omega
        rw [List.drop_eq_getElem_cons hnX, List.drop_eq_getElem_cons hnY] at he
        generalize hx : X.toList[n] = x at he
        generalize hy : Y.toList[n] = y at he
        cases x <;> cases y <;> simp only [eqCells] at he <;> try (cases he; done)
        rename_i k1 a k2 b
        split at he
        · rename_i hkk
          subst hkk
          obtain ⟨r', hr', hr⟩ := Option.map_eq_some_iff.1 he
          have ih' := ih h hX hY hr'
          have hXn : X[n]? = some (.int k1 a) := by rw [← Array.getElem?_toList, List.getElem?_eq_getElem hnX, hx]
          have hYn : Y[n]? = some (.int k1 b) := by rw [← Array.getElem?_toList, List.getElem?_eq_getElem hnY, hy]
          have hag : (isAgg f.type).run P w = .ok false w := by simp [isAgg, run_underlying hk]
          simp only [Op.eqFields, hf.1, ne_eq, not_false_eq_true, if_true, part, Sem.run_bind, hag, Result.andThen_ok, Sem.run_ite, Bool.false_eq_true, if_false, hf.2, hXn, hYn, Sem.run_pure, run_equalIn_int w D f.type k1 k a b hk]
          cases hab : (a == b)
          · simp [hab] at hr; simp [← hr]
          · simp [hab] at hr; simpa [hr] using ih'
        · cases he
      · rename_i gs hk
        split at h
        · rename_i k hs
          split at h
          · rename_i hc
            have hlen := flatStep_ge h
            rw [drop_parts X (n := n) (k := k) (by omega), drop_parts Y (n := n) (k := k) (by omega)] at he
            have sX : (X.extract n (n + k)).size = k := by rw [Array.size_extract]; omega
            have sY : (Y.extract n (n + k)).size = k := by rw [Array.size_extract]; omega
            obtain ⟨r1, r2, h1, h2, h3⟩ := eqCells_app (by simp only [Array.length_toList, sX, sY]) he
            have ih' := ih h hX hY h2
            have hq := hsub gs.toList k _ _ r1 hs sX sY h1
            have hag : (isAgg f.type).run P w = .ok true w := by simp [isAgg, run_underlying hk]
            have hsz := szOf_run hc.1 w
            have hfs : P.fieldsOf f.type = gs := by simp [Program.fieldsOf, hk]
            have hst := run_equalIn_struct w D f.type (X.extract n (n + k)) (Y.extract n (n + k)) (by rw [hfs]; exact hk) hc.2
            rw [hfs, hq] at hst
            simp only [Op.eqFields, hf.1, ne_eq, not_false_eq_true, if_true, part, Sem.run_bind, hag, Result.andThen_ok, Sem.run_ite, hf.2, hsz, Sem.run_pure, hst]
            cases r1
            · simp at h3; simp [h3]
            · simp at h3; simpa [h3] using ih'
          · cases h
        · cases h
      · cases h
    · cases h
theorem flat_eq (w : World) : ∀ (e d : Nat) (X Y : Array Value) {fs : List Field} {n m : Nat} {r : Bool}, flatFields P e n fs = some m → X.size = m → Y.size = m →
    eqCells (X.toList.drop n) (Y.toList.drop n) = some r → (Op.eqFields (d + e + 1) X Y fs).run P w = .ok r w := by
  intro e
  induction e with
  | zero => intro d X Y fs n m r h hX hY he; exact flatStep_eq (D := d) (fun gs k X Y r h => by cases h) X Y h hX hY he
  | succ e ih => intro d X Y fs n m r h hX hY he; exact flatStep_eq (D := d + e + 1) (fun gs k X Y r h hX hY he => ih d X Y h hX hY (by simpa using he)) X Y h hX hY he

theorem flatOf_eq {t : TypeId} {n : Nat} (h : flatOf P t = some n) {X Y : Array Value} (hX : X.size = n) (hY : Y.size = n) {r : Bool} (he : eqCells X.toList Y.toList = some r) (w : World) :
    (Op.equalIn 10000 t (.agg X) (.agg Y)).run P w = .ok r w ∧ P.eqGuardType P.depth t = false := by
  unfold flatOf at h
  cases hu : P.underlying t with
  | none => simp [hu] at h
  | some dsc =>
    cases dsc <;> simp only [hu] at h <;> try (cases h; done)
    rename_i fs
    split at h
    · rename_i hc
      refine ⟨?_, hc.2⟩
      have hfs : P.fieldsOf t = fs := by simp [Program.fieldsOf, hu]
      rw [run_equalIn_struct w 9999 t X Y (by rw [hfs]; exact hu) hc.1, hfs]
      exact flat_eq w 2 9996 X Y h hX hY (by simpa using he)
    · cases h

theorem array_of_list {xs : Array Value} {l : List Value} (h : xs.toList = l) : xs = l.toArray := by rw [← h]

theorem eqIn_bool (d : Nat) {t : TypeId} (hu : P.underlying t = some .bool) (a b : Bool) (w : World) : (Op.equalIn (d + 1) t (.bool a) (.bool b)).run P w = .ok (a == b) w := run_equalIn_bool w d t a b hu
theorem eqIn_ptr (d : Nat) {t el : TypeId} (hu : P.underlying t = some (.pointer el)) (a : Option Addr) (w : World) : (Op.equalIn (d + 1) t (.pointer a) (.pointer none)).run P w = .ok a.isNone w := by
  cases a <;> simp [Op.equalIn, run_underlying hu]
theorem eqIn_ptr' (d : Nat) {t el : TypeId} (hu : P.underlying t = some (.pointer el)) (a : Addr) (w : World) : (Op.equalIn (d + 1) t (.pointer none) (.pointer (some a))).run P w = .ok false w := by
  simp [Op.equalIn, run_underlying hu]
theorem eqIn_slice (d : Nat) {t el : TypeId} (hu : P.underlying t = some (.slice el)) (a : Option Addr) (n k m l : Nat) (w : World) : (Op.equalIn (d + 1) t (.slice a n k) (.slice none m l)).run P w = .ok a.isNone w := by
  cases a <;> simp [Op.equalIn, run_underlying hu]
theorem eqIn_slice' (d : Nat) {t el : TypeId} (hu : P.underlying t = some (.slice el)) (a : Addr) (n k m l : Nat) (w : World) : (Op.equalIn (d + 1) t (.slice none n k) (.slice (some a) m l)).run P w = .ok false w := by
  simp [Op.equalIn, run_underlying hu]
theorem eqIn_map (d : Nat) {t kt el : TypeId} (hu : P.underlying t = some (.map kt el)) (a : Option Nat) (w : World) : (Op.equalIn (d + 1) t (.map a) (.map none)).run P w = .ok a.isNone w := by
  cases a <;> simp [Op.equalIn, run_underlying hu]
theorem eqIn_map' (d : Nat) {t kt el : TypeId} (hu : P.underlying t = some (.map kt el)) (a : Nat) (w : World) : (Op.equalIn (d + 1) t (.map none) (.map (some a))).run P w = .ok false w := by
  simp [Op.equalIn, run_underlying hu]
theorem eqIn_func (d : Nat) {t : TypeId} {ps rs : Array TypeId} {va : Bool} (hu : P.underlying t = some (.func ps rs va)) (f : Fn) (a c : Array Value) (w : World) :
    (Op.equalIn (d + 1) t (.func f a c) .nilFunc).run P w = .ok false w ∧ (Op.equalIn (d + 1) t .nilFunc (.func f a c)).run P w = .ok false w ∧ (Op.equalIn (d + 1) t .nilFunc .nilFunc).run P w = .ok true w := by
  refine ⟨?_, ?_, ?_⟩ <;> simp [Op.equalIn, run_underlying hu]

/-- What '==' comes to where it is no whole number's nor a string's. -/
theorem eql_of {t : TypeId} {x y : Value} {r : Bool} {w : World} (X Y : Operand) (op : BinOp) (hop : op = .eql ∨ op = .neq) (hg : (eqGuard op t X Y x y).run P w = .ok () w)
    (hi : ∀ k a, x ≠ .int k a) (hf : ∀ k a, x ≠ .float k a) (hc : ∀ k a b, x ≠ .complex k a b) (hs : ∀ a, x ≠ .string a) (he : (Op.equalIn 10000 t x y).run P w = .ok r w) :
    (do eqGuard op t X Y x y; binOp op t x y : Sem Value).run P w = .ok (.bool (if op = .eql then r else !r)) w := by
  have he' : (Op.equal t x y).run P w = .ok r w := he
  simp only [Sem.run_bind, hg, Result.andThen_ok]
  rcases hop with rfl | rfl
  · have e : binOp .eql t x y = (do pure (.bool (← Op.equal t x y)) : Sem Value) := by
      cases x <;> first | rfl | exact absurd rfl (hi _ _) | exact absurd rfl (hf _ _) | exact absurd rfl (hc _ _ _) | exact absurd rfl (hs _)
    rw [e]; simp [he']
  · have e : binOp .neq t x y = (do pure (.bool (!(← Op.equal t x y))) : Sem Value) := by
      cases x <;> first | rfl | exact absurd rfl (hi _ _) | exact absurd rfl (hf _ _) | exact absurd rfl (hc _ _ _) | exact absurd rfl (hs _)
    rw [e]; simp [he']

theorem pEq_run {t : TypeId} {x y x' y' : Value} {r : Bool} (h : pEq (clsOf P t) x y = some r) (hx : VRel P ρ x x') (hy : VRel P ρ y y') (X Y : Operand) (w : World) (op : BinOp) (hop : op = .eql ∨ op = .neq) :
    (do eqGuard op t X Y x' y'; binOp op t x' y' : Sem Value).run P w = .ok (.bool (if op = .eql then r else !r)) w := by
  unfold clsOf at h
  cases hu : P.underlying t with
  | none => simp [hu, pEq] at h
  | some d =>
    cases d <;> simp only [hu] at h <;> try (simp [pEq] at h; done)
    case bool =>
      cases x <;> cases y <;> simp [pEq] at h
      rw [hx.bool_inv, hy.bool_inv]
      exact eql_of X Y op hop (by rw [eqGuard_at_bool]; rfl) (by simp) (by simp) (by simp) (by simp) (by rw [eqIn_bool 9999 hu, h])
    case pointer el =>
      cases x <;> cases y <;> simp only [pEq] at h <;> try (cases h; done)
      rename_i a b
      obtain ⟨a', rfl, ha⟩ := hx.pointer_inv
      obtain ⟨b', rfl, hb⟩ := hy.pointer_inv
      refine eql_of X Y op hop (by rw [eqGuard_at_pointer]; rfl) (by simp) (by simp) (by simp) (by simp) ?_
      cases b with
      | none =>
        have hb' : b' = none := by cases b' <;> simp_all
        subst hb'
        rw [eqIn_ptr 9999 hu, ha]
        cases a <;> simp [pEq] at h <;> simp [h]
      | some b =>
        cases a with
        | some a => simp [pEq] at h
        | none =>
          have ha' : a' = none := by cases a' <;> simp_all
          subst ha'
          cases b' with
          | none => simp at hb
          | some b' => simp [pEq] at h; rw [eqIn_ptr' 9999 hu, ← h]
    case slice el =>
      cases x <;> cases y <;> simp only [pEq] at h <;> try (cases h; done)
      rename_i a n1 k1 b n2 k2
      obtain ⟨a', _, rfl, ha⟩ := hx.anyslice_inv
      obtain ⟨b', _, rfl, hb⟩ := hy.anyslice_inv
      refine eql_of X Y op hop (by rw [eqGuard_at_slice]; rfl) (by simp) (by simp) (by simp) (by simp) ?_
      cases b with
      | none =>
        have hb' : b' = none := by cases b' <;> simp_all
        subst hb'
        rw [eqIn_slice 9999 hu, ha]
        cases a <;> simp [pEq] at h <;> simp [h]
      | some b =>
        cases a with
        | some a => simp [pEq] at h
        | none =>
          have ha' : a' = none := by cases a' <;> simp_all
          subst ha'
          cases b' with
          | none => simp at hb
          | some b' => simp [pEq] at h; rw [eqIn_slice' 9999 hu, ← h]
    case map kt el =>
      cases x <;> cases y <;> simp only [pEq] at h <;> try (cases h; done)
      rename_i a b
      obtain ⟨a', rfl, ha⟩ := hx.anymap_inv
      obtain ⟨b', rfl, hb⟩ := hy.anymap_inv
      refine eql_of X Y op hop (by rw [eqGuard_at_map]; rfl) (by simp) (by simp) (by simp) (by simp) ?_
      cases b with
      | none =>
        have hb' : b' = none := by cases b' <;> simp_all
        subst hb'
        rw [eqIn_map 9999 hu, ha]
        cases a <;> simp [pEq] at h <;> simp [h]
      | some b =>
        cases a with
        | some a => simp [pEq] at h
        | none =>
          have ha' : a' = none := by cases a' <;> simp_all
          subst ha'
          cases b' with
          | none => simp at hb
          | some b' => simp [pEq] at h; rw [eqIn_map' 9999 hu, ← h]
    case func ps rs va =>
      cases x <;> cases y <;> simp [pEq] at h
      · obtain ⟨f', c', rfl, _⟩ := hx.func_inv
        rw [hy.nilFunc_inv]
        exact eql_of X Y op hop (by rw [eqGuard_at_func]; rfl) (by simp) (by simp) (by simp) (by simp) (by rw [(eqIn_func 9999 hu _ f' c' w).1, h])
      · obtain ⟨f', c', rfl, _⟩ := hy.func_inv
        rw [hx.nilFunc_inv]
        exact eql_of X Y op hop (by rw [eqGuard_at_nilFunc]; rfl) (by simp) (by simp) (by simp) (by simp) (by rw [(eqIn_func 9999 hu _ f' c' w).2.1, h])
      · rw [hx.nilFunc_inv, hy.nilFunc_inv]
        exact eql_of X Y op hop (by rw [eqGuard_at_nilFunc]; rfl) (by simp) (by simp) (by simp) (by simp) (by rw [(eqIn_func 9999 hu (.func 0) #[] #[] w).2.2, h])
    case struct fs =>
      cases hf : flatOf P t with
      | none => simp [hf, pEq] at h
      | some n =>
        simp only [hf] at h
        cases x <;> cases y <;> simp only [pEq] at h <;> try (cases h; done)
        rename_i xs ys
        split at h
        · rename_i hsz
          obtain ⟨xs', rfl, hxs, hxe⟩ := hx.agg_inv
          obtain ⟨ys', rfl, hys, hye⟩ := hy.agg_inv
          have hlx : LRel P ρ xs.toList xs'.toList := ⟨by simpa using hxs, fun i a b ha hb => hxe i a b (by simpa using ha) (by simpa using hb)⟩
          have hly : LRel P ρ ys.toList ys'.toList := ⟨by simpa using hys, fun i a b ha hb => hye i a b (by simpa using ha) (by simpa using hb)⟩
          obtain ⟨e1, e2⟩ := eqCells_rel h hlx hly
          have e1 := Array.toList_inj.1 e1
          have e2 := Array.toList_inj.1 e2
          subst e1; subst e2
          obtain ⟨hq, hg⟩ := flatOf_eq hf hsz.1 hsz.2 h w
          exact eql_of X Y op hop (run_eqGuard_agg (P := P) w op t X Y xs' ys' hg) (by simp) (by simp) (by simp) (by simp) hq
        · cases h

theorem pBin_run {t : TypeId} {op : BinOp} {x y x' y' v : Value} (h : pBin (clsOf P t) op x y = some v) (hx : VRel P ρ x x') (hy : VRel P ρ y y') (X Y : Operand) (w : World) :
    (do eqGuard op t X Y x' y'; binOp op t x' y' : Sem Value).run P w = .ok v w ∧ litV v = true := by
  by_cases hi : ∃ k a k' b, x = .int k a ∧ y = .int k' b
  · obtain ⟨k, a, k', b, rfl, rfl⟩ := hi
    rw [hx.int_inv, hy.int_inv, eqGuard_at_int]
    simp only [pBin] at h
    have lit : ∀ {op' : BinOp}, pInt op' k a b = some v → litV v = true := by
      intro op' hp
      cases op' <;> simp only [pInt] at hp <;> first | (cases hp; rfl) | (split at hp <;> first | (cases hp; done) | (cases hp; rfl)) | (cases hp; done)
    have lits : ∀ {op' : BinOp}, pShift op' k a b = some v → litV v = true := by
      intro op' hp
      unfold pShift at hp
      split at hp
      · cases hp
      · cases op' <;> simp only at hp <;> first | (cases hp; done) | (cases hp; rfl)
    cases op <;> simp only at h <;> first
      | (refine ⟨?_, lits h⟩; have := pShift_run (P := P) (yk := k') h w; simpa [binOp] using this)
      | (split at h
         · rename_i hk; subst hk; exact ⟨by simpa using pInt_run (P := P) h t w (by simp) (by simp), lit h⟩
         · cases h)
  · by_cases hs : ∃ a b, x = .string a ∧ y = .string b
    · obtain ⟨a, b, rfl, rfl⟩ := hs
      rw [hx.string_inv, hy.string_inv, eqGuard_at_string]
      simp only [pBin] at h
      cases op <;> simp only [pStr] at h <;> first | (cases h; done) | (cases h; refine ⟨?_, rfl⟩; simp [binOp, Op.stringOp, beq_toListBytes]) | (split at h <;> first | (cases h; done) | (rename_i hlen; cases h; refine ⟨?_, rfl⟩; simp only [binOp, Op.stringOp]; rw [if_neg (by simp [IntKind.max, IntKind.bits, IntKind.signed]; omega)]; rfl))
    · have h' : pEqOp (clsOf P t) op x y = some v := by
        cases x <;> cases y <;> first | (exfalso; exact hi ⟨_, _, _, _, rfl, rfl⟩) | (exfalso; exact hs ⟨_, _, rfl, rfl⟩) | (simp only [pBin] at h; exact h)
      cases op <;> simp only [pEqOp] at h' <;> try (cases h'; done)
      · obtain ⟨r, hr, rfl⟩ := Option.map_eq_some_iff.1 h'
        exact ⟨by simpa using pEq_run hr hx hy X Y w .eql (.inl rfl), rfl⟩
      · obtain ⟨r, hr, rfl⟩ := Option.map_eq_some_iff.1 h'
        exact ⟨by simpa using pEq_run hr hx hy X Y w .neq (.inr rfl), rfl⟩

theorem pUn_run {op : UnOp} {x x' v : Value} (h : pUn op x = some v) (hx : VRel P ρ x x') (w : World) : (Op.unary op x').run P w = .ok v w ∧ litV v = true := by
  cases op <;> cases x <;> simp only [pUn] at h <;> try (cases h; done)
  · cases h; rw [hx.int_inv]; exact ⟨by simp [Op.unary, Op.intArith], rfl⟩
  · cases h; rw [hx.int_inv]; exact ⟨by simp [Op.unary, Op.intBits, Go.bits], rfl⟩
  · cases h; rw [hx.bool_inv]; exact ⟨by simp [Op.unary], rfl⟩
end
end Go.Proofs.YthagelbepgcolaaGreatDoor.Gst
/- Operations on memory: loads, stores, new blocks. -/
namespace Go.Proofs.YthagelbepgcolaaGreatDoor.Gst
open Go Go.RowKit
set_option linter.unusedSimpArgs false
section
variable {P : Program} {w0 : World} {B : Nat} {ρ : Ren} {H : AH} {w : World}

/-- What an operation has come to. -/
def Out (P : Program) (w0 : World) (B : Nat) (ρ : Ren) (H : AH) (w : World) (r : Result Next) (v : Value) (H' : AH) : Prop :=
  ∃ v' w' ρ', (r = .ok (.value v') w' ∨ (r = .ok .skip w' ∧ v' = undef)) ∧ VRel P ρ' v v' ∧ Ext ρ H w ρ' H' w' ∧ Rel P w0 B ρ' H' w'

theorem Out.pure (hR : Rel P w0 B ρ H w) {r : Result Next} {v v' : Value} (hr : r = .ok (.value v') w) (hv : VRel P ρ v v') : Out P w0 B ρ H w r v H :=
  ⟨v', w, ρ, .inl hr, hv, Ext.refl _ _ _, hR⟩

theorem pAt_some {v : Value} {b o : Nat} (h : pAt v = some (b, o)) : v = .pointer (some ⟨b, o, none⟩) := by
  unfold pAt at h
  split at h
  · cases h; rfl
  · cases h
theorem pCells_some {b : Nat} {cs : List Value} (h : pCells H b = some cs) : ∃ ro, H.get b = some (.cells ro cs) := by
  unfold pCells at h
  split at h
  · rename_i ro cs' hg; cases h; exact ⟨ro, hg⟩
  · cases h

/-- A block of the run that the abstract one speaks of: its cells. -/
theorem Rel.cells (hR : Rel P w0 B ρ H w) {b c d sz : Nat} {ro : Bool} {cs : List Value} (hb : ρ b = some (c, d, sz)) (ho : H.get b = some (.cells ro cs)) :
    ∃ cc el fz, w.heap[c]? = some (.cells cc el fz) ∧ cc.size = sz ∧ d + cs.length ≤ sz ∧ (ro = false → fz = (0, 0)) ∧ LRel P ρ cs ((cc.toList.drop d).take cs.length) :=
  hR.obj b c d sz _ hb ho

theorem cell_at {c d o n : Nat} {cc : Array Value} {el : TypeId} {fz : Nat × Nat} {y : Value} (hg : w.heap[c]? = some (.cells cc el fz)) (hy : ((cc.toList.drop d).take n)[o]? = some y) :
    w.cell? ⟨c, d + o, none⟩ = some y := by
  rw [List.getElem?_take] at hy
  split at hy
  · rw [List.getElem?_drop, Array.getElem?_toList] at hy
    simp [World.cell?, hg, hy]
  · cases hy

theorem load1 (hR : Rel P w0 B ρ H w) {v v' x : Value} (h : pLd1 v H = some x) (hv : VRel P ρ v v') : ∃ a' x', v' = .pointer (some a') ∧ (load a').run P w = .ok x' w ∧ VRel P ρ x x' := by
  unfold pLd1 at h
  obtain ⟨⟨b, o⟩, ha, h⟩ := Option.bind_eq_some_iff.1 h
  obtain ⟨cs, hc, h⟩ := Option.bind_eq_some_iff.1 h
  rw [pAt_some ha] at hv
  obtain ⟨c, d, sz, hb, rfl⟩ := hv.ptr_inv
  obtain ⟨ro, hg⟩ := pCells_some hc
  obtain ⟨cc, el, fz, hw, _, _, _, hl⟩ := hR.cells hb hg
  obtain ⟨x', hx', hxx⟩ := hl.get h
  refine ⟨_, x', rfl, ?_, hxx⟩
  have hcell := cell_at hw hx'
  simp [run_load, hcell]

theorem loadN (hR : Rel P w0 B ρ H w) {n : Nat} {v v' x : Value} (h : pLdN n v H = some x) (hv : VRel P ρ v v') : ∃ a' xs', v' = .pointer (some a') ∧ (loadCells a' n).run P w = .ok xs' w ∧ VRel P ρ x (.agg xs') := by
  unfold pLdN at h
  obtain ⟨⟨b, o⟩, ha, h⟩ := Option.bind_eq_some_iff.1 h
  obtain ⟨cs, hc, h⟩ := Option.bind_eq_some_iff.1 h
  rw [pAt_some ha] at hv
  obtain ⟨c, d, sz, hb, rfl⟩ := hv.ptr_inv
  obtain ⟨ro, hg⟩ := pCells_some hc
  obtain ⟨cc, el, fz, hw, _, _, _, hl⟩ := hR.cells hb hg
  split at h
  · rename_i hle
    cases h
    have hl' := (hl.drop o).take n
    have hlen : ((((cc.toList.drop d).take cs.length).drop o).take n).length = n := by rw [← hl'.1]; simp; simp at hle; omega
    have hrun := run_loadCells_list (P := P) w ⟨c, d + o, none⟩ ((((cc.toList.drop d).take cs.length).drop o).take n) (by
      intro j y hy
      rw [List.getElem?_take] at hy
      split at hy
      · rw [List.getElem?_drop] at hy
        have := cell_at hw hy
        rw [Addr.add_lit, Nat.add_assoc]
        exact this
      · cases hy)
    rw [hlen] at hrun
    exact ⟨_, _, rfl, hrun, hl'.toAgg⟩
  · cases h

theorem List.splice_take {α : Type} (l : List α) (o : Nat) (xs : List α) : (l.take o ++ xs ++ l.drop (o + xs.length)) = l.take o ++ xs ++ l.drop (o + xs.length) := rfl

/-- A store into a window of a row. -/
theorem splice_window {cc : List Value} {d o n : Nat} {xs : List Value} (hd : d + n ≤ cc.length) (ho : o + xs.length ≤ n) :
    ((cc.take (d + o) ++ xs ++ cc.drop (d + o + xs.length)).drop d).take n = splice ((cc.drop d).take n) o xs := by
  unfold splice
  apply List.ext_getElem?
  intro i
  simp only [List.getElem?_take, List.getElem?_drop, List.getElem?_append, List.length_take, List.length_append, List.length_drop]
  have m1 : min (d + o) cc.length = d + o := by omega
  have m2 : min n (cc.length - d) = n := by omega
  have m3 : min o n = o := by omega
  simp only [m1, m2, m3]
  by_cases hi : i < n
  · simp only [hi, if_true]
    by_cases h1 : i < o
    · have a1 : d + i < d + o := by omega
      have a2 : d + i < d + o + xs.length := by omega
      have a3 : i < o + xs.length := by omega
      simp [h1, a1, a2, a3]
    · by_cases h2 : i < o + xs.length
      · have a1 : ¬ d + i < d + o := by omega
        have a2 : d + i < d + o + xs.length := by omega
        have a4 : d + i - (d + o) = i - o := by omega
        simp [h1, h2, a1, a2, a4]
      · have a2 : ¬ d + i < d + o + xs.length := by omega
        have a5 : o + xs.length + (i - (o + xs.length)) < n := by omega
        have a6 : d + o + xs.length + (d + i - (d + o + xs.length)) = d + (o + xs.length + (i - (o + xs.length))) := by omega
        simp [h2, a2, a5, a6]
  · simp only [hi, if_false]
    have a3 : ¬ i < o + xs.length := by omega
    have a5 : ¬ o + xs.length + (i - (o + xs.length)) < n := by omega
    simp [a3, a5]

theorem splice_length {cs xs : List Value} {o : Nat} (h : o + xs.length ≤ cs.length) : (splice cs o xs).length = cs.length := by
  unfold splice; simp; omega
theorem LRel.splice {cs cs' xs xs' : List Value} (h : LRel P ρ cs cs') (hx : LRel P ρ xs xs') (o : Nat) : LRel P ρ (Gst.splice cs o xs) (Gst.splice cs' o xs') := by
  unfold Gst.splice
  rw [← hx.1]
  exact ((h.take o).append hx).append (h.drop _)

theorem ones_rel {xs xs' : List Value} (h : LRel P ρ xs xs') (ha : xs.all Value.oneCell' = true) : ∀ v ∈ xs', v.oneCell' = true := by
  intro v hv
  obtain ⟨i, hi, rfl⟩ := List.getElem_of_mem hv
  have hi' : i < xs.length := by have := h.1; omega
  have hr := h.2 i xs[i] xs'[i] (List.getElem?_eq_getElem hi') (List.getElem?_eq_getElem hi)
  rw [← hr.oneCell]
  exact List.all_eq_true.1 ha _ (List.getElem_mem hi')

theorem storeN (hR : Rel P w0 B ρ H w) {n : Nat} {v v' x x' : Value} {H' : AH} (h : pSt n v x H = some H') (hv : VRel P ρ v v') (hx : VRel P ρ x x') :
    ∃ a' w', v' = .pointer (some a') ∧ x'.cells.size = n ∧ (storeCells a' x'.cells.toList).run P w = .ok () w' ∧ Ext ρ H w ρ H' w' ∧ Rel P w0 B ρ H' w' := by
  unfold pSt at h
  obtain ⟨⟨b, o⟩, ha, h⟩ := Option.bind_eq_some_iff.1 h
  rw [pAt_some ha] at hv
  obtain ⟨c, d, sz, hb, rfl⟩ := hv.ptr_inv
  simp only at h
  split at h
  · rename_i cs hg
    split at h
    · rename_i hcond
      obtain ⟨hn, hfit, hone⟩ := hcond
      cases h
      obtain ⟨cc, el, fz, hw, hsz, hd, hfz, hl⟩ := hR.cells hb hg
      have hfz := hfz rfl
      subst hfz
      have hxc := hx.cells
      have hlen : x'.cells.toList.length = n := by rw [← hxc.1]; simpa using hn
      have hlenx : x.cells.toList.length = n := by simpa using hn
      have hst := run_storeCells_at P c (d + o) el x'.cells.toList 0 cc w hw (by rw [hlen]; omega) (ones_rel hxc hone)
      simp only [Nat.add_zero] at hst
      have hset := hR.setBlock (o := .cells false cs) (o' := .cells false (Gst.splice cs o x.cells.toList)) hb hg rfl rfl
        (w' := w.setRow c (cc.toList.take (d + o) ++ x'.cells.toList ++ cc.toList.drop (d + o + x'.cells.toList.length)).toArray)
        rfl rfl rfl (size_setRow ..) (fun k hk => setRow_other w c k _ hk)
        ⟨_, el, (0, 0), setRow_heap w c cc _ el (0, 0) hw, (by have h1 := hlen; simp at h1 ⊢; omega), by rw [splice_length (by rw [hlenx]; exact hfit)]; exact hd, fun _ => rfl, by
          have hwin := splice_window (cc := cc.toList) (d := d) (o := o) (n := cs.length) (xs := x'.cells.toList) (by simp; omega) (by rw [hlen]; exact hfit)
          rw [splice_length (by rw [hlenx]; exact hfit)]
          have e : (cc.toList.take (d + o) ++ x'.cells.toList ++ cc.toList.drop (d + o + x'.cells.toList.length)).toArray.toList = cc.toList.take (d + o) ++ x'.cells.toList ++ cc.toList.drop (d + o + x'.cells.toList.length) := rfl
          rw [e, hwin]
          exact hl.splice hxc o⟩
      refine ⟨_, _, rfl, by simpa using hlen, hst, hset.2, hset.1⟩
    · cases h
  · cases h

/-- A new row of cells. -/
theorem pushCells (hR : Rel P w0 B ρ H w) {cs cs' : List Value} {el : TypeId} (hl : LRel P ρ cs cs') :
    Rel P w0 B (ρ.upd H.size (w.heap.size, 0, cs'.length)) (H.push (.cells false cs)) (w.alloc (.cells cs'.toArray el)) ∧
    Ext ρ H w (ρ.upd H.size (w.heap.size, 0, cs'.length)) (H.push (.cells false cs)) (w.alloc (.cells cs'.toArray el)) :=
  hR.push rfl ⟨_, el, (0, 0), rfl, by simp, by rw [hl.1]; omega, fun _ => rfl, by rw [hl.1]; simpa using hl⟩

theorem newPtr (hR : Rel P w0 B ρ H w) {cs cs' : List Value} {el : TypeId} (hl : LRel P ρ cs cs') {r : Result Next} (hr : r = .ok (.value (.pointer (some ⟨w.heap.size, 0, none⟩))) (w.alloc (.cells cs'.toArray el))) :
    Out P w0 B ρ H w r (.pointer (some ⟨H.size, 0, none⟩)) (H.push (.cells false cs)) :=
  ⟨_, _, _, .inl hr, .ptr (d := 0) (o := 0) (Ren.upd_same ..), (pushCells hR hl).2, (pushCells hR hl).1⟩

theorem newSlice (hR : Rel P w0 B ρ H w) {cs cs' : List Value} {el : TypeId} {n e : Nat} (hl : LRel P ρ cs cs') (he : 0 < e) (hn : n * e ≤ cs'.length) {r : Result Next}
    (hr : r = .ok (.value (.slice (some ⟨w.heap.size, 0, none⟩) n n)) (w.alloc (.cells cs'.toArray el))) :
    Out P w0 B ρ H w r (.slice (some ⟨H.size, 0, none⟩) n e) (H.push (.cells false cs)) :=
  ⟨_, _, _, .inl hr, .slice (d := 0) (o := 0) (Ren.upd_same ..) (by omega) (Nat.le_refl _) he, (pushCells hR hl).2, (pushCells hR hl).1⟩
end
end Go.Proofs.YthagelbepgcolaaGreatDoor.Gst
/- append and make. -/
namespace Go.Proofs.YthagelbepgcolaaGreatDoor.Gst
open Go Go.RowKit
set_option linter.unusedSimpArgs false
section
variable {P : Program} {w0 : World} {B : Nat} {ρ : Ren} {H : AH} {w : World}

theorem row_run (hR : Rel P w0 B ρ H w) {e m : Nat} {x x' : Value} {news : List Value} (h : pRow e x H = some (m, news)) (hx : VRel P ρ x x') :
    ∃ a' k' news', x' = .slice a' m k' ∧ LRel P ρ news news' ∧ news'.length = m * e ∧ (Builtin.firstCells e m x').run P w = .ok news'.toArray w ∧ (Builtin.firstCells e m x').run P w.drew = .ok news'.toArray w.drew := by
  by_cases hsl : ∃ a n k, x = .slice a n k
  case neg =>
    exfalso
    cases x <;> first | exact hsl ⟨_, _, _, rfl⟩ | (simp [pRow] at h)
  obtain ⟨a, n, k, rfl⟩ := hsl
  cases a with
  | none =>
    simp only [pRow] at h
    split at h
    · rename_i hn
      cases h
      subst hn
      rw [hx.nilslice_inv]
      exact ⟨none, k, [], rfl, LRel.nil, by simp, by simp [Builtin.firstCells], by simp [Builtin.firstCells]⟩
    · cases h
  | some ad =>
    obtain ⟨b, o, sp⟩ := ad
    cases sp with
    | some sp => simp [pRow] at h
    | none =>
    simp only [pRow] at h
    split at h
    · rename_i hm
      cases h
      subst hm
      obtain ⟨a', k', rfl, ha⟩ := hx.anyslice_inv
      cases a' with
      | none => simp at ha
      | some a' => exact ⟨some a', k', [], rfl, LRel.nil, by simp, by simp [Builtin.firstCells, loadCells, loadCellsFrom], by simp [Builtin.firstCells, loadCells, loadCellsFrom]⟩
    · rename_i hm
      have h2 := Option.bind_eq_some_iff.1 h
      clear h
      obtain ⟨cs, hc, h⟩ := h2
      split at h
      · rename_i hle
        cases h
        cases hx with
        | lit h => simp [litV] at h
        | slice0 h => exact absurd rfl hm
        | empty => exact absurd rfl hm
        | slice hb hk hn he =>
          rename_i c d sz k'
          have hld : pLdN (m * e) (.pointer (some ⟨b, o, none⟩)) H = some (.agg ((cs.drop o).take (m * e)).toArray) := by
            simp [pLdN, pAt, hc, hle]
          obtain ⟨a', xs', ha', hrun, hv⟩ := loadN hR hld (.ptr hb)
          cases ha'
          obtain ⟨ys, hys, hsz, hel⟩ := hv.agg_inv
          cases hys
          have hrun2 : (loadCells ⟨c, d + o, none⟩ (m * e)).run P w.drew = .ok xs' w.drew := by
            obtain ⟨a2, xs2, ha2, hr2, _⟩ := loadN hR.drew hld (.ptr hb)
            cases ha2
            have hcs : (loadCells ⟨c, d + o, none⟩ (m * e)).run P w = .ok xs' w := hrun
            -- the cells are the same ones
            obtain ⟨ro, hg⟩ := pCells_some hc
            obtain ⟨cc, el, fz, hw, hsz', hd', _, _⟩ := hR.cells hb hg
            have hrd : ∀ (W : World), W.heap[c]? = some (.cells cc el fz) → (loadCells ⟨c, d + o, none⟩ (m * e)).run P W = .ok ((cc.toList.drop (d + o)).take (m * e)).toArray W := by
              intro W hW
              have hl : ((cc.toList.drop (d + o)).take (m * e)).length = m * e := by simp; omega
              have := run_loadCells_list (P := P) W ⟨c, d + o, none⟩ ((cc.toList.drop (d + o)).take (m * e)) (by
                intro j y hy
                rw [List.getElem?_take] at hy
                split at hy
                · rw [List.getElem?_drop, Array.getElem?_toList] at hy
                  rw [Addr.add_lit]
                  simp [World.cell?, hW, hy]
                · cases hy)
              rwa [hl] at this
            rw [hrd w hw] at hcs
            cases hcs
            exact hrd w.drew hw
          refine ⟨some ⟨c, d + o, none⟩, k', xs'.toList, rfl, ⟨by simpa using hsz, fun i x y hx hy => hel i x y (by simpa using hx) (by simpa using hy)⟩, ?_, ?_, ?_⟩
          · have := hsz; simp at this ⊢; omega
          · simpa [Builtin.firstCells] using hrun
          · simpa [Builtin.firstCells] using hrun2
      · cases h

theorem append_grow_run {t u ty el : TypeId} {i : TypeInfo} {z : Value} (ht : P.underlying t = some (.slice el)) (hu : P.underlying u = some (.slice el)) (hi : P.info? el = some i) (hz : i.zero = some z)
    (base : Option Addr) (sLen sCap : Nat) (olds' : List Value) (ho : (Builtin.firstCells i.size sLen (.slice base sLen sCap)).run P w.drew = .ok olds'.toArray w.drew)
    {a' : Option Addr} {m k' : Nat} {news' : List Value} (hx : (Builtin.firstCells i.size m (.slice a' m k')).run P w.drew = .ok news'.toArray w.drew)
    (hg : sCap < sLen + m) (hb : (sLen + m) * i.bytes ≤ room) (h63 : sLen + m ≤ room) :
    (Builtin.append_ #[t, u] ty #[.slice base sLen sCap, .slice a' m k']).run P w =
      .ok (.slice (some ⟨w.heap.size, 0, none⟩) (sLen + m) (grownCap w (sLen + m) sCap el))
        (w.drew.alloc (.cells (olds' ++ news' ++ (Builtin.zeroCells z.cells (grownCap w (sLen + m) sCap el - (sLen + m))).toList).toArray el)) := by
  unfold room at hb h63
  have hn : ¬ (sLen + m ≤ sCap) := by omega
  have h63' : ¬ (9223372036854775807 < ((sLen : Int) + (m : Int))) := by omega
  have h48' : ¬ (281474976710656 < Builtin.nextslicecap (sLen + m) sCap * i.bytes) := by
    have := growslice_fits hg hb; omega
  simp [Builtin.append_, run_underlying ht, run_underlying hu, sizeOf, typeInfo, zeroValue, hi, hz, Builtin.lenOf, hn, h63', h48', Question.forced, ho, hx, newRow, grownCap]
  congr 2
  apply Array.ext'
  simp [List.append_assoc]

theorem append_room_run {t u ty el : TypeId} {i : TypeInfo} (ht : P.underlying t = some (.slice el)) (hu : P.underlying u = some (.slice el)) (hi : P.info? el = some i)
    (base : Addr) (sLen sCap : Nat) {a' : Option Addr} {m k' : Nat} {news' : List Value} (hx : (Builtin.firstCells i.size m (.slice a' m k')).run P w = .ok news'.toArray w)
    (hg : sLen + m ≤ sCap) {w' : World} (hst : (storeCells (base.add (sLen * i.size)) news').run P w = .ok () w') :
    (Builtin.append_ #[t, u] ty #[.slice (some base) sLen sCap, .slice a' m k']).run P w = .ok (.slice (some base) (sLen + m) sCap) w' := by
  simp [Builtin.append_, run_underlying ht, run_underlying hu, sizeOf, typeInfo, hi, Builtin.lenOf, hg, hx, hst]

theorem append_nil_run {t u ty el : TypeId} {i : TypeInfo} (ht : P.underlying t = some (.slice el)) (hu : P.underlying u = some (.slice el)) (hi : P.info? el = some i)
    {a' : Option Addr} {k' : Nat} {news' : List Value} (hx : (Builtin.firstCells i.size 0 (.slice a' 0 k')).run P w = .ok news'.toArray w) :
    (Builtin.append_ #[t, u] ty #[.slice none 0 0, .slice a' 0 k']).run P w = .ok (.slice none 0 0) w := by
  simp [Builtin.append_, run_underlying ht, run_underlying hu, sizeOf, typeInfo, hi, Builtin.lenOf, hx]

/-- What 'append' gives: the row that it makes stands under a new number. -/
theorem app_out (hR : Rel P w0 B ρ H w) {t u ty el : TypeId} {i : TypeInfo} {z : Value} (ht : P.underlying t = some (.slice el)) (hu : P.underlying u = some (.slice el)) (hi : P.info? el = some i) (hz : i.zero = some z)
    (hzs : z.cells.size = i.size) {s s' x x' v : Value} {H' : AH} (h : pApp i.size i.bytes s x H = some (v, H')) (hs : VRel P ρ s s') (hx : VRel P ρ x x') :
    ∃ v' w' ρ', (Builtin.append_ #[t, u] ty #[s', x']).run P w = .ok v' w' ∧ VRel P ρ' v v' ∧ Ext ρ H w ρ' H' w' ∧ Rel P w0 B ρ' H' w' := by
  unfold pApp at h
  have h2 := Option.bind_eq_some_iff.1 h
  clear h
  obtain ⟨⟨m, news⟩, hrow, h⟩ := h2
  obtain ⟨a', k', news', rfl, hln, hnl, hrun, hrunD⟩ := row_run hR hrow hx
  split at h
  · rename_i hcond
    obtain ⟨hone, he⟩ := hcond
    have hones := ones_rel hln hone
    simp only at h hone
    -- a new block, whatever stood there before
    have fresh : ∀ (base : Option Addr) (sCap n : Nat) (olds olds' : List Value), LRel P ρ olds olds' → olds'.length = n * i.size → s' = .slice base n sCap →
        (Builtin.firstCells i.size n (.slice base n sCap)).run P w.drew = .ok olds'.toArray w.drew → sCap < n + m → (n + m) * i.bytes ≤ room → n + m ≤ room →
        ∃ sz k, (Builtin.append_ #[t, u] ty #[s', .slice a' m k']).run P w = .ok (.slice (some ⟨w.heap.size, 0, none⟩) (n + m) k) (w.drew.alloc (.cells (olds' ++ news' ++ (Builtin.zeroCells z.cells (k - (n + m))).toList).toArray el)) ∧
          sz = k * i.size ∧ n + m ≤ k ∧ ORel P ρ 0 sz (.cells false (olds ++ news)) (some (.cells (olds' ++ news' ++ (Builtin.zeroCells z.cells (k - (n + m))).toList).toArray el)) := by
      intro base sCap n olds olds' hlo hlen hs' ho hg hb h63
      have hge := grownCap_ge w (n + m) sCap el
      refine ⟨_, grownCap w (n + m) sCap el, by rw [hs']; exact append_grow_run ht hu hi hz base n sCap olds' ho hrunD hg hb h63, rfl, hge, ?_⟩
      have htot : (olds' ++ news').length = (n + m) * i.size := by simp [hlen, hnl, Nat.add_mul]
      refine ⟨_, el, (0, 0), rfl, ?_, ?_, fun _ => rfl, ?_⟩
      · have hzl : (Builtin.zeroCells z.cells (grownCap w (n + m) sCap el - (n + m))).size = (grownCap w (n + m) sCap el - (n + m)) * i.size := by rw [size_zeroCells, hzs]
        simp only [List.size_toArray, List.length_append, Array.length_toList, hzl] at htot ⊢
        rw [htot, ← Nat.add_mul]
        congr 1
        omega
      · rw [Nat.zero_add, (hlo.append hln).1, htot]
        exact Nat.mul_le_mul_right _ hge
      · have e : ((olds' ++ news' ++ (Builtin.zeroCells z.cells (grownCap w (n + m) sCap el - (n + m))).toList).toArray.toList.drop 0).take (olds ++ news).length = olds' ++ news' := by
          rw [(hlo.append hln).1]
          simp only [List.drop_zero]
          exact List.take_left
        rw [e]
        exact hlo.append hln
    have freshPush : ∀ (base : Option Addr) (sCap : Nat), s' = .slice base 0 sCap → sCap = 0 → (Builtin.firstCells i.size 0 (.slice base 0 sCap)).run P w.drew = .ok [].toArray w.drew → 0 < m → m * i.bytes ≤ room → m ≤ room →
        ∃ v' w' ρ', (Builtin.append_ #[t, u] ty #[s', .slice a' m k']).run P w = .ok v' w' ∧ VRel P ρ' (.slice (some ⟨H.size, 0, none⟩) m i.size) v' ∧ Ext ρ H w ρ' (H.push (.cells false news)) w' ∧ Rel P w0 B ρ' (H.push (.cells false news)) w' := by
      intro base sCap hs' hcap ho hm hb h63
      obtain ⟨sz, k, hr, hsz, hk, hor⟩ := fresh base sCap 0 [] [] LRel.nil (by simp) hs' ho (by omega) (by simpa using hb) (by omega)
      simp only [Nat.zero_add, List.nil_append] at hr hk hor
      have hp := hR.drew.push (o := .cells false news) rfl hor
      exact ⟨_, _, _, hr, .slice (d := 0) (o := 0) (Ren.upd_same ..) (by rw [hsz]; simp) hk he, hp.2.of_drew, hp.1⟩
    by_cases hsl : ∃ a n k, s = .slice a n k
    case neg =>
      exfalso
      cases s <;> first | exact hsl ⟨_, _, _, rfl⟩ | (simp at h)
    obtain ⟨a, n, e', rfl⟩ := hsl
    cases a with
    | none =>
      simp only at h
      split at h
      · rename_i hnk
        obtain ⟨rfl, rfl⟩ := hnk
        have hs' := hs.nilslice_inv
        split at h
        · rename_i hm0
          cases h
          subst hm0
          rw [hs']
          exact ⟨_, w, ρ, append_nil_run ht hu hi hrun, .lit rfl, Ext.refl _ _ _, hR⟩
        · rename_i hm0
          split at h
          · rename_i hc
            cases h
            exact freshPush none 0 hs' rfl (by simp [Builtin.firstCells]) (by omega) hc.1 hc.2
          · cases h
      · cases h
    | some ad =>
      obtain ⟨b, o, sp⟩ := ad
      cases sp with
      | some sp => simp at h
      | none =>
      simp only at h
      split at h
      · rename_i hm0
        cases h
        subst hm0
        have hn0 : news' = [] := List.eq_nil_of_length_eq_zero (by simpa using hnl)
        subst hn0
        cases hs with
        | lit h => simp [litV] at h
        | slice hb hk hn he' =>
          exact ⟨_, w, ρ, append_room_run ht hu hi _ _ _ hrun (by omega) (by simp [storeCells]), .slice hb hk (by omega) he', Ext.refl _ _ _, hR⟩
        | slice0 hb =>
          exact ⟨_, w, ρ, append_room_run ht hu hi _ _ _ hrun (by omega) (by simp [storeCells]), .slice0 hb, Ext.refl _ _ _, hR⟩
        | empty =>
          exact ⟨_, w, ρ, append_room_run ht hu hi _ _ _ hrun (by omega) (by simp [storeCells]), .empty, Ext.refl _ _ _, hR⟩
      · rename_i hm0
        split at h
        · rename_i he0
          subst he0
          split at h
          · rename_i hc
            obtain ⟨rfl, hb, h63⟩ := hc
            cases h
            cases hs with
            | lit h => simp [litV] at h
            | slice hb hk hn he' => omega
            | slice0 hb' => exact freshPush _ 0 rfl rfl (by simp [Builtin.firstCells, loadCells, loadCellsFrom]) (by omega) hb h63
            | empty => exact freshPush _ 0 rfl rfl (by simp [Builtin.firstCells, loadCells, loadCellsFrom]) (by omega) hb h63
          · cases h
        · rename_i he0
          split at h
          · rename_i cs hg
            split at h
            · rename_i hc
              obtain ⟨rfl, hfit, hb, h63⟩ := hc
              cases h
              have hlt := AH.lt_of_get hg
              -- the row in a new block
              have grow : ∀ (base : Option Addr) (sCap c d sz : Nat), ρ b = some (c, d, sz) → s' = .slice base n sCap → sCap < n + m → (∃ olds', LRel P ρ ((cs.drop o).take (n * i.size)) olds' ∧ (Builtin.firstCells i.size n (.slice base n sCap)).run P w.drew = .ok olds'.toArray w.drew) →
                  ∃ v' w' ρ', (Builtin.append_ #[t, u] ty #[s', .slice a' m k']).run P w = .ok v' w' ∧ VRel P ρ' (.slice (some ⟨H.size, 0, none⟩) (n + m) i.size) v' ∧
                    Ext ρ H w ρ' ((H.set b .dead).push (.cells false ((cs.drop o).take (n * i.size) ++ news))) w' ∧ Rel P w0 B ρ' ((H.set b .dead).push (.cells false ((cs.drop o).take (n * i.size) ++ news))) w' := by
                intro base sCap c d sz hbc hs' hcap ⟨olds', hlo, ho⟩
                have hlen : olds'.length = n * i.size := by rw [← hlo.1]; simp; omega
                obtain ⟨sz', k, hr, hsz', hk, hor⟩ := fresh base sCap n _ olds' hlo hlen hs' ho hcap hb h63
                have hlast : (w.drew.alloc (.cells (olds' ++ news' ++ (Builtin.zeroCells z.cells (k - (n + m))).toList).toArray el)).heap[w.heap.size]? = some (.cells (olds' ++ news' ++ (Builtin.zeroCells z.cells (k - (n + m))).toList).toArray el) := heap_alloc_new w.drew _
                have hold : ∀ q, q < w.heap.size → (w.drew.alloc (.cells (olds' ++ news' ++ (Builtin.zeroCells z.cells (k - (n + m))).toList).toArray el)).heap[q]? = w.heap[q]? := fun q hq => heap_alloc_old w.drew _ q hq
                have hmv := hR.move hbc hg (o' := .cells false ((cs.drop o).take (n * i.size) ++ news)) rfl (w' := w.drew.alloc (.cells (olds' ++ news' ++ (Builtin.zeroCells z.cells (k - (n + m))).toList).toArray el)) (c' := w.heap.size) (d' := 0) (sz' := sz')
                  rfl rfl rfl (by simp) (.inr ⟨rfl, by simp⟩) (fun q hq _ => hold q hq) (by rw [hlast]; exact hor) (fun _ => hold c (hR.blk b c d sz hbc))
                exact ⟨_, _, _, hr, .slice (d := 0) (o := 0) (Ren.upd_same ..) (by rw [hsz']; simp) hk he, hmv.2, hmv.1⟩
              rcases hs.slice_inv he0 with ⟨c, d, sz, a, hb', rfl, rfl⟩ | ⟨c, d, sz, k, hb', hk, hn, rfl⟩
              · refine grow (some a) 0 c d sz hb' rfl (by omega) ⟨[], by simpa using LRel.nil, by simp [Builtin.firstCells, loadCells, loadCellsFrom]⟩
              · have he' : 0 < i.size := by omega
                obtain ⟨cc, elc, fz, hw, hsz, hd, hfz, hl⟩ := hR.cells hb' hg
                have hfz := hfz rfl
                subst hfz
                by_cases hroom : n + m ≤ k
                · -- in its own block
                  have hmul : n * i.size + m * i.size ≤ k * i.size := by rw [← Nat.add_mul]; exact Nat.mul_le_mul_right _ hroom
                  have hst := run_storeCells_at P c (d + o + n * i.size) elc news' 0 cc w hw (by rw [hnl]; omega) hones
                  simp only [Nat.add_zero] at hst
                  have hadd : (⟨c, d + o, none⟩ : Addr).add (n * i.size) = ⟨c, d + o + n * i.size, none⟩ := Addr.add_lit _ _ _
                  have hr := append_room_run (ty := ty) ht hu hi ⟨c, d + o, none⟩ n k hrun hroom (by rw [hadd]; exact hst)
                  have hor : ORel P ρ (d + o) sz (.cells false ((cs.drop o).take (n * i.size) ++ news)) (w.setRow c (cc.toList.take (d + o + n * i.size) ++ news' ++ cc.toList.drop (d + o + n * i.size + news'.length)).toArray).heap[c]? := by
                    rw [setRow_heap w c cc _ elc (0, 0) hw]
                    have hlo : ((cs.drop o).take (n * i.size)).length = n * i.size := by simp; omega
                    refine ⟨_, elc, (0, 0), rfl, (by simp; omega), (by rw [List.length_append, hlo, hln.1, hnl]; omega), fun _ => rfl, ?_⟩
                    have hlen2 : ((cs.drop o).take (n * i.size) ++ news).length = n * i.size + m * i.size := by rw [List.length_append, hlo, hln.1, hnl]
                    rw [hlen2]
                    have e : ((cc.toList.take (d + o + n * i.size) ++ news' ++ cc.toList.drop (d + o + n * i.size + news'.length)).toArray.toList.drop (d + o)).take (n * i.size + m * i.size) = ((cc.toList.drop (d + o)).take (n * i.size)) ++ news' := by
                      have hccl : d + o + n * i.size ≤ cc.toList.length := by simp; omega
                      have e1 : (cc.toList.take (d + o + n * i.size) ++ news' ++ cc.toList.drop (d + o + n * i.size + news'.length)).toArray.toList = cc.toList.take (d + o + n * i.size) ++ (news' ++ cc.toList.drop (d + o + n * i.size + news'.length)) := by simp
                      have l1 : (cc.toList.take (d + o + n * i.size)).length = d + o + n * i.size := by rw [List.length_take]; omega
                      rw [e1, List.drop_append_of_le_length (by omega), List.drop_take]
                      have l2 : ((cc.toList.drop (d + o)).take (d + o + n * i.size - (d + o))).length = n * i.size := by rw [List.length_take, List.length_drop]; omega
                      have l3 : d + o + n * i.size - (d + o) = n * i.size := by omega
                      rw [l3] at l2 ⊢
                      rw [← List.append_assoc, List.take_append_of_le_length (by rw [List.length_append, l2, hnl]; omega), List.take_of_length_le (by rw [List.length_append, l2, hnl]; omega)]
                    rw [e]
                    refine LRel.append ?_ hln
                    have := (hl.drop o).take (n * i.size)
                    have e2 : (((cc.toList.drop d).take cs.length).drop o).take (n * i.size) = (cc.toList.drop (d + o)).take (n * i.size) := by
                      rw [List.drop_take, List.drop_drop, List.take_take]
                      congr 1
                      omega
                    rwa [e2] at this
                  have hmv := hR.move hb' hg (o' := .cells false ((cs.drop o).take (n * i.size) ++ news)) rfl (w' := w.setRow c (cc.toList.take (d + o + n * i.size) ++ news' ++ cc.toList.drop (d + o + n * i.size + news'.length)).toArray) (c' := c) (d' := d + o) (sz' := sz)
                    rfl rfl rfl (by rw [size_setRow]; exact Nat.le_refl _) (.inl ⟨rfl, size_setRow ..⟩) (fun q _ hq => setRow_other w c q _ hq) hor (fun hne => absurd rfl hne)
                  have hv2 := VRel.slice (P := P) (o := 0) (n := n + m) (e := i.size) (k := k) (Ren.upd_same ρ H.size (c, d + o, sz)) (by omega) hroom he
                  exact ⟨_, _, _, hr, hv2, hmv.2, hmv.1⟩
                · refine grow (some ⟨c, d + o, none⟩) k c d sz hb' rfl (by omega) ?_
                  by_cases hn0 : n = 0
                  · subst hn0
                    exact ⟨[], by simpa using LRel.nil, by simp [Builtin.firstCells, loadCells, loadCellsFrom]⟩
                  · have hc : pCells H b = some cs := by simp [pCells, hg]
                    have hrow2 : pRow i.size (.slice (some ⟨b, o, none⟩) n i.size) H = some (n, (cs.drop o).take (n * i.size)) := by simp [pRow, hn0, hc, hfit]
                    obtain ⟨a2, k2, olds', e2, hlo, _, _, hrd⟩ := row_run hR hrow2 (.slice hb' hk hn he')
                    cases e2
                    exact ⟨olds', hlo, hrd⟩
            · cases h
          · cases h
  · cases h
end
end Go.Proofs.YthagelbepgcolaaGreatDoor.Gst
/- Literals, make, maps. -/
namespace Go.Proofs.YthagelbepgcolaaGreatDoor.Gst
open Go Go.RowKit
set_option linter.unusedSimpArgs false
section
variable {P : Program} {w0 : World} {B : Nat} {ρ : Ren} {H : AH} {w : World}

/-! ### Zeros, and parts laid into them -/
theorem flat_get {α : Type} (l : List α) (n i : Nat) (h : i < n * l.length) : (List.replicate n l).flatten[i]? = l[i % l.length]? := by
  induction n generalizing i with
  | zero => simp at h
  | succ n ih =>
    rw [List.replicate_succ, List.flatten_cons, List.getElem?_append]
    by_cases hi : i < l.length
    · rw [if_pos hi, Nat.mod_eq_of_lt hi]
    · rw [if_neg hi, ih (i - l.length) (by rw [Nat.add_mul] at h; omega)]
      congr 1
      exact (Nat.mod_eq_sub_mod (by omega)).symm

theorem zeros_flat (z : Array Value) (n : Nat) (hz : 0 < z.size) : ((Array.range (n * z.size)).map fun x => z[x % z.size]!).toList = (List.replicate n z.toList).flatten := by
  apply List.ext_getElem?
  intro i
  by_cases hi : i < n * z.size
  · rw [flat_get z.toList n i (by simpa using hi)]
    have hm : i % z.size < z.size := Nat.mod_lt _ hz
    simp [hi, getElem!_pos, hm]
  · have hl : ((List.replicate n z.toList).flatten).length = n * z.size := by simp
    rw [List.getElem?_eq_none (by simp; omega), List.getElem?_eq_none (by rw [hl]; omega)]

theorem foldl_splice (off : Nat) : ∀ (vs : List Value) (k : Nat) (cells : List Value), off + k + vs.length ≤ cells.length →
    ((vs.zipIdx k).foldl (fun (cs : Array Value) (p : Value × Nat) => cs.setIfInBounds (off + p.2) p.1) cells.toArray).toList = splice cells (off + k) vs := by
  intro vs
  induction vs with
  | nil => intro k cells _; simp [splice]
  | cons v vs ih =>
    intro k cells h
    simp only [List.length_cons] at h
    rw [List.zipIdx_cons, List.foldl_cons]
    have e : (cells.toArray.setIfInBounds (off + k) v) = (cells.set (off + k) v).toArray := by simp
    rw [e, ih (k + 1) _ (by simp; omega)]
    unfold splice
    have e2 := list_seg_step cells (off + k) v vs (by omega)
    simp only [List.length_cons]
    rw [show off + (k + 1) = off + k + 1 from by omega]
    exact e2

theorem fill_one (cells vs : List Value) (off : Nat) (h : off + vs.length ≤ cells.length) :
    (vs.toArray.zipIdx.foldl (fun (cs : Array Value) (p : Value × Nat) => cs.setIfInBounds (off + p.2) p.1) cells.toArray) = (splice cells off vs).toArray := by
  have e := foldl_splice off vs 0 cells (by omega)
  apply Array.ext'
  simp only [Nat.add_zero] at e
  rw [← e, ← Array.foldl_toList, Array.toList_zipIdx]

theorem fill_rel (pl : Nat → Option (Nat × Nat)) : ∀ {parts : List (Nat × Value)} {parts' : List (Nat × Value)} {cells cells' out : List Value}, pFill pl cells parts = some out → LRel P ρ cells cells' →
    (parts.length = parts'.length ∧ ∀ (i : Nat) p p', parts[i]? = some p → parts'[i]? = some p' → p.1 = p'.1 ∧ VRel P ρ p.2 p'.2) → ∃ out', Instr.fill pl cells'.toArray parts' = some out'.toArray ∧ LRel P ρ out out' := by
  intro parts
  induction parts with
  | nil =>
    intro parts' cells cells' out h hl hp
    cases parts' with
    | cons => simp at hp
    | nil => simp only [pFill] at h; cases h; exact ⟨cells', by simp [Instr.fill], hl⟩
  | cons p parts ih =>
    intro parts' cells cells' out h hl hp
    cases parts' with
    | nil => simp at hp
    | cons p' parts' =>
      obtain ⟨i, v⟩ := p
      obtain ⟨i', v'⟩ := p'
      obtain ⟨hi, hv⟩ := hp.2 0 (i, v) (i', v') (by simp) (by simp)
      simp only at hi hv
      subst hi
      simp only [pFill] at h
      have h2 := Option.bind_eq_some_iff.1 h
      clear h
      obtain ⟨⟨off, size⟩, hpl, h⟩ := h2
      simp only at h
      split at h
      · rename_i hc
        have hvc := hv.cells
        have hsz : v'.cells.size = size := by have := hvc.1; simp at this; omega
        have hcl : cells'.length = cells.length := hl.1.symm
        obtain ⟨out', ho, hr⟩ := ih h (hl.splice hvc off) ⟨by simpa using hp.1, fun j q q' hq hq' => hp.2 (j + 1) q q' (by simpa using hq) (by simpa using hq')⟩
        refine ⟨out', ?_, hr⟩
        simp only [Instr.fill, hpl]
        have hcond : (v'.cells.size ≠ size || off + v'.cells.size > cells'.toArray.size) = false := by
          simp [hsz]; omega
        have hf := fill_one cells' v'.cells.toList off (by simp [hsz]; omega)
        simp only [Array.toArray_toList] at hf
        rw [hf, if_neg (by simpa using hcond)]
        exact ho
      · cases h

theorem parts_rel {ev ev' : Operand → Value} (ps : Array (Nat × Operand)) (hx : ∀ x ∈ ps.toList.map (·.2), VRel P ρ (ev x) (ev' x)) :
    (ps.toList.map fun p => (p.1, ev p.2)).length = ((ps.map fun (i, x) => (i, ev' x)).toList).length ∧
    ∀ (i : Nat) p p', (ps.toList.map fun p => (p.1, ev p.2))[i]? = some p → ((ps.map fun (i, x) => (i, ev' x)).toList)[i]? = some p' → p.1 = p'.1 ∧ VRel P ρ p.2 p'.2 := by
  refine ⟨by simp, fun i p p' hp hp' => ?_⟩
  simp only [List.getElem?_map, Option.map_eq_some_iff, Array.toList_map] at hp hp'
  obtain ⟨q, hq, rfl⟩ := hp
  obtain ⟨q', hq', rfl⟩ := hp'
  rw [hq] at hq'
  cases hq'
  exact ⟨rfl, hx _ (List.mem_map.2 ⟨q, List.mem_of_getElem? hq, rfl⟩)⟩

theorem places_run {fs : List Field} {ps : List (Nat × Nat)} (h : placesOf P fs = some ps) (w : World) : (fs.mapM (m := Sem) fun f => do pure (f.offset, ← sizeOf f.type)).run P w = .ok ps w := by
  induction fs generalizing ps with
  | nil => simp [placesOf] at h; subst h; simp
  | cons f fs ih =>
    unfold placesOf at h ih
    rw [List.mapM_cons] at h
    simp only [Option.bind_eq_bind, Option.bind_eq_some_iff, Option.pure_def, Option.some.injEq] at h
    obtain ⟨p, hp, qs, hq, rfl⟩ := h
    obtain ⟨n, hn, rfl⟩ := Option.map_eq_some_iff.1 hp
    have hi := ih hq
    rw [List.mapM_cons]
    simp only [Sem.run_bind, szOf_run hn, Result.andThen_ok, Sem.run_pure, hi]

theorem places_run' {fs : Array Field} {ps : List (Nat × Nat)} (h : placesOf P fs.toList = some ps) (w : World) : (fs.mapM (m := Sem) fun f => do pure (f.offset, ← sizeOf f.type)).run P w = .ok ps.toArray w := by
  rw [Array.mapM_eq_mapM_toList]
  simp only [Sem.run_map, places_run h, Result.andThen_ok]

theorem build_out {t : TypeId} {parts : Array (Nat × Operand)} {ev ev' : Operand → Value} (hx : ∀ x ∈ parts.toList.map (·.2), VRel P ρ (ev x) (ev' x)) {z : Value} (hz : zeroOf P t = some z) {fs : Array Field} (hu : P.underlying t = some (.struct fs))
    {ps : List (Nat × Nat)} (hps : placesOf P fs.toList = some ps) {cs : List Value} (h : pFill (ps[·]?) z.cells.toList (parts.toList.map fun p => (p.1, ev p.2)) = some cs) :
    ∃ v', (Instr.build t (parts.map fun (i, x) => (i, ev' x))).run P w = .ok v' w ∧ VRel P ρ (.agg cs.toArray) v' := by
  obtain ⟨i, hi, hzi, hlit, _⟩ := zeroOf_info hz
  obtain ⟨out', ho, hr⟩ := fill_rel _ h (LRel.of_all hlit) (parts_rel parts hx)
  refine ⟨.agg out'.toArray, ?_, hr.toAgg⟩
  have hpr := places_run' hps w
  have e : (fun i : Nat => ps.toArray[i]?) = (fun i : Nat => ps[i]?) := by funext i; simp
  simp only [Instr.build, Sem.run_bind, zeroOf_run hz, Result.andThen_ok, run_underlying hu, hpr]
  rw [e]
  simp only [Array.toArray_toList] at ho
  rw [ho]
  rfl

theorem buildArr_out {t el : TypeId} {n : Nat} {parts : Array (Nat × Operand)} {ev ev' : Operand → Value} (hx : ∀ x ∈ parts.toList.map (·.2), VRel P ρ (ev x) (ev' x)) {z : Value} (hz : zeroOf P t = some z) (hu : P.underlying t = some (.array n el))
    {e : Nat} (he : szOf P el = some e) {cs : List Value} (h : pFill (fun i => some (i * e, e)) z.cells.toList (parts.toList.map fun p => (p.1, ev p.2)) = some cs) :
    ∃ v', (Instr.build t (parts.map fun (i, x) => (i, ev' x))).run P w = .ok v' w ∧ VRel P ρ (.agg cs.toArray) v' := by
  obtain ⟨i, hi, hzi, hlit, _⟩ := zeroOf_info hz
  obtain ⟨out', ho, hr⟩ := fill_rel _ h (LRel.of_all hlit) (parts_rel parts hx)
  refine ⟨.agg out'.toArray, ?_, hr.toAgg⟩
  simp only [Instr.build, Sem.run_bind, zeroOf_run hz, Result.andThen_ok, run_underlying hu, szOf_run he]
  simp only [Array.toArray_toList] at ho
  rw [ho]
  rfl

theorem lit_flat {z : List Value} (h : z.all litV = true) (n : Nat) : LRel P ρ (List.replicate n z).flatten (List.replicate n z).flatten := by
  apply LRel.of_all
  rw [List.all_eq_true] at h ⊢
  intro x hx
  rw [List.mem_flatten] at hx
  obtain ⟨l, hl, hxl⟩ := hx
  rw [(List.mem_replicate.1 hl).2] at hxl
  exact h x hxl

theorem buildSlice_out (hR : Rel P w0 B ρ H w) {t el : TypeId} {len : Nat} {parts : Array (Nat × Operand)} {ev ev' : Operand → Value} (hx : ∀ x ∈ parts.toList.map (·.2), VRel P ρ (ev x) (ev' x)) {z : Value} (hz : zeroOf P el = some z)
    (hu : P.underlying t = some (.slice el)) {e : Nat} (he : szOf P el = some e) (h0 : 0 < e) (hze : z.cells.size = e) (hbig : len * e ≤ 2 ^ 24) {cs : List Value}
    (h : pFill (fun i => some (i * e, e)) (List.replicate len z.cells.toList).flatten (parts.toList.map fun p => (p.1, ev p.2)) = some cs) :
    ∃ v' w' ρ', (Instr.buildSlice t len (parts.map fun (i, x) => (i, ev' x))).run P w = .ok v' w' ∧ VRel P ρ' (.slice (some ⟨H.size, 0, none⟩) len e) v' ∧ Ext ρ H w ρ' (H.push (.cells false cs)) w' ∧ Rel P w0 B ρ' (H.push (.cells false cs)) w' := by
  obtain ⟨i, hi, hzi, hlit, _⟩ := zeroOf_info hz
  obtain ⟨out', ho, hr⟩ := fill_rel _ h (lit_flat hlit len) (parts_rel parts hx)
  have hzf := zeros_flat z.cells len (by omega)
  rw [hze] at hzf
  have hza : ((Array.range (len * e)).map fun x => z.cells[x % e]!) = ((List.replicate len z.cells.toList).flatten).toArray := by rw [← hzf]
  have hpush := pushCells (el := el) hR hr
  have hlo : out'.length = len * e := by
    have hfl : ∀ {parts : List (Nat × Value)} {cells out : List Value}, pFill (fun i => some (i * e, e)) cells parts = some out → out.length = cells.length := by
      intro parts
      induction parts with
      | nil => intro cells out h; simp [pFill] at h; rw [h]
      | cons p parts ih =>
        intro cells out h
        obtain ⟨i, v⟩ := p
        simp only [pFill, Option.bind_some] at h
        split at h
        · rename_i hc
          rw [ih h, splice_length]
          simp; omega
        · cases h
    rw [← hr.1, hfl h]
    simp [hze]
  refine ⟨_, _, _, ?_, .slice (d := 0) (o := 0) (sz := out'.length) (Ren.upd_same ..) (by rw [hlo]; omega) (Nat.le_refl len) h0, hpush.2, hpush.1⟩
  have hnb : ¬ (len * e > 2 ^ 24) := by omega
  by_cases hl0 : len = 0
  · subst hl0
    rw [Nat.zero_mul] at hnb
    have hr0 : (Array.range 0) = (#[] : Array Nat) := rfl
    have ho0 : (List.replicate 0 z.cells.toList).flatten.toArray = (#[] : Array Value) := rfl
    rw [ho0] at ho
    simp only [Instr.buildSlice, Sem.run_bind, run_underlying hu, Result.andThen_ok, szOf_run he, Sem.run_ite, Nat.zero_mul, hnb, if_false, Sem.run_pure, if_true, hr0, Array.map_empty, ho, newRow, run_newObj, Nat.zero_add]
    rfl
  have hne : ¬ (len * e = 0) := by
    intro h
    rcases Nat.mul_eq_zero.1 h with h | h <;> omega
  simp only [Instr.buildSlice, Sem.run_bind, run_underlying hu, Result.andThen_ok, szOf_run he, Sem.run_ite, hnb, if_false, Sem.run_pure, hne, zeroOf_run hz, hze, hza, ho, newRow, run_newObj, Nat.zero_add]
  rfl

theorem make_out (hR : Rel P w0 B ρ H w) {t el : TypeId} {l c v : Value} {H' : AH} {z : Value} {e by' : Nat} (hz : zeroOf P el = some z) (hu : P.underlying t = some (.slice el)) (he : szOf P el = some e) (hb : bytesOf' P el = some by')
    (h : pMake z.cells.toList e by' l c H = some (v, H')) {l' c' : Value} (hl : VRel P ρ l l') (hc : VRel P ρ c c') :
    ∃ v' w' ρ', (Instr.makeSlice t l' c').run P w = .ok v' w' ∧ VRel P ρ' v v' ∧ Ext ρ H w ρ' H' w' ∧ Rel P w0 B ρ' H' w' := by
  cases l <;> simp only [pMake] at h <;> try (cases h; done)
  cases c <;> simp only at h <;> try (cases h; done)
  rename_i k1 l k2 c
  split at h
  · rename_i hcond
    obtain ⟨h0, rfl, hbig, hroom, hpos, hzl⟩ := hcond
    cases h
    rw [hl.int_inv, hc.int_inv]
    obtain ⟨i, hi, hzi, hlit, _⟩ := zeroOf_info hz
    have hie : i.size = e := by
      obtain ⟨i2, hi2, h2⟩ := szOf_info he
      rw [hi] at hi2; cases hi2; exact h2
    have hib : i.bytes = by' := by
      unfold bytesOf' at hb; simpa [hi] using hb
    unfold room at hbig hroom
    have hln : l = (l.toNat : Int) := by omega
    have hbytes : (i.bytes : Int) * l ≤ 281474976710656 := by
      rw [hib, hln, ← Int.natCast_mul]
      have : by' * l.toNat ≤ 140737488355328 := by rw [Nat.mul_comm]; exact hbig
      omega
    have hrun := run_make (P := P) w t el i z hu hi hzi k1 k2 l l h0 (Int.le_refl _) hbytes (by omega)
    have hzs : z.cells.size = e := by simpa using hzl
    have hm : madeCells z.cells (l.toNat * i.size) = ((List.replicate l.toNat z.cells.toList).flatten).toArray := by
      have hzf := zeros_flat z.cells l.toNat (by omega)
      rw [hzs] at hzf
      unfold madeCells
      rw [hie, ← hzf, hzs]
    rw [hm] at hrun
    have hpush := pushCells (el := el) hR (lit_flat (P := P) (ρ := ρ) hlit l.toNat)
    exact ⟨_, _, _, hrun, .slice (d := 0) (o := 0) (Ren.upd_same ..) (by simp [hzs]) (Nat.le_refl _) hpos, hpush.2, hpush.1⟩
  · cases h
end
end Go.Proofs.YthagelbepgcolaaGreatDoor.Gst
/- Maps. -/
namespace Go.Proofs.YthagelbepgcolaaGreatDoor.Gst
open Go Go.RowKit
set_option linter.unusedSimpArgs false
section
variable {P : Program} {w0 : World} {B : Nat} {ρ : Ren} {H : AH} {w : World}

def EsRel (P : Program) (ρ : Ren) (es es' : List MapEntry) : Prop := es'.length = es.length ∧ ∀ (i : Nat) (e e' : MapEntry), es[i]? = some e → es'[i]? = some e' → ERel P ρ e e'
theorem EsRel.tail {e e' : MapEntry} {es es' : List MapEntry} (h : EsRel P ρ (e :: es) (e' :: es')) : ERel P ρ e e' ∧ EsRel P ρ es es' :=
  ⟨h.2 0 e e' rfl rfl, by simpa using h.1, fun i a a' ha ha' => h.2 (i + 1) a a' (by simpa using ha) (by simpa using ha')⟩

def FoundRel (P : Program) (ρ : Ren) : Option (Nat × Value) → Option (Nat × Value) → Prop
  | none, none => True
  | some (i, v), some (i', v') => i = i' ∧ VRel P ρ v v'
  | _, _ => False

theorem beq_bytes {a b : ByteArray} (h : (a == b) = true) : a = b := by
  rw [beq_toListBytes] at h
  have h2 : a.toList = b.toList := by simpa using h
  rw [ByteArray.toList_eq, ByteArray.toList_eq] at h2
  obtain ⟨⟨x⟩⟩ := a
  obtain ⟨⟨y⟩⟩ := b
  simp only at h2
  rw [h2]

theorem eqCells_eq : ∀ {l m : List Value}, eqCells l m = some true → l = m := by
  intro l
  induction l with
  | nil => intro m hm; cases m with
    | nil => rfl
    | cons => simp [eqCells] at hm
  | cons x l ih =>
    intro m hm
    cases m with
    | nil => cases x <;> simp [eqCells] at hm
    | cons y m =>
      cases x <;> cases y <;> simp only [eqCells] at hm <;> try (cases hm; done)
      split at hm
      · rename_i hk
        obtain ⟨r', hr', hb⟩ := Option.map_eq_some_iff.1 hm
        simp only [Bool.and_eq_true, beq_iff_eq] at hb
        obtain ⟨hab, rfl⟩ := hb
        rw [ih hr', hk, hab]
      · cases hm

theorem keyOK_rel {cl : KCls} {k k' : Value} (h : keyOK cl k = true) (hk : VRel P ρ k k') : k' = k := by
  cases cl <;> cases k <;> simp only [keyOK] at h <;> try (cases h; done)
  · exact hk.int_inv
  · exact hk.string_inv
  · rename_i n xs
    simp only [Bool.and_eq_true, beq_iff_eq] at h
    obtain ⟨ys, rfl, hs, he⟩ := hk.agg_inv
    congr 1
    apply Array.ext' 
    apply List.ext_getElem?
    intro i
    by_cases hi : i < xs.size
    · have hi' : i < ys.size := by omega
      have h1 : isIntV xs[i] = true := List.all_eq_true.1 h.2 _ (by simp)
      have h2 := he i xs[i] ys[i] (by simp [hi]) (by simp [hi'])
      simp only [Array.getElem?_toList, Array.getElem?_eq_getElem hi, Array.getElem?_eq_getElem hi']
      generalize xs[i] = x at h1 h2
      cases x <;> simp [isIntV] at h1
      rw [h2.int_inv]
    · rw [List.getElem?_eq_none (by simp; omega), List.getElem?_eq_none (by simp; omega)]

theorem keyEq_inv {cl : KCls} {a b b' : Value} {r : Bool} (h : keyEq cl a b = some r) (hb : VRel P ρ b b') : b' = b ∧ (r = true → a = b) := by
  cases cl <;> cases a <;> cases b <;> simp only [keyEq] at h <;> try (cases h; done)
  · split at h
    · rename_i hk
      subst hk
      refine ⟨hb.int_inv, fun hr => ?_⟩
      subst hr
      simpa using h
    · cases h
  · refine ⟨hb.string_inv, fun hr => ?_⟩
    subst hr
    rw [beq_bytes (Option.some.inj h)]
  · rename_i xs ys
    split at h
    · obtain ⟨ys', rfl, h3, h4⟩ := hb.agg_inv
      have hly : LRel P ρ ys.toList ys'.toList := ⟨by simpa using h3, fun i a b ha hb => h4 i a b (by simpa using ha) (by simpa using hb)⟩
      have hall : LRel P ρ xs.toList xs.toList := by
        refine LRel.of_all ?_
        have : ∀ {l m : List Value} {r : Bool}, eqCells l m = some r → l.all litV = true := by
          intro l
          induction l with
          | nil => intro m r _; rfl
          | cons x l ih =>
            intro m r hm
            cases m with
            | nil => cases x <;> simp [eqCells] at hm
            | cons y m =>
              cases x <;> cases y <;> simp only [eqCells] at hm <;> try (cases hm; done)
              split at hm
              · obtain ⟨r', hr', _⟩ := Option.map_eq_some_iff.1 hm
                simp only [List.all_cons, ih hr', Bool.and_true]; rfl
              · cases hm
        exact this h
      obtain ⟨_, e2⟩ := eqCells_rel h hall hly
      have e2 := Array.toList_inj.1 e2
      subst e2
      refine ⟨rfl, fun hr => ?_⟩
      subst hr
      rw [Array.toList_inj.1 (eqCells_eq h)]
    · cases h

theorem find_int {kk : IntKind} {k : Value} : ∀ {es es' : List MapEntry} {i : Nat} {r : Option (Nat × Value)}, findKey' .int k es i = some r → EsRel P ρ es es' →
    ∃ r', Instr.findNow (.int kk) k es' i = some r' ∧ FoundRel P ρ r r' := by
  intro es
  induction es with
  | nil =>
    intro es' i r h hes
    cases es' with
    | cons => have := hes.1; simp at this
    | nil => simp [findKey'] at h; subst h; exact ⟨none, rfl, trivial⟩
  | cons e es ih =>
    intro es' i r h hes
    cases es' with
    | nil => have := hes.1; simp at this
    | cons e' es' =>
      obtain ⟨he, hes⟩ := hes.tail
      simp only [findKey'] at h
      have h2 := Option.bind_eq_some_iff.1 h
      clear h
      obtain ⟨b, hb, h⟩ := h2
      have hk := (keyEq_inv hb he.1).1
      cases hek : e.key <;> rw [hek] at hb <;> cases k <;> simp only [keyEq] at hb <;> try (cases hb; done)
      rename_i k' y k a
      rw [hek] at hk
      split at hb
      · rename_i hkk
        subst hkk
        cases hb
        simp only [Instr.findNow, hk, Instr.sameNow, if_true]
        cases hay : (a == y)
        · rw [hay] at h; simp only [Bool.false_eq_true, if_false] at h; exact ih h hes
        · rw [hay] at h; simp only [if_true] at h; cases h; exact ⟨_, rfl, rfl, he.2.1⟩
      · cases hb

theorem find_string {k : Value} : ∀ {es es' : List MapEntry} {i : Nat} {r : Option (Nat × Value)}, findKey' .string k es i = some r → EsRel P ρ es es' →
    ∃ r', Instr.findNow .string k es' i = some r' ∧ FoundRel P ρ r r' := by
  intro es
  induction es with
  | nil =>
    intro es' i r h hes
    cases es' with
    | cons => have := hes.1; simp at this
    | nil => simp [findKey'] at h; subst h; exact ⟨none, rfl, trivial⟩
  | cons e es ih =>
    intro es' i r h hes
    cases es' with
    | nil => have := hes.1; simp at this
    | cons e' es' =>
      obtain ⟨he, hes⟩ := hes.tail
      simp only [findKey'] at h
      have h2 := Option.bind_eq_some_iff.1 h
      clear h
      obtain ⟨b, hb, h⟩ := h2
      have hk := (keyEq_inv hb he.1).1
      cases hek : e.key <;> rw [hek] at hb <;> cases k <;> simp only [keyEq] at hb <;> try (cases hb; done)
      rename_i y a
      rw [hek] at hk
      cases hb
      simp only [Instr.findNow, hk, Instr.sameNow]
      cases hay : (a == y)
      · rw [hay] at h; simp only [Bool.false_eq_true, if_false] at h; exact ih h hes
      · rw [hay] at h; simp only [if_true] at h; cases h; exact ⟨_, rfl, rfl, he.2.1⟩

theorem find_flat {kt : TypeId} {n : Nat} (hf : flatOf P kt = some n) {X : Array Value} : ∀ {es es' : List MapEntry} {i : Nat} {r : Option (Nat × Value)}, findKey' (.flat n) (.agg X) es i = some r →
    EsRel P ρ es es' → ∃ r', (Instr.findAsking kt (.agg X) es' i).run P w = .ok r' w ∧ FoundRel P ρ r r' := by
  intro es
  induction es with
  | nil =>
    intro es' i r h hes
    cases es' with
    | cons => have := hes.1; simp at this
    | nil => simp [findKey'] at h; subst h; exact ⟨none, rfl, trivial⟩
  | cons e es ih =>
    intro es' i r h hes
    cases es' with
    | nil => have := hes.1; simp at this
    | cons e' es' =>
      obtain ⟨he, hes⟩ := hes.tail
      simp only [findKey'] at h
      have h2 := Option.bind_eq_some_iff.1 h
      clear h
      obtain ⟨b, hb, h⟩ := h2
      have hk := (keyEq_inv hb he.1).1
      cases hek : e.key <;> rw [hek] at hb <;> simp only [keyEq] at hb <;> try (cases hb; done)
      rename_i Y
      rw [hek] at hk
      split at hb
      · rename_i hsz
        have hq : (Op.equal kt (.agg X) (.agg Y)).run P w = .ok b w := (flatOf_eq hf hsz.1 hsz.2 hb w).1
        simp only [Instr.findAsking, hk, Sem.run_bind, hq, Result.andThen_ok]
        cases b with
        | true => simp only [if_true] at h; cases h; exact ⟨some (i, e'.val), by simp, rfl, he.2.1⟩
        | false => simp only [Bool.false_eq_true, if_false] at h; simpa using ih h hes
      · cases hb

theorem findNow_struct {fs : Array Field} {X : Array Value} {es : List MapEntry} : Instr.findNow (.struct fs) (.agg X) es 0 = none ∨ (es = [] ∧ Instr.findNow (.struct fs) (.agg X) es 0 = some none) := by
  cases es with
  | nil => exact .inr ⟨rfl, rfl⟩
  | cons e es => left; simp [Instr.findNow, Instr.sameNow]

theorem find_run {kt : TypeId} {cl : KCls} (hcl : flatKey P kt = some cl) {k : Value} (hok : keyOK cl k = true) {es es' : List MapEntry} {r : Option (Nat × Value)} (h : findKey' cl k es 0 = some r) (hes : EsRel P ρ es es') :
    ∃ r', (Instr.findKey kt k es').run P w = .ok r' w ∧ FoundRel P ρ r r' := by
  unfold flatKey at hcl
  cases hu : P.underlying kt with
  | none => simp [hu] at hcl
  | some d =>
    cases d <;> simp only [hu] at hcl <;> try (cases hcl; done)
    case int kk =>
      cases hcl
      obtain ⟨r', h1, h2⟩ := find_int (kk := kk) h hes
      exact ⟨r', by simp [Instr.findKey, run_underlying hu, h1], h2⟩
    case string =>
      cases hcl
      obtain ⟨r', h1, h2⟩ := find_string h hes
      exact ⟨r', by simp [Instr.findKey, run_underlying hu, h1], h2⟩
    case struct fs =>
      obtain ⟨n, hf, rfl⟩ := Option.map_eq_some_iff.1 hcl
      cases k <;> simp only [keyOK] at hok <;> try (cases hok; done)
      rename_i X
      obtain ⟨r', h1, h2⟩ := find_flat (w := w) hf h hes
      refine ⟨r', ?_, h2⟩
      rcases findNow_struct (fs := fs) (X := X) (es := es') with h3 | ⟨rfl, h3⟩
      · simp [Instr.findKey, run_underlying hu, h3, h1]
      · simp only [Instr.findKey, Sem.run_bind, run_underlying hu, Result.andThen_ok, h3]
        simpa [Instr.findAsking] using h1

theorem ck_int (b : Bool) (d : Nat) {t : TypeId} {k : IntKind} (hu : P.underlying t = some (.int k)) (v : Value) (w : World) : (Instr.checkKey b (d + 1) t v).run P w = .ok () w := by
  cases v <;> simp [Instr.checkKey, run_underlying hu]
theorem ck_string (b : Bool) (d : Nat) {t : TypeId} (hu : P.underlying t = some .string) (v : Value) (w : World) : (Instr.checkKey b (d + 1) t v).run P w = .ok () w := by
  cases v <;> simp [Instr.checkKey, run_underlying hu]

/-- The fields of a key, one by one. -/
def ckLoop (b : Bool) (D : Nat) (X : Array Value) (l : List Field) : Sem Unit := do
  for f in l do
    if f.name ≠ "_" then Instr.checkKey b D f.type (← part f.type X f.offset)
theorem ck_loop (b : Bool) (D : Nat) {t : TypeId} {gs : Array Field} (hu : P.underlying t = some (.struct gs)) (X : Array Value) (w : World) : (Instr.checkKey b (D + 1) t (.agg X)).run P w = (ckLoop b D X gs.toList).run P w := by
  rw [Instr.checkKey]
  simp only [Sem.run_bind, run_underlying hu, Result.andThen_ok]
  rw [← Array.forIn_toList]
  unfold ckLoop
  simp only [Sem.run_bind]
theorem flatStep_ck (b : Bool) {sub : List Field → Option Nat} {D : Nat} {w : World} (hsub : ∀ (gs : List Field) (k : Nat) (X : Array Value), sub gs = some k → X.size = k → (ckLoop b D X gs).run P w = .ok () w) (X : Array Value) :
    ∀ {l : List Field} {i m : Nat}, flatStep P sub i l = some m → X.size = m → (ckLoop b (D + 1) X l).run P w = .ok () w := by
  intro l
  induction l with
  | nil => intro i m _ _; simp [ckLoop]
  | cons f l ih =>
    intro i m hm hXm
    simp only [flatStep] at hm
    split at hm
    · rename_i hc
      split at hm
      · rename_i k hk
        have hge := flatStep_ge hm
        have hi : X[i]? = some X[i] := by simp
        have hag : (isAgg f.type).run P w = .ok false w := by simp [isAgg, run_underlying hk]
        have hpart : (part f.type X f.offset).run P w = .ok X[i] w := by simp [part, hag, hc.2, hi]
        have ih' := ih hm hXm
        unfold ckLoop at ih' ⊢
        simp only [Sem.run_bind] at ih'
        simp only [List.forIn_cons, hc.1, ne_eq, not_false_eq_true, if_true, Sem.run_bind, hpart, Result.andThen_ok, ck_int b D hk, Sem.run_pure]
        exact ih'
      · rename_i gs hk
        split at hm
        · rename_i k hs
          split at hm
          · rename_i hcc
            have hge := flatStep_ge hm
            have hag : (isAgg f.type).run P w = .ok true w := by simp [isAgg, run_underlying hk]
            have hsz := szOf_run hcc.1 w
            have hpart : (part f.type X f.offset).run P w = .ok (.agg (X.extract i (i + k))) w := by simp [part, hag, hc.2, hsz]
            have hsub' := hsub gs.toList k (X.extract i (i + k)) hs (by rw [Array.size_extract]; omega)
            rw [← ck_loop b D hk] at hsub'
            have ih' := ih hm hXm
            unfold ckLoop at ih' ⊢
            simp only [Sem.run_bind] at ih'
            simp only [List.forIn_cons, hc.1, ne_eq, not_false_eq_true, if_true, Sem.run_bind, hpart, Result.andThen_ok, hsub', Sem.run_pure]
            exact ih'
          · cases hm
        · cases hm
      · cases hm
    · cases hm
theorem ck_flat (b : Bool) (w : World) : ∀ (e d : Nat) (X : Array Value) {l : List Field} {i m : Nat}, flatFields P e i l = some m → X.size = m → (ckLoop b (d + e + 1) X l).run P w = .ok () w := by
  intro e
  induction e with
  | zero => intro d X l i m h hX; exact flatStep_ck b (D := d) (fun gs k X h => by cases h) X h hX
  | succ e ih => intro d X l i m h hX; exact flatStep_ck b (D := d + e + 1) (fun gs k X h hX => ih d X h hX) X h hX

theorem check_run {kt : TypeId} {cl : KCls} (hcl : flatKey P kt = some cl) {k : Value} (hok : keyOK cl k = true) (b : Bool) (w : World) : (Instr.checkKey b 10000 kt k).run P w = .ok () w := by
  unfold flatKey at hcl
  cases hu : P.underlying kt with
  | none => simp [hu] at hcl
  | some d =>
    cases d <;> simp only [hu] at hcl <;> try (cases hcl; done)
    case int kk => exact ck_int b 9999 hu k w
    case string => exact ck_string b 9999 hu k w
    case struct fs =>
      obtain ⟨n, hf, rfl⟩ := Option.map_eq_some_iff.1 hcl
      cases k <;> simp only [keyOK] at hok <;> try (cases hok; done)
      rename_i X
      simp only [Bool.and_eq_true, beq_iff_eq] at hok
      unfold flatOf at hf
      simp only [hu] at hf
      split at hf
      · rw [show (10000 : Nat) = 9999 + 1 from rfl, ck_loop b 9999 hu]
        exact ck_flat b w 2 9996 X hf hok.1
      · cases hf
end
end Go.Proofs.YthagelbepgcolaaGreatDoor.Gst
