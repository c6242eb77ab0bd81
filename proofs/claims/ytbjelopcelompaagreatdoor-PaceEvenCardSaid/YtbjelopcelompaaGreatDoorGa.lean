/- The abstract heap, and what it means that a world is one of its shapes: no program in sight. -/
import Derived.Calls
import Derived.Orders
import Derived.Below
import Derived.Laws.Entries
import Derived.Laws.Cells
import Derived.Laws.CopyRow
import Derived.Laws.Append
import Derived.Laws.AppendOwn
import Derived.Laws.MakeOwn
import Derived.Laws.StructEq
import Derived.Laws.Pointers
import Derived.Laws.Slices
import Derived.Laws.Strings
import Derived.Deep.LoopGhost
namespace Go.Proofs.YtbjelopcelompaaGreatDoor.Gst
open Go Go.RowKit

/-! ### The abstract heap -/

/-- A block: cells (that may be written, or not), a map, or one that nobody asks any more. -/
inductive AObj where
  | cells (ro : Bool) (cs : List Value)
  | map (es : List MapEntry) (clock : Nat)
  | dead

def AObj.rw : AObj → Bool
  | .cells false _ => true
  | .map _ _ => true
  | _ => false

structure AH where
  objs : List AObj

def AH.size (H : AH) : Nat := H.objs.length
def AH.get (H : AH) (b : Nat) : Option AObj := H.objs[b]?
def AH.set (H : AH) (b : Nat) (o : AObj) : AH := ⟨H.objs.set b o⟩
def AH.push (H : AH) (o : AObj) : AH := ⟨H.objs ++ [o]⟩

theorem AH.size_set (H : AH) (b : Nat) (o : AObj) : (H.set b o).size = H.size := by simp [AH.size, AH.set]
theorem AH.size_push (H : AH) (o : AObj) : (H.push o).size = H.size + 1 := by simp [AH.size, AH.push]
theorem AH.lt_of_get {H : AH} {b : Nat} {o : AObj} (h : H.get b = some o) : b < H.size := by
  unfold AH.get at h; unfold AH.size
  exact (List.getElem?_eq_some_iff.1 h).1
theorem AH.get_none {H : AH} {b : Nat} (h : H.size ≤ b) : H.get b = none := by
  unfold AH.get; unfold AH.size at h; exact List.getElem?_eq_none h
theorem AH.get_push (H : AH) (o : AObj) (b : Nat) : (H.push o).get b = if b = H.size then some o else H.get b := by
  unfold AH.get AH.push AH.size
  by_cases h : b = H.objs.length
  · subst h; simp
  · rw [if_neg h]
    by_cases hl : b < H.objs.length
    · rw [List.getElem?_append_left hl]
    · rw [List.getElem?_append_right (by omega), List.getElem?_eq_none (by simp; omega), List.getElem?_eq_none (by omega)]
theorem AH.get_set (H : AH) (b : Nat) (o : AObj) (b' : Nat) : (H.set b o).get b' = if b' = b then (if b < H.size then some o else none) else H.get b' := by
  unfold AH.get AH.set AH.size
  rw [List.getElem?_set]
  by_cases h : b = b'
  · subst h; simp
  · rw [if_neg h, if_neg (fun e => h e.symm)]
theorem AH.get_set_ne {H : AH} {b : Nat} {o : AObj} {b' : Nat} (h : b' ≠ b) : (H.set b o).get b' = H.get b' := by rw [AH.get_set, if_neg h]
theorem AH.get_set_eq {H : AH} {b : Nat} {o : AObj} (h : b < H.size) : (H.set b o).get b = some o := by rw [AH.get_set, if_pos rfl, if_pos h]
theorem AH.get_push_old {H : AH} {o : AObj} {b : Nat} (h : b < H.size) : (H.push o).get b = H.get b := by rw [AH.get_push, if_neg (by omega)]
theorem AH.get_push_new (H : AH) (o : AObj) : (H.push o).get H.size = some o := by rw [AH.get_push, if_pos rfl]

/-! ### Values -/

/-- A value without an address in it, and without parts. -/
def litV : Value → Bool
  | .bool _ | .int _ _ | .float _ _ | .complex _ _ _ | .string _ | .pointer none | .slice none _ _ | .map none | .chan none | .nilFunc | .nilIface => true
  | _ => false

/-- A constant of the text. -/
def constV : Value → Bool
  | .agg cs => cs.toList.all litV
  | .tuple cs => cs.toList.all litV
  | v => litV v

/-- Of an abstract block the block that it stands for, where it begins there, and how many cells that block has. -/
abbrev Ren := Nat → Option (Nat × Nat × Nat)

def Ren.upd (ρ : Ren) (b : Nat) (x : Nat × Nat × Nat) : Ren := fun i => if i = b then some x else ρ i

/-- An abstract value, and a value of the run: an abstract slice bears the number of cells of an element where a slice has its capacity (0: it has no room at all). -/
inductive VRel (P : Program) (ρ : Ren) : Value → Value → Prop
  | lit {v : Value} (h : litV v = true) : VRel P ρ v v
  | ptr {b o c d sz : Nat} (h : ρ b = some (c, d, sz)) : VRel P ρ (.pointer (some ⟨b, o, none⟩)) (.pointer (some ⟨c, d + o, none⟩))
  | slice {b o n e c d sz k : Nat} (h : ρ b = some (c, d, sz)) (hk : d + o + k * e ≤ sz) (hn : n ≤ k) (he : 0 < e) :
      VRel P ρ (.slice (some ⟨b, o, none⟩) n e) (.slice (some ⟨c, d + o, none⟩) n k)
  | slice0 {b o e c d sz : Nat} {a : Addr} (h : ρ b = some (c, d, sz)) : VRel P ρ (.slice (some ⟨b, o, none⟩) 0 e) (.slice (some a) 0 0)
  | empty {b o : Nat} {a : Addr} : VRel P ρ (.slice (some ⟨b, o, none⟩) 0 0) (.slice (some a) 0 0)
  | map {b c d sz : Nat} (h : ρ b = some (c, d, sz)) : VRel P ρ (.map (some b)) (.map (some c))
  | func {fn : Fn} {f f' c c' : Array Value} (hf : f.size = f'.size) (hfe : ∀ (i : Nat) (x y : Value), f[i]? = some x → f'[i]? = some y → VRel P ρ x y)
      (hc : c.size = c'.size) (hce : ∀ (i : Nat) (x y : Value), c[i]? = some x → c'[i]? = some y → VRel P ρ x y) : VRel P ρ (.func fn f c) (.func fn f' c')
  | iface {t : TypeId} {v v' : Value} (h : VRel P ρ v v') : VRel P ρ (.iface t v) (.iface t v')
  | agg {xs ys : Array Value} (hs : xs.size = ys.size) (he : ∀ (i : Nat) (x y : Value), xs[i]? = some x → ys[i]? = some y → VRel P ρ x y) : VRel P ρ (.agg xs) (.agg ys)
  | tuple {xs ys : Array Value} (hs : xs.size = ys.size) (he : ∀ (i : Nat) (x y : Value), xs[i]? = some x → ys[i]? = some y → VRel P ρ x y) : VRel P ρ (.tuple xs) (.tuple ys)

theorem VRel.mono {P : Program} {ρ ρ' : Ren} (hle : ∀ b x, ρ b = some x → ρ' b = some x) {v v' : Value} (h : VRel P ρ v v') : VRel P ρ' v v' := by
  induction h with
  | lit h => exact .lit h
  | ptr h => exact .ptr (hle _ _ h)
  | slice h hk hn he => exact .slice (hle _ _ h) hk hn he
  | slice0 h => exact .slice0 (hle _ _ h)
  | empty => exact .empty
  | map h => exact .map (hle _ _ h)
  | func hf _ hc _ ih1 ih2 => exact .func hf ih1 hc ih2
  | iface _ ih => exact .iface ih
  | agg hs _ ih => exact .agg hs ih
  | tuple hs _ ih => exact .tuple hs ih

theorem VRel.slice_inv {P : Program} {ρ : Ren} {b o n e : Nat} {s' : Value} (h : VRel P ρ (.slice (some ⟨b, o, none⟩) n e) s') (he : e ≠ 0) :
    (∃ c d sz a, ρ b = some (c, d, sz) ∧ n = 0 ∧ s' = .slice (some a) 0 0) ∨ ∃ c d sz k, ρ b = some (c, d, sz) ∧ d + o + k * e ≤ sz ∧ n ≤ k ∧ s' = .slice (some ⟨c, d + o, none⟩) n k := by
  cases h with
  | lit h => simp [litV] at h
  | slice h hk hn he => exact .inr ⟨_, _, _, _, h, hk, hn, rfl⟩
  | slice0 h => exact .inl ⟨_, _, _, _, h, rfl, rfl⟩
  | empty => exact absurd rfl he

theorem VRel.const {P : Program} {ρ : Ren} {v : Value} (h : constV v = true) : VRel P ρ v v := by
  have all : ∀ cs : Array Value, cs.toList.all litV = true → ∀ (i : Nat) (x y : Value), cs[i]? = some x → cs[i]? = some y → VRel P ρ x y := by
    intro cs hcs i x y hx hy
    rw [hx] at hy
    cases hy
    have hm : x ∈ cs.toList := by
      have := Array.mem_of_getElem? hx
      simpa using this
    exact .lit (List.all_eq_true.1 hcs x hm)
  cases v <;> first
    | exact .lit h
    | exact .agg rfl (all _ h)
    | exact .tuple rfl (all _ h)

theorem VRel.undef {P : Program} {ρ : Ren} : VRel P ρ undef undef := .tuple rfl (fun i x y hx _ => by simp at hx)

/-- Two lists of values, one by one. -/
def LRel (P : Program) (ρ : Ren) (xs ys : List Value) : Prop := xs.length = ys.length ∧ ∀ (i : Nat) (x y : Value), xs[i]? = some x → ys[i]? = some y → VRel P ρ x y

theorem LRel.mono {P : Program} {ρ ρ' : Ren} (hle : ∀ b x, ρ b = some x → ρ' b = some x) {xs ys : List Value} (h : LRel P ρ xs ys) : LRel P ρ' xs ys :=
  ⟨h.1, fun i x y hx hy => (h.2 i x y hx hy).mono hle⟩
theorem LRel.nil {P : Program} {ρ : Ren} : LRel P ρ [] [] := ⟨rfl, fun _ _ _ h => by simp at h⟩
theorem LRel.cons {P : Program} {ρ : Ren} {x y : Value} {xs ys : List Value} (h : VRel P ρ x y) (hs : LRel P ρ xs ys) : LRel P ρ (x :: xs) (y :: ys) := by
  refine ⟨by simp [hs.1], fun i a b ha hb => ?_⟩
  cases i with
  | zero => simp at ha hb; subst ha; subst hb; exact h
  | succ i => simp at ha hb; exact hs.2 i a b ha hb
theorem LRel.append {P : Program} {ρ : Ren} {xs ys xs' ys' : List Value} (h : LRel P ρ xs ys) (h' : LRel P ρ xs' ys') : LRel P ρ (xs ++ xs') (ys ++ ys') := by
  refine ⟨by simp [h.1, h'.1], fun i a b ha hb => ?_⟩
  have hl := h.1
  rw [List.getElem?_append] at ha hb
  by_cases hi : i < xs.length
  · rw [if_pos hi] at ha; rw [if_pos (by omega)] at hb; exact h.2 i a b ha hb
  · rw [if_neg hi] at ha; rw [if_neg (by omega)] at hb
    rw [← hl] at hb
    exact h'.2 _ a b ha hb
theorem LRel.take {P : Program} {ρ : Ren} {xs ys : List Value} (h : LRel P ρ xs ys) (n : Nat) : LRel P ρ (xs.take n) (ys.take n) := by
  refine ⟨by simp [h.1], fun i a b ha hb => ?_⟩
  rw [List.getElem?_take] at ha hb
  by_cases hi : i < n
  · rw [if_pos hi] at ha hb; exact h.2 i a b ha hb
  · rw [if_neg hi] at ha; cases ha
theorem LRel.drop {P : Program} {ρ : Ren} {xs ys : List Value} (h : LRel P ρ xs ys) (n : Nat) : LRel P ρ (xs.drop n) (ys.drop n) := by
  refine ⟨by simp [h.1], fun i a b ha hb => ?_⟩
  rw [List.getElem?_drop] at ha hb
  exact h.2 _ a b ha hb
theorem LRel.set {P : Program} {ρ : Ren} {xs ys : List Value} (h : LRel P ρ xs ys) (n : Nat) {x y : Value} (hx : VRel P ρ x y) : LRel P ρ (xs.set n x) (ys.set n y) := by
  refine ⟨by simp [h.1], fun i a b ha hb => ?_⟩
  rw [List.getElem?_set] at ha hb
  by_cases hi : n = i
  · rw [if_pos hi] at ha hb
    have := h.1
    split at ha <;> split at hb <;> first | (cases ha; cases hb; exact hx) | omega | cases ha
  · rw [if_neg hi] at ha hb; exact h.2 i a b ha hb
theorem LRel.get {P : Program} {ρ : Ren} {xs ys : List Value} (h : LRel P ρ xs ys) {i : Nat} {x : Value} (hx : xs[i]? = some x) : ∃ y, ys[i]? = some y ∧ VRel P ρ x y := by
  have hi := (List.getElem?_eq_some_iff.1 hx).1
  have hy : i < ys.length := by have := h.1; omega
  exact ⟨ys[i], List.getElem?_eq_getElem hy, h.2 i x _ hx (List.getElem?_eq_getElem hy)⟩
theorem LRel.of_all {P : Program} {ρ : Ren} {xs : List Value} (h : xs.all litV = true) : LRel P ρ xs xs :=
  ⟨rfl, fun i x y hx hy => by
    rw [hx] at hy; cases hy
    exact .lit (List.all_eq_true.1 h x (List.mem_of_getElem? hx))⟩

/-- The cells of a value. -/
theorem VRel.cells {P : Program} {ρ : Ren} {v v' : Value} (h : VRel P ρ v v') : LRel P ρ v.cells.toList v'.cells.toList := by
  have one : ∀ {v v' : Value}, VRel P ρ v v' → LRel P ρ [v] [v'] := fun h => LRel.cons h LRel.nil
  cases h with
  | lit h =>
    cases v <;> first | exact one (.lit h) | (simp [litV] at h)
  | agg hs he =>
    exact ⟨by simpa [Value.cells] using hs, fun i x y hx hy => he i x y (by simpa [Value.cells] using hx) (by simpa [Value.cells] using hy)⟩
  | ptr h => exact one (.ptr h)
  | slice h hk hn he => exact one (.slice h hk hn he)
  | slice0 h => exact one (.slice0 h)
  | empty => exact one .empty
  | map h => exact one (.map h)
  | func hf h1 hc h2 => exact one (.func hf h1 hc h2)
  | iface h => exact one (.iface h)
  | tuple hs he => exact one (.tuple hs he)

theorem VRel.oneCell {P : Program} {ρ : Ren} {v v' : Value} (h : VRel P ρ v v') : v.oneCell' = v'.oneCell' := by
  cases h <;> rfl

/-! ### Worlds -/

def ERel (P : Program) (ρ : Ren) (e e' : MapEntry) : Prop := VRel P ρ e.key e'.key ∧ VRel P ρ e.val e'.val ∧ e.born = e'.born

/-- A block of the run is as the abstract one says. -/
def ORel (P : Program) (ρ : Ren) (d sz : Nat) (o : AObj) (x : Option Obj) : Prop :=
  match o with
  | .dead => True
  | .cells ro cs => ∃ cc el fz, x = some (.cells cc el fz) ∧ cc.size = sz ∧ d + cs.length ≤ sz ∧ (ro = false → fz = (0, 0)) ∧ LRel P ρ cs ((cc.toList.drop d).take cs.length)
  | .map es clock => ∃ es', x = some (.map es' clock) ∧ es'.size = es.length ∧ ∀ (i : Nat) (e e' : MapEntry), es[i]? = some e → es'[i]? = some e' → ERel P ρ e e'

theorem ORel.mono {P : Program} {ρ ρ' : Ren} (hle : ∀ b x, ρ b = some x → ρ' b = some x) {d sz : Nat} {o : AObj} {x : Option Obj} (h : ORel P ρ d sz o x) : ORel P ρ' d sz o x := by
  cases o with
  | dead => trivial
  | cells ro cs =>
    obtain ⟨cc, el, fz, h1, h2, h3, h4, h5⟩ := h
    exact ⟨cc, el, fz, h1, h2, h3, h4, h5.mono hle⟩
  | map es clock =>
    obtain ⟨es', h1, h2, h3⟩ := h
    exact ⟨es', h1, h2, fun i e e' he he' => let ⟨a, b, c⟩ := h3 i e e' he he'; ⟨a.mono hle, b.mono hle, c⟩⟩

/-- The world is of the abstract heap's shape: what was there below B is as it was. -/
structure Rel (P : Program) (w0 : World) (B : Nat) (ρ : Ren) (H : AH) (w : World) : Prop where
  base : B ≤ w0.heap.size
  below : Below B w0 w
  dom : ∀ b x, ρ b = some x → b < H.size
  blk : ∀ b c d sz, ρ b = some (c, d, sz) → c < w.heap.size
  obj : ∀ b c d sz o, ρ b = some (c, d, sz) → H.get b = some o → ORel P ρ d sz o w.heap[c]?
  own : ∀ b c d sz o, ρ b = some (c, d, sz) → H.get b = some o → o.rw = true → B ≤ c
  ro : ∀ b c d sz cs, ρ b = some (c, d, sz) → H.get b = some (.cells true cs) → c < B
  inj : ∀ b b' c d d' sz sz' o o', ρ b = some (c, d, sz) → ρ b' = some (c, d', sz') → H.get b = some o → H.get b' = some o' → o.rw = true → o'.rw = true → b = b'

/-- What a piece of the run may do. -/
structure Ext (ρ : Ren) (H : AH) (w : World) (ρ' : Ren) (H' : AH) (w' : World) : Prop where
  le : ∀ b x, ρ b = some x → ρ' b = some x
  fresh : ∀ b x, ρ' b = some x → ρ b = none → H.size ≤ b ∧ b < H'.size
  hsize : H.size ≤ H'.size
  wsize : w.heap.size ≤ w'.heap.size
  keepA : ∀ b, b < H.size → ρ b = none → H'.get b = H.get b
  keepRo : ∀ b o, H.get b = some o → o.rw = false → H'.get b = some o
  keepC : ∀ c, c < w.heap.size → (∀ b d sz o, ρ b = some (c, d, sz) → H.get b = some o → o.rw = false) → w'.heap[c]? = w.heap[c]?
  newC : ∀ b c d sz, ρ' b = some (c, d, sz) → ρ b = none → w.heap.size ≤ c ∨ ∃ b0 d0 sz0 o, ρ b0 = some (c, d0, sz0) ∧ H.get b0 = some o ∧ o.rw = true

theorem Ext.refl (ρ : Ren) (H : AH) (w : World) : Ext ρ H w ρ H w where
  le := fun _ _ h => h
  fresh := fun b x h hn => by rw [hn] at h; cases h
  hsize := Nat.le_refl _
  wsize := Nat.le_refl _
  keepA := fun _ _ _ => rfl
  keepRo := fun _ _ h _ => h
  keepC := fun _ _ _ => rfl
  newC := fun b c d sz h hn => by rw [hn] at h; cases h

theorem Ext.trans {P : Program} {w0 : World} {B : Nat} {ρ ρ1 ρ2 : Ren} {H H1 H2 : AH} {w w1 w2 : World} (hr : Rel P w0 B ρ H w)
    (h : Ext ρ H w ρ1 H1 w1) (k : Ext ρ1 H1 w1 ρ2 H2 w2) : Ext ρ H w ρ2 H2 w2 where
  le := fun b x hb => k.le b x (h.le b x hb)
  fresh := fun b x hb hn => by
    cases h1 : ρ1 b with
    | none => have := k.fresh b x hb h1; have := h.hsize; omega
    | some y => have := h.fresh b y h1 hn; have := k.hsize; omega
  hsize := Nat.le_trans h.hsize k.hsize
  wsize := Nat.le_trans h.wsize k.wsize
  keepA := fun b hb hn => by
    have h1 : ρ1 b = none := by
      cases h1 : ρ1 b with
      | none => rfl
      | some y => have := h.fresh b y h1 hn; omega
    rw [k.keepA b (by have := h.hsize; omega) h1, h.keepA b hb hn]
  keepRo := fun b o ho hrw => k.keepRo b o (h.keepRo b o ho hrw) hrw
  keepC := fun c hc hf => by
    have e1 := h.keepC c hc hf
    rw [← e1]
    refine k.keepC c (Nat.lt_of_lt_of_le hc h.wsize) ?_
    intro b d sz o hb ho
    cases hn : ρ b with
    | some y =>
      have hy : y = (c, d, sz) := by have := h.le b y hn; rw [hb] at this; exact (Option.some.inj this).symm
      subst hy
      cases hH : H.get b with
      | some o1 =>
        have h2 := hf b d sz o1 hn hH
        have h3 := h.keepRo b o1 hH h2
        rw [ho] at h3
        cases h3
        exact h2
      | none =>
        have h4 := hr.dom b _ hn
        unfold AH.get at hH; unfold AH.size at h4
        rw [List.getElem?_eq_none_iff] at hH
        omega
    | none =>
      rcases h.newC b c d sz hb hn with h3 | ⟨b0, d0, sz0, o0, h3, h4, h5⟩
      · omega
      · have := hf b0 d0 sz0 o0 h3 h4; rw [h5] at this; cases this
  newC := fun b c d sz hb hn => by
    cases h1 : ρ1 b with
    | some y =>
      have hy : y = (c, d, sz) := by have := k.le b y h1; rw [hb] at this; exact (Option.some.inj this).symm
      subst hy
      exact h.newC b c d sz h1 hn
    | none =>
      rcases k.newC b c d sz hb h1 with h3 | ⟨b0, d0, sz0, o0, h3, h4, h5⟩
      · exact .inl (Nat.le_trans h.wsize h3)
      · cases h6 : ρ b0 with
        | none =>
          rcases h.newC b0 c d0 sz0 h3 h6 with h7 | h7
          · exact .inl h7
          · exact .inr h7
        | some y =>
          have hy : y = (c, d0, sz0) := by have := h.le b0 y h6; rw [h3] at this; exact (Option.some.inj this).symm
          subst hy
          cases hH : H.get b0 with
          | none =>
            have h8 := hr.dom b0 _ h6
            unfold AH.get at hH; unfold AH.size at h8
            rw [List.getElem?_eq_none_iff] at hH
            omega
          | some o1 =>
            refine .inr ⟨b0, d0, sz0, o1, h6, hH, ?_⟩
            cases hrw : o1.rw with
            | true => rfl
            | false =>
              have := h.keepRo b0 o1 hH hrw
              rw [h4] at this
              cases this
              rw [h5] at hrw
              cases hrw

/-- A draw changes nothing. -/
theorem Rel.drew {P : Program} {w0 : World} {B : Nat} {ρ : Ren} {H : AH} {w : World} (h : Rel P w0 B ρ H w) : Rel P w0 B ρ H w.drew :=
  { h with below := h.below.drew }
theorem Ext.drew {ρ ρ' : Ren} {H H' : AH} {w w' : World} (h : Ext ρ H w ρ' H' w') : Ext ρ H w ρ' H' w'.drew := { h with }
theorem Ext.drew0 (ρ : Ren) (H : AH) (w : World) : Ext ρ H w ρ H w.drew := (Ext.refl ρ H w).drew
theorem Ext.of_drew {ρ ρ' : Ren} {H H' : AH} {w w' : World} (h : Ext ρ H w.drew ρ' H' w') : Ext ρ H w ρ' H' w' := { h with }

end Go.Proofs.YtbjelopcelompaaGreatDoor.Gst
