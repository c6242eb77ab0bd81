/- Several texts in one. -/
import Derived.Calls
import Derived.Orders
import Derived.Below
import Derived.Laws.Entries
import Derived.Laws.Cells
import Derived.Laws.CopyRow
import Derived.Laws.Append
import Derived.Laws.AppendOwn
import Derived.Laws.MakeOwn
import Derived.Laws.StructEq
import Derived.Laws.Pointers
import Derived.Laws.Slices
import Derived.Laws.Strings
import Derived.Deep.LoopGhost
import Derived.Test.YthagelbepgcolaaGreatDoorRows
namespace Go.Proofs.YthagelbepgcolaaGreatDoor.Gst
open Go Go.RowKit
set_option linter.unusedVariables false
set_option linter.unusedSimpArgs false
abbrev ai := @Option.bind_eq_some_iff
abbrev au := @Option.map_eq_some_iff
abbrev na := @List.getElem?_eq_getElem
abbrev Ab := @List.getElem?_eq_some_iff
abbrev W9 := @List.getElem?_map
abbrev cT := @List.length_append
abbrev aB := @Option.bind_some
abbrev dN := @List.length_map
abbrev Ec := @List.length_set
abbrev dZ := @decide_eq_true
abbrev gm := @decide_eq_false
abbrev Ac := @List.map_append
abbrev ff := @Option.map_some
abbrev Mj := @List.mem_cons
abbrev kT := @Option.some.inj
abbrev N7 := @Int.toNat_natCast
abbrev tY := @List.getElem_mem
abbrev lS := @Nat.le_trans
abbrev cr := @Nat.le_refl
inductive AObj where
 | cells (ro : Bool) (cs : List Value)
 | map (es : List MapEntry) (clock : Nat)
 | dead
def AObj.rw : AObj → Bool
 | .cells false _ => true
 | .map _ _ => true
 | _ => false
structure AH where
 objs : List AObj
def AH.size (H : AH) : Nat := H.objs.length
def AH.get (H : AH) (b : Nat) : Option AObj := H.objs[b]?
def AH.set (H : AH) (b : Nat) (o : AObj) : AH := ⟨H.objs.set b o⟩
def AH.push (H : AH) (o : AObj) : AH := ⟨H.objs ++ [o]⟩
theorem AH.size_set (H : AH) (b : Nat) (o : AObj) : (H.set b o).size = H.size := by simp [AH.size, AH.set]
theorem AH.size_push (H : AH) (o : AObj) : (H.push o).size = H.size + 1 := by simp [AH.size, AH.push]
theorem AH.lt_of_get {H : AH} {b : Nat} {o : AObj} (h : H.get b = some o) : b < H.size := by
 unfold AH.get at h; unfold AH.size;exact (Ab.1 h).1
theorem AH.get_none {H : AH} {b : Nat} (h : H.size ≤ b) : H.get b = none := by
 unfold AH.get; unfold AH.size at h; exact List.getElem?_eq_none h
theorem AH.get_push (H : AH) (o : AObj) (b : Nat) : (H.push o).get b = if b = H.size then some o else H.get b := by
 unfold AH.get AH.push AH.size
 by_cases h : b = H.objs.length
 ·subst h; simp
 ·rw [if_neg h]
  by_cases hl : b < H.objs.length
  ·rw [List.getElem?_append_left hl]
  ·rw [List.getElem?_append_right (by omega), List.getElem?_eq_none (by simp; omega), List.getElem?_eq_none (by omega)]
theorem AH.get_set (H : AH) (b : Nat) (o : AObj) (b' : Nat) : (H.set b o).get b' = if b' = b then (if b < H.size then some o else none) else H.get b' := by
 unfold AH.get AH.set AH.size;rw [List.getElem?_set]
 by_cases h : b = b'
 ·subst h; simp
 ·rw [if_neg h, if_neg (fun e => h e.symm)]
theorem AH.get_set_ne {H : AH} {b : Nat} {o : AObj} {b' : Nat} (h : b' ≠ b) : (H.set b o).get b' = H.get b' := by rw [AH.get_set, if_neg h]
theorem AH.get_set_eq {H : AH} {b : Nat} {o : AObj} (h : b < H.size) : (H.set b o).get b = some o := by rw [AH.get_set, if_pos rfl, if_pos h]
theorem AH.get_push_old {H : AH} {o : AObj} {b : Nat} (h : b < H.size) : (H.push o).get b = H.get b := by rw [AH.get_push, if_neg (by omega)]
theorem AH.get_push_new (H : AH) (o : AObj) : (H.push o).get H.size = some o := by rw [AH.get_push, if_pos rfl]
def cO : Value → Bool
 | .bool _ | .int _ _ | .float _ _ | .complex _ _ _ | .string _ | .pointer none | .slice none _ _ | .map none | .chan none | .nilFunc | .nilIface => true
 | _ => false
def BV : Value → Bool
 | .agg cs => cs.toList.all cO
 | .tuple cs => cs.toList.all cO
 | v => cO v
abbrev aV := Nat → Option (Nat × Nat × Nat)
def aV.upd (ρ : aV) (b : Nat) (x : Nat × Nat × Nat) : aV := fun i => if i = b then some x else ρ i
inductive VRel (P : Program) (ρ : aV) : Value → Value → Prop
 | lit {v : Value} (h : cO v = true) : VRel P ρ v v
 | ptr {b o c d sz : Nat} (h : ρ b = some (c, d, sz)) : VRel P ρ (.pointer (some ⟨b, o, none⟩)) (.pointer (some ⟨c, d + o, none⟩))
 | slice {b o n e c d sz k : Nat} (h : ρ b = some (c, d, sz)) (hk : d + o + k * e ≤ sz) (hn : n ≤ k) (he : 0 < e) :
  VRel P ρ (.slice (some ⟨b, o, none⟩) n e) (.slice (some ⟨c, d + o, none⟩) n k)
 | slice0 {b o e c d sz : Nat} {a : Addr} (h : ρ b = some (c, d, sz)) : VRel P ρ (.slice (some ⟨b, o, none⟩) 0 e) (.slice (some a) 0 0)
 | empty {b o : Nat} {a : Addr} : VRel P ρ (.slice (some ⟨b, o, none⟩) 0 0) (.slice (some a) 0 0)
 | map {b c d sz : Nat} (h : ρ b = some (c, d, sz)) : VRel P ρ (.map (some b)) (.map (some c))
 | func {fn : Fn} {f f' c c' : Array Value} (hf : f.size = f'.size) (hfe : ∀ (i : Nat) (x y : Value), f[i]? = some x → f'[i]? = some y → VRel P ρ x y)
  (hc : c.size = c'.size) (hce : ∀ (i : Nat) (x y : Value), c[i]? = some x → c'[i]? = some y → VRel P ρ x y) : VRel P ρ (.func fn f c) (.func fn f' c')
 | iface {t : TypeId} {v v' : Value} (h : VRel P ρ v v') : VRel P ρ (.iface t v) (.iface t v')
 | agg {xs ys : Array Value} (hs : xs.size = ys.size) (he : ∀ (i : Nat) (x y : Value), xs[i]? = some x → ys[i]? = some y → VRel P ρ x y) : VRel P ρ (.agg xs) (.agg ys)
 | tuple {xs ys : Array Value} (hs : xs.size = ys.size) (he : ∀ (i : Nat) (x y : Value), xs[i]? = some x → ys[i]? = some y → VRel P ρ x y) : VRel P ρ (.tuple xs) (.tuple ys)
theorem VRel.mono {P : Program} {ρ ρ' : aV} (hle : ∀ b x, ρ b = some x → ρ' b = some x) {v v' : Value} (h : VRel P ρ v v') : VRel P ρ' v v' := by
 induction h with
 | lit h => exact .lit h
 | ptr h => exact .ptr (hle _ _ h)
 | slice h hk hn he => exact .slice (hle _ _ h) hk hn he
 | slice0 h => exact .slice0 (hle _ _ h)
 | empty => exact .empty
 | map h => exact .map (hle _ _ h)
 | func hf _ hc _ ih1 ih2 => exact .func hf ih1 hc ih2
 | iface _ ih => exact .iface ih
 | agg hs _ ih => exact .agg hs ih
 | tuple hs _ ih => exact .tuple hs ih
theorem VRel.slice_inv {P : Program} {ρ : aV} {b o n e : Nat} {s' : Value} (h : VRel P ρ (.slice (some ⟨b, o, none⟩) n e) s') (he : e ≠ 0) :
 (∃ c d sz a, ρ b = some (c, d, sz) ∧ n = 0 ∧ s' = .slice (some a) 0 0) ∨ ∃ c d sz k, ρ b = some (c, d, sz) ∧ d + o + k * e ≤ sz ∧ n ≤ k ∧ s' = .slice (some ⟨c, d + o, none⟩) n k := by
 cases h with
 | lit h => simp [cO] at h
 | slice h hk hn he => exact .inr ⟨_, _, _, _, h, hk, hn, rfl⟩
 | slice0 h => exact .inl ⟨_, _, _, _, h, rfl, rfl⟩
 | empty => exact absurd rfl he
theorem VRel.const {P : Program} {ρ : aV} {v : Value} (h : BV v = true) : VRel P ρ v v := by
 have all : ∀ cs : Array Value, cs.toList.all cO = true → ∀ (i : Nat) (x y : Value), cs[i]? = some x → cs[i]? = some y → VRel P ρ x y := by
  intro cs hcs i x y hx hy;rw [hx] at hy;cases hy
  have hm : x ∈ cs.toList := by
   have := Array.mem_of_getElem? hx
   simpa using this
  exact .lit (List.all_eq_true.1 hcs x hm)
 cases v <;> first
  | exact .lit h
  | exact .agg rfl (all _ h)
  | exact .tuple rfl (all _ h)
theorem VRel.undef {P : Program} {ρ : aV} : VRel P ρ undef undef := .tuple rfl (fun i x y hx _ => by simp at hx)
def LRel (P : Program) (ρ : aV) (xs ys : List Value) : Prop := xs.length = ys.length ∧ ∀ (i : Nat) (x y : Value), xs[i]? = some x → ys[i]? = some y → VRel P ρ x y
theorem LRel.mono {P : Program} {ρ ρ' : aV} (hle : ∀ b x, ρ b = some x → ρ' b = some x) {xs ys : List Value} (h : LRel P ρ xs ys) : LRel P ρ' xs ys :=
 ⟨h.1, fun i x y hx hy => (h.2 i x y hx hy).mono hle⟩
theorem LRel.nil {P : Program} {ρ : aV} : LRel P ρ [] [] := ⟨rfl, fun _ _ _ h => by simp at h⟩
theorem LRel.cons {P : Program} {ρ : aV} {x y : Value} {xs ys : List Value} (h : VRel P ρ x y) (hs : LRel P ρ xs ys) : LRel P ρ (x :: xs) (y :: ys) := by
 refine ⟨by simp [hs.1], fun i a b ha hb => ?_⟩
 cases i with
 | zero => simp at ha hb; subst ha; subst hb; exact h
 | succ i => simp at ha hb; exact hs.2 i a b ha hb
theorem LRel.append {P : Program} {ρ : aV} {xs ys xs' ys' : List Value} (h : LRel P ρ xs ys) (h' : LRel P ρ xs' ys') : LRel P ρ (xs ++ xs') (ys ++ ys') := by
 refine ⟨by simp [h.1, h'.1], fun i a b ha hb => ?_⟩;have hl := h.1;rw [List.getElem?_append] at ha hb
 by_cases hi : i < xs.length
 ·rw [if_pos hi] at ha; rw [if_pos (by omega)] at hb; exact h.2 i a b ha hb
 ·rw [if_neg hi] at ha; rw [if_neg (by omega)] at hb
  rw [← hl] at hb;exact h'.2 _ a b ha hb
theorem LRel.take {P : Program} {ρ : aV} {xs ys : List Value} (h : LRel P ρ xs ys) (n : Nat) : LRel P ρ (xs.take n) (ys.take n) := by
 refine ⟨by simp [h.1], fun i a b ha hb => ?_⟩;rw [List.getElem?_take] at ha hb
 by_cases hi : i < n
 ·rw [if_pos hi] at ha hb; exact h.2 i a b ha hb
 ·rw [if_neg hi] at ha; cases ha
theorem LRel.drop {P : Program} {ρ : aV} {xs ys : List Value} (h : LRel P ρ xs ys) (n : Nat) : LRel P ρ (xs.drop n) (ys.drop n) := by
 refine ⟨by simp [h.1], fun i a b ha hb => ?_⟩;rw [List.getElem?_drop] at ha hb;exact h.2 _ a b ha hb
theorem LRel.set {P : Program} {ρ : aV} {xs ys : List Value} (h : LRel P ρ xs ys) (n : Nat) {x y : Value} (hx : VRel P ρ x y) : LRel P ρ (xs.set n x) (ys.set n y) := by
 refine ⟨by simp [h.1], fun i a b ha hb => ?_⟩;rw [List.getElem?_set] at ha hb
 by_cases hi : n = i
 ·rw [if_pos hi] at ha hb
  have := h.1
  split at ha <;> split at hb <;> first | (cases ha; cases hb; exact hx) | omega | cases ha
 ·rw [if_neg hi] at ha hb; exact h.2 i a b ha hb
theorem LRel.get {P : Program} {ρ : aV} {xs ys : List Value} (h : LRel P ρ xs ys) {i : Nat} {x : Value} (hx : xs[i]? = some x) : ∃ y, ys[i]? = some y ∧ VRel P ρ x y := by
 have hi := (Ab.1 hx).1
 have hy : i < ys.length := by have := h.1; omega
 exact ⟨ys[i], na hy, h.2 i x _ hx (na hy)⟩
theorem LRel.of_all {P : Program} {ρ : aV} {xs : List Value} (h : xs.all cO = true) : LRel P ρ xs xs :=
 ⟨rfl, fun i x y hx hy => by
  rw [hx] at hy; cases hy
  exact .lit (List.all_eq_true.1 h x (List.mem_of_getElem? hx))⟩
theorem VRel.cells {P : Program} {ρ : aV} {v v' : Value} (h : VRel P ρ v v') : LRel P ρ v.cells.toList v'.cells.toList := by
 have one : ∀ {v v' : Value}, VRel P ρ v v' → LRel P ρ [v] [v'] := fun h => LRel.cons h LRel.nil
 cases h with
 | lit h =>
  cases v <;> first | exact one (.lit h) | (simp [cO] at h)
 | agg hs he =>
  exact ⟨by simpa [Value.cells] using hs, fun i x y hx hy => he i x y (by simpa [Value.cells] using hx) (by simpa [Value.cells] using hy)⟩
 | ptr h => exact one (.ptr h)
 | slice h hk hn he => exact one (.slice h hk hn he)
 | slice0 h => exact one (.slice0 h)
 | empty => exact one .empty
 | map h => exact one (.map h)
 | func hf h1 hc h2 => exact one (.func hf h1 hc h2)
 | iface h => exact one (.iface h)
 | tuple hs he => exact one (.tuple hs he)
theorem VRel.oneCell {P : Program} {ρ : aV} {v v' : Value} (h : VRel P ρ v v') : v.oneCell' = v'.oneCell' := by
 cases h <;> rfl
def Vk (P : Program) (ρ : aV) (e e' : MapEntry) : Prop := VRel P ρ e.key e'.key ∧ VRel P ρ e.val e'.val ∧ e.born = e'.born
def sO (P : Program) (ρ : aV) (d sz : Nat) (o : AObj) (x : Option Obj) : Prop :=
 match o with
 | .dead => True
 | .cells ro cs => ∃ cc el fz, x = some (.cells cc el fz) ∧ cc.size = sz ∧ d + cs.length ≤ sz ∧ (ro = false → fz = (0, 0)) ∧ LRel P ρ cs ((cc.toList.drop d).take cs.length)
 | .map es clock => ∃ es', x = some (.map es' clock) ∧ es'.size = es.length ∧ ∀ (i : Nat) (e e' : MapEntry), es[i]? = some e → es'[i]? = some e' → Vk P ρ e e'
theorem sO.mono {P : Program} {ρ ρ' : aV} (hle : ∀ b x, ρ b = some x → ρ' b = some x) {d sz : Nat} {o : AObj} {x : Option Obj} (h : sO P ρ d sz o x) : sO P ρ' d sz o x := by
 cases o with
 | dead => trivial
 | cells ro cs =>
  obtain ⟨cc, el, fz, h1, h2, h3, h4, h5⟩ := h;exact ⟨cc, el, fz, h1, h2, h3, h4, h5.mono hle⟩
 | map es clock =>
  obtain ⟨es', h1, h2, h3⟩ := h;exact ⟨es', h1, h2, fun i e e' he he' => let ⟨a, b, c⟩ := h3 i e e' he he'; ⟨a.mono hle, b.mono hle, c⟩⟩
structure Rel (P : Program) (w0 : World) (B : Nat) (ρ : aV) (H : AH) (w : World) : Prop where
 base : B ≤ w0.heap.size
 below : Below B w0 w
 dom : ∀ b x, ρ b = some x → b < H.size
 blk : ∀ b c d sz, ρ b = some (c, d, sz) → c < w.heap.size
 obj : ∀ b c d sz o, ρ b = some (c, d, sz) → H.get b = some o → sO P ρ d sz o w.heap[c]?
 own : ∀ b c d sz o, ρ b = some (c, d, sz) → H.get b = some o → o.rw = true → B ≤ c
 ro : ∀ b c d sz cs, ρ b = some (c, d, sz) → H.get b = some (.cells true cs) → c < B
 inj : ∀ b b' c d d' sz sz' o o', ρ b = some (c, d, sz) → ρ b' = some (c, d', sz') → H.get b = some o → H.get b' = some o' → o.rw = true → o'.rw = true → b = b'
structure eE (ρ : aV) (H : AH) (w : World) (ρ' : aV) (H' : AH) (w' : World) : Prop where
 le : ∀ b x, ρ b = some x → ρ' b = some x
 fresh : ∀ b x, ρ' b = some x → ρ b = none → H.size ≤ b ∧ b < H'.size
 hsize : H.size ≤ H'.size
 wsize : w.heap.size ≤ w'.heap.size
 keepA : ∀ b, b < H.size → ρ b = none → H'.get b = H.get b
 keepRo : ∀ b o, H.get b = some o → o.rw = false → H'.get b = some o
 keepC : ∀ c, c < w.heap.size → (∀ b d sz o, ρ b = some (c, d, sz) → H.get b = some o → o.rw = false) → w'.heap[c]? = w.heap[c]?
 newC : ∀ b c d sz, ρ' b = some (c, d, sz) → ρ b = none → w.heap.size ≤ c ∨ ∃ b0 d0 sz0 o, ρ b0 = some (c, d0, sz0) ∧ H.get b0 = some o ∧ o.rw = true
theorem eE.refl (ρ : aV) (H : AH) (w : World) : eE ρ H w ρ H w where
 le := fun _ _ h => h
 fresh := fun b x h hn => by rw [hn] at h; cases h
 hsize := cr _
 wsize := cr _
 keepA := fun _ _ _ => rfl
 keepRo := fun _ _ h _ => h
 keepC := fun _ _ _ => rfl
 newC := fun b c d sz h hn => by rw [hn] at h; cases h
theorem eE.trans {P : Program} {w0 : World} {B : Nat} {ρ ρ1 ρ2 : aV} {H H1 H2 : AH} {w w1 w2 : World} (hr : Rel P w0 B ρ H w)
 (h : eE ρ H w ρ1 H1 w1) (k : eE ρ1 H1 w1 ρ2 H2 w2) : eE ρ H w ρ2 H2 w2 where
 le := fun b x hb => k.le b x (h.le b x hb)
 fresh := fun b x hb hn => by
  cases h1 : ρ1 b with
  | none => have := k.fresh b x hb h1; have := h.hsize; omega
  | some y => have := h.fresh b y h1 hn; have := k.hsize; omega
 hsize := lS h.hsize k.hsize
 wsize := lS h.wsize k.wsize
 keepA := fun b hb hn => by
  have h1 : ρ1 b = none := by
   cases h1 : ρ1 b with
   | none => rfl
   | some y => have := h.fresh b y h1 hn; omega
  rw [k.keepA b (by have := h.hsize; omega) h1, h.keepA b hb hn]
 keepRo := fun b o ho hrw => k.keepRo b o (h.keepRo b o ho hrw) hrw
 keepC := fun c hc hf => by
  have e1 := h.keepC c hc hf;rw [← e1];refine k.keepC c (Nat.lt_of_lt_of_le hc h.wsize) ?_;intro b d sz o hb ho
  cases hn : ρ b with
  | some y =>
   have hy : y = (c, d, sz) := by have := h.le b y hn; rw [hb] at this; exact (kT this).symm
   subst hy
   cases hH : H.get b with
   | some o1 =>
    have h2 := hf b d sz o1 hn hH;have h3 := h.keepRo b o1 hH h2;rw [ho] at h3;cases h3;exact h2
   | none =>
    have h4 := hr.dom b _ hn;unfold AH.get at hH; unfold AH.size at h4;rw [List.getElem?_eq_none_iff] at hH;omega
  | none =>
   rcases h.newC b c d sz hb hn with h3 | ⟨b0, d0, sz0, o0, h3, h4, h5⟩
   ·omega
   ·have := hf b0 d0 sz0 o0 h3 h4; rw [h5] at this; cases this
 newC := fun b c d sz hb hn => by
  cases h1 : ρ1 b with
  | some y =>
   have hy : y = (c, d, sz) := by have := k.le b y h1; rw [hb] at this; exact (kT this).symm
   subst hy;exact h.newC b c d sz h1 hn
  | none =>
   rcases k.newC b c d sz hb h1 with h3 | ⟨b0, d0, sz0, o0, h3, h4, h5⟩
   ·exact .inl (lS h.wsize h3)
   ·cases h6 : ρ b0 with
    | none =>
     rcases h.newC b0 c d0 sz0 h3 h6 with h7 | h7
     ·exact .inl h7
     ·exact .inr h7
    | some y =>
     have hy : y = (c, d0, sz0) := by have := h.le b0 y h6; rw [h3] at this; exact (kT this).symm
     subst hy
     cases hH : H.get b0 with
     | none =>
      have h8 := hr.dom b0 _ h6;unfold AH.get at hH; unfold AH.size at h8;rw [List.getElem?_eq_none_iff] at hH;omega
     | some o1 =>
      refine .inr ⟨b0, d0, sz0, o1, h6, hH, ?_⟩
      cases hrw : o1.rw with
      | true => rfl
      | false =>
       have := h.keepRo b0 o1 hH hrw;rw [h4] at this;cases this;rw [h5] at hrw;cases hrw
theorem Rel.drew {P : Program} {w0 : World} {B : Nat} {ρ : aV} {H : AH} {w : World} (h : Rel P w0 B ρ H w) : Rel P w0 B ρ H w.drew :=
 { h with below := h.below.drew }
theorem eE.drew {ρ ρ' : aV} {H H' : AH} {w w' : World} (h : eE ρ H w ρ' H' w') : eE ρ H w ρ' H' w'.drew := { h with }
theorem eE.of_drew {ρ ρ' : aV} {H H' : AH} {w w' : World} (h : eE ρ H w.drew ρ' H' w') : eE ρ H w ρ' H' w' := { h with }
section
variable {P : Program} {w0 : World} {B : Nat} {ρ : aV} {H : AH} {w : World}
theorem Rel.setBlock (h : Rel P w0 B ρ H w) {b c d sz : Nat} {o o' : AObj} (hb : ρ b = some (c, d, sz)) (ho : H.get b = some o) (hrw : o.rw = true) (hrw' : o'.rw = true) {w' : World}
 (hos : w'.os = w.os) (htape : w'.tape = w.tape) (hout : w'.output = w.output) (hsz : w'.heap.size = w.heap.size) (hoth : ∀ k, k ≠ c → w'.heap[k]? = w.heap[k]?)
 (hnew : sO P ρ d sz o' w'.heap[c]?) : Rel P w0 B ρ (H.set b o') w' ∧ eE ρ H w ρ (H.set b o') w' := by
 have hlt := AH.lt_of_get ho;have hB : B ≤ c := h.own b c d sz o hb ho hrw
 have key : ∀ b1 o1, (H.set b o').get b1 = some o1 → (b1 = b ∧ o1 = o') ∨ (b1 ≠ b ∧ H.get b1 = some o1) := by
  intro b1 o1 h1;rw [AH.get_set] at h1
  by_cases hb1 : b1 = b
  ·rw [if_pos hb1, if_pos hlt] at h1
   exact .inl ⟨hb1, (kT h1).symm⟩
  ·rw [if_neg hb1] at h1
   exact .inr ⟨hb1, h1⟩
 constructor
 ·refine ⟨h.base, ?_, ?_, ?_, ?_, ?_, ?_, ?_⟩
  ·exact h.below.trans ⟨hos, htape, hout, Nat.le_of_eq hsz.symm, fun k hk => hoth k (by omega)⟩
  ·intro b1 x hx; rw [AH.size_set]; exact h.dom b1 x hx
  ·intro b1 c1 d1 sz1 hx; rw [hsz]; exact h.blk b1 c1 d1 sz1 hx
  ·intro b1 c1 d1 sz1 o1 hx ho1
   rcases key b1 o1 ho1 with ⟨rfl, rfl⟩ | ⟨hne, ho1⟩
   ·rw [hb] at hx; cases hx; exact hnew
   ·by_cases hc : c1 = c
    ·subst hc
     cases hr1 : o1.rw with
     | true => exact absurd (h.inj b1 b _ _ _ _ _ _ _ hx hb ho1 ho hr1 hrw) hne
     | false =>
      cases o1 with
      | dead => trivial
      | map es cl => simp [AObj.rw] at hr1
      | cells r cs =>
       cases r with
       | false => simp [AObj.rw] at hr1
       | true => have := h.ro b1 _ _ _ _ hx ho1; omega
    ·rw [hoth c1 hc]; exact h.obj b1 c1 d1 sz1 o1 hx ho1
  ·intro b1 c1 d1 sz1 o1 hx ho1 hr1
   rcases key b1 o1 ho1 with ⟨rfl, rfl⟩ | ⟨_, ho1⟩
   ·rw [hb] at hx; cases hx; exact hB
   ·exact h.own b1 c1 d1 sz1 o1 hx ho1 hr1
  ·intro b1 c1 d1 sz1 cs hx ho1
   rcases key b1 _ ho1 with ⟨rfl, rfl⟩ | ⟨_, ho1⟩
   ·simp [AObj.rw] at hrw'
   ·exact h.ro b1 c1 d1 sz1 cs hx ho1
  ·intro b1 b2 c1 d1 d2 sz1 sz2 o1 o2 hx1 hx2 ho1 ho2 hr1 hr2
   rcases key b1 o1 ho1 with ⟨rfl, rfl⟩ | ⟨n1, k1⟩ <;> rcases key b2 o2 ho2 with ⟨rfl, rfl⟩ | ⟨n2, k2⟩
   ·rfl
   ·exact h.inj _ _ _ _ _ _ _ _ _ hx1 hx2 ho k2 hrw hr2
   ·exact h.inj _ _ _ _ _ _ _ _ _ hx1 hx2 k1 ho hr1 hrw
   ·exact h.inj _ _ _ _ _ _ _ _ _ hx1 hx2 k1 k2 hr1 hr2
 ·refine ⟨fun _ _ hx => hx, fun b1 x hx hn => absurd hx (by rw [hn]; simp), Nat.le_of_eq (AH.size_set ..).symm, Nat.le_of_eq hsz.symm, ?_, ?_, ?_, fun b1 c1 d1 sz1 hx hn => absurd hx (by rw [hn]; simp)⟩
  ·intro b1 _ hn
   exact AH.get_set_ne (fun e => by rw [e, hb] at hn; cases hn)
  ·intro b1 o1 ho1 hr1
   rw [AH.get_set_ne (fun e => by rw [e, ho] at ho1; cases ho1; rw [hrw] at hr1; cases hr1)];exact ho1
  ·intro c1 _ hf
   exact hoth c1 (fun e => by subst e; have := hf b d sz o hb ho; rw [hrw] at this; cases this)
theorem aV.upd_same (ρ : aV) (b : Nat) (x : Nat × Nat × Nat) : ρ.upd b x b = some x := by simp [aV.upd]
theorem aV.upd_ne {ρ : aV} {b b' : Nat} {x : Nat × Nat × Nat} (h : b' ≠ b) : ρ.upd b x b' = ρ b' := by simp [aV.upd, h]
theorem aV.upd_le {ρ : aV} {b : Nat} {x : Nat × Nat × Nat} (h : ρ b = none) : ∀ b' y, ρ b' = some y → ρ.upd b x b' = some y := by
 intro b' y hy;rw [aV.upd_ne (fun e => by rw [e, h] at hy; cases hy)];exact hy
theorem Rel.size (h : Rel P w0 B ρ H w) : B ≤ w.heap.size := lS h.base h.below.size
theorem Rel.push (h : Rel P w0 B ρ H w) {o : AObj} {ob : Obj} {sz : Nat} (hrw : o.rw = true) (hnew : sO P ρ 0 sz o (some ob)) :
 Rel P w0 B (ρ.upd H.size (w.heap.size, 0, sz)) (H.push o) (w.alloc ob) ∧ eE ρ H w (ρ.upd H.size (w.heap.size, 0, sz)) (H.push o) (w.alloc ob) := by
 have hB := h.size
 have hnone : ρ H.size = none := by
  cases hn : ρ H.size with
  | none => rfl
  | some x => have := h.dom _ _ hn; omega
 have hle := aV.upd_le (x := (w.heap.size, 0, sz)) hnone;have hheap : ∀ k, k < w.heap.size → (w.alloc ob).heap[k]? = w.heap[k]? := fun k hk => Below.heap_alloc w ob k hk;have hlast : (w.alloc ob).heap[w.heap.size]? = some ob  := heap_alloc_new w ob
 have key : ∀ b1 o1, (H.push o).get b1 = some o1 → (b1 = H.size ∧ o1 = o) ∨ (b1 < H.size ∧ H.get b1 = some o1) := by
  intro b1 o1 h1;rw [AH.get_push] at h1
  by_cases hb1 : b1 = H.size
  ·rw [if_pos hb1] at h1; exact .inl ⟨hb1, (kT h1).symm⟩
  ·rw [if_neg hb1] at h1; exact .inr ⟨AH.lt_of_get h1, h1⟩
 have old : ∀ {b1 c1 d1 sz1}, b1 < H.size → ρ.upd H.size (w.heap.size, 0, sz) b1 = some (c1, d1, sz1) → ρ b1 = some (c1, d1, sz1) := by
  intro b1 c1 d1 sz1 hb1 hx
  rwa [aV.upd_ne (by omega)] at hx
 constructor
 ·refine ⟨h.base, ?_, ?_, ?_, ?_, ?_, ?_, ?_⟩
  ·exact h.below.alloc hB ob
  ·intro b1 x hx
   rw [AH.size_push]
   by_cases hb1 : b1 = H.size
   ·omega
   ·rw [aV.upd_ne hb1] at hx; have := h.dom b1 x hx; omega
  ·intro b1 c1 d1 sz1 hx
   rw [World.size_alloc]
   by_cases hb1 : b1 = H.size
   ·subst hb1; rw [aV.upd_same] at hx; cases hx; omega
   ·rw [aV.upd_ne hb1] at hx; have := h.blk b1 c1 d1 sz1 hx; omega
  ·intro b1 c1 d1 sz1 o1 hx ho1
   rcases key b1 o1 ho1 with ⟨rfl, rfl⟩ | ⟨hlt, ho1⟩
   ·rw [aV.upd_same] at hx; cases hx; rw [hlast]; exact hnew.mono hle
   ·have hx' := old hlt hx
    rw [hheap c1 (h.blk b1 c1 d1 sz1 hx')]; exact (h.obj b1 c1 d1 sz1 o1 hx' ho1).mono hle
  ·intro b1 c1 d1 sz1 o1 hx ho1 hr1
   rcases key b1 o1 ho1 with ⟨rfl, rfl⟩ | ⟨hlt, ho1⟩
   ·rw [aV.upd_same] at hx; cases hx; exact hB
   ·exact h.own b1 c1 d1 sz1 o1 (old hlt hx) ho1 hr1
  ·intro b1 c1 d1 sz1 cs hx ho1
   rcases key b1 _ ho1 with ⟨rfl, rfl⟩ | ⟨hlt, ho1⟩
   ·simp [AObj.rw] at hrw
   ·exact h.ro b1 c1 d1 sz1 cs (old hlt hx) ho1
  ·intro b1 b2 c1 d1 d2 sz1 sz2 o1 o2 hx1 hx2 ho1 ho2 hr1 hr2
   rcases key b1 o1 ho1 with ⟨rfl, rfl⟩ | ⟨n1, k1⟩ <;> rcases key b2 o2 ho2 with ⟨rfl, rfl⟩ | ⟨n2, k2⟩
   ·rfl
   ·rw [aV.upd_same] at hx1; cases hx1
    have := h.blk _ _ _ _ (old n2 hx2); omega
   ·rw [aV.upd_same] at hx2; cases hx2
    have := h.blk _ _ _ _ (old n1 hx1); omega
   ·exact h.inj _ _ _ _ _ _ _ _ _ (old n1 hx1) (old n2 hx2) k1 k2 hr1 hr2
 ·refine ⟨hle, ?_, by rw [AH.size_push]; omega, by simp, ?_, ?_, ?_, ?_⟩
  ·intro b1 x hx hn
   by_cases hb1 : b1 = H.size
   ·rw [AH.size_push]; omega
   ·rw [aV.upd_ne hb1, hn] at hx; cases hx
  ·intro b1 hb1 _; exact AH.get_push_old hb1
  ·intro b1 o1 ho1 _; rw [AH.get_push_old (AH.lt_of_get ho1)]; exact ho1
  ·intro c1 hc _; exact hheap c1 hc
  ·intro b1 c1 d1 sz1 hx hn
   by_cases hb1 : b1 = H.size
   ·subst hb1; rw [aV.upd_same] at hx; cases hx; exact .inl (cr _)
   ·rw [aV.upd_ne hb1, hn] at hx; cases hx
theorem Rel.move (h : Rel P w0 B ρ H w) {b c d sz : Nat} {cs : List Value} (hb : ρ b = some (c, d, sz)) (ho : H.get b = some (.cells false cs)) {o' : AObj} (hrw' : o'.rw = true) {w' : World} {c' d' sz' : Nat}
 (hos : w'.os = w.os) (htape : w'.tape = w.tape) (hout : w'.output = w.output) (hsz : w.heap.size ≤ w'.heap.size)
 (hc' : c' = c ∧ w'.heap.size = w.heap.size ∨ c' = w.heap.size ∧ c' < w'.heap.size) (hoth : ∀ k, k < w.heap.size → k ≠ c → w'.heap[k]? = w.heap[k]?)
 (hnew : sO P ρ d' sz' o' w'.heap[c']?) (hkeep : c' ≠ c → w'.heap[c]? = w.heap[c]?) :
 Rel P w0 B (ρ.upd H.size (c', d', sz')) ((H.set b .dead).push o') w' ∧ eE ρ H w (ρ.upd H.size (c', d', sz')) ((H.set b .dead).push o') w' := by
 have hlt := AH.lt_of_get ho;have hcB : B ≤ c := h.own b c d sz _ hb ho rfl;have hB := h.size;have hcw : c < w.heap.size := h.blk b c d sz hb
 have hc'w : c' < w'.heap.size := by rcases hc' with ⟨e, e2⟩ | ⟨_, e⟩ <;> omega
 have hBc' : B ≤ c' := by rcases hc' with ⟨e, _⟩ | ⟨e, _⟩ <;> omega
 have hsize : (H.set b .dead).size = H.size := AH.size_set ..
 have hnone : ρ H.size = none := by
  cases hn : ρ H.size with
  | none => rfl
  | some x => have := h.dom _ _ hn; omega
 have hle := aV.upd_le (x := (c', d', sz')) hnone
 have key : ∀ b1 o1, ((H.set b .dead).push o').get b1 = some o1 → (b1 = H.size ∧ o1 = o') ∨ (b1 = b ∧ o1 = .dead) ∨ (b1 < H.size ∧ b1 ≠ b ∧ H.get b1 = some o1) := by
  intro b1 o1 h1;rw [AH.get_push, hsize] at h1
  by_cases hb1 : b1 = H.size
  ·rw [if_pos hb1] at h1; exact .inl ⟨hb1, (kT h1).symm⟩
  ·rw [if_neg hb1, AH.get_set] at h1
   by_cases hb2 : b1 = b
   ·rw [if_pos hb2, if_pos hlt] at h1; exact .inr (.inl ⟨hb2, (kT h1).symm⟩)
   ·rw [if_neg hb2] at h1; exact .inr (.inr ⟨AH.lt_of_get h1, hb2, h1⟩)
 have old : ∀ {b1 c1 d1 sz1}, b1 < H.size → ρ.upd H.size (c', d', sz') b1 = some (c1, d1, sz1) → ρ b1 = some (c1, d1, sz1) := by
  intro b1 c1 d1 sz1 hb1 hx
  rwa [aV.upd_ne (by omega)] at hx
 -- an old block that is written lies elsewhere
 have apart : ∀ {b1 c1 d1 sz1 o1}, b1 ≠ b → ρ b1 = some (c1, d1, sz1) → H.get b1 = some o1 → o1.rw = true → c1 ≠ c := by
  intro b1 c1 d1 sz1 o1 hne hx ho1 hr1 e;subst e;exact hne (h.inj _ _ _ _ _ _ _ _ _ hx hb ho1 ho hr1 rfl)
 have ne' : ∀ {b1 c1 d1 sz1 o1}, b1 ≠ b → ρ b1 = some (c1, d1, sz1) → H.get b1 = some o1 → o1.rw = true → c1 ≠ c' := by
  intro b1 c1 d1 sz1 o1 hne hx ho1 hr1 e
  rcases hc' with ⟨e1, _⟩ | ⟨e1, _⟩
  ·exact apart hne hx ho1 hr1 (e.trans e1)
  ·have := h.blk _ _ _ _ hx; omega
 constructor
 ·refine ⟨h.base, ?_, ?_, ?_, ?_, ?_, ?_, ?_⟩
  ·exact h.below.trans ⟨hos, htape, hout, hsz, fun k hk => hoth k (by omega) (by omega)⟩
  ·intro b1 x hx
   rw [AH.size_push, hsize]
   by_cases hb1 : b1 = H.size
   ·omega
   ·rw [aV.upd_ne hb1] at hx; have := h.dom b1 x hx; omega
  ·intro b1 c1 d1 sz1 hx
   by_cases hb1 : b1 = H.size
   ·subst hb1; rw [aV.upd_same] at hx; cases hx; exact hc'w
   ·rw [aV.upd_ne hb1] at hx; have := h.blk b1 c1 d1 sz1 hx; omega
  ·intro b1 c1 d1 sz1 o1 hx ho1
   rcases key b1 o1 ho1 with ⟨rfl, rfl⟩ | ⟨rfl, rfl⟩ | ⟨hl, hne, ho1⟩
   ·rw [aV.upd_same] at hx; cases hx; exact hnew.mono hle
   ·trivial
   ·have hx' := old hl hx
    have hw := h.blk b1 c1 d1 sz1 hx'
    by_cases e : c1 = c
    ·subst e
     by_cases e' : c' = c1
     ·cases hr1 : o1.rw with
      | true => exact absurd rfl (apart hne hx' ho1 hr1)
      | false =>
       cases o1 with
       | dead => trivial
       | map es cl => simp [AObj.rw] at hr1
       | cells r cs1 =>
        cases r with
        | false => simp [AObj.rw] at hr1
        | true => have := h.ro b1 _ _ _ _ hx' ho1; omega
     ·rw [hkeep e']; exact (h.obj b1 _ d1 sz1 o1 hx' ho1).mono hle
    ·rw [hoth c1 hw e]; exact (h.obj b1 c1 d1 sz1 o1 hx' ho1).mono hle
  ·intro b1 c1 d1 sz1 o1 hx ho1 hr1
   rcases key b1 o1 ho1 with ⟨rfl, rfl⟩ | ⟨rfl, rfl⟩ | ⟨hl, hne, ho1⟩
   ·rw [aV.upd_same] at hx; cases hx; exact hBc'
   ·simp [AObj.rw] at hr1
   ·exact h.own b1 c1 d1 sz1 o1 (old hl hx) ho1 hr1
  ·intro b1 c1 d1 sz1 cs1 hx ho1
   rcases key b1 _ ho1 with ⟨rfl, rfl⟩ | ⟨rfl, e⟩ | ⟨hl, hne, ho1⟩
   ·simp [AObj.rw] at hrw'
   ·cases e
   ·exact h.ro b1 c1 d1 sz1 cs1 (old hl hx) ho1
  ·intro b1 b2 c1 d1 d2 sz1 sz2 o1 o2 hx1 hx2 ho1 ho2 hr1 hr2
   rcases key b1 o1 ho1 with ⟨rfl, rfl⟩ | ⟨rfl, rfl⟩ | ⟨n1, m1, k1⟩ <;> rcases key b2 o2 ho2 with ⟨rfl, rfl⟩ | ⟨rfl, rfl⟩ | ⟨n2, m2, k2⟩ <;> try (simp [AObj.rw] at hr1; done)
   all_goals try (simp [AObj.rw] at hr2; done)
   ·rfl
   ·rw [aV.upd_same] at hx1; cases hx1; exact absurd rfl (ne' m2 (old n2 hx2) k2 hr2)
   ·rw [aV.upd_same] at hx2; cases hx2; exact absurd rfl (ne' m1 (old n1 hx1) k1 hr1)
   ·exact h.inj _ _ _ _ _ _ _ _ _ (old n1 hx1) (old n2 hx2) k1 k2 hr1 hr2
 ·refine ⟨hle, ?_, by rw [AH.size_push, hsize]; omega, hsz, ?_, ?_, ?_, ?_⟩
  ·intro b1 x hx hn
   by_cases hb1 : b1 = H.size
   ·rw [AH.size_push, hsize]; omega
   ·rw [aV.upd_ne hb1, hn] at hx; cases hx
  ·intro b1 hb1 hn
   rw [AH.get_push_old (by rw [hsize]; exact hb1), AH.get_set_ne (fun e => by rw [e, hb] at hn; cases hn)]
  ·intro b1 o1 ho1 hr1
   rw [AH.get_push_old (by rw [hsize]; exact AH.lt_of_get ho1), AH.get_set_ne (fun e => by rw [e, ho] at ho1; cases ho1; cases hr1)];exact ho1
  ·intro c1 hc1 hf
   exact hoth c1 hc1 (fun e => by subst e; have := hf b d sz _ hb ho; cases this)
  ·intro b1 c1 d1 sz1 hx hn
   by_cases hb1 : b1 = H.size
   ·subst hb1; rw [aV.upd_same] at hx; cases hx
    rcases hc' with ⟨e, _⟩ | ⟨e, _⟩
    ·exact .inr ⟨b, d, sz, _, by rw [hb, e], ho, rfl⟩
    ·exact .inl (by omega)
   ·rw [aV.upd_ne hb1, hn] at hx; cases hx
end
def cm (P : Program) (t : TypeId) : Option Nat := (P.info? t).map (·.size)
def eG (P : Program) (t : TypeId) : Option (Option Nat) :=
 match P.underlying t with
 | some (.struct _) | some (.array _ _) => (cm P t).map some
 | some _ => some none
 | none => none
def bq (P : Program) (t : TypeId) : Option Value :=
 match P.info? t with
 | some i => match i.zero with
  | some z => if z.cells.toList.all cO = true ∧ BV z = true then some z else none
  | none => none
 | none => none
def kf (P : Program) (t : TypeId) (f : Nat) : Option Field :=
 match P.underlying t with
 | some (.struct fs) => fs[f]?
 | _ => none
def bN (P : Program) (t : TypeId) : Option TypeId :=
 match P.underlying t with
 | some (.slice e) => some e
 | _ => none
def eY (P : Program) (t : TypeId) : Option Nat := (P.info? t).map (·.bytes)
def fc (P : Program) (sub : List Field → Option Nat) : Nat → List Field → Option Nat
 | n, [] => some n
 | n, f :: fs => if f.name ≠ "_" ∧ f.offset = n then (match P.underlying f.type with
  | some (.int _) => fc P sub (n + 1) fs
  | some (.struct gs) => (match sub gs.toList with
   | some k => if cm P f.type = some k ∧ P.stoodInHeld f.type = false then fc P sub (n + k) fs else none
   | none => none)
  | _ => none) else none
def qI (P : Program) : Nat → Nat → List Field → Option Nat
 | 0 => fc P fun _ => none
 | e + 1 => fc P (qI P e 0)
def yl (P : Program) (t : TypeId) : Option Nat :=
 match P.underlying t with
 | some (.struct fs) => if P.stoodInHeld t = false ∧ P.eqGuardType P.depth t = false then qI P 2 0 fs.toList else none
 | _ => none
def k9 (P : Program) (t : TypeId) : Option IntKind :=
 match P.underlying t with
 | some (.int k) => some k
 | _ => none
def uk : Value → Option (Nat × Nat)
 | .pointer (some ⟨b, o, none⟩) => some (b, o)
 | _ => none
def dm (H : AH) (b : Nat) : Option (List Value) :=
 match H.get b with
 | some (.cells _ cs) => some cs
 | _ => none
def aE (c a b : Value) : Option Value :=
 match c with
 | .bool t => some (if t = true then a else b)
 | _ => none
def yL : Value → Option Value
 | .pointer none | .nilIface | .nilFunc => none
 | .func (.method _) _ _ => none
 | v => some v
def aA (v : Value) (H : AH) : Option Value := (uk v).bind fun a => (dm H a.1).bind fun cs => cs[a.2]?
def aQ (n : Nat) (v : Value) (H : AH) : Option Value :=
 (uk v).bind fun a => (dm H a.1).bind fun cs => if a.2 + n ≤ cs.length then some (.agg ((cs.drop a.2).take n).toArray) else none
def splice (cs : List Value) (o : Nat) (xs : List Value) : List Value := cs.take o ++ xs ++ cs.drop (o + xs.length)
def fT (n : Nat) (v x : Value) (H : AH) : Option AH :=
 (uk v).bind fun a => match H.get a.1 with
  | some (.cells false cs) => if x.cells.size = n ∧ a.2 + n ≤ cs.length ∧ x.cells.toList.all Value.oneCell' = true then some (H.set a.1 (.cells false (splice cs a.2 x.cells.toList))) else none
  | _ => none
def akG (cs : List Value) (H : AH) : Value × AH := (.pointer (some ⟨H.size, 0, none⟩), H.push (.cells false cs))
def IE (off : Nat) (v : Value) : Option Value := (uk v).map fun a => .pointer (some ⟨a.1, a.2 + off, none⟩)
def mF (n : Option Nat) (off : Nat) (v : Value) : Option Value :=
 match v with
 | .agg cs => match n with
  | some n => some (.agg (cs.extract off (off + n)))
  | none => cs[off]?
 | _ => none
def pL (e : Nat) (v i : Value) : Option Value :=
 match v, i with
 | .slice (some ⟨b, o, none⟩) n _, .int _ i => if 0 ≤ i ∧ i < n then some (.pointer (some ⟨b, o + i.toNat * e, none⟩)) else none
 | _, _ => none
def il (len e : Nat) (v i : Value) : Option Value :=
 match v, i with
 | .pointer (some ⟨b, o, none⟩), .int _ i => if 0 ≤ i ∧ i < len then some (.pointer (some ⟨b, o + i.toNat * e, none⟩)) else none
 | _, _ => none
def eU (len : Nat) (n : Option Nat) (e : Nat) (v i : Value) : Option Value :=
 match v, i with
 | .agg cs, .int _ i => if 0 ≤ i ∧ i < len then (match n with | some n => some (.agg (cs.extract (i.toNat * e) (i.toNat * e + n))) | none => cs[i.toNat * e]?) else none
 | _, _ => none
def i6 (v i : Value) : Option Value :=
 match v, i with
 | .string s, .int _ i => if 0 ≤ i then (s[i.toNat]?).map fun b => .int .u8 b.toNat else none
 | _, _ => none
def sH : Value → Option Value
 | .slice _ n _ => some (.int .i64 n)
 | .string s => some (.int .i64 s.size)
 | _ => none
def nO (v : Value) (H : AH) : Option Value :=
 match v with
 | .map none => some (.int .i64 0)
 | .map (some b) => match H.get b with
  | some (.map es _) => some (.int .i64 es.length)
  | _ => none
 | _ => none
def pM : List Value → Option Value
 | [.int k x, .int _ y] => some (.int k (if y > x then y else x))
 | _ => none
def pN : List Value → Option Value
 | [.int k x, .int _ y] => some (.int k (if y < x then y else x))
 | _ => none
def bm : List Value → List Value → Option Bool
 | [], [] => some true
 | .int k a :: xs, .int k' b :: ys => if k = k' then (bm xs ys).map fun r => a == b && r else none
 | _, _ => none
def j9 (op : BinOp) (k : IntKind) (a b : Int) : Option Value :=
 match op with
 | .add => some (.int k (k.wrap (a + b)))
 | .sub => some (.int k (k.wrap (a - b)))
 | .mul => some (.int k (k.wrap (a * b)))
 | .quo => if b = 0 then none else some (.int k (k.wrap (a.tdiv b)))
 | .rem => if b = 0 then none else some (.int k (a.tmod b))
 | .and => some (.int k (Go.bits .and k a b))
 | .or => some (.int k (Go.bits .or k a b))
 | .xor => some (.int k (Go.bits .xor k a b))
 | .andNot => some (.int k (Go.bits .andNot k a b))
 | .eql => some (.bool (a == b))
 | .neq => some (.bool (a != b))
 | .lss => some (.bool (decide (a < b)))
 | .leq => some (.bool (decide (a ≤ b)))
 | .gtr => some (.bool (decide (a > b)))
 | .geq => some (.bool (decide (a ≥ b)))
 | _ => none
def mG (op : BinOp) (k : IntKind) (a b : Int) : Option Value :=
 if b < 0 then none else
 match op with
 | .shl => some (.int k (k.wrap (a * 2 ^ min b.toNat k.bits)))
 | .shr => some (.int k (a.fdiv (2 ^ min b.toNat k.bits)))
 | _ => none
inductive TCls where
 | bool | ptr | slice | map | func | flat (n : Nat) | other
def Dv (P : Program) (t : TypeId) : TCls :=
 match P.underlying t with
 | some .bool => .bool
 | some (.pointer _) => .ptr
 | some (.slice _) => .slice
 | some (.map _ _) => .map
 | some (.func _ _ _) => .func
 | some (.struct _) => match yl P t with
  | some n => .flat n
  | none => .other
 | _ => .other
def rn (cl : TCls) (x y : Value) : Option Bool :=
 match cl, x, y with
 | .bool, .bool a, .bool b => some (a == b)
 | .flat n, .agg a, .agg b => if a.size = n ∧ b.size = n then bm a.toList b.toList else none
 | .ptr, .pointer a, .pointer none => some a.isNone
 | .ptr, .pointer none, .pointer (some _) => some false
 | .slice, .slice a _ _, .slice none _ _ => some a.isNone
 | .slice, .slice none _ _, .slice (some _) _ _ => some false
 | .map, .map a, .map none => some a.isNone
 | .map, .map none, .map (some _) => some false
 | .func, .func _ _ _, .nilFunc => some false
 | .func, .nilFunc, .func _ _ _ => some false
 | .func, .nilFunc, .nilFunc => some true
 | _, _, _ => none
def Xg (op : BinOp) (a b : ByteArray) : Option Value :=
 match op with
 | .eql => some (.bool (a == b))
 | .neq => some (.bool !(a == b))
 | .add => if a.size + b.size ≤ 9223372036854775807 then some (.string (a ++ b)) else none
 | _ => none
def JH (cl : TCls) (op : BinOp) (x y : Value) : Option Value :=
 match op with
 | .eql => (rn cl x y).map fun b => .bool b
 | .neq => (rn cl x y).map fun b => .bool !b
 | _ => none
def ag (cl : TCls) (op : BinOp) (x y : Value) : Option Value :=
 match x, y with
 | .int k a, .int k' b =>
  match op with
  | .shl => mG .shl k a b
  | .shr => mG .shr k a b
  | op => if k = k' then j9 op k a b else none
 | .string a, .string b => Xg op a b
 | x, y => JH cl op x y
def xi (op : UnOp) (x : Value) : Option Value :=
 match op, x with
 | .neg, .int k n => some (.int k (k.wrap (0 - n)))
 | .xor, .int k n => some (.int k (Go.bits .xor k (if k.signed then -1 else k.max) n))
 | .not, .bool b => some (.bool !b)
 | _, _ => none
def aO (k : Option IntKind) (x : Value) : Option Value :=
 match k, x with
 | some k, .int _ n => some (.int k (k.wrap n))
 | _, _ => none
def ar (v : Value) (i : Nat) : Option Value :=
 match v with
 | .tuple vs => vs[i]?
 | _ => none
def lH : Value → Option Int
 | .int _ n => some n
 | _ => none
def eV (e : Nat) (x : Value) (lo hi : Option Value) : Option Value :=
 match x with
 | .slice a n e' =>
  (match lo with | some v => lH v | none => some 0).bind fun l => (match hi with | some v => lH v | none => some (n : Int)).bind fun h =>
   if 0 ≤ l ∧ l ≤ h ∧ h ≤ n then
    match a with
    | none => if n = 0 ∧ e' = 0 then some (.slice none 0 0) else none
    | some ⟨b, o, none⟩ => if e' = e ∧ 0 < e then some (.slice (some ⟨b, o + l.toNat * e, none⟩) (h.toNat - l.toNat) e) else none
    | _ => none
   else none
 | _ => none
def i7 (x : Value) (hi mx : Value) : Option Value :=
 match x, hi, mx with
 | .slice none 0 0, .int _ 0, .int _ 0 => some (.slice none 0 0)
 | .slice (some ⟨b, o, none⟩) _ _, .int _ 0, .int _ 0 => some (.slice (some ⟨b, o, none⟩) 0 0)
 | _, _, _ => none
def nc (e : Nat) (x : Value) (H : AH) : Option (Nat × List Value) :=
 match x with
 | .slice none n _ => if n = 0 then some (0, []) else none
 | .slice (some ⟨b, o, none⟩) m _ => if m = 0 then some (0, []) else (dm H b).bind fun cs => if o + m * e ≤ cs.length then some (m, (cs.drop o).take (m * e)) else none
 | _ => none
def cg : Nat := 140737488355328
def cz (e bytes : Nat) (s x : Value) (H : AH) : Option (Value × AH) :=
 (nc e x H).bind fun r =>
  if r.2.all Value.oneCell' = true ∧ 0 < e then
   match s with
   | .slice none n k => if n = 0 ∧ k = 0 then (if r.1 = 0 then some (.slice none 0 0, H) else if r.1 * bytes ≤ cg ∧ r.1 ≤ cg then some (.slice (some ⟨H.size, 0, none⟩) r.1 e, H.push (.cells false r.2)) else none) else none
   | .slice (some ⟨b, o, none⟩) n e' =>
    if r.1 = 0 then some (s, H)
    else if e' = 0 then (if n = 0 ∧ r.1 * bytes ≤ cg ∧ r.1 ≤ cg then some (.slice (some ⟨H.size, 0, none⟩) r.1 e, H.push (.cells false r.2)) else none)
    else match H.get b with
     | some (.cells false cs) =>
      if e' = e ∧ o + n * e ≤ cs.length ∧ (n + r.1) * bytes ≤ cg ∧ n + r.1 ≤ cg then some (.slice (some ⟨H.size, 0, none⟩) (n + r.1) e, (H.set b .dead).push (.cells false ((cs.drop o).take (n * e) ++ r.2))) else none
     | _ => none
   | _ => none
  else none
def mD (zero : List Value) (e bytes : Nat) (len cap : Value) (H : AH) : Option (Value × AH) :=
 match len, cap with
 | .int _ l, .int _ c => if 0 ≤ l ∧ l = c ∧ l.toNat * bytes ≤ cg ∧ l.toNat ≤ cg ∧ 0 < e ∧ zero.length = e then
  some (.slice (some ⟨H.size, 0, none⟩) l.toNat e, H.push (.cells false (List.replicate l.toNat zero).flatten)) else none
 | _, _ => none
inductive KCls where
 | int | string | flat (n : Nat)
def tS : Value → Bool
 | .int _ _ => true
 | _ => false
def jB (cl : KCls) (k : Value) : Bool :=
 match cl, k with
 | .int, .int _ _ => true
 | .string, .string _ => true
 | .flat n, .agg xs => xs.size == n && xs.toList.all tS
 | _, _ => false
def nJ (cl : KCls) (a b : Value) : Option Bool :=
 match cl, a, b with
 | .int, .int k x, .int k' y => if k = k' then some (x == y) else none
 | .string, .string x, .string y => some (x == y)
 | .flat n, .agg x, .agg y => if x.size = n ∧ y.size = n then bm x.toList y.toList else none
 | _, _, _ => none
def bw (cl : KCls) (k : Value) : List MapEntry → Nat → Option (Option (Nat × Value))
 | [], _ => some none
 | e :: es, i => (nJ cl k e.key).bind fun b => if b = true then some (some (i, e.val)) else bw cl k es (i + 1)
def mE (v : Value) (H : AH) : Option (List MapEntry × Nat) :=
 match v with
 | .map none => some ([], 0)
 | .map (some b) => match H.get b with
  | some (.map es c) => some (es, c)
  | _ => none
 | _ => none
def km (fl : KCls) (zero : Value) (m k : Value) (ok : Bool) (H : AH) : Option Value :=
 if jB fl k = true then (mE m H).bind fun es => (bw fl k es.1 0).map fun r => match r with
  | some (_, v) => if ok then .tuple #[v, .bool true] else v
  | none => if ok then .tuple #[zero, .bool false] else zero
 else none
def nP (fl : KCls) (m k x : Value) (H : AH) : Option AH :=
 if jB fl k = true then match m with
 | .map (some b) => match H.get b with
  | some (.map es c) => (bw fl k es 0).map fun r => match r with
   | some (i, _) => H.set b (.map (es.modify i fun e => { e with key := k, val := x }) c)
   | none => H.set b (.map (es ++ [{ key := k, val := x, born := c }]) (c + 1))
  | _ => none
 | _ => none
 else none
def nN (fl : KCls) (m k : Value) (H : AH) : Option AH :=
 if jB fl k = true then match m with
 | .map (some b) => match H.get b with
  | some (.map es c) => (bw fl k es 0).map fun r => match r with
   | some (i, _) => H.set b (.map (es.eraseIdx i) c)
   | none => H.set b (.map es c)
  | _ => none
 | _ => none
 else none
def cA (places : Nat → Option (Nat × Nat)) (zero : List Value) : List (Nat × Value) → Option (List Value)
 | [] => some zero
 | (i, v) :: rest => (places i).bind fun p => if v.cells.size = p.2 ∧ p.1 + p.2 ≤ zero.length then cA places (splice zero p.1 v.cells.toList) rest else none
def dt (v : Value) (args : List Value) : Option (Nat × List Value) :=
 match v with
 | .func (.func f) first captured => some (f, first.toList ++ args ++ captured.toList)
 | _ => none
def cE (P : Program) (t : TypeId) : Option KCls :=
 match P.underlying t with
 | some (.int _) => some .int
 | some .string => some .string
 | some (.struct _) => (yl P t).map .flat
 | _ => none
def ca (P : Program) (t : TypeId) : Option (TypeId × TypeId) :=
 match P.underlying t with
 | some (.map k e) => some (k, e)
 | _ => none
def i8 (P : Program) (fs : List Field) : Option (List (Nat × Nat)) := fs.mapM fun f => (cm P f.type).map fun n => (f.offset, n)
abbrev aR := Nat → List Value → AH → Option (Value × AH)
def bY (P : Program) (b : Builtin) (argTypes : Array TypeId) (args : List Value) (H : AH) : Option (Value × AH) :=
 match b, args with
 | .len, [x] => match (argTypes[0]?).bind fun t => P.underlying t with
  | some (.slice _) => match x with | .slice _ _ _ => (sH x).map (·, H) | _ => none
  | some .string => match x with | .string _ => (sH x).map (·, H) | _ => none
  | some (.map _ _) => (nO x H).map (·, H)
  | _ => none
 | .max, args => (pM args).map (·, H)
 | .min, args => (pN args).map (·, H)
 | .append, [s, x] => (argTypes[0]?).bind fun t => (bN P t).bind fun el => (cm P el).bind fun e => (eY P el).bind fun by' => (bq P el).bind fun z =>
  if z.cells.size = e ∧ (argTypes[1]?).bind (fun u => bN P u) = some el then cz e by' s x H else none
 | .delete, [m, k] => (argTypes[0]?).bind fun t => (ca P t).bind fun kt => (cE P kt.1).bind fun fl => (nN fl m k H).map fun H' => (.tuple #[], H')
 | _, _ => none
def dj (P : Program) (call : aR) (ev : Operand → Value) (o : Oper) (H : AH) : Option (Value × AH) :=
 match o.op with
 | .move x => some (ev x, H)
 | .assign x => some (ev x, H)
 | .pick c a b => (aE (ev c) (ev a) (ev b)).map (·, H)
 | .alloc t => (bq P t).map fun z => akG z.cells.toList H
 | .box _ x => some (akG (ev x).cells.toList H)
 | .build t parts => match P.underlying t with
  | some (.struct fs) => (bq P t).bind fun z => (i8 P fs.toList).bind fun ps => (cA (ps[·]?) z.cells.toList (parts.toList.map fun p => (p.1, ev p.2))).map fun cs => (.agg cs.toArray, H)
  | some (.array _ el) => (bq P t).bind fun z => (cm P el).bind fun e => (cA (fun i => some (i * e, e)) z.cells.toList (parts.toList.map fun p => (p.1, ev p.2))).map fun cs => (.agg cs.toArray, H)
  | _ => none
 | .buildSlice t len parts => (bN P t).bind fun el => (cm P el).bind fun e => (bq P el).bind fun z =>
  if 0 < e ∧ z.cells.size = e ∧ len * e ≤ 2 ^ 24 then
   (cA (fun i => some (i * e, e)) (List.replicate len z.cells.toList).flatten (parts.toList.map fun p => (p.1, ev p.2))).map fun cs => (.slice (some ⟨H.size, 0, none⟩) len e, H.push (.cells false cs))
  else none
 | .load t a => (eG P t).bind fun g => match g with
  | some n => (aQ n (ev a) H).map (·, H)
  | none => (aA (ev a) H).map (·, H)
 | .store t a x => (cm P t).bind fun n => (fT n (ev a) (ev x) H).map fun H' => (undef, H')
 | .nilCheck x => (yL (ev x)).map (·, H)
 | .binOp op t x y _ => (ag (Dv P t) op (ev x) (ev y)).map (·, H)
 | .unOp op _ x => (xi op (ev x)).map (·, H)
 | .convert src dst x => match P.underlying src with
  | some _ => (aO (k9 P dst) (ev x)).map (·, H)
  | none => none
 | .makeFunc fn first captured => some (.func fn (first.map ev) (captured.map ev), H)
 | .makeMap _ none => some (.map (some H.size), H.push (.map [] 0))
 | .makeSlice t l c => (bN P t).bind fun el => (cm P el).bind fun e => (eY P el).bind fun by' => (bq P el).bind fun z => mD z.cells.toList e by' (ev l) (ev c) H
 | .slice t x lo hi none => (bN P t).bind fun el => (cm P el).bind fun e => (eV e (ev x) (lo.map ev) (hi.map ev)).map (·, H)
 | .slice t x none (some hi) (some mx) => (bN P t).bind fun el => (cm P el).bind fun _ => (i7 (ev x) (ev hi) (ev mx)).map (·, H)
 | .fieldAddr s x f => (kf P s f).bind fun f => (cm P f.type).bind fun n => if n = 0 then none else (IE f.offset (ev x)).map (·, H)
 | .field s x f => (kf P s f).bind fun f => (eG P f.type).bind fun n => (mF n f.offset (ev x)).map (·, H)
 | .indexAddr t x i => match P.underlying t with
  | some (.slice el) => (cm P el).bind fun e => (pL e (ev x) (ev i)).map (·, H)
  | some (.array len el) => (cm P el).bind fun e => (il len e (ev x) (ev i)).map (·, H)
  | _ => none
 | .index t x i => match P.underlying t with
  | some (.array len el) => (cm P el).bind fun e => (eG P el).bind fun n => (eU len n e (ev x) (ev i)).map (·, H)
  | some .string => (i6 (ev x) (ev i)).map (·, H)
  | _ => none
 | .lookup t m k ok => (ca P t).bind fun kt => (cE P kt.1).bind fun fl => (bq P kt.2).bind fun z => (km fl z (ev m) (ev k) ok H).map (·, H)
 | .mapUpdate t m k x => (ca P t).bind fun kt => (cE P kt.1).bind fun fl => (nP fl (ev m) (ev k) (ev x) H).map fun H' => (undef, H')
 | .extract t i => (ar (ev t) i).map (·, H)
 | .call c => match c.callee with
  | .builtin b => bY P b c.argTypes (c.args.toList.map ev) H
  | .value f => (dt (ev f) (c.args.toList.map ev)).bind fun fa => call fa.1 fa.2 H
  | _ => none
 | _ => none
section
variable {P : Program} {ρ : aV}
theorem VRel.int_inv {k : IntKind} {n : Int} {v : Value} (h : VRel P ρ (.int k n) v) : v = .int k n := by cases h; rfl
theorem VRel.bool_inv {b : Bool} {v : Value} (h : VRel P ρ (.bool b) v) : v = .bool b := by cases h; rfl
theorem VRel.string_inv {s : ByteArray} {v : Value} (h : VRel P ρ (.string s) v) : v = .string s := by cases h; rfl
theorem VRel.nilFunc_inv {v : Value} (h : VRel P ρ .nilFunc v) : v = .nilFunc := by cases h; rfl
theorem VRel.ptr_inv {b o : Nat} {v : Value} (h : VRel P ρ (.pointer (some ⟨b, o, none⟩)) v) : ∃ c d sz, ρ b = some (c, d, sz) ∧ v = .pointer (some ⟨c, d + o, none⟩) := by
 cases h with
 | lit h => simp [cO] at h
 | ptr h => exact ⟨_, _, _, h, rfl⟩
theorem VRel.pointer_inv {a : Option Addr} {v : Value} (h : VRel P ρ (.pointer a) v) : ∃ a', v = .pointer a' ∧ a'.isNone = a.isNone := by
 cases h with
 | lit h => exact ⟨_, rfl, rfl⟩
 | ptr h => exact ⟨_, rfl, rfl⟩
theorem VRel.nilslice_inv {n k : Nat} {v : Value} (h : VRel P ρ (.slice none n k) v) : v = .slice none n k := by cases h; rfl
theorem VRel.nilmap_inv {v : Value} (h : VRel P ρ (.map none) v) : v = .map none := by cases h; rfl
theorem VRel.map_inv {b : Nat} {v : Value} (h : VRel P ρ (.map (some b)) v) : ∃ c d sz, ρ b = some (c, d, sz) ∧ v = .map (some c) := by
 cases h with
 | lit h => simp [cO] at h
 | map h => exact ⟨_, _, _, h, rfl⟩
theorem VRel.anymap_inv {r : Option Nat} {v : Value} (h : VRel P ρ (.map r) v) : ∃ r', v = .map r' ∧ r'.isNone = r.isNone := by
 cases h with
 | lit h => exact ⟨_, rfl, rfl⟩
 | map h => exact ⟨_, rfl, rfl⟩
theorem VRel.anyslice_inv {a : Option Addr} {n e : Nat} {v : Value} (h : VRel P ρ (.slice a n e) v) : ∃ a' k, v = .slice a' n k ∧ a'.isNone = a.isNone := by
 cases h with
 | lit h => exact ⟨_, _, rfl, rfl⟩
 | slice h => exact ⟨_, _, rfl, rfl⟩
 | slice0 h => exact ⟨_, _, rfl, rfl⟩
 | empty => exact ⟨_, _, rfl, rfl⟩
theorem VRel.agg_inv {xs : Array Value} {v : Value} (h : VRel P ρ (.agg xs) v) : ∃ ys : Array Value, v = .agg ys ∧ xs.size = ys.size ∧ ∀ (i : Nat) (x y : Value), xs[i]? = some x → ys[i]? = some y → VRel P ρ x y := by
 cases h with
 | lit h => simp [cO] at h
 | agg hs he => exact ⟨_, rfl, hs, he⟩
theorem VRel.tuple_inv {xs : Array Value} {v : Value} (h : VRel P ρ (.tuple xs) v) : ∃ ys : Array Value, v = .tuple ys ∧ xs.size = ys.size ∧ ∀ (i : Nat) (x y : Value), xs[i]? = some x → ys[i]? = some y → VRel P ρ x y := by
 cases h with
 | lit h => simp [cO] at h
 | tuple hs he => exact ⟨_, rfl, hs, he⟩
theorem VRel.func_inv {fn : Fn} {f c : Array Value} {v : Value} (h : VRel P ρ (.func fn f c) v) : ∃ f' c' : Array Value, v = .func fn f' c' ∧ LRel P ρ f.toList f'.toList ∧ LRel P ρ c.toList c'.toList := by
 cases h with
 | lit h => simp [cO] at h
 | func hf h1 hc h2 => exact ⟨_, _, rfl, ⟨by simpa using hf, fun i x y hx hy => h1 i x y (by simpa using hx) (by simpa using hy)⟩, ⟨by simpa using hc, fun i x y hx hy => h2 i x y (by simpa using hx) (by simpa using hy)⟩⟩
theorem LRel.toAgg {xs ys : List Value} (h : LRel P ρ xs ys) : VRel P ρ (.agg xs.toArray) (.agg ys.toArray) :=
 .agg (by simpa using h.1) (fun i x y hx hy => h.2 i x y (by simpa using hx) (by simpa using hy))
theorem LRel.toTuple {xs ys : List Value} (h : LRel P ρ xs ys) : VRel P ρ (.tuple xs.toArray) (.tuple ys.toArray) :=
 .tuple (by simpa using h.1) (fun i x y hx hy => h.2 i x y (by simpa using hx) (by simpa using hy))
theorem cG {t : TypeId} {n : Nat} (h : cm P t = some n) (w : World) : (sizeOf t).run P w = .ok n w := by
 unfold cm at h
 cases hi : P.info? t with
 | none => simp [hi] at h
 | some i => simp [hi] at h; simp [sizeOf, typeInfo, hi, h]
theorem XJ {t : TypeId} {n : Nat} (h : cm P t = some n) : ∃ i, P.info? t = some i ∧ i.size = n := by
 unfold cm at h
 cases hi : P.info? t with
 | none => simp [hi] at h
 | some i => exact ⟨i, rfl, by simpa [hi] using h⟩
theorem cK {t : TypeId} {z : Value} (h : bq P t = some z) : ∃ i, P.info? t = some i ∧ i.zero = some z ∧ z.cells.toList.all cO = true ∧ BV z = true := by
 unfold bq at h
 cases hi : P.info? t with
 | none => simp [hi] at h
 | some i =>
  simp only [hi] at h
  cases hz : i.zero with
  | none => simp [hz] at h
  | some z =>
   simp only [hz] at h
   split at h
   ·rename_i hl; cases h; exact ⟨i, rfl, hz, hl⟩
   ·cases h
theorem fS {t : TypeId} {z : Value} (h : bq P t = some z) (w : World) : (zeroValue t).run P w = .ok z w := by
 obtain ⟨i, hi, hz, _⟩ := cK h;simp [zeroValue, typeInfo, hi, hz]
theorem EF {t : TypeId} {d : TypeDesc} (h : P.underlying t = some d) (w : World) : (underlying t).run P w = .ok d w := run_underlying h w
theorem qu {t : TypeId} (h : eG P t = some none) (w : World) : (isAgg t).run P w = .ok false w := by
 unfold eG at h
 cases hu : P.underlying t with
 | none => simp [hu] at h
 | some d =>
  simp only [hu] at h
  cases d <;> simp_all [isAgg, run_underlying hu]
theorem qw {t : TypeId} {n : Nat} (h : eG P t = some (some n)) (w : World) : (isAgg t).run P w = .ok true w ∧ cm P t = some n := by
 unfold eG at h
 cases hu : P.underlying t with
 | none => simp [hu] at h
 | some d =>
  simp only [hu] at h
  cases d <;> simp_all [isAgg, run_underlying hu]
theorem agI {op : BinOp} {k : IntKind} {a b : Int} {v : Value} (h : j9 op k a b = some v) (t : TypeId) (w : World) (hs : op ≠ .shl) (hr : op ≠ .shr) : (binOp op t (.int k a) (.int k b)).run P w = .ok v w := by
 cases op <;> simp only [j9] at h <;> first
  | (cases h; simp [binOp, Op.intArith, Op.intCmp, Op.intBits, Go.bits]; done)
  | (split at h <;> first | (cases h; done) | (cases h; rename_i hb; simp [binOp, Op.intDiv, hb]; done))
  | (cases h; done)
  | exact absurd rfl hs
  | exact absurd rfl hr
theorem RU {op : BinOp} {k yk : IntKind} {a b : Int} {v : Value} (h : mG op k a b = some v) (w : World) : (Op.shift op k a yk b).run P w = .ok v w := by
 unfold mG at h
 split at h
 ·cases h
 ·rename_i hb
  cases op <;> simp only at h <;> first | (cases h; done) | (cases h; simp [Op.shift, hb])
theorem Dz : ∀ {xs ys : List Value} {xs' ys' : List Value} {r : Bool}, bm xs ys = some r → LRel P ρ xs xs' → LRel P ρ ys ys' → xs' = xs ∧ ys' = ys := by
 intro xs
 induction xs with
 | nil =>
  intro ys xs' ys' r h h1 h2
  cases ys with
  | nil => exact ⟨List.eq_nil_of_length_eq_zero h1.1.symm, List.eq_nil_of_length_eq_zero h2.1.symm⟩
  | cons => simp [bm] at h
 | cons x xs ih =>
  intro ys xs' ys' r h h1 h2
  cases ys with
  | nil => simp [bm] at h
  | cons y ys =>
   cases xs' with
   | nil => have := h1.1; simp at this
   | cons x' xs' =>
    cases ys' with
    | nil => have := h2.1; simp at this
    | cons y' ys' =>
     cases x <;> cases y <;> simp only [bm] at h <;> try (cases h; done)
     rename_i k a k' b
     split at h
     ·obtain ⟨r', hr', _⟩ := au.1 h
      have hx := (h1.2 0 (.int k a) x' (by simp) (by simp)).int_inv;have hy := (h2.2 0 (.int k' b) y' (by simp) (by simp)).int_inv
      have t1 : LRel P ρ xs xs' := by simpa using h1.drop 1
      have t2 : LRel P ρ ys ys' := by simpa using h2.drop 1
      obtain ⟨e1, e2⟩ := ih hr' t1 t2;exact ⟨by rw [hx, e1], by rw [hy, e2]⟩
     ·cases h
end
section
variable {P : Program} {ρ : aV}
theorem nH {sub : List Field → Option Nat} : ∀ {fs : List Field} {n m : Nat}, fc P sub n fs = some m → n ≤ m := by
 intro fs
 induction fs with
 | nil => intro n m h; simp [fc] at h; omega
 | cons f fs ih =>
  intro n m h;simp only [fc] at h
  split at h
  ·split at h
   ·have := ih h; omega
   ·split at h
    ·split at h
     ·have := ih h; omega
     ·cases h
    ·cases h
   ·cases h
  ·cases h
theorem NC : ∀ {a a' b b' : List Value} {r : Bool}, a.length = a'.length → bm (a ++ b) (a' ++ b') = some r → ∃ r1 r2, bm a a' = some r1 ∧ bm b b' = some r2 ∧ r = (r1 && r2) := by
 intro a
 induction a with
 | nil =>
  intro a' b b' r hl h;have : a' = [] := List.eq_nil_of_length_eq_zero hl.symm;subst this;exact ⟨true, r, rfl, h, by simp⟩
 | cons x a ih =>
  intro a' b b' r hl h
  cases a' with
  | nil => simp at hl
  | cons y a' =>
   simp only [List.cons_append] at h
   cases x <;> cases y <;> simp only [bm] at h <;> try (cases h; done)
   rename_i k1 u k2 v
   split at h
   ·rename_i hk
    obtain ⟨r', hr', hr⟩ := au.1 h;obtain ⟨r1, r2, h1, h2, h3⟩ := ih (by simpa using hl) hr';refine ⟨u == v && r1, r2, ?_, h2, ?_⟩
    ·simp only [bm, if_pos hk, h1, ff]
    ·rw [← hr, h3, Bool.and_assoc]
   ·cases h
theorem Gf (X : Array Value) {n k : Nat} (h : n + k ≤ X.size) : X.toList.drop n = (X.extract n (n + k)).toList ++ X.toList.drop (n + k) := by
 rw [Array.toList_extract, List.extract_eq_take_drop, show n + k - n = k from by omega, ← List.drop_drop];exact (List.take_append_drop k (X.toList.drop n)).symm
theorem DD {sub : List Field → Option Nat} {D : Nat} {w : World} (hsub : ∀ (gs : List Field) (k : Nat) (X Y : Array Value) (r : Bool), sub gs = some k → X.size = k → Y.size = k → bm X.toList Y.toList = some r → (Op.eqFields D X Y gs).run P w = .ok r w) (X Y : Array Value) :
 ∀ {fs : List Field} {n m : Nat} {r : Bool}, fc P sub n fs = some m → X.size = m → Y.size = m →
 bm (X.toList.drop n) (Y.toList.drop n) = some r → (Op.eqFields (D + 1) X Y fs).run P w = .ok r w := by
 intro fs
 induction fs with
 | nil =>
  intro n m r h hX hY he;simp [fc] at h;rw [List.drop_eq_nil_of_le (by simp; omega), List.drop_eq_nil_of_le (by simp; omega)] at he;simp [bm] at he;simp [Op.eqFields, ← he]
 | cons f fs ih =>
  intro n m r h hX hY he;simp only [fc] at h
  split at h
  ·rename_i hf
   split at h
   ·rename_i k hk
    have hlen := nH h
    have hnX : n < X.toList.length := by simp; omega
    have hnY : n < Y.toList.length := by simp; omega
    rw [List.drop_eq_getElem_cons hnX, List.drop_eq_getElem_cons hnY] at he
    generalize hx : X.toList[n] = x at he
    generalize hy : Y.toList[n] = y at he
    cases x <;> cases y <;> simp only [bm] at he <;> try (cases he; done)
    rename_i k1 a k2 b
    split at he
    ·rename_i hkk
     subst hkk;obtain ⟨r', hr', hr⟩ := au.1 he;have ih' := ih h hX hY hr'
     have hXn : X[n]? = some (.int k1 a) := by rw [← Array.getElem?_toList, na hnX, hx]
     have hYn : Y[n]? = some (.int k1 b) := by rw [← Array.getElem?_toList, na hnY, hy]
     have hag : (isAgg f.type).run P w = .ok false w := by simp [isAgg, run_underlying hk]
     simp only [Op.eqFields, hf.1, ne_eq, not_false_eq_true, if_true, part, Sem.run_bind, hag, Result.andThen_ok, Sem.run_ite, Bool.false_eq_true, if_false, hf.2, hXn, hYn, Sem.run_pure, run_equalIn_int w D f.type k1 k a b hk];cases hab : (a == b)
     ·simp [hab] at hr; simp [← hr]
     ·simp [hab] at hr; simpa [hr] using ih'
    ·cases he
   ·rename_i gs hk
    split at h
    ·rename_i k hs
     split at h
     ·rename_i hc
      have hlen := nH h;rw [Gf X (n := n) (k := k) (by omega), Gf Y (n := n) (k := k) (by omega)] at he
      have sX : (X.extract n (n + k)).size = k := by rw [Array.size_extract]; omega
      have sY : (Y.extract n (n + k)).size = k := by rw [Array.size_extract]; omega
      obtain ⟨r1, r2, h1, h2, h3⟩ := NC (by simp only [Array.length_toList, sX, sY]) he;have ih' := ih h hX hY h2;have hq := hsub gs.toList k _ _ r1 hs sX sY h1
      have hag : (isAgg f.type).run P w = .ok true w := by simp [isAgg, run_underlying hk]
      have hsz := cG hc.1 w
      have hfs : P.fieldsOf f.type = gs := by simp [Program.fieldsOf, hk]
      have hst := run_equalIn_struct w D f.type (X.extract n (n + k)) (Y.extract n (n + k)) (by rw [hfs]; exact hk) hc.2;rw [hfs, hq] at hst;simp only [Op.eqFields, hf.1, ne_eq, not_false_eq_true, if_true, part, Sem.run_bind, hag, Result.andThen_ok, Sem.run_ite, hf.2, hsz, Sem.run_pure, hst];cases r1
      ·simp at h3; simp [h3]
      ·simp at h3; simpa [h3] using ih'
     ·cases h
    ·cases h
   ·cases h
  ·cases h
theorem aj1 (w : World) : ∀ (e d : Nat) (X Y : Array Value) {fs : List Field} {n m : Nat} {r : Bool}, qI P e n fs = some m → X.size = m → Y.size = m →
 bm (X.toList.drop n) (Y.toList.drop n) = some r → (Op.eqFields (d + e + 1) X Y fs).run P w = .ok r w := by
 intro e
 induction e with
 | zero => intro d X Y fs n m r h hX hY he; exact DD (D := d) (fun gs k X Y r h => by cases h) X Y h hX hY he
 | succ e ih => intro d X Y fs n m r h hX hY he; exact DD (D := d + e + 1) (fun gs k X Y r h hX hY he => ih d X Y h hX hY (by simpa using he)) X Y h hX hY he
theorem Ju {t : TypeId} {n : Nat} (h : yl P t = some n) {X Y : Array Value} (hX : X.size = n) (hY : Y.size = n) {r : Bool} (he : bm X.toList Y.toList = some r) (w : World) :
 (Op.equalIn 10000 t (.agg X) (.agg Y)).run P w = .ok r w ∧ P.eqGuardType P.depth t = false := by
 unfold yl at h
 cases hu : P.underlying t with
 | none => simp [hu] at h
 | some dsc =>
  cases dsc <;> simp only [hu] at h <;> try (cases h; done)
  rename_i fs
  split at h
  ·rename_i hc
   refine ⟨?_, hc.2⟩
   have hfs : P.fieldsOf t = fs := by simp [Program.fieldsOf, hu]
   rw [run_equalIn_struct w 9999 t X Y (by rw [hfs]; exact hu) hc.1, hfs];exact aj1 w 2 9996 X Y h hX hY (by simpa using he)
  ·cases h
theorem VU (d : Nat) {t : TypeId} (hu : P.underlying t = some .bool) (a b : Bool) (w : World) : (Op.equalIn (d + 1) t (.bool a) (.bool b)).run P w = .ok (a == b) w := run_equalIn_bool w d t a b hu
theorem YR (d : Nat) {t el : TypeId} (hu : P.underlying t = some (.pointer el)) (a : Option Addr) (w : World) : (Op.equalIn (d + 1) t (.pointer a) (.pointer none)).run P w = .ok a.isNone w := by
 cases a <;> simp [Op.equalIn, run_underlying hu]
theorem VW (d : Nat) {t el : TypeId} (hu : P.underlying t = some (.pointer el)) (a : Addr) (w : World) : (Op.equalIn (d + 1) t (.pointer none) (.pointer (some a))).run P w = .ok false w := by
 simp [Op.equalIn, run_underlying hu]
theorem PH (d : Nat) {t el : TypeId} (hu : P.underlying t = some (.slice el)) (a : Option Addr) (n k m l : Nat) (w : World) : (Op.equalIn (d + 1) t (.slice a n k) (.slice none m l)).run P w = .ok a.isNone w := by
 cases a <;> simp [Op.equalIn, run_underlying hu]
theorem ND (d : Nat) {t el : TypeId} (hu : P.underlying t = some (.slice el)) (a : Addr) (n k m l : Nat) (w : World) : (Op.equalIn (d + 1) t (.slice none n k) (.slice (some a) m l)).run P w = .ok false w := by
 simp [Op.equalIn, run_underlying hu]
theorem YQ (d : Nat) {t kt el : TypeId} (hu : P.underlying t = some (.map kt el)) (a : Option Nat) (w : World) : (Op.equalIn (d + 1) t (.map a) (.map none)).run P w = .ok a.isNone w := by
 cases a <;> simp [Op.equalIn, run_underlying hu]
theorem VV (d : Nat) {t kt el : TypeId} (hu : P.underlying t = some (.map kt el)) (a : Nat) (w : World) : (Op.equalIn (d + 1) t (.map none) (.map (some a))).run P w = .ok false w := by
 simp [Op.equalIn, run_underlying hu]
theorem BZ (d : Nat) {t : TypeId} {ps rs : Array TypeId} {va : Bool} (hu : P.underlying t = some (.func ps rs va)) (f : Fn) (a c : Array Value) (w : World) :
 (Op.equalIn (d + 1) t (.func f a c) .nilFunc).run P w = .ok false w ∧ (Op.equalIn (d + 1) t .nilFunc (.func f a c)).run P w = .ok false w ∧ (Op.equalIn (d + 1) t .nilFunc .nilFunc).run P w = .ok true w := by
 refine ⟨?_, ?_, ?_⟩ <;> simp [Op.equalIn, run_underlying hu]
theorem s9 {t : TypeId} {x y : Value} {r : Bool} {w : World} (X Y : Operand) (op : BinOp) (hop : op = .eql ∨ op = .neq) (hg : (eqGuard op t X Y x y).run P w = .ok () w)
 (hi : ∀ k a, x ≠ .int k a) (hf : ∀ k a, x ≠ .float k a) (hc : ∀ k a b, x ≠ .complex k a b) (hs : ∀ a, x ≠ .string a) (he : (Op.equalIn 10000 t x y).run P w = .ok r w) :
 (do eqGuard op t X Y x y; binOp op t x y : Sem Value).run P w = .ok (.bool (if op = .eql then r else !r)) w := by
 have he' : (Op.equal t x y).run P w = .ok r w := he;simp only [Sem.run_bind, hg, Result.andThen_ok]
 rcases hop with rfl | rfl
 ·have e : binOp .eql t x y = (do pure (.bool (← Op.equal t x y)) : Sem Value) := by
   cases x <;> first | rfl | exact absurd rfl (hi _ _) | exact absurd rfl (hf _ _) | exact absurd rfl (hc _ _ _) | exact absurd rfl (hs _)
  rw [e]; simp [he']
 ·have e : binOp .neq t x y = (do pure (.bool (!(← Op.equal t x y))) : Sem Value) := by
   cases x <;> first | rfl | exact absurd rfl (hi _ _) | exact absurd rfl (hf _ _) | exact absurd rfl (hc _ _ _) | exact absurd rfl (hs _)
  rw [e]; simp [he']
theorem UU {t : TypeId} {x y x' y' : Value} {r : Bool} (h : rn (Dv P t) x y = some r) (hx : VRel P ρ x x') (hy : VRel P ρ y y') (X Y : Operand) (w : World) (op : BinOp) (hop : op = .eql ∨ op = .neq) :
 (do eqGuard op t X Y x' y'; binOp op t x' y' : Sem Value).run P w = .ok (.bool (if op = .eql then r else !r)) w := by
 unfold Dv at h
 cases hu : P.underlying t with
 | none => simp [hu, rn] at h
 | some d =>
  cases d <;> simp only [hu] at h <;> try (simp [rn] at h; done)
  case bool =>
   cases x <;> cases y <;> simp [rn] at h
   rw [hx.bool_inv, hy.bool_inv];exact s9 X Y op hop (by rw [eqGuard_at_bool]; rfl) (by simp) (by simp) (by simp) (by simp) (by rw [VU 9999 hu, h])
  case pointer el =>
   cases x <;> cases y <;> simp only [rn] at h <;> try (cases h; done)
   rename_i a b
   obtain ⟨a', rfl, ha⟩ := hx.pointer_inv;obtain ⟨b', rfl, hb⟩ := hy.pointer_inv;refine s9 X Y op hop (by rw [eqGuard_at_pointer]; rfl) (by simp) (by simp) (by simp) (by simp) ?_
   cases b with
   | none =>
    have hb' : b' = none := by cases b' <;> simp_all
    subst hb';rw [YR 9999 hu, ha]
    cases a <;> simp [rn] at h <;> simp [h]
   | some b =>
    cases a with
    | some a => simp [rn] at h
    | none =>
     have ha' : a' = none := by cases a' <;> simp_all
     subst ha'
     cases b' with
     | none => simp at hb
     | some b' => simp [rn] at h; rw [VW 9999 hu, ← h]
  case slice el =>
   cases x <;> cases y <;> simp only [rn] at h <;> try (cases h; done)
   rename_i a n1 k1 b n2 k2
   obtain ⟨a', _, rfl, ha⟩ := hx.anyslice_inv;obtain ⟨b', _, rfl, hb⟩ := hy.anyslice_inv;refine s9 X Y op hop (by rw [eqGuard_at_slice]; rfl) (by simp) (by simp) (by simp) (by simp) ?_
   cases b with
   | none =>
    have hb' : b' = none := by cases b' <;> simp_all
    subst hb';rw [PH 9999 hu, ha]
    cases a <;> simp [rn] at h <;> simp [h]
   | some b =>
    cases a with
    | some a => simp [rn] at h
    | none =>
     have ha' : a' = none := by cases a' <;> simp_all
     subst ha'
     cases b' with
     | none => simp at hb
     | some b' => simp [rn] at h; rw [ND 9999 hu, ← h]
  case map kt el =>
   cases x <;> cases y <;> simp only [rn] at h <;> try (cases h; done)
   rename_i a b
   obtain ⟨a', rfl, ha⟩ := hx.anymap_inv;obtain ⟨b', rfl, hb⟩ := hy.anymap_inv;refine s9 X Y op hop (by rw [eqGuard_at_map]; rfl) (by simp) (by simp) (by simp) (by simp) ?_
   cases b with
   | none =>
    have hb' : b' = none := by cases b' <;> simp_all
    subst hb';rw [YQ 9999 hu, ha]
    cases a <;> simp [rn] at h <;> simp [h]
   | some b =>
    cases a with
    | some a => simp [rn] at h
    | none =>
     have ha' : a' = none := by cases a' <;> simp_all
     subst ha'
     cases b' with
     | none => simp at hb
     | some b' => simp [rn] at h; rw [VV 9999 hu, ← h]
  case func ps rs va =>
   cases x <;> cases y <;> simp [rn] at h
   ·obtain ⟨f', c', rfl, _⟩ := hx.func_inv
    rw [hy.nilFunc_inv];exact s9 X Y op hop (by rw [eqGuard_at_func]; rfl) (by simp) (by simp) (by simp) (by simp) (by rw [(BZ 9999 hu _ f' c' w).1, h])
   ·obtain ⟨f', c', rfl, _⟩ := hy.func_inv
    rw [hx.nilFunc_inv];exact s9 X Y op hop (by rw [eqGuard_at_nilFunc]; rfl) (by simp) (by simp) (by simp) (by simp) (by rw [(BZ 9999 hu _ f' c' w).2.1, h])
   ·rw [hx.nilFunc_inv, hy.nilFunc_inv]
    exact s9 X Y op hop (by rw [eqGuard_at_nilFunc]; rfl) (by simp) (by simp) (by simp) (by simp) (by rw [(BZ 9999 hu (.func 0) #[] #[] w).2.2, h])
  case struct fs =>
   cases hf : yl P t with
   | none => simp [hf, rn] at h
   | some n =>
    simp only [hf] at h
    cases x <;> cases y <;> simp only [rn] at h <;> try (cases h; done)
    rename_i xs ys
    split at h
    ·rename_i hsz
     obtain ⟨xs', rfl, hxs, hxe⟩ := hx.agg_inv;obtain ⟨ys', rfl, hys, hye⟩ := hy.agg_inv;have hlx : LRel P ρ xs.toList xs'.toList := ⟨by simpa using hxs, fun i a b ha hb => hxe i a b (by simpa using ha) (by simpa using hb)⟩;have hly : LRel P ρ ys.toList ys'.toList := ⟨by simpa using hys, fun i a b ha hb => hye i a b (by simpa using ha) (by simpa using hb)⟩;obtain ⟨e1, e2⟩ := Dz h hlx hly;have e1 := Array.toList_inj.1 e1;have e2 := Array.toList_inj.1 e2;subst e1; subst e2;obtain ⟨hq, hg⟩ := Ju hf hsz.1 hsz.2 h w;exact s9 X Y op hop (run_eqGuard_agg (P := P) w op t X Y xs' ys' hg) (by simp) (by simp) (by simp) (by simp) hq
    ·cases h
theorem Oj {t : TypeId} {op : BinOp} {x y x' y' v : Value} (h : ag (Dv P t) op x y = some v) (hx : VRel P ρ x x') (hy : VRel P ρ y y') (X Y : Operand) (w : World) :
 (do eqGuard op t X Y x' y'; binOp op t x' y' : Sem Value).run P w = .ok v w ∧ cO v = true := by
 by_cases hi : ∃ k a k' b, x = .int k a ∧ y = .int k' b
 ·obtain ⟨k, a, k', b, rfl, rfl⟩ := hi
  rw [hx.int_inv, hy.int_inv, eqGuard_at_int];simp only [ag] at h
  have lit : ∀ {op' : BinOp}, j9 op' k a b = some v → cO v = true := by
   intro op' hp
   cases op' <;> simp only [j9] at hp <;> first | (cases hp; rfl) | (split at hp <;> first | (cases hp; done) | (cases hp; rfl)) | (cases hp; done)
  have lits : ∀ {op' : BinOp}, mG op' k a b = some v → cO v = true := by
   intro op' hp;unfold mG at hp
   split at hp
   ·cases hp
   ·cases op' <;> simp only at hp <;> first | (cases hp; done) | (cases hp; rfl)
  cases op <;> simp only at h <;> first
   | (refine ⟨?_, lits h⟩; have := RU (P := P) (yk := k') h w; simpa [binOp] using this)
   | (split at h
      ·rename_i hk; subst hk; exact ⟨by simpa using agI (P := P) h t w (by simp) (by simp), lit h⟩
      ·cases h)
 ·by_cases hs : ∃ a b, x = .string a ∧ y = .string b
  ·obtain ⟨a, b, rfl, rfl⟩ := hs
   rw [hx.string_inv, hy.string_inv, eqGuard_at_string];simp only [ag] at h
   cases op <;> simp only [Xg] at h <;> first | (cases h; done) | (cases h; refine ⟨?_, rfl⟩; simp [binOp, Op.stringOp, beq_toListBytes]) | (split at h <;> first | (cases h; done) | (rename_i hlen; cases h; refine ⟨?_, rfl⟩; simp only [binOp, Op.stringOp]; rw [if_neg (by simp [IntKind.max, IntKind.bits, IntKind.signed]; omega)]; rfl))
  ·have h' : JH (Dv P t) op x y = some v := by
    cases x <;> cases y <;> first | (exfalso; exact hi ⟨_, _, _, _, rfl, rfl⟩) | (exfalso; exact hs ⟨_, _, rfl, rfl⟩) | (simp only [ag] at h; exact h)
   cases op <;> simp only [JH] at h' <;> try (cases h'; done)
   ·obtain ⟨r, hr, rfl⟩ := au.1 h'
    exact ⟨by simpa using UU hr hx hy X Y w .eql (.inl rfl), rfl⟩
   ·obtain ⟨r, hr, rfl⟩ := au.1 h'
    exact ⟨by simpa using UU hr hx hy X Y w .neq (.inr rfl), rfl⟩
theorem UV {op : UnOp} {x x' v : Value} (h : xi op x = some v) (hx : VRel P ρ x x') (w : World) : (Op.unary op x').run P w = .ok v w ∧ cO v = true := by
 cases op <;> cases x <;> simp only [xi] at h <;> try (cases h; done)
 ·cases h; rw [hx.int_inv]; exact ⟨by simp [Op.unary, Op.intArith], rfl⟩
 ·cases h; rw [hx.int_inv]; exact ⟨by simp [Op.unary, Op.intBits, Go.bits], rfl⟩
 ·cases h; rw [hx.bool_inv]; exact ⟨by simp [Op.unary], rfl⟩
end
section
variable {P : Program} {w0 : World} {B : Nat} {ρ : aV} {H : AH} {w : World}
def sP (P : Program) (w0 : World) (B : Nat) (ρ : aV) (H : AH) (w : World) (r : Result Next) (v : Value) (H' : AH) : Prop :=
 ∃ v' w' ρ', (r = .ok (.value v') w' ∨ (r = .ok .skip w' ∧ v' = undef)) ∧ VRel P ρ' v v' ∧ eE ρ H w ρ' H' w' ∧ Rel P w0 B ρ' H' w'
theorem sP.pure (hR : Rel P w0 B ρ H w) {r : Result Next} {v v' : Value} (hr : r = .ok (.value v') w) (hv : VRel P ρ v v') : sP P w0 B ρ H w r v H :=
 ⟨v', w, ρ, .inl hr, hv, eE.refl _ _ _, hR⟩
theorem Aj {v : Value} {b o : Nat} (h : uk v = some (b, o)) : v = .pointer (some ⟨b, o, none⟩) := by
 unfold uk at h
 split at h
 ·cases h; rfl
 ·cases h
theorem kV {b : Nat} {cs : List Value} (h : dm H b = some cs) : ∃ ro, H.get b = some (.cells ro cs) := by
 unfold dm at h
 split at h
 ·rename_i ro cs' hg; cases h; exact ⟨ro, hg⟩
 ·cases h
theorem Rel.cells (hR : Rel P w0 B ρ H w) {b c d sz : Nat} {ro : Bool} {cs : List Value} (hb : ρ b = some (c, d, sz)) (ho : H.get b = some (.cells ro cs)) :
 ∃ cc el fz, w.heap[c]? = some (.cells cc el fz) ∧ cc.size = sz ∧ d + cs.length ≤ sz ∧ (ro = false → fz = (0, 0)) ∧ LRel P ρ cs ((cc.toList.drop d).take cs.length) :=
 hR.obj b c d sz _ hb ho
theorem Kc {c d o n : Nat} {cc : Array Value} {el : TypeId} {fz : Nat × Nat} {y : Value} (hg : w.heap[c]? = some (.cells cc el fz)) (hy : ((cc.toList.drop d).take n)[o]? = some y) :
 w.cell? ⟨c, d + o, none⟩ = some y := by
 rw [List.getElem?_take] at hy
 split at hy
 ·rw [List.getElem?_drop, Array.getElem?_toList] at hy
  simp [World.cell?, hg, hy]
 ·cases hy
theorem afW (hR : Rel P w0 B ρ H w) {v v' x : Value} (h : aA v H = some x) (hv : VRel P ρ v v') : ∃ a' x', v' = .pointer (some a') ∧ (load a').run P w = .ok x' w ∧ VRel P ρ x x' := by
 unfold aA at h;obtain ⟨⟨b, o⟩, ha, h⟩ := ai.1 h;obtain ⟨cs, hc, h⟩ := ai.1 h;rw [Aj ha] at hv;obtain ⟨c, d, sz, hb, rfl⟩ := hv.ptr_inv;obtain ⟨ro, hg⟩ := kV hc;obtain ⟨cc, el, fz, hw, _, _, _, hl⟩ := hR.cells hb hg;obtain ⟨x', hx', hxx⟩ := hl.get h;refine ⟨_, x', rfl, ?_, hxx⟩;have hcell := Kc hw hx';simp [run_load, hcell]
theorem Jz (hR : Rel P w0 B ρ H w) {n : Nat} {v v' x : Value} (h : aQ n v H = some x) (hv : VRel P ρ v v') : ∃ a' xs', v' = .pointer (some a') ∧ (loadCells a' n).run P w = .ok xs' w ∧ VRel P ρ x (.agg xs') := by
 unfold aQ at h;obtain ⟨⟨b, o⟩, ha, h⟩ := ai.1 h;obtain ⟨cs, hc, h⟩ := ai.1 h;rw [Aj ha] at hv;obtain ⟨c, d, sz, hb, rfl⟩ := hv.ptr_inv;obtain ⟨ro, hg⟩ := kV hc;obtain ⟨cc, el, fz, hw, _, _, _, hl⟩ := hR.cells hb hg
 split at h
 ·rename_i hle
  cases h;have hl' := (hl.drop o).take n
  have hlen : ((((cc.toList.drop d).take cs.length).drop o).take n).length = n := by rw [← hl'.1]; simp; simp at hle; omega
  have hrun := run_loadCells_list (P := P) w ⟨c, d + o, none⟩ ((((cc.toList.drop d).take cs.length).drop o).take n) (by
   intro j y hy;rw [List.getElem?_take] at hy
   split at hy
   ·rw [List.getElem?_drop] at hy
    have := Kc hw hy;rw [Addr.add_lit, Nat.add_assoc];exact this
   ·cases hy)
  rw [hlen] at hrun;exact ⟨_, _, rfl, hrun, hl'.toAgg⟩
 ·cases h
theorem IO {cc : List Value} {d o n : Nat} {xs : List Value} (hd : d + n ≤ cc.length) (ho : o + xs.length ≤ n) :
 ((cc.take (d + o) ++ xs ++ cc.drop (d + o + xs.length)).drop d).take n = splice ((cc.drop d).take n) o xs := by
 unfold splice;apply List.ext_getElem?;intro i;simp only [List.getElem?_take, List.getElem?_drop, List.getElem?_append, List.length_take, cT, List.length_drop]
 have m1 : min (d + o) cc.length = d + o := by omega
 have m2 : min n (cc.length - d) = n := by omega
 have m3 : min o n = o := by omega
 simp only [m1, m2, m3]
 by_cases hi : i < n
 ·simp only [hi, if_true]
  by_cases h1 : i < o
  ·have a1 : d + i < d + o := by omega
   have a2 : d + i < d + o + xs.length := by omega
   have a3 : i < o + xs.length := by omega
   simp [h1, a1, a2, a3]
  ·by_cases h2 : i < o + xs.length
   ·have a1 : ¬ d + i < d + o := by omega
    have a2 : d + i < d + o + xs.length := by omega
    have a4 : d + i - (d + o) = i - o := by omega
    simp [h1, h2, a1, a2, a4]
   ·have a2 : ¬ d + i < d + o + xs.length := by omega
    have a5 : o + xs.length + (i - (o + xs.length)) < n := by omega
    have a6 : d + o + xs.length + (d + i - (d + o + xs.length)) = d + (o + xs.length + (i - (o + xs.length))) := by omega
    simp [h2, a2, a5, a6]
 ·simp only [hi, if_false]
  have a3 : ¬ i < o + xs.length := by omega
  have a5 : ¬ o + xs.length + (i - (o + xs.length)) < n := by omega
  simp [a3, a5]
theorem kC {cs xs : List Value} {o : Nat} (h : o + xs.length ≤ cs.length) : (splice cs o xs).length = cs.length := by
 unfold splice; simp; omega
theorem LRel.splice {cs cs' xs xs' : List Value} (h : LRel P ρ cs cs') (hx : LRel P ρ xs xs') (o : Nat) : LRel P ρ (Gst.splice cs o xs) (Gst.splice cs' o xs') := by
 unfold Gst.splice;rw [← hx.1];exact ((h.take o).append hx).append (h.drop _)
theorem Oi {xs xs' : List Value} (h : LRel P ρ xs xs') (ha : xs.all Value.oneCell' = true) : ∀ v ∈ xs', v.oneCell' = true := by
 intro v hv;obtain ⟨i, hi, rfl⟩ := List.getElem_of_mem hv
 have hi' : i < xs.length := by have := h.1; omega
 have hr := h.2 i xs[i] xs'[i] (na hi') (na hi);rw [← hr.oneCell];exact List.all_eq_true.1 ha _ (tY hi')
theorem aoP (hR : Rel P w0 B ρ H w) {n : Nat} {v v' x x' : Value} {H' : AH} (h : fT n v x H = some H') (hv : VRel P ρ v v') (hx : VRel P ρ x x') :
 ∃ a' w', v' = .pointer (some a') ∧ x'.cells.size = n ∧ (storeCells a' x'.cells.toList).run P w = .ok () w' ∧ eE ρ H w ρ H' w' ∧ Rel P w0 B ρ H' w' := by
 unfold fT at h;obtain ⟨⟨b, o⟩, ha, h⟩ := ai.1 h;rw [Aj ha] at hv;obtain ⟨c, d, sz, hb, rfl⟩ := hv.ptr_inv;simp only at h
 split at h
 ·rename_i cs hg
  split at h
  ·rename_i hcond
   obtain ⟨hn, hfit, hone⟩ := hcond;cases h;obtain ⟨cc, el, fz, hw, hsz, hd, hfz, hl⟩ := hR.cells hb hg;have hfz := hfz rfl;subst hfz;have hxc := hx.cells
   have hlen : x'.cells.toList.length = n := by rw [← hxc.1]; simpa using hn
   have hlenx : x.cells.toList.length = n := by simpa using hn
   have hst := run_storeCells_at P c (d + o) el x'.cells.toList 0 cc w hw (by rw [hlen]; omega) (Oi hxc hone);simp only [Nat.add_zero] at hst;have hset := hR.setBlock (o := .cells false cs) (o' := .cells false (Gst.splice cs o x.cells.toList)) hb hg rfl rfl
    (w' := w.setRow c (cc.toList.take (d + o) ++ x'.cells.toList ++ cc.toList.drop (d + o + x'.cells.toList.length)).toArray)
    rfl rfl rfl (size_setRow ..) (fun k hk => setRow_other w c k _ hk)
    ⟨_, el, (0, 0), setRow_heap w c cc _ el (0, 0) hw, (by have h1 := hlen; simp at h1 ⊢; omega), by rw [kC (by rw [hlenx]; exact hfit)]; exact hd, fun _ => rfl, by
     have hwin := IO (cc := cc.toList) (d := d) (o := o) (n := cs.length) (xs := x'.cells.toList) (by simp; omega) (by rw [hlen]; exact hfit);rw [kC (by rw [hlenx]; exact hfit)];have e : (cc.toList.take (d + o) ++ x'.cells.toList ++ cc.toList.drop (d + o + x'.cells.toList.length)).toArray.toList = cc.toList.take (d + o) ++ x'.cells.toList ++ cc.toList.drop (d + o + x'.cells.toList.length) := rfl;rw [e, hwin]
     exact hl.splice hxc o⟩
   refine ⟨_, _, rfl, by simpa using hlen, hst, hset.2, hset.1⟩
  ·cases h
 ·cases h
theorem wt (hR : Rel P w0 B ρ H w) {cs cs' : List Value} {el : TypeId} (hl : LRel P ρ cs cs') :
 Rel P w0 B (ρ.upd H.size (w.heap.size, 0, cs'.length)) (H.push (.cells false cs)) (w.alloc (.cells cs'.toArray el)) ∧
 eE ρ H w (ρ.upd H.size (w.heap.size, 0, cs'.length)) (H.push (.cells false cs)) (w.alloc (.cells cs'.toArray el)) :=
 hR.push rfl ⟨_, el, (0, 0), rfl, by simp, by rw [hl.1]; omega, fun _ => rfl, by rw [hl.1]; simpa using hl⟩
theorem af9 (hR : Rel P w0 B ρ H w) {cs cs' : List Value} {el : TypeId} (hl : LRel P ρ cs cs') {r : Result Next} (hr : r = .ok (.value (.pointer (some ⟨w.heap.size, 0, none⟩))) (w.alloc (.cells cs'.toArray el))) :
 sP P w0 B ρ H w r (.pointer (some ⟨H.size, 0, none⟩)) (H.push (.cells false cs)) :=
 ⟨_, _, _, .inl hr, .ptr (d := 0) (o := 0) (aV.upd_same ..), (wt hR hl).2, (wt hR hl).1⟩
end
section
variable {P : Program} {w0 : World} {B : Nat} {ρ : aV} {H : AH} {w : World}
theorem U3 (hR : Rel P w0 B ρ H w) {e m : Nat} {x x' : Value} {news : List Value} (h : nc e x H = some (m, news)) (hx : VRel P ρ x x') :
 ∃ a' k' news', x' = .slice a' m k' ∧ LRel P ρ news news' ∧ news'.length = m * e ∧ (Builtin.firstCells e m x').run P w = .ok news'.toArray w ∧ (Builtin.firstCells e m x').run P w.drew = .ok news'.toArray w.drew := by
 by_cases hsl : ∃ a n k, x = .slice a n k
 case neg =>
  exfalso
  cases x <;> first | exact hsl ⟨_, _, _, rfl⟩ | (simp [nc] at h)
 obtain ⟨a, n, k, rfl⟩ := hsl
 cases a with
 | none =>
  simp only [nc] at h
  split at h
  ·rename_i hn
   cases h;subst hn;rw [hx.nilslice_inv];exact ⟨none, k, [], rfl, LRel.nil, by simp, by simp [Builtin.firstCells], by simp [Builtin.firstCells]⟩
  ·cases h
 | some ad =>
  obtain ⟨b, o, sp⟩ := ad
  cases sp with
  | some sp => simp [nc] at h
  | none =>
  simp only [nc] at h
  split at h
  ·rename_i hm
   cases h;subst hm;obtain ⟨a', k', rfl, ha⟩ := hx.anyslice_inv
   cases a' with
   | none => simp at ha
   | some a' => exact ⟨some a', k', [], rfl, LRel.nil, by simp, by simp [Builtin.firstCells, loadCells, loadCellsFrom], by simp [Builtin.firstCells, loadCells, loadCellsFrom]⟩
  ·rename_i hm
   have h2 := ai.1 h
   clear h
   obtain ⟨cs, hc, h⟩ := h2
   split at h
   ·rename_i hle
    cases h
    cases hx with
    | lit h => simp [cO] at h
    | slice0 h => exact absurd rfl hm
    | empty => exact absurd rfl hm
    | slice hb hk hn he =>
     rename_i c d sz k'
     have hld : aQ (m * e) (.pointer (some ⟨b, o, none⟩)) H = some (.agg ((cs.drop o).take (m * e)).toArray) := by
      simp [aQ, uk, hc, hle]
     obtain ⟨a', xs', ha', hrun, hv⟩ := Jz hR hld (.ptr hb);cases ha';obtain ⟨ys, hys, hsz, hel⟩ := hv.agg_inv;cases hys
     have hrun2 : (loadCells ⟨c, d + o, none⟩ (m * e)).run P w.drew = .ok xs' w.drew := by
      obtain ⟨a2, xs2, ha2, hr2, _⟩ := Jz hR.drew hld (.ptr hb);cases ha2;have hcs : (loadCells ⟨c, d + o, none⟩ (m * e)).run P w = .ok xs' w := hrun
      -- the cells are the same ones
      obtain ⟨ro, hg⟩ := kV hc;obtain ⟨cc, el, fz, hw, hsz', hd', _, _⟩ := hR.cells hb hg
      have hrd : ∀ (W : World), W.heap[c]? = some (.cells cc el fz) → (loadCells ⟨c, d + o, none⟩ (m * e)).run P W = .ok ((cc.toList.drop (d + o)).take (m * e)).toArray W := by
       intro W hW
       have hl : ((cc.toList.drop (d + o)).take (m * e)).length = m * e := by simp; omega
       have := run_loadCells_list (P := P) W ⟨c, d + o, none⟩ ((cc.toList.drop (d + o)).take (m * e)) (by
        intro j y hy;rw [List.getElem?_take] at hy
        split at hy
        ·rw [List.getElem?_drop, Array.getElem?_toList] at hy
         rw [Addr.add_lit];simp [World.cell?, hW, hy]
        ·cases hy)
       rwa [hl] at this
      rw [hrd w hw] at hcs;cases hcs;exact hrd w.drew hw
     refine ⟨some ⟨c, d + o, none⟩, k', xs'.toList, rfl, ⟨by simpa using hsz, fun i x y hx hy => hel i x y (by simpa using hx) (by simpa using hy)⟩, ?_, ?_, ?_⟩
     ·have := hsz; simp at this ⊢; omega
     ·simpa [Builtin.firstCells] using hrun
     ·simpa [Builtin.firstCells] using hrun2
   ·cases h
theorem DV {t u ty el : TypeId} {i : TypeInfo} {z : Value} (ht : P.underlying t = some (.slice el)) (hu : P.underlying u = some (.slice el)) (hi : P.info? el = some i) (hz : i.zero = some z)
 (base : Option Addr) (sLen sCap : Nat) (olds' : List Value) (ho : (Builtin.firstCells i.size sLen (.slice base sLen sCap)).run P w.drew = .ok olds'.toArray w.drew)
 {a' : Option Addr} {m k' : Nat} {news' : List Value} (hx : (Builtin.firstCells i.size m (.slice a' m k')).run P w.drew = .ok news'.toArray w.drew)
 (hg : sCap < sLen + m) (hb : (sLen + m) * i.bytes ≤ cg) (h63 : sLen + m ≤ cg) :
 (Builtin.append_ #[t, u] ty #[.slice base sLen sCap, .slice a' m k']).run P w =
  .ok (.slice (some ⟨w.heap.size, 0, none⟩) (sLen + m) (grownCap w (sLen + m) sCap el))
   (w.drew.alloc (.cells (olds' ++ news' ++ (Builtin.zeroCells z.cells (grownCap w (sLen + m) sCap el - (sLen + m))).toList).toArray el)) := by
 unfold cg at hb h63
 have hn : ¬ (sLen + m ≤ sCap) := by omega
 have h63' : ¬ (9223372036854775807 < ((sLen : Int) + (m : Int))) := by omega
 have h48' : ¬ (281474976710656 < Builtin.nextslicecap (sLen + m) sCap * i.bytes) := by
  have := growslice_fits hg hb; omega
 simp [Builtin.append_, run_underlying ht, run_underlying hu, sizeOf, typeInfo, zeroValue, hi, hz, Builtin.lenOf, hn, h63', h48', Question.forced, ho, hx, newRow, grownCap]
 congr 2
 apply Array.ext';simp [List.append_assoc]
theorem gO {t u ty el : TypeId} {i : TypeInfo} (ht : P.underlying t = some (.slice el)) (hu : P.underlying u = some (.slice el)) (hi : P.info? el = some i)
 (base : Addr) (sLen sCap : Nat) {a' : Option Addr} {m k' : Nat} {news' : List Value} (hx : (Builtin.firstCells i.size m (.slice a' m k')).run P w = .ok news'.toArray w)
 (hg : sLen + m ≤ sCap) {w' : World} (hst : (storeCells (base.add (sLen * i.size)) news').run P w = .ok () w') :
 (Builtin.append_ #[t, u] ty #[.slice (some base) sLen sCap, .slice a' m k']).run P w = .ok (.slice (some base) (sLen + m) sCap) w' := by
 simp [Builtin.append_, run_underlying ht, run_underlying hu, sizeOf, typeInfo, hi, Builtin.lenOf, hg, hx, hst]
theorem FD {t u ty el : TypeId} {i : TypeInfo} (ht : P.underlying t = some (.slice el)) (hu : P.underlying u = some (.slice el)) (hi : P.info? el = some i)
 {a' : Option Addr} {k' : Nat} {news' : List Value} (hx : (Builtin.firstCells i.size 0 (.slice a' 0 k')).run P w = .ok news'.toArray w) :
 (Builtin.append_ #[t, u] ty #[.slice none 0 0, .slice a' 0 k']).run P w = .ok (.slice none 0 0) w := by
 simp [Builtin.append_, run_underlying ht, run_underlying hu, sizeOf, typeInfo, hi, Builtin.lenOf, hx]
theorem ah8 (hR : Rel P w0 B ρ H w) {t u ty el : TypeId} {i : TypeInfo} {z : Value} (ht : P.underlying t = some (.slice el)) (hu : P.underlying u = some (.slice el)) (hi : P.info? el = some i) (hz : i.zero = some z)
 (hzs : z.cells.size = i.size) {s s' x x' v : Value} {H' : AH} (h : cz i.size i.bytes s x H = some (v, H')) (hs : VRel P ρ s s') (hx : VRel P ρ x x') :
 ∃ v' w' ρ', (Builtin.append_ #[t, u] ty #[s', x']).run P w = .ok v' w' ∧ VRel P ρ' v v' ∧ eE ρ H w ρ' H' w' ∧ Rel P w0 B ρ' H' w' := by
 unfold cz at h;have h2 := ai.1 h
 clear h
 obtain ⟨⟨m, news⟩, hrow, h⟩ := h2;obtain ⟨a', k', news', rfl, hln, hnl, hrun, hrunD⟩ := U3 hR hrow hx
 split at h
 ·rename_i hcond
  obtain ⟨hone, he⟩ := hcond;have hones := Oi hln hone;simp only at h hone
  -- a new block, whatever stood there before
  have fresh : ∀ (base : Option Addr) (sCap n : Nat) (olds olds' : List Value), LRel P ρ olds olds' → olds'.length = n * i.size → s' = .slice base n sCap →
   (Builtin.firstCells i.size n (.slice base n sCap)).run P w.drew = .ok olds'.toArray w.drew → sCap < n + m → (n + m) * i.bytes ≤ cg → n + m ≤ cg →
   ∃ sz k, (Builtin.append_ #[t, u] ty #[s', .slice a' m k']).run P w = .ok (.slice (some ⟨w.heap.size, 0, none⟩) (n + m) k) (w.drew.alloc (.cells (olds' ++ news' ++ (Builtin.zeroCells z.cells (k - (n + m))).toList).toArray el)) ∧
    sz = k * i.size ∧ n + m ≤ k ∧ sO P ρ 0 sz (.cells false (olds ++ news)) (some (.cells (olds' ++ news' ++ (Builtin.zeroCells z.cells (k - (n + m))).toList).toArray el)) := by
   intro base sCap n olds olds' hlo hlen hs' ho hg hb h63;have hge := grownCap_ge w (n + m) sCap el;refine ⟨_, grownCap w (n + m) sCap el, by rw [hs']; exact DV ht hu hi hz base n sCap olds' ho hrunD hg hb h63, rfl, hge, ?_⟩
   have htot : (olds' ++ news').length = (n + m) * i.size := by simp [hlen, hnl, Nat.add_mul]
   refine ⟨_, el, (0, 0), rfl, ?_, ?_, fun _ => rfl, ?_⟩
   ·have hzl : (Builtin.zeroCells z.cells (grownCap w (n + m) sCap el - (n + m))).size = (grownCap w (n + m) sCap el - (n + m)) * i.size := by rw [size_zeroCells, hzs]
    simp only [List.size_toArray, cT, Array.length_toList, hzl] at htot ⊢;rw [htot, ← Nat.add_mul]
    congr 1
    omega
   ·rw [Nat.zero_add, (hlo.append hln).1, htot]
    exact Nat.mul_le_mul_right _ hge
   ·have e : ((olds' ++ news' ++ (Builtin.zeroCells z.cells (grownCap w (n + m) sCap el - (n + m))).toList).toArray.toList.drop 0).take (olds ++ news).length = olds' ++ news' := by
     rw [(hlo.append hln).1];simp only [List.drop_zero];exact List.take_left
    rw [e];exact hlo.append hln
  have freshPush : ∀ (base : Option Addr) (sCap : Nat), s' = .slice base 0 sCap → sCap = 0 → (Builtin.firstCells i.size 0 (.slice base 0 sCap)).run P w.drew = .ok [].toArray w.drew → 0 < m → m * i.bytes ≤ cg → m ≤ cg →
   ∃ v' w' ρ', (Builtin.append_ #[t, u] ty #[s', .slice a' m k']).run P w = .ok v' w' ∧ VRel P ρ' (.slice (some ⟨H.size, 0, none⟩) m i.size) v' ∧ eE ρ H w ρ' (H.push (.cells false news)) w' ∧ Rel P w0 B ρ' (H.push (.cells false news)) w' := by
   intro base sCap hs' hcap ho hm hb h63;obtain ⟨sz, k, hr, hsz, hk, hor⟩ := fresh base sCap 0 [] [] LRel.nil (by simp) hs' ho (by omega) (by simpa using hb) (by omega);simp only [Nat.zero_add, List.nil_append] at hr hk hor;have hp := hR.drew.push (o := .cells false news) rfl hor;exact ⟨_, _, _, hr, .slice (d := 0) (o := 0) (aV.upd_same ..) (by rw [hsz]; simp) hk he, hp.2.of_drew, hp.1⟩
  by_cases hsl : ∃ a n k, s = .slice a n k
  case neg =>
   exfalso
   cases s <;> first | exact hsl ⟨_, _, _, rfl⟩ | (simp at h)
  obtain ⟨a, n, e', rfl⟩ := hsl
  cases a with
  | none =>
   simp only at h
   split at h
   ·rename_i hnk
    obtain ⟨rfl, rfl⟩ := hnk;have hs' := hs.nilslice_inv
    split at h
    ·rename_i hm0
     cases h;subst hm0;rw [hs'];exact ⟨_, w, ρ, FD ht hu hi hrun, .lit rfl, eE.refl _ _ _, hR⟩
    ·rename_i hm0
     split at h
     ·rename_i hc
      cases h;exact freshPush none 0 hs' rfl (by simp [Builtin.firstCells]) (by omega) hc.1 hc.2
     ·cases h
   ·cases h
  | some ad =>
   obtain ⟨b, o, sp⟩ := ad
   cases sp with
   | some sp => simp at h
   | none =>
   simp only at h
   split at h
   ·rename_i hm0
    cases h;subst hm0;have hn0 : news' = [] := List.eq_nil_of_length_eq_zero (by simpa using hnl);subst hn0
    cases hs with
    | lit h => simp [cO] at h
    | slice hb hk hn he' =>
     exact ⟨_, w, ρ, gO ht hu hi _ _ _ hrun (by omega) (by simp [storeCells]), .slice hb hk (by omega) he', eE.refl _ _ _, hR⟩
    | slice0 hb =>
     exact ⟨_, w, ρ, gO ht hu hi _ _ _ hrun (by omega) (by simp [storeCells]), .slice0 hb, eE.refl _ _ _, hR⟩
    | empty =>
     exact ⟨_, w, ρ, gO ht hu hi _ _ _ hrun (by omega) (by simp [storeCells]), .empty, eE.refl _ _ _, hR⟩
   ·rename_i hm0
    split at h
    ·rename_i he0
     subst he0
     split at h
     ·rename_i hc
      obtain ⟨rfl, hb, h63⟩ := hc;cases h
      cases hs with
      | lit h => simp [cO] at h
      | slice hb hk hn he' => omega
      | slice0 hb' => exact freshPush _ 0 rfl rfl (by simp [Builtin.firstCells, loadCells, loadCellsFrom]) (by omega) hb h63
      | empty => exact freshPush _ 0 rfl rfl (by simp [Builtin.firstCells, loadCells, loadCellsFrom]) (by omega) hb h63
     ·cases h
    ·rename_i he0
     split at h
     ·rename_i cs hg
      split at h
      ·rename_i hc
       obtain ⟨rfl, hfit, hb, h63⟩ := hc;cases h;have hlt := AH.lt_of_get hg
       -- the row in a new block
       have grow : ∀ (base : Option Addr) (sCap c d sz : Nat), ρ b = some (c, d, sz) → s' = .slice base n sCap → sCap < n + m → (∃ olds', LRel P ρ ((cs.drop o).take (n * i.size)) olds' ∧ (Builtin.firstCells i.size n (.slice base n sCap)).run P w.drew = .ok olds'.toArray w.drew) →
        ∃ v' w' ρ', (Builtin.append_ #[t, u] ty #[s', .slice a' m k']).run P w = .ok v' w' ∧ VRel P ρ' (.slice (some ⟨H.size, 0, none⟩) (n + m) i.size) v' ∧
         eE ρ H w ρ' ((H.set b .dead).push (.cells false ((cs.drop o).take (n * i.size) ++ news))) w' ∧ Rel P w0 B ρ' ((H.set b .dead).push (.cells false ((cs.drop o).take (n * i.size) ++ news))) w' := by
        intro base sCap c d sz hbc hs' hcap ⟨olds', hlo, ho⟩
        have hlen : olds'.length = n * i.size := by rw [← hlo.1]; simp; omega
        obtain ⟨sz', k, hr, hsz', hk, hor⟩ := fresh base sCap n _ olds' hlo hlen hs' ho hcap hb h63;have hlast : (w.drew.alloc (.cells (olds' ++ news' ++ (Builtin.zeroCells z.cells (k - (n + m))).toList).toArray el)).heap[w.heap.size]? = some (.cells (olds' ++ news' ++ (Builtin.zeroCells z.cells (k - (n + m))).toList).toArray el) := heap_alloc_new w.drew _;have hold : ∀ q, q < w.heap.size → (w.drew.alloc (.cells (olds' ++ news' ++ (Builtin.zeroCells z.cells (k - (n + m))).toList).toArray el)).heap[q]? = w.heap[q]? := fun q hq => heap_alloc_old w.drew _ q hq;have hmv := hR.move hbc hg (o' := .cells false ((cs.drop o).take (n * i.size) ++ news)) rfl (w' := w.drew.alloc (.cells (olds' ++ news' ++ (Builtin.zeroCells z.cells (k - (n + m))).toList).toArray el)) (c' := w.heap.size) (d' := 0) (sz' := sz')
         rfl rfl rfl (by simp) (.inr ⟨rfl, by simp⟩) (fun q hq _ => hold q hq) (by rw [hlast]; exact hor) (fun _ => hold c (hR.blk b c d sz hbc))
        exact ⟨_, _, _, hr, .slice (d := 0) (o := 0) (aV.upd_same ..) (by rw [hsz']; simp) hk he, hmv.2, hmv.1⟩
       rcases hs.slice_inv he0 with ⟨c, d, sz, a, hb', rfl, rfl⟩ | ⟨c, d, sz, k, hb', hk, hn, rfl⟩
       ·refine grow (some a) 0 c d sz hb' rfl (by omega) ⟨[], by simpa using LRel.nil, by simp [Builtin.firstCells, loadCells, loadCellsFrom]⟩
       ·have he' : 0 < i.size := by omega
        obtain ⟨cc, elc, fz, hw, hsz, hd, hfz, hl⟩ := hR.cells hb' hg;have hfz := hfz rfl;subst hfz
        by_cases hroom : n + m ≤ k
        ·-- in its own block
         have hmul : n * i.size + m * i.size ≤ k * i.size := by rw [← Nat.add_mul]; exact Nat.mul_le_mul_right _ hroom
         have hst := run_storeCells_at P c (d + o + n * i.size) elc news' 0 cc w hw (by rw [hnl]; omega) hones;simp only [Nat.add_zero] at hst;have hadd : (⟨c, d + o, none⟩ : Addr).add (n * i.size) = ⟨c, d + o + n * i.size, none⟩ := Addr.add_lit _ _ _;have hr := gO (ty := ty) ht hu hi ⟨c, d + o, none⟩ n k hrun hroom (by rw [hadd]; exact hst)
         have hor : sO P ρ (d + o) sz (.cells false ((cs.drop o).take (n * i.size) ++ news)) (w.setRow c (cc.toList.take (d + o + n * i.size) ++ news' ++ cc.toList.drop (d + o + n * i.size + news'.length)).toArray).heap[c]? := by
          rw [setRow_heap w c cc _ elc (0, 0) hw]
          have hlo : ((cs.drop o).take (n * i.size)).length = n * i.size := by simp; omega
          refine ⟨_, elc, (0, 0), rfl, (by simp; omega), (by rw [cT, hlo, hln.1, hnl]; omega), fun _ => rfl, ?_⟩
          have hlen2 : ((cs.drop o).take (n * i.size) ++ news).length = n * i.size + m * i.size := by rw [cT, hlo, hln.1, hnl]
          rw [hlen2]
          have e : ((cc.toList.take (d + o + n * i.size) ++ news' ++ cc.toList.drop (d + o + n * i.size + news'.length)).toArray.toList.drop (d + o)).take (n * i.size + m * i.size) = ((cc.toList.drop (d + o)).take (n * i.size)) ++ news' := by
           have hccl : d + o + n * i.size ≤ cc.toList.length := by simp; omega
           have e1 : (cc.toList.take (d + o + n * i.size) ++ news' ++ cc.toList.drop (d + o + n * i.size + news'.length)).toArray.toList = cc.toList.take (d + o + n * i.size) ++ (news' ++ cc.toList.drop (d + o + n * i.size + news'.length)) := by simp
           have l1 : (cc.toList.take (d + o + n * i.size)).length = d + o + n * i.size := by rw [List.length_take]; omega
           rw [e1, List.drop_append_of_le_length (by omega), List.drop_take]
           have l2 : ((cc.toList.drop (d + o)).take (d + o + n * i.size - (d + o))).length = n * i.size := by rw [List.length_take, List.length_drop]; omega
           have l3 : d + o + n * i.size - (d + o) = n * i.size := by omega
           rw [l3] at l2 ⊢;rw [← List.append_assoc, List.take_append_of_le_length (by rw [cT, l2, hnl]; omega), List.take_of_length_le (by rw [cT, l2, hnl]; omega)]
          rw [e];refine LRel.append ?_ hln;have := (hl.drop o).take (n * i.size)
          have e2 : (((cc.toList.drop d).take cs.length).drop o).take (n * i.size) = (cc.toList.drop (d + o)).take (n * i.size) := by
           rw [List.drop_take, List.drop_drop, List.take_take]
           congr 1
           omega
          rwa [e2] at this
         have hmv := hR.move hb' hg (o' := .cells false ((cs.drop o).take (n * i.size) ++ news)) rfl (w' := w.setRow c (cc.toList.take (d + o + n * i.size) ++ news' ++ cc.toList.drop (d + o + n * i.size + news'.length)).toArray) (c' := c) (d' := d + o) (sz' := sz)
          rfl rfl rfl (by rw [size_setRow]; exact cr _) (.inl ⟨rfl, size_setRow ..⟩) (fun q _ hq => setRow_other w c q _ hq) hor (fun hne => absurd rfl hne)
         have hv2 := VRel.slice (P := P) (o := 0) (n := n + m) (e := i.size) (k := k) (aV.upd_same ρ H.size (c, d + o, sz)) (by omega) hroom he;exact ⟨_, _, _, hr, hv2, hmv.2, hmv.1⟩
        ·refine grow (some ⟨c, d + o, none⟩) k c d sz hb' rfl (by omega) ?_
         by_cases hn0 : n = 0
         ·subst hn0
          exact ⟨[], by simpa using LRel.nil, by simp [Builtin.firstCells, loadCells, loadCellsFrom]⟩
         ·have hc : dm H b = some cs := by simp [dm, hg]
          have hrow2 : nc i.size (.slice (some ⟨b, o, none⟩) n i.size) H = some (n, (cs.drop o).take (n * i.size)) := by simp [nc, hn0, hc, hfit]
          obtain ⟨a2, k2, olds', e2, hlo, _, _, hrd⟩ := U3 hR hrow2 (.slice hb' hk hn he');cases e2;exact ⟨olds', hlo, hrd⟩
      ·cases h
     ·cases h
 ·cases h
end
section
variable {P : Program} {w0 : World} {B : Nat} {ρ : aV} {H : AH} {w : World}
theorem afJ {α : Type} (l : List α) (n i : Nat) (h : i < n * l.length) : (List.replicate n l).flatten[i]? = l[i % l.length]? := by
 induction n generalizing i with
 | zero => simp at h
 | succ n ih =>
  rw [List.replicate_succ, List.flatten_cons, List.getElem?_append]
  by_cases hi : i < l.length
  ·rw [if_pos hi, Nat.mod_eq_of_lt hi]
  ·rw [if_neg hi, ih (i - l.length) (by rw [Nat.add_mul] at h; omega)]
   congr 1
   exact (Nat.mod_eq_sub_mod (by omega)).symm
theorem rD (z : Array Value) (n : Nat) (hz : 0 < z.size) : ((Array.range (n * z.size)).map fun x => z[x % z.size]!).toList = (List.replicate n z.toList).flatten := by
 apply List.ext_getElem?;intro i
 by_cases hi : i < n * z.size
 ·rw [afJ z.toList n i (by simpa using hi)]
  have hm : i % z.size < z.size := Nat.mod_lt _ hz;simp [hi, getElem!_pos, hm]
 ·have hl : ((List.replicate n z.toList).flatten).length = n * z.size := by simp
  rw [List.getElem?_eq_none (by simp; omega), List.getElem?_eq_none (by rw [hl]; omega)]
theorem Ma (off : Nat) : ∀ (vs : List Value) (k : Nat) (cells : List Value), off + k + vs.length ≤ cells.length →
 ((vs.zipIdx k).foldl (fun (cs : Array Value) (p : Value × Nat) => cs.setIfInBounds (off + p.2) p.1) cells.toArray).toList = splice cells (off + k) vs := by
 intro vs
 induction vs with
 | nil => intro k cells _; simp [splice]
 | cons v vs ih =>
  intro k cells h;simp only [List.length_cons] at h;rw [List.zipIdx_cons, List.foldl_cons]
  have e : (cells.toArray.setIfInBounds (off + k) v) = (cells.set (off + k) v).toArray := by simp
  rw [e, ih (k + 1) _ (by simp; omega)];unfold splice;have e2 := list_seg_step cells (off + k) v vs (by omega);simp only [List.length_cons];rw [show off + (k + 1) = off + k + 1 from by omega];exact e2
theorem afH (cells vs : List Value) (off : Nat) (h : off + vs.length ≤ cells.length) :
 (vs.toArray.zipIdx.foldl (fun (cs : Array Value) (p : Value × Nat) => cs.setIfInBounds (off + p.2) p.1) cells.toArray) = (splice cells off vs).toArray := by
 have e := Ma off vs 0 cells (by omega);apply Array.ext';simp only [Nat.add_zero] at e;rw [← e, ← Array.foldl_toList, Array.toList_zipIdx]
theorem zW (pl : Nat → Option (Nat × Nat)) : ∀ {parts : List (Nat × Value)} {parts' : List (Nat × Value)} {cells cells' out : List Value}, cA pl cells parts = some out → LRel P ρ cells cells' →
 (parts.length = parts'.length ∧ ∀ (i : Nat) p p', parts[i]? = some p → parts'[i]? = some p' → p.1 = p'.1 ∧ VRel P ρ p.2 p'.2) → ∃ out', Instr.fill pl cells'.toArray parts' = some out'.toArray ∧ LRel P ρ out out' := by
 intro parts
 induction parts with
 | nil =>
  intro parts' cells cells' out h hl hp
  cases parts' with
  | cons => simp at hp
  | nil => simp only [cA] at h; cases h; exact ⟨cells', by simp [Instr.fill], hl⟩
 | cons p parts ih =>
  intro parts' cells cells' out h hl hp
  cases parts' with
  | nil => simp at hp
  | cons p' parts' =>
   obtain ⟨i, v⟩ := p;obtain ⟨i', v'⟩ := p';obtain ⟨hi, hv⟩ := hp.2 0 (i, v) (i', v') (by simp) (by simp);simp only at hi hv;subst hi;simp only [cA] at h;have h2 := ai.1 h
   clear h
   obtain ⟨⟨off, size⟩, hpl, h⟩ := h2;simp only at h
   split at h
   ·rename_i hc
    have hvc := hv.cells
    have hsz : v'.cells.size = size := by have := hvc.1; simp at this; omega
    have hcl : cells'.length = cells.length := hl.1.symm;obtain ⟨out', ho, hr⟩ := ih h (hl.splice hvc off) ⟨by simpa using hp.1, fun j q q' hq hq' => hp.2 (j + 1) q q' (by simpa using hq) (by simpa using hq')⟩;refine ⟨out', ?_, hr⟩;simp only [Instr.fill, hpl]
    have hcond : (v'.cells.size ≠ size || off + v'.cells.size > cells'.toArray.size) = false := by
     simp [hsz]; omega
    have hf := afH cells' v'.cells.toList off (by simp [hsz]; omega);simp only [Array.toArray_toList] at hf;rw [hf, if_neg (by simpa using hcond)];exact ho
   ·cases h
theorem wr {ev ev' : Operand → Value} (ps : Array (Nat × Operand)) (hx : ∀ x ∈ ps.toList.map (·.2), VRel P ρ (ev x) (ev' x)) :
 (ps.toList.map fun p => (p.1, ev p.2)).length = ((ps.map fun (i, x) => (i, ev' x)).toList).length ∧
 ∀ (i : Nat) p p', (ps.toList.map fun p => (p.1, ev p.2))[i]? = some p → ((ps.map fun (i, x) => (i, ev' x)).toList)[i]? = some p' → p.1 = p'.1 ∧ VRel P ρ p.2 p'.2 := by
 refine ⟨by simp, fun i p p' hp hp' => ?_⟩;simp only [W9, au, Array.toList_map] at hp hp';obtain ⟨q, hq, rfl⟩ := hp;obtain ⟨q', hq', rfl⟩ := hp';rw [hq] at hq';cases hq';exact ⟨rfl, hx _ (List.mem_map.2 ⟨q, List.mem_of_getElem? hq, rfl⟩)⟩
theorem RW {fs : List Field} {ps : List (Nat × Nat)} (h : i8 P fs = some ps) (w : World) : (fs.mapM (m := Sem) fun f => do pure (f.offset, ← sizeOf f.type)).run P w = .ok ps w := by
 induction fs generalizing ps with
 | nil => simp [i8] at h; subst h; simp
 | cons f fs ih =>
  unfold i8 at h ih;rw [List.mapM_cons] at h;simp only [Option.bind_eq_bind, ai, Option.pure_def, Option.some.injEq] at h;obtain ⟨p, hp, qs, hq, rfl⟩ := h;obtain ⟨n, hn, rfl⟩ := au.1 hp;have hi := ih hq;rw [List.mapM_cons];simp only [Sem.run_bind, cG hn, Result.andThen_ok, Sem.run_pure, hi]
theorem Oq {fs : Array Field} {ps : List (Nat × Nat)} (h : i8 P fs.toList = some ps) (w : World) : (fs.mapM (m := Sem) fun f => do pure (f.offset, ← sizeOf f.type)).run P w = .ok ps.toArray w := by
 rw [Array.mapM_eq_mapM_toList];simp only [Sem.run_map, RW h, Result.andThen_ok]
theorem I4 {t : TypeId} {parts : Array (Nat × Operand)} {ev ev' : Operand → Value} (hx : ∀ x ∈ parts.toList.map (·.2), VRel P ρ (ev x) (ev' x)) {z : Value} (hz : bq P t = some z) {fs : Array Field} (hu : P.underlying t = some (.struct fs))
 {ps : List (Nat × Nat)} (hps : i8 P fs.toList = some ps) {cs : List Value} (h : cA (ps[·]?) z.cells.toList (parts.toList.map fun p => (p.1, ev p.2)) = some cs) :
 ∃ v', (Instr.build t (parts.map fun (i, x) => (i, ev' x))).run P w = .ok v' w ∧ VRel P ρ (.agg cs.toArray) v' := by
 obtain ⟨i, hi, hzi, hlit, _⟩ := cK hz;obtain ⟨out', ho, hr⟩ := zW _ h (LRel.of_all hlit) (wr parts hx);refine ⟨.agg out'.toArray, ?_, hr.toAgg⟩;have hpr := Oq hps w
 have e : (fun i : Nat => ps.toArray[i]?) = (fun i : Nat => ps[i]?) := by funext i; simp
 simp only [Instr.build, Sem.run_bind, fS hz, Result.andThen_ok, run_underlying hu, hpr];rw [e];simp only [Array.toArray_toList] at ho;rw [ho]
 rfl
theorem zg {t el : TypeId} {n : Nat} {parts : Array (Nat × Operand)} {ev ev' : Operand → Value} (hx : ∀ x ∈ parts.toList.map (·.2), VRel P ρ (ev x) (ev' x)) {z : Value} (hz : bq P t = some z) (hu : P.underlying t = some (.array n el))
 {e : Nat} (he : cm P el = some e) {cs : List Value} (h : cA (fun i => some (i * e, e)) z.cells.toList (parts.toList.map fun p => (p.1, ev p.2)) = some cs) :
 ∃ v', (Instr.build t (parts.map fun (i, x) => (i, ev' x))).run P w = .ok v' w ∧ VRel P ρ (.agg cs.toArray) v' := by
 obtain ⟨i, hi, hzi, hlit, _⟩ := cK hz;obtain ⟨out', ho, hr⟩ := zW _ h (LRel.of_all hlit) (wr parts hx);refine ⟨.agg out'.toArray, ?_, hr.toAgg⟩;simp only [Instr.build, Sem.run_bind, fS hz, Result.andThen_ok, run_underlying hu, cG he];simp only [Array.toArray_toList] at ho;rw [ho]
 rfl
theorem Ae {z : List Value} (h : z.all cO = true) (n : Nat) : LRel P ρ (List.replicate n z).flatten (List.replicate n z).flatten := by
 apply LRel.of_all;rw [List.all_eq_true] at h ⊢;intro x hx;rw [List.mem_flatten] at hx;obtain ⟨l, hl, hxl⟩ := hx;rw [(List.mem_replicate.1 hl).2] at hxl;exact h x hxl
theorem F1 (hR : Rel P w0 B ρ H w) {t el : TypeId} {len : Nat} {parts : Array (Nat × Operand)} {ev ev' : Operand → Value} (hx : ∀ x ∈ parts.toList.map (·.2), VRel P ρ (ev x) (ev' x)) {z : Value} (hz : bq P el = some z)
 (hu : P.underlying t = some (.slice el)) {e : Nat} (he : cm P el = some e) (h0 : 0 < e) (hze : z.cells.size = e) (hbig : len * e ≤ 2 ^ 24) {cs : List Value}
 (h : cA (fun i => some (i * e, e)) (List.replicate len z.cells.toList).flatten (parts.toList.map fun p => (p.1, ev p.2)) = some cs) :
 ∃ v' w' ρ', (Instr.buildSlice t len (parts.map fun (i, x) => (i, ev' x))).run P w = .ok v' w' ∧ VRel P ρ' (.slice (some ⟨H.size, 0, none⟩) len e) v' ∧ eE ρ H w ρ' (H.push (.cells false cs)) w' ∧ Rel P w0 B ρ' (H.push (.cells false cs)) w' := by
 obtain ⟨i, hi, hzi, hlit, _⟩ := cK hz;obtain ⟨out', ho, hr⟩ := zW _ h (Ae hlit len) (wr parts hx);have hzf := rD z.cells len (by omega);rw [hze] at hzf
 have hza : ((Array.range (len * e)).map fun x => z.cells[x % e]!) = ((List.replicate len z.cells.toList).flatten).toArray := by rw [← hzf]
 have hpush := wt (el := el) hR hr
 have hlo : out'.length = len * e := by
  have hfl : ∀ {parts : List (Nat × Value)} {cells out : List Value}, cA (fun i => some (i * e, e)) cells parts = some out → out.length = cells.length := by
   intro parts
   induction parts with
   | nil => intro cells out h; simp [cA] at h; rw [h]
   | cons p parts ih =>
    intro cells out h;obtain ⟨i, v⟩ := p;simp only [cA, aB] at h
    split at h
    ·rename_i hc
     rw [ih h, kC];simp; omega
    ·cases h
  rw [← hr.1, hfl h];simp [hze]
 refine ⟨_, _, _, ?_, .slice (d := 0) (o := 0) (sz := out'.length) (aV.upd_same ..) (by rw [hlo]; omega) (cr len) h0, hpush.2, hpush.1⟩
 have hnb : ¬ (len * e > 2 ^ 24) := by omega
 by_cases hl0 : len = 0
 ·subst hl0
  rw [Nat.zero_mul] at hnb;have hr0 : (Array.range 0) = (#[] : Array Nat) := rfl;have ho0 : (List.replicate 0 z.cells.toList).flatten.toArray = (#[] : Array Value) := rfl;rw [ho0] at ho;simp only [Instr.buildSlice, Sem.run_bind, run_underlying hu, Result.andThen_ok, cG he, Sem.run_ite, Nat.zero_mul, hnb, if_false, Sem.run_pure, if_true, hr0, Array.map_empty, ho, newRow, run_newObj, Nat.zero_add]
  rfl
 have hne : ¬ (len * e = 0) := by
  intro h
  rcases Nat.mul_eq_zero.1 h with h | h <;> omega
 simp only [Instr.buildSlice, Sem.run_bind, run_underlying hu, Result.andThen_ok, cG he, Sem.run_ite, hnb, if_false, Sem.run_pure, hne, fS hz, hze, hza, ho, newRow, run_newObj, Nat.zero_add]
 rfl
theorem af2 (hR : Rel P w0 B ρ H w) {t el : TypeId} {l c v : Value} {H' : AH} {z : Value} {e by' : Nat} (hz : bq P el = some z) (hu : P.underlying t = some (.slice el)) (he : cm P el = some e) (hb : eY P el = some by')
 (h : mD z.cells.toList e by' l c H = some (v, H')) {l' c' : Value} (hl : VRel P ρ l l') (hc : VRel P ρ c c') :
 ∃ v' w' ρ', (Instr.makeSlice t l' c').run P w = .ok v' w' ∧ VRel P ρ' v v' ∧ eE ρ H w ρ' H' w' ∧ Rel P w0 B ρ' H' w' := by
 cases l <;> simp only [mD] at h <;> try (cases h; done)
 cases c <;> simp only at h <;> try (cases h; done)
 rename_i k1 l k2 c
 split at h
 ·rename_i hcond
  obtain ⟨h0, rfl, hbig, hroom, hpos, hzl⟩ := hcond;cases h;rw [hl.int_inv, hc.int_inv];obtain ⟨i, hi, hzi, hlit, _⟩ := cK hz
  have hie : i.size = e := by
   obtain ⟨i2, hi2, h2⟩ := XJ he;rw [hi] at hi2; cases hi2; exact h2
  have hib : i.bytes = by' := by
   unfold eY at hb; simpa [hi] using hb
  unfold cg at hbig hroom
  have hln : l = (l.toNat : Int) := by omega
  have hbytes : (i.bytes : Int) * l ≤ 281474976710656 := by
   rw [hib, hln, ← Int.natCast_mul]
   have : by' * l.toNat ≤ 140737488355328 := by rw [Nat.mul_comm]; exact hbig
   omega
  have hrun := run_make (P := P) w t el i z hu hi hzi k1 k2 l l h0 (Int.le_refl _) hbytes (by omega)
  have hzs : z.cells.size = e := by simpa using hzl
  have hm : madeCells z.cells (l.toNat * i.size) = ((List.replicate l.toNat z.cells.toList).flatten).toArray := by
   have hzf := rD z.cells l.toNat (by omega);rw [hzs] at hzf;unfold madeCells;rw [hie, ← hzf, hzs]
  rw [hm] at hrun;have hpush := wt (el := el) hR (Ae (P := P) (ρ := ρ) hlit l.toNat);exact ⟨_, _, _, hrun, .slice (d := 0) (o := 0) (aV.upd_same ..) (by simp [hzs]) (cr _) hpos, hpush.2, hpush.1⟩
 ·cases h
end
section
variable {P : Program} {w0 : World} {B : Nat} {ρ : aV} {H : AH} {w : World}
def hJ (P : Program) (ρ : aV) (es es' : List MapEntry) : Prop := es'.length = es.length ∧ ∀ (i : Nat) (e e' : MapEntry), es[i]? = some e → es'[i]? = some e' → Vk P ρ e e'
theorem hJ.tail {e e' : MapEntry} {es es' : List MapEntry} (h : hJ P ρ (e :: es) (e' :: es')) : Vk P ρ e e' ∧ hJ P ρ es es' :=
 ⟨h.2 0 e e' rfl rfl, by simpa using h.1, fun i a a' ha ha' => h.2 (i + 1) a a' (by simpa using ha) (by simpa using ha')⟩
def gy (P : Program) (ρ : aV) : Option (Nat × Value) → Option (Nat × Value) → Prop
 | none, none => True
 | some (i, v), some (i', v') => i = i' ∧ VRel P ρ v v'
 | _, _ => False
theorem IY {a b : ByteArray} (h : (a == b) = true) : a = b := by
 rw [beq_toListBytes] at h
 have h2 : a.toList = b.toList := by simpa using h
 rw [ByteArray.toList_eq, ByteArray.toList_eq] at h2;obtain ⟨⟨x⟩⟩ := a;obtain ⟨⟨y⟩⟩ := b;simp only at h2;rw [h2]
theorem Gl : ∀ {l m : List Value}, bm l m = some true → l = m := by
 intro l
 induction l with
 | nil => intro m hm; cases m with
  | nil => rfl
  | cons => simp [bm] at hm
 | cons x l ih =>
  intro m hm
  cases m with
  | nil => cases x <;> simp [bm] at hm
  | cons y m =>
   cases x <;> cases y <;> simp only [bm] at hm <;> try (cases hm; done)
   split at hm
   ·rename_i hk
    obtain ⟨r', hr', hb⟩ := au.1 hm;simp only [Bool.and_eq_true, beq_iff_eq] at hb;obtain ⟨hab, rfl⟩ := hb;rw [ih hr', hk, hab]
   ·cases hm
theorem wj {cl : KCls} {k k' : Value} (h : jB cl k = true) (hk : VRel P ρ k k') : k' = k := by
 cases cl <;> cases k <;> simp only [jB] at h <;> try (cases h; done)
 ·exact hk.int_inv
 ·exact hk.string_inv
 ·rename_i n xs
  simp only [Bool.and_eq_true, beq_iff_eq] at h;obtain ⟨ys, rfl, hs, he⟩ := hk.agg_inv
  congr 1
  apply Array.ext';apply List.ext_getElem?;intro i
  by_cases hi : i < xs.size
  ·have hi' : i < ys.size := by omega
   have h1 : tS xs[i] = true := List.all_eq_true.1 h.2 _ (by simp);have h2 := he i xs[i] ys[i] (by simp [hi]) (by simp [hi']);simp only [Array.getElem?_toList, Array.getElem?_eq_getElem hi, Array.getElem?_eq_getElem hi']
   generalize xs[i] = x at h1 h2
   cases x <;> simp [tS] at h1
   rw [h2.int_inv]
  ·rw [List.getElem?_eq_none (by simp; omega), List.getElem?_eq_none (by simp; omega)]
theorem Ck {cl : KCls} {a b b' : Value} {r : Bool} (h : nJ cl a b = some r) (hb : VRel P ρ b b') : b' = b ∧ (r = true → a = b) := by
 cases cl <;> cases a <;> cases b <;> simp only [nJ] at h <;> try (cases h; done)
 ·split at h
  ·rename_i hk
   subst hk;refine ⟨hb.int_inv, fun hr => ?_⟩;subst hr
   simpa using h
  ·cases h
 ·refine ⟨hb.string_inv, fun hr => ?_⟩
  subst hr;rw [IY (kT h)]
 ·rename_i xs ys
  split at h
  ·obtain ⟨ys', rfl, h3, h4⟩ := hb.agg_inv
   have hly : LRel P ρ ys.toList ys'.toList := ⟨by simpa using h3, fun i a b ha hb => h4 i a b (by simpa using ha) (by simpa using hb)⟩
   have hall : LRel P ρ xs.toList xs.toList := by
    refine LRel.of_all ?_
    have : ∀ {l m : List Value} {r : Bool}, bm l m = some r → l.all cO = true := by
     intro l
     induction l with
     | nil => intro m r _; rfl
     | cons x l ih =>
      intro m r hm
      cases m with
      | nil => cases x <;> simp [bm] at hm
      | cons y m =>
       cases x <;> cases y <;> simp only [bm] at hm <;> try (cases hm; done)
       split at hm
       ·obtain ⟨r', hr', _⟩ := au.1 hm
        simp only [List.all_cons, ih hr', Bool.and_true]; rfl
       ·cases hm
    exact this h
   obtain ⟨_, e2⟩ := Dz h hall hly;have e2 := Array.toList_inj.1 e2;subst e2;refine ⟨rfl, fun hr => ?_⟩;subst hr;rw [Array.toList_inj.1 (Gl h)]
  ·cases h
theorem afI {kk : IntKind} {k : Value} : ∀ {es es' : List MapEntry} {i : Nat} {r : Option (Nat × Value)}, bw .int k es i = some r → hJ P ρ es es' →
 ∃ r', Instr.findNow (.int kk) k es' i = some r' ∧ gy P ρ r r' := by
 intro es
 induction es with
 | nil =>
  intro es' i r h hes
  cases es' with
  | cons => have := hes.1; simp at this
  | nil => simp [bw] at h; subst h; exact ⟨none, rfl, trivial⟩
 | cons e es ih =>
  intro es' i r h hes
  cases es' with
  | nil => have := hes.1; simp at this
  | cons e' es' =>
   obtain ⟨he, hes⟩ := hes.tail;simp only [bw] at h;have h2 := ai.1 h
   clear h
   obtain ⟨b, hb, h⟩ := h2;have hk := (Ck hb he.1).1
   cases hek : e.key <;> rw [hek] at hb <;> cases k <;> simp only [nJ] at hb <;> try (cases hb; done)
   rename_i k' y k a
   rw [hek] at hk
   split at hb
   ·rename_i hkk
    subst hkk;cases hb;simp only [Instr.findNow, hk, Instr.sameNow, if_true];cases hay : (a == y)
    ·rw [hay] at h; simp only [Bool.false_eq_true, if_false] at h; exact ih h hes
    ·rw [hay] at h; simp only [if_true] at h; cases h; exact ⟨_, rfl, rfl, he.2.1⟩
   ·cases hb
theorem N2 {k : Value} : ∀ {es es' : List MapEntry} {i : Nat} {r : Option (Nat × Value)}, bw .string k es i = some r → hJ P ρ es es' →
 ∃ r', Instr.findNow .string k es' i = some r' ∧ gy P ρ r r' := by
 intro es
 induction es with
 | nil =>
  intro es' i r h hes
  cases es' with
  | cons => have := hes.1; simp at this
  | nil => simp [bw] at h; subst h; exact ⟨none, rfl, trivial⟩
 | cons e es ih =>
  intro es' i r h hes
  cases es' with
  | nil => have := hes.1; simp at this
  | cons e' es' =>
   obtain ⟨he, hes⟩ := hes.tail;simp only [bw] at h;have h2 := ai.1 h
   clear h
   obtain ⟨b, hb, h⟩ := h2;have hk := (Ck hb he.1).1
   cases hek : e.key <;> rw [hek] at hb <;> cases k <;> simp only [nJ] at hb <;> try (cases hb; done)
   rename_i y a
   rw [hek] at hk;cases hb;simp only [Instr.findNow, hk, Instr.sameNow];cases hay : (a == y)
   ·rw [hay] at h; simp only [Bool.false_eq_true, if_false] at h; exact ih h hes
   ·rw [hay] at h; simp only [if_true] at h; cases h; exact ⟨_, rfl, rfl, he.2.1⟩
theorem W0 {kt : TypeId} {n : Nat} (hf : yl P kt = some n) {X : Array Value} : ∀ {es es' : List MapEntry} {i : Nat} {r : Option (Nat × Value)}, bw (.flat n) (.agg X) es i = some r →
 hJ P ρ es es' → ∃ r', (Instr.findAsking kt (.agg X) es' i).run P w = .ok r' w ∧ gy P ρ r r' := by
 intro es
 induction es with
 | nil =>
  intro es' i r h hes
  cases es' with
  | cons => have := hes.1; simp at this
  | nil => simp [bw] at h; subst h; exact ⟨none, rfl, trivial⟩
 | cons e es ih =>
  intro es' i r h hes
  cases es' with
  | nil => have := hes.1; simp at this
  | cons e' es' =>
   obtain ⟨he, hes⟩ := hes.tail;simp only [bw] at h;have h2 := ai.1 h
   clear h
   obtain ⟨b, hb, h⟩ := h2;have hk := (Ck hb he.1).1
   cases hek : e.key <;> rw [hek] at hb <;> simp only [nJ] at hb <;> try (cases hb; done)
   rename_i Y
   rw [hek] at hk
   split at hb
   ·rename_i hsz
    have hq : (Op.equal kt (.agg X) (.agg Y)).run P w = .ok b w := (Ju hf hsz.1 hsz.2 hb w).1;simp only [Instr.findAsking, hk, Sem.run_bind, hq, Result.andThen_ok]
    cases b with
    | true => simp only [if_true] at h; cases h; exact ⟨some (i, e'.val), by simp, rfl, he.2.1⟩
    | false => simp only [Bool.false_eq_true, if_false] at h; simpa using ih h hes
   ·cases hb
theorem G8 {fs : Array Field} {X : Array Value} {es : List MapEntry} : Instr.findNow (.struct fs) (.agg X) es 0 = none ∨ (es = [] ∧ Instr.findNow (.struct fs) (.agg X) es 0 = some none) := by
 cases es with
 | nil => exact .inr ⟨rfl, rfl⟩
 | cons e es => left; simp [Instr.findNow, Instr.sameNow]
theorem G9 {kt : TypeId} {cl : KCls} (hcl : cE P kt = some cl) {k : Value} (hok : jB cl k = true) {es es' : List MapEntry} {r : Option (Nat × Value)} (h : bw cl k es 0 = some r) (hes : hJ P ρ es es') :
 ∃ r', (Instr.findKey kt k es').run P w = .ok r' w ∧ gy P ρ r r' := by
 unfold cE at hcl
 cases hu : P.underlying kt with
 | none => simp [hu] at hcl
 | some d =>
  cases d <;> simp only [hu] at hcl <;> try (cases hcl; done)
  case int kk =>
   cases hcl;obtain ⟨r', h1, h2⟩ := afI (kk := kk) h hes;exact ⟨r', by simp [Instr.findKey, run_underlying hu, h1], h2⟩
  case string =>
   cases hcl;obtain ⟨r', h1, h2⟩ := N2 h hes;exact ⟨r', by simp [Instr.findKey, run_underlying hu, h1], h2⟩
  case struct fs =>
   obtain ⟨n, hf, rfl⟩ := au.1 hcl
   cases k <;> simp only [jB] at hok <;> try (cases hok; done)
   rename_i X
   obtain ⟨r', h1, h2⟩ := W0 (w := w) hf h hes;refine ⟨r', ?_, h2⟩
   rcases G8 (fs := fs) (X := X) (es := es') with h3 | ⟨rfl, h3⟩
   ·simp [Instr.findKey, run_underlying hu, h3, h1]
   ·simp only [Instr.findKey, Sem.run_bind, run_underlying hu, Result.andThen_ok, h3]
    simpa [Instr.findAsking] using h1
theorem Yp (b : Bool) (d : Nat) {t : TypeId} {k : IntKind} (hu : P.underlying t = some (.int k)) (v : Value) (w : World) : (Instr.checkKey b (d + 1) t v).run P w = .ok () w := by
 cases v <;> simp [Instr.checkKey, run_underlying hu]
theorem VM (b : Bool) (d : Nat) {t : TypeId} (hu : P.underlying t = some .string) (v : Value) (w : World) : (Instr.checkKey b (d + 1) t v).run P w = .ok () w := by
 cases v <;> simp [Instr.checkKey, run_underlying hu]
def sV (b : Bool) (D : Nat) (X : Array Value) (l : List Field) : Sem Unit := do
 for f in l do
  if f.name ≠ "_" then Instr.checkKey b D f.type (← part f.type X f.offset)
theorem S0 (b : Bool) (D : Nat) {t : TypeId} {gs : Array Field} (hu : P.underlying t = some (.struct gs)) (X : Array Value) (w : World) : (Instr.checkKey b (D + 1) t (.agg X)).run P w = (sV b D X gs.toList).run P w := by
 rw [Instr.checkKey];simp only [Sem.run_bind, run_underlying hu, Result.andThen_ok];rw [← Array.forIn_toList];unfold sV;simp only [Sem.run_bind]
theorem DC (b : Bool) {sub : List Field → Option Nat} {D : Nat} {w : World} (hsub : ∀ (gs : List Field) (k : Nat) (X : Array Value), sub gs = some k → X.size = k → (sV b D X gs).run P w = .ok () w) (X : Array Value) :
 ∀ {l : List Field} {i m : Nat}, fc P sub i l = some m → X.size = m → (sV b (D + 1) X l).run P w = .ok () w := by
 intro l
 induction l with
 | nil => intro i m _ _; simp [sV]
 | cons f l ih =>
  intro i m hm hXm;simp only [fc] at hm
  split at hm
  ·rename_i hc
   split at hm
   ·rename_i k hk
    have hge := nH hm
    have hi : X[i]? = some X[i] := by simp
    have hag : (isAgg f.type).run P w = .ok false w := by simp [isAgg, run_underlying hk]
    have hpart : (part f.type X f.offset).run P w = .ok X[i] w := by simp [part, hag, hc.2, hi]
    have ih' := ih hm hXm;unfold sV at ih' ⊢;simp only [Sem.run_bind] at ih';simp only [List.forIn_cons, hc.1, ne_eq, not_false_eq_true, if_true, Sem.run_bind, hpart, Result.andThen_ok, Yp b D hk, Sem.run_pure];exact ih'
   ·rename_i gs hk
    split at hm
    ·rename_i k hs
     split at hm
     ·rename_i hcc
      have hge := nH hm
      have hag : (isAgg f.type).run P w = .ok true w := by simp [isAgg, run_underlying hk]
      have hsz := cG hcc.1 w
      have hpart : (part f.type X f.offset).run P w = .ok (.agg (X.extract i (i + k))) w := by simp [part, hag, hc.2, hsz]
      have hsub' := hsub gs.toList k (X.extract i (i + k)) hs (by rw [Array.size_extract]; omega);rw [← S0 b D hk] at hsub';have ih' := ih hm hXm;unfold sV at ih' ⊢;simp only [Sem.run_bind] at ih';simp only [List.forIn_cons, hc.1, ne_eq, not_false_eq_true, if_true, Sem.run_bind, hpart, Result.andThen_ok, hsub', Sem.run_pure];exact ih'
     ·cases hm
    ·cases hm
   ·cases hm
  ·cases hm
theorem aiG (b : Bool) (w : World) : ∀ (e d : Nat) (X : Array Value) {l : List Field} {i m : Nat}, qI P e i l = some m → X.size = m → (sV b (d + e + 1) X l).run P w = .ok () w := by
 intro e
 induction e with
 | zero => intro d X l i m h hX; exact DC b (D := d) (fun gs k X h => by cases h) X h hX
 | succ e ih => intro d X l i m h hX; exact DC b (D := d + e + 1) (fun gs k X h hX => ih d X h hX) X h hX
theorem vD {kt : TypeId} {cl : KCls} (hcl : cE P kt = some cl) {k : Value} (hok : jB cl k = true) (b : Bool) (w : World) : (Instr.checkKey b 10000 kt k).run P w = .ok () w := by
 unfold cE at hcl
 cases hu : P.underlying kt with
 | none => simp [hu] at hcl
 | some d =>
  cases d <;> simp only [hu] at hcl <;> try (cases hcl; done)
  case int kk => exact Yp b 9999 hu k w
  case string => exact VM b 9999 hu k w
  case struct fs =>
   obtain ⟨n, hf, rfl⟩ := au.1 hcl
   cases k <;> simp only [jB] at hok <;> try (cases hok; done)
   rename_i X
   simp only [Bool.and_eq_true, beq_iff_eq] at hok;unfold yl at hf;simp only [hu] at hf
   split at hf
   ·rw [show (10000 : Nat) = 9999 + 1 from rfl, S0 b 9999 hu]
    exact aiG b w 2 9996 X hf hok.1
   ·cases hf
end
section
variable {P : Program} {w0 : World} {B : Nat} {ρ : aV} {H : AH} {w : World}
theorem ez {r : Nat} {es : Array MapEntry} {c : Nat} (h : w.heap[r]? = some (.map es c)) : (getObj r).run P w = .ok (.map es c) w := by
 simp [getObj, Sem.run, h]
theorem jh {r : Nat} {es es2 : Array MapEntry} {c c2 : Nat} (h : w.heap[r]? = some (.map es c)) : (setObj r (.map es2 c2)).run P w = .ok () { w with heap := w.heap.setIfInBounds r (.map es2 c2) } := by
 simp [setObj, Sem.run, h]
theorem Rel.map (hR : Rel P w0 B ρ H w) {b c d sz : Nat} {es : List MapEntry} {cl : Nat} (hb : ρ b = some (c, d, sz)) (ho : H.get b = some (.map es cl)) :
 ∃ es' : Array MapEntry, w.heap[c]? = some (.map es' cl) ∧ hJ P ρ es es'.toList := by
 obtain ⟨es', h1, h2, h3⟩ := hR.obj b c d sz _ hb ho;exact ⟨es', h1, by simpa using h2, fun i e e' he he' => h3 i e e' he (by simpa using he')⟩
theorem oF {t k e : TypeId} (h : ca P t = some (k, e)) : P.underlying t = some (.map k e) := by
 unfold ca at h
 cases hu : P.underlying t with
 | none => simp [hu] at h
 | some d => cases d <;> simp [hu] at h; obtain ⟨rfl, rfl⟩ := h; rfl
theorem Xb (hR : Rel P w0 B ρ H w) {m m' : Value} {es : List MapEntry} {c : Nat} (h : mE m H = some (es, c)) (hm : VRel P ρ m m') :
 (m' = .map none ∧ es = []) ∨ ∃ r es', m' = .map (some r) ∧ w.heap[r]? = some (.map es' c) ∧ hJ P ρ es es'.toList := by
 cases m <;> simp only [mE] at h <;> try (cases h; done)
 rename_i r
 cases r with
 | none => simp only at h; cases h; exact .inl ⟨hm.nilmap_inv, rfl⟩
 | some b =>
  simp only at h
  split at h
  ·rename_i es1 c1 hg
   cases h;obtain ⟨c', d, sz, hb, rfl⟩ := hm.map_inv;obtain ⟨es', h1, h2⟩ := hR.map hb hg;exact .inr ⟨c', es', rfl, h1, h2⟩
  ·cases h
theorem JV {t : TypeId} {z : Value} (h : bq P t = some z) : VRel P ρ z z := by
 obtain ⟨_, _, _, _, hc⟩ := cK h;exact VRel.const hc
theorem Om {v v' : Value} (h : VRel P ρ v v') (b : Bool) : VRel P ρ (.tuple #[v, .bool b]) (.tuple #[v', .bool b]) :=
 LRel.toTuple (xs := [v, .bool b]) (ys := [v', .bool b]) (LRel.cons h (LRel.cons (.lit rfl) LRel.nil))
theorem Hl (hR : Rel P w0 B ρ H w) {t kt et : TypeId} (ht : ca P t = some (kt, et)) {cl : KCls} (hcl : cE P kt = some cl) {z : Value} (hz : bq P et = some z) {m m' k k' v : Value} {ok : Bool}
 (h : km cl z m k ok H = some v) (hm : VRel P ρ m m') (hk : VRel P ρ k k') : ∃ v', (Instr.lookup t m' k' ok).run P w = .ok v' w ∧ VRel P ρ v v' := by
 unfold km at h
 split at h
 ·rename_i hok
  have h2 := ai.1 h
  clear h
  obtain ⟨⟨es, c⟩, hes, h⟩ := h2;obtain ⟨r, hr, h⟩ := au.1 h;simp only at hr;rw [wj hok hk];have hu := oF ht
  have fin : ∀ (es' : List MapEntry) (emp : Bool), hJ P ρ es es' → ∃ v', (do
   Instr.checkKey emp 10000 kt k
   let (v, ok2) ← match ← Instr.findKey kt k es' with
    | some (_, v) => pure (v, true)
    | none => pure (← zeroValue et, false)
   pure (if ok then .tuple #[v, .bool ok2] else v) : Sem Value).run P w = .ok v' w ∧ VRel P ρ v v' := by
   intro es' emp hrel;obtain ⟨r', h1, h2⟩ := G9 (w := w) hcl hok hr hrel;simp only [Sem.run_bind, vD hcl hok, Result.andThen_ok, h1]
   cases r with
   | none =>
    cases r' with
    | some x => obtain ⟨i, x⟩ := x; simp [gy] at h2
    | none =>
     subst h;simp only [Sem.run_bind, fS hz, Result.andThen_ok, Sem.run_pure];cases ok
     ·exact ⟨_, rfl, JV hz⟩
     ·exact ⟨_, rfl, Om (JV hz) false⟩
   | some x =>
    obtain ⟨i, x⟩ := x
    cases r' with
    | none => simp [gy] at h2
    | some y =>
     obtain ⟨i', y⟩ := y;subst h;simp only [Sem.run_pure, Result.andThen_ok];cases ok
     ·exact ⟨_, rfl, h2.2⟩
     ·exact ⟨_, rfl, Om h2.2 true⟩
  rcases Xb hR hes hm with ⟨rfl, rfl⟩ | ⟨r1, es', rfl, hw, hrel⟩
  ·obtain ⟨v', h1, h2⟩ := fin [] true ⟨rfl, fun _ _ _ h => by simp at h⟩
   refine ⟨v', ?_, h2⟩;simp only [Instr.lookup, Sem.run_bind, run_underlying hu, Result.andThen_ok, Sem.run_pure] at h1 ⊢;exact h1
  ·obtain ⟨v', h1, h2⟩ := fin es'.toList es'.isEmpty hrel
   refine ⟨v', ?_, h2⟩;simp only [Instr.lookup, Sem.run_bind, run_underlying hu, Result.andThen_ok, ez hw, Sem.run_pure] at h1 ⊢;exact h1
 ·cases h
theorem Jv {cl : KCls} {k : Value} : ∀ {es : List MapEntry} {j i : Nat} {v : Value}, bw cl k es j = some (some (i, v)) → j ≤ i ∧ ∃ e, es[i - j]? = some e ∧ e.key = k := by
 intro es
 induction es with
 | nil => intro j i v h; simp [bw] at h
 | cons e es ih =>
  intro j i v h;simp only [bw] at h;have h2 := ai.1 h
  clear h
  obtain ⟨b, hb, h⟩ := h2
  cases b with
  | true =>
   simp only [if_true] at h;cases h
   have he : k = e.key := by
    have hlit : VRel (default : Program) (fun _ => none) e.key e.key ∨ True := .inr trivial
    cases cl <;> cases hk : k <;> cases hek : e.key <;> rw [hk, hek] at hb <;> simp only [nJ] at hb <;> try (cases hb; done)
    ·split at hb
     ·rename_i hkk
      subst hkk;have := kT hb;simp at this;rw [this]
     ·cases hb
    ·rw [IY (kT hb)]
    ·split at hb
     ·rw [Array.toList_inj.1 (Gl hb)]
     ·cases hb
   exact ⟨cr _, e, by simp, he.symm⟩
  | false =>
   simp only [Bool.false_eq_true, if_false] at h;obtain ⟨h1, e1, h2, h3⟩ := ih h;refine ⟨by omega, e1, ?_, h3⟩
   have : i - j = (i - (j + 1)) + 1 := by omega
   rw [this]
   simpa using h2
theorem IK {cl : KCls} {k : Value} (hok : jB cl k = true) : Instr.sameBits 10000 k k = true := by
 cases cl <;> cases k <;> simp only [jB] at hok <;> try (cases hok; done)
 ·simp [Instr.sameBits]
 ·simp [Instr.sameBits, beq_toListBytes]
 ·rename_i n xs
  simp only [Bool.and_eq_true, beq_iff_eq] at hok
  have key : ∀ (d : Nat) (l : List Value), l.all tS = true → (l.zip l).all (fun (x, y) => Instr.sameBits d x y) = true := by
   intro d l
   induction l with
   | nil => intro _; rfl
   | cons x l ih =>
    intro h;simp only [List.all_cons, Bool.and_eq_true] at h;simp only [List.zip_cons_cons, List.all_cons, ih h.2, Bool.and_true]
    cases x <;> simp [tS] at h
    cases d <;> simp [Instr.sameBits]
  have : Instr.sameBits (9999 + 1) (.agg xs) (.agg xs) = true := by
   rw [Instr.sameBits];simp [key 9999 xs.toList hok.2]
  exact this
theorem MI (hR : Rel P w0 B ρ H w) {b c d sz : Nat} {es es2 : List MapEntry} {cl cl2 : Nat} (hb : ρ b = some (c, d, sz)) (ho : H.get b = some (.map es cl)) {es2' : Array MapEntry} (hrel : hJ P ρ es2 es2'.toList) :
 Rel P w0 B ρ (H.set b (.map es2 cl2)) { w with heap := w.heap.setIfInBounds c (.map es2' cl2) } ∧ eE ρ H w ρ (H.set b (.map es2 cl2)) { w with heap := w.heap.setIfInBounds c (.map es2' cl2) } := by
 have hc := hR.blk b c d sz hb;refine hR.setBlock (o' := .map es2 cl2) hb ho rfl rfl rfl rfl rfl (by simp) (fun k hk => ?_) ?_
 ·simp only [Array.getElem?_setIfInBounds]
  rw [if_neg (by omega)]
 ·refine ⟨es2', ?_, by simpa using hrel.1, fun i e e' he he' => hrel.2 i e e' he (by simpa using he')⟩
  simp [hc]
theorem hJ.push {es es' : List MapEntry} (h : hJ P ρ es es') {e e' : MapEntry} (he : Vk P ρ e e') : hJ P ρ (es ++ [e]) (es' ++ [e']) := by
 refine ⟨by simp [h.1], fun i a a' ha ha' => ?_⟩;rw [List.getElem?_append] at ha ha'
 by_cases hi : i < es.length
 ·rw [if_pos hi] at ha; rw [if_pos (by rw [h.1]; exact hi)] at ha'; exact h.2 i a a' ha ha'
 ·rw [if_neg hi] at ha; rw [if_neg (by rw [h.1]; exact hi), h.1] at ha'
  have e0 : i - es.length = 0 := by
   have := (Ab.1 ha).1;simp at this; omega
  rw [e0] at ha ha';cases ha; cases ha';exact he
theorem hJ.modify {es es' : List MapEntry} (h : hJ P ρ es es') (i : Nat) {f f' : MapEntry → MapEntry} (hf : ∀ e e', Vk P ρ e e' → Vk P ρ (f e) (f' e')) : hJ P ρ (es.modify i f) (es'.modify i f') := by
 refine ⟨by simp [h.1], fun j a a' ha ha' => ?_⟩;rw [List.getElem?_modify] at ha ha';obtain ⟨e, he, rfl⟩ := au.1 ha;obtain ⟨e', he', rfl⟩ := au.1 ha';have := h.2 j e e' he he'
 split
 ·exact hf _ _ this
 ·exact this
theorem hJ.erase {es es' : List MapEntry} (h : hJ P ρ es es') (i : Nat) : hJ P ρ (es.eraseIdx i) (es'.eraseIdx i) := by
 refine ⟨by simp [List.length_eraseIdx, h.1], fun j a a' ha ha' => ?_⟩;rw [List.getElem?_eraseIdx] at ha ha'
 split at ha <;> rename_i hj
 ·rw [if_pos hj] at ha'; exact h.2 j a a' ha ha'
 ·rw [if_neg hj] at ha'; exact h.2 _ a a' ha ha'
theorem SD (hR : Rel P w0 B ρ H w) {t kt et : TypeId} (ht : ca P t = some (kt, et)) {cl : KCls} (hcl : cE P kt = some cl) {m m' k k' x x' : Value} {H' : AH}
 (h : nP cl m k x H = some H') (hm : VRel P ρ m m') (hk : VRel P ρ k k') (hx : VRel P ρ x x') : ∃ w', (Instr.mapUpdate t m' k' x').run P w = .ok () w' ∧ eE ρ H w ρ H' w' ∧ Rel P w0 B ρ H' w' := by
 unfold nP at h
 split at h
 ·rename_i hok
  have hkk := wj hok hk;subst hkk;have hu := oF ht
  cases m <;> try (cases h; done)
  rename_i r0
  cases r0 with
  | none => simp at h
  | some b =>
  simp only at h
  split at h
  ·rename_i es c hg
   obtain ⟨r, hr, h⟩ := au.1 h;obtain ⟨cb, d, sz, hb, rfl⟩ := hm.map_inv;obtain ⟨es', hw, hrel⟩ := hR.map hb hg;obtain ⟨r', h1, h2⟩ := G9 (w := w) hcl hok hr hrel;simp only [Instr.mapUpdate, Sem.run_bind, run_underlying hu, Result.andThen_ok, ez hw, vD hcl hok, h1]
   cases r with
   | none =>
    cases r' with
    | some x => obtain ⟨i, x⟩ := x; simp [gy] at h2
    | none =>
     subst h;have hs := MI (cl2 := c + 1) hR hb hg (es2 := es ++ [{ key := k', val := x, born := c }]) (es2' := es'.push { key := k', val := x', born := c }) (by simpa using hrel.push (e := { key := k', val := x, born := c }) (e' := { key := k', val := x', born := c }) ⟨hk, hx, rfl⟩);exact ⟨_, jh hw, hs.2, hs.1⟩
   | some y =>
    obtain ⟨i, y⟩ := y
    cases r' with
    | none => simp [gy] at h2
    | some y' =>
     obtain ⟨i', y'⟩ := y';obtain ⟨rfl, hy⟩ := h2;subst h;obtain ⟨_, e, he, hek⟩ := Jv hr;simp only [Nat.sub_zero] at he;have hi : i < es.length := (Ab.1 he).1
     have hi' : i < es'.toList.length := by rw [hrel.1]; exact hi
     have hrele := hrel.2 i e es'.toList[i] he (na hi')
     have hold : (((es'[i]?).map (·.key)).getD k') = k' := by
      have hkey := hrele.1;rw [hek] at hkey;have := wj hok hkey
      have hi2 : i < es'.size := by simpa using hi'
      simp only [Array.getElem_toList] at this;simp [hi2, this]
     have hstay : (Instr.keyThatStays (((es'[i]?).map (·.key)).getD k') k').run P w = .ok k' w := by
      rw [hold];simp [Instr.keyThatStays, IK hok]
     simp only [Sem.run_bind, hstay, Result.andThen_ok]
     have hs := MI (cl2 := c) hR hb hg (es2 := es.modify i fun e => { e with key := k', val := x }) (es2' := es'.modify i fun e => { e with key := k', val := x' }) (by
      have := hrel.modify i (f := fun e => { e with key := k', val := x }) (f' := fun e => { e with key := k', val := x' }) (fun e e' h => ⟨hk, hx, h.2.2⟩)
      simpa [Array.toList_modify] using this)
     exact ⟨_, jh hw, hs.2, hs.1⟩
  ·cases h
 ·cases h
theorem PD (hR : Rel P w0 B ρ H w) {t ty kt et : TypeId} (ht : ca P t = some (kt, et)) {cl : KCls} (hcl : cE P kt = some cl) {m m' k k' : Value} {H' : AH} {ts : Array TypeId} (hts : ts[0]? = some t)
 (h : nN cl m k H = some H') (hm : VRel P ρ m m') (hk : VRel P ρ k k') : ∃ w', (Builtin.delete_ ts ty #[m', k']).run P w = .ok (.tuple #[]) w' ∧ eE ρ H w ρ H' w' ∧ Rel P w0 B ρ H' w' := by
 unfold nN at h
 split at h
 ·rename_i hok
  have hkk := wj hok hk;subst hkk;have hu := oF ht
  cases m <;> try (cases h; done)
  rename_i r0
  cases r0 with
  | none => simp at h
  | some b =>
  simp only at h
  split at h
  ·rename_i es c hg
   obtain ⟨r, hr, h⟩ := au.1 h;obtain ⟨cb, d, sz, hb, rfl⟩ := hm.map_inv;obtain ⟨es', hw, hrel⟩ := hR.map hb hg;obtain ⟨r', h1, h2⟩ := G9 (w := w) hcl hok hr hrel
   have pre : ∀ {w' : World}, (match r' with
    | some (i, _) => setObj cb (.map (es'.eraseIdxIfInBounds i) c)
    | none => setObj cb (.map es' c) : Sem Unit).run P w = .ok () w' → (Builtin.delete_ ts ty #[.map (some cb), k']).run P w = .ok (.tuple #[]) w' := by
    intro w' hrun
    cases r' with
    | none => simp [Builtin.delete_, hts, run_underlying hu, ez hw, vD hcl hok, h1, hrun]
    | some x => obtain ⟨i, x⟩ := x; simp [Builtin.delete_, hts, run_underlying hu, ez hw, vD hcl hok, h1, hrun]
   cases r with
   | none =>
    cases r' with
    | some x => obtain ⟨i, x⟩ := x; simp [gy] at h2
    | none =>
     subst h;have hs := MI (cl2 := c) hR hb hg (es2 := es) (es2' := es') hrel;exact ⟨_, pre (jh hw), hs.2, hs.1⟩
   | some y =>
    obtain ⟨i, y⟩ := y
    cases r' with
    | none => simp [gy] at h2
    | some y' =>
     obtain ⟨i', y'⟩ := y';obtain ⟨rfl, hy⟩ := h2;subst h
     have hs := MI (cl2 := c) hR hb hg (es2 := es.eraseIdx i) (es2' := es'.eraseIdxIfInBounds i) (by
      have hi : i < es'.size := by
       obtain ⟨_, e, he, _⟩ := Jv hr;have := (Ab.1 he).1;have := hrel.1;simp at this; omega
      have := hrel.erase i
      simpa [Array.eraseIdxIfInBounds, hi] using this)
     exact ⟨_, pre (jh hw), hs.2, hs.1⟩
  ·cases h
 ·cases h
end
def Hx (G : List Nat) : Operand → Bool
 | .const v => BV v
 | .global g => G.contains g
 | _ => true
def cf (A : List Value) : Operand → Value
 | .tmp t => A[t]?.getD undef
 | .const v => v
 | .global g => .pointer (some ⟨g, 0, none⟩)
 | .func f => .func (.func f) #[] #[]
def GlobRel (ρ : aV) (G : List Nat) : Prop := ∀ g ∈ G, ∃ sz, ρ g = some (g, 0, sz)
theorem GlobRel.mono {ρ ρ' : aV} {G : List Nat} (hle : ∀ b x, ρ b = some x → ρ' b = some x) (h : GlobRel ρ G) : GlobRel ρ' G :=
 fun g hg => let ⟨sz, hs⟩ := h g hg; ⟨sz, hle _ _ hs⟩
structure bf (ds : List Deferred) (P : Program) (ρ : aV) (A : List Value) (a : Act) : Prop where
 tmps : LRel P ρ A a.tmps.toList
 defers : a.defers = ds
section
variable {ds : List Deferred} {P : Program} {w0 : World} {B : Nat} {ρ : aV} {H : AH} {w : World} {G : List Nat}
theorem bf.mono {ρ' : aV} {A : List Value} {a : Act} (hle : ∀ b x, ρ b = some x → ρ' b = some x) (h : bf ds P ρ A a) : bf ds P ρ' A a := ⟨h.tmps.mono hle, h.defers⟩
theorem ta {A : List Value} {a : Act} (hA : bf ds P ρ A a) (hG : GlobRel ρ G) {x : Operand} (hx : Hx G x = true) : VRel P ρ (cf A x) (a.eval x) := by
 cases x with
 | tmp t =>
  simp only [cf, Act.eval]
  cases hA1 : A[t]? with
  | none =>
   have h1 : A.length ≤ t := by rwa [List.getElem?_eq_none_iff] at hA1
   have h2 : a.tmps.size ≤ t := by have := hA.tmps.1; simp at this; omega
   have : a.tmps.getD t undef = undef := by simp [Array.getD, Nat.not_lt.2 h2]
   rw [this];exact VRel.undef
  | some v =>
   obtain ⟨y, hy, hv⟩ := hA.tmps.get hA1
   have : a.tmps.getD t undef = y := by
    rw [Array.getElem?_toList] at hy;rw [Array.getD_eq_getD_getElem?, hy]
    rfl
   rw [this];exact hv
 | const v => exact VRel.const hx
 | global g =>
  simp only [Hx, List.contains_iff_mem] at hx;obtain ⟨sz, hs⟩ := hG g hx;exact .ptr (d := 0) (o := 0) hs
 | func f => exact .func rfl (fun _ _ _ h => by simp at h) rfl (fun _ _ _ h => by simp at h)
theorem bf.put {A : List Value} {a : Act} (hA : bf ds P ρ A a) (d : Option Tmp) {v v' : Value} (hv : VRel P ρ v v') :
 bf ds P ρ (match d with | some d => A.set d v | none => A) (a.put d v') := by
 cases d with
 | none => exact hA
 | some d => exact ⟨by simpa [Act.put] using hA.tmps.set d hv, hA.defers⟩
def ox (P : Program) (G : List Nat) (call : aR) : Prop :=
 ∀ f args H v H', call f args H = some (v, H') → (∃ fn, P.funcs[f]? = some fn ∧ fn.body.isSome = true ∧ fn.name ≠ "runtime.NumGoroutine") ∧
  ∀ w0 B ρ w args', Rel P w0 B ρ H w → GlobRel ρ G → LRel P ρ args args' →
   Calls P f args'.toArray w fun e w' => ∃ v' ρ', e = .returned v' ∧ VRel P ρ' v v' ∧ eE ρ H w ρ' H' w' ∧ Rel P w0 B ρ' H' w'
theorem wl {ev ev' : Operand → Value} {xs : Array Operand} (h : ∀ x ∈ xs.toList, VRel P ρ (ev x) (ev' x)) : LRel P ρ (xs.toList.map ev) (xs.map ev').toList := by
 refine ⟨by simp, fun i a b ha hb => ?_⟩;simp only [W9, au, Array.toList_map] at ha hb;obtain ⟨x, hx, rfl⟩ := ha;obtain ⟨y, hy, rfl⟩ := hb;rw [hx] at hy;cases hy;exact h x (List.mem_of_getElem? hx)
def RN (v : Value) : Sem Next :=
 match v with
 | .pointer none | .nilIface | .nilFunc => runtimePanic .nilDeref
 | .func (.method name) first captured =>
  match (first[0]? : Option Value) with
  | some .nilIface => runtimePanic .nilDeref
  | some (.iface t w) => do
   if (← nilAhead ((← program).types.size + Made.depth) t w name) != some false then
    unsupported (.noEntry "op/nilCheck.the method's receiver behind this interface value is a nil pointer, or cannot be seen to be none, and the arguments act or may panic (ledger 612)")
   pure (.value (.func (.method name) first captured))
  | _ => pure (.value (.func (.method name) first captured))
 | x => pure (.value x)
theorem Ol {v v' x : Value} (h : yL v = some x) (hv : VRel P ρ v v') : x = v ∧ RN v' = pure (.value v') := by
 cases hv with
 | lit hl =>
  cases v with
  | pointer a => cases a <;> simp [yL] at h <;> simp [cO] at hl
  | func fn f c => simp [cO] at hl
  | slice a n k => cases h; exact ⟨rfl, rfl⟩
  | map a => cases h; exact ⟨rfl, rfl⟩
  | chan a => cases h; exact ⟨rfl, rfl⟩
  | _ => first | (simp [yL] at h; done) | (cases h; exact ⟨rfl, rfl⟩) | (simp [cO] at hl)
 | func hf h1 hc h2 =>
  rename_i fn f f' c c'
  cases fn <;> first | (cases h; exact ⟨rfl, rfl⟩) | (simp [yL] at h)
 | ptr _ => cases h; exact ⟨rfl, rfl⟩
 | slice _ _ _ _ => cases h; exact ⟨rfl, rfl⟩
 | slice0 _ => cases h; exact ⟨rfl, rfl⟩
 | empty => cases h; exact ⟨rfl, rfl⟩
 | map _ => cases h; exact ⟨rfl, rfl⟩
 | iface _ => cases h; exact ⟨rfl, rfl⟩
 | agg _ _ => cases h; exact ⟨rfl, rfl⟩
 | tuple _ _ => cases h; exact ⟨rfl, rfl⟩
theorem UG {n off : Nat} {t : TypeId} {f : Field} {fs : Array Field} {v v' x : Value} {i : Nat} (hu : P.underlying t = some (.struct fs)) (hf : fs[i]? = some f) (hn : cm P f.type = some n) (h0 : n ≠ 0) (hoff : f.offset = off)
 (h : IE off v = some x) (hv : VRel P ρ v v') : ∃ x', (Instr.fieldAt t v' i).run P w = .ok x' w ∧ VRel P ρ x x' := by
 obtain ⟨⟨b, o⟩, ha, rfl⟩ := au.1 h;rw [Aj ha] at hv;obtain ⟨c, d, sz, hb, rfl⟩ := hv.ptr_inv;refine ⟨.pointer (some ⟨c, d + o + off, none⟩), ?_, ?_⟩
 ·simp [Instr.fieldAt, run_underlying hu, hf, Instr.sureAddr, fieldPlace, cG hn, h0, hoff, Addr.add_lit]
 ·rw [Nat.add_assoc]; exact .ptr hb
theorem HB {t : TypeId} {n : Option Nat} (hn : eG P t = some n) {off : Nat} {xs : Array Value} {v' x : Value} (h : mF n off (.agg xs) = some x) (hv : VRel P ρ (.agg xs) v') :
 ∃ ys x', v' = .agg ys ∧ (part t ys off).run P w = .ok x' w ∧ VRel P ρ x x' := by
 obtain ⟨ys, rfl, hs, he⟩ := hv.agg_inv
 cases n with
 | none =>
  simp only [mF] at h;have hi : off < xs.size := (Array.getElem?_eq_some_iff.1 h).1
  have hi' : off < ys.size := by omega
  exact ⟨ys, ys[off], rfl, by simp [part, qu hn, hi'], he off x _ h (by simp [hi'])⟩
 | some n =>
  simp only [mF] at h;cases h;obtain ⟨hag, hsz⟩ := qw hn w;refine ⟨ys, .agg (ys.extract off (off + n)), rfl, by simp [part, hag, cG hsz], .agg (by simp [hs]) (fun i x y hx hy => ?_)⟩;rw [Array.getElem?_extract] at hx hy;rw [← hs] at hy
  split at hx
  ·rename_i hi; rw [if_pos hi] at hy; exact he _ x y hx hy
  ·cases hx
theorem UK {e : Nat} {t el : TypeId} (hu : P.underlying t = some (.slice el)) (he : cm P el = some e) {v v' i i' x : Value} (h : pL e v i = some x) (hv : VRel P ρ v v') (hi : VRel P ρ i i') :
 ∃ x', (Instr.indexAt t v' i').run P w = .ok x' w ∧ VRel P ρ x x' := by
 by_cases hsl : ∃ a n k, v = .slice a n k
 case neg =>
  exfalso
  cases v <;> first | exact hsl ⟨_, _, _, rfl⟩ | (simp [pL] at h)
 obtain ⟨a, n, k, rfl⟩ := hsl
 cases a with
 | none => cases i <;> simp [pL] at h
 | some ad =>
 obtain ⟨b, o, sp⟩ := ad
 cases sp with
 | some sp => cases i <;> simp [pL] at h
 | none =>
 cases i <;> simp only [pL] at h <;> try (cases h; done)
 rename_i kk i
 split at h
 ·rename_i hc
  cases h;rw [hi.int_inv]
  have hel : P.elem t = el := by simp [Program.elem, hu]
  cases hv with
  | lit h => simp [cO] at h
  | slice0 h => omega
  | empty => omega
  | slice hb hk hn he0 =>
   rename_i c d sz k'
   refine ⟨.pointer (some ⟨c, d + o + i.toNat * e, none⟩), ?_, by rw [Nat.add_assoc]; exact .ptr hb⟩;rw [run_indexAt_slice w t ⟨c, d + o, none⟩ n k' kk i (by rw [hel]; exact hu), if_pos hc, hel, cG he];simp [Addr.add_lit]
 ·cases h
theorem N8 {e len : Nat} {t el : TypeId} (hu : P.underlying t = some (.array len el)) (he : cm P el = some e) {v v' i i' x : Value} (h : il len e v i = some x) (hv : VRel P ρ v v') (hi : VRel P ρ i i') :
 ∃ x', (Instr.indexAt t v' i').run P w = .ok x' w ∧ VRel P ρ x x' := by
 by_cases hsl : ∃ a, v = .pointer a
 case neg =>
  exfalso
  cases v <;> first | exact hsl ⟨_, rfl⟩ | (simp [il] at h)
 obtain ⟨a, rfl⟩ := hsl
 cases a with
 | none => cases i <;> simp [il] at h
 | some ad =>
 obtain ⟨b, o, sp⟩ := ad
 cases sp with
 | some sp => cases i <;> simp [il] at h
 | none =>
 cases i <;> simp only [il] at h <;> try (cases h; done)
 rename_i kk i
 split at h
 ·rename_i hc
  cases h;rw [hi.int_inv];obtain ⟨c, d, sz, hb, rfl⟩ := hv.ptr_inv
  have hel : P.elem t = el := by simp [Program.elem, hu]
  have hlen : P.arrayLen t = len := by simp [Program.arrayLen, hu]
  refine ⟨.pointer (some ⟨c, d + o + i.toNat * e, none⟩), ?_, by rw [Nat.add_assoc]; exact .ptr hb⟩;rw [run_indexAt_array w t ⟨c, d + o, none⟩ kk i (by rw [hel, hlen]; exact hu), hlen, if_pos hc, hel, cG he];simp [Addr.add_lit]
 ·cases h
theorem Hi {e len : Nat} {n : Option Nat} {t el : TypeId} (hu : P.underlying t = some (.array len el)) (he : cm P el = some e) (hn : eG P el = some n) {v v' i i' x : Value} (h : eU len n e v i = some x) (hv : VRel P ρ v v') (hi : VRel P ρ i i') :
 ∃ x', (Instr.index t v' i').run P w = .ok x' w ∧ VRel P ρ x x' := by
 cases v <;> simp only [eU] at h <;> try (cases h; done)
 rename_i xs
 cases i <;> simp only at h <;> try (cases h; done)
 rename_i kk i
 split at h
 ·rename_i hc
  rw [hi.int_inv]
  have hp : mF n (i.toNat * e) (.agg xs) = some x := by cases n <;> simpa [mF] using h
  obtain ⟨ys, x', rfl, hr, hx⟩ := HB (w := w) hn hp hv;exact ⟨x', by simp [Instr.index, asIntOf, run_underlying hu, hc, cG he, hr], hx⟩
 ·cases h
theorem Hh {t : TypeId} (hu : P.underlying t = some .string) {v v' i i' x : Value} (h : i6 v i = some x) (hv : VRel P ρ v v') (hi : VRel P ρ i i') :
 ∃ x', (Instr.index t v' i').run P w = .ok x' w ∧ VRel P ρ x x' := by
 cases v <;> simp only [i6] at h <;> try (cases h; done)
 rename_i s
 cases i <;> simp only at h <;> try (cases h; done)
 rename_i kk i
 split at h
 ·rename_i hc
  obtain ⟨b, hb, rfl⟩ := au.1 h;rw [hi.int_inv, hv.string_inv];exact ⟨_, by simp [Instr.index, asIntOf, run_underlying hu, hc, hb], .lit rfl⟩
 ·cases h
theorem JQ {e : Nat} {t el : TypeId} (hu : P.underlying t = some (.slice el)) (he : cm P el = some e) {x x' v : Value} {lo hi lo' hi' : Option Value} (h : eV e x lo hi = some v) (hx : VRel P ρ x x')
 (hlo : lo = none ∧ lo' = none ∨ ∃ a a', lo = some a ∧ lo' = some a' ∧ VRel P ρ a a') (hhi : hi = none ∧ hi' = none ∨ ∃ a a', hi = some a ∧ hi' = some a' ∧ VRel P ρ a a') :
 ∃ v', (Instr.sliceAt t x' lo' hi' none).run P w = .ok v' w ∧ VRel P ρ v v' := by
 cases x <;> simp only [eV] at h <;> try (cases h; done)
 rename_i a n e'
 have h2 := ai.1 h
 clear h
 obtain ⟨l, hl, h⟩ := h2;have h2 := ai.1 h
 clear h
 obtain ⟨hh, hhv, h⟩ := h2
 split at h
 ·rename_i hc
  have elo : lo = none ∧ lo' = none ∧ l = 0 ∨ ∃ k, lo' = some (.int k l) := by
   rcases hlo with ⟨rfl, rfl⟩ | ⟨b, b', rfl, rfl, hb⟩
   ·left; simp at hl; exact ⟨rfl, rfl, hl.symm⟩
   ·right; cases b <;> simp [lH] at hl; subst hl; exact ⟨_, by rw [hb.int_inv]⟩
  have ehi : hi = none ∧ hi' = none ∧ hh = n ∨ ∃ k, hi' = some (.int k hh) := by
   rcases hhi with ⟨rfl, rfl⟩ | ⟨b, b', rfl, rfl, hb⟩
   ·left; simp at hhv; exact ⟨rfl, rfl, hhv.symm⟩
   ·right; cases b <;> simp [lH] at hhv; subst hhv; exact ⟨_, by rw [hb.int_inv]⟩
  -- what the run comes to
  have run : ∀ (a' : Option Addr) (k' : Nat), n ≤ k' → (Instr.sliceAt t (.slice a' n k') lo' hi' none).run P w = .ok (.slice (if k' = l.toNat then a' else a'.map (·.add (l.toNat * e))) (hh.toNat - l.toNat) (k' - l.toNat)) w := by
   intro a' k' hk
   have c1 : hh ≤ (k' : Int) := by omega
   have c3 : 0 ≤ hh := by omega
   have c2 : l ≤ hh := hc.2.1
   have c5 : max hh 0 = hh := by omega
   rcases elo with ⟨_, rfl, rfl⟩ | ⟨kl, rfl⟩ <;> rcases ehi with ⟨_, rfl, rfl⟩ | ⟨kh, rfl⟩ <;>
    simp [Instr.sliceAt, Instr.slice, run_underlying hu, Instr.sliceBounds, Instr.sliceBound, asIntOf, cG he, hc.1, c1, c2, c3, c5]
  cases a with
  | none =>
   simp only at h
   split at h
   ·rename_i hne
    obtain ⟨rfl, rfl⟩ := hne;cases h;rw [hx.nilslice_inv]
    have e1 : l.toNat = 0 := by omega
    have e2 : hh.toNat = 0 := by omega
    refine ⟨.slice none 0 0, ?_, .lit rfl⟩;rw [run none 0 (cr _), e1, e2]
    rfl
   ·cases h
  | some ad =>
   obtain ⟨b, o, sp⟩ := ad
   cases sp with
   | some sp => simp at h
   | none =>
    simp only at h
    split at h
    ·rename_i hee
     obtain ⟨rfl, he0⟩ := hee;cases h
     cases hx with
     | lit h => simp [cO] at h
     | slice hb hk hn he1 =>
      rename_i c d sz k'
      refine ⟨_, run _ k' hn, ?_⟩
      by_cases hkl : k' = l.toNat
      ·have e1 : hh.toNat - l.toNat = 0 := by omega
       have e2 : k' - l.toNat = 0 := by omega
       rw [if_pos hkl, e1, e2];exact .slice0 hb
      ·rw [if_neg hkl]
       simp only [ff, Addr.add_lit];rw [Nat.add_assoc];refine .slice hb ?_ (by omega) he0
       have h1 : l.toNat * e' + (k' - l.toNat) * e' = k' * e' := by rw [← Nat.add_mul]; congr 1; omega
       omega
     | empty => omega
     | slice0 hb =>
      rename_i c d sz a
      refine ⟨_, run _ 0 (cr _), ?_⟩
      have e1 : l.toNat = 0 := by omega
      have e2 : hh.toNat = 0 := by omega
      rw [e1, e2]
      simpa using VRel.slice0 hb
    ·cases h
 ·cases h
theorem HT {t el : TypeId} {e : Nat} (hu : P.underlying t = some (.slice el)) (he : cm P el = some e) {x x' hi hi' mx mx' v : Value} (h : i7 x hi mx = some v) (hx : VRel P ρ x x') (hh : VRel P ρ hi hi') (hm : VRel P ρ mx mx') :
 ∃ v', (Instr.sliceAt t x' none (some hi') (some mx')).run P w = .ok v' w ∧ VRel P ρ v v' := by
 have run : ∀ (a' : Option Addr) (n k' : Nat) (k1 k2 : IntKind), (Instr.sliceAt t (.slice a' n k') none (some (.int k1 0)) (some (.int k2 0))).run P w = .ok (.slice a' 0 0) w := by
  intro a' n k' k1 k2;simp [Instr.sliceAt, Instr.slice, run_underlying hu, Instr.sliceBounds, Instr.sliceBound, asIntOf, cG he]
 unfold i7 at h
 split at h
 ·cases h
  rw [hh.int_inv, hm.int_inv, hx.nilslice_inv];exact ⟨_, run _ _ _ _ _, .lit rfl⟩
 ·rename_i b o n k k1 k2 _
  cases h;rw [hh.int_inv, hm.int_inv]
  cases hx with
  | lit h => simp [cO] at h
  | slice hb _ _ _ => exact ⟨_, run _ _ _ _ _, .slice0 hb⟩
  | slice0 hb => exact ⟨_, run _ _ _ _ _, .slice0 hb⟩
  | empty => exact ⟨_, run _ _ _ _ _, .empty⟩
 ·cases h
end
end Go.Proofs.YthagelbepgcolaaGreatDoor.Gst
