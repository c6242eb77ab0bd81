/- Several texts in one. -/
import Derived.Calls
import Derived.Orders
import Derived.Below
import Derived.Laws.Entries
import Derived.Laws.Cells
import Derived.Laws.CopyRow
import Derived.Laws.Append
import Derived.Laws.AppendOwn
import Derived.Laws.MakeOwn
import Derived.Laws.StructEq
import Derived.Laws.Pointers
import Derived.Laws.Slices
import Derived.Laws.Strings
import Derived.Deep.LoopGhost
import Derived.Tactics
import Derived.LoopN
import Derived.Defers
import Derived.KernelRfl
import Derived.DataReads
import Derived.ChangeArms
import Derived.ChangeSame
import Derived.Carry
import Derived.ProofKit
import Derived.Recover
import Derived.Test.YtghoamdlcjdfjaaGreatDoorProg
import Derived.Test.YtghoamdlcjdfjaaGreatDoorRows
namespace Go.Proofs.YtghoamdlcjdfjaaGreatDoor.Gst
open Go Go.RowKit
set_option linter.unusedVariables false
set_option linter.unusedSimpArgs false
abbrev aC := @Option.bind_eq_some_iff
abbrev aM := @Option.map_eq_some_iff
abbrev br := @List.getElem?_eq_getElem
abbrev Em := @List.getElem?_eq_some_iff
abbrev vt := @List.getElem?_map
abbrev nC := @List.length_append
abbrev be := @Option.bind_some
abbrev qM := @List.length_map
abbrev vx := @List.length_set
abbrev ia := @decide_eq_true
abbrev hZ := @decide_eq_false
abbrev Jk := @List.map_append
abbrev dD := @Option.map_some
abbrev Jl := @List.mem_cons
abbrev fg := @Option.some.inj
abbrev rO := @Int.toNat_natCast
abbrev PN := @List.getElem_mem
abbrev Xv := @Int.tmod_eq_emod_of_nonneg
abbrev dN := @Nat.le_trans
abbrev bf := @Nat.le_refl
inductive AObj where
 | cells (ro : Bool) (cs : List Value)
 | map (es : List MapEntry) (clock : Nat)
 | dead
def AObj.rw : AObj → Bool
 | .cells false _ => true
 | .map _ _ => true
 | _ => false
structure AH where
 objs : List AObj
def AH.size (H : AH) : Nat := H.objs.length
def AH.get (H : AH) (b : Nat) : Option AObj := H.objs[b]?
def AH.set (H : AH) (b : Nat) (o : AObj) : AH := ⟨H.objs.set b o⟩
def AH.push (H : AH) (o : AObj) : AH := ⟨H.objs ++ [o]⟩
theorem AH.size_set (H : AH) (b : Nat) (o : AObj) : (H.set b o).size = H.size := by simp [AH.size, AH.set]
theorem AH.size_push (H : AH) (o : AObj) : (H.push o).size = H.size + 1 := by simp [AH.size, AH.push]
theorem AH.lt_of_get {H : AH} {b : Nat} {o : AObj} (h : H.get b = some o) : b < H.size := by
 unfold AH.get at h; unfold AH.size;exact (Em.1 h).1
theorem AH.get_none {H : AH} {b : Nat} (h : H.size ≤ b) : H.get b = none := by
 unfold AH.get; unfold AH.size at h; exact List.getElem?_eq_none h
theorem AH.get_push (H : AH) (o : AObj) (b : Nat) : (H.push o).get b = if b = H.size then some o else H.get b := by
 unfold AH.get AH.push AH.size
 by_cases h : b = H.objs.length
 ·subst h; simp
 ·rw [if_neg h]
  by_cases hl : b < H.objs.length
  ·rw [List.getElem?_append_left hl]
  ·rw [List.getElem?_append_right (by omega), List.getElem?_eq_none (by simp; omega), List.getElem?_eq_none (by omega)]
theorem AH.get_set (H : AH) (b : Nat) (o : AObj) (b' : Nat) : (H.set b o).get b' = if b' = b then (if b < H.size then some o else none) else H.get b' := by
 unfold AH.get AH.set AH.size;rw [List.getElem?_set]
 by_cases h : b = b'
 ·subst h; simp
 ·rw [if_neg h, if_neg (fun e => h e.symm)]
theorem AH.get_set_ne {H : AH} {b : Nat} {o : AObj} {b' : Nat} (h : b' ≠ b) : (H.set b o).get b' = H.get b' := by rw [AH.get_set, if_neg h]
theorem AH.get_set_eq {H : AH} {b : Nat} {o : AObj} (h : b < H.size) : (H.set b o).get b = some o := by rw [AH.get_set, if_pos rfl, if_pos h]
theorem AH.get_push_old {H : AH} {o : AObj} {b : Nat} (h : b < H.size) : (H.push o).get b = H.get b := by rw [AH.get_push, if_neg (by omega)]
theorem AH.get_push_new (H : AH) (o : AObj) : (H.push o).get H.size = some o := by rw [AH.get_push, if_pos rfl]
def cB : Value → Bool
 | .bool _ | .int _ _ | .float _ _ | .complex _ _ _ | .string _ | .pointer none | .slice none _ _ | .map none | .chan none | .nilFunc | .nilIface => true
 | _ => false
def uY : Value → Bool
 | .agg cs => cs.toList.all cB
 | .tuple cs => cs.toList.all cB
 | v => cB v
abbrev bh := Nat → Option (Nat × Nat × Nat)
def bh.upd (ρ : bh) (b : Nat) (x : Nat × Nat × Nat) : bh := fun i => if i = b then some x else ρ i
inductive VRel (P : Program) (ρ : bh) : Value → Value → Prop
 | lit {v : Value} (h : cB v = true) : VRel P ρ v v
 | ptr {b o c d sz : Nat} (h : ρ b = some (c, d, sz)) : VRel P ρ (.pointer (some ⟨b, o, none⟩)) (.pointer (some ⟨c, d + o, none⟩))
 | slice {b o n e c d sz k : Nat} (h : ρ b = some (c, d, sz)) (hk : d + o + k * e ≤ sz) (hn : n ≤ k) (he : 0 < e) :
  VRel P ρ (.slice (some ⟨b, o, none⟩) n e) (.slice (some ⟨c, d + o, none⟩) n k)
 | slice0 {b o e c d sz : Nat} {a : Addr} (h : ρ b = some (c, d, sz)) : VRel P ρ (.slice (some ⟨b, o, none⟩) 0 e) (.slice (some a) 0 0)
 | empty {b o : Nat} {a : Addr} : VRel P ρ (.slice (some ⟨b, o, none⟩) 0 0) (.slice (some a) 0 0)
 | map {b c d sz : Nat} (h : ρ b = some (c, d, sz)) : VRel P ρ (.map (some b)) (.map (some c))
 | func {fn : Fn} {f f' c c' : Array Value} (hf : f.size = f'.size) (hfe : ∀ (i : Nat) (x y : Value), f[i]? = some x → f'[i]? = some y → VRel P ρ x y)
  (hc : c.size = c'.size) (hce : ∀ (i : Nat) (x y : Value), c[i]? = some x → c'[i]? = some y → VRel P ρ x y) : VRel P ρ (.func fn f c) (.func fn f' c')
 | iface {t : TypeId} {v v' : Value} (h : VRel P ρ v v') : VRel P ρ (.iface t v) (.iface t v')
 | agg {xs ys : Array Value} (hs : xs.size = ys.size) (he : ∀ (i : Nat) (x y : Value), xs[i]? = some x → ys[i]? = some y → VRel P ρ x y) : VRel P ρ (.agg xs) (.agg ys)
 | tuple {xs ys : Array Value} (hs : xs.size = ys.size) (he : ∀ (i : Nat) (x y : Value), xs[i]? = some x → ys[i]? = some y → VRel P ρ x y) : VRel P ρ (.tuple xs) (.tuple ys)
theorem VRel.mono {P : Program} {ρ ρ' : bh} (hle : ∀ b x, ρ b = some x → ρ' b = some x) {v v' : Value} (h : VRel P ρ v v') : VRel P ρ' v v' := by
 induction h with
 | lit h => exact .lit h
 | ptr h => exact .ptr (hle _ _ h)
 | slice h hk hn he => exact .slice (hle _ _ h) hk hn he
 | slice0 h => exact .slice0 (hle _ _ h)
 | empty => exact .empty
 | map h => exact .map (hle _ _ h)
 | func hf _ hc _ ih1 ih2 => exact .func hf ih1 hc ih2
 | iface _ ih => exact .iface ih
 | agg hs _ ih => exact .agg hs ih
 | tuple hs _ ih => exact .tuple hs ih
theorem VRel.slice_inv {P : Program} {ρ : bh} {b o n e : Nat} {s' : Value} (h : VRel P ρ (.slice (some ⟨b, o, none⟩) n e) s') (he : e ≠ 0) :
 (∃ c d sz a, ρ b = some (c, d, sz) ∧ n = 0 ∧ s' = .slice (some a) 0 0) ∨ ∃ c d sz k, ρ b = some (c, d, sz) ∧ d + o + k * e ≤ sz ∧ n ≤ k ∧ s' = .slice (some ⟨c, d + o, none⟩) n k := by
 cases h with
 | lit h => simp [cB] at h
 | slice h hk hn he => exact .inr ⟨_, _, _, _, h, hk, hn, rfl⟩
 | slice0 h => exact .inl ⟨_, _, _, _, h, rfl, rfl⟩
 | empty => exact absurd rfl he
theorem VRel.const {P : Program} {ρ : bh} {v : Value} (h : uY v = true) : VRel P ρ v v := by
 have all : ∀ cs : Array Value, cs.toList.all cB = true → ∀ (i : Nat) (x y : Value), cs[i]? = some x → cs[i]? = some y → VRel P ρ x y := by
  intro cs hcs i x y hx hy;rw [hx] at hy;cases hy
  have hm : x ∈ cs.toList := by
   have := Array.mem_of_getElem? hx
   simpa using this
  exact .lit (List.all_eq_true.1 hcs x hm)
 cases v <;> first
  | exact .lit h
  | exact .agg rfl (all _ h)
  | exact .tuple rfl (all _ h)
theorem VRel.undef {P : Program} {ρ : bh} : VRel P ρ undef undef := .tuple rfl (fun i x y hx _ => by simp at hx)
def LRel (P : Program) (ρ : bh) (xs ys : List Value) : Prop := xs.length = ys.length ∧ ∀ (i : Nat) (x y : Value), xs[i]? = some x → ys[i]? = some y → VRel P ρ x y
theorem LRel.mono {P : Program} {ρ ρ' : bh} (hle : ∀ b x, ρ b = some x → ρ' b = some x) {xs ys : List Value} (h : LRel P ρ xs ys) : LRel P ρ' xs ys :=
 ⟨h.1, fun i x y hx hy => (h.2 i x y hx hy).mono hle⟩
theorem LRel.nil {P : Program} {ρ : bh} : LRel P ρ [] [] := ⟨rfl, fun _ _ _ h => by simp at h⟩
theorem LRel.cons {P : Program} {ρ : bh} {x y : Value} {xs ys : List Value} (h : VRel P ρ x y) (hs : LRel P ρ xs ys) : LRel P ρ (x :: xs) (y :: ys) := by
 refine ⟨by simp [hs.1], fun i a b ha hb => ?_⟩
 cases i with
 | zero => simp at ha hb; subst ha; subst hb; exact h
 | succ i => simp at ha hb; exact hs.2 i a b ha hb
theorem LRel.append {P : Program} {ρ : bh} {xs ys xs' ys' : List Value} (h : LRel P ρ xs ys) (h' : LRel P ρ xs' ys') : LRel P ρ (xs ++ xs') (ys ++ ys') := by
 refine ⟨by simp [h.1, h'.1], fun i a b ha hb => ?_⟩;have hl := h.1;rw [List.getElem?_append] at ha hb
 by_cases hi : i < xs.length
 ·rw [if_pos hi] at ha; rw [if_pos (by omega)] at hb; exact h.2 i a b ha hb
 ·rw [if_neg hi] at ha; rw [if_neg (by omega)] at hb
  rw [← hl] at hb;exact h'.2 _ a b ha hb
theorem LRel.take {P : Program} {ρ : bh} {xs ys : List Value} (h : LRel P ρ xs ys) (n : Nat) : LRel P ρ (xs.take n) (ys.take n) := by
 refine ⟨by simp [h.1], fun i a b ha hb => ?_⟩;rw [List.getElem?_take] at ha hb
 by_cases hi : i < n
 ·rw [if_pos hi] at ha hb; exact h.2 i a b ha hb
 ·rw [if_neg hi] at ha; cases ha
theorem LRel.drop {P : Program} {ρ : bh} {xs ys : List Value} (h : LRel P ρ xs ys) (n : Nat) : LRel P ρ (xs.drop n) (ys.drop n) := by
 refine ⟨by simp [h.1], fun i a b ha hb => ?_⟩;rw [List.getElem?_drop] at ha hb;exact h.2 _ a b ha hb
theorem LRel.set {P : Program} {ρ : bh} {xs ys : List Value} (h : LRel P ρ xs ys) (n : Nat) {x y : Value} (hx : VRel P ρ x y) : LRel P ρ (xs.set n x) (ys.set n y) := by
 refine ⟨by simp [h.1], fun i a b ha hb => ?_⟩;rw [List.getElem?_set] at ha hb
 by_cases hi : n = i
 ·rw [if_pos hi] at ha hb
  have := h.1
  split at ha <;> split at hb <;> first | (cases ha; cases hb; exact hx) | omega | cases ha
 ·rw [if_neg hi] at ha hb; exact h.2 i a b ha hb
theorem LRel.get {P : Program} {ρ : bh} {xs ys : List Value} (h : LRel P ρ xs ys) {i : Nat} {x : Value} (hx : xs[i]? = some x) : ∃ y, ys[i]? = some y ∧ VRel P ρ x y := by
 have hi := (Em.1 hx).1
 have hy : i < ys.length := by have := h.1; omega
 exact ⟨ys[i], br hy, h.2 i x _ hx (br hy)⟩
theorem LRel.of_all {P : Program} {ρ : bh} {xs : List Value} (h : xs.all cB = true) : LRel P ρ xs xs :=
 ⟨rfl, fun i x y hx hy => by
  rw [hx] at hy; cases hy
  exact .lit (List.all_eq_true.1 h x (List.mem_of_getElem? hx))⟩
theorem VRel.cells {P : Program} {ρ : bh} {v v' : Value} (h : VRel P ρ v v') : LRel P ρ v.cells.toList v'.cells.toList := by
 have one : ∀ {v v' : Value}, VRel P ρ v v' → LRel P ρ [v] [v'] := fun h => LRel.cons h LRel.nil
 cases h with
 | lit h =>
  cases v <;> first | exact one (.lit h) | (simp [cB] at h)
 | agg hs he =>
  exact ⟨by simpa [Value.cells] using hs, fun i x y hx hy => he i x y (by simpa [Value.cells] using hx) (by simpa [Value.cells] using hy)⟩
 | ptr h => exact one (.ptr h)
 | slice h hk hn he => exact one (.slice h hk hn he)
 | slice0 h => exact one (.slice0 h)
 | empty => exact one .empty
 | map h => exact one (.map h)
 | func hf h1 hc h2 => exact one (.func hf h1 hc h2)
 | iface h => exact one (.iface h)
 | tuple hs he => exact one (.tuple hs he)
theorem VRel.oneCell {P : Program} {ρ : bh} {v v' : Value} (h : VRel P ρ v v') : v.oneCell' = v'.oneCell' := by
 cases h <;> rfl
def NP (P : Program) (ρ : bh) (e e' : MapEntry) : Prop := VRel P ρ e.key e'.key ∧ VRel P ρ e.val e'.val ∧ e.born = e'.born
def oA (P : Program) (ρ : bh) (d sz : Nat) (o : AObj) (x : Option Obj) : Prop :=
 match o with
 | .dead => True
 | .cells ro cs => ∃ cc el fz, x = some (.cells cc el fz) ∧ cc.size = sz ∧ d + cs.length ≤ sz ∧ (ro = false → fz = (0, 0)) ∧ LRel P ρ cs ((cc.toList.drop d).take cs.length)
 | .map es clock => ∃ es', x = some (.map es' clock) ∧ es'.size = es.length ∧ ∀ (i : Nat) (e e' : MapEntry), es[i]? = some e → es'[i]? = some e' → NP P ρ e e'
theorem oA.mono {P : Program} {ρ ρ' : bh} (hle : ∀ b x, ρ b = some x → ρ' b = some x) {d sz : Nat} {o : AObj} {x : Option Obj} (h : oA P ρ d sz o x) : oA P ρ' d sz o x := by
 cases o with
 | dead => trivial
 | cells ro cs =>
  obtain ⟨cc, el, fz, h1, h2, h3, h4, h5⟩ := h;exact ⟨cc, el, fz, h1, h2, h3, h4, h5.mono hle⟩
 | map es clock =>
  obtain ⟨es', h1, h2, h3⟩ := h;exact ⟨es', h1, h2, fun i e e' he he' => let ⟨a, b, c⟩ := h3 i e e' he he'; ⟨a.mono hle, b.mono hle, c⟩⟩
structure Rel (P : Program) (w0 : World) (B : Nat) (ρ : bh) (H : AH) (w : World) : Prop where
 base : B ≤ w0.heap.size
 below : Below B w0 w
 dom : ∀ b x, ρ b = some x → b < H.size
 blk : ∀ b c d sz, ρ b = some (c, d, sz) → c < w.heap.size
 obj : ∀ b c d sz o, ρ b = some (c, d, sz) → H.get b = some o → oA P ρ d sz o w.heap[c]?
 own : ∀ b c d sz o, ρ b = some (c, d, sz) → H.get b = some o → o.rw = true → B ≤ c
 ro : ∀ b c d sz cs, ρ b = some (c, d, sz) → H.get b = some (.cells true cs) → c < B
 inj : ∀ b b' c d d' sz sz' o o', ρ b = some (c, d, sz) → ρ b' = some (c, d', sz') → H.get b = some o → H.get b' = some o' → o.rw = true → o'.rw = true → b = b'
structure hU (ρ : bh) (H : AH) (w : World) (ρ' : bh) (H' : AH) (w' : World) : Prop where
 le : ∀ b x, ρ b = some x → ρ' b = some x
 fresh : ∀ b x, ρ' b = some x → ρ b = none → H.size ≤ b ∧ b < H'.size
 hsize : H.size ≤ H'.size
 wsize : w.heap.size ≤ w'.heap.size
 keepA : ∀ b, b < H.size → ρ b = none → H'.get b = H.get b
 keepRo : ∀ b o, H.get b = some o → o.rw = false → H'.get b = some o
 keepC : ∀ c, c < w.heap.size → (∀ b d sz o, ρ b = some (c, d, sz) → H.get b = some o → o.rw = false) → w'.heap[c]? = w.heap[c]?
 newC : ∀ b c d sz, ρ' b = some (c, d, sz) → ρ b = none → w.heap.size ≤ c ∨ ∃ b0 d0 sz0 o, ρ b0 = some (c, d0, sz0) ∧ H.get b0 = some o ∧ o.rw = true
theorem hU.refl (ρ : bh) (H : AH) (w : World) : hU ρ H w ρ H w where
 le := fun _ _ h => h
 fresh := fun b x h hn => by rw [hn] at h; cases h
 hsize := bf _
 wsize := bf _
 keepA := fun _ _ _ => rfl
 keepRo := fun _ _ h _ => h
 keepC := fun _ _ _ => rfl
 newC := fun b c d sz h hn => by rw [hn] at h; cases h
theorem hU.trans {P : Program} {w0 : World} {B : Nat} {ρ ρ1 ρ2 : bh} {H H1 H2 : AH} {w w1 w2 : World} (hr : Rel P w0 B ρ H w)
 (h : hU ρ H w ρ1 H1 w1) (k : hU ρ1 H1 w1 ρ2 H2 w2) : hU ρ H w ρ2 H2 w2 where
 le := fun b x hb => k.le b x (h.le b x hb)
 fresh := fun b x hb hn => by
  cases h1 : ρ1 b with
  | none => have := k.fresh b x hb h1; have := h.hsize; omega
  | some y => have := h.fresh b y h1 hn; have := k.hsize; omega
 hsize := dN h.hsize k.hsize
 wsize := dN h.wsize k.wsize
 keepA := fun b hb hn => by
  have h1 : ρ1 b = none := by
   cases h1 : ρ1 b with
   | none => rfl
   | some y => have := h.fresh b y h1 hn; omega
  rw [k.keepA b (by have := h.hsize; omega) h1, h.keepA b hb hn]
 keepRo := fun b o ho hrw => k.keepRo b o (h.keepRo b o ho hrw) hrw
 keepC := fun c hc hf => by
  have e1 := h.keepC c hc hf;rw [← e1];refine k.keepC c (Nat.lt_of_lt_of_le hc h.wsize) ?_;intro b d sz o hb ho
  cases hn : ρ b with
  | some y =>
   have hy : y = (c, d, sz) := by have := h.le b y hn; rw [hb] at this; exact (fg this).symm
   subst hy
   cases hH : H.get b with
   | some o1 =>
    have h2 := hf b d sz o1 hn hH;have h3 := h.keepRo b o1 hH h2;rw [ho] at h3;cases h3;exact h2
   | none =>
    have h4 := hr.dom b _ hn;unfold AH.get at hH; unfold AH.size at h4;rw [List.getElem?_eq_none_iff] at hH;omega
  | none =>
   rcases h.newC b c d sz hb hn with h3 | ⟨b0, d0, sz0, o0, h3, h4, h5⟩
   ·omega
   ·have := hf b0 d0 sz0 o0 h3 h4; rw [h5] at this; cases this
 newC := fun b c d sz hb hn => by
  cases h1 : ρ1 b with
  | some y =>
   have hy : y = (c, d, sz) := by have := k.le b y h1; rw [hb] at this; exact (fg this).symm
   subst hy;exact h.newC b c d sz h1 hn
  | none =>
   rcases k.newC b c d sz hb h1 with h3 | ⟨b0, d0, sz0, o0, h3, h4, h5⟩
   ·exact .inl (dN h.wsize h3)
   ·cases h6 : ρ b0 with
    | none =>
     rcases h.newC b0 c d0 sz0 h3 h6 with h7 | h7
     ·exact .inl h7
     ·exact .inr h7
    | some y =>
     have hy : y = (c, d0, sz0) := by have := h.le b0 y h6; rw [h3] at this; exact (fg this).symm
     subst hy
     cases hH : H.get b0 with
     | none =>
      have h8 := hr.dom b0 _ h6;unfold AH.get at hH; unfold AH.size at h8;rw [List.getElem?_eq_none_iff] at hH;omega
     | some o1 =>
      refine .inr ⟨b0, d0, sz0, o1, h6, hH, ?_⟩
      cases hrw : o1.rw with
      | true => rfl
      | false =>
       have := h.keepRo b0 o1 hH hrw;rw [h4] at this;cases this;rw [h5] at hrw;cases hrw
theorem Rel.drew {P : Program} {w0 : World} {B : Nat} {ρ : bh} {H : AH} {w : World} (h : Rel P w0 B ρ H w) : Rel P w0 B ρ H w.drew :=
 { h with below := h.below.drew }
theorem hU.drew {ρ ρ' : bh} {H H' : AH} {w w' : World} (h : hU ρ H w ρ' H' w') : hU ρ H w ρ' H' w'.drew := { h with }
theorem hU.of_drew {ρ ρ' : bh} {H H' : AH} {w w' : World} (h : hU ρ H w.drew ρ' H' w') : hU ρ H w ρ' H' w' := { h with }
section
variable {P : Program} {w0 : World} {B : Nat} {ρ : bh} {H : AH} {w : World}
theorem Rel.setBlock (h : Rel P w0 B ρ H w) {b c d sz : Nat} {o o' : AObj} (hb : ρ b = some (c, d, sz)) (ho : H.get b = some o) (hrw : o.rw = true) (hrw' : o'.rw = true) {w' : World}
 (hos : w'.os = w.os) (htape : w'.tape = w.tape) (hout : w'.output = w.output) (hsz : w'.heap.size = w.heap.size) (hoth : ∀ k, k ≠ c → w'.heap[k]? = w.heap[k]?)
 (hnew : oA P ρ d sz o' w'.heap[c]?) : Rel P w0 B ρ (H.set b o') w' ∧ hU ρ H w ρ (H.set b o') w' := by
 have hlt := AH.lt_of_get ho;have hB : B ≤ c := h.own b c d sz o hb ho hrw
 have key : ∀ b1 o1, (H.set b o').get b1 = some o1 → (b1 = b ∧ o1 = o') ∨ (b1 ≠ b ∧ H.get b1 = some o1) := by
  intro b1 o1 h1;rw [AH.get_set] at h1
  by_cases hb1 : b1 = b
  ·rw [if_pos hb1, if_pos hlt] at h1
   exact .inl ⟨hb1, (fg h1).symm⟩
  ·rw [if_neg hb1] at h1
   exact .inr ⟨hb1, h1⟩
 constructor
 ·refine ⟨h.base, ?_, ?_, ?_, ?_, ?_, ?_, ?_⟩
  ·exact h.below.trans ⟨hos, htape, hout, Nat.le_of_eq hsz.symm, fun k hk => hoth k (by omega)⟩
  ·intro b1 x hx; rw [AH.size_set]; exact h.dom b1 x hx
  ·intro b1 c1 d1 sz1 hx; rw [hsz]; exact h.blk b1 c1 d1 sz1 hx
  ·intro b1 c1 d1 sz1 o1 hx ho1
   rcases key b1 o1 ho1 with ⟨rfl, rfl⟩ | ⟨hne, ho1⟩
   ·rw [hb] at hx; cases hx; exact hnew
   ·by_cases hc : c1 = c
    ·subst hc
     cases hr1 : o1.rw with
     | true => exact absurd (h.inj b1 b _ _ _ _ _ _ _ hx hb ho1 ho hr1 hrw) hne
     | false =>
      cases o1 with
      | dead => trivial
      | map es cl => simp [AObj.rw] at hr1
      | cells r cs =>
       cases r with
       | false => simp [AObj.rw] at hr1
       | true => have := h.ro b1 _ _ _ _ hx ho1; omega
    ·rw [hoth c1 hc]; exact h.obj b1 c1 d1 sz1 o1 hx ho1
  ·intro b1 c1 d1 sz1 o1 hx ho1 hr1
   rcases key b1 o1 ho1 with ⟨rfl, rfl⟩ | ⟨_, ho1⟩
   ·rw [hb] at hx; cases hx; exact hB
   ·exact h.own b1 c1 d1 sz1 o1 hx ho1 hr1
  ·intro b1 c1 d1 sz1 cs hx ho1
   rcases key b1 _ ho1 with ⟨rfl, rfl⟩ | ⟨_, ho1⟩
   ·simp [AObj.rw] at hrw'
   ·exact h.ro b1 c1 d1 sz1 cs hx ho1
  ·intro b1 b2 c1 d1 d2 sz1 sz2 o1 o2 hx1 hx2 ho1 ho2 hr1 hr2
   rcases key b1 o1 ho1 with ⟨rfl, rfl⟩ | ⟨n1, k1⟩ <;> rcases key b2 o2 ho2 with ⟨rfl, rfl⟩ | ⟨n2, k2⟩
   ·rfl
   ·exact h.inj _ _ _ _ _ _ _ _ _ hx1 hx2 ho k2 hrw hr2
   ·exact h.inj _ _ _ _ _ _ _ _ _ hx1 hx2 k1 ho hr1 hrw
   ·exact h.inj _ _ _ _ _ _ _ _ _ hx1 hx2 k1 k2 hr1 hr2
 ·refine ⟨fun _ _ hx => hx, fun b1 x hx hn => absurd hx (by rw [hn]; simp), Nat.le_of_eq (AH.size_set ..).symm, Nat.le_of_eq hsz.symm, ?_, ?_, ?_, fun b1 c1 d1 sz1 hx hn => absurd hx (by rw [hn]; simp)⟩
  ·intro b1 _ hn
   exact AH.get_set_ne (fun e => by rw [e, hb] at hn; cases hn)
  ·intro b1 o1 ho1 hr1
   rw [AH.get_set_ne (fun e => by rw [e, ho] at ho1; cases ho1; rw [hrw] at hr1; cases hr1)];exact ho1
  ·intro c1 _ hf
   exact hoth c1 (fun e => by subst e; have := hf b d sz o hb ho; rw [hrw] at this; cases this)
theorem bh.upd_same (ρ : bh) (b : Nat) (x : Nat × Nat × Nat) : ρ.upd b x b = some x := by simp [bh.upd]
theorem bh.upd_ne {ρ : bh} {b b' : Nat} {x : Nat × Nat × Nat} (h : b' ≠ b) : ρ.upd b x b' = ρ b' := by simp [bh.upd, h]
theorem bh.upd_le {ρ : bh} {b : Nat} {x : Nat × Nat × Nat} (h : ρ b = none) : ∀ b' y, ρ b' = some y → ρ.upd b x b' = some y := by
 intro b' y hy;rw [bh.upd_ne (fun e => by rw [e, h] at hy; cases hy)];exact hy
theorem Rel.size (h : Rel P w0 B ρ H w) : B ≤ w.heap.size := dN h.base h.below.size
theorem Rel.push (h : Rel P w0 B ρ H w) {o : AObj} {ob : Obj} {sz : Nat} (hrw : o.rw = true) (hnew : oA P ρ 0 sz o (some ob)) :
 Rel P w0 B (ρ.upd H.size (w.heap.size, 0, sz)) (H.push o) (w.alloc ob) ∧ hU ρ H w (ρ.upd H.size (w.heap.size, 0, sz)) (H.push o) (w.alloc ob) := by
 have hB := h.size
 have hnone : ρ H.size = none := by
  cases hn : ρ H.size with
  | none => rfl
  | some x => have := h.dom _ _ hn; omega
 have hle := bh.upd_le (x := (w.heap.size, 0, sz)) hnone;have hheap : ∀ k, k < w.heap.size → (w.alloc ob).heap[k]? = w.heap[k]? := fun k hk => Below.heap_alloc w ob k hk;have hlast : (w.alloc ob).heap[w.heap.size]? = some ob  := heap_alloc_new w ob
 have key : ∀ b1 o1, (H.push o).get b1 = some o1 → (b1 = H.size ∧ o1 = o) ∨ (b1 < H.size ∧ H.get b1 = some o1) := by
  intro b1 o1 h1;rw [AH.get_push] at h1
  by_cases hb1 : b1 = H.size
  ·rw [if_pos hb1] at h1; exact .inl ⟨hb1, (fg h1).symm⟩
  ·rw [if_neg hb1] at h1; exact .inr ⟨AH.lt_of_get h1, h1⟩
 have old : ∀ {b1 c1 d1 sz1}, b1 < H.size → ρ.upd H.size (w.heap.size, 0, sz) b1 = some (c1, d1, sz1) → ρ b1 = some (c1, d1, sz1) := by
  intro b1 c1 d1 sz1 hb1 hx
  rwa [bh.upd_ne (by omega)] at hx
 constructor
 ·refine ⟨h.base, ?_, ?_, ?_, ?_, ?_, ?_, ?_⟩
  ·exact h.below.alloc hB ob
  ·intro b1 x hx
   rw [AH.size_push]
   by_cases hb1 : b1 = H.size
   ·omega
   ·rw [bh.upd_ne hb1] at hx; have := h.dom b1 x hx; omega
  ·intro b1 c1 d1 sz1 hx
   rw [World.size_alloc]
   by_cases hb1 : b1 = H.size
   ·subst hb1; rw [bh.upd_same] at hx; cases hx; omega
   ·rw [bh.upd_ne hb1] at hx; have := h.blk b1 c1 d1 sz1 hx; omega
  ·intro b1 c1 d1 sz1 o1 hx ho1
   rcases key b1 o1 ho1 with ⟨rfl, rfl⟩ | ⟨hlt, ho1⟩
   ·rw [bh.upd_same] at hx; cases hx; rw [hlast]; exact hnew.mono hle
   ·have hx' := old hlt hx
    rw [hheap c1 (h.blk b1 c1 d1 sz1 hx')]; exact (h.obj b1 c1 d1 sz1 o1 hx' ho1).mono hle
  ·intro b1 c1 d1 sz1 o1 hx ho1 hr1
   rcases key b1 o1 ho1 with ⟨rfl, rfl⟩ | ⟨hlt, ho1⟩
   ·rw [bh.upd_same] at hx; cases hx; exact hB
   ·exact h.own b1 c1 d1 sz1 o1 (old hlt hx) ho1 hr1
  ·intro b1 c1 d1 sz1 cs hx ho1
   rcases key b1 _ ho1 with ⟨rfl, rfl⟩ | ⟨hlt, ho1⟩
   ·simp [AObj.rw] at hrw
   ·exact h.ro b1 c1 d1 sz1 cs (old hlt hx) ho1
  ·intro b1 b2 c1 d1 d2 sz1 sz2 o1 o2 hx1 hx2 ho1 ho2 hr1 hr2
   rcases key b1 o1 ho1 with ⟨rfl, rfl⟩ | ⟨n1, k1⟩ <;> rcases key b2 o2 ho2 with ⟨rfl, rfl⟩ | ⟨n2, k2⟩
   ·rfl
   ·rw [bh.upd_same] at hx1; cases hx1
    have := h.blk _ _ _ _ (old n2 hx2); omega
   ·rw [bh.upd_same] at hx2; cases hx2
    have := h.blk _ _ _ _ (old n1 hx1); omega
   ·exact h.inj _ _ _ _ _ _ _ _ _ (old n1 hx1) (old n2 hx2) k1 k2 hr1 hr2
 ·refine ⟨hle, ?_, by rw [AH.size_push]; omega, by simp, ?_, ?_, ?_, ?_⟩
  ·intro b1 x hx hn
   by_cases hb1 : b1 = H.size
   ·rw [AH.size_push]; omega
   ·rw [bh.upd_ne hb1, hn] at hx; cases hx
  ·intro b1 hb1 _; exact AH.get_push_old hb1
  ·intro b1 o1 ho1 _; rw [AH.get_push_old (AH.lt_of_get ho1)]; exact ho1
  ·intro c1 hc _; exact hheap c1 hc
  ·intro b1 c1 d1 sz1 hx hn
   by_cases hb1 : b1 = H.size
   ·subst hb1; rw [bh.upd_same] at hx; cases hx; exact .inl (bf _)
   ·rw [bh.upd_ne hb1, hn] at hx; cases hx
theorem Rel.move (h : Rel P w0 B ρ H w) {b c d sz : Nat} {cs : List Value} (hb : ρ b = some (c, d, sz)) (ho : H.get b = some (.cells false cs)) {o' : AObj} (hrw' : o'.rw = true) {w' : World} {c' d' sz' : Nat}
 (hos : w'.os = w.os) (htape : w'.tape = w.tape) (hout : w'.output = w.output) (hsz : w.heap.size ≤ w'.heap.size)
 (hc' : c' = c ∧ w'.heap.size = w.heap.size ∨ c' = w.heap.size ∧ c' < w'.heap.size) (hoth : ∀ k, k < w.heap.size → k ≠ c → w'.heap[k]? = w.heap[k]?)
 (hnew : oA P ρ d' sz' o' w'.heap[c']?) (hkeep : c' ≠ c → w'.heap[c]? = w.heap[c]?) :
 Rel P w0 B (ρ.upd H.size (c', d', sz')) ((H.set b .dead).push o') w' ∧ hU ρ H w (ρ.upd H.size (c', d', sz')) ((H.set b .dead).push o') w' := by
 have hlt := AH.lt_of_get ho;have hcB : B ≤ c := h.own b c d sz _ hb ho rfl;have hB := h.size;have hcw : c < w.heap.size := h.blk b c d sz hb
 have hc'w : c' < w'.heap.size := by rcases hc' with ⟨e, e2⟩ | ⟨_, e⟩ <;> omega
 have hBc' : B ≤ c' := by rcases hc' with ⟨e, _⟩ | ⟨e, _⟩ <;> omega
 have hsize : (H.set b .dead).size = H.size := AH.size_set ..
 have hnone : ρ H.size = none := by
  cases hn : ρ H.size with
  | none => rfl
  | some x => have := h.dom _ _ hn; omega
 have hle := bh.upd_le (x := (c', d', sz')) hnone
 have key : ∀ b1 o1, ((H.set b .dead).push o').get b1 = some o1 → (b1 = H.size ∧ o1 = o') ∨ (b1 = b ∧ o1 = .dead) ∨ (b1 < H.size ∧ b1 ≠ b ∧ H.get b1 = some o1) := by
  intro b1 o1 h1;rw [AH.get_push, hsize] at h1
  by_cases hb1 : b1 = H.size
  ·rw [if_pos hb1] at h1; exact .inl ⟨hb1, (fg h1).symm⟩
  ·rw [if_neg hb1, AH.get_set] at h1
   by_cases hb2 : b1 = b
   ·rw [if_pos hb2, if_pos hlt] at h1; exact .inr (.inl ⟨hb2, (fg h1).symm⟩)
   ·rw [if_neg hb2] at h1; exact .inr (.inr ⟨AH.lt_of_get h1, hb2, h1⟩)
 have old : ∀ {b1 c1 d1 sz1}, b1 < H.size → ρ.upd H.size (c', d', sz') b1 = some (c1, d1, sz1) → ρ b1 = some (c1, d1, sz1) := by
  intro b1 c1 d1 sz1 hb1 hx
  rwa [bh.upd_ne (by omega)] at hx
 -- an old block that is written lies elsewhere
 have apart : ∀ {b1 c1 d1 sz1 o1}, b1 ≠ b → ρ b1 = some (c1, d1, sz1) → H.get b1 = some o1 → o1.rw = true → c1 ≠ c := by
  intro b1 c1 d1 sz1 o1 hne hx ho1 hr1 e;subst e;exact hne (h.inj _ _ _ _ _ _ _ _ _ hx hb ho1 ho hr1 rfl)
 have ne' : ∀ {b1 c1 d1 sz1 o1}, b1 ≠ b → ρ b1 = some (c1, d1, sz1) → H.get b1 = some o1 → o1.rw = true → c1 ≠ c' := by
  intro b1 c1 d1 sz1 o1 hne hx ho1 hr1 e
  rcases hc' with ⟨e1, _⟩ | ⟨e1, _⟩
  ·exact apart hne hx ho1 hr1 (e.trans e1)
  ·have := h.blk _ _ _ _ hx; omega
 constructor
 ·refine ⟨h.base, ?_, ?_, ?_, ?_, ?_, ?_, ?_⟩
  ·exact h.below.trans ⟨hos, htape, hout, hsz, fun k hk => hoth k (by omega) (by omega)⟩
  ·intro b1 x hx
   rw [AH.size_push, hsize]
   by_cases hb1 : b1 = H.size
   ·omega
   ·rw [bh.upd_ne hb1] at hx; have := h.dom b1 x hx; omega
  ·intro b1 c1 d1 sz1 hx
   by_cases hb1 : b1 = H.size
   ·subst hb1; rw [bh.upd_same] at hx; cases hx; exact hc'w
   ·rw [bh.upd_ne hb1] at hx; have := h.blk b1 c1 d1 sz1 hx; omega
  ·intro b1 c1 d1 sz1 o1 hx ho1
   rcases key b1 o1 ho1 with ⟨rfl, rfl⟩ | ⟨rfl, rfl⟩ | ⟨hl, hne, ho1⟩
   ·rw [bh.upd_same] at hx; cases hx; exact hnew.mono hle
   ·trivial
   ·have hx' := old hl hx
    have hw := h.blk b1 c1 d1 sz1 hx'
    by_cases e : c1 = c
    ·subst e
     by_cases e' : c' = c1
     ·cases hr1 : o1.rw with
      | true => exact absurd rfl (apart hne hx' ho1 hr1)
      | false =>
       cases o1 with
       | dead => trivial
       | map es cl => simp [AObj.rw] at hr1
       | cells r cs1 =>
        cases r with
        | false => simp [AObj.rw] at hr1
        | true => have := h.ro b1 _ _ _ _ hx' ho1; omega
     ·rw [hkeep e']; exact (h.obj b1 _ d1 sz1 o1 hx' ho1).mono hle
    ·rw [hoth c1 hw e]; exact (h.obj b1 c1 d1 sz1 o1 hx' ho1).mono hle
  ·intro b1 c1 d1 sz1 o1 hx ho1 hr1
   rcases key b1 o1 ho1 with ⟨rfl, rfl⟩ | ⟨rfl, rfl⟩ | ⟨hl, hne, ho1⟩
   ·rw [bh.upd_same] at hx; cases hx; exact hBc'
   ·simp [AObj.rw] at hr1
   ·exact h.own b1 c1 d1 sz1 o1 (old hl hx) ho1 hr1
  ·intro b1 c1 d1 sz1 cs1 hx ho1
   rcases key b1 _ ho1 with ⟨rfl, rfl⟩ | ⟨rfl, e⟩ | ⟨hl, hne, ho1⟩
   ·simp [AObj.rw] at hrw'
   ·cases e
   ·exact h.ro b1 c1 d1 sz1 cs1 (old hl hx) ho1
  ·intro b1 b2 c1 d1 d2 sz1 sz2 o1 o2 hx1 hx2 ho1 ho2 hr1 hr2
   rcases key b1 o1 ho1 with ⟨rfl, rfl⟩ | ⟨rfl, rfl⟩ | ⟨n1, m1, k1⟩ <;> rcases key b2 o2 ho2 with ⟨rfl, rfl⟩ | ⟨rfl, rfl⟩ | ⟨n2, m2, k2⟩ <;> try (simp [AObj.rw] at hr1; done)
   all_goals try (simp [AObj.rw] at hr2; done)
   ·rfl
   ·rw [bh.upd_same] at hx1; cases hx1; exact absurd rfl (ne' m2 (old n2 hx2) k2 hr2)
   ·rw [bh.upd_same] at hx2; cases hx2; exact absurd rfl (ne' m1 (old n1 hx1) k1 hr1)
   ·exact h.inj _ _ _ _ _ _ _ _ _ (old n1 hx1) (old n2 hx2) k1 k2 hr1 hr2
 ·refine ⟨hle, ?_, by rw [AH.size_push, hsize]; omega, hsz, ?_, ?_, ?_, ?_⟩
  ·intro b1 x hx hn
   by_cases hb1 : b1 = H.size
   ·rw [AH.size_push, hsize]; omega
   ·rw [bh.upd_ne hb1, hn] at hx; cases hx
  ·intro b1 hb1 hn
   rw [AH.get_push_old (by rw [hsize]; exact hb1), AH.get_set_ne (fun e => by rw [e, hb] at hn; cases hn)]
  ·intro b1 o1 ho1 hr1
   rw [AH.get_push_old (by rw [hsize]; exact AH.lt_of_get ho1), AH.get_set_ne (fun e => by rw [e, ho] at ho1; cases ho1; cases hr1)];exact ho1
  ·intro c1 hc1 hf
   exact hoth c1 hc1 (fun e => by subst e; have := hf b d sz _ hb ho; cases this)
  ·intro b1 c1 d1 sz1 hx hn
   by_cases hb1 : b1 = H.size
   ·subst hb1; rw [bh.upd_same] at hx; cases hx
    rcases hc' with ⟨e, _⟩ | ⟨e, _⟩
    ·exact .inr ⟨b, d, sz, _, by rw [hb, e], ho, rfl⟩
    ·exact .inl (by omega)
   ·rw [bh.upd_ne hb1, hn] at hx; cases hx
end
def bY (P : Program) (t : TypeId) : Option Nat := (P.info? t).map (·.size)
def d9 (P : Program) (t : TypeId) : Option (Option Nat) :=
 match P.underlying t with
 | some (.struct _) | some (.array _ _) => (bY P t).map some
 | some _ => some none
 | none => none
def bp (P : Program) (t : TypeId) : Option Value :=
 match P.info? t with
 | some i => match i.zero with
  | some z => if z.cells.toList.all cB = true ∧ uY z = true then some z else none
  | none => none
 | none => none
def jf (P : Program) (t : TypeId) (f : Nat) : Option Field :=
 match P.underlying t with
 | some (.struct fs) => fs[f]?
 | _ => none
def bQ (P : Program) (t : TypeId) : Option TypeId :=
 match P.underlying t with
 | some (.slice e) => some e
 | _ => none
def eI (P : Program) (t : TypeId) : Option Nat := (P.info? t).map (·.bytes)
def eK (P : Program) (sub : List Field → Option Nat) : Nat → List Field → Option Nat
 | n, [] => some n
 | n, f :: fs => if f.name ≠ "_" ∧ f.offset = n then (match P.underlying f.type with
  | some (.int _) => eK P sub (n + 1) fs
  | some (.struct gs) => (match sub gs.toList with
   | some k => if bY P f.type = some k ∧ P.stoodInHeld f.type = false then eK P sub (n + k) fs else none
   | none => none)
  | _ => none) else none
def nz (P : Program) : Nat → Nat → List Field → Option Nat
 | 0 => eK P fun _ => none
 | e + 1 => eK P (nz P e 0)
def rM (P : Program) (t : TypeId) : Option Nat :=
 match P.underlying t with
 | some (.struct fs) => if P.stoodInHeld t = false ∧ P.eqGuardType P.depth t = false then nz P 2 0 fs.toList else none
 | _ => none
def o5 (P : Program) (t : TypeId) : Option IntKind :=
 match P.underlying t with
 | some (.int k) => some k
 | _ => none
def sm : Value → Option (Nat × Nat)
 | .pointer (some ⟨b, o, none⟩) => some (b, o)
 | _ => none
def dh (H : AH) (b : Nat) : Option (List Value) :=
 match H.get b with
 | some (.cells _ cs) => some cs
 | _ => none
def aQ (c a b : Value) : Option Value :=
 match c with
 | .bool t => some (if t = true then a else b)
 | _ => none
def sn : Value → Option Value
 | .pointer none | .nilIface | .nilFunc => none
 | .func (.method _) _ _ => none
 | v => some v
def am (v : Value) (H : AH) : Option Value := (sm v).bind fun a => (dh H a.1).bind fun cs => cs[a.2]?
def aB (n : Nat) (v : Value) (H : AH) : Option Value :=
 (sm v).bind fun a => (dh H a.1).bind fun cs => if a.2 + n ≤ cs.length then some (.agg ((cs.drop a.2).take n).toArray) else none
def splice (cs : List Value) (o : Nat) (xs : List Value) : List Value := cs.take o ++ xs ++ cs.drop (o + xs.length)
def dg (n : Nat) (v x : Value) (H : AH) : Option AH :=
 (sm v).bind fun a => match H.get a.1 with
  | some (.cells false cs) => if x.cells.size = n ∧ a.2 + n ≤ cs.length ∧ x.cells.toList.all Value.oneCell' = true then some (H.set a.1 (.cells false (splice cs a.2 x.cells.toList))) else none
  | _ => none
def XI (cs : List Value) (H : AH) : Value × AH := (.pointer (some ⟨H.size, 0, none⟩), H.push (.cells false cs))
def BA (off : Nat) (v : Value) : Option Value := (sm v).map fun a => .pointer (some ⟨a.1, a.2 + off, none⟩)
def jC (n : Option Nat) (off : Nat) (v : Value) : Option Value :=
 match v with
 | .agg cs => match n with
  | some n => some (.agg (cs.extract off (off + n)))
  | none => cs[off]?
 | _ => none
def mW (e : Nat) (v i : Value) : Option Value :=
 match v, i with
 | .slice (some ⟨b, o, none⟩) n _, .int _ i => if 0 ≤ i ∧ i < n then some (.pointer (some ⟨b, o + i.toNat * e, none⟩)) else none
 | _, _ => none
def hF (len e : Nat) (v i : Value) : Option Value :=
 match v, i with
 | .pointer (some ⟨b, o, none⟩), .int _ i => if 0 ≤ i ∧ i < len then some (.pointer (some ⟨b, o + i.toNat * e, none⟩)) else none
 | _, _ => none
def iz (len : Nat) (n : Option Nat) (e : Nat) (v i : Value) : Option Value :=
 match v, i with
 | .agg cs, .int _ i => if 0 ≤ i ∧ i < len then (match n with | some n => some (.agg (cs.extract (i.toNat * e) (i.toNat * e + n))) | none => cs[i.toNat * e]?) else none
 | _, _ => none
def iy (v i : Value) : Option Value :=
 match v, i with
 | .string s, .int _ i => if 0 ≤ i then (s[i.toNat]?).map fun b => .int .u8 b.toNat else none
 | _, _ => none
def ou : Value → Option Value
 | .slice _ n _ => some (.int .i64 n)
 | .string s => some (.int .i64 s.size)
 | _ => none
def lJ (v : Value) (H : AH) : Option Value :=
 match v with
 | .map none => some (.int .i64 0)
 | .map (some b) => match H.get b with
  | some (.map es _) => some (.int .i64 es.length)
  | _ => none
 | _ => none
def gT : List Value → Option Value
 | [.int k x, .int _ y] => some (.int k (if y > x then y else x))
 | _ => none
def iH : List Value → Option Value
 | [.int k x, .int _ y] => some (.int k (if y < x then y else x))
 | _ => none
def bi : List Value → List Value → Option Bool
 | [], [] => some true
 | .int k a :: xs, .int k' b :: ys => if k = k' then (bi xs ys).map fun r => a == b && r else none
 | _, _ => none
def lx (op : BinOp) (k : IntKind) (a b : Int) : Option Value :=
 match op with
 | .add => some (.int k (k.wrap (a + b)))
 | .sub => some (.int k (k.wrap (a - b)))
 | .mul => some (.int k (k.wrap (a * b)))
 | .quo => if b = 0 then none else some (.int k (k.wrap (a.tdiv b)))
 | .rem => if b = 0 then none else some (.int k (a.tmod b))
 | .and => some (.int k (Go.bits .and k a b))
 | .or => some (.int k (Go.bits .or k a b))
 | .xor => some (.int k (Go.bits .xor k a b))
 | .andNot => some (.int k (Go.bits .andNot k a b))
 | .eql => some (.bool (a == b))
 | .neq => some (.bool (a != b))
 | .lss => some (.bool (decide (a < b)))
 | .leq => some (.bool (decide (a ≤ b)))
 | .gtr => some (.bool (decide (a > b)))
 | .geq => some (.bool (decide (a ≥ b)))
 | _ => none
def lh (op : BinOp) (k : IntKind) (a b : Int) : Option Value :=
 if b < 0 then none else
 match op with
 | .shl => some (.int k (k.wrap (a * 2 ^ min b.toNat k.bits)))
 | .shr => some (.int k (a.fdiv (2 ^ min b.toNat k.bits)))
 | _ => none
inductive TCls where
 | bool | ptr | slice | map | func | flat (n : Nat) | other
def wy (P : Program) (t : TypeId) : TCls :=
 match P.underlying t with
 | some .bool => .bool
 | some (.pointer _) => .ptr
 | some (.slice _) => .slice
 | some (.map _ _) => .map
 | some (.func _ _ _) => .func
 | some (.struct _) => match rM P t with
  | some n => .flat n
  | none => .other
 | _ => .other
def ot (cl : TCls) (x y : Value) : Option Bool :=
 match cl, x, y with
 | .bool, .bool a, .bool b => some (a == b)
 | .flat n, .agg a, .agg b => if a.size = n ∧ b.size = n then bi a.toList b.toList else none
 | .ptr, .pointer a, .pointer none => some a.isNone
 | .ptr, .pointer none, .pointer (some _) => some false
 | .slice, .slice a _ _, .slice none _ _ => some a.isNone
 | .slice, .slice none _ _, .slice (some _) _ _ => some false
 | .map, .map a, .map none => some a.isNone
 | .map, .map none, .map (some _) => some false
 | .func, .func _ _ _, .nilFunc => some false
 | .func, .nilFunc, .func _ _ _ => some false
 | .func, .nilFunc, .nilFunc => some true
 | _, _, _ => none
def UV (op : BinOp) (a b : ByteArray) : Option Value :=
 match op with
 | .eql => some (.bool (a == b))
 | .neq => some (.bool !(a == b))
 | _ => none
def Cq (cl : TCls) (op : BinOp) (x y : Value) : Option Value :=
 match op with
 | .eql => (ot cl x y).map fun b => .bool b
 | .neq => (ot cl x y).map fun b => .bool !b
 | _ => none
def ak (cl : TCls) (op : BinOp) (x y : Value) : Option Value :=
 match x, y with
 | .int k a, .int k' b =>
  match op with
  | .shl => lh .shl k a b
  | .shr => lh .shr k a b
  | op => if k = k' then lx op k a b else none
 | .string a, .string b => UV op a b
 | x, y => Cq cl op x y
def pw (op : UnOp) (x : Value) : Option Value :=
 match op, x with
 | .neg, .int k n => some (.int k (k.wrap (0 - n)))
 | .xor, .int k n => some (.int k (Go.bits .xor k (if k.signed then -1 else k.max) n))
 | .not, .bool b => some (.bool !b)
 | _, _ => none
def bO (k : Option IntKind) (x : Value) : Option Value :=
 match k, x with
 | some k, .int _ n => some (.int k (k.wrap n))
 | _, _ => none
def ai (v : Value) (i : Nat) : Option Value :=
 match v with
 | .tuple vs => vs[i]?
 | _ => none
def lI : Value → Option Int
 | .int _ n => some n
 | _ => none
def dY (e : Nat) (x : Value) (lo hi : Option Value) : Option Value :=
 match x with
 | .slice a n e' =>
  (match lo with | some v => lI v | none => some 0).bind fun l => (match hi with | some v => lI v | none => some (n : Int)).bind fun h =>
   if 0 ≤ l ∧ l ≤ h ∧ h ≤ n then
    match a with
    | none => if n = 0 ∧ e' = 0 then some (.slice none 0 0) else none
    | some ⟨b, o, none⟩ => if e' = e ∧ 0 < e then some (.slice (some ⟨b, o + l.toNat * e, none⟩) (h.toNat - l.toNat) e) else none
    | _ => none
   else none
 | _ => none
def iA (x : Value) (hi mx : Value) : Option Value :=
 match x, hi, mx with
 | .slice none 0 0, .int _ 0, .int _ 0 => some (.slice none 0 0)
 | .slice (some ⟨b, o, none⟩) _ _, .int _ 0, .int _ 0 => some (.slice (some ⟨b, o, none⟩) 0 0)
 | _, _, _ => none
def j4 (e : Nat) (x : Value) (H : AH) : Option (Nat × List Value) :=
 match x with
 | .slice none n _ => if n = 0 then some (0, []) else none
 | .slice (some ⟨b, o, none⟩) m _ => if m = 0 then some (0, []) else (dh H b).bind fun cs => if o + m * e ≤ cs.length then some (m, (cs.drop o).take (m * e)) else none
 | _ => none
def room : Nat := 140737488355328
def dX (e bytes : Nat) (s x : Value) (H : AH) : Option (Value × AH) :=
 (j4 e x H).bind fun r =>
  if r.2.all Value.oneCell' = true ∧ 0 < e then
   match s with
   | .slice none n k => if n = 0 ∧ k = 0 then (if r.1 = 0 then some (.slice none 0 0, H) else if r.1 * bytes ≤ room ∧ r.1 ≤ room then some (.slice (some ⟨H.size, 0, none⟩) r.1 e, H.push (.cells false r.2)) else none) else none
   | .slice (some ⟨b, o, none⟩) n e' =>
    if r.1 = 0 then some (s, H)
    else if e' = 0 then (if n = 0 ∧ r.1 * bytes ≤ room ∧ r.1 ≤ room then some (.slice (some ⟨H.size, 0, none⟩) r.1 e, H.push (.cells false r.2)) else none)
    else match H.get b with
     | some (.cells false cs) =>
      if e' = e ∧ o + n * e ≤ cs.length ∧ (n + r.1) * bytes ≤ room ∧ n + r.1 ≤ room then some (.slice (some ⟨H.size, 0, none⟩) (n + r.1) e, (H.set b .dead).push (.cells false ((cs.drop o).take (n * e) ++ r.2))) else none
     | _ => none
   | _ => none
  else none
def jV (zero : List Value) (e bytes : Nat) (len cap : Value) (H : AH) : Option (Value × AH) :=
 match len, cap with
 | .int _ l, .int _ c => if 0 ≤ l ∧ l = c ∧ l.toNat * bytes ≤ room ∧ l.toNat ≤ room ∧ 0 < e ∧ zero.length = e then
  some (.slice (some ⟨H.size, 0, none⟩) l.toNat e, H.push (.cells false (List.replicate l.toNat zero).flatten)) else none
 | _, _ => none
inductive KCls where
 | int | string | flat (n : Nat)
def oZ : Value → Bool
 | .int _ _ => true
 | _ => false
def g9 (cl : KCls) (k : Value) : Bool :=
 match cl, k with
 | .int, .int _ _ => true
 | .string, .string _ => true
 | .flat n, .agg xs => xs.size == n && xs.toList.all oZ
 | _, _ => false
def jA (cl : KCls) (a b : Value) : Option Bool :=
 match cl, a, b with
 | .int, .int k x, .int k' y => if k = k' then some (x == y) else none
 | .string, .string x, .string y => some (x == y)
 | .flat n, .agg x, .agg y => if x.size = n ∧ y.size = n then bi x.toList y.toList else none
 | _, _, _ => none
def aT (cl : KCls) (k : Value) : List MapEntry → Nat → Option (Option (Nat × Value))
 | [], _ => some none
 | e :: es, i => (jA cl k e.key).bind fun b => if b = true then some (some (i, e.val)) else aT cl k es (i + 1)
def i6 (v : Value) (H : AH) : Option (List MapEntry × Nat) :=
 match v with
 | .map none => some ([], 0)
 | .map (some b) => match H.get b with
  | some (.map es c) => some (es, c)
  | _ => none
 | _ => none
def b7 (fl : KCls) (zero : Value) (m k : Value) (ok : Bool) (H : AH) : Option Value :=
 if g9 fl k = true then (i6 m H).bind fun es => (aT fl k es.1 0).map fun r => match r with
  | some (_, v) => if ok then .tuple #[v, .bool true] else v
  | none => if ok then .tuple #[zero, .bool false] else zero
 else none
def dv (fl : KCls) (m k x : Value) (H : AH) : Option AH :=
 if g9 fl k = true then match m with
 | .map (some b) => match H.get b with
  | some (.map es c) => (aT fl k es 0).map fun r => match r with
   | some (i, _) => H.set b (.map (es.modify i fun e => { e with key := k, val := x }) c)
   | none => H.set b (.map (es ++ [{ key := k, val := x, born := c }]) (c + 1))
  | _ => none
 | _ => none
 else none
def lH (fl : KCls) (m k : Value) (H : AH) : Option AH :=
 if g9 fl k = true then match m with
 | .map (some b) => match H.get b with
  | some (.map es c) => (aT fl k es 0).map fun r => match r with
   | some (i, _) => H.set b (.map (es.eraseIdx i) c)
   | none => H.set b (.map es c)
  | _ => none
 | _ => none
 else none
def cA (places : Nat → Option (Nat × Nat)) (zero : List Value) : List (Nat × Value) → Option (List Value)
 | [] => some zero
 | (i, v) :: rest => (places i).bind fun p => if v.cells.size = p.2 ∧ p.1 + p.2 ≤ zero.length then cA places (splice zero p.1 v.cells.toList) rest else none
def b6 (v : Value) (args : List Value) : Option (Nat × List Value) :=
 match v with
 | .func (.func f) first captured => some (f, first.toList ++ args ++ captured.toList)
 | _ => none
def cf (P : Program) (t : TypeId) : Option KCls :=
 match P.underlying t with
 | some (.int _) => some .int
 | some .string => some .string
 | some (.struct _) => (rM P t).map .flat
 | _ => none
def bS (P : Program) (t : TypeId) : Option (TypeId × TypeId) :=
 match P.underlying t with
 | some (.map k e) => some (k, e)
 | _ => none
def iB (P : Program) (fs : List Field) : Option (List (Nat × Nat)) := fs.mapM fun f => (bY P f.type).map fun n => (f.offset, n)
abbrev a7 := Nat → List Value → AH → Option (Value × AH)
def ca (P : Program) (b : Builtin) (argTypes : Array TypeId) (args : List Value) (H : AH) : Option (Value × AH) :=
 match b, args with
 | .len, [x] => match (argTypes[0]?).bind fun t => P.underlying t with
  | some (.slice _) => match x with | .slice _ _ _ => (ou x).map (·, H) | _ => none
  | some .string => match x with | .string _ => (ou x).map (·, H) | _ => none
  | some (.map _ _) => (lJ x H).map (·, H)
  | _ => none
 | .max, args => (gT args).map (·, H)
 | .min, args => (iH args).map (·, H)
 | .append, [s, x] => (argTypes[0]?).bind fun t => (bQ P t).bind fun el => (bY P el).bind fun e => (eI P el).bind fun by' => (bp P el).bind fun z =>
  if z.cells.size = e ∧ (argTypes[1]?).bind (fun u => bQ P u) = some el then dX e by' s x H else none
 | .delete, [m, k] => (argTypes[0]?).bind fun t => (bS P t).bind fun kt => (cf P kt.1).bind fun fl => (lH fl m k H).map fun H' => (.tuple #[], H')
 | _, _ => none
def dx (P : Program) (call : a7) (ev : Operand → Value) (o : Oper) (H : AH) : Option (Value × AH) :=
 match o.op with
 | .move x => some (ev x, H)
 | .assign x => some (ev x, H)
 | .pick c a b => (aQ (ev c) (ev a) (ev b)).map (·, H)
 | .alloc t => (bp P t).map fun z => XI z.cells.toList H
 | .box _ x => some (XI (ev x).cells.toList H)
 | .build t parts => match P.underlying t with
  | some (.struct fs) => (bp P t).bind fun z => (iB P fs.toList).bind fun ps => (cA (ps[·]?) z.cells.toList (parts.toList.map fun p => (p.1, ev p.2))).map fun cs => (.agg cs.toArray, H)
  | some (.array _ el) => (bp P t).bind fun z => (bY P el).bind fun e => (cA (fun i => some (i * e, e)) z.cells.toList (parts.toList.map fun p => (p.1, ev p.2))).map fun cs => (.agg cs.toArray, H)
  | _ => none
 | .buildSlice t len parts => (bQ P t).bind fun el => (bY P el).bind fun e => (bp P el).bind fun z =>
  if 0 < e ∧ z.cells.size = e ∧ len * e ≤ 2 ^ 24 then
   (cA (fun i => some (i * e, e)) (List.replicate len z.cells.toList).flatten (parts.toList.map fun p => (p.1, ev p.2))).map fun cs => (.slice (some ⟨H.size, 0, none⟩) len e, H.push (.cells false cs))
  else none
 | .load t a => (d9 P t).bind fun g => match g with
  | some n => (aB n (ev a) H).map (·, H)
  | none => (am (ev a) H).map (·, H)
 | .store t a x => (bY P t).bind fun n => (dg n (ev a) (ev x) H).map fun H' => (undef, H')
 | .nilCheck x => (sn (ev x)).map (·, H)
 | .binOp op t x y _ => (ak (wy P t) op (ev x) (ev y)).map (·, H)
 | .unOp op _ x => (pw op (ev x)).map (·, H)
 | .convert src dst x => match P.underlying src with
  | some _ => (bO (o5 P dst) (ev x)).map (·, H)
  | none => none
 | .makeFunc fn first captured => some (.func fn (first.map ev) (captured.map ev), H)
 | .makeMap _ none => some (.map (some H.size), H.push (.map [] 0))
 | .makeSlice t l c => (bQ P t).bind fun el => (bY P el).bind fun e => (eI P el).bind fun by' => (bp P el).bind fun z => jV z.cells.toList e by' (ev l) (ev c) H
 | .slice t x lo hi none => (bQ P t).bind fun el => (bY P el).bind fun e => (dY e (ev x) (lo.map ev) (hi.map ev)).map (·, H)
 | .slice t x none (some hi) (some mx) => (bQ P t).bind fun el => (bY P el).bind fun _ => (iA (ev x) (ev hi) (ev mx)).map (·, H)
 | .fieldAddr s x f => (jf P s f).bind fun f => (bY P f.type).bind fun n => if n = 0 then none else (BA f.offset (ev x)).map (·, H)
 | .field s x f => (jf P s f).bind fun f => (d9 P f.type).bind fun n => (jC n f.offset (ev x)).map (·, H)
 | .indexAddr t x i => match P.underlying t with
  | some (.slice el) => (bY P el).bind fun e => (mW e (ev x) (ev i)).map (·, H)
  | some (.array len el) => (bY P el).bind fun e => (hF len e (ev x) (ev i)).map (·, H)
  | _ => none
 | .index t x i => match P.underlying t with
  | some (.array len el) => (bY P el).bind fun e => (d9 P el).bind fun n => (iz len n e (ev x) (ev i)).map (·, H)
  | some .string => (iy (ev x) (ev i)).map (·, H)
  | _ => none
 | .lookup t m k ok => (bS P t).bind fun kt => (cf P kt.1).bind fun fl => (bp P kt.2).bind fun z => (b7 fl z (ev m) (ev k) ok H).map (·, H)
 | .mapUpdate t m k x => (bS P t).bind fun kt => (cf P kt.1).bind fun fl => (dv fl (ev m) (ev k) (ev x) H).map fun H' => (undef, H')
 | .extract t i => (ai (ev t) i).map (·, H)
 | .call c => match c.callee with
  | .builtin b => ca P b c.argTypes (c.args.toList.map ev) H
  | .value f => (b6 (ev f) (c.args.toList.map ev)).bind fun fa => call fa.1 fa.2 H
  | _ => none
 | _ => none
section
variable {P : Program} {ρ : bh}
theorem VRel.int_inv {k : IntKind} {n : Int} {v : Value} (h : VRel P ρ (.int k n) v) : v = .int k n := by cases h; rfl
theorem VRel.bool_inv {b : Bool} {v : Value} (h : VRel P ρ (.bool b) v) : v = .bool b := by cases h; rfl
theorem VRel.string_inv {s : ByteArray} {v : Value} (h : VRel P ρ (.string s) v) : v = .string s := by cases h; rfl
theorem VRel.nilFunc_inv {v : Value} (h : VRel P ρ .nilFunc v) : v = .nilFunc := by cases h; rfl
theorem VRel.ptr_inv {b o : Nat} {v : Value} (h : VRel P ρ (.pointer (some ⟨b, o, none⟩)) v) : ∃ c d sz, ρ b = some (c, d, sz) ∧ v = .pointer (some ⟨c, d + o, none⟩) := by
 cases h with
 | lit h => simp [cB] at h
 | ptr h => exact ⟨_, _, _, h, rfl⟩
theorem VRel.pointer_inv {a : Option Addr} {v : Value} (h : VRel P ρ (.pointer a) v) : ∃ a', v = .pointer a' ∧ a'.isNone = a.isNone := by
 cases h with
 | lit h => exact ⟨_, rfl, rfl⟩
 | ptr h => exact ⟨_, rfl, rfl⟩
theorem VRel.nilslice_inv {n k : Nat} {v : Value} (h : VRel P ρ (.slice none n k) v) : v = .slice none n k := by cases h; rfl
theorem VRel.nilmap_inv {v : Value} (h : VRel P ρ (.map none) v) : v = .map none := by cases h; rfl
theorem VRel.map_inv {b : Nat} {v : Value} (h : VRel P ρ (.map (some b)) v) : ∃ c d sz, ρ b = some (c, d, sz) ∧ v = .map (some c) := by
 cases h with
 | lit h => simp [cB] at h
 | map h => exact ⟨_, _, _, h, rfl⟩
theorem VRel.anymap_inv {r : Option Nat} {v : Value} (h : VRel P ρ (.map r) v) : ∃ r', v = .map r' ∧ r'.isNone = r.isNone := by
 cases h with
 | lit h => exact ⟨_, rfl, rfl⟩
 | map h => exact ⟨_, rfl, rfl⟩
theorem VRel.anyslice_inv {a : Option Addr} {n e : Nat} {v : Value} (h : VRel P ρ (.slice a n e) v) : ∃ a' k, v = .slice a' n k ∧ a'.isNone = a.isNone := by
 cases h with
 | lit h => exact ⟨_, _, rfl, rfl⟩
 | slice h => exact ⟨_, _, rfl, rfl⟩
 | slice0 h => exact ⟨_, _, rfl, rfl⟩
 | empty => exact ⟨_, _, rfl, rfl⟩
theorem VRel.agg_inv {xs : Array Value} {v : Value} (h : VRel P ρ (.agg xs) v) : ∃ ys : Array Value, v = .agg ys ∧ xs.size = ys.size ∧ ∀ (i : Nat) (x y : Value), xs[i]? = some x → ys[i]? = some y → VRel P ρ x y := by
 cases h with
 | lit h => simp [cB] at h
 | agg hs he => exact ⟨_, rfl, hs, he⟩
theorem VRel.tuple_inv {xs : Array Value} {v : Value} (h : VRel P ρ (.tuple xs) v) : ∃ ys : Array Value, v = .tuple ys ∧ xs.size = ys.size ∧ ∀ (i : Nat) (x y : Value), xs[i]? = some x → ys[i]? = some y → VRel P ρ x y := by
 cases h with
 | lit h => simp [cB] at h
 | tuple hs he => exact ⟨_, rfl, hs, he⟩
theorem VRel.func_inv {fn : Fn} {f c : Array Value} {v : Value} (h : VRel P ρ (.func fn f c) v) : ∃ f' c' : Array Value, v = .func fn f' c' ∧ LRel P ρ f.toList f'.toList ∧ LRel P ρ c.toList c'.toList := by
 cases h with
 | lit h => simp [cB] at h
 | func hf h1 hc h2 => exact ⟨_, _, rfl, ⟨by simpa using hf, fun i x y hx hy => h1 i x y (by simpa using hx) (by simpa using hy)⟩, ⟨by simpa using hc, fun i x y hx hy => h2 i x y (by simpa using hx) (by simpa using hy)⟩⟩
theorem LRel.toAgg {xs ys : List Value} (h : LRel P ρ xs ys) : VRel P ρ (.agg xs.toArray) (.agg ys.toArray) :=
 .agg (by simpa using h.1) (fun i x y hx hy => h.2 i x y (by simpa using hx) (by simpa using hy))
theorem LRel.toTuple {xs ys : List Value} (h : LRel P ρ xs ys) : VRel P ρ (.tuple xs.toArray) (.tuple ys.toArray) :=
 .tuple (by simpa using h.1) (fun i x y hx hy => h.2 i x y (by simpa using hx) (by simpa using hy))
theorem cj {t : TypeId} {n : Nat} (h : bY P t = some n) (w : World) : (sizeOf t).run P w = .ok n w := by
 unfold bY at h
 cases hi : P.info? t with
 | none => simp [hi] at h
 | some i => simp [hi] at h; simp [sizeOf, typeInfo, hi, h]
theorem QV {t : TypeId} {n : Nat} (h : bY P t = some n) : ∃ i, P.info? t = some i ∧ i.size = n := by
 unfold bY at h
 cases hi : P.info? t with
 | none => simp [hi] at h
 | some i => exact ⟨i, rfl, by simpa [hi] using h⟩
theorem cn {t : TypeId} {z : Value} (h : bp P t = some z) : ∃ i, P.info? t = some i ∧ i.zero = some z ∧ z.cells.toList.all cB = true ∧ uY z = true := by
 unfold bp at h
 cases hi : P.info? t with
 | none => simp [hi] at h
 | some i =>
  simp only [hi] at h
  cases hz : i.zero with
  | none => simp [hz] at h
  | some z =>
   simp only [hz] at h
   split at h
   ·rename_i hl; cases h; exact ⟨i, rfl, hz, hl⟩
   ·cases h
theorem gY {t : TypeId} {z : Value} (h : bp P t = some z) (w : World) : (zeroValue t).run P w = .ok z w := by
 obtain ⟨i, hi, hz, _⟩ := cn h;simp [zeroValue, typeInfo, hi, hz]
theorem nf {t : TypeId} (h : d9 P t = some none) (w : World) : (isAgg t).run P w = .ok false w := by
 unfold d9 at h
 cases hu : P.underlying t with
 | none => simp [hu] at h
 | some d =>
  simp only [hu] at h
  cases d <;> simp_all [isAgg, run_underlying hu]
theorem ng {t : TypeId} {n : Nat} (h : d9 P t = some (some n)) (w : World) : (isAgg t).run P w = .ok true w ∧ bY P t = some n := by
 unfold d9 at h
 cases hu : P.underlying t with
 | none => simp [hu] at h
 | some d =>
  simp only [hu] at h
  cases d <;> simp_all [isAgg, run_underlying hu]
theorem UP {op : BinOp} {k : IntKind} {a b : Int} {v : Value} (h : lx op k a b = some v) (t : TypeId) (w : World) (hs : op ≠ .shl) (hr : op ≠ .shr) : (binOp op t (.int k a) (.int k b)).run P w = .ok v w := by
 cases op <;> simp only [lx] at h <;> first
  | (cases h; simp [binOp, Op.intArith, Op.intCmp, Op.intBits, Go.bits]; done)
  | (split at h <;> first | (cases h; done) | (cases h; rename_i hb; simp [binOp, Op.intDiv, hb]; done))
  | (cases h; done)
  | exact absurd rfl hs
  | exact absurd rfl hr
theorem JL {op : BinOp} {k yk : IntKind} {a b : Int} {v : Value} (h : lh op k a b = some v) (w : World) : (Op.shift op k a yk b).run P w = .ok v w := by
 unfold lh at h
 split at h
 ·cases h
 ·rename_i hb
  cases op <;> simp only at h <;> first | (cases h; done) | (cases h; simp [Op.shift, hb])
theorem wC : ∀ {xs ys : List Value} {xs' ys' : List Value} {r : Bool}, bi xs ys = some r → LRel P ρ xs xs' → LRel P ρ ys ys' → xs' = xs ∧ ys' = ys := by
 intro xs
 induction xs with
 | nil =>
  intro ys xs' ys' r h h1 h2
  cases ys with
  | nil => exact ⟨List.eq_nil_of_length_eq_zero h1.1.symm, List.eq_nil_of_length_eq_zero h2.1.symm⟩
  | cons => simp [bi] at h
 | cons x xs ih =>
  intro ys xs' ys' r h h1 h2
  cases ys with
  | nil => simp [bi] at h
  | cons y ys =>
   cases xs' with
   | nil => have := h1.1; simp at this
   | cons x' xs' =>
    cases ys' with
    | nil => have := h2.1; simp at this
    | cons y' ys' =>
     cases x <;> cases y <;> simp only [bi] at h <;> try (cases h; done)
     rename_i k a k' b
     split at h
     ·obtain ⟨r', hr', _⟩ := aM.1 h
      have hx := (h1.2 0 (.int k a) x' (by simp) (by simp)).int_inv;have hy := (h2.2 0 (.int k' b) y' (by simp) (by simp)).int_inv
      have t1 : LRel P ρ xs xs' := by simpa using h1.drop 1
      have t2 : LRel P ρ ys ys' := by simpa using h2.drop 1
      obtain ⟨e1, e2⟩ := ih hr' t1 t2;exact ⟨by rw [hx, e1], by rw [hy, e2]⟩
     ·cases h
end
section
variable {P : Program} {ρ : bh}
theorem lD {sub : List Field → Option Nat} : ∀ {fs : List Field} {n m : Nat}, eK P sub n fs = some m → n ≤ m := by
 intro fs
 induction fs with
 | nil => intro n m h; simp [eK] at h; omega
 | cons f fs ih =>
  intro n m h;simp only [eK] at h
  split at h
  ·split at h
   ·have := ih h; omega
   ·split at h
    ·split at h
     ·have := ih h; omega
     ·cases h
    ·cases h
   ·cases h
  ·cases h
theorem FZ : ∀ {a a' b b' : List Value} {r : Bool}, a.length = a'.length → bi (a ++ b) (a' ++ b') = some r → ∃ r1 r2, bi a a' = some r1 ∧ bi b b' = some r2 ∧ r = (r1 && r2) := by
 intro a
 induction a with
 | nil =>
  intro a' b b' r hl h;have : a' = [] := List.eq_nil_of_length_eq_zero hl.symm;subst this;exact ⟨true, r, rfl, h, by simp⟩
 | cons x a ih =>
  intro a' b b' r hl h
  cases a' with
  | nil => simp at hl
  | cons y a' =>
   simp only [List.cons_append] at h
   cases x <;> cases y <;> simp only [bi] at h <;> try (cases h; done)
   rename_i k1 u k2 v
   split at h
   ·rename_i hk
    obtain ⟨r', hr', hr⟩ := aM.1 h;obtain ⟨r1, r2, h1, h2, h3⟩ := ih (by simpa using hl) hr';refine ⟨u == v && r1, r2, ?_, h2, ?_⟩
    ·simp only [bi, if_pos hk, h1, dD]
    ·rw [← hr, h3, Bool.and_assoc]
   ·cases h
theorem zc (X : Array Value) {n k : Nat} (h : n + k ≤ X.size) : X.toList.drop n = (X.extract n (n + k)).toList ++ X.toList.drop (n + k) := by
 rw [Array.toList_extract, List.extract_eq_take_drop, show n + k - n = k from by omega, ← List.drop_drop];exact (List.take_append_drop k (X.toList.drop n)).symm
theorem wF {sub : List Field → Option Nat} {D : Nat} {w : World} (hsub : ∀ (gs : List Field) (k : Nat) (X Y : Array Value) (r : Bool), sub gs = some k → X.size = k → Y.size = k → bi X.toList Y.toList = some r → (Op.eqFields D X Y gs).run P w = .ok r w) (X Y : Array Value) :
 ∀ {fs : List Field} {n m : Nat} {r : Bool}, eK P sub n fs = some m → X.size = m → Y.size = m →
 bi (X.toList.drop n) (Y.toList.drop n) = some r → (Op.eqFields (D + 1) X Y fs).run P w = .ok r w := by
 intro fs
 induction fs with
 | nil =>
  intro n m r h hX hY he;simp [eK] at h;rw [List.drop_eq_nil_of_le (by simp; omega), List.drop_eq_nil_of_le (by simp; omega)] at he;simp [bi] at he;simp [Op.eqFields, ← he]
 | cons f fs ih =>
  intro n m r h hX hY he;simp only [eK] at h
  split at h
  ·rename_i hf
   split at h
   ·rename_i k hk
    have hlen := lD h
    have hnX : n < X.toList.length := by simp; omega
    have hnY : n < Y.toList.length := by simp; omega
    rw [List.drop_eq_getElem_cons hnX, List.drop_eq_getElem_cons hnY] at he
    generalize hx : X.toList[n] = x at he
    generalize hy : Y.toList[n] = y at he
    cases x <;> cases y <;> simp only [bi] at he <;> try (cases he; done)
    rename_i k1 a k2 b
    split at he
    ·rename_i hkk
     subst hkk;obtain ⟨r', hr', hr⟩ := aM.1 he;have ih' := ih h hX hY hr'
     have hXn : X[n]? = some (.int k1 a) := by rw [← Array.getElem?_toList, br hnX, hx]
     have hYn : Y[n]? = some (.int k1 b) := by rw [← Array.getElem?_toList, br hnY, hy]
     have hag : (isAgg f.type).run P w = .ok false w := by simp [isAgg, run_underlying hk]
     simp only [Op.eqFields, hf.1, ne_eq, not_false_eq_true, if_true, part, Sem.run_bind, hag, Result.andThen_ok, Sem.run_ite, Bool.false_eq_true, if_false, hf.2, hXn, hYn, Sem.run_pure, run_equalIn_int w D f.type k1 k a b hk];cases hab : (a == b)
     ·simp [hab] at hr; simp [← hr]
     ·simp [hab] at hr; simpa [hr] using ih'
    ·cases he
   ·rename_i gs hk
    split at h
    ·rename_i k hs
     split at h
     ·rename_i hc
      have hlen := lD h;rw [zc X (n := n) (k := k) (by omega), zc Y (n := n) (k := k) (by omega)] at he
      have sX : (X.extract n (n + k)).size = k := by rw [Array.size_extract]; omega
      have sY : (Y.extract n (n + k)).size = k := by rw [Array.size_extract]; omega
      obtain ⟨r1, r2, h1, h2, h3⟩ := FZ (by simp only [Array.length_toList, sX, sY]) he;have ih' := ih h hX hY h2;have hq := hsub gs.toList k _ _ r1 hs sX sY h1
      have hag : (isAgg f.type).run P w = .ok true w := by simp [isAgg, run_underlying hk]
      have hsz := cj hc.1 w
      have hfs : P.fieldsOf f.type = gs := by simp [Program.fieldsOf, hk]
      have hst := run_equalIn_struct w D f.type (X.extract n (n + k)) (Y.extract n (n + k)) (by rw [hfs]; exact hk) hc.2;rw [hfs, hq] at hst;simp only [Op.eqFields, hf.1, ne_eq, not_false_eq_true, if_true, part, Sem.run_bind, hag, Result.andThen_ok, Sem.run_ite, hf.2, hsz, Sem.run_pure, hst];cases r1
      ·simp at h3; simp [h3]
      ·simp at h3; simpa [h3] using ih'
     ·cases h
    ·cases h
   ·cases h
  ·cases h
theorem Xt (w : World) : ∀ (e d : Nat) (X Y : Array Value) {fs : List Field} {n m : Nat} {r : Bool}, nz P e n fs = some m → X.size = m → Y.size = m →
 bi (X.toList.drop n) (Y.toList.drop n) = some r → (Op.eqFields (d + e + 1) X Y fs).run P w = .ok r w := by
 intro e
 induction e with
 | zero => intro d X Y fs n m r h hX hY he; exact wF (D := d) (fun gs k X Y r h => by cases h) X Y h hX hY he
 | succ e ih => intro d X Y fs n m r h hX hY he; exact wF (D := d + e + 1) (fun gs k X Y r h hX hY he => ih d X Y h hX hY (by simpa using he)) X Y h hX hY he
theorem Cb {t : TypeId} {n : Nat} (h : rM P t = some n) {X Y : Array Value} (hX : X.size = n) (hY : Y.size = n) {r : Bool} (he : bi X.toList Y.toList = some r) (w : World) :
 (Op.equalIn 10000 t (.agg X) (.agg Y)).run P w = .ok r w ∧ P.eqGuardType P.depth t = false := by
 unfold rM at h
 cases hu : P.underlying t with
 | none => simp [hu] at h
 | some dsc =>
  cases dsc <;> simp only [hu] at h <;> try (cases h; done)
  rename_i fs
  split at h
  ·rename_i hc
   refine ⟨?_, hc.2⟩
   have hfs : P.fieldsOf t = fs := by simp [Program.fieldsOf, hu]
   rw [run_equalIn_struct w 9999 t X Y (by rw [hfs]; exact hu) hc.1, hfs];exact Xt w 2 9996 X Y h hX hY (by simpa using he)
  ·cases h
theorem Ok (d : Nat) {t : TypeId} (hu : P.underlying t = some .bool) (a b : Bool) (w : World) : (Op.equalIn (d + 1) t (.bool a) (.bool b)).run P w = .ok (a == b) w := run_equalIn_bool w d t a b hu
theorem Sa (d : Nat) {t el : TypeId} (hu : P.underlying t = some (.pointer el)) (a : Option Addr) (w : World) : (Op.equalIn (d + 1) t (.pointer a) (.pointer none)).run P w = .ok a.isNone w := by
 cases a <;> simp [Op.equalIn, run_underlying hu]
theorem Om (d : Nat) {t el : TypeId} (hu : P.underlying t = some (.pointer el)) (a : Addr) (w : World) : (Op.equalIn (d + 1) t (.pointer none) (.pointer (some a))).run P w = .ok false w := by
 simp [Op.equalIn, run_underlying hu]
theorem Iq (d : Nat) {t el : TypeId} (hu : P.underlying t = some (.slice el)) (a : Option Addr) (n k m l : Nat) (w : World) : (Op.equalIn (d + 1) t (.slice a n k) (.slice none m l)).run P w = .ok a.isNone w := by
 cases a <;> simp [Op.equalIn, run_underlying hu]
theorem F0 (d : Nat) {t el : TypeId} (hu : P.underlying t = some (.slice el)) (a : Addr) (n k m l : Nat) (w : World) : (Op.equalIn (d + 1) t (.slice none n k) (.slice (some a) m l)).run P w = .ok false w := by
 simp [Op.equalIn, run_underlying hu]
theorem R9 (d : Nat) {t kt el : TypeId} (hu : P.underlying t = some (.map kt el)) (a : Option Nat) (w : World) : (Op.equalIn (d + 1) t (.map a) (.map none)).run P w = .ok a.isNone w := by
 cases a <;> simp [Op.equalIn, run_underlying hu]
theorem Ol (d : Nat) {t kt el : TypeId} (hu : P.underlying t = some (.map kt el)) (a : Nat) (w : World) : (Op.equalIn (d + 1) t (.map none) (.map (some a))).run P w = .ok false w := by
 simp [Op.equalIn, run_underlying hu]
theorem u0 (d : Nat) {t : TypeId} {ps rs : Array TypeId} {va : Bool} (hu : P.underlying t = some (.func ps rs va)) (f : Fn) (a c : Array Value) (w : World) :
 (Op.equalIn (d + 1) t (.func f a c) .nilFunc).run P w = .ok false w ∧ (Op.equalIn (d + 1) t .nilFunc (.func f a c)).run P w = .ok false w ∧ (Op.equalIn (d + 1) t .nilFunc .nilFunc).run P w = .ok true w := by
 refine ⟨?_, ?_, ?_⟩ <;> simp [Op.equalIn, run_underlying hu]
theorem oH {t : TypeId} {x y : Value} {r : Bool} {w : World} (X Y : Operand) (op : BinOp) (hop : op = .eql ∨ op = .neq) (hg : (eqGuard op t X Y x y).run P w = .ok () w)
 (hi : ∀ k a, x ≠ .int k a) (hf : ∀ k a, x ≠ .float k a) (hc : ∀ k a b, x ≠ .complex k a b) (hs : ∀ a, x ≠ .string a) (he : (Op.equalIn 10000 t x y).run P w = .ok r w) :
 (do eqGuard op t X Y x y; binOp op t x y : Sem Value).run P w = .ok (.bool (if op = .eql then r else !r)) w := by
 have he' : (Op.equal t x y).run P w = .ok r w := he;simp only [Sem.run_bind, hg, Result.andThen_ok]
 rcases hop with rfl | rfl
 ·have e : binOp .eql t x y = (do pure (.bool (← Op.equal t x y)) : Sem Value) := by
   cases x <;> first | rfl | exact absurd rfl (hi _ _) | exact absurd rfl (hf _ _) | exact absurd rfl (hc _ _ _) | exact absurd rfl (hs _)
  rw [e]; simp [he']
 ·have e : binOp .neq t x y = (do pure (.bool (!(← Op.equal t x y))) : Sem Value) := by
   cases x <;> first | rfl | exact absurd rfl (hi _ _) | exact absurd rfl (hf _ _) | exact absurd rfl (hc _ _ _) | exact absurd rfl (hs _)
  rw [e]; simp [he']
theorem M5 {t : TypeId} {x y x' y' : Value} {r : Bool} (h : ot (wy P t) x y = some r) (hx : VRel P ρ x x') (hy : VRel P ρ y y') (X Y : Operand) (w : World) (op : BinOp) (hop : op = .eql ∨ op = .neq) :
 (do eqGuard op t X Y x' y'; binOp op t x' y' : Sem Value).run P w = .ok (.bool (if op = .eql then r else !r)) w := by
 unfold wy at h
 cases hu : P.underlying t with
 | none => simp [hu, ot] at h
 | some d =>
  cases d <;> simp only [hu] at h <;> try (simp [ot] at h; done)
  case bool =>
   cases x <;> cases y <;> simp [ot] at h
   rw [hx.bool_inv, hy.bool_inv];exact oH X Y op hop (by rw [eqGuard_at_bool]; rfl) (by simp) (by simp) (by simp) (by simp) (by rw [Ok 9999 hu, h])
  case pointer el =>
   cases x <;> cases y <;> simp only [ot] at h <;> try (cases h; done)
   rename_i a b
   obtain ⟨a', rfl, ha⟩ := hx.pointer_inv;obtain ⟨b', rfl, hb⟩ := hy.pointer_inv;refine oH X Y op hop (by rw [eqGuard_at_pointer]; rfl) (by simp) (by simp) (by simp) (by simp) ?_
   cases b with
   | none =>
    have hb' : b' = none := by cases b' <;> simp_all
    subst hb';rw [Sa 9999 hu, ha]
    cases a <;> simp [ot] at h <;> simp [h]
   | some b =>
    cases a with
    | some a => simp [ot] at h
    | none =>
     have ha' : a' = none := by cases a' <;> simp_all
     subst ha'
     cases b' with
     | none => simp at hb
     | some b' => simp [ot] at h; rw [Om 9999 hu, ← h]
  case slice el =>
   cases x <;> cases y <;> simp only [ot] at h <;> try (cases h; done)
   rename_i a n1 k1 b n2 k2
   obtain ⟨a', _, rfl, ha⟩ := hx.anyslice_inv;obtain ⟨b', _, rfl, hb⟩ := hy.anyslice_inv;refine oH X Y op hop (by rw [eqGuard_at_slice]; rfl) (by simp) (by simp) (by simp) (by simp) ?_
   cases b with
   | none =>
    have hb' : b' = none := by cases b' <;> simp_all
    subst hb';rw [Iq 9999 hu, ha]
    cases a <;> simp [ot] at h <;> simp [h]
   | some b =>
    cases a with
    | some a => simp [ot] at h
    | none =>
     have ha' : a' = none := by cases a' <;> simp_all
     subst ha'
     cases b' with
     | none => simp at hb
     | some b' => simp [ot] at h; rw [F0 9999 hu, ← h]
  case map kt el =>
   cases x <;> cases y <;> simp only [ot] at h <;> try (cases h; done)
   rename_i a b
   obtain ⟨a', rfl, ha⟩ := hx.anymap_inv;obtain ⟨b', rfl, hb⟩ := hy.anymap_inv;refine oH X Y op hop (by rw [eqGuard_at_map]; rfl) (by simp) (by simp) (by simp) (by simp) ?_
   cases b with
   | none =>
    have hb' : b' = none := by cases b' <;> simp_all
    subst hb';rw [R9 9999 hu, ha]
    cases a <;> simp [ot] at h <;> simp [h]
   | some b =>
    cases a with
    | some a => simp [ot] at h
    | none =>
     have ha' : a' = none := by cases a' <;> simp_all
     subst ha'
     cases b' with
     | none => simp at hb
     | some b' => simp [ot] at h; rw [Ol 9999 hu, ← h]
  case func ps rs va =>
   cases x <;> cases y <;> simp [ot] at h
   ·obtain ⟨f', c', rfl, _⟩ := hx.func_inv
    rw [hy.nilFunc_inv];exact oH X Y op hop (by rw [eqGuard_at_func]; rfl) (by simp) (by simp) (by simp) (by simp) (by rw [(u0 9999 hu _ f' c' w).1, h])
   ·obtain ⟨f', c', rfl, _⟩ := hy.func_inv
    rw [hx.nilFunc_inv];exact oH X Y op hop (by rw [eqGuard_at_nilFunc]; rfl) (by simp) (by simp) (by simp) (by simp) (by rw [(u0 9999 hu _ f' c' w).2.1, h])
   ·rw [hx.nilFunc_inv, hy.nilFunc_inv]
    exact oH X Y op hop (by rw [eqGuard_at_nilFunc]; rfl) (by simp) (by simp) (by simp) (by simp) (by rw [(u0 9999 hu (.func 0) #[] #[] w).2.2, h])
  case struct fs =>
   cases hf : rM P t with
   | none => simp [hf, ot] at h
   | some n =>
    simp only [hf] at h
    cases x <;> cases y <;> simp only [ot] at h <;> try (cases h; done)
    rename_i xs ys
    split at h
    ·rename_i hsz
     obtain ⟨xs', rfl, hxs, hxe⟩ := hx.agg_inv;obtain ⟨ys', rfl, hys, hye⟩ := hy.agg_inv;have hlx : LRel P ρ xs.toList xs'.toList := ⟨by simpa using hxs, fun i a b ha hb => hxe i a b (by simpa using ha) (by simpa using hb)⟩;have hly : LRel P ρ ys.toList ys'.toList := ⟨by simpa using hys, fun i a b ha hb => hye i a b (by simpa using ha) (by simpa using hb)⟩;obtain ⟨e1, e2⟩ := wC h hlx hly;have e1 := Array.toList_inj.1 e1;have e2 := Array.toList_inj.1 e2;subst e1; subst e2;obtain ⟨hq, hg⟩ := Cb hf hsz.1 hsz.2 h w;exact oH X Y op hop (run_eqGuard_agg (P := P) w op t X Y xs' ys' hg) (by simp) (by simp) (by simp) (by simp) hq
    ·cases h
theorem GE {t : TypeId} {op : BinOp} {x y x' y' v : Value} (h : ak (wy P t) op x y = some v) (hx : VRel P ρ x x') (hy : VRel P ρ y y') (X Y : Operand) (w : World) :
 (do eqGuard op t X Y x' y'; binOp op t x' y' : Sem Value).run P w = .ok v w ∧ cB v = true := by
 by_cases hi : ∃ k a k' b, x = .int k a ∧ y = .int k' b
 ·obtain ⟨k, a, k', b, rfl, rfl⟩ := hi
  rw [hx.int_inv, hy.int_inv, eqGuard_at_int];simp only [ak] at h
  have lit : ∀ {op' : BinOp}, lx op' k a b = some v → cB v = true := by
   intro op' hp
   cases op' <;> simp only [lx] at hp <;> first | (cases hp; rfl) | (split at hp <;> first | (cases hp; done) | (cases hp; rfl)) | (cases hp; done)
  have lits : ∀ {op' : BinOp}, lh op' k a b = some v → cB v = true := by
   intro op' hp;unfold lh at hp
   split at hp
   ·cases hp
   ·cases op' <;> simp only at hp <;> first | (cases hp; done) | (cases hp; rfl)
  cases op <;> simp only at h <;> first
   | (refine ⟨?_, lits h⟩; have := JL (P := P) (yk := k') h w; simpa [binOp] using this)
   | (split at h
      ·rename_i hk; subst hk; exact ⟨by simpa using UP (P := P) h t w (by simp) (by simp), lit h⟩
      ·cases h)
 ·by_cases hs : ∃ a b, x = .string a ∧ y = .string b
  ·obtain ⟨a, b, rfl, rfl⟩ := hs
   rw [hx.string_inv, hy.string_inv, eqGuard_at_string];simp only [ak] at h
   cases op <;> simp only [UV] at h <;> first | (cases h; done) | (cases h; refine ⟨?_, rfl⟩; simp [binOp, Op.stringOp, beq_toListBytes])
  ·have h' : Cq (wy P t) op x y = some v := by
    cases x <;> cases y <;> first | (exfalso; exact hi ⟨_, _, _, _, rfl, rfl⟩) | (exfalso; exact hs ⟨_, _, rfl, rfl⟩) | (simp only [ak] at h; exact h)
   cases op <;> simp only [Cq] at h' <;> try (cases h'; done)
   ·obtain ⟨r, hr, rfl⟩ := aM.1 h'
    exact ⟨by simpa using M5 hr hx hy X Y w .eql (.inl rfl), rfl⟩
   ·obtain ⟨r, hr, rfl⟩ := aM.1 h'
    exact ⟨by simpa using M5 hr hx hy X Y w .neq (.inr rfl), rfl⟩
theorem Na {op : UnOp} {x x' v : Value} (h : pw op x = some v) (hx : VRel P ρ x x') (w : World) : (Op.unary op x').run P w = .ok v w ∧ cB v = true := by
 cases op <;> cases x <;> simp only [pw] at h <;> try (cases h; done)
 ·cases h; rw [hx.int_inv]; exact ⟨by simp [Op.unary, Op.intArith], rfl⟩
 ·cases h; rw [hx.int_inv]; exact ⟨by simp [Op.unary, Op.intBits, Go.bits], rfl⟩
 ·cases h; rw [hx.bool_inv]; exact ⟨by simp [Op.unary], rfl⟩
end
section
variable {P : Program} {w0 : World} {B : Nat} {ρ : bh} {H : AH} {w : World}
def oC (P : Program) (w0 : World) (B : Nat) (ρ : bh) (H : AH) (w : World) (r : Result Next) (v : Value) (H' : AH) : Prop :=
 ∃ v' w' ρ', (r = .ok (.value v') w' ∨ (r = .ok .skip w' ∧ v' = undef)) ∧ VRel P ρ' v v' ∧ hU ρ H w ρ' H' w' ∧ Rel P w0 B ρ' H' w'
theorem oC.pure (hR : Rel P w0 B ρ H w) {r : Result Next} {v v' : Value} (hr : r = .ok (.value v') w) (hv : VRel P ρ v v') : oC P w0 B ρ H w r v H :=
 ⟨v', w, ρ, .inl hr, hv, hU.refl _ _ _, hR⟩
theorem t3 {v : Value} {b o : Nat} (h : sm v = some (b, o)) : v = .pointer (some ⟨b, o, none⟩) := by
 unfold sm at h
 split at h
 ·cases h; rfl
 ·cases h
theorem jB {b : Nat} {cs : List Value} (h : dh H b = some cs) : ∃ ro, H.get b = some (.cells ro cs) := by
 unfold dh at h
 split at h
 ·rename_i ro cs' hg; cases h; exact ⟨ro, hg⟩
 ·cases h
theorem Rel.cells (hR : Rel P w0 B ρ H w) {b c d sz : Nat} {ro : Bool} {cs : List Value} (hb : ρ b = some (c, d, sz)) (ho : H.get b = some (.cells ro cs)) :
 ∃ cc el fz, w.heap[c]? = some (.cells cc el fz) ∧ cc.size = sz ∧ d + cs.length ≤ sz ∧ (ro = false → fz = (0, 0)) ∧ LRel P ρ cs ((cc.toList.drop d).take cs.length) :=
 hR.obj b c d sz _ hb ho
theorem Lh {c d o n : Nat} {cc : Array Value} {el : TypeId} {fz : Nat × Nat} {y : Value} (hg : w.heap[c]? = some (.cells cc el fz)) (hy : ((cc.toList.drop d).take n)[o]? = some y) :
 w.cell? ⟨c, d + o, none⟩ = some y := by
 rw [List.getElem?_take] at hy
 split at hy
 ·rw [List.getElem?_drop, Array.getElem?_toList] at hy
  simp [World.cell?, hg, hy]
 ·cases hy
theorem Uo (hR : Rel P w0 B ρ H w) {v v' x : Value} (h : am v H = some x) (hv : VRel P ρ v v') : ∃ a' x', v' = .pointer (some a') ∧ (load a').run P w = .ok x' w ∧ VRel P ρ x x' := by
 unfold am at h;obtain ⟨⟨b, o⟩, ha, h⟩ := aC.1 h;obtain ⟨cs, hc, h⟩ := aC.1 h;rw [t3 ha] at hv;obtain ⟨c, d, sz, hb, rfl⟩ := hv.ptr_inv;obtain ⟨ro, hg⟩ := jB hc;obtain ⟨cc, el, fz, hw, _, _, _, hl⟩ := hR.cells hb hg;obtain ⟨x', hx', hxx⟩ := hl.get h;refine ⟨_, x', rfl, ?_, hxx⟩;have hcell := Lh hw hx';simp [run_load, hcell]
theorem Gy (hR : Rel P w0 B ρ H w) {n : Nat} {v v' x : Value} (h : aB n v H = some x) (hv : VRel P ρ v v') : ∃ a' xs', v' = .pointer (some a') ∧ (loadCells a' n).run P w = .ok xs' w ∧ VRel P ρ x (.agg xs') := by
 unfold aB at h;obtain ⟨⟨b, o⟩, ha, h⟩ := aC.1 h;obtain ⟨cs, hc, h⟩ := aC.1 h;rw [t3 ha] at hv;obtain ⟨c, d, sz, hb, rfl⟩ := hv.ptr_inv;obtain ⟨ro, hg⟩ := jB hc;obtain ⟨cc, el, fz, hw, _, _, _, hl⟩ := hR.cells hb hg
 split at h
 ·rename_i hle
  cases h;have hl' := (hl.drop o).take n
  have hlen : ((((cc.toList.drop d).take cs.length).drop o).take n).length = n := by rw [← hl'.1]; simp; simp at hle; omega
  have hrun := run_loadCells_list (P := P) w ⟨c, d + o, none⟩ ((((cc.toList.drop d).take cs.length).drop o).take n) (by
   intro j y hy;rw [List.getElem?_take] at hy
   split at hy
   ·rw [List.getElem?_drop] at hy
    have := Lh hw hy;rw [Addr.add_lit, Nat.add_assoc];exact this
   ·cases hy)
  rw [hlen] at hrun;exact ⟨_, _, rfl, hrun, hl'.toAgg⟩
 ·cases h
theorem BE {cc : List Value} {d o n : Nat} {xs : List Value} (hd : d + n ≤ cc.length) (ho : o + xs.length ≤ n) :
 ((cc.take (d + o) ++ xs ++ cc.drop (d + o + xs.length)).drop d).take n = splice ((cc.drop d).take n) o xs := by
 unfold splice;apply List.ext_getElem?;intro i;simp only [List.getElem?_take, List.getElem?_drop, List.getElem?_append, List.length_take, nC, List.length_drop]
 have m1 : min (d + o) cc.length = d + o := by omega
 have m2 : min n (cc.length - d) = n := by omega
 have m3 : min o n = o := by omega
 simp only [m1, m2, m3]
 by_cases hi : i < n
 ·simp only [hi, if_true]
  by_cases h1 : i < o
  ·have a1 : d + i < d + o := by omega
   have a2 : d + i < d + o + xs.length := by omega
   have a3 : i < o + xs.length := by omega
   simp [h1, a1, a2, a3]
  ·by_cases h2 : i < o + xs.length
   ·have a1 : ¬ d + i < d + o := by omega
    have a2 : d + i < d + o + xs.length := by omega
    have a4 : d + i - (d + o) = i - o := by omega
    simp [h1, h2, a1, a2, a4]
   ·have a2 : ¬ d + i < d + o + xs.length := by omega
    have a5 : o + xs.length + (i - (o + xs.length)) < n := by omega
    have a6 : d + o + xs.length + (d + i - (d + o + xs.length)) = d + (o + xs.length + (i - (o + xs.length))) := by omega
    simp [h2, a2, a5, a6]
 ·simp only [hi, if_false]
  have a3 : ¬ i < o + xs.length := by omega
  have a5 : ¬ o + xs.length + (i - (o + xs.length)) < n := by omega
  simp [a3, a5]
theorem jn {cs xs : List Value} {o : Nat} (h : o + xs.length ≤ cs.length) : (splice cs o xs).length = cs.length := by
 unfold splice; simp; omega
theorem LRel.splice {cs cs' xs xs' : List Value} (h : LRel P ρ cs cs') (hx : LRel P ρ xs xs') (o : Nat) : LRel P ρ (Gst.splice cs o xs) (Gst.splice cs' o xs') := by
 unfold Gst.splice;rw [← hx.1];exact ((h.take o).append hx).append (h.drop _)
theorem GD {xs xs' : List Value} (h : LRel P ρ xs xs') (ha : xs.all Value.oneCell' = true) : ∀ v ∈ xs', v.oneCell' = true := by
 intro v hv;obtain ⟨i, hi, rfl⟩ := List.getElem_of_mem hv
 have hi' : i < xs.length := by have := h.1; omega
 have hr := h.2 i xs[i] xs'[i] (br hi') (br hi);rw [← hr.oneCell];exact List.all_eq_true.1 ha _ (PN hi')
theorem ZL (hR : Rel P w0 B ρ H w) {n : Nat} {v v' x x' : Value} {H' : AH} (h : dg n v x H = some H') (hv : VRel P ρ v v') (hx : VRel P ρ x x') :
 ∃ a' w', v' = .pointer (some a') ∧ x'.cells.size = n ∧ (storeCells a' x'.cells.toList).run P w = .ok () w' ∧ hU ρ H w ρ H' w' ∧ Rel P w0 B ρ H' w' := by
 unfold dg at h;obtain ⟨⟨b, o⟩, ha, h⟩ := aC.1 h;rw [t3 ha] at hv;obtain ⟨c, d, sz, hb, rfl⟩ := hv.ptr_inv;simp only at h
 split at h
 ·rename_i cs hg
  split at h
  ·rename_i hcond
   obtain ⟨hn, hfit, hone⟩ := hcond;cases h;obtain ⟨cc, el, fz, hw, hsz, hd, hfz, hl⟩ := hR.cells hb hg;have hfz := hfz rfl;subst hfz;have hxc := hx.cells
   have hlen : x'.cells.toList.length = n := by rw [← hxc.1]; simpa using hn
   have hlenx : x.cells.toList.length = n := by simpa using hn
   have hst := run_storeCells_at P c (d + o) el x'.cells.toList 0 cc w hw (by rw [hlen]; omega) (GD hxc hone);simp only [Nat.add_zero] at hst;have hset := hR.setBlock (o := .cells false cs) (o' := .cells false (Gst.splice cs o x.cells.toList)) hb hg rfl rfl
    (w' := w.setRow c (cc.toList.take (d + o) ++ x'.cells.toList ++ cc.toList.drop (d + o + x'.cells.toList.length)).toArray)
    rfl rfl rfl (size_setRow ..) (fun k hk => setRow_other w c k _ hk)
    ⟨_, el, (0, 0), setRow_heap w c cc _ el (0, 0) hw, (by have h1 := hlen; simp at h1 ⊢; omega), by rw [jn (by rw [hlenx]; exact hfit)]; exact hd, fun _ => rfl, by
     have hwin := BE (cc := cc.toList) (d := d) (o := o) (n := cs.length) (xs := x'.cells.toList) (by simp; omega) (by rw [hlen]; exact hfit);rw [jn (by rw [hlenx]; exact hfit)];have e : (cc.toList.take (d + o) ++ x'.cells.toList ++ cc.toList.drop (d + o + x'.cells.toList.length)).toArray.toList = cc.toList.take (d + o) ++ x'.cells.toList ++ cc.toList.drop (d + o + x'.cells.toList.length) := rfl;rw [e, hwin]
     exact hl.splice hxc o⟩
   refine ⟨_, _, rfl, by simpa using hlen, hst, hset.2, hset.1⟩
  ·cases h
 ·cases h
theorem qr (hR : Rel P w0 B ρ H w) {cs cs' : List Value} {el : TypeId} (hl : LRel P ρ cs cs') :
 Rel P w0 B (ρ.upd H.size (w.heap.size, 0, cs'.length)) (H.push (.cells false cs)) (w.alloc (.cells cs'.toArray el)) ∧
 hU ρ H w (ρ.upd H.size (w.heap.size, 0, cs'.length)) (H.push (.cells false cs)) (w.alloc (.cells cs'.toArray el)) :=
 hR.push rfl ⟨_, el, (0, 0), rfl, by simp, by rw [hl.1]; omega, fun _ => rfl, by rw [hl.1]; simpa using hl⟩
theorem UG (hR : Rel P w0 B ρ H w) {cs cs' : List Value} {el : TypeId} (hl : LRel P ρ cs cs') {r : Result Next} (hr : r = .ok (.value (.pointer (some ⟨w.heap.size, 0, none⟩))) (w.alloc (.cells cs'.toArray el))) :
 oC P w0 B ρ H w r (.pointer (some ⟨H.size, 0, none⟩)) (H.push (.cells false cs)) :=
 ⟨_, _, _, .inl hr, .ptr (d := 0) (o := 0) (bh.upd_same ..), (qr hR hl).2, (qr hR hl).1⟩
end
section
variable {P : Program} {w0 : World} {B : Nat} {ρ : bh} {H : AH} {w : World}
theorem Nw (hR : Rel P w0 B ρ H w) {e m : Nat} {x x' : Value} {news : List Value} (h : j4 e x H = some (m, news)) (hx : VRel P ρ x x') :
 ∃ a' k' news', x' = .slice a' m k' ∧ LRel P ρ news news' ∧ news'.length = m * e ∧ (Builtin.firstCells e m x').run P w = .ok news'.toArray w ∧ (Builtin.firstCells e m x').run P w.drew = .ok news'.toArray w.drew := by
 by_cases hsl : ∃ a n k, x = .slice a n k
 case neg =>
  exfalso
  cases x <;> first | exact hsl ⟨_, _, _, rfl⟩ | (simp [j4] at h)
 obtain ⟨a, n, k, rfl⟩ := hsl
 cases a with
 | none =>
  simp only [j4] at h
  split at h
  ·rename_i hn
   cases h;subst hn;rw [hx.nilslice_inv];exact ⟨none, k, [], rfl, LRel.nil, by simp, by simp [Builtin.firstCells], by simp [Builtin.firstCells]⟩
  ·cases h
 | some ad =>
  obtain ⟨b, o, sp⟩ := ad
  cases sp with
  | some sp => simp [j4] at h
  | none =>
  simp only [j4] at h
  split at h
  ·rename_i hm
   cases h;subst hm;obtain ⟨a', k', rfl, ha⟩ := hx.anyslice_inv
   cases a' with
   | none => simp at ha
   | some a' => exact ⟨some a', k', [], rfl, LRel.nil, by simp, by simp [Builtin.firstCells, loadCells, loadCellsFrom], by simp [Builtin.firstCells, loadCells, loadCellsFrom]⟩
  ·rename_i hm
   have h2 := aC.1 h
   clear h
   obtain ⟨cs, hc, h⟩ := h2
   split at h
   ·rename_i hle
    cases h
    cases hx with
    | lit h => simp [cB] at h
    | slice0 h => exact absurd rfl hm
    | empty => exact absurd rfl hm
    | slice hb hk hn he =>
     rename_i c d sz k'
     have hld : aB (m * e) (.pointer (some ⟨b, o, none⟩)) H = some (.agg ((cs.drop o).take (m * e)).toArray) := by
      simp [aB, sm, hc, hle]
     obtain ⟨a', xs', ha', hrun, hv⟩ := Gy hR hld (.ptr hb);cases ha';obtain ⟨ys, hys, hsz, hel⟩ := hv.agg_inv;cases hys
     have hrun2 : (loadCells ⟨c, d + o, none⟩ (m * e)).run P w.drew = .ok xs' w.drew := by
      obtain ⟨a2, xs2, ha2, hr2, _⟩ := Gy hR.drew hld (.ptr hb);cases ha2;have hcs : (loadCells ⟨c, d + o, none⟩ (m * e)).run P w = .ok xs' w := hrun
      -- the cells are the same ones
      obtain ⟨ro, hg⟩ := jB hc;obtain ⟨cc, el, fz, hw, hsz', hd', _, _⟩ := hR.cells hb hg
      have hrd : ∀ (W : World), W.heap[c]? = some (.cells cc el fz) → (loadCells ⟨c, d + o, none⟩ (m * e)).run P W = .ok ((cc.toList.drop (d + o)).take (m * e)).toArray W := by
       intro W hW
       have hl : ((cc.toList.drop (d + o)).take (m * e)).length = m * e := by simp; omega
       have := run_loadCells_list (P := P) W ⟨c, d + o, none⟩ ((cc.toList.drop (d + o)).take (m * e)) (by
        intro j y hy;rw [List.getElem?_take] at hy
        split at hy
        ·rw [List.getElem?_drop, Array.getElem?_toList] at hy
         rw [Addr.add_lit];simp [World.cell?, hW, hy]
        ·cases hy)
       rwa [hl] at this
      rw [hrd w hw] at hcs;cases hcs;exact hrd w.drew hw
     refine ⟨some ⟨c, d + o, none⟩, k', xs'.toList, rfl, ⟨by simpa using hsz, fun i x y hx hy => hel i x y (by simpa using hx) (by simpa using hy)⟩, ?_, ?_, ?_⟩
     ·have := hsz; simp at this ⊢; omega
     ·simpa [Builtin.firstCells] using hrun
     ·simpa [Builtin.firstCells] using hrun2
   ·cases h
theorem w6 {t u ty el : TypeId} {i : TypeInfo} {z : Value} (ht : P.underlying t = some (.slice el)) (hu : P.underlying u = some (.slice el)) (hi : P.info? el = some i) (hz : i.zero = some z)
 (base : Option Addr) (sLen sCap : Nat) (olds' : List Value) (ho : (Builtin.firstCells i.size sLen (.slice base sLen sCap)).run P w.drew = .ok olds'.toArray w.drew)
 {a' : Option Addr} {m k' : Nat} {news' : List Value} (hx : (Builtin.firstCells i.size m (.slice a' m k')).run P w.drew = .ok news'.toArray w.drew)
 (hg : sCap < sLen + m) (hb : (sLen + m) * i.bytes ≤ room) (h63 : sLen + m ≤ room) :
 (Builtin.append_ #[t, u] ty #[.slice base sLen sCap, .slice a' m k']).run P w =
  .ok (.slice (some ⟨w.heap.size, 0, none⟩) (sLen + m) (grownCap w (sLen + m) sCap el))
   (w.drew.alloc (.cells (olds' ++ news' ++ (Builtin.zeroCells z.cells (grownCap w (sLen + m) sCap el - (sLen + m))).toList).toArray el)) := by
 unfold room at hb h63
 have hn : ¬ (sLen + m ≤ sCap) := by omega
 have h63' : ¬ (9223372036854775807 < ((sLen : Int) + (m : Int))) := by omega
 have h48' : ¬ (281474976710656 < Builtin.nextslicecap (sLen + m) sCap * i.bytes) := by
  have := growslice_fits hg hb; omega
 simp [Builtin.append_, run_underlying ht, run_underlying hu, sizeOf, typeInfo, zeroValue, hi, hz, Builtin.lenOf, hn, h63', h48', Question.forced, ho, hx, newRow, grownCap]
 congr 2
 apply Array.ext';simp [List.append_assoc]
theorem gj {t u ty el : TypeId} {i : TypeInfo} (ht : P.underlying t = some (.slice el)) (hu : P.underlying u = some (.slice el)) (hi : P.info? el = some i)
 (base : Addr) (sLen sCap : Nat) {a' : Option Addr} {m k' : Nat} {news' : List Value} (hx : (Builtin.firstCells i.size m (.slice a' m k')).run P w = .ok news'.toArray w)
 (hg : sLen + m ≤ sCap) {w' : World} (hst : (storeCells (base.add (sLen * i.size)) news').run P w = .ok () w') :
 (Builtin.append_ #[t, u] ty #[.slice (some base) sLen sCap, .slice a' m k']).run P w = .ok (.slice (some base) (sLen + m) sCap) w' := by
 simp [Builtin.append_, run_underlying ht, run_underlying hu, sizeOf, typeInfo, hi, Builtin.lenOf, hg, hx, hst]
theorem yU {t u ty el : TypeId} {i : TypeInfo} (ht : P.underlying t = some (.slice el)) (hu : P.underlying u = some (.slice el)) (hi : P.info? el = some i)
 {a' : Option Addr} {k' : Nat} {news' : List Value} (hx : (Builtin.firstCells i.size 0 (.slice a' 0 k')).run P w = .ok news'.toArray w) :
 (Builtin.append_ #[t, u] ty #[.slice none 0 0, .slice a' 0 k']).run P w = .ok (.slice none 0 0) w := by
 simp [Builtin.append_, run_underlying ht, run_underlying hu, sizeOf, typeInfo, hi, Builtin.lenOf, hx]
theorem WD (hR : Rel P w0 B ρ H w) {t u ty el : TypeId} {i : TypeInfo} {z : Value} (ht : P.underlying t = some (.slice el)) (hu : P.underlying u = some (.slice el)) (hi : P.info? el = some i) (hz : i.zero = some z)
 (hzs : z.cells.size = i.size) {s s' x x' v : Value} {H' : AH} (h : dX i.size i.bytes s x H = some (v, H')) (hs : VRel P ρ s s') (hx : VRel P ρ x x') :
 ∃ v' w' ρ', (Builtin.append_ #[t, u] ty #[s', x']).run P w = .ok v' w' ∧ VRel P ρ' v v' ∧ hU ρ H w ρ' H' w' ∧ Rel P w0 B ρ' H' w' := by
 unfold dX at h;have h2 := aC.1 h
 clear h
 obtain ⟨⟨m, news⟩, hrow, h⟩ := h2;obtain ⟨a', k', news', rfl, hln, hnl, hrun, hrunD⟩ := Nw hR hrow hx
 split at h
 ·rename_i hcond
  obtain ⟨hone, he⟩ := hcond;have hones := GD hln hone;simp only at h hone
  -- a new block, whatever stood there before
  have fresh : ∀ (base : Option Addr) (sCap n : Nat) (olds olds' : List Value), LRel P ρ olds olds' → olds'.length = n * i.size → s' = .slice base n sCap →
   (Builtin.firstCells i.size n (.slice base n sCap)).run P w.drew = .ok olds'.toArray w.drew → sCap < n + m → (n + m) * i.bytes ≤ room → n + m ≤ room →
   ∃ sz k, (Builtin.append_ #[t, u] ty #[s', .slice a' m k']).run P w = .ok (.slice (some ⟨w.heap.size, 0, none⟩) (n + m) k) (w.drew.alloc (.cells (olds' ++ news' ++ (Builtin.zeroCells z.cells (k - (n + m))).toList).toArray el)) ∧
    sz = k * i.size ∧ n + m ≤ k ∧ oA P ρ 0 sz (.cells false (olds ++ news)) (some (.cells (olds' ++ news' ++ (Builtin.zeroCells z.cells (k - (n + m))).toList).toArray el)) := by
   intro base sCap n olds olds' hlo hlen hs' ho hg hb h63;have hge := grownCap_ge w (n + m) sCap el;refine ⟨_, grownCap w (n + m) sCap el, by rw [hs']; exact w6 ht hu hi hz base n sCap olds' ho hrunD hg hb h63, rfl, hge, ?_⟩
   have htot : (olds' ++ news').length = (n + m) * i.size := by simp [hlen, hnl, Nat.add_mul]
   refine ⟨_, el, (0, 0), rfl, ?_, ?_, fun _ => rfl, ?_⟩
   ·have hzl : (Builtin.zeroCells z.cells (grownCap w (n + m) sCap el - (n + m))).size = (grownCap w (n + m) sCap el - (n + m)) * i.size := by rw [size_zeroCells, hzs]
    simp only [List.size_toArray, nC, Array.length_toList, hzl] at htot ⊢;rw [htot, ← Nat.add_mul]
    congr 1
    omega
   ·rw [Nat.zero_add, (hlo.append hln).1, htot]
    exact Nat.mul_le_mul_right _ hge
   ·have e : ((olds' ++ news' ++ (Builtin.zeroCells z.cells (grownCap w (n + m) sCap el - (n + m))).toList).toArray.toList.drop 0).take (olds ++ news).length = olds' ++ news' := by
     rw [(hlo.append hln).1];simp only [List.drop_zero];exact List.take_left
    rw [e];exact hlo.append hln
  have freshPush : ∀ (base : Option Addr) (sCap : Nat), s' = .slice base 0 sCap → sCap = 0 → (Builtin.firstCells i.size 0 (.slice base 0 sCap)).run P w.drew = .ok [].toArray w.drew → 0 < m → m * i.bytes ≤ room → m ≤ room →
   ∃ v' w' ρ', (Builtin.append_ #[t, u] ty #[s', .slice a' m k']).run P w = .ok v' w' ∧ VRel P ρ' (.slice (some ⟨H.size, 0, none⟩) m i.size) v' ∧ hU ρ H w ρ' (H.push (.cells false news)) w' ∧ Rel P w0 B ρ' (H.push (.cells false news)) w' := by
   intro base sCap hs' hcap ho hm hb h63;obtain ⟨sz, k, hr, hsz, hk, hor⟩ := fresh base sCap 0 [] [] LRel.nil (by simp) hs' ho (by omega) (by simpa using hb) (by omega);simp only [Nat.zero_add, List.nil_append] at hr hk hor;have hp := hR.drew.push (o := .cells false news) rfl hor;exact ⟨_, _, _, hr, .slice (d := 0) (o := 0) (bh.upd_same ..) (by rw [hsz]; simp) hk he, hp.2.of_drew, hp.1⟩
  by_cases hsl : ∃ a n k, s = .slice a n k
  case neg =>
   exfalso
   cases s <;> first | exact hsl ⟨_, _, _, rfl⟩ | (simp at h)
  obtain ⟨a, n, e', rfl⟩ := hsl
  cases a with
  | none =>
   simp only at h
   split at h
   ·rename_i hnk
    obtain ⟨rfl, rfl⟩ := hnk;have hs' := hs.nilslice_inv
    split at h
    ·rename_i hm0
     cases h;subst hm0;rw [hs'];exact ⟨_, w, ρ, yU ht hu hi hrun, .lit rfl, hU.refl _ _ _, hR⟩
    ·rename_i hm0
     split at h
     ·rename_i hc
      cases h;exact freshPush none 0 hs' rfl (by simp [Builtin.firstCells]) (by omega) hc.1 hc.2
     ·cases h
   ·cases h
  | some ad =>
   obtain ⟨b, o, sp⟩ := ad
   cases sp with
   | some sp => simp at h
   | none =>
   simp only at h
   split at h
   ·rename_i hm0
    cases h;subst hm0;have hn0 : news' = [] := List.eq_nil_of_length_eq_zero (by simpa using hnl);subst hn0
    cases hs with
    | lit h => simp [cB] at h
    | slice hb hk hn he' =>
     exact ⟨_, w, ρ, gj ht hu hi _ _ _ hrun (by omega) (by simp [storeCells]), .slice hb hk (by omega) he', hU.refl _ _ _, hR⟩
    | slice0 hb =>
     exact ⟨_, w, ρ, gj ht hu hi _ _ _ hrun (by omega) (by simp [storeCells]), .slice0 hb, hU.refl _ _ _, hR⟩
    | empty =>
     exact ⟨_, w, ρ, gj ht hu hi _ _ _ hrun (by omega) (by simp [storeCells]), .empty, hU.refl _ _ _, hR⟩
   ·rename_i hm0
    split at h
    ·rename_i he0
     subst he0
     split at h
     ·rename_i hc
      obtain ⟨rfl, hb, h63⟩ := hc;cases h
      cases hs with
      | lit h => simp [cB] at h
      | slice hb hk hn he' => omega
      | slice0 hb' => exact freshPush _ 0 rfl rfl (by simp [Builtin.firstCells, loadCells, loadCellsFrom]) (by omega) hb h63
      | empty => exact freshPush _ 0 rfl rfl (by simp [Builtin.firstCells, loadCells, loadCellsFrom]) (by omega) hb h63
     ·cases h
    ·rename_i he0
     split at h
     ·rename_i cs hg
      split at h
      ·rename_i hc
       obtain ⟨rfl, hfit, hb, h63⟩ := hc;cases h;have hlt := AH.lt_of_get hg
       -- the row in a new block
       have grow : ∀ (base : Option Addr) (sCap c d sz : Nat), ρ b = some (c, d, sz) → s' = .slice base n sCap → sCap < n + m → (∃ olds', LRel P ρ ((cs.drop o).take (n * i.size)) olds' ∧ (Builtin.firstCells i.size n (.slice base n sCap)).run P w.drew = .ok olds'.toArray w.drew) →
        ∃ v' w' ρ', (Builtin.append_ #[t, u] ty #[s', .slice a' m k']).run P w = .ok v' w' ∧ VRel P ρ' (.slice (some ⟨H.size, 0, none⟩) (n + m) i.size) v' ∧
         hU ρ H w ρ' ((H.set b .dead).push (.cells false ((cs.drop o).take (n * i.size) ++ news))) w' ∧ Rel P w0 B ρ' ((H.set b .dead).push (.cells false ((cs.drop o).take (n * i.size) ++ news))) w' := by
        intro base sCap c d sz hbc hs' hcap ⟨olds', hlo, ho⟩
        have hlen : olds'.length = n * i.size := by rw [← hlo.1]; simp; omega
        obtain ⟨sz', k, hr, hsz', hk, hor⟩ := fresh base sCap n _ olds' hlo hlen hs' ho hcap hb h63;have hlast : (w.drew.alloc (.cells (olds' ++ news' ++ (Builtin.zeroCells z.cells (k - (n + m))).toList).toArray el)).heap[w.heap.size]? = some (.cells (olds' ++ news' ++ (Builtin.zeroCells z.cells (k - (n + m))).toList).toArray el) := heap_alloc_new w.drew _;have iQ : ∀ q, q < w.heap.size → (w.drew.alloc (.cells (olds' ++ news' ++ (Builtin.zeroCells z.cells (k - (n + m))).toList).toArray el)).heap[q]? = w.heap[q]? := fun q hq => heap_alloc_old w.drew _ q hq;have hmv := hR.move hbc hg (o' := .cells false ((cs.drop o).take (n * i.size) ++ news)) rfl (w' := w.drew.alloc (.cells (olds' ++ news' ++ (Builtin.zeroCells z.cells (k - (n + m))).toList).toArray el)) (c' := w.heap.size) (d' := 0) (sz' := sz')
         rfl rfl rfl (by simp) (.inr ⟨rfl, by simp⟩) (fun q hq _ => iQ q hq) (by rw [hlast]; exact hor) (fun _ => iQ c (hR.blk b c d sz hbc))
        exact ⟨_, _, _, hr, .slice (d := 0) (o := 0) (bh.upd_same ..) (by rw [hsz']; simp) hk he, hmv.2, hmv.1⟩
       rcases hs.slice_inv he0 with ⟨c, d, sz, a, hb', rfl, rfl⟩ | ⟨c, d, sz, k, hb', hk, hn, rfl⟩
       ·refine grow (some a) 0 c d sz hb' rfl (by omega) ⟨[], by simpa using LRel.nil, by simp [Builtin.firstCells, loadCells, loadCellsFrom]⟩
       ·have he' : 0 < i.size := by omega
        obtain ⟨cc, elc, fz, hw, hsz, hd, hfz, hl⟩ := hR.cells hb' hg;have hfz := hfz rfl;subst hfz
        by_cases hroom : n + m ≤ k
        ·-- in its own block
         have hmul : n * i.size + m * i.size ≤ k * i.size := by rw [← Nat.add_mul]; exact Nat.mul_le_mul_right _ hroom
         have hst := run_storeCells_at P c (d + o + n * i.size) elc news' 0 cc w hw (by rw [hnl]; omega) hones;simp only [Nat.add_zero] at hst;have hadd : (⟨c, d + o, none⟩ : Addr).add (n * i.size) = ⟨c, d + o + n * i.size, none⟩ := Addr.add_lit _ _ _;have hr := gj (ty := ty) ht hu hi ⟨c, d + o, none⟩ n k hrun hroom (by rw [hadd]; exact hst)
         have hor : oA P ρ (d + o) sz (.cells false ((cs.drop o).take (n * i.size) ++ news)) (w.setRow c (cc.toList.take (d + o + n * i.size) ++ news' ++ cc.toList.drop (d + o + n * i.size + news'.length)).toArray).heap[c]? := by
          rw [setRow_heap w c cc _ elc (0, 0) hw]
          have hlo : ((cs.drop o).take (n * i.size)).length = n * i.size := by simp; omega
          refine ⟨_, elc, (0, 0), rfl, (by simp; omega), (by rw [nC, hlo, hln.1, hnl]; omega), fun _ => rfl, ?_⟩
          have hlen2 : ((cs.drop o).take (n * i.size) ++ news).length = n * i.size + m * i.size := by rw [nC, hlo, hln.1, hnl]
          rw [hlen2]
          have e : ((cc.toList.take (d + o + n * i.size) ++ news' ++ cc.toList.drop (d + o + n * i.size + news'.length)).toArray.toList.drop (d + o)).take (n * i.size + m * i.size) = ((cc.toList.drop (d + o)).take (n * i.size)) ++ news' := by
           have hccl : d + o + n * i.size ≤ cc.toList.length := by simp; omega
           have e1 : (cc.toList.take (d + o + n * i.size) ++ news' ++ cc.toList.drop (d + o + n * i.size + news'.length)).toArray.toList = cc.toList.take (d + o + n * i.size) ++ (news' ++ cc.toList.drop (d + o + n * i.size + news'.length)) := by simp
           have l1 : (cc.toList.take (d + o + n * i.size)).length = d + o + n * i.size := by rw [List.length_take]; omega
           rw [e1, List.drop_append_of_le_length (by omega), List.drop_take]
           have l2 : ((cc.toList.drop (d + o)).take (d + o + n * i.size - (d + o))).length = n * i.size := by rw [List.length_take, List.length_drop]; omega
           have l3 : d + o + n * i.size - (d + o) = n * i.size := by omega
           rw [l3] at l2 ⊢;rw [← List.append_assoc, List.take_append_of_le_length (by rw [nC, l2, hnl]; omega), List.take_of_length_le (by rw [nC, l2, hnl]; omega)]
          rw [e];refine LRel.append ?_ hln;have := (hl.drop o).take (n * i.size)
          have e2 : (((cc.toList.drop d).take cs.length).drop o).take (n * i.size) = (cc.toList.drop (d + o)).take (n * i.size) := by
           rw [List.drop_take, List.drop_drop, List.take_take]
           congr 1
           omega
          rwa [e2] at this
         have hmv := hR.move hb' hg (o' := .cells false ((cs.drop o).take (n * i.size) ++ news)) rfl (w' := w.setRow c (cc.toList.take (d + o + n * i.size) ++ news' ++ cc.toList.drop (d + o + n * i.size + news'.length)).toArray) (c' := c) (d' := d + o) (sz' := sz)
          rfl rfl rfl (by rw [size_setRow]; exact bf _) (.inl ⟨rfl, size_setRow ..⟩) (fun q _ hq => setRow_other w c q _ hq) hor (fun hne => absurd rfl hne)
         have hv2 := VRel.slice (P := P) (o := 0) (n := n + m) (e := i.size) (k := k) (bh.upd_same ρ H.size (c, d + o, sz)) (by omega) hroom he;exact ⟨_, _, _, hr, hv2, hmv.2, hmv.1⟩
        ·refine grow (some ⟨c, d + o, none⟩) k c d sz hb' rfl (by omega) ?_
         by_cases hn0 : n = 0
         ·subst hn0
          exact ⟨[], by simpa using LRel.nil, by simp [Builtin.firstCells, loadCells, loadCellsFrom]⟩
         ·have hc : dh H b = some cs := by simp [dh, hg]
          have hrow2 : j4 i.size (.slice (some ⟨b, o, none⟩) n i.size) H = some (n, (cs.drop o).take (n * i.size)) := by simp [j4, hn0, hc, hfit]
          obtain ⟨a2, k2, olds', e2, hlo, _, _, hrd⟩ := Nw hR hrow2 (.slice hb' hk hn he');cases e2;exact ⟨olds', hlo, hrd⟩
      ·cases h
     ·cases h
 ·cases h
end
section
variable {P : Program} {w0 : World} {B : Nat} {ρ : bh} {H : AH} {w : World}
theorem Ub {α : Type} (l : List α) (n i : Nat) (h : i < n * l.length) : (List.replicate n l).flatten[i]? = l[i % l.length]? := by
 induction n generalizing i with
 | zero => simp at h
 | succ n ih =>
  rw [List.replicate_succ, List.flatten_cons, List.getElem?_append]
  by_cases hi : i < l.length
  ·rw [if_pos hi, Nat.mod_eq_of_lt hi]
  ·rw [if_neg hi, ih (i - l.length) (by rw [Nat.add_mul] at h; omega)]
   congr 1
   exact (Nat.mod_eq_sub_mod (by omega)).symm
theorem nQ (z : Array Value) (n : Nat) (hz : 0 < z.size) : ((Array.range (n * z.size)).map fun x => z[x % z.size]!).toList = (List.replicate n z.toList).flatten := by
 apply List.ext_getElem?;intro i
 by_cases hi : i < n * z.size
 ·rw [Ub z.toList n i (by simpa using hi)]
  have hm : i % z.size < z.size := Nat.mod_lt _ hz;simp [hi, getElem!_pos, hm]
 ·have hl : ((List.replicate n z.toList).flatten).length = n * z.size := by simp
  rw [List.getElem?_eq_none (by simp; omega), List.getElem?_eq_none (by rw [hl]; omega)]
theorem Ef (off : Nat) : ∀ (vs : List Value) (k : Nat) (cells : List Value), off + k + vs.length ≤ cells.length →
 ((vs.zipIdx k).foldl (fun (cs : Array Value) (p : Value × Nat) => cs.setIfInBounds (off + p.2) p.1) cells.toArray).toList = splice cells (off + k) vs := by
 intro vs
 induction vs with
 | nil => intro k cells _; simp [splice]
 | cons v vs ih =>
  intro k cells h;simp only [List.length_cons] at h;rw [List.zipIdx_cons, List.foldl_cons]
  have e : (cells.toArray.setIfInBounds (off + k) v) = (cells.set (off + k) v).toArray := by simp
  rw [e, ih (k + 1) _ (by simp; omega)];unfold splice;have e2 := list_seg_step cells (off + k) v vs (by omega);simp only [List.length_cons];rw [show off + (k + 1) = off + k + 1 from by omega];exact e2
theorem T9 (cells vs : List Value) (off : Nat) (h : off + vs.length ≤ cells.length) :
 (vs.toArray.zipIdx.foldl (fun (cs : Array Value) (p : Value × Nat) => cs.setIfInBounds (off + p.2) p.1) cells.toArray) = (splice cells off vs).toArray := by
 have e := Ef off vs 0 cells (by omega);apply Array.ext';simp only [Nat.add_zero] at e;rw [← e, ← Array.foldl_toList, Array.toList_zipIdx]
theorem tE (pl : Nat → Option (Nat × Nat)) : ∀ {parts : List (Nat × Value)} {parts' : List (Nat × Value)} {cells cells' out : List Value}, cA pl cells parts = some out → LRel P ρ cells cells' →
 (parts.length = parts'.length ∧ ∀ (i : Nat) p p', parts[i]? = some p → parts'[i]? = some p' → p.1 = p'.1 ∧ VRel P ρ p.2 p'.2) → ∃ out', Instr.fill pl cells'.toArray parts' = some out'.toArray ∧ LRel P ρ out out' := by
 intro parts
 induction parts with
 | nil =>
  intro parts' cells cells' out h hl hp
  cases parts' with
  | cons => simp at hp
  | nil => simp only [cA] at h; cases h; exact ⟨cells', by simp [Instr.fill], hl⟩
 | cons p parts ih =>
  intro parts' cells cells' out h hl hp
  cases parts' with
  | nil => simp at hp
  | cons p' parts' =>
   obtain ⟨i, v⟩ := p;obtain ⟨i', v'⟩ := p';obtain ⟨hi, hv⟩ := hp.2 0 (i, v) (i', v') (by simp) (by simp);simp only at hi hv;subst hi;simp only [cA] at h;have h2 := aC.1 h
   clear h
   obtain ⟨⟨off, size⟩, hpl, h⟩ := h2;simp only at h
   split at h
   ·rename_i hc
    have hvc := hv.cells
    have hsz : v'.cells.size = size := by have := hvc.1; simp at this; omega
    have hcl : cells'.length = cells.length := hl.1.symm;obtain ⟨out', ho, hr⟩ := ih h (hl.splice hvc off) ⟨by simpa using hp.1, fun j q q' hq hq' => hp.2 (j + 1) q q' (by simpa using hq) (by simpa using hq')⟩;refine ⟨out', ?_, hr⟩;simp only [Instr.fill, hpl]
    have hcond : (v'.cells.size ≠ size || off + v'.cells.size > cells'.toArray.size) = false := by
     simp [hsz]; omega
    have hf := T9 cells' v'.cells.toList off (by simp [hsz]; omega);simp only [Array.toArray_toList] at hf;rw [hf, if_neg (by simpa using hcond)];exact ho
   ·cases h
theorem qp {ev ev' : Operand → Value} (ps : Array (Nat × Operand)) (hx : ∀ x ∈ ps.toList.map (·.2), VRel P ρ (ev x) (ev' x)) :
 (ps.toList.map fun p => (p.1, ev p.2)).length = ((ps.map fun (i, x) => (i, ev' x)).toList).length ∧
 ∀ (i : Nat) p p', (ps.toList.map fun p => (p.1, ev p.2))[i]? = some p → ((ps.map fun (i, x) => (i, ev' x)).toList)[i]? = some p' → p.1 = p'.1 ∧ VRel P ρ p.2 p'.2 := by
 refine ⟨by simp, fun i p p' hp hp' => ?_⟩;simp only [vt, aM, Array.toList_map] at hp hp';obtain ⟨q, hq, rfl⟩ := hp;obtain ⟨q', hq', rfl⟩ := hp';rw [hq] at hq';cases hq';exact ⟨rfl, hx _ (List.mem_map.2 ⟨q, List.mem_of_getElem? hq, rfl⟩)⟩
theorem JV {fs : List Field} {ps : List (Nat × Nat)} (h : iB P fs = some ps) (w : World) : (fs.mapM (m := Sem) fun f => do pure (f.offset, ← sizeOf f.type)).run P w = .ok ps w := by
 induction fs generalizing ps with
 | nil => simp [iB] at h; subst h; simp
 | cons f fs ih =>
  unfold iB at h ih;rw [List.mapM_cons] at h;simp only [Option.bind_eq_bind, aC, Option.pure_def, Option.some.injEq] at h;obtain ⟨p, hp, qs, hq, rfl⟩ := h;obtain ⟨n, hn, rfl⟩ := aM.1 hp;have hi := ih hq;rw [List.mapM_cons];simp only [Sem.run_bind, cj hn, Result.andThen_ok, Sem.run_pure, hi]
theorem GJ {fs : Array Field} {ps : List (Nat × Nat)} (h : iB P fs.toList = some ps) (w : World) : (fs.mapM (m := Sem) fun f => do pure (f.offset, ← sizeOf f.type)).run P w = .ok ps.toArray w := by
 rw [Array.mapM_eq_mapM_toList];simp only [Sem.run_map, JV h, Result.andThen_ok]
theorem BR {t : TypeId} {parts : Array (Nat × Operand)} {ev ev' : Operand → Value} (hx : ∀ x ∈ parts.toList.map (·.2), VRel P ρ (ev x) (ev' x)) {z : Value} (hz : bp P t = some z) {fs : Array Field} (hu : P.underlying t = some (.struct fs))
 {ps : List (Nat × Nat)} (hps : iB P fs.toList = some ps) {cs : List Value} (h : cA (ps[·]?) z.cells.toList (parts.toList.map fun p => (p.1, ev p.2)) = some cs) :
 ∃ v', (Instr.build t (parts.map fun (i, x) => (i, ev' x))).run P w = .ok v' w ∧ VRel P ρ (.agg cs.toArray) v' := by
 obtain ⟨i, hi, hzi, hlit, _⟩ := cn hz;obtain ⟨out', ho, hr⟩ := tE _ h (LRel.of_all hlit) (qp parts hx);refine ⟨.agg out'.toArray, ?_, hr.toAgg⟩;have hpr := GJ hps w
 have e : (fun i : Nat => ps.toArray[i]?) = (fun i : Nat => ps[i]?) := by funext i; simp
 simp only [Instr.build, Sem.run_bind, gY hz, Result.andThen_ok, run_underlying hu, hpr];rw [e];simp only [Array.toArray_toList] at ho;rw [ho]
 rfl
theorem sZ {t el : TypeId} {n : Nat} {parts : Array (Nat × Operand)} {ev ev' : Operand → Value} (hx : ∀ x ∈ parts.toList.map (·.2), VRel P ρ (ev x) (ev' x)) {z : Value} (hz : bp P t = some z) (hu : P.underlying t = some (.array n el))
 {e : Nat} (he : bY P el = some e) {cs : List Value} (h : cA (fun i => some (i * e, e)) z.cells.toList (parts.toList.map fun p => (p.1, ev p.2)) = some cs) :
 ∃ v', (Instr.build t (parts.map fun (i, x) => (i, ev' x))).run P w = .ok v' w ∧ VRel P ρ (.agg cs.toArray) v' := by
 obtain ⟨i, hi, hzi, hlit, _⟩ := cn hz;obtain ⟨out', ho, hr⟩ := tE _ h (LRel.of_all hlit) (qp parts hx);refine ⟨.agg out'.toArray, ?_, hr.toAgg⟩;simp only [Instr.build, Sem.run_bind, gY hz, Result.andThen_ok, run_underlying hu, cj he];simp only [Array.toArray_toList] at ho;rw [ho]
 rfl
theorem tR {z : List Value} (h : z.all cB = true) (n : Nat) : LRel P ρ (List.replicate n z).flatten (List.replicate n z).flatten := by
 apply LRel.of_all;rw [List.all_eq_true] at h ⊢;intro x hx;rw [List.mem_flatten] at hx;obtain ⟨l, hl, hxl⟩ := hx;rw [(List.mem_replicate.1 hl).2] at hxl;exact h x hxl
theorem y5 (hR : Rel P w0 B ρ H w) {t el : TypeId} {len : Nat} {parts : Array (Nat × Operand)} {ev ev' : Operand → Value} (hx : ∀ x ∈ parts.toList.map (·.2), VRel P ρ (ev x) (ev' x)) {z : Value} (hz : bp P el = some z)
 (hu : P.underlying t = some (.slice el)) {e : Nat} (he : bY P el = some e) (h0 : 0 < e) (hze : z.cells.size = e) (hbig : len * e ≤ 2 ^ 24) {cs : List Value}
 (h : cA (fun i => some (i * e, e)) (List.replicate len z.cells.toList).flatten (parts.toList.map fun p => (p.1, ev p.2)) = some cs) :
 ∃ v' w' ρ', (Instr.buildSlice t len (parts.map fun (i, x) => (i, ev' x))).run P w = .ok v' w' ∧ VRel P ρ' (.slice (some ⟨H.size, 0, none⟩) len e) v' ∧ hU ρ H w ρ' (H.push (.cells false cs)) w' ∧ Rel P w0 B ρ' (H.push (.cells false cs)) w' := by
 obtain ⟨i, hi, hzi, hlit, _⟩ := cn hz;obtain ⟨out', ho, hr⟩ := tE _ h (tR hlit len) (qp parts hx);have hzf := nQ z.cells len (by omega);rw [hze] at hzf
 have hza : ((Array.range (len * e)).map fun x => z.cells[x % e]!) = ((List.replicate len z.cells.toList).flatten).toArray := by rw [← hzf]
 have hpush := qr (el := el) hR hr
 have hlo : out'.length = len * e := by
  have hfl : ∀ {parts : List (Nat × Value)} {cells out : List Value}, cA (fun i => some (i * e, e)) cells parts = some out → out.length = cells.length := by
   intro parts
   induction parts with
   | nil => intro cells out h; simp [cA] at h; rw [h]
   | cons p parts ih =>
    intro cells out h;obtain ⟨i, v⟩ := p;simp only [cA, be] at h
    split at h
    ·rename_i hc
     rw [ih h, jn];simp; omega
    ·cases h
  rw [← hr.1, hfl h];simp [hze]
 refine ⟨_, _, _, ?_, .slice (d := 0) (o := 0) (sz := out'.length) (bh.upd_same ..) (by rw [hlo]; omega) (bf len) h0, hpush.2, hpush.1⟩
 have hnb : ¬ (len * e > 2 ^ 24) := by omega
 by_cases hl0 : len = 0
 ·subst hl0
  rw [Nat.zero_mul] at hnb;have hr0 : (Array.range 0) = (#[] : Array Nat) := rfl;have ho0 : (List.replicate 0 z.cells.toList).flatten.toArray = (#[] : Array Value) := rfl;rw [ho0] at ho;simp only [Instr.buildSlice, Sem.run_bind, run_underlying hu, Result.andThen_ok, cj he, Sem.run_ite, Nat.zero_mul, hnb, if_false, Sem.run_pure, if_true, hr0, Array.map_empty, ho, newRow, run_newObj, Nat.zero_add]
  rfl
 have hne : ¬ (len * e = 0) := by
  intro h
  rcases Nat.mul_eq_zero.1 h with h | h <;> omega
 simp only [Instr.buildSlice, Sem.run_bind, run_underlying hu, Result.andThen_ok, cj he, Sem.run_ite, hnb, if_false, Sem.run_pure, hne, gY hz, hze, hza, ho, newRow, run_newObj, Nat.zero_add]
 rfl
theorem Ut (hR : Rel P w0 B ρ H w) {t el : TypeId} {l c v : Value} {H' : AH} {z : Value} {e by' : Nat} (hz : bp P el = some z) (hu : P.underlying t = some (.slice el)) (he : bY P el = some e) (hb : eI P el = some by')
 (h : jV z.cells.toList e by' l c H = some (v, H')) {l' c' : Value} (hl : VRel P ρ l l') (hc : VRel P ρ c c') :
 ∃ v' w' ρ', (Instr.makeSlice t l' c').run P w = .ok v' w' ∧ VRel P ρ' v v' ∧ hU ρ H w ρ' H' w' ∧ Rel P w0 B ρ' H' w' := by
 cases l <;> simp only [jV] at h <;> try (cases h; done)
 cases c <;> simp only at h <;> try (cases h; done)
 rename_i k1 l k2 c
 split at h
 ·rename_i hcond
  obtain ⟨h0, rfl, hbig, hroom, hpos, hzl⟩ := hcond;cases h;rw [hl.int_inv, hc.int_inv];obtain ⟨i, hi, hzi, hlit, _⟩ := cn hz
  have hie : i.size = e := by
   obtain ⟨i2, hi2, h2⟩ := QV he;rw [hi] at hi2; cases hi2; exact h2
  have hib : i.bytes = by' := by
   unfold eI at hb; simpa [hi] using hb
  unfold room at hbig hroom
  have hln : l = (l.toNat : Int) := by omega
  have hbytes : (i.bytes : Int) * l ≤ 281474976710656 := by
   rw [hib, hln, ← Int.natCast_mul]
   have : by' * l.toNat ≤ 140737488355328 := by rw [Nat.mul_comm]; exact hbig
   omega
  have hrun := run_make (P := P) w t el i z hu hi hzi k1 k2 l l h0 (Int.le_refl _) hbytes (by omega)
  have hzs : z.cells.size = e := by simpa using hzl
  have hm : madeCells z.cells (l.toNat * i.size) = ((List.replicate l.toNat z.cells.toList).flatten).toArray := by
   have hzf := nQ z.cells l.toNat (by omega);rw [hzs] at hzf;unfold madeCells;rw [hie, ← hzf, hzs]
  rw [hm] at hrun;have hpush := qr (el := el) hR (tR (P := P) (ρ := ρ) hlit l.toNat);exact ⟨_, _, _, hrun, .slice (d := 0) (o := 0) (bh.upd_same ..) (by simp [hzs]) (bf _) hpos, hpush.2, hpush.1⟩
 ·cases h
end
section
variable {P : Program} {w0 : World} {B : Nat} {ρ : bh} {H : AH} {w : World}
def g6 (P : Program) (ρ : bh) (es es' : List MapEntry) : Prop := es'.length = es.length ∧ ∀ (i : Nat) (e e' : MapEntry), es[i]? = some e → es'[i]? = some e' → NP P ρ e e'
theorem g6.tail {e e' : MapEntry} {es es' : List MapEntry} (h : g6 P ρ (e :: es) (e' :: es')) : NP P ρ e e' ∧ g6 P ρ es es' :=
 ⟨h.2 0 e e' rfl rfl, by simpa using h.1, fun i a a' ha ha' => h.2 (i + 1) a a' (by simpa using ha) (by simpa using ha')⟩
def gb (P : Program) (ρ : bh) : Option (Nat × Value) → Option (Nat × Value) → Prop
 | none, none => True
 | some (i, v), some (i', v') => i = i' ∧ VRel P ρ v v'
 | _, _ => False
theorem BO {a b : ByteArray} (h : (a == b) = true) : a = b := by
 rw [beq_toListBytes] at h
 have h2 : a.toList = b.toList := by simpa using h
 rw [ByteArray.toList_eq, ByteArray.toList_eq] at h2;obtain ⟨⟨x⟩⟩ := a;obtain ⟨⟨y⟩⟩ := b;simp only at h2;rw [h2]
theorem zm : ∀ {l m : List Value}, bi l m = some true → l = m := by
 intro l
 induction l with
 | nil => intro m hm; cases m with
  | nil => rfl
  | cons => simp [bi] at hm
 | cons x l ih =>
  intro m hm
  cases m with
  | nil => cases x <;> simp [bi] at hm
  | cons y m =>
   cases x <;> cases y <;> simp only [bi] at hm <;> try (cases hm; done)
   split at hm
   ·rename_i hk
    obtain ⟨r', hr', hb⟩ := aM.1 hm;simp only [Bool.and_eq_true, beq_iff_eq] at hb;obtain ⟨hab, rfl⟩ := hb;rw [ih hr', hk, hab]
   ·cases hm
theorem qi {cl : KCls} {k k' : Value} (h : g9 cl k = true) (hk : VRel P ρ k k') : k' = k := by
 cases cl <;> cases k <;> simp only [g9] at h <;> try (cases h; done)
 ·exact hk.int_inv
 ·exact hk.string_inv
 ·rename_i n xs
  simp only [Bool.and_eq_true, beq_iff_eq] at h;obtain ⟨ys, rfl, hs, he⟩ := hk.agg_inv
  congr 1
  apply Array.ext';apply List.ext_getElem?;intro i
  by_cases hi : i < xs.size
  ·have hi' : i < ys.size := by omega
   have h1 : oZ xs[i] = true := List.all_eq_true.1 h.2 _ (by simp);have h2 := he i xs[i] ys[i] (by simp [hi]) (by simp [hi']);simp only [Array.getElem?_toList, Array.getElem?_eq_getElem hi, Array.getElem?_eq_getElem hi']
   generalize xs[i] = x at h1 h2
   cases x <;> simp [oZ] at h1
   rw [h2.int_inv]
  ·rw [List.getElem?_eq_none (by simp; omega), List.getElem?_eq_none (by simp; omega)]
theorem vk {cl : KCls} {a b b' : Value} {r : Bool} (h : jA cl a b = some r) (hb : VRel P ρ b b') : b' = b ∧ (r = true → a = b) := by
 cases cl <;> cases a <;> cases b <;> simp only [jA] at h <;> try (cases h; done)
 ·split at h
  ·rename_i hk
   subst hk;refine ⟨hb.int_inv, fun hr => ?_⟩;subst hr
   simpa using h
  ·cases h
 ·refine ⟨hb.string_inv, fun hr => ?_⟩
  subst hr;rw [BO (fg h)]
 ·rename_i xs ys
  split at h
  ·obtain ⟨ys', rfl, h3, h4⟩ := hb.agg_inv
   have hly : LRel P ρ ys.toList ys'.toList := ⟨by simpa using h3, fun i a b ha hb => h4 i a b (by simpa using ha) (by simpa using hb)⟩
   have hall : LRel P ρ xs.toList xs.toList := by
    refine LRel.of_all ?_
    have : ∀ {l m : List Value} {r : Bool}, bi l m = some r → l.all cB = true := by
     intro l
     induction l with
     | nil => intro m r _; rfl
     | cons x l ih =>
      intro m r hm
      cases m with
      | nil => cases x <;> simp [bi] at hm
      | cons y m =>
       cases x <;> cases y <;> simp only [bi] at hm <;> try (cases hm; done)
       split at hm
       ·obtain ⟨r', hr', _⟩ := aM.1 hm
        simp only [List.all_cons, ih hr', Bool.and_true]; rfl
       ·cases hm
    exact this h
   obtain ⟨_, e2⟩ := wC h hall hly;have e2 := Array.toList_inj.1 e2;subst e2;refine ⟨rfl, fun hr => ?_⟩;subst hr;rw [Array.toList_inj.1 (zm h)]
  ·cases h
theorem Ua {kk : IntKind} {k : Value} : ∀ {es es' : List MapEntry} {i : Nat} {r : Option (Nat × Value)}, aT .int k es i = some r → g6 P ρ es es' →
 ∃ r', Instr.findNow (.int kk) k es' i = some r' ∧ gb P ρ r r' := by
 intro es
 induction es with
 | nil =>
  intro es' i r h hes
  cases es' with
  | cons => have := hes.1; simp at this
  | nil => simp [aT] at h; subst h; exact ⟨none, rfl, trivial⟩
 | cons e es ih =>
  intro es' i r h hes
  cases es' with
  | nil => have := hes.1; simp at this
  | cons e' es' =>
   obtain ⟨he, hes⟩ := hes.tail;simp only [aT] at h;have h2 := aC.1 h
   clear h
   obtain ⟨b, hb, h⟩ := h2;have hk := (vk hb he.1).1
   cases hek : e.key <;> rw [hek] at hb <;> cases k <;> simp only [jA] at hb <;> try (cases hb; done)
   rename_i k' y k a
   rw [hek] at hk
   split at hb
   ·rename_i hkk
    subst hkk;cases hb;simp only [Instr.findNow, hk, Instr.sameNow, if_true];cases hay : (a == y)
    ·rw [hay] at h; simp only [Bool.false_eq_true, if_false] at h; exact ih h hes
    ·rw [hay] at h; simp only [if_true] at h; cases h; exact ⟨_, rfl, rfl, he.2.1⟩
   ·cases hb
theorem Gf {k : Value} : ∀ {es es' : List MapEntry} {i : Nat} {r : Option (Nat × Value)}, aT .string k es i = some r → g6 P ρ es es' →
 ∃ r', Instr.findNow .string k es' i = some r' ∧ gb P ρ r r' := by
 intro es
 induction es with
 | nil =>
  intro es' i r h hes
  cases es' with
  | cons => have := hes.1; simp at this
  | nil => simp [aT] at h; subst h; exact ⟨none, rfl, trivial⟩
 | cons e es ih =>
  intro es' i r h hes
  cases es' with
  | nil => have := hes.1; simp at this
  | cons e' es' =>
   obtain ⟨he, hes⟩ := hes.tail;simp only [aT] at h;have h2 := aC.1 h
   clear h
   obtain ⟨b, hb, h⟩ := h2;have hk := (vk hb he.1).1
   cases hek : e.key <;> rw [hek] at hb <;> cases k <;> simp only [jA] at hb <;> try (cases hb; done)
   rename_i y a
   rw [hek] at hk;cases hb;simp only [Instr.findNow, hk, Instr.sameNow];cases hay : (a == y)
   ·rw [hay] at h; simp only [Bool.false_eq_true, if_false] at h; exact ih h hes
   ·rw [hay] at h; simp only [if_true] at h; cases h; exact ⟨_, rfl, rfl, he.2.1⟩
theorem PE {kt : TypeId} {n : Nat} (hf : rM P kt = some n) {X : Array Value} : ∀ {es es' : List MapEntry} {i : Nat} {r : Option (Nat × Value)}, aT (.flat n) (.agg X) es i = some r →
 g6 P ρ es es' → ∃ r', (Instr.findAsking kt (.agg X) es' i).run P w = .ok r' w ∧ gb P ρ r r' := by
 intro es
 induction es with
 | nil =>
  intro es' i r h hes
  cases es' with
  | cons => have := hes.1; simp at this
  | nil => simp [aT] at h; subst h; exact ⟨none, rfl, trivial⟩
 | cons e es ih =>
  intro es' i r h hes
  cases es' with
  | nil => have := hes.1; simp at this
  | cons e' es' =>
   obtain ⟨he, hes⟩ := hes.tail;simp only [aT] at h;have h2 := aC.1 h
   clear h
   obtain ⟨b, hb, h⟩ := h2;have hk := (vk hb he.1).1
   cases hek : e.key <;> rw [hek] at hb <;> simp only [jA] at hb <;> try (cases hb; done)
   rename_i Y
   rw [hek] at hk
   split at hb
   ·rename_i hsz
    have hq : (Op.equal kt (.agg X) (.agg Y)).run P w = .ok b w := (Cb hf hsz.1 hsz.2 hb w).1;simp only [Instr.findAsking, hk, Sem.run_bind, hq, Result.andThen_ok]
    cases b with
    | true => simp only [if_true] at h; cases h; exact ⟨some (i, e'.val), by simp, rfl, he.2.1⟩
    | false => simp only [Bool.false_eq_true, if_false] at h; simpa using ih h hes
   ·cases hb
theorem zS {fs : Array Field} {X : Array Value} {es : List MapEntry} : Instr.findNow (.struct fs) (.agg X) es 0 = none ∨ (es = [] ∧ Instr.findNow (.struct fs) (.agg X) es 0 = some none) := by
 cases es with
 | nil => exact .inr ⟨rfl, rfl⟩
 | cons e es => left; simp [Instr.findNow, Instr.sameNow]
theorem zT {kt : TypeId} {cl : KCls} (hcl : cf P kt = some cl) {k : Value} (hok : g9 cl k = true) {es es' : List MapEntry} {r : Option (Nat × Value)} (h : aT cl k es 0 = some r) (hes : g6 P ρ es es') :
 ∃ r', (Instr.findKey kt k es').run P w = .ok r' w ∧ gb P ρ r r' := by
 unfold cf at hcl
 cases hu : P.underlying kt with
 | none => simp [hu] at hcl
 | some d =>
  cases d <;> simp only [hu] at hcl <;> try (cases hcl; done)
  case int kk =>
   cases hcl;obtain ⟨r', h1, h2⟩ := Ua (kk := kk) h hes;exact ⟨r', by simp [Instr.findKey, run_underlying hu, h1], h2⟩
  case string =>
   cases hcl;obtain ⟨r', h1, h2⟩ := Gf h hes;exact ⟨r', by simp [Instr.findKey, run_underlying hu, h1], h2⟩
  case struct fs =>
   obtain ⟨n, hf, rfl⟩ := aM.1 hcl
   cases k <;> simp only [g9] at hok <;> try (cases hok; done)
   rename_i X
   obtain ⟨r', h1, h2⟩ := PE (w := w) hf h hes;refine ⟨r', ?_, h2⟩
   rcases zS (fs := fs) (X := X) (es := es') with h3 | ⟨rfl, h3⟩
   ·simp [Instr.findKey, run_underlying hu, h3, h1]
   ·simp only [Instr.findKey, Sem.run_bind, run_underlying hu, Result.andThen_ok, h3]
    simpa [Instr.findAsking] using h1
theorem RR (b : Bool) (d : Nat) {t : TypeId} {k : IntKind} (hu : P.underlying t = some (.int k)) (v : Value) (w : World) : (Instr.checkKey b (d + 1) t v).run P w = .ok () w := by
 cases v <;> simp [Instr.checkKey, run_underlying hu]
theorem N9 (b : Bool) (d : Nat) {t : TypeId} (hu : P.underlying t = some .string) (v : Value) (w : World) : (Instr.checkKey b (d + 1) t v).run P w = .ok () w := by
 cases v <;> simp [Instr.checkKey, run_underlying hu]
def oE (b : Bool) (D : Nat) (X : Array Value) (l : List Field) : Sem Unit := do
 for f in l do
  if f.name ≠ "_" then Instr.checkKey b D f.type (← part f.type X f.offset)
theorem Lj (b : Bool) (D : Nat) {t : TypeId} {gs : Array Field} (hu : P.underlying t = some (.struct gs)) (X : Array Value) (w : World) : (Instr.checkKey b (D + 1) t (.agg X)).run P w = (oE b D X gs.toList).run P w := by
 rw [Instr.checkKey];simp only [Sem.run_bind, run_underlying hu, Result.andThen_ok];rw [← Array.forIn_toList];unfold oE;simp only [Sem.run_bind]
theorem wE (b : Bool) {sub : List Field → Option Nat} {D : Nat} {w : World} (hsub : ∀ (gs : List Field) (k : Nat) (X : Array Value), sub gs = some k → X.size = k → (oE b D X gs).run P w = .ok () w) (X : Array Value) :
 ∀ {l : List Field} {i m : Nat}, eK P sub i l = some m → X.size = m → (oE b (D + 1) X l).run P w = .ok () w := by
 intro l
 induction l with
 | nil => intro i m _ _; simp [oE]
 | cons f l ih =>
  intro i m hm hXm;simp only [eK] at hm
  split at hm
  ·rename_i hc
   split at hm
   ·rename_i k hk
    have hge := lD hm
    have hi : X[i]? = some X[i] := by simp
    have hag : (isAgg f.type).run P w = .ok false w := by simp [isAgg, run_underlying hk]
    have hpart : (part f.type X f.offset).run P w = .ok X[i] w := by simp [part, hag, hc.2, hi]
    have ih' := ih hm hXm;unfold oE at ih' ⊢;simp only [Sem.run_bind] at ih';simp only [List.forIn_cons, hc.1, ne_eq, not_false_eq_true, if_true, Sem.run_bind, hpart, Result.andThen_ok, RR b D hk, Sem.run_pure];exact ih'
   ·rename_i gs hk
    split at hm
    ·rename_i k hs
     split at hm
     ·rename_i hcc
      have hge := lD hm
      have hag : (isAgg f.type).run P w = .ok true w := by simp [isAgg, run_underlying hk]
      have hsz := cj hcc.1 w
      have hpart : (part f.type X f.offset).run P w = .ok (.agg (X.extract i (i + k))) w := by simp [part, hag, hc.2, hsz]
      have hsub' := hsub gs.toList k (X.extract i (i + k)) hs (by rw [Array.size_extract]; omega);rw [← Lj b D hk] at hsub';have ih' := ih hm hXm;unfold oE at ih' ⊢;simp only [Sem.run_bind] at ih';simp only [List.forIn_cons, hc.1, ne_eq, not_false_eq_true, if_true, Sem.run_bind, hpart, Result.andThen_ok, hsub', Sem.run_pure];exact ih'
     ·cases hm
    ·cases hm
   ·cases hm
  ·cases hm
theorem WM (b : Bool) (w : World) : ∀ (e d : Nat) (X : Array Value) {l : List Field} {i m : Nat}, nz P e i l = some m → X.size = m → (oE b (d + e + 1) X l).run P w = .ok () w := by
 intro e
 induction e with
 | zero => intro d X l i m h hX; exact wE b (D := d) (fun gs k X h => by cases h) X h hX
 | succ e ih => intro d X l i m h hX; exact wE b (D := d + e + 1) (fun gs k X h hX => ih d X h hX) X h hX
theorem p6 {kt : TypeId} {cl : KCls} (hcl : cf P kt = some cl) {k : Value} (hok : g9 cl k = true) (b : Bool) (w : World) : (Instr.checkKey b 10000 kt k).run P w = .ok () w := by
 unfold cf at hcl
 cases hu : P.underlying kt with
 | none => simp [hu] at hcl
 | some d =>
  cases d <;> simp only [hu] at hcl <;> try (cases hcl; done)
  case int kk => exact RR b 9999 hu k w
  case string => exact N9 b 9999 hu k w
  case struct fs =>
   obtain ⟨n, hf, rfl⟩ := aM.1 hcl
   cases k <;> simp only [g9] at hok <;> try (cases hok; done)
   rename_i X
   simp only [Bool.and_eq_true, beq_iff_eq] at hok;unfold rM at hf;simp only [hu] at hf
   split at hf
   ·rw [show (10000 : Nat) = 9999 + 1 from rfl, Lj b 9999 hu]
    exact WM b w 2 9996 X hf hok.1
   ·cases hf
end
section
variable {P : Program} {w0 : World} {B : Nat} {ρ : bh} {H : AH} {w : World}
theorem d5 {r : Nat} {es : Array MapEntry} {c : Nat} (h : w.heap[r]? = some (.map es c)) : (getObj r).run P w = .ok (.map es c) w := by
 simp [getObj, Sem.run, h]
theorem iE {r : Nat} {es es2 : Array MapEntry} {c c2 : Nat} (h : w.heap[r]? = some (.map es c)) : (setObj r (.map es2 c2)).run P w = .ok () { w with heap := w.heap.setIfInBounds r (.map es2 c2) } := by
 simp [setObj, Sem.run, h]
theorem Rel.map (hR : Rel P w0 B ρ H w) {b c d sz : Nat} {es : List MapEntry} {cl : Nat} (hb : ρ b = some (c, d, sz)) (ho : H.get b = some (.map es cl)) :
 ∃ es' : Array MapEntry, w.heap[c]? = some (.map es' cl) ∧ g6 P ρ es es'.toList := by
 obtain ⟨es', h1, h2, h3⟩ := hR.obj b c d sz _ hb ho;exact ⟨es', h1, by simpa using h2, fun i e e' he he' => h3 i e e' he (by simpa using he')⟩
theorem l5 {t k e : TypeId} (h : bS P t = some (k, e)) : P.underlying t = some (.map k e) := by
 unfold bS at h
 cases hu : P.underlying t with
 | none => simp [hu] at h
 | some d => cases d <;> simp [hu] at h; obtain ⟨rfl, rfl⟩ := h; rfl
theorem PW (hR : Rel P w0 B ρ H w) {m m' : Value} {es : List MapEntry} {c : Nat} (h : i6 m H = some (es, c)) (hm : VRel P ρ m m') :
 (m' = .map none ∧ es = []) ∨ ∃ r es', m' = .map (some r) ∧ w.heap[r]? = some (.map es' c) ∧ g6 P ρ es es'.toList := by
 cases m <;> simp only [i6] at h <;> try (cases h; done)
 rename_i r
 cases r with
 | none => simp only at h; cases h; exact .inl ⟨hm.nilmap_inv, rfl⟩
 | some b =>
  simp only at h
  split at h
  ·rename_i es1 c1 hg
   cases h;obtain ⟨c', d, sz, hb, rfl⟩ := hm.map_inv;obtain ⟨es', h1, h2⟩ := hR.map hb hg;exact .inr ⟨c', es', rfl, h1, h2⟩
  ·cases h
theorem CW {t : TypeId} {z : Value} (h : bp P t = some z) : VRel P ρ z z := by
 obtain ⟨_, _, _, _, hc⟩ := cn h;exact VRel.const hc
theorem GI {v v' : Value} (h : VRel P ρ v v') (b : Bool) : VRel P ρ (.tuple #[v, .bool b]) (.tuple #[v', .bool b]) :=
 LRel.toTuple (xs := [v, .bool b]) (ys := [v', .bool b]) (LRel.cons h (LRel.cons (.lit rfl) LRel.nil))
theorem z5 (hR : Rel P w0 B ρ H w) {t kt et : TypeId} (ht : bS P t = some (kt, et)) {cl : KCls} (hcl : cf P kt = some cl) {z : Value} (hz : bp P et = some z) {m m' k k' v : Value} {ok : Bool}
 (h : b7 cl z m k ok H = some v) (hm : VRel P ρ m m') (hk : VRel P ρ k k') : ∃ v', (Instr.lookup t m' k' ok).run P w = .ok v' w ∧ VRel P ρ v v' := by
 unfold b7 at h
 split at h
 ·rename_i hok
  have h2 := aC.1 h
  clear h
  obtain ⟨⟨es, c⟩, hes, h⟩ := h2;obtain ⟨r, hr, h⟩ := aM.1 h;simp only at hr;rw [qi hok hk];have hu := l5 ht
  have fin : ∀ (es' : List MapEntry) (emp : Bool), g6 P ρ es es' → ∃ v', (do
   Instr.checkKey emp 10000 kt k
   let (v, ok2) ← match ← Instr.findKey kt k es' with
    | some (_, v) => pure (v, true)
    | none => pure (← zeroValue et, false)
   pure (if ok then .tuple #[v, .bool ok2] else v) : Sem Value).run P w = .ok v' w ∧ VRel P ρ v v' := by
   intro es' emp hrel;obtain ⟨r', h1, h2⟩ := zT (w := w) hcl hok hr hrel;simp only [Sem.run_bind, p6 hcl hok, Result.andThen_ok, h1]
   cases r with
   | none =>
    cases r' with
    | some x => obtain ⟨i, x⟩ := x; simp [gb] at h2
    | none =>
     subst h;simp only [Sem.run_bind, gY hz, Result.andThen_ok, Sem.run_pure];cases ok
     ·exact ⟨_, rfl, CW hz⟩
     ·exact ⟨_, rfl, GI (CW hz) false⟩
   | some x =>
    obtain ⟨i, x⟩ := x
    cases r' with
    | none => simp [gb] at h2
    | some y =>
     obtain ⟨i', y⟩ := y;subst h;simp only [Sem.run_pure, Result.andThen_ok];cases ok
     ·exact ⟨_, rfl, h2.2⟩
     ·exact ⟨_, rfl, GI h2.2 true⟩
  rcases PW hR hes hm with ⟨rfl, rfl⟩ | ⟨r1, es', rfl, hw, hrel⟩
  ·obtain ⟨v', h1, h2⟩ := fin [] true ⟨rfl, fun _ _ _ h => by simp at h⟩
   refine ⟨v', ?_, h2⟩;simp only [Instr.lookup, Sem.run_bind, run_underlying hu, Result.andThen_ok, Sem.run_pure] at h1 ⊢;exact h1
  ·obtain ⟨v', h1, h2⟩ := fin es'.toList es'.isEmpty hrel
   refine ⟨v', ?_, h2⟩;simp only [Instr.lookup, Sem.run_bind, run_underlying hu, Result.andThen_ok, d5 hw, Sem.run_pure] at h1 ⊢;exact h1
 ·cases h
theorem Cc {cl : KCls} {k : Value} : ∀ {es : List MapEntry} {j i : Nat} {v : Value}, aT cl k es j = some (some (i, v)) → j ≤ i ∧ ∃ e, es[i - j]? = some e ∧ e.key = k := by
 intro es
 induction es with
 | nil => intro j i v h; simp [aT] at h
 | cons e es ih =>
  intro j i v h;simp only [aT] at h;have h2 := aC.1 h
  clear h
  obtain ⟨b, hb, h⟩ := h2
  cases b with
  | true =>
   simp only [if_true] at h;cases h
   have he : k = e.key := by
    have hlit : VRel (default : Program) (fun _ => none) e.key e.key ∨ True := .inr trivial
    cases cl <;> cases hk : k <;> cases hek : e.key <;> rw [hk, hek] at hb <;> simp only [jA] at hb <;> try (cases hb; done)
    ·split at hb
     ·rename_i hkk
      subst hkk;have := fg hb;simp at this;rw [this]
     ·cases hb
    ·rw [BO (fg hb)]
    ·split at hb
     ·rw [Array.toList_inj.1 (zm hb)]
     ·cases hb
   exact ⟨bf _, e, by simp, he.symm⟩
  | false =>
   simp only [Bool.false_eq_true, if_false] at h;obtain ⟨h1, e1, h2, h3⟩ := ih h;refine ⟨by omega, e1, ?_, h3⟩
   have : i - j = (i - (j + 1)) + 1 := by omega
   rw [this]
   simpa using h2
theorem BD {cl : KCls} {k : Value} (hok : g9 cl k = true) : Instr.sameBits 10000 k k = true := by
 cases cl <;> cases k <;> simp only [g9] at hok <;> try (cases hok; done)
 ·simp [Instr.sameBits]
 ·simp [Instr.sameBits, beq_toListBytes]
 ·rename_i n xs
  simp only [Bool.and_eq_true, beq_iff_eq] at hok
  have key : ∀ (d : Nat) (l : List Value), l.all oZ = true → (l.zip l).all (fun (x, y) => Instr.sameBits d x y) = true := by
   intro d l
   induction l with
   | nil => intro _; rfl
   | cons x l ih =>
    intro h;simp only [List.all_cons, Bool.and_eq_true] at h;simp only [List.zip_cons_cons, List.all_cons, ih h.2, Bool.and_true]
    cases x <;> simp [oZ] at h
    cases d <;> simp [Instr.sameBits]
  have : Instr.sameBits (9999 + 1) (.agg xs) (.agg xs) = true := by
   rw [Instr.sameBits];simp [key 9999 xs.toList hok.2]
  exact this
theorem E8 (hR : Rel P w0 B ρ H w) {b c d sz : Nat} {es es2 : List MapEntry} {cl cl2 : Nat} (hb : ρ b = some (c, d, sz)) (ho : H.get b = some (.map es cl)) {es2' : Array MapEntry} (hrel : g6 P ρ es2 es2'.toList) :
 Rel P w0 B ρ (H.set b (.map es2 cl2)) { w with heap := w.heap.setIfInBounds c (.map es2' cl2) } ∧ hU ρ H w ρ (H.set b (.map es2 cl2)) { w with heap := w.heap.setIfInBounds c (.map es2' cl2) } := by
 have hc := hR.blk b c d sz hb;refine hR.setBlock (o' := .map es2 cl2) hb ho rfl rfl rfl rfl rfl (by simp) (fun k hk => ?_) ?_
 ·simp only [Array.getElem?_setIfInBounds]
  rw [if_neg (by omega)]
 ·refine ⟨es2', ?_, by simpa using hrel.1, fun i e e' he he' => hrel.2 i e e' he (by simpa using he')⟩
  simp [hc]
theorem g6.push {es es' : List MapEntry} (h : g6 P ρ es es') {e e' : MapEntry} (he : NP P ρ e e') : g6 P ρ (es ++ [e]) (es' ++ [e']) := by
 refine ⟨by simp [h.1], fun i a a' ha ha' => ?_⟩;rw [List.getElem?_append] at ha ha'
 by_cases hi : i < es.length
 ·rw [if_pos hi] at ha; rw [if_pos (by rw [h.1]; exact hi)] at ha'; exact h.2 i a a' ha ha'
 ·rw [if_neg hi] at ha; rw [if_neg (by rw [h.1]; exact hi), h.1] at ha'
  have e0 : i - es.length = 0 := by
   have := (Em.1 ha).1;simp at this; omega
  rw [e0] at ha ha';cases ha; cases ha';exact he
theorem g6.modify {es es' : List MapEntry} (h : g6 P ρ es es') (i : Nat) {f f' : MapEntry → MapEntry} (hf : ∀ e e', NP P ρ e e' → NP P ρ (f e) (f' e')) : g6 P ρ (es.modify i f) (es'.modify i f') := by
 refine ⟨by simp [h.1], fun j a a' ha ha' => ?_⟩;rw [List.getElem?_modify] at ha ha';obtain ⟨e, he, rfl⟩ := aM.1 ha;obtain ⟨e', he', rfl⟩ := aM.1 ha';have := h.2 j e e' he he'
 split
 ·exact hf _ _ this
 ·exact this
theorem g6.erase {es es' : List MapEntry} (h : g6 P ρ es es') (i : Nat) : g6 P ρ (es.eraseIdx i) (es'.eraseIdx i) := by
 refine ⟨by simp [List.length_eraseIdx, h.1], fun j a a' ha ha' => ?_⟩;rw [List.getElem?_eraseIdx] at ha ha'
 split at ha <;> rename_i hj
 ·rw [if_pos hj] at ha'; exact h.2 j a a' ha ha'
 ·rw [if_neg hj] at ha'; exact h.2 _ a a' ha ha'
theorem KE (hR : Rel P w0 B ρ H w) {t kt et : TypeId} (ht : bS P t = some (kt, et)) {cl : KCls} (hcl : cf P kt = some cl) {m m' k k' x x' : Value} {H' : AH}
 (h : dv cl m k x H = some H') (hm : VRel P ρ m m') (hk : VRel P ρ k k') (hx : VRel P ρ x x') : ∃ w', (Instr.mapUpdate t m' k' x').run P w = .ok () w' ∧ hU ρ H w ρ H' w' ∧ Rel P w0 B ρ H' w' := by
 unfold dv at h
 split at h
 ·rename_i hok
  have hkk := qi hok hk;subst hkk;have hu := l5 ht
  cases m <;> try (cases h; done)
  rename_i r0
  cases r0 with
  | none => simp at h
  | some b =>
  simp only at h
  split at h
  ·rename_i es c hg
   obtain ⟨r, hr, h⟩ := aM.1 h;obtain ⟨cb, d, sz, hb, rfl⟩ := hm.map_inv;obtain ⟨es', hw, hrel⟩ := hR.map hb hg;obtain ⟨r', h1, h2⟩ := zT (w := w) hcl hok hr hrel;simp only [Instr.mapUpdate, Sem.run_bind, run_underlying hu, Result.andThen_ok, d5 hw, p6 hcl hok, h1]
   cases r with
   | none =>
    cases r' with
    | some x => obtain ⟨i, x⟩ := x; simp [gb] at h2
    | none =>
     subst h;have hs := E8 (cl2 := c + 1) hR hb hg (es2 := es ++ [{ key := k', val := x, born := c }]) (es2' := es'.push { key := k', val := x', born := c }) (by simpa using hrel.push (e := { key := k', val := x, born := c }) (e' := { key := k', val := x', born := c }) ⟨hk, hx, rfl⟩);exact ⟨_, iE hw, hs.2, hs.1⟩
   | some y =>
    obtain ⟨i, y⟩ := y
    cases r' with
    | none => simp [gb] at h2
    | some y' =>
     obtain ⟨i', y'⟩ := y';obtain ⟨rfl, hy⟩ := h2;subst h;obtain ⟨_, e, he, hek⟩ := Cc hr;simp only [Nat.sub_zero] at he;have hi : i < es.length := (Em.1 he).1
     have hi' : i < es'.toList.length := by rw [hrel.1]; exact hi
     have hrele := hrel.2 i e es'.toList[i] he (br hi')
     have iQ : (((es'[i]?).map (·.key)).getD k') = k' := by
      have hkey := hrele.1;rw [hek] at hkey;have := qi hok hkey
      have hi2 : i < es'.size := by simpa using hi'
      simp only [Array.getElem_toList] at this;simp [hi2, this]
     have hstay : (Instr.keyThatStays (((es'[i]?).map (·.key)).getD k') k').run P w = .ok k' w := by
      rw [iQ];simp [Instr.keyThatStays, BD hok]
     simp only [Sem.run_bind, hstay, Result.andThen_ok]
     have hs := E8 (cl2 := c) hR hb hg (es2 := es.modify i fun e => { e with key := k', val := x }) (es2' := es'.modify i fun e => { e with key := k', val := x' }) (by
      have := hrel.modify i (f := fun e => { e with key := k', val := x }) (f' := fun e => { e with key := k', val := x' }) (fun e e' h => ⟨hk, hx, h.2.2⟩)
      simpa [Array.toList_modify] using this)
     exact ⟨_, iE hw, hs.2, hs.1⟩
  ·cases h
 ·cases h
theorem HY (hR : Rel P w0 B ρ H w) {t ty kt et : TypeId} (ht : bS P t = some (kt, et)) {cl : KCls} (hcl : cf P kt = some cl) {m m' k k' : Value} {H' : AH} {ts : Array TypeId} (hts : ts[0]? = some t)
 (h : lH cl m k H = some H') (hm : VRel P ρ m m') (hk : VRel P ρ k k') : ∃ w', (Builtin.delete_ ts ty #[m', k']).run P w = .ok (.tuple #[]) w' ∧ hU ρ H w ρ H' w' ∧ Rel P w0 B ρ H' w' := by
 unfold lH at h
 split at h
 ·rename_i hok
  have hkk := qi hok hk;subst hkk;have hu := l5 ht
  cases m <;> try (cases h; done)
  rename_i r0
  cases r0 with
  | none => simp at h
  | some b =>
  simp only at h
  split at h
  ·rename_i es c hg
   obtain ⟨r, hr, h⟩ := aM.1 h;obtain ⟨cb, d, sz, hb, rfl⟩ := hm.map_inv;obtain ⟨es', hw, hrel⟩ := hR.map hb hg;obtain ⟨r', h1, h2⟩ := zT (w := w) hcl hok hr hrel
   have pre : ∀ {w' : World}, (match r' with
    | some (i, _) => setObj cb (.map (es'.eraseIdxIfInBounds i) c)
    | none => setObj cb (.map es' c) : Sem Unit).run P w = .ok () w' → (Builtin.delete_ ts ty #[.map (some cb), k']).run P w = .ok (.tuple #[]) w' := by
    intro w' hrun
    cases r' with
    | none => simp [Builtin.delete_, hts, run_underlying hu, d5 hw, p6 hcl hok, h1, hrun]
    | some x => obtain ⟨i, x⟩ := x; simp [Builtin.delete_, hts, run_underlying hu, d5 hw, p6 hcl hok, h1, hrun]
   cases r with
   | none =>
    cases r' with
    | some x => obtain ⟨i, x⟩ := x; simp [gb] at h2
    | none =>
     subst h;have hs := E8 (cl2 := c) hR hb hg (es2 := es) (es2' := es') hrel;exact ⟨_, pre (iE hw), hs.2, hs.1⟩
   | some y =>
    obtain ⟨i, y⟩ := y
    cases r' with
    | none => simp [gb] at h2
    | some y' =>
     obtain ⟨i', y'⟩ := y';obtain ⟨rfl, hy⟩ := h2;subst h
     have hs := E8 (cl2 := c) hR hb hg (es2 := es.eraseIdx i) (es2' := es'.eraseIdxIfInBounds i) (by
      have hi : i < es'.size := by
       obtain ⟨_, e, he, _⟩ := Cc hr;have := (Em.1 he).1;have := hrel.1;simp at this; omega
      have := hrel.erase i
      simpa [Array.eraseIdxIfInBounds, hi] using this)
     exact ⟨_, pre (iE hw), hs.2, hs.1⟩
  ·cases h
 ·cases h
end
def HD (G : List Nat) : Operand → Bool
 | .const v => uY v
 | .global g => G.contains g
 | _ => true
def ed (A : List Value) : Operand → Value
 | .tmp t => A[t]?.getD undef
 | .const v => v
 | .global g => .pointer (some ⟨g, 0, none⟩)
 | .func f => .func (.func f) #[] #[]
def GlobRel (ρ : bh) (G : List Nat) : Prop := ∀ g ∈ G, ∃ sz, ρ g = some (g, 0, sz)
theorem GlobRel.mono {ρ ρ' : bh} {G : List Nat} (hle : ∀ b x, ρ b = some x → ρ' b = some x) (h : GlobRel ρ G) : GlobRel ρ' G :=
 fun g hg => let ⟨sz, hs⟩ := h g hg; ⟨sz, hle _ _ hs⟩
structure bI (P : Program) (ρ : bh) (A : List Value) (a : Act) : Prop where
 tmps : LRel P ρ A a.tmps.toList
 defers : a.defers = []
section
variable {P : Program} {w0 : World} {B : Nat} {ρ : bh} {H : AH} {w : World} {G : List Nat}
theorem bI.mono {ρ' : bh} {A : List Value} {a : Act} (hle : ∀ b x, ρ b = some x → ρ' b = some x) (h : bI P ρ A a) : bI P ρ' A a := ⟨h.tmps.mono hle, h.defers⟩
theorem u5 {A : List Value} {a : Act} (hA : bI P ρ A a) (hG : GlobRel ρ G) {x : Operand} (hx : HD G x = true) : VRel P ρ (ed A x) (a.eval x) := by
 cases x with
 | tmp t =>
  simp only [ed, Act.eval]
  cases hA1 : A[t]? with
  | none =>
   have h1 : A.length ≤ t := by rwa [List.getElem?_eq_none_iff] at hA1
   have h2 : a.tmps.size ≤ t := by have := hA.tmps.1; simp at this; omega
   have : a.tmps.getD t undef = undef := by simp [Array.getD, Nat.not_lt.2 h2]
   rw [this];exact VRel.undef
  | some v =>
   obtain ⟨y, hy, hv⟩ := hA.tmps.get hA1
   have : a.tmps.getD t undef = y := by
    rw [Array.getElem?_toList] at hy;rw [Array.getD_eq_getD_getElem?, hy]
    rfl
   rw [this];exact hv
 | const v => exact VRel.const hx
 | global g =>
  simp only [HD, List.contains_iff_mem] at hx;obtain ⟨sz, hs⟩ := hG g hx;exact .ptr (d := 0) (o := 0) hs
 | func f => exact .func rfl (fun _ _ _ h => by simp at h) rfl (fun _ _ _ h => by simp at h)
theorem bI.put {A : List Value} {a : Act} (hA : bI P ρ A a) (d : Option Tmp) {v v' : Value} (hv : VRel P ρ v v') :
 bI P ρ (match d with | some d => A.set d v | none => A) (a.put d v') := by
 cases d with
 | none => exact hA
 | some d => exact ⟨by simpa [Act.put] using hA.tmps.set d hv, hA.defers⟩
def kH (P : Program) (G : List Nat) (call : a7) : Prop :=
 ∀ f args H v H', call f args H = some (v, H') → (∃ fn, P.funcs[f]? = some fn ∧ fn.body.isSome = true ∧ fn.name ≠ "runtime.NumGoroutine") ∧
  ∀ w0 B ρ w args', Rel P w0 B ρ H w → GlobRel ρ G → LRel P ρ args args' →
   Calls P f args'.toArray w fun e w' => ∃ v' ρ', e = .returned v' ∧ VRel P ρ' v v' ∧ hU ρ H w ρ' H' w' ∧ Rel P w0 B ρ' H' w'
theorem yy {ev ev' : Operand → Value} {xs : Array Operand} (h : ∀ x ∈ xs.toList, VRel P ρ (ev x) (ev' x)) : LRel P ρ (xs.toList.map ev) (xs.map ev').toList := by
 refine ⟨by simp, fun i a b ha hb => ?_⟩;simp only [vt, aM, Array.toList_map] at ha hb;obtain ⟨x, hx, rfl⟩ := ha;obtain ⟨y, hy, rfl⟩ := hb;rw [hx] at hy;cases hy;exact h x (List.mem_of_getElem? hx)
def JA (v : Value) : Sem Next :=
 match v with
 | .pointer none | .nilIface | .nilFunc => runtimePanic .nilDeref
 | .func (.method name) first captured =>
  match (first[0]? : Option Value) with
  | some .nilIface => runtimePanic .nilDeref
  | some (.iface t w) => do
   if (← nilAhead ((← program).types.size + Made.depth) t w name) != some false then
    unsupported (.noEntry "op/nilCheck.the method's receiver behind this interface value is a nil pointer, or cannot be seen to be none, and the arguments act or may panic (ledger 612)")
   pure (.value (.func (.method name) first captured))
  | _ => pure (.value (.func (.method name) first captured))
 | x => pure (.value x)
theorem GH {v v' x : Value} (h : sn v = some x) (hv : VRel P ρ v v') : x = v ∧ JA v' = pure (.value v') := by
 cases hv with
 | lit hl =>
  cases v with
  | pointer a => cases a <;> simp [sn] at h <;> simp [cB] at hl
  | func fn f c => simp [cB] at hl
  | slice a n k => cases h; exact ⟨rfl, rfl⟩
  | map a => cases h; exact ⟨rfl, rfl⟩
  | chan a => cases h; exact ⟨rfl, rfl⟩
  | _ => first | (simp [sn] at h; done) | (cases h; exact ⟨rfl, rfl⟩) | (simp [cB] at hl)
 | func hf h1 hc h2 =>
  rename_i fn f f' c c'
  cases fn <;> first | (cases h; exact ⟨rfl, rfl⟩) | (simp [sn] at h)
 | ptr _ => cases h; exact ⟨rfl, rfl⟩
 | slice _ _ _ _ => cases h; exact ⟨rfl, rfl⟩
 | slice0 _ => cases h; exact ⟨rfl, rfl⟩
 | empty => cases h; exact ⟨rfl, rfl⟩
 | map _ => cases h; exact ⟨rfl, rfl⟩
 | iface _ => cases h; exact ⟨rfl, rfl⟩
 | agg _ _ => cases h; exact ⟨rfl, rfl⟩
 | tuple _ _ => cases h; exact ⟨rfl, rfl⟩
theorem ML {n off : Nat} {t : TypeId} {f : Field} {fs : Array Field} {v v' x : Value} {i : Nat} (hu : P.underlying t = some (.struct fs)) (hf : fs[i]? = some f) (hn : bY P f.type = some n) (h0 : n ≠ 0) (hoff : f.offset = off)
 (h : BA off v = some x) (hv : VRel P ρ v v') : ∃ x', (Instr.fieldAt t v' i).run P w = .ok x' w ∧ VRel P ρ x x' := by
 obtain ⟨⟨b, o⟩, ha, rfl⟩ := aM.1 h;rw [t3 ha] at hv;obtain ⟨c, d, sz, hb, rfl⟩ := hv.ptr_inv;refine ⟨.pointer (some ⟨c, d + o + off, none⟩), ?_, ?_⟩
 ·simp [Instr.fieldAt, run_underlying hu, hf, Instr.sureAddr, fieldPlace, cj hn, h0, hoff, Addr.add_lit]
 ·rw [Nat.add_assoc]; exact .ptr hb
theorem Aj {t : TypeId} {n : Option Nat} (hn : d9 P t = some n) {off : Nat} {xs : Array Value} {v' x : Value} (h : jC n off (.agg xs) = some x) (hv : VRel P ρ (.agg xs) v') :
 ∃ ys x', v' = .agg ys ∧ (part t ys off).run P w = .ok x' w ∧ VRel P ρ x x' := by
 obtain ⟨ys, rfl, hs, he⟩ := hv.agg_inv
 cases n with
 | none =>
  simp only [jC] at h;have hi : off < xs.size := (Array.getElem?_eq_some_iff.1 h).1
  have hi' : off < ys.size := by omega
  exact ⟨ys, ys[off], rfl, by simp [part, nf hn, hi'], he off x _ h (by simp [hi'])⟩
 | some n =>
  simp only [jC] at h;cases h;obtain ⟨hag, hsz⟩ := ng hn w;refine ⟨ys, .agg (ys.extract off (off + n)), rfl, by simp [part, hag, cj hsz], .agg (by simp [hs]) (fun i x y hx hy => ?_)⟩;rw [Array.getElem?_extract] at hx hy;rw [← hs] at hy
  split at hx
  ·rename_i hi; rw [if_pos hi] at hy; exact he _ x y hx hy
  ·cases hx
theorem MP {e : Nat} {t el : TypeId} (hu : P.underlying t = some (.slice el)) (he : bY P el = some e) {v v' i i' x : Value} (h : mW e v i = some x) (hv : VRel P ρ v v') (hi : VRel P ρ i i') :
 ∃ x', (Instr.indexAt t v' i').run P w = .ok x' w ∧ VRel P ρ x x' := by
 by_cases hsl : ∃ a n k, v = .slice a n k
 case neg =>
  exfalso
  cases v <;> first | exact hsl ⟨_, _, _, rfl⟩ | (simp [mW] at h)
 obtain ⟨a, n, k, rfl⟩ := hsl
 cases a with
 | none => cases i <;> simp [mW] at h
 | some ad =>
 obtain ⟨b, o, sp⟩ := ad
 cases sp with
 | some sp => cases i <;> simp [mW] at h
 | none =>
 cases i <;> simp only [mW] at h <;> try (cases h; done)
 rename_i kk i
 split at h
 ·rename_i hc
  cases h;rw [hi.int_inv]
  have hel : P.elem t = el := by simp [Program.elem, hu]
  cases hv with
  | lit h => simp [cB] at h
  | slice0 h => omega
  | empty => omega
  | slice hb hk hn he0 =>
   rename_i c d sz k'
   refine ⟨.pointer (some ⟨c, d + o + i.toNat * e, none⟩), ?_, by rw [Nat.add_assoc]; exact .ptr hb⟩;rw [run_indexAt_slice w t ⟨c, d + o, none⟩ n k' kk i (by rw [hel]; exact hu), if_pos hc, hel, cj he];simp [Addr.add_lit]
 ·cases h
theorem Gq {e len : Nat} {t el : TypeId} (hu : P.underlying t = some (.array len el)) (he : bY P el = some e) {v v' i i' x : Value} (h : hF len e v i = some x) (hv : VRel P ρ v v') (hi : VRel P ρ i i') :
 ∃ x', (Instr.indexAt t v' i').run P w = .ok x' w ∧ VRel P ρ x x' := by
 by_cases hsl : ∃ a, v = .pointer a
 case neg =>
  exfalso
  cases v <;> first | exact hsl ⟨_, rfl⟩ | (simp [hF] at h)
 obtain ⟨a, rfl⟩ := hsl
 cases a with
 | none => cases i <;> simp [hF] at h
 | some ad =>
 obtain ⟨b, o, sp⟩ := ad
 cases sp with
 | some sp => cases i <;> simp [hF] at h
 | none =>
 cases i <;> simp only [hF] at h <;> try (cases h; done)
 rename_i kk i
 split at h
 ·rename_i hc
  cases h;rw [hi.int_inv];obtain ⟨c, d, sz, hb, rfl⟩ := hv.ptr_inv
  have hel : P.elem t = el := by simp [Program.elem, hu]
  have hlen : P.arrayLen t = len := by simp [Program.arrayLen, hu]
  refine ⟨.pointer (some ⟨c, d + o + i.toNat * e, none⟩), ?_, by rw [Nat.add_assoc]; exact .ptr hb⟩;rw [run_indexAt_array w t ⟨c, d + o, none⟩ kk i (by rw [hel, hlen]; exact hu), hlen, if_pos hc, hel, cj he];simp [Addr.add_lit]
 ·cases h
theorem zX {e len : Nat} {n : Option Nat} {t el : TypeId} (hu : P.underlying t = some (.array len el)) (he : bY P el = some e) (hn : d9 P el = some n) {v v' i i' x : Value} (h : iz len n e v i = some x) (hv : VRel P ρ v v') (hi : VRel P ρ i i') :
 ∃ x', (Instr.index t v' i').run P w = .ok x' w ∧ VRel P ρ x x' := by
 cases v <;> simp only [iz] at h <;> try (cases h; done)
 rename_i xs
 cases i <;> simp only at h <;> try (cases h; done)
 rename_i kk i
 split at h
 ·rename_i hc
  rw [hi.int_inv]
  have hp : jC n (i.toNat * e) (.agg xs) = some x := by cases n <;> simpa [jC] using h
  obtain ⟨ys, x', rfl, hr, hx⟩ := Aj (w := w) hn hp hv;exact ⟨x', by simp [Instr.index, asIntOf, run_underlying hu, hc, cj he, hr], hx⟩
 ·cases h
theorem zW {t : TypeId} (hu : P.underlying t = some .string) {v v' i i' x : Value} (h : iy v i = some x) (hv : VRel P ρ v v') (hi : VRel P ρ i i') :
 ∃ x', (Instr.index t v' i').run P w = .ok x' w ∧ VRel P ρ x x' := by
 cases v <;> simp only [iy] at h <;> try (cases h; done)
 rename_i s
 cases i <;> simp only at h <;> try (cases h; done)
 rename_i kk i
 split at h
 ·rename_i hc
  obtain ⟨b, hb, rfl⟩ := aM.1 h;rw [hi.int_inv, hv.string_inv];exact ⟨_, by simp [Instr.index, asIntOf, run_underlying hu, hc, hb], .lit rfl⟩
 ·cases h
theorem CN {e : Nat} {t el : TypeId} (hu : P.underlying t = some (.slice el)) (he : bY P el = some e) {x x' v : Value} {lo hi lo' hi' : Option Value} (h : dY e x lo hi = some v) (hx : VRel P ρ x x')
 (hlo : lo = none ∧ lo' = none ∨ ∃ a a', lo = some a ∧ lo' = some a' ∧ VRel P ρ a a') (hhi : hi = none ∧ hi' = none ∨ ∃ a a', hi = some a ∧ hi' = some a' ∧ VRel P ρ a a') :
 ∃ v', (Instr.sliceAt t x' lo' hi' none).run P w = .ok v' w ∧ VRel P ρ v v' := by
 cases x <;> simp only [dY] at h <;> try (cases h; done)
 rename_i a n e'
 have h2 := aC.1 h
 clear h
 obtain ⟨l, hl, h⟩ := h2;have h2 := aC.1 h
 clear h
 obtain ⟨hh, hhv, h⟩ := h2
 split at h
 ·rename_i hc
  have elo : lo = none ∧ lo' = none ∧ l = 0 ∨ ∃ k, lo' = some (.int k l) := by
   rcases hlo with ⟨rfl, rfl⟩ | ⟨b, b', rfl, rfl, hb⟩
   ·left; simp at hl; exact ⟨rfl, rfl, hl.symm⟩
   ·right; cases b <;> simp [lI] at hl; subst hl; exact ⟨_, by rw [hb.int_inv]⟩
  have ehi : hi = none ∧ hi' = none ∧ hh = n ∨ ∃ k, hi' = some (.int k hh) := by
   rcases hhi with ⟨rfl, rfl⟩ | ⟨b, b', rfl, rfl, hb⟩
   ·left; simp at hhv; exact ⟨rfl, rfl, hhv.symm⟩
   ·right; cases b <;> simp [lI] at hhv; subst hhv; exact ⟨_, by rw [hb.int_inv]⟩
  -- what the run comes to
  have run : ∀ (a' : Option Addr) (k' : Nat), n ≤ k' → (Instr.sliceAt t (.slice a' n k') lo' hi' none).run P w = .ok (.slice (if k' = l.toNat then a' else a'.map (·.add (l.toNat * e))) (hh.toNat - l.toNat) (k' - l.toNat)) w := by
   intro a' k' hk
   have c1 : hh ≤ (k' : Int) := by omega
   have c3 : 0 ≤ hh := by omega
   have c2 : l ≤ hh := hc.2.1
   have c5 : max hh 0 = hh := by omega
   rcases elo with ⟨_, rfl, rfl⟩ | ⟨kl, rfl⟩ <;> rcases ehi with ⟨_, rfl, rfl⟩ | ⟨kh, rfl⟩ <;>
    simp [Instr.sliceAt, Instr.slice, run_underlying hu, Instr.sliceBounds, Instr.sliceBound, asIntOf, cj he, hc.1, c1, c2, c3, c5]
  cases a with
  | none =>
   simp only at h
   split at h
   ·rename_i hne
    obtain ⟨rfl, rfl⟩ := hne;cases h;rw [hx.nilslice_inv]
    have e1 : l.toNat = 0 := by omega
    have e2 : hh.toNat = 0 := by omega
    refine ⟨.slice none 0 0, ?_, .lit rfl⟩;rw [run none 0 (bf _), e1, e2]
    rfl
   ·cases h
  | some ad =>
   obtain ⟨b, o, sp⟩ := ad
   cases sp with
   | some sp => simp at h
   | none =>
    simp only at h
    split at h
    ·rename_i hee
     obtain ⟨rfl, he0⟩ := hee;cases h
     cases hx with
     | lit h => simp [cB] at h
     | slice hb hk hn he1 =>
      rename_i c d sz k'
      refine ⟨_, run _ k' hn, ?_⟩
      by_cases hkl : k' = l.toNat
      ·have e1 : hh.toNat - l.toNat = 0 := by omega
       have e2 : k' - l.toNat = 0 := by omega
       rw [if_pos hkl, e1, e2];exact .slice0 hb
      ·rw [if_neg hkl]
       simp only [dD, Addr.add_lit];rw [Nat.add_assoc];refine .slice hb ?_ (by omega) he0
       have h1 : l.toNat * e' + (k' - l.toNat) * e' = k' * e' := by rw [← Nat.add_mul]; congr 1; omega
       omega
     | empty => omega
     | slice0 hb =>
      rename_i c d sz a
      refine ⟨_, run _ 0 (bf _), ?_⟩
      have e1 : l.toNat = 0 := by omega
      have e2 : hh.toNat = 0 := by omega
      rw [e1, e2]
      simpa using VRel.slice0 hb
    ·cases h
 ·cases h
theorem AS {t el : TypeId} {e : Nat} (hu : P.underlying t = some (.slice el)) (he : bY P el = some e) {x x' hi hi' mx mx' v : Value} (h : iA x hi mx = some v) (hx : VRel P ρ x x') (hh : VRel P ρ hi hi') (hm : VRel P ρ mx mx') :
 ∃ v', (Instr.sliceAt t x' none (some hi') (some mx')).run P w = .ok v' w ∧ VRel P ρ v v' := by
 have run : ∀ (a' : Option Addr) (n k' : Nat) (k1 k2 : IntKind), (Instr.sliceAt t (.slice a' n k') none (some (.int k1 0)) (some (.int k2 0))).run P w = .ok (.slice a' 0 0) w := by
  intro a' n k' k1 k2;simp [Instr.sliceAt, Instr.slice, run_underlying hu, Instr.sliceBounds, Instr.sliceBound, asIntOf, cj he]
 unfold iA at h
 split at h
 ·cases h
  rw [hh.int_inv, hm.int_inv, hx.nilslice_inv];exact ⟨_, run _ _ _ _ _, .lit rfl⟩
 ·rename_i b o n k k1 k2 _
  cases h;rw [hh.int_inv, hm.int_inv]
  cases hx with
  | lit h => simp [cB] at h
  | slice hb _ _ _ => exact ⟨_, run _ _ _ _ _, .slice0 hb⟩
  | slice0 hb => exact ⟨_, run _ _ _ _ _, .slice0 hb⟩
  | empty => exact ⟨_, run _ _ _ _ _, .empty⟩
 ·cases h
end
section
variable {P : Program} {w0 : World} {B : Nat} {ρ : bh} {H : AH} {w : World} {G : List Nat}
theorem Q6 {o : Oper} {a : Act} {v : Value} {H' : AH} {next : Act → World → Prop} {Q : Exit → Act → World → Prop} (h : oC P w0 B ρ H w ((execOp a.eval o).run P w) v H')
 (hn : ∀ v' ρ' w', VRel P ρ' v v' → hU ρ H w ρ' H' w' → Rel P w0 B ρ' H' w' → next (a.put o.dst v') w') : o.wp P a w next Q := by
 obtain ⟨v', w', ρ', hr | ⟨hr, rfl⟩, hv, he, hR⟩ := h
 ·unfold Oper.wp; rw [hr, Oper.upon_value]; exact hn v' ρ' w' hv he hR
 ·unfold Oper.wp; rw [hr, Oper.upon_skip]; exact hn _ ρ' w' hv he hR
theorem aP {s : Sem Value} {v' : Value} {w' : World} (h : s.run P w = .ok v' w') : (do pure (Next.value (← s)) : Sem Next).run P w = .ok (.value v') w' := by simp [h]
theorem Ho {s : Sem Unit} {w' : World} (h : s.run P w = .ok () w') : (do s; pure Next.skip : Sem Next).run P w = .ok .skip w' := by simp [h]
theorem dJ {t el : TypeId} (h : bQ P t = some el) : P.underlying t = some (.slice el) := by
 unfold bQ at h
 cases hu : P.underlying t with
 | none => simp [hu] at h
 | some d => cases d <;> simp [hu] at h; rw [h]
theorem Cf {t : TypeId} {k : IntKind} (h : o5 P t = some k) : P.underlying t = some (.int k) := by
 unfold o5 at h
 cases hu : P.underlying t with
 | none => simp [hu] at h
 | some d => cases d <;> simp [hu] at h; rw [h]
theorem ny {t : TypeId} {i : Nat} {f : Field} (h : jf P t i = some f) : ∃ fs, P.underlying t = some (.struct fs) ∧ fs[i]? = some f := by
 unfold jf at h
 cases hu : P.underlying t with
 | none => simp [hu] at h
 | some d => cases d <;> simp [hu] at h; exact ⟨_, rfl, h⟩
theorem y6 {t : TypeId} {n : Nat} (h : eI P t = some n) {i : TypeInfo} (hi : P.info? t = some i) : i.bytes = n := by
 unfold eI at h; simpa [hi] using h
theorem CJ {t : TypeId} {n : Nat} (h : bY P t = some n) {i : TypeInfo} (hi : P.info? t = some i) : i.size = n := by
 unfold bY at h; simpa [hi] using h
theorem yG {xs : List Value} {ys : Array Value} (h : LRel P ρ xs ys.toList) {x y : Value} (hx : xs = [x, y]) : ∃ x' y', ys = #[x', y'] ∧ VRel P ρ x x' ∧ VRel P ρ y y' := by
 subst hx;have hl := h.1;obtain ⟨l⟩ := ys
 match l, hl with
 | [x', y'], _ => exact ⟨x', y', rfl, h.2 0 x x' rfl rfl, h.2 1 y y' rfl rfl⟩
theorem M4 {xs : List Value} {ys : Array Value} (h : LRel P ρ xs ys.toList) {x : Value} (hx : xs = [x]) : ∃ x', ys = #[x'] ∧ VRel P ρ x x' := by
 subst hx;have hl := h.1;obtain ⟨l⟩ := ys
 match l, hl with
 | [x'], _ => exact ⟨x', rfl, h.2 0 x x' rfl rfl⟩
theorem MX {xs : List Value} {ys : Array Value} (h : LRel P ρ xs ys.toList) {v : Value} (hm : gT xs = some v) (ts : Array TypeId) (t : TypeId) : (Builtin.max_ ts t ys).run P w = .ok v w ∧ cB v = true := by
 unfold gT at hm
 split at hm
 ·rename_i k x k' y
  obtain ⟨x', y', rfl, hx, hy⟩ := yG h rfl;rw [hx.int_inv, hy.int_inv];cases hm;exact ⟨run_max_int2 w ts t k k' x y, rfl⟩
 ·cases hm
theorem MY {xs : List Value} {ys : Array Value} (h : LRel P ρ xs ys.toList) {v : Value} (hm : iH xs = some v) (ts : Array TypeId) (t : TypeId) : (Builtin.min_ ts t ys).run P w = .ok v w ∧ cB v = true := by
 unfold iH at hm
 split at hm
 ·rename_i k x k' y
  obtain ⟨x', y', rfl, hx, hy⟩ := yG h rfl;rw [hx.int_inv, hy.int_inv];cases hm;exact ⟨run_min_int2 w ts t k k' x y, rfl⟩
 ·cases hm
theorem FI (hR : Rel P w0 B ρ H w) {b : Builtin} {ts : Array TypeId} {t : TypeId} {cs : Array Bool} {xs : List Value} {ys : Array Value} (hl : LRel P ρ xs ys.toList) {v : Value} {H' : AH} (h : ca P b ts xs H = some (v, H')) :
 oC P w0 B ρ H w ((builtin b ts t cs ys).run P w) v H' := by
 unfold ca at h
 split at h
 ·-- len
  rename_i x
  obtain ⟨x', rfl, hx⟩ := M4 hl rfl
  cases hts : ts[0]? with
  | none => simp [hts] at h
  | some t0 =>
   simp only [hts, be] at h
   cases hu : P.underlying t0 with
   | none => simp [hu] at h
   | some d =>
    cases d <;> simp only [hu] at h <;> try (cases h; done)
    case string =>
     cases x <;> simp only at h <;> try (cases h; done)
     obtain ⟨y, hy, e⟩ := aM.1 h;cases e;simp [ou] at hy;subst hy;rw [hx.string_inv];exact oC.pure hR (by simp [builtin, Builtin.len_, hts, run_underlying hu, goInt]) (.lit rfl)
    case slice el =>
     cases x <;> simp only at h <;> try (cases h; done)
     obtain ⟨y, hy, e⟩ := aM.1 h;cases e;simp [ou] at hy;subst hy;obtain ⟨a', k', rfl, _⟩ := hx.anyslice_inv;exact oC.pure hR (by simp [builtin, Builtin.len_, hts, run_underlying hu, goInt]) (.lit rfl)
    case map k el =>
     obtain ⟨y, hy, e⟩ := aM.1 h;cases e
     cases x <;> simp only [lJ] at hy <;> try (cases hy; done)
     rename_i r
     cases r with
     | none =>
      simp only at hy;cases hy;rw [hx.nilmap_inv];exact oC.pure hR (by simp [builtin, Builtin.len_, hts, run_underlying hu, goInt]) (.lit rfl)
     | some b =>
      simp only at hy
      split at hy
      ·rename_i es c hg
       cases hy;obtain ⟨c', d, sz, hb, rfl⟩ := hx.map_inv;obtain ⟨es', hw, hrel⟩ := hR.map hb hg
       have hsz : es'.size = es.length := by simpa using hrel.1
       exact oC.pure hR (by simp [builtin, Builtin.len_, hts, run_underlying hu, d5 hw, goInt, hsz]) (.lit rfl)
      ·cases hy
 ·obtain ⟨y, hy, e⟩ := aM.1 h
  cases e;obtain ⟨hr, hv⟩ := MX (w := w) hl hy ts t;exact oC.pure hR (by simp only [builtin]; exact aP hr) (.lit hv)
 ·obtain ⟨y, hy, e⟩ := aM.1 h
  cases e;obtain ⟨hr, hv⟩ := MY (w := w) hl hy ts t;exact oC.pure hR (by simp only [builtin]; exact aP hr) (.lit hv)
 ·-- append
  rename_i s x
  obtain ⟨s', x', rfl, hs, hx⟩ := yG hl rfl;obtain ⟨t0, ht0, h⟩ := aC.1 h;obtain ⟨el, hel, h⟩ := aC.1 h;obtain ⟨e, he, h⟩ := aC.1 h;obtain ⟨by', hby, h⟩ := aC.1 h;obtain ⟨z, hz, h⟩ := aC.1 h
  split at h
  ·rename_i hc
   obtain ⟨hzs, hu⟩ := hc;obtain ⟨u, hu0, hue⟩ := aC.1 hu;obtain ⟨i, hi, hzi, _⟩ := cn hz;have e1 := CJ he hi;have e2 := y6 hby hi;subst e1; subst e2
   have hts : Builtin.append_ ts t #[s', x'] = Builtin.append_ #[t0, u] t #[s', x'] := by
    simp [Builtin.append_, ht0, hu0]
   obtain ⟨v', w', ρ', hr, hv, hE, hR'⟩ := WD (ty := t) hR (dJ hel) (dJ hue) hi hzi hzs h hs hx;exact ⟨v', w', ρ', .inl (by simp only [builtin, hts]; exact aP hr), hv, hE, hR'⟩
  ·cases h
 ·-- delete
  rename_i m k
  obtain ⟨m', k', rfl, hm, hk⟩ := yG hl rfl;obtain ⟨t0, ht0, h⟩ := aC.1 h;obtain ⟨⟨kt, et⟩, hkt, h⟩ := aC.1 h;obtain ⟨cl, hcl, h⟩ := aC.1 h;obtain ⟨H2, hH, e⟩ := aM.1 h;cases e;obtain ⟨w', hr, hE, hR'⟩ := HY (ty := t) hR hkt hcl ht0 hH hm hk;exact ⟨.tuple #[], w', ρ, .inl (by simp only [builtin]; exact aP hr), VRel.undef, hE, hR'⟩
 ·cases h
theorem y9 {f f' : Value} {args args' : List Value} {g : Nat} {xs : List Value} (h : b6 f args = some (g, xs)) (hf : VRel P ρ f f') (ha : LRel P ρ args args') :
 ∃ first captured : Array Value, f' = .func (.func g) first captured ∧ LRel P ρ xs (first.toList ++ args' ++ captured.toList) := by
 cases f <;> simp only [b6] at h <;> try (cases h; done)
 rename_i fn first captured
 cases fn <;> simp only at h <;> try (cases h; done)
 cases h;obtain ⟨f1, c1, rfl, h1, h2⟩ := hf.func_inv;exact ⟨f1, c1, rfl, (h1.append ha).append h2⟩
theorem UM {call : a7} {A : List Value} {a : Act} (hA : bI P ρ A a) (hG : GlobRel ρ G) (hR : Rel P w0 B ρ H w) {o : Oper} (hok : o.op.operands.toList.all (HD G) = true)
 (hno : ∀ c f, o.op = .call c → c.callee ≠ .value f) {v : Value} {H' : AH} (h : dx P call (ed A) o H = some (v, H')) : oC P w0 B ρ H w ((execOp a.eval o).run P w) v H' := by
 obtain ⟨dst, op, type, pos, after, guard⟩ := o;simp only at hok hno;have ev : ∀ x, x ∈ op.operands.toList → VRel P ρ (ed A x) (a.eval x) := fun x hx => u5 hA hG (List.all_eq_true.1 hok x hx)
 cases op <;> simp only [dx] at h <;> simp only [execOp] <;> try (cases h; done)
 case move x => cases h; exact oC.pure hR rfl (ev x (by simp [Op.operands]))
 case assign x => cases h; exact oC.pure hR rfl (ev x (by simp [Op.operands]))
 case pick c x y =>
  obtain ⟨z, hz, e⟩ := aM.1 h;cases e;have hc := ev c (by simp [Op.operands])
  cases hcv : ed A c <;> rw [hcv] at hz <;> simp only [aQ] at hz <;> try (cases hz; done)
  rename_i t
  cases hz;rw [hcv] at hc;rw [hc.bool_inv];cases t
  ·exact oC.pure hR (by simp [asBool]) (ev y (by simp [Op.operands]))
  ·exact oC.pure hR (by simp [asBool]) (ev x (by simp [Op.operands]))
 case alloc t =>
  obtain ⟨z, hz, e⟩ := aM.1 h;cases e;obtain ⟨i, hi, hzi, hlit, _⟩ := cn hz;refine UG (el := t) (cs' := z.cells.toList) hR (LRel.of_all hlit) (aP ?_);simp [Instr.alloc, gY hz, newVar, newRow]
 case box t x =>
  cases h;refine UG (el := t) (cs' := (a.eval x).cells.toList) hR (ev x (by simp [Op.operands])).cells (aP ?_);simp [Instr.box, newVar, newRow]
 case build t parts =>
  have hx : ∀ x ∈ parts.toList.map (·.2), VRel P ρ (ed A x) (a.eval x) := fun x hx => ev x (by simpa [Op.operands] using hx)
  cases hu : P.underlying t with
  | none => simp [hu] at h
  | some d =>
   cases d <;> simp only [hu] at h <;> try (cases h; done)
   case struct fs =>
    obtain ⟨z, hz, h⟩ := aC.1 h;obtain ⟨ps, hps, h⟩ := aC.1 h;obtain ⟨cs, hcs, e⟩ := aM.1 h;cases e;obtain ⟨v', hr, hv⟩ := BR (w := w) hx hz hu hps hcs;exact oC.pure hR (aP hr) hv
   case array n el =>
    obtain ⟨z, hz, h⟩ := aC.1 h;obtain ⟨e, he, h⟩ := aC.1 h;obtain ⟨cs, hcs, e⟩ := aM.1 h;cases e;obtain ⟨v', hr, hv⟩ := sZ (w := w) hx hz hu he hcs;exact oC.pure hR (aP hr) hv
 case buildSlice t len parts =>
  have hx : ∀ x ∈ parts.toList.map (·.2), VRel P ρ (ed A x) (a.eval x) := fun x hx => ev x (by simpa [Op.operands] using hx);obtain ⟨el, hel, h⟩ := aC.1 h;obtain ⟨e, he, h⟩ := aC.1 h;obtain ⟨z, hz, h⟩ := aC.1 h
  split at h
  ·rename_i hc
   obtain ⟨cs, hcs, e2⟩ := aM.1 h;cases e2;obtain ⟨v', w', ρ', hr, hv, hE, hR'⟩ := y5 hR hx hz (dJ hel) he hc.1 hc.2.1 hc.2.2 hcs;exact ⟨v', w', ρ', .inl (aP hr), hv, hE, hR'⟩
  ·cases h
 case load t x =>
  have hx := ev x (by simp [Op.operands]);obtain ⟨g, hg, h⟩ := aC.1 h
  cases g with
  | none =>
   obtain ⟨y, hy, e⟩ := aM.1 h;cases e;obtain ⟨a', y', ha, hr, hv⟩ := Uo hR hy hx;exact oC.pure hR (aP (by simp [Instr.loadAt, ha, Instr.sureAddr, loadVar, nf hg]; simpa using hr)) hv
  | some n =>
   obtain ⟨y, hy, e⟩ := aM.1 h;cases e;obtain ⟨a', ys, ha, hr, hv⟩ := Gy hR hy hx;obtain ⟨hag, hsz⟩ := ng hg w;exact oC.pure hR (aP (by simp [Instr.loadAt, ha, Instr.sureAddr, loadVar, hag, cj hsz, hr])) hv
 case store t x y =>
  have hx := ev x (by simp [Op.operands]);have hy := ev y (by simp [Op.operands]);obtain ⟨n, hn, h⟩ := aC.1 h;obtain ⟨H2, hH, e⟩ := aM.1 h;cases e;obtain ⟨a', w', ha, hcs, hr, hE, hR'⟩ := ZL hR hH hx hy;exact ⟨undef, w', ρ, .inr ⟨Ho (by simp [Instr.storeAt, ha, Instr.sureAddr, storeVar, cj hn, hcs, hr]), rfl⟩, VRel.undef, hE, hR'⟩
 case nilCheck x =>
  have hx := ev x (by simp [Op.operands]);obtain ⟨y, hy, e⟩ := aM.1 h;cases e;obtain ⟨rfl, hr⟩ := GH hy hx
  have e2 : (JA (a.eval x)).run P w = .ok (.value (a.eval x)) w := by rw [hr]; rfl
  exact oC.pure hR e2 hx
 case binOp op t x y yt =>
  obtain ⟨z, hz, e⟩ := aM.1 h;cases e;obtain ⟨hr, hl⟩ := GE hz (ev x (by simp [Op.operands])) (ev y (by simp [Op.operands])) x y w;exact oC.pure hR (aP hr) (.lit hl)
 case unOp op t x =>
  obtain ⟨z, hz, e⟩ := aM.1 h;cases e;obtain ⟨hr, hl⟩ := Na hz (ev x (by simp [Op.operands])) w;exact oC.pure hR (aP hr) (.lit hl)
 case convert src dst x =>
  cases hu : P.underlying src with
  | none => simp [hu] at h
  | some d =>
   simp only [hu] at h;obtain ⟨z, hz, e⟩ := aM.1 h;cases e;have hx := ev x (by simp [Op.operands])
   cases hk : o5 P dst with
   | none => simp [hk, bO] at hz
   | some k =>
    cases hxv : ed A x <;> rw [hk, hxv] at hz <;> simp only [bO] at hz <;> try (cases hz; done)
    rename_i k0 n
    cases hz;rw [hxv] at hx;rw [hx.int_inv];have hud := Cf hk
    have hkd : P.intKind dst = k := by simp [Program.intKind, hud]
    have hr := run_convert_int (P := P) w src dst k0 n (by simp [hu]) (by rw [hkd]; exact hud);rw [hkd] at hr;exact oC.pure hR (aP hr) (.lit rfl)
 case makeFunc fn first captured =>
  cases h;refine oC.pure hR (aP (by simp [Instr.makeFunc]; rfl)) ?_;refine .func (by simp) (fun i x y hx hy => ?_) (by simp) (fun i x y hx hy => ?_)
  ·simp only [Array.getElem?_map, aM] at hx hy
   obtain ⟨p, hp, rfl⟩ := hx;obtain ⟨q, hq, rfl⟩ := hy;rw [hp] at hq; cases hq;exact ev p (by simp only [Op.operands, Array.toList_append, List.mem_append]; exact .inl (by simpa using Array.mem_of_getElem? hp))
  ·simp only [Array.getElem?_map, aM] at hx hy
   obtain ⟨p, hp, rfl⟩ := hx;obtain ⟨q, hq, rfl⟩ := hy;rw [hp] at hq; cases hq;exact ev p (by simp only [Op.operands, Array.toList_append, List.mem_append]; exact .inr (by simpa using Array.mem_of_getElem? hp))
 case makeMap t r =>
  cases r with
  | some r => simp at h
  | none =>
   simp only at h;cases h;have hp := hR.push (o := .map [] 0) (ob := .map #[] 0) (sz := 0) rfl ⟨#[], rfl, rfl, fun _ _ _ h => by simp at h⟩;refine ⟨.map (some w.heap.size), _, _, .inl (aP ?_), .map (bh.upd_same ..), hp.2, hp.1⟩;simp [Instr.makeMap]
 case makeSlice t l c =>
  obtain ⟨el, hel, h⟩ := aC.1 h;obtain ⟨e, he, h⟩ := aC.1 h;obtain ⟨by', hby, h⟩ := aC.1 h;obtain ⟨z, hz, h⟩ := aC.1 h;obtain ⟨v', w', ρ', hr, hv, hE, hR'⟩ := Ut hR hz (dJ hel) he hby h (ev l (by simp [Op.operands])) (ev c (by simp [Op.operands]));exact ⟨v', w', ρ', .inl (aP hr), hv, hE, hR'⟩
 case slice t x lo hi mx =>
  cases mx with
  | none =>
   simp only at h;obtain ⟨el, hel, h⟩ := aC.1 h;obtain ⟨e, he, h⟩ := aC.1 h;obtain ⟨z, hz, e2⟩ := aM.1 h;cases e2;have hx := ev x (by simp [Op.operands]);obtain ⟨v', hr, hv⟩ := CN (w := w) (lo' := lo.map a.eval) (hi' := hi.map a.eval) (dJ hel) he hz hx
    (by cases lo with
        | none => exact .inl ⟨rfl, rfl⟩
        | some l => exact .inr ⟨_, _, rfl, rfl, ev l (by simp [Op.operands])⟩)
    (by cases hi with
        | none => exact .inl ⟨rfl, rfl⟩
        | some l => exact .inr ⟨_, _, rfl, rfl, ev l (by simp [Op.operands])⟩)
   exact oC.pure hR (aP hr) hv
  | some mx =>
   cases lo with
   | some lo => cases hi <;> simp at h
   | none =>
    cases hi with
    | none => simp at h
    | some hi =>
     simp only at h;obtain ⟨el, hel, h⟩ := aC.1 h;obtain ⟨e, he, h⟩ := aC.1 h;obtain ⟨z, hz, e2⟩ := aM.1 h;cases e2;obtain ⟨v', hr, hv⟩ := AS (w := w) (dJ hel) he hz (ev x (by simp [Op.operands])) (ev hi (by simp [Op.operands])) (ev mx (by simp [Op.operands]));exact oC.pure hR (aP hr) hv
 case fieldAddr s x f =>
  obtain ⟨fd, hf, h⟩ := aC.1 h;obtain ⟨n, hn, h⟩ := aC.1 h
  split at h
  ·cases h
  ·rename_i h0
   obtain ⟨z, hz, e2⟩ := aM.1 h;cases e2;obtain ⟨fs, hu, hfs⟩ := ny hf;obtain ⟨v', hr, hv⟩ := ML (w := w) hu hfs hn h0 rfl hz (ev x (by simp [Op.operands]));exact oC.pure hR (aP hr) hv
 case field s x f =>
  obtain ⟨fd, hf, h⟩ := aC.1 h;obtain ⟨n, hn, h⟩ := aC.1 h;obtain ⟨z, hz, e2⟩ := aM.1 h;cases e2;obtain ⟨fs, hu, hfs⟩ := ny hf;have hx := ev x (by simp [Op.operands])
  cases hxv : ed A x <;> rw [hxv] at hz <;> try (simp [jC] at hz; done)
  rename_i xs
  rw [hxv] at hx;obtain ⟨ys, v', hys, hr, hv⟩ := Aj (w := w) hn hz hx;refine oC.pure hR (aP ?_) hv;simp [Instr.field, run_underlying hu, hfs, hys, asAgg, hr]
 case indexAddr t x i =>
  cases hu : P.underlying t with
  | none => simp [hu] at h
  | some d =>
   cases d <;> simp only [hu] at h <;> try (cases h; done)
   case slice el =>
    obtain ⟨e, he, h⟩ := aC.1 h;obtain ⟨z, hz, e2⟩ := aM.1 h;cases e2;obtain ⟨v', hr, hv⟩ := MP (w := w) hu he hz (ev x (by simp [Op.operands])) (ev i (by simp [Op.operands]));exact oC.pure hR (aP hr) hv
   case array n el =>
    obtain ⟨e, he, h⟩ := aC.1 h;obtain ⟨z, hz, e2⟩ := aM.1 h;cases e2;obtain ⟨v', hr, hv⟩ := Gq (w := w) hu he hz (ev x (by simp [Op.operands])) (ev i (by simp [Op.operands]));exact oC.pure hR (aP hr) hv
 case index t x i =>
  cases hu : P.underlying t with
  | none => simp [hu] at h
  | some d =>
   cases d <;> simp only [hu] at h <;> try (cases h; done)
   case string =>
    obtain ⟨z, hz, e2⟩ := aM.1 h;cases e2;obtain ⟨v', hr, hv⟩ := zW (w := w) hu hz (ev x (by simp [Op.operands])) (ev i (by simp [Op.operands]));exact oC.pure hR (aP hr) hv
   case array n el =>
    obtain ⟨e, he, h⟩ := aC.1 h;obtain ⟨nn, hnn, h⟩ := aC.1 h;obtain ⟨z, hz, e2⟩ := aM.1 h;cases e2;obtain ⟨v', hr, hv⟩ := zX (w := w) hu he hnn hz (ev x (by simp [Op.operands])) (ev i (by simp [Op.operands]));exact oC.pure hR (aP hr) hv
 case lookup t m k ok =>
  obtain ⟨⟨kt, et⟩, hkt, h⟩ := aC.1 h;obtain ⟨cl, hcl, h⟩ := aC.1 h;obtain ⟨z, hz, h⟩ := aC.1 h;obtain ⟨y, hy, e2⟩ := aM.1 h;cases e2;obtain ⟨v', hr, hv⟩ := z5 hR hkt hcl hz hy (ev m (by simp [Op.operands])) (ev k (by simp [Op.operands]));exact oC.pure hR (aP hr) hv
 case mapUpdate t m k x =>
  obtain ⟨⟨kt, et⟩, hkt, h⟩ := aC.1 h;obtain ⟨cl, hcl, h⟩ := aC.1 h;obtain ⟨H2, hH, e2⟩ := aM.1 h;cases e2;obtain ⟨w', hr, hE, hR'⟩ := KE hR hkt hcl hH (ev m (by simp [Op.operands])) (ev k (by simp [Op.operands])) (ev x (by simp [Op.operands]));exact ⟨undef, w', ρ, .inr ⟨Ho hr, rfl⟩, VRel.undef, hE, hR'⟩
 case extract t i =>
  obtain ⟨z, hz, e2⟩ := aM.1 h;cases e2;have hx := ev t (by simp [Op.operands])
  cases hxv : ed A t <;> rw [hxv] at hz <;> simp only [ai] at hz <;> try (cases hz; done)
  rename_i vs
  rw [hxv] at hx;obtain ⟨ys, hys, hs, he⟩ := hx.tuple_inv;have hi : i < vs.size := (Array.getElem?_eq_some_iff.1 hz).1
  have hi' : i < ys.size := by omega
  exact oC.pure hR (aP (by simp [Instr.extract, hys, hi']; rfl)) (he i _ _ hz (by simp [hi']))
 case call c =>
  obtain ⟨callee, args, ats⟩ := c;simp only at h
  cases callee with
  | value f => exact absurd rfl (hno _ f rfl)
  | invoke r m => simp at h
  | builtin b =>
   simp only at h;have hl : LRel P ρ (args.toList.map (ed A)) (args.map a.eval).toList := yy (fun x hx => ev x (by simp only [Op.operands, Call.operands, Array.toList_append, List.mem_append]; exact .inr hx));simp only [resolve, Sem.run_bind, Sem.run_pure, Result.andThen_ok, invoke];exact FI hR hl h
theorem UN {call : a7} (hcall : kH P G call) {A : List Value} {a : Act} (hA : bI P ρ A a) (hG : GlobRel ρ G) (hR : Rel P w0 B ρ H w) {o : Oper} (hok : o.op.operands.toList.all (HD G) = true)
 {v : Value} {H' : AH} (h : dx P call (ed A) o H = some (v, H')) {next : Act → World → Prop} {Q : Exit → Act → World → Prop}
 (hn : ∀ v' ρ' w', VRel P ρ' v v' → hU ρ H w ρ' H' w' → Rel P w0 B ρ' H' w' → next (a.put o.dst v') w') : o.wp P a w next Q := by
 by_cases hc : ∃ c f, o.op = .call c ∧ c.callee = .value f
 ·obtain ⟨c, f, ho, hcf⟩ := hc
  obtain ⟨dst, op, type, pos, after, guard⟩ := o;simp only at ho;subst ho;obtain ⟨callee, args, ats⟩ := c;simp only at hcf;subst hcf;have ev : ∀ x, x ∈ (Op.call { callee := .value f, args := args, argTypes := ats }).operands.toList → VRel P ρ (ed A x) (a.eval x) := fun x hx => u5 hA hG (List.all_eq_true.1 hok x hx);simp only [dx] at h;obtain ⟨⟨g, xs⟩, hfa, h⟩ := aC.1 h;simp only at h;have hl : LRel P ρ (args.toList.map (ed A)) (args.map a.eval).toList := yy (fun x hx => ev x (by simp only [Op.operands, Call.operands, Array.toList_append, List.mem_append]; exact .inr hx));obtain ⟨first, captured, hf, hx⟩ := y9 hfa (ev f (by simp [Op.operands, Call.operands])) hl;obtain ⟨⟨fn, hfn, hbody, hname⟩, hcalls⟩ := hcall g xs H v H' h;have hcl := hcalls w0 B ρ w _ hR hG hx;have hrun : (execOp a.eval { dst := dst, op := .call { callee := .value f, args := args, argTypes := ats }, type := type, pos := pos, after := after, guard := guard }).run P w =
   .ok (.enter g (first ++ args.map a.eval ++ captured)) w := by
   have hbn : ¬ (fn.body = none) := by intro hb; rw [hb] at hbody; cases hbody
   simp [execOp, resolve, hf, Deferred.ofValue, invoke, callFunc, hfn, hname, hbn]
  unfold Oper.wp;rw [hrun, Oper.upon_enter]
  have e : (first.toList ++ (args.map a.eval).toList ++ captured.toList).toArray = first ++ args.map a.eval ++ captured := by
   apply Array.ext'; simp
  rw [e] at hcl;refine hcl.mono ?_
  rintro e w' ⟨v', ρ', rfl, hv, hE, hR'⟩
  exact hn v' ρ' w' hv hE hR'
 ·exact Q6 (UM hA hG hR hok (fun c f ho hcf => hc ⟨c, f, ho, hcf⟩) h) hn
end
def jY (A : List Value) (d : Option Tmp) (v : Value) : List Value :=
 match d with
 | some d => A.set d v
 | none => A
def cN (ops : Array Oper) (A : List Value) (j : Nat) : Option Bool :=
 match ((ops[j]?).bind (·.dst)).bind (A[·]?) with
 | some (.bool b) => some b
 | _ => none
def fi (P : Program) (G : List Nat) (call : a7) (ops : Array Oper) (o : Oper) (A : List Value) (H : AH) : Option (List Value × AH) :=
 if o.op.operands.toList.all (HD G) = true then
  if Region.wanted o (cN ops A) = true then (dx P call (ed A) o H).map fun r => (jY A o.dst r.1, r.2) else some (jY A o.dst undef, H)
 else none
def cr (P : Program) (G : List Nat) (call : a7) (ops : Array Oper) : List Oper → List Value → AH → Option (List Value × AH)
 | [], A, H => some (A, H)
 | o :: rest, A, H => (fi P G call ops o A H).bind fun s => cr P G call ops rest s.1 s.2
section
variable {P : Program} {w0 : World} {B : Nat} {ρ : bh} {H : AH} {w : World} {G : List Nat} {call : a7}
theorem jm {A : List Value} {a : Act} (hA : bI P ρ A a) (d : Option Tmp) {v v' : Value} (hv : VRel P ρ v v') : bI P ρ (jY A d v) (a.put d v') := by
 cases d with
 | none => exact hA
 | some d => exact ⟨by simpa [Act.put, jY] using hA.tmps.set d hv, hA.defers⟩
theorem Ra {A : List Value} {a : Act} (hA : bI P ρ A a) (ops : Array Oper) (j : Nat) : yielded ops a.tmps j = cN ops A j := by
 unfold yielded cN
 cases hd : (ops[j]?).bind (·.dst) with
 | none => rfl
 | some t =>
  simp only [be]
  cases hx : A[t]? with
  | none =>
   have : a.tmps[t]? = none := by
    rw [List.getElem?_eq_none_iff] at hx;have := hA.tmps.1;rw [Array.getElem?_eq_none_iff];simp at this; omega
   rw [this]
  | some x =>
   obtain ⟨y, hy, hv⟩ := hA.tmps.get hx;rw [Array.getElem?_toList] at hy;rw [hy]
   cases hv with
   | lit h => rfl
   | _ => rfl
theorem sN {A : List Value} {a : Act} (hA : bI P ρ A a) (ops : Array Oper) (o : Oper) : Region.wanted o (yielded ops a.tmps) = Region.wanted o (cN ops A) := by
 unfold Region.wanted
 cases o.guard with
 | none => rfl
 | some g => simp only [Ra hA]
def yI (P : Program) (w0 : World) (B : Nat) (G : List Nat) (ρ : bh) (H : AH) (w : World) (A' : List Value) (H' : AH) (a' : Act) (w' : World) : Prop :=
 ∃ ρ', bI P ρ' A' a' ∧ GlobRel ρ' G ∧ hU ρ H w ρ' H' w' ∧ Rel P w0 B ρ' H' w'
theorem P1 (hcall : kH P G call) (ops : Array Oper) {Q : Exit → Act → World → Prop} : ∀ (l : List Oper) {ρ : bh} {A : List Value} {H : AH} {a : Act} {w : World} {A' : List Value} {H' : AH}, cr P G call ops l A H = some (A', H') →
 bI P ρ A a → GlobRel ρ G → Rel P w0 B ρ H w → (∀ a' w', yI P w0 B G ρ H w A' H' a' w' → Q .normal a' w') → wpList P ops Q l a w := by
 intro l
 induction l with
 | nil =>
  intro ρ A H a w A' H' h hA hG hR hQ;simp only [cr] at h;cases h;exact hQ a w ⟨ρ, hA, hG, hU.refl _ _ _, hR⟩
 | cons o rest ih =>
  intro ρ A H a w A' H' h hA hG hR hQ;simp only [cr] at h;obtain ⟨⟨A1, H1⟩, hs, h⟩ := aC.1 h;simp only at h;unfold fi at hs
  split at hs
  ·rename_i hok
   unfold wpList;rw [sN hA]
   split at hs
   ·rename_i hw
    rw [if_pos hw];obtain ⟨⟨v, H2⟩, ho, e⟩ := aM.1 hs;cases e;refine .inl (UN hcall hA hG hR hok ho (fun v' ρ' w' hv hE hR' => ?_));refine ih h (jm (hA.mono hE.le) o.dst hv) (hG.mono hE.le) hR' (fun a' w'' hp => ?_);obtain ⟨ρ'', h1, h2, h3, h4⟩ := hp;exact hQ a' w'' ⟨ρ'', h1, h2, hE.trans hR h3, h4⟩
   ·rename_i hw
    rw [if_neg hw];cases hs;exact ih h (jm hA o.dst VRel.undef) hG hR hQ
  ·cases hs
theorem GY (hcall : kH P G call) {id : Nat} {ops : Array Oper} {Q : Exit → Act → World → Prop} {A : List Value} {a : Act} {A' : List Value} {H' : AH} (h : cr P G call ops ops.toList A H = some (A', H'))
 (hA : bI P ρ A a) (hG : GlobRel ρ G) (hR : Rel P w0 B ρ H w) (hQ : ∀ a' w', yI P w0 B G ρ H w A' H' a' w' → Q .normal a' w') : (Code.region id ops false).wp P Q a w :=
 wp_region_list (P1 hcall ops ops.toList h hA hG hR hQ)
end
def jE : Op → Nat
 | .move _ | .assign _ | .pick .. | .build .. | .nilCheck _ | .binOp .. | .unOp .. | .convert .. | .makeFunc .. | .slice .. | .fieldAddr .. | .field .. | .indexAddr .. | .index .. | .extract .. => 0
 | .alloc _ | .box .. | .buildSlice .. | .makeMap .. | .makeSlice .. => 1
 | .load .. | .lookup .. => 2
 | .call c => match c.callee with
  | .builtin .max | .builtin .min => 0
  | .builtin .len => 2
  | _ => 3
 | _ => 3
def yP (P : Program) (ev : Operand → Value) (op : Op) (H : AH) : Option Value :=
 match op with
 | .load t a => (d9 P t).bind fun g => match g with
  | some n => aB n (ev a) H
  | none => am (ev a) H
 | .lookup t m k ok => (bS P t).bind fun kt => (cf P kt.1).bind fun fl => (bp P kt.2).bind fun z => b7 fl z (ev m) (ev k) ok H
 | .call c => match c.args.toList.map ev with
  | [x] => match (c.argTypes[0]?).bind fun t => P.underlying t with
   | some (.slice _) => match x with | .slice _ _ _ => ou x | _ => none
   | some .string => match x with | .string _ => ou x | _ => none
   | some (.map _ _) => lJ x H
   | _ => none
  | _ => none
 | _ => none
def CA (ev : Operand → Value) (op : Op) : Option Nat :=
 match op with
 | .load _ a => (sm (ev a)).map (·.1)
 | .lookup _ m _ _ => match ev m with | .map r => r | _ => none
 | .call c => match c.args.toList.map ev with
  | [.map r] => r
  | _ => none
 | _ => none
section
variable {P : Program} {w0 : World} {B : Nat} {ρ : bh} {H : AH} {w : World} {G : List Nat} {call : a7}
theorem yO {ev : Operand → Value} {o : Oper} (hk : jE o.op = 2) (H : AH) : dx P call ev o H = (yP P ev o.op H).map (·, H) := by
 obtain ⟨dst, op, type, pos, after, guard⟩ := o;simp only at hk ⊢
 cases op <;> simp [jE] at hk
 case load t a =>
  simp only [dx, yP]
  cases d9 P t with
  | none => rfl
  | some g => cases g <;> rfl
 case lookup t m k ok =>
  simp only [dx, yP]
  cases bS P t with
  | none => rfl
  | some kt =>
   simp only [be]
   cases cf P kt.1 with
   | none => rfl
   | some fl =>
    simp only [be]
    cases bp P kt.2 with
    | none => rfl
    | some z => rfl
 case call c =>
  obtain ⟨callee, args, ats⟩ := c
  cases callee <;> simp at hk
  rename_i b
  cases b <;> simp at hk
  simp only [dx, yP]
  generalize args.toList.map ev = xs
  unfold ca
  match xs with
  | [] => rfl
  | [x] =>
   simp only
   cases hb : (ats[0]?).bind fun t => P.underlying t with
   | none => rfl
   | some d => cases d <;> simp only <;> first | rfl | (cases x <;> rfl)
  | x :: y :: zs => rfl
theorem XN {ev : Operand → Value} {op : Op} {H1 H2 : AH} (h : ∀ b, CA ev op = some b → H2.get b = H1.get b) : yP P ev op H2 = yP P ev op H1 := by
 cases op <;> simp only [yP]
 case load t a =>
  have e : ∀ b o, sm (ev a) = some (b, o) → dh H2 b = dh H1 b := by
   intro b o hb;unfold dh;rw [h b (by simp [CA, hb])]
  have e1 : am (ev a) H2 = am (ev a) H1 := by
   unfold am
   cases hp : sm (ev a) with
   | none => rfl
   | some x => simp only [be]; rw [e x.1 x.2 hp]
  have e2 : ∀ n, aB n (ev a) H2 = aB n (ev a) H1 := by
   intro n;unfold aB
   cases hp : sm (ev a) with
   | none => rfl
   | some x => simp only [be]; rw [e x.1 x.2 hp]
  simp only [e1, e2]
 case lookup t m k ok =>
  have e : i6 (ev m) H2 = i6 (ev m) H1 := by
   unfold i6
   cases hm : ev m with
   | map r =>
    cases r with
    | none => rfl
    | some b => simp only; rw [h b (by simp [CA, hm])]
   | _ => rfl
  simp only [b7, e]
 case call c =>
  have hb : ∀ b, c.args.toList.map ev = [.map (some b)] → H2.get b = H1.get b := fun b hx => h b (by simp only [CA]; rw [hx])
  generalize c.args.toList.map ev = xs at hb
  match xs with
  | [] => rfl
  | [x] =>
   simp only
   have e : lJ x H2 = lJ x H1 := by
    unfold lJ
    cases x with
    | map r =>
     cases r with
     | none => rfl
     | some b => simp only; rw [hb b rfl]
    | _ => rfl
   rw [e]
  | x :: y :: zs => rfl
theorem Qw {ev : Operand → Value} {op : Op} {v : Value} (h : yP P ev op H = some v) {b : Nat} (hb : CA ev op = some b) : b < H.size := by
 cases op <;> simp only [yP, CA] at h hb <;> try (cases hb; done)
 case load t a =>
  obtain ⟨⟨b', o⟩, hp, e⟩ := aM.1 hb;simp only at e;subst e;obtain ⟨g, _, h⟩ := aC.1 h
  cases g with
  | none =>
   simp only [am, hp, be] at h;obtain ⟨cs, hc, _⟩ := aC.1 h;obtain ⟨ro, hg⟩ := jB hc;exact AH.lt_of_get hg
  | some n =>
   simp only [aB, hp, be] at h;obtain ⟨cs, hc, _⟩ := aC.1 h;obtain ⟨ro, hg⟩ := jB hc;exact AH.lt_of_get hg
 case lookup t m k ok =>
  cases hm : ev m <;> rw [hm] at hb <;> try (cases hb; done)
  simp only at hb;subst hb;obtain ⟨kt, _, h⟩ := aC.1 h;obtain ⟨fl, _, h⟩ := aC.1 h;obtain ⟨z, _, h⟩ := aC.1 h;unfold b7 at h
  split at h
  ·obtain ⟨es, hes, _⟩ := aC.1 h
   rw [hm] at hes;simp only [i6] at hes
   split at hes
   ·rename_i hg; exact AH.lt_of_get hg
   ·cases hes
  ·cases h
 case call c =>
  generalize c.args.toList.map ev = xs at h hb
  match xs, h, hb with
  | [x], h, hb =>
   cases x <;> simp only at hb <;> try (cases hb; done)
   subst hb;simp only at h
   cases hd : (c.argTypes[0]?).bind fun t => P.underlying t with
   | none => simp [hd] at h
   | some d =>
    cases d <;> simp only [hd] at h <;> try (cases h; done)
    simp only [lJ] at h
    split at h
    ·rename_i hg; exact AH.lt_of_get hg
    ·cases h
  | [], h, hb => cases h
  | x :: y :: zs, h, hb => cases h
theorem sU {ev : Operand → Value} {o : Oper} (hk : jE o.op = 0) {v : Value} {H' : AH} (h : dx P call ev o H = some (v, H')) : H' = H ∧ ∀ H2, dx P call ev o H2 = some (v, H2) := by
 have key : ∀ {x : Option Value} {H H' : AH} {v : Value}, x.map (·, H) = some (v, H') → H' = H ∧ x = some v := by
  intro x H H' v hx;obtain ⟨y, hy, e⟩ := aM.1 hx;cases e;exact ⟨rfl, hy⟩
 obtain ⟨dst, op, type, pos, after, guard⟩ := o;simp only at hk
 cases op <;> simp [jE] at hk <;> simp only [dx] at h ⊢
 case move x => cases h; exact ⟨rfl, fun _ => rfl⟩
 case assign x => cases h; exact ⟨rfl, fun _ => rfl⟩
 case pick => obtain ⟨e, hx⟩ := key h; exact ⟨e, fun _ => by rw [hx]; rfl⟩
 case nilCheck => obtain ⟨e, hx⟩ := key h; exact ⟨e, fun _ => by rw [hx]; rfl⟩
 case binOp => obtain ⟨e, hx⟩ := key h; exact ⟨e, fun _ => by rw [hx]; rfl⟩
 case unOp => obtain ⟨e, hx⟩ := key h; exact ⟨e, fun _ => by rw [hx]; rfl⟩
 case extract => obtain ⟨e, hx⟩ := key h; exact ⟨e, fun _ => by rw [hx]; rfl⟩
 case makeFunc => cases h; exact ⟨rfl, fun _ => rfl⟩
 case convert src dst x =>
  cases hu : P.underlying src with
  | none => simp [hu] at h
  | some d => simp only [hu] at h; obtain ⟨e, hx⟩ := key h; exact ⟨e, fun _ => by simp [hx]⟩
 case build t parts =>
  cases hu : P.underlying t with
  | none => simp [hu] at h
  | some d =>
   cases d <;> simp only [hu] at h ⊢ <;> try (cases h; done)
   ·obtain ⟨z, hz, h⟩ := aC.1 h
    obtain ⟨e, he, h⟩ := aC.1 h;obtain ⟨y, hy, e2⟩ := aM.1 h;cases e2;exact ⟨rfl, fun _ => by simp [hz, he, hy]⟩
   ·obtain ⟨z, hz, h⟩ := aC.1 h
    obtain ⟨e, he, h⟩ := aC.1 h;obtain ⟨y, hy, e2⟩ := aM.1 h;cases e2;exact ⟨rfl, fun _ => by simp [hz, he, hy]⟩
 case slice t x lo hi mx =>
  cases mx with
  | none =>
   simp only at h ⊢;obtain ⟨z, hz, h⟩ := aC.1 h;obtain ⟨e, he, h⟩ := aC.1 h;obtain ⟨e2, hx⟩ := key h;exact ⟨e2, fun _ => by simp [hz, he, hx]⟩
  | some m =>
   cases lo with
   | some l => cases hi <;> simp at h
   | none =>
    cases hi with
    | none => simp at h
    | some hi =>
     simp only at h ⊢;obtain ⟨z, hz, h⟩ := aC.1 h;obtain ⟨e, he, h⟩ := aC.1 h;obtain ⟨e2, hx⟩ := key h;exact ⟨e2, fun _ => by simp [hz, he, hx]⟩
 case fieldAddr s x f =>
  obtain ⟨z, hz, h⟩ := aC.1 h;obtain ⟨n, hn, h⟩ := aC.1 h
  split at h
  ·cases h
  ·rename_i h0
   obtain ⟨e2, hx⟩ := key h;exact ⟨e2, fun _ => by simp [hz, hn, h0, hx]⟩
 case field s x f =>
  obtain ⟨z, hz, h⟩ := aC.1 h;obtain ⟨n, hn, h⟩ := aC.1 h;obtain ⟨e2, hx⟩ := key h;exact ⟨e2, fun _ => by simp [hz, hn, hx]⟩
 case indexAddr t x i =>
  cases hu : P.underlying t with
  | none => simp [hu] at h
  | some d =>
   cases d <;> simp only [hu] at h ⊢ <;> try (cases h; done)
   ·obtain ⟨n, hn, h⟩ := aC.1 h
    obtain ⟨e2, hx⟩ := key h;exact ⟨e2, fun _ => by simp [hn, hx]⟩
   ·obtain ⟨n, hn, h⟩ := aC.1 h
    obtain ⟨e2, hx⟩ := key h;exact ⟨e2, fun _ => by simp [hn, hx]⟩
 case index t x i =>
  cases hu : P.underlying t with
  | none => simp [hu] at h
  | some d =>
   cases d <;> simp only [hu] at h ⊢ <;> try (cases h; done)
   ·obtain ⟨e2, hx⟩ := key h
    exact ⟨e2, fun _ => by simp [hx]⟩
   ·obtain ⟨n, hn, h⟩ := aC.1 h
    obtain ⟨m, hm, h⟩ := aC.1 h;obtain ⟨e2, hx⟩ := key h;exact ⟨e2, fun _ => by simp [hn, hm, hx]⟩
 case call c =>
  obtain ⟨callee, args, ats⟩ := c
  cases callee <;> simp at hk
  rename_i b
  cases b <;> simp at hk
  ·simp only at h ⊢
   generalize args.toList.map ev = xs at h ⊢
   unfold ca at h ⊢;obtain ⟨e, hx⟩ := key h;exact ⟨e, fun _ => by simp [hx]⟩
  ·simp only at h ⊢
   generalize args.toList.map ev = xs at h ⊢
   unfold ca at h ⊢;obtain ⟨e, hx⟩ := key h;exact ⟨e, fun _ => by simp [hx]⟩
end
section
variable {P : Program} {w0 : World} {B : Nat} {ρ : bh} {H : AH} {w : World} {G : List Nat} {call : a7}
theorem yT {A : List Value} {a : Act} (hA : bI P ρ A a) (hG : GlobRel ρ G) {o : Oper} (hok : o.op.operands.toList.all (HD G) = true) (hk : jE o.op = 1) {v : Value} {H' : AH} (h : dx P call (ed A) o H = some (v, H')) :
 ∃ c : AObj, c.rw = true ∧ H' = H.push c ∧ ∀ w : World, ∃ ob sz v', (execOp a.eval o).run P w = .ok (.value v') (w.alloc ob) ∧ oA P ρ 0 sz c (some ob) ∧
  ∀ ρ' : bh, ρ' H.size = some (w.heap.size, 0, sz) → VRel P ρ' v v' := by
 obtain ⟨dst, op, type, pos, after, guard⟩ := o;simp only at hok hk;have ev : ∀ x, x ∈ op.operands.toList → VRel P ρ (ed A x) (a.eval x) := fun x hx => u5 hA hG (List.all_eq_true.1 hok x hx)
 have cells : ∀ {cs cs' : List Value} {el : TypeId}, LRel P ρ cs cs' → oA P ρ 0 cs'.length (.cells false cs) (some (.cells cs'.toArray el)) := by
  intro cs cs' el hl;exact ⟨_, el, (0, 0), rfl, by simp, by rw [hl.1]; omega, fun _ => rfl, by rw [hl.1]; simpa using hl⟩
 cases op <;> simp [jE] at hk <;> simp only [dx] at h <;> simp only [execOp]
 case alloc t =>
  obtain ⟨z, hz, e⟩ := aM.1 h;cases e;obtain ⟨i, hi, hzi, hlit, _⟩ := cn hz;refine ⟨_, rfl, rfl, fun w => ⟨.cells z.cells.toList.toArray t, _, .pointer (some ⟨w.heap.size, 0, none⟩), aP ?_, cells (LRel.of_all hlit), fun ρ' hρ => .ptr (d := 0) (o := 0) hρ⟩⟩;simp [Instr.alloc, gY hz, newVar, newRow]
 case box t x =>
  cases h;refine ⟨_, rfl, rfl, fun w => ⟨.cells (a.eval x).cells.toList.toArray t, _, .pointer (some ⟨w.heap.size, 0, none⟩), aP ?_, cells (ev x (by simp [Op.operands])).cells, fun ρ' hρ => .ptr (d := 0) (o := 0) hρ⟩⟩;simp [Instr.box, newVar, newRow]
 case makeMap t r =>
  cases r with
  | some r => simp at h
  | none =>
   simp only at h;cases h;refine ⟨_, rfl, rfl, fun w => ⟨.map #[] 0, 0, .map (some w.heap.size), aP ?_, ⟨#[], rfl, rfl, fun _ _ _ h => by simp at h⟩, fun ρ' hρ => .map hρ⟩⟩;simp [Instr.makeMap]
 case buildSlice t len parts =>
  have hx : ∀ x ∈ parts.toList.map (·.2), VRel P ρ (ed A x) (a.eval x) := fun x hx => ev x (by simpa [Op.operands] using hx);obtain ⟨el, hel, h⟩ := aC.1 h;obtain ⟨e, he, h⟩ := aC.1 h;obtain ⟨z, hz, h⟩ := aC.1 h
  split at h
  ·rename_i hc
   obtain ⟨cs, hcs, e2⟩ := aM.1 h;cases e2;obtain ⟨h0, hze, hbig⟩ := hc;obtain ⟨i, hi, hzi, hlit, _⟩ := cn hz;obtain ⟨out', ho, hr⟩ := tE _ hcs (tR hlit len) (qp parts hx);have hzf := nQ z.cells len (by omega);rw [hze] at hzf
   have hza : ((Array.range (len * e)).map fun x => z.cells[x % e]!) = ((List.replicate len z.cells.toList).flatten).toArray := by rw [← hzf]
   have hlo : out'.length = len * e := by
    have hfl : ∀ {parts : List (Nat × Value)} {cells out : List Value}, cA (fun i => some (i * e, e)) cells parts = some out → out.length = cells.length := by
     intro parts
     induction parts with
     | nil => intro cells out h; simp [cA] at h; rw [h]
     | cons p parts ih =>
      intro cells out h;obtain ⟨i, v⟩ := p;simp only [cA, be] at h
      split at h
      ·rename_i hc
       rw [ih h, jn];simp; omega
      ·cases h
    rw [← hr.1, hfl hcs];simp [hze]
   have hnb : ¬ (len * e > 2 ^ 24) := by omega
   refine ⟨_, rfl, rfl, fun w => ⟨.cells out'.toArray el, _, .slice (some ⟨w.heap.size, 0, none⟩) len len, aP ?_, cells hr, fun ρ' hρ => .slice (d := 0) (o := 0) hρ (by rw [hlo]; omega) (bf _) h0⟩⟩
   by_cases hl0 : len = 0
   ·subst hl0
    rw [Nat.zero_mul] at hnb;have hr0 : (Array.range 0) = (#[] : Array Nat) := rfl;have ho0 : (List.replicate 0 z.cells.toList).flatten.toArray = (#[] : Array Value) := rfl;rw [ho0] at ho;simp only [Instr.buildSlice, Sem.run_bind, run_underlying (dJ hel), Result.andThen_ok, cj he, Sem.run_ite, Nat.zero_mul, hnb, if_false, Sem.run_pure, if_true, hr0, Array.map_empty, ho, newRow, run_newObj, Nat.zero_add]
    rfl
   have hne : ¬ (len * e = 0) := by
    intro h
    rcases Nat.mul_eq_zero.1 h with h | h <;> omega
   simp only [Instr.buildSlice, Sem.run_bind, run_underlying (dJ hel), Result.andThen_ok, cj he, Sem.run_ite, hnb, if_false, Sem.run_pure, hne, gY hz, hze, hza, ho, newRow, run_newObj, Nat.zero_add]
   rfl
  ·cases h
 case makeSlice t l c =>
  obtain ⟨el, hel, h⟩ := aC.1 h;obtain ⟨e, he, h⟩ := aC.1 h;obtain ⟨by', hby, h⟩ := aC.1 h;obtain ⟨z, hz, h⟩ := aC.1 h;have hl := ev l (by simp [Op.operands]);have hc := ev c (by simp [Op.operands])
  cases hlv : ed A l <;> rw [hlv] at h <;> simp only [jV] at h <;> try (cases h; done)
  cases hcv : ed A c <;> rw [hcv] at h <;> simp only at h <;> try (cases h; done)
  rename_i k1 l0 k2 c0
  rw [hlv] at hl;rw [hcv] at hc
  split at h
  ·rename_i hcond
   obtain ⟨h0, rfl, hbig, hroom, hpos, hzl⟩ := hcond;cases h;rw [hl.int_inv, hc.int_inv];obtain ⟨i, hi, hzi, hlit, _⟩ := cn hz;have hie := CJ he hi;have hib := y6 hby hi;unfold room at hbig hroom
   have hln : l0 = (l0.toNat : Int) := by omega
   have hbytes : (i.bytes : Int) * l0 ≤ 281474976710656 := by
    rw [hib, hln, ← Int.natCast_mul]
    have : by' * l0.toNat ≤ 140737488355328 := by rw [Nat.mul_comm]; exact hbig
    omega
   have hzs : z.cells.size = e := by simpa using hzl
   have hm : madeCells z.cells (l0.toNat * i.size) = ((List.replicate l0.toNat z.cells.toList).flatten).toArray := by
    have hzf := nQ z.cells l0.toNat (by omega);rw [hzs] at hzf;unfold madeCells;rw [hie, ← hzf, hzs]
   refine ⟨_, rfl, rfl, fun w => ⟨.cells ((List.replicate l0.toNat z.cells.toList).flatten).toArray el, _, .slice (some ⟨w.heap.size, 0, none⟩) l0.toNat l0.toNat, aP ?_, cells (tR hlit l0.toNat), fun ρ' hρ => .slice (d := 0) (o := 0) hρ (by simp [hzs]) (bf _) hpos⟩⟩;have hrun := run_make (P := P) w t el i z (dJ hel) hi hzi k1 k2 l0 l0 h0 (Int.le_refl _) hbytes (by omega);rw [hm] at hrun;exact hrun
  ·cases h
 case call c =>
  obtain ⟨callee, args, ats⟩ := c
  cases callee <;> simp at hk
  rename_i b
  cases b <;> simp at hk
theorem mo {ev ev' : Operand → Value} {o : Oper} (h : ∀ x ∈ o.op.operands.toList, ev x = ev' x) (H : AH) : dx P call ev o H = dx P call ev' o H := by
 obtain ⟨dst, op, type, pos, after, guard⟩ := o;simp only at h
 have pairs : ∀ ps : Array (Nat × Operand), (∀ x ∈ ps.toList.map (·.2), ev x = ev' x) → (ps.toList.map fun p => (p.1, ev p.2)) = ps.toList.map fun p => (p.1, ev' p.2) := by
  intro ps hp;apply List.map_congr_left;intro p hm;rw [hp p.2 (List.mem_map.2 ⟨p, hm, rfl⟩)]
 cases op <;> simp only [dx] <;> simp only [Op.operands] at h
 case build t ps => simp only [pairs ps (fun x hx => h x (by simpa using hx))]
 case buildSlice t n ps => simp only [pairs ps (fun x hx => h x (by simpa using hx))]
 case makeFunc fn first captured =>
  rw [Array.map_congr_left (xs := first) (f := ev) (g := ev') fun x hx => h x (by simp; exact .inl hx), Array.map_congr_left (xs := captured) (f := ev) (g := ev') fun x hx => h x (by simp; exact .inr hx)]
 case call c =>
  have hargs : c.args.toList.map ev = c.args.toList.map ev' := List.map_congr_left fun x hx => h x (by simp only [Call.operands, Array.toList_append, List.mem_append]; exact .inr hx)
  cases hc : c.callee with
  | value f => simp only [hargs, h f (by simp [Call.operands, hc])]
  | invoke r m => rfl
  | builtin b => simp only [hargs]
 case makeMap t r => cases r <;> rfl
 case slice t x lo hi mx =>
  have hx := h x (by simp)
  cases lo <;> cases hi <;> cases mx <;> simp_all
 all_goals (first | rfl | (simp_all; done))
theorem pW {ev ev' : Operand → Value} {op : Op} (h : ∀ x ∈ op.operands.toList, ev x = ev' x) (H : AH) : yP P ev op H = yP P ev' op H := by
 cases op <;> simp only [yP] <;> simp only [Op.operands] at h
 case load t a => rw [h a (by simp)]
 case lookup t m k ok => rw [h m (by simp), h k (by simp)]
 case call c =>
  have hargs : c.args.toList.map ev = c.args.toList.map ev' := List.map_congr_left fun x hx => h x (by simp only [Call.operands, Array.toList_append, List.mem_append]; exact .inr hx);rw [hargs]
def ga (call : a7) : Prop := ∀ f args H v H', call f args H = some (v, H') → H.size ≤ H'.size
theorem Fw (hm : ga call) {ev : Operand → Value} {o : Oper} {H H' : AH} {v : Value} (h : dx P call ev o H = some (v, H')) : H.size ≤ H'.size := by
 have key : ∀ {x : Option Value} {H H' : AH} {v : Value}, x.map (·, H) = some (v, H') → H.size ≤ H'.size := by
  intro x H H' v hx;obtain ⟨y, hy, e⟩ := aM.1 hx;cases e;exact bf _
 by_cases hk : jE o.op = 0
 ·rw [(sU hk h).1]; exact bf _
 by_cases hk2 : jE o.op = 2
 ·rw [yO hk2] at h; exact key h
 obtain ⟨dst, op, type, pos, after, guard⟩ := o;simp only at hk hk2
 cases op <;> simp [jE] at hk hk2 <;> simp only [dx] at h <;> try (cases h; done)
 case alloc t => obtain ⟨z, hz, e⟩ := aM.1 h; cases e; rw [AH.size_push]; omega
 case box t x => cases h; rw [AH.size_push]; omega
 case makeMap t r =>
  cases r with
  | some r => simp at h
  | none => simp only at h; cases h; rw [AH.size_push]; omega
 case buildSlice t n ps =>
  obtain ⟨el, hel, h⟩ := aC.1 h;obtain ⟨e, he, h⟩ := aC.1 h;obtain ⟨z, hz, h⟩ := aC.1 h
  split at h
  ·obtain ⟨cs, hcs, e2⟩ := aM.1 h
   cases e2;rw [AH.size_push]; omega
  ·cases h
 case makeSlice t l c =>
  obtain ⟨el, hel, h⟩ := aC.1 h;obtain ⟨e, he, h⟩ := aC.1 h;obtain ⟨by', hby, h⟩ := aC.1 h;obtain ⟨z, hz, h⟩ := aC.1 h;unfold jV at h
  split at h
  ·split at h
   ·cases h; rw [AH.size_push]; omega
   ·cases h
  ·cases h
 case store t x y =>
  obtain ⟨n, hn, h⟩ := aC.1 h;obtain ⟨H2, hH, e⟩ := aM.1 h;cases e;unfold dg at hH;obtain ⟨a, ha, hH⟩ := aC.1 hH
  split at hH
  ·split at hH
   ·cases hH; rw [AH.size_set]; exact bf _
   ·cases hH
  ·cases hH
 case mapUpdate t m k x =>
  obtain ⟨kt, hkt, h⟩ := aC.1 h;obtain ⟨cl, hcl, h⟩ := aC.1 h;obtain ⟨H2, hH, e⟩ := aM.1 h;cases e;unfold dv at hH
  split at hH
  ·split at hH
   ·split at hH
    ·obtain ⟨r, hr, e⟩ := aM.1 hH
     cases r with
     | none => subst e; rw [AH.size_set]; exact bf _
     | some p => subst e; rw [AH.size_set]; exact bf _
    ·cases hH
   ·cases hH
  ·cases hH
 case call c =>
  obtain ⟨callee, args, ats⟩ := c;simp only at h
  cases callee with
  | value f =>
   simp only at h;obtain ⟨fa, hfa, h⟩ := aC.1 h;exact hm _ _ _ _ _ h
  | invoke r m => simp at h
  | builtin b =>
   simp only at h;unfold ca at h
   split at h
   ·simp at hk2
   ·simp at hk
   ·simp at hk
   ·obtain ⟨t0, ht0, h⟩ := aC.1 h
    obtain ⟨el, hel, h⟩ := aC.1 h;obtain ⟨e, he, h⟩ := aC.1 h;obtain ⟨by', hby, h⟩ := aC.1 h;obtain ⟨z, hz, h⟩ := aC.1 h
    split at h
    ·unfold dX at h
     obtain ⟨r, hr, h⟩ := aC.1 h
     split at h
     ·split at h
      ·split at h
       ·split at h
        ·cases h; exact bf _
        ·split at h
         ·cases h; rw [AH.size_push]; omega
         ·cases h
       ·cases h
      ·split at h
       ·cases h; exact bf _
       ·split at h
        ·split at h
         ·cases h; rw [AH.size_push]; omega
         ·cases h
        ·split at h
         ·split at h
          ·cases h; rw [AH.size_push, AH.size_set]; omega
          ·cases h
         ·cases h
      ·cases h
     ·cases h
    ·cases h
   ·obtain ⟨t0, ht0, h⟩ := aC.1 h
    obtain ⟨kt, hkt, h⟩ := aC.1 h;obtain ⟨cl, hcl, h⟩ := aC.1 h;obtain ⟨H2, hH, e⟩ := aM.1 h;cases e;unfold lH at hH
    split at hH
    ·split at hH
     ·split at hH
      ·obtain ⟨r, hr, e⟩ := aM.1 hH
       cases r with
       | none => subst e; rw [AH.size_set]; exact bf _
       | some p => subst e; rw [AH.size_set]; exact bf _
      ·cases hH
     ·cases hH
    ·cases hH
   ·cases h
end
def z7 (acc : List Nat) (o : Oper) : Nat := o.after.toList.foldl (fun s e => if Region.binds .any e && decide (e.on < acc.length) then s ||| (2 ^ e.on ||| acc.getD e.on 0) else s) 0
def bz (ops : List Oper) : List Nat := ops.foldl (fun acc o => acc ++ [z7 acc o]) []
def fb (ms : List Nat) (i j : Nat) : Bool := (ms.getD j 0).testBit i
theorem Jy {acc : List Nat} {o : Oper} {i : Nat} (h : (z7 acc o).testBit i = true) : ∃ e ∈ o.after, Region.binds .any e = true ∧ e.on < acc.length ∧ (i = e.on ∨ (acc.getD e.on 0).testBit i = true) := by
 have key : ∀ (l : List Edge) (s : Nat), (l.foldl (fun s e => if Region.binds .any e && decide (e.on < acc.length) then s ||| (2 ^ e.on ||| acc.getD e.on 0) else s) s).testBit i = true →
  s.testBit i = true ∨ ∃ e ∈ l, Region.binds .any e = true ∧ e.on < acc.length ∧ (i = e.on ∨ (acc.getD e.on 0).testBit i = true) := by
  intro l
  induction l with
  | nil => intro s h; exact .inl h
  | cons e l ih =>
   intro s h;rw [List.foldl_cons] at h
   rcases ih _ h with h1 | ⟨e', he', hh⟩
   ·split at h1
    ·rename_i hc
     simp only [Bool.and_eq_true, decide_eq_true_eq] at hc;rw [Nat.testBit_or, Nat.testBit_or, Nat.testBit_two_pow] at h1;simp only [Bool.or_eq_true, decide_eq_true_eq] at h1
     rcases h1 with h1 | h1 | h1
     ·exact .inl h1
     ·exact .inr ⟨e, by simp, hc.1, hc.2, .inl h1.symm⟩
     ·exact .inr ⟨e, by simp, hc.1, hc.2, .inr h1⟩
    ·exact .inl h1
   ·exact .inr ⟨e', by simp [he'], hh⟩
 rcases key o.after.toList 0 h with h | ⟨e, he, hh⟩
 ·simp at h
 ·exact ⟨e, by simpa using he, hh⟩
theorem Nu {α : Type} {p : List α → Prop} (h0 : p []) (h1 : ∀ l a, p l → p (l ++ [a])) (l : List α) : p l := by
 have key : ∀ m : List α, p m.reverse := by
  intro m
  induction m with
  | nil => exact h0
  | cons a m ih => rw [List.reverse_cons]; exact h1 _ _ ih
 have := key l.reverse
 rwa [List.reverse_reverse] at this
theorem z9 (l : List Oper) (o : Oper) : bz (l ++ [o]) = bz l ++ [z7 (bz l) o] := by
 unfold bz; rw [List.foldl_append]; rfl
theorem j1 : ∀ l : List Oper, (bz l).length = l.length := by
 refine Nu rfl (fun l o ih => ?_);rw [z9]; simp [ih]
theorem z8 : ∀ (l : List Oper) (j : Nat) (o : Oper), l[j]? = some o → (bz l).getD j 0 = z7 (bz (l.take j)) o := by
 refine Nu (fun j o h => by simp at h) (fun l o' ih => ?_)
 ·intro j o h
  rw [z9]
  by_cases hj : j < l.length
  ·rw [List.getElem?_append_left hj] at h
   have e1 : (bz l ++ [z7 (bz l) o']).getD j 0 = (bz l).getD j 0 := by
    rw [List.getD_eq_getElem?_getD, List.getElem?_append_left (by rw [j1]; exact hj), ← List.getD_eq_getElem?_getD]
   rw [e1, ih j o h, List.take_append_of_le_length (by omega)]
  ·have hl : j = l.length := by
    have := (Em.1 h).1;simp at this; omega
   subst hl;simp at h;subst h;rw [List.getD_eq_getElem?_getD, List.getElem?_append_right (by rw [j1]; exact bf _), j1];simp
theorem xm (l : List Oper) (j k : Nat) (hk : k < j) (hj : j ≤ l.length) : (bz (l.take j)).getD k 0 = (bz l).getD k 0 := by
 have h1 : k < l.length := by omega
 have h2 : (l.take j)[k]? = some l[k] := by rw [List.getElem?_take, if_pos hk, br h1]
 rw [z8 (l.take j) k _ h2, z8 l k l[k] (br h1), List.take_take]
 congr 2
 congr 1
 omega
theorem iP {ops : Array Oper} {L : Nat → Bool} (hcl : ∀ k o, ops[k]? = some o → L k = true → ∀ e ∈ o.after, Region.binds .any e = true → L e.on = true) :
 ∀ (j : Nat) (o : Oper), ops[j]? = some o → (∀ e ∈ o.after, Region.binds .any e = true → L e.on = true) → ∀ i, fb (bz ops.toList) i j = true → L i = true := by
 intro j
 induction j using Nat.strongRecOn with
 | _ j ih =>
  intro o ho hready i hfb;unfold fb at hfb
  have ho' : ops.toList[j]? = some o := by simpa using ho
  have hj : j < ops.toList.length := (Em.1 ho').1;rw [z8 ops.toList j o ho'] at hfb;obtain ⟨e, he, hb, hlt, hi⟩ := Jy hfb;rw [j1, List.length_take] at hlt
  have hej : e.on < j := by omega
  have hL := hready e he hb
  rcases hi with rfl | hi
  ·exact hL
  ·rw [xm _ j e.on hej (by omega)] at hi
   have hok : e.on < ops.size := by simp at hj; omega
   exact ih e.on hej ops[e.on] (by simp [hok]) (hcl e.on _ (by simp [hok]) hL) i hi
structure Tra (P : Program) (G : List Nat) (call : a7) (ops : Array Oper) where
 s : Nat → List Value × AH
 val : Nat → Value
 step : ∀ i o, ops[i]? = some o → o.op.operands.toList.all (HD G) = true ∧ (s (i + 1)).1 = jY (s i).1 o.dst (val i) ∧
  ((Region.wanted o (cN ops (s i).1) = true ∧ dx P call (ed (s i).1) o (s i).2 = some (val i, (s (i + 1)).2)) ∨
   (Region.wanted o (cN ops (s i).1) = false ∧ val i = undef ∧ (s (i + 1)).2 = (s i).2))
 back : ∀ j o, ops[j]? = some o → ∀ e ∈ o.after, Region.binds .any e = true → e.on < j
 pair : ∀ i j oi oj, i < j → ops[i]? = some oi → ops[j]? = some oj → fb (bz ops.toList) i j = true ∨ (oi.apart ops oj = true ∧ ¬ (jE oi.op = 3 ∧ jE oj.op = 3))
 look : ∀ j e oj oe, ops[j]? = some oj → ops[e]? = some oe → jE oj.op = 2 → jE oe.op = 3 → fb (bz ops.toList) e j = false → fb (bz ops.toList) j e = false →
  yP P (ed (s j).1) oj.op (s (if e < j then e else e + 1)).2 = yP P (ed (s j).1) oj.op (s j).2
section
variable {P : Program} {w0 : World} {B : Nat} {ρ : bh} {H : AH} {w : World} {G : List Nat} {call : a7} {ops : Array Oper}
def AD (T : Tra P G call ops) (L : Nat → Bool) : Nat → List Value
 | 0 => (T.s 0).1
 | k + 1 => match ops[k]? with
  | some o => if L k = true then jY (AD T L k) o.dst (T.val k) else AD T L k
  | none => AD T L k
theorem lz (A : List Value) (d : Option Tmp) (v : Value) : (jY A d v).length = A.length := by cases d <;> simp [jY]
theorem sV {A : List Value} {d : Option Tmp} {v : Value} {t : Nat} (h : d ≠ some t) : (jY A d v)[t]? = A[t]? := by
 cases d with
 | none => rfl
 | some d => simp only [jY]; rw [List.getElem?_set_ne (fun e => h (by rw [e]))]
theorem yb {A : List Value} {t : Nat} {v : Value} : (jY A (some t) v)[t]? = if t < A.length then some v else none := by
 simp only [jY];rw [List.getElem?_set];simp
theorem NO (T : Tra P G call ops) (L : Nat → Bool) : ∀ k, (AD T L k).length = (T.s 0).1.length := by
 intro k
 induction k with
 | zero => rfl
 | succ k ih =>
  simp only [AD]
  split
  ·split
   ·rw [lz, ih]
   ·exact ih
  ·exact ih
theorem Vl (T : Tra P G call ops) : ∀ k, k ≤ ops.size → (T.s k).1.length = (T.s 0).1.length := by
 intro k
 induction k with
 | zero => intro _; rfl
 | succ k ih =>
  intro hk
  have ho : ops[k]? = some ops[k] := by simp [Nat.lt_of_succ_le hk]
  rw [(T.step k _ ho).2.1, lz, ih (by omega)]
theorem Yi (T : Tra P G call ops) {L : Nat → Bool} {j t : Nat} (hj : j ≤ ops.size) (h1 : ∀ i o, ops[i]? = some o → i < j → o.dst = some t → L i = true) (h2 : ∀ i o, ops[i]? = some o → j ≤ i → o.dst = some t → L i = false) :
 (AD T L ops.size)[t]? = (T.s j).1[t]? := by
 have a1 : ∀ k, k ≤ j → (AD T L k)[t]? = (T.s k).1[t]? := by
  intro k
  induction k with
  | zero => intro _; rfl
  | succ k ih =>
   intro hk
   have hlt : k < ops.size := by omega
   have ho : ops[k]? = some ops[k] := by simp [hlt]
   simp only [AD, ho];rw [(T.step k _ ho).2.1]
   by_cases hd : (ops[k]).dst = some t
   ·rw [if_pos (h1 k _ ho (by omega) hd), hd, yb, yb, NO, Vl T k (by omega)]
   ·rw [sV hd]
    split
    ·rw [sV hd]; exact ih (by omega)
    ·exact ih (by omega)
 have a2 : ∀ k, j ≤ k → k ≤ ops.size → (AD T L k)[t]? = (AD T L j)[t]? := by
  intro k
  induction k with
  | zero => intro hk _; rw [show j = 0 from by omega]
  | succ k ih =>
   intro hk hs
   by_cases he : j = k + 1
   ·rw [he]
   ·have hlt : k < ops.size := by omega
    have ho : ops[k]? = some ops[k] := by simp [hlt]
    simp only [AD, ho]
    by_cases hd : (ops[k]).dst = some t
    ·rw [if_neg (by rw [h2 k _ ho (by omega) hd]; simp)]; exact ih (by omega) (by omega)
    ·split
     ·rw [sV hd]; exact ih (by omega) (by omega)
     ·exact ih (by omega) (by omega)
 rw [a2 _ hj (bf _), a1 j (bf _)]
theorem YX (T : Tra P G call ops) {L : Nat → Bool} {j : Nat} {o : Oper} (ho : ops[j]? = some o) (hj : L j = false) (hlater : ∀ i oi, ops[i]? = some oi → j < i → L i = true → ∀ t, o.dst = some t → oi.dst ≠ some t) :
 AD T (fun i => if i = j then true else L i) ops.size = jY (AD T L ops.size) o.dst (T.val j) := by
 have key : ∀ k, k ≤ ops.size → AD T (fun i => if i = j then true else L i) k = if j < k then jY (AD T L k) o.dst (T.val j) else AD T L k := by
  intro k
  induction k with
  | zero => intro _; simp [AD]
  | succ k ih =>
   intro hk
   have hlt : k < ops.size := by omega
   have hok : ops[k]? = some ops[k] := by simp [hlt]
   simp only [AD, hok];rw [ih (by omega)]
   by_cases hkj : k = j
   ·subst hkj
    rw [ho] at hok;cases hok;simp [hj]
   ·simp only [if_neg hkj]
    by_cases hjk : j < k
    ·have h3 : j < k + 1 := by omega
     rw [if_pos hjk, if_pos h3]
     by_cases hL : L k = true
     ·rw [if_pos hL, if_pos hL]
      -- two slots, or none
      cases hd : o.dst with
      | none => rfl
      | some t =>
       have hne := hlater k _ hok hjk hL t hd
       cases hdk : (ops[k]).dst with
       | none => rfl
       | some u =>
        have : t ≠ u := fun e => hne (by rw [hdk, e]);simp only [jY];rw [List.set_comm _ _ this]
     ·rw [if_neg hL, if_neg hL]
    ·have h3 : ¬ j < k + 1 := by omega
     rw [if_neg hjk, if_neg h3]
 rw [key _ (bf _), if_pos (by have := (Array.getElem?_eq_some_iff.1 ho).1; omega)]
theorem Ww (T : Tra P G call ops) : ∀ k, AD T (fun _ => false) k = (T.s 0).1 := by
 intro k
 induction k with
 | zero => rfl
 | succ k ih => simp only [AD]; split <;> simp [ih]
theorem YW (T : Tra P G call ops) {L : Nat → Bool} (h : ∀ i, i < ops.size → L i = true) : AD T L ops.size = (T.s ops.size).1 := by
 apply List.ext_getElem?;intro t;exact Yi T (bf _) (fun i o ho hi _ => h i hi) (fun i o ho hi _ => by have := (Array.getElem?_eq_some_iff.1 ho).1; omega)
theorem Rel.agree {H2 : AH} (h : Rel P w0 B ρ H w) (ha : ∀ b x, ρ b = some x → b < H2.size ∧ H2.get b = H.get b) : Rel P w0 B ρ H2 w where
 base := h.base
 below := h.below
 dom := fun b x hx => (ha b x hx).1
 blk := h.blk
 obj := fun b c d sz o hx ho => h.obj b c d sz o hx (by rw [← (ha b _ hx).2]; exact ho)
 own := fun b c d sz o hx ho => h.own b c d sz o hx (by rw [← (ha b _ hx).2]; exact ho)
 ro := fun b c d sz cs hx ho => h.ro b c d sz cs hx (by rw [← (ha b _ hx).2]; exact ho)
 inj := fun b b' c d d' sz sz' o o' hx hx' ho ho' => h.inj b b' c d d' sz sz' o o' hx hx' (by rw [← (ha b _ hx).2]; exact ho) (by rw [← (ha b' _ hx').2]; exact ho')
def bh.below (ρ : bh) (m : Nat) : bh := fun b => if b < m then ρ b else none
theorem bh.below_some {ρ : bh} {m b : Nat} {x : Nat × Nat × Nat} (h : ρ.below m b = some x) : b < m ∧ ρ b = some x := by
 unfold bh.below at h
 split at h
 ·exact ⟨by assumption, h⟩
 ·cases h
theorem bh.below_lt {ρ : bh} {m b : Nat} (h : b < m) : ρ.below m b = ρ b := by simp [bh.below, h]
theorem Rel.fill (h : Rel P w0 B ρ H w) {b : Nat} (hb : ρ b = none) {o : AObj} {ob : Obj} {sz : Nat} (hrw : o.rw = true) (hnew : oA P ρ 0 sz o (some ob)) {H2 : AH} (hs : b < H2.size) (hg : H2.get b = some o)
 (ha : ∀ b' x, ρ b' = some x → b' < H2.size ∧ H2.get b' = H.get b') : Rel P w0 B (ρ.upd b (w.heap.size, 0, sz)) H2 (w.alloc ob) := by
 have hB := h.size;have hle := bh.upd_le (x := (w.heap.size, 0, sz)) hb;have hheap : ∀ k, k < w.heap.size → (w.alloc ob).heap[k]? = w.heap[k]? := fun k hk => Below.heap_alloc w ob k hk;have hlast : (w.alloc ob).heap[w.heap.size]? = some ob := heap_alloc_new w ob
 have cases' : ∀ {b1 x}, ρ.upd b (w.heap.size, 0, sz) b1 = some x → (b1 = b ∧ x = (w.heap.size, 0, sz)) ∨ (b1 ≠ b ∧ ρ b1 = some x) := by
  intro b1 x hx
  by_cases e : b1 = b
  ·subst e; rw [bh.upd_same] at hx; exact .inl ⟨rfl, (fg hx).symm⟩
  ·rw [bh.upd_ne e] at hx; exact .inr ⟨e, hx⟩
 refine ⟨h.base, h.below.alloc hB ob, ?_, ?_, ?_, ?_, ?_, ?_⟩
 ·intro b1 x hx
  rcases cases' hx with ⟨rfl, _⟩ | ⟨_, hx⟩
  ·exact hs
  ·exact (ha b1 x hx).1
 ·intro b1 c d sz1 hx
  rw [World.size_alloc]
  rcases cases' hx with ⟨rfl, e⟩ | ⟨_, hx⟩
  ·cases e; omega
  ·have := h.blk b1 c d sz1 hx; omega
 ·intro b1 c d sz1 o1 hx ho1
  rcases cases' hx with ⟨rfl, e⟩ | ⟨_, hx⟩
  ·cases e; rw [hg] at ho1; cases ho1; rw [hlast]; exact hnew.mono hle
  ·rw [(ha b1 _ hx).2] at ho1
   rw [hheap c (h.blk b1 c d sz1 hx)]; exact (h.obj b1 c d sz1 o1 hx ho1).mono hle
 ·intro b1 c d sz1 o1 hx ho1 hr1
  rcases cases' hx with ⟨rfl, e⟩ | ⟨_, hx⟩
  ·cases e; exact hB
  ·rw [(ha b1 _ hx).2] at ho1; exact h.own b1 c d sz1 o1 hx ho1 hr1
 ·intro b1 c d sz1 cs hx ho1
  rcases cases' hx with ⟨rfl, e⟩ | ⟨_, hx⟩
  ·rw [hg] at ho1; cases ho1; simp [AObj.rw] at hrw
  ·rw [(ha b1 _ hx).2] at ho1; exact h.ro b1 c d sz1 cs hx ho1
 ·intro b1 b2 c d1 d2 sz1 sz2 o1 o2 hx1 hx2 ho1 ho2 hr1 hr2
  rcases cases' hx1 with ⟨e1, e⟩ | ⟨n1, hx1⟩ <;> rcases cases' hx2 with ⟨e2, e'⟩ | ⟨n2, hx2⟩
  ·rw [e1, e2]
  ·cases e; have := h.blk _ _ _ _ hx2; omega
  ·cases e'; have := h.blk _ _ _ _ hx1; omega
  ·rw [(ha b1 _ hx1).2] at ho1; rw [(ha b2 _ hx2).2] at ho2
   exact h.inj _ _ _ _ _ _ _ _ _ hx1 hx2 ho1 ho2 hr1 hr2
end
section
variable {P : Program} {w0 : World} {B : Nat} {ρ : bh} {H : AH} {w : World} {G : List Nat} {call : a7}
def fW (P : Program) (ρ : bh) (w : World) (r : Result Next) (v : Value) : Prop := ∃ v', r = .ok (.value v') w ∧ VRel P ρ v v'
theorem fW.mk {r : Result Next} {v v' : Value} (hr : r = .ok (.value v') w) (hv : VRel P ρ v v') : fW P ρ w r v := ⟨v', hr, hv⟩
theorem C3 (hR : Rel P w0 B ρ H w) {b : Builtin} {ts : Array TypeId} {t : TypeId} {cs : Array Bool} {xs : List Value} {ys : Array Value} (hl : LRel P ρ xs ys.toList) (hb : b = .len ∨ b = .max ∨ b = .min) {v : Value} {H' : AH} (h : ca P b ts xs H = some (v, H')) :
 fW P ρ w ((builtin b ts t cs ys).run P w) v := by
 unfold ca at h
 split at h
 ·-- len
  rename_i x
  obtain ⟨x', rfl, hx⟩ := M4 hl rfl
  cases hts : ts[0]? with
  | none => simp [hts] at h
  | some t0 =>
   simp only [hts, be] at h
   cases hu : P.underlying t0 with
   | none => simp [hu] at h
   | some d =>
    cases d <;> simp only [hu] at h <;> try (cases h; done)
    case string =>
     cases x <;> simp only at h <;> try (cases h; done)
     obtain ⟨y, hy, e⟩ := aM.1 h;cases e;simp [ou] at hy;subst hy;rw [hx.string_inv];exact fW.mk (by simp [builtin, Builtin.len_, hts, run_underlying hu, goInt]) (.lit rfl)
    case slice el =>
     cases x <;> simp only at h <;> try (cases h; done)
     obtain ⟨y, hy, e⟩ := aM.1 h;cases e;simp [ou] at hy;subst hy;obtain ⟨a', k', rfl, _⟩ := hx.anyslice_inv;exact fW.mk (by simp [builtin, Builtin.len_, hts, run_underlying hu, goInt]) (.lit rfl)
    case map k el =>
     obtain ⟨y, hy, e⟩ := aM.1 h;cases e
     cases x <;> simp only [lJ] at hy <;> try (cases hy; done)
     rename_i r
     cases r with
     | none =>
      simp only at hy;cases hy;rw [hx.nilmap_inv];exact fW.mk (by simp [builtin, Builtin.len_, hts, run_underlying hu, goInt]) (.lit rfl)
     | some b =>
      simp only at hy
      split at hy
      ·rename_i es c hg
       cases hy;obtain ⟨c', d, sz, hb, rfl⟩ := hx.map_inv;obtain ⟨es', hw, hrel⟩ := hR.map hb hg
       have hsz : es'.size = es.length := by simpa using hrel.1
       exact fW.mk (by simp [builtin, Builtin.len_, hts, run_underlying hu, d5 hw, goInt, hsz]) (.lit rfl)
      ·cases hy
 ·obtain ⟨y, hy, e⟩ := aM.1 h
  cases e;obtain ⟨hr, hv⟩ := MX (w := w) hl hy ts t;exact fW.mk (by simp only [builtin]; exact aP hr) (.lit hv)
 ·obtain ⟨y, hy, e⟩ := aM.1 h
  cases e;obtain ⟨hr, hv⟩ := MY (w := w) hl hy ts t;exact fW.mk (by simp only [builtin]; exact aP hr) (.lit hv)
 ·rcases hb with hb | hb | hb <;> cases hb
 ·rcases hb with hb | hb | hb <;> cases hb
 ·cases h
theorem GO {call : a7} {A : List Value} {a : Act} (hA : bI P ρ A a) (hG : GlobRel ρ G) (hR : Rel P w0 B ρ H w) {o : Oper} (hok : o.op.operands.toList.all (HD G) = true)
 (hk : jE o.op = 0 ∨ jE o.op = 2) {v : Value} {H' : AH} (h : dx P call (ed A) o H = some (v, H')) : fW P ρ w ((execOp a.eval o).run P w) v := by
 obtain ⟨dst, op, type, pos, after, guard⟩ := o;simp only at hok hk;have ev : ∀ x, x ∈ op.operands.toList → VRel P ρ (ed A x) (a.eval x) := fun x hx => u5 hA hG (List.all_eq_true.1 hok x hx)
 cases op <;> try (simp [jE] at hk; done)
 all_goals simp only [dx] at h
 all_goals simp only [execOp]
 case move x => cases h; exact fW.mk rfl (ev x (by simp [Op.operands]))
 case assign x => cases h; exact fW.mk rfl (ev x (by simp [Op.operands]))
 case pick c x y =>
  obtain ⟨z, hz, e⟩ := aM.1 h;cases e;have hc := ev c (by simp [Op.operands])
  cases hcv : ed A c <;> rw [hcv] at hz <;> simp only [aQ] at hz <;> try (cases hz; done)
  rename_i t
  cases hz;rw [hcv] at hc;rw [hc.bool_inv];cases t
  ·exact fW.mk (by simp [asBool]) (ev y (by simp [Op.operands]))
  ·exact fW.mk (by simp [asBool]) (ev x (by simp [Op.operands]))
 case build t parts =>
  have hx : ∀ x ∈ parts.toList.map (·.2), VRel P ρ (ed A x) (a.eval x) := fun x hx => ev x (by simpa [Op.operands] using hx)
  cases hu : P.underlying t with
  | none => simp [hu] at h
  | some d =>
   cases d <;> simp only [hu] at h <;> try (cases h; done)
   case struct fs =>
    obtain ⟨z, hz, h⟩ := aC.1 h;obtain ⟨ps, hps, h⟩ := aC.1 h;obtain ⟨cs, hcs, e⟩ := aM.1 h;cases e;obtain ⟨v', hr, hv⟩ := BR (w := w) hx hz hu hps hcs;exact fW.mk (aP hr) hv
   case array n el =>
    obtain ⟨z, hz, h⟩ := aC.1 h;obtain ⟨e, he, h⟩ := aC.1 h;obtain ⟨cs, hcs, e⟩ := aM.1 h;cases e;obtain ⟨v', hr, hv⟩ := sZ (w := w) hx hz hu he hcs;exact fW.mk (aP hr) hv
 case load t x =>
  have hx := ev x (by simp [Op.operands]);obtain ⟨g, hg, h⟩ := aC.1 h
  cases g with
  | none =>
   obtain ⟨y, hy, e⟩ := aM.1 h;cases e;obtain ⟨a', y', ha, hr, hv⟩ := Uo hR hy hx;exact fW.mk (aP (by simp [Instr.loadAt, ha, Instr.sureAddr, loadVar, nf hg]; simpa using hr)) hv
  | some n =>
   obtain ⟨y, hy, e⟩ := aM.1 h;cases e;obtain ⟨a', ys, ha, hr, hv⟩ := Gy hR hy hx;obtain ⟨hag, hsz⟩ := ng hg w;exact fW.mk (aP (by simp [Instr.loadAt, ha, Instr.sureAddr, loadVar, hag, cj hsz, hr])) hv
 case nilCheck x =>
  have hx := ev x (by simp [Op.operands]);obtain ⟨y, hy, e⟩ := aM.1 h;cases e;obtain ⟨rfl, hr⟩ := GH hy hx
  have e2 : (JA (a.eval x)).run P w = .ok (.value (a.eval x)) w := by rw [hr]; rfl
  exact fW.mk e2 hx
 case binOp op t x y yt =>
  obtain ⟨z, hz, e⟩ := aM.1 h;cases e;obtain ⟨hr, hl⟩ := GE hz (ev x (by simp [Op.operands])) (ev y (by simp [Op.operands])) x y w;exact fW.mk (aP hr) (.lit hl)
 case unOp op t x =>
  obtain ⟨z, hz, e⟩ := aM.1 h;cases e;obtain ⟨hr, hl⟩ := Na hz (ev x (by simp [Op.operands])) w;exact fW.mk (aP hr) (.lit hl)
 case convert src dst x =>
  cases hu : P.underlying src with
  | none => simp [hu] at h
  | some d =>
   simp only [hu] at h;obtain ⟨z, hz, e⟩ := aM.1 h;cases e;have hx := ev x (by simp [Op.operands])
   cases hk : o5 P dst with
   | none => simp [hk, bO] at hz
   | some k =>
    cases hxv : ed A x <;> rw [hk, hxv] at hz <;> simp only [bO] at hz <;> try (cases hz; done)
    rename_i k0 n
    cases hz;rw [hxv] at hx;rw [hx.int_inv];have hud := Cf hk
    have hkd : P.intKind dst = k := by simp [Program.intKind, hud]
    have hr := run_convert_int (P := P) w src dst k0 n (by simp [hu]) (by rw [hkd]; exact hud);rw [hkd] at hr;exact fW.mk (aP hr) (.lit rfl)
 case makeFunc fn first captured =>
  cases h;refine fW.mk (aP (by simp [Instr.makeFunc]; rfl)) ?_;refine .func (by simp) (fun i x y hx hy => ?_) (by simp) (fun i x y hx hy => ?_)
  ·simp only [Array.getElem?_map, aM] at hx hy
   obtain ⟨p, hp, rfl⟩ := hx;obtain ⟨q, hq, rfl⟩ := hy;rw [hp] at hq; cases hq;exact ev p (by simp only [Op.operands, Array.toList_append, List.mem_append]; exact .inl (by simpa using Array.mem_of_getElem? hp))
  ·simp only [Array.getElem?_map, aM] at hx hy
   obtain ⟨p, hp, rfl⟩ := hx;obtain ⟨q, hq, rfl⟩ := hy;rw [hp] at hq; cases hq;exact ev p (by simp only [Op.operands, Array.toList_append, List.mem_append]; exact .inr (by simpa using Array.mem_of_getElem? hp))
 case slice t x lo hi mx =>
  cases mx with
  | none =>
   simp only at h;obtain ⟨el, hel, h⟩ := aC.1 h;obtain ⟨e, he, h⟩ := aC.1 h;obtain ⟨z, hz, e2⟩ := aM.1 h;cases e2;have hx := ev x (by simp [Op.operands]);obtain ⟨v', hr, hv⟩ := CN (w := w) (lo' := lo.map a.eval) (hi' := hi.map a.eval) (dJ hel) he hz hx
    (by cases lo with
        | none => exact .inl ⟨rfl, rfl⟩
        | some l => exact .inr ⟨_, _, rfl, rfl, ev l (by simp [Op.operands])⟩)
    (by cases hi with
        | none => exact .inl ⟨rfl, rfl⟩
        | some l => exact .inr ⟨_, _, rfl, rfl, ev l (by simp [Op.operands])⟩)
   exact fW.mk (aP hr) hv
  | some mx =>
   cases lo with
   | some lo => cases hi <;> simp at h
   | none =>
    cases hi with
    | none => simp at h
    | some hi =>
     simp only at h;obtain ⟨el, hel, h⟩ := aC.1 h;obtain ⟨e, he, h⟩ := aC.1 h;obtain ⟨z, hz, e2⟩ := aM.1 h;cases e2;obtain ⟨v', hr, hv⟩ := AS (w := w) (dJ hel) he hz (ev x (by simp [Op.operands])) (ev hi (by simp [Op.operands])) (ev mx (by simp [Op.operands]));exact fW.mk (aP hr) hv
 case fieldAddr s x f =>
  obtain ⟨fd, hf, h⟩ := aC.1 h;obtain ⟨n, hn, h⟩ := aC.1 h
  split at h
  ·cases h
  ·rename_i h0
   obtain ⟨z, hz, e2⟩ := aM.1 h;cases e2;obtain ⟨fs, hu, hfs⟩ := ny hf;obtain ⟨v', hr, hv⟩ := ML (w := w) hu hfs hn h0 rfl hz (ev x (by simp [Op.operands]));exact fW.mk (aP hr) hv
 case field s x f =>
  obtain ⟨fd, hf, h⟩ := aC.1 h;obtain ⟨n, hn, h⟩ := aC.1 h;obtain ⟨z, hz, e2⟩ := aM.1 h;cases e2;obtain ⟨fs, hu, hfs⟩ := ny hf;have hx := ev x (by simp [Op.operands])
  cases hxv : ed A x <;> rw [hxv] at hz <;> try (simp [jC] at hz; done)
  rename_i xs
  rw [hxv] at hx;obtain ⟨ys, v', hys, hr, hv⟩ := Aj (w := w) hn hz hx;refine fW.mk (aP ?_) hv;simp [Instr.field, run_underlying hu, hfs, hys, asAgg, hr]
 case indexAddr t x i =>
  cases hu : P.underlying t with
  | none => simp [hu] at h
  | some d =>
   cases d <;> simp only [hu] at h <;> try (cases h; done)
   case slice el =>
    obtain ⟨e, he, h⟩ := aC.1 h;obtain ⟨z, hz, e2⟩ := aM.1 h;cases e2;obtain ⟨v', hr, hv⟩ := MP (w := w) hu he hz (ev x (by simp [Op.operands])) (ev i (by simp [Op.operands]));exact fW.mk (aP hr) hv
   case array n el =>
    obtain ⟨e, he, h⟩ := aC.1 h;obtain ⟨z, hz, e2⟩ := aM.1 h;cases e2;obtain ⟨v', hr, hv⟩ := Gq (w := w) hu he hz (ev x (by simp [Op.operands])) (ev i (by simp [Op.operands]));exact fW.mk (aP hr) hv
 case index t x i =>
  cases hu : P.underlying t with
  | none => simp [hu] at h
  | some d =>
   cases d <;> simp only [hu] at h <;> try (cases h; done)
   case string =>
    obtain ⟨z, hz, e2⟩ := aM.1 h;cases e2;obtain ⟨v', hr, hv⟩ := zW (w := w) hu hz (ev x (by simp [Op.operands])) (ev i (by simp [Op.operands]));exact fW.mk (aP hr) hv
   case array n el =>
    obtain ⟨e, he, h⟩ := aC.1 h;obtain ⟨nn, hnn, h⟩ := aC.1 h;obtain ⟨z, hz, e2⟩ := aM.1 h;cases e2;obtain ⟨v', hr, hv⟩ := zX (w := w) hu he hnn hz (ev x (by simp [Op.operands])) (ev i (by simp [Op.operands]));exact fW.mk (aP hr) hv
 case lookup t m k ok =>
  obtain ⟨⟨kt, et⟩, hkt, h⟩ := aC.1 h;obtain ⟨cl, hcl, h⟩ := aC.1 h;obtain ⟨z, hz, h⟩ := aC.1 h;obtain ⟨y, hy, e2⟩ := aM.1 h;cases e2;obtain ⟨v', hr, hv⟩ := z5 hR hkt hcl hz hy (ev m (by simp [Op.operands])) (ev k (by simp [Op.operands]));exact fW.mk (aP hr) hv
 case extract t i =>
  obtain ⟨z, hz, e2⟩ := aM.1 h;cases e2;have hx := ev t (by simp [Op.operands])
  cases hxv : ed A t <;> rw [hxv] at hz <;> simp only [ai] at hz <;> try (cases hz; done)
  rename_i vs
  rw [hxv] at hx;obtain ⟨ys, hys, hs, he⟩ := hx.tuple_inv;have hi : i < vs.size := (Array.getElem?_eq_some_iff.1 hz).1
  have hi' : i < ys.size := by omega
  exact fW.mk (aP (by simp [Instr.extract, hys, hi']; rfl)) (he i _ _ hz (by simp [hi']))
 case call c =>
  obtain ⟨callee, args, ats⟩ := c
  cases callee with
  | value f => simp [jE] at hk
  | invoke r m => simp at h
  | builtin b =>
   simp only at h;have hl : LRel P ρ (args.toList.map (ed A)) (args.map a.eval).toList := yy (fun x hx => ev x (by simp only [Op.operands, Call.operands, Array.toList_append, List.mem_append]; exact .inr hx));simp only [resolve, Sem.run_bind, Sem.run_pure, Result.andThen_ok, invoke];refine C3 hR hl ?_ h
   cases b <;> first | (simp [jE] at hk; done) | simp
def dH (P : Program) (o : Oper) (ev : Operand → Value) (w : World) (R : Value → World → Prop) : Prop :=
 match (execOp ev o).run P w with
 | .ok (.value v) w' => R v w'
 | .ok .skip w' => R undef w'
 | .ok (.enter f args) w' => Calls P f args w' fun e w'' => ∃ v, e = .returned v ∧ R v w''
 | _ => False
theorem dH.wp {o : Oper} {a : Act} {R : Value → World → Prop} {next : Act → World → Prop} {Q : Exit → Act → World → Prop} (h : dH P o a.eval w R) (hn : ∀ v w', R v w' → next (a.put o.dst v) w') : o.wp P a w next Q := by
 unfold dH at h;unfold Oper.wp
 split at h
 ·rename_i v w' hr; rw [hr, Oper.upon_value]; exact hn _ _ h
 ·rename_i w' hr; rw [hr, Oper.upon_skip]; exact hn _ _ h
 ·rename_i f args w' hr
  rw [hr, Oper.upon_enter];refine h.mono ?_
  rintro e w'' ⟨v, rfl, hR⟩
  exact hn _ _ hR
 ·exact h.elim
theorem dH.mono {o : Oper} {ev : Operand → Value} {R R' : Value → World → Prop} (h : dH P o ev w R) (hm : ∀ v w', R v w' → R' v w') : dH P o ev w R' := by
 unfold dH at h ⊢
 split at h
 ·exact hm _ _ h
 ·exact hm _ _ h
 ·refine Calls.mono h ?_
  rintro e w'' ⟨v, rfl, hR⟩
  exact ⟨v, rfl, hm _ _ hR⟩
 ·exact h.elim
theorem dH.some {o : Oper} {ev : Operand → Value} {R : Value → World → Prop} (h : dH P o ev w R) : ∃ v w', R v w' := by
 unfold dH at h
 split at h
 ·exact ⟨_, _, h⟩
 ·exact ⟨_, _, h⟩
 ·obtain ⟨e, w', fr, ⟨v, _, hR⟩, _⟩ := h []
  exact ⟨v, w', hR⟩
 ·exact h.elim
theorem dH.congr {o : Oper} {ev ev' : Operand → Value} {R : Value → World → Prop} (h : dH P o ev w R) (e : execOp ev o = execOp ev' o) : dH P o ev' w R := by
 unfold dH at h ⊢
 rwa [← e]
theorem tY (hcall : kH P G call) {A : List Value} {a : Act} (hA : bI P ρ A a) (hG : GlobRel ρ G) (hR : Rel P w0 B ρ H w) {o : Oper} (hok : o.op.operands.toList.all (HD G) = true)
 {v : Value} {H' : AH} (h : dx P call (ed A) o H = some (v, H')) : dH P o a.eval w fun v' w' => ∃ ρ', VRel P ρ' v v' ∧ hU ρ H w ρ' H' w' ∧ Rel P w0 B ρ' H' w' := by
 by_cases hc : ∃ c f, o.op = .call c ∧ c.callee = .value f
 ·obtain ⟨c, f, ho, hcf⟩ := hc
  obtain ⟨dst, op, type, pos, after, guard⟩ := o;simp only at ho;subst ho;obtain ⟨callee, args, ats⟩ := c;simp only at hcf;subst hcf;have ev : ∀ x, x ∈ (Op.call { callee := .value f, args := args, argTypes := ats }).operands.toList → VRel P ρ (ed A x) (a.eval x) := fun x hx => u5 hA hG (List.all_eq_true.1 hok x hx);simp only [dx] at h;obtain ⟨⟨g, xs⟩, hfa, h⟩ := aC.1 h;simp only at h;have hl : LRel P ρ (args.toList.map (ed A)) (args.map a.eval).toList := yy (fun x hx => ev x (by simp only [Op.operands, Call.operands, Array.toList_append, List.mem_append]; exact .inr hx));obtain ⟨first, captured, hf, hx⟩ := y9 hfa (ev f (by simp [Op.operands, Call.operands])) hl;obtain ⟨⟨fn, hfn, hbody, hname⟩, hcalls⟩ := hcall g xs H v H' h;have hcl := hcalls w0 B ρ w _ hR hG hx;have hrun : (execOp a.eval { dst := dst, op := .call { callee := .value f, args := args, argTypes := ats }, type := type, pos := pos, after := after, guard := guard }).run P w =
   .ok (.enter g (first ++ args.map a.eval ++ captured)) w := by
   have hbn : ¬ (fn.body = none) := by intro hb; rw [hb] at hbody; cases hbody
   simp [execOp, resolve, hf, Deferred.ofValue, invoke, callFunc, hfn, hname, hbn]
  unfold dH;rw [hrun]
  have e : (first.toList ++ (args.map a.eval).toList ++ captured.toList).toArray = first ++ args.map a.eval ++ captured := by
   apply Array.ext'; simp
  rw [e] at hcl;refine hcl.mono ?_
  rintro e w' ⟨v', ρ', rfl, hv, hE, hR'⟩
  exact ⟨v', rfl, ρ', hv, hE, hR'⟩
 ·obtain ⟨v', w', ρ', hr | ⟨hr, rfl⟩, hv, he, hR'⟩ := UM hA hG hR hok (fun c f ho hcf => hc ⟨c, f, ho, hcf⟩) h
  ·unfold dH; rw [hr]; exact ⟨ρ', hv, he, hR'⟩
  ·unfold dH; rw [hr]; exact ⟨ρ', hv, he, hR'⟩
def WF (P : Program) (m : Nat) (v : Value) : Prop := ∃ ρ1 v1, (∀ b x, ρ1 b = some x → b < m) ∧ VRel P ρ1 v v1
theorem WF.under {m : Nat} {v v' : Value} (h : WF P m v) (k : VRel P ρ v v') : VRel P (ρ.below m) v v' := by
 obtain ⟨ρ1, v1, hm, h⟩ := h
 have up : ∀ {b x y}, ρ1 b = some x → ρ b = some y → ρ.below m b = some y := fun h1 h2 => by rw [bh.below_lt (hm _ _ h1)]; exact h2
 induction h generalizing v' with
 | lit hl =>
  cases k with
  | lit h => exact .lit h
  | agg hs he => simp [cB] at hl
  | tuple hs he => simp [cB] at hl
  | iface h => simp [cB] at hl
  | func _ _ _ _ => simp [cB] at hl
  | ptr _ => simp [cB] at hl
  | slice _ _ _ _ => simp [cB] at hl
  | slice0 _ => simp [cB] at hl
  | empty => simp [cB] at hl
  | map _ => simp [cB] at hl
 | ptr h => cases k with
  | lit h => simp [cB] at h
  | ptr h2 => exact .ptr (up h h2)
 | slice h hk hn he => cases k with
  | lit h => simp [cB] at h
  | slice h2 a b c => exact .slice (up h h2) a b c
  | slice0 h2 => exact .slice0 (up h h2)
  | empty => exact .empty
 | slice0 h => cases k with
  | lit h => simp [cB] at h
  | slice h2 a b c => exact .slice (up h h2) a b c
  | slice0 h2 => exact .slice0 (up h h2)
  | empty => exact .empty
 | empty => cases k with
  | lit h => simp [cB] at h
  | slice h2 a b c => omega
  | slice0 h2 => exact .empty
  | empty => exact .empty
 | map h => cases k with
  | lit h => simp [cB] at h
  | map h2 => exact .map (up h h2)
 | func hf _ hc _ ih1 ih2 => cases k with
  | lit h => simp [cB] at h
  | func hf' h1 hc' h2 =>
   refine .func hf' (fun i x y hx hy => ?_) hc' (fun i x y hx hy => ?_)
   ·have hi := (Array.getElem?_eq_some_iff.1 hx).1
    exact ih1 i x _ hx (Array.getElem?_eq_getElem (by omega)) (h1 i x y hx hy)
   ·have hi := (Array.getElem?_eq_some_iff.1 hx).1
    exact ih2 i x _ hx (Array.getElem?_eq_getElem (by omega)) (h2 i x y hx hy)
 | iface _ ih => cases k with
  | lit h => simp [cB] at h
  | iface h => exact .iface (ih h)
 | agg hs _ ih => cases k with
  | lit h => simp [cB] at h
  | agg hs' h1 =>
   refine .agg hs' (fun i x y hx hy => ?_);have hi := (Array.getElem?_eq_some_iff.1 hx).1;exact ih i x _ hx (Array.getElem?_eq_getElem (by omega)) (h1 i x y hx hy)
 | tuple hs _ ih => cases k with
  | lit h => simp [cB] at h
  | tuple hs' h1 =>
   refine .tuple hs' (fun i x y hx hy => ?_);have hi := (Array.getElem?_eq_some_iff.1 hx).1;exact ih i x _ hx (Array.getElem?_eq_getElem (by omega)) (h1 i x y hx hy)
def o9 (S : Nat → Bool) (A : List Value) : List Value := A.mapIdx fun i v => if S i then v else undef
theorem qk (S : Nat → Bool) (A : List Value) (t : Nat) : (o9 S A)[t]? = (A[t]?).map fun v => if S t then v else undef := by
 simp [o9]
theorem Uw {S : Nat → Bool} {A : List Value} {a : Act} {ρ' : bh} (hA : bI P ρ A a) (hS : ∀ t x y, S t = true → A[t]? = some x → VRel P ρ x y → VRel P ρ' x y) :
 bI P ρ' (o9 S A) { tmps := (o9 S a.tmps.toList).toArray, defers := [] } := by
 refine ⟨⟨by simp [o9, hA.tmps.1], fun t x y hx hy => ?_⟩, rfl⟩;rw [qk] at hx;rw [List.toList_toArray, qk] at hy;obtain ⟨x0, hx0, rfl⟩ := aM.1 hx;obtain ⟨y0, hy0, rfl⟩ := aM.1 hy
 by_cases h : S t = true
 ·rw [if_pos h, if_pos h]; exact hS t x0 y0 h hx0 (hA.tmps.2 t x0 y0 hx0 hy0)
 ·rw [if_neg h, if_neg h]; exact VRel.undef
def rB (op : Op) (t : Nat) : Bool := op.operands.toList.any fun x => match x with | .tmp u => u == t | _ => false
theorem G4 {op : Op} {t : Nat} (h : Operand.tmp t ∈ op.operands.toList) : rB op t = true := by
 unfold rB;rw [List.any_eq_true];exact ⟨_, h, by simp⟩
theorem Ex {op : Op} {t : Nat} (h : rB op t = true) : Operand.tmp t ∈ op.operands.toList := by
 unfold rB at h;obtain ⟨x, hx, h⟩ := List.any_eq_true.1 h
 cases x <;> simp at h
 subst h; exact hx
theorem MW {op : Op} {A : List Value} {x : Operand} (hx : x ∈ op.operands.toList) : ed (o9 (rB op) A) x = ed A x := by
 cases x with
 | tmp t =>
  simp only [ed, qk, G4 hx, if_true]
  cases A[t]? <;> rfl
 | _ => rfl
theorem Cj {op : Op} {a : Act} {d : List Deferred} {x : Operand} (hx : x ∈ op.operands.toList) : ({ tmps := (o9 (rB op) a.tmps.toList).toArray, defers := d } : Act).eval x = a.eval x := by
 cases x with
 | tmp t =>
  simp only [Act.eval, Array.getD_eq_getD_getElem?, List.getElem?_toArray, qk, G4 hx, if_true, Array.getElem?_toList]
  cases a.tmps[t]? <;> rfl
 | _ => rfl
end
section
variable {P : Program} {w0 : World} {B : Nat} {ρ : bh} {H : AH} {w : World} {G : List Nat} {call : a7} {ops : Array Oper}
theorem Rel.pushU (h : Rel P w0 B ρ H w) (c : AObj) : Rel P w0 B ρ (H.push c) w :=
 h.agree fun b x hx => ⟨by rw [AH.size_push]; have := h.dom b x hx; omega, AH.get_push_old (h.dom b x hx)⟩
theorem hU.pushU {ρ0 : bh} {H0 : AH} {wS : World} (h : hU ρ0 H0 wS ρ H w) (c : AObj) : hU ρ0 H0 wS ρ (H.push c) w where
 le := h.le
 fresh := fun b x hx hn => by have := h.fresh b x hx hn; rw [AH.size_push]; omega
 hsize := by rw [AH.size_push]; have := h.hsize; omega
 wsize := h.wsize
 keepA := fun b hb hn => by rw [AH.get_push_old (by have := h.hsize; omega)]; exact h.keepA b hb hn
 keepRo := fun b o ho hr => by have := h.keepRo b o ho hr; rw [AH.get_push_old (AH.lt_of_get this)]; exact this
 keepC := h.keepC
 newC := h.newC
theorem cK {b b1 : Nat} {x y : Nat × Nat × Nat} (hx : ρ.upd b y b1 = some x) : (b1 = b ∧ x = y) ∨ (b1 ≠ b ∧ ρ b1 = some x) := by
 by_cases e : b1 = b
 ·subst e; rw [bh.upd_same] at hx; exact .inl ⟨rfl, (fg hx).symm⟩
 ·rw [bh.upd_ne e] at hx; exact .inr ⟨e, hx⟩
theorem Rel.none_size (h : Rel P w0 B ρ H w) : ρ H.size = none := by
 cases hn : ρ H.size with
 | none => rfl
 | some x => have := h.dom _ _ hn; omega
theorem Rel.pushM (h : Rel P w0 B ρ H w) {o : AObj} {c sz : Nat} (hrw : o.rw = true) (hB : B ≤ c) (hc : c < w.heap.size) (ho : oA P ρ 0 sz o w.heap[c]?) (hd : ∀ b d sz1, ρ b = some (c, d, sz1) → False) :
 Rel P w0 B (ρ.upd H.size (c, 0, sz)) (H.push o) w := by
 have hle := bh.upd_le (x := (c, 0, sz)) h.none_size;have old : ∀ {b x}, ρ b = some x → (H.push o).get b = H.get b := fun hx => AH.get_push_old (h.dom _ _ hx);refine ⟨h.base, h.below, ?_, ?_, ?_, ?_, ?_, ?_⟩
 ·intro b x hx
  rw [AH.size_push]
  rcases cK hx with ⟨rfl, _⟩ | ⟨_, hx⟩
  ·omega
  ·have := h.dom b x hx; omega
 ·intro b c1 d sz1 hx
  rcases cK hx with ⟨rfl, e⟩ | ⟨_, hx⟩
  ·cases e; exact hc
  ·exact h.blk b c1 d sz1 hx
 ·intro b c1 d sz1 o1 hx ho1
  rcases cK hx with ⟨rfl, e⟩ | ⟨_, hx⟩
  ·cases e; rw [AH.get_push_new] at ho1; cases ho1; exact ho.mono hle
  ·rw [old hx] at ho1; exact (h.obj b c1 d sz1 o1 hx ho1).mono hle
 ·intro b c1 d sz1 o1 hx ho1 hr1
  rcases cK hx with ⟨rfl, e⟩ | ⟨_, hx⟩
  ·cases e; exact hB
  ·rw [old hx] at ho1; exact h.own b c1 d sz1 o1 hx ho1 hr1
 ·intro b c1 d sz1 cs hx ho1
  rcases cK hx with ⟨rfl, e⟩ | ⟨_, hx⟩
  ·rw [AH.get_push_new] at ho1; cases ho1; simp [AObj.rw] at hrw
  ·rw [old hx] at ho1; exact h.ro b c1 d sz1 cs hx ho1
 ·intro b1 b2 c1 d1 d2 sz1 sz2 o1 o2 hx1 hx2 ho1 ho2 hr1 hr2
  rcases cK hx1 with ⟨e1, e⟩ | ⟨n1, hx1⟩ <;> rcases cK hx2 with ⟨e2, e'⟩ | ⟨n2, hx2⟩
  ·rw [e1, e2]
  ·cases e; exact (hd _ _ _ hx2).elim
  ·cases e'; exact (hd _ _ _ hx1).elim
  ·rw [old hx1] at ho1; rw [old hx2] at ho2
   exact h.inj _ _ _ _ _ _ _ _ _ hx1 hx2 ho1 ho2 hr1 hr2
theorem hU.updN {ρ0 : bh} {H0 : AH} {wS : World} (h : hU ρ0 H0 wS ρ H w) {b c d sz : Nat} (hb : ρ b = none) (h0 : H0.size ≤ b) (h1 : b < H.size) (hc : wS.heap.size ≤ c) : hU ρ0 H0 wS (ρ.upd b (c, d, sz)) H w where
 le := fun b1 x hx => bh.upd_le hb b1 x (h.le b1 x hx)
 fresh := fun b1 x hx hn => by
  rcases cK hx with ⟨rfl, _⟩ | ⟨_, hx⟩
  ·exact ⟨h0, h1⟩
  ·exact h.fresh b1 x hx hn
 hsize := h.hsize
 wsize := h.wsize
 keepA := h.keepA
 keepRo := h.keepRo
 keepC := h.keepC
 newC := fun b1 c1 d1 sz1 hx hn => by
  rcases cK hx with ⟨rfl, e⟩ | ⟨_, hx⟩
  ·cases e; exact .inl hc
  ·exact h.newC b1 c1 d1 sz1 hx hn
theorem Rel.allocW (h : Rel P w0 B ρ H w) (ob : Obj) : Rel P w0 B ρ H (w.alloc ob) where
 base := h.base
 below := h.below.alloc h.size ob
 dom := h.dom
 blk := fun b c d sz hx => by rw [World.size_alloc]; have := h.blk b c d sz hx; omega
 obj := fun b c d sz o hx ho => by rw [Below.heap_alloc w ob c (h.blk b c d sz hx)]; exact h.obj b c d sz o hx ho
 own := h.own
 ro := h.ro
 inj := h.inj
theorem hU.allocW {ρ0 : bh} {H0 : AH} {wS : World} (h : hU ρ0 H0 wS ρ H w) (ob : Obj) : hU ρ0 H0 wS ρ H (w.alloc ob) :=
 { h with
  wsize := by rw [World.size_alloc]; have := h.wsize; omega
  keepC := fun c hc hf => by rw [Below.heap_alloc w ob c (by have := h.wsize; omega)]; exact h.keepC c hc hf }
theorem HQ {m : Nat} {x : Nat × Nat × Nat} (h : ρ m = some x) : ρ.below (m + 1) = (ρ.below m).upd m x := by
 funext b
 unfold bh.below bh.upd
 by_cases e : b = m
 ·subst e; simp [h]
 ·by_cases hb : b < m
  ·rw [if_pos (by omega), if_neg e]; simp [hb]
  ·rw [if_neg (by omega), if_neg e]; simp [hb]
theorem w7 {m : Nat} (h : ρ m = none) : ρ.below (m + 1) = ρ.below m := by
 funext b
 unfold bh.below
 by_cases e : b = m
 ·subst e; simp [h]
 ·by_cases hb : b < m
  ·rw [if_pos (by omega), if_pos hb]
  ·rw [if_neg (by omega), if_neg hb]
theorem sW {m : Nat} : ∀ b x, ρ.below m b = some x → ρ b = some x := fun _ _ h => (bh.below_some h).2
theorem HP {m m' : Nat} (hm : m ≤ m') : ∀ b x, ρ.below m b = some x → ρ.below m' b = some x := fun b x h => by
 obtain ⟨h1, h2⟩ := bh.below_some h;rw [bh.below_lt (by omega)]; exact h2
def pad (N : Nat) (H : AH) : AH := ⟨(List.range N).map fun b => (H.get b).getD .dead⟩
theorem UW (N : Nat) (H : AH) : (pad N H).size = N := by simp [pad, AH.size]
theorem Nb {N : Nat} {H : AH} {b : Nat} (h : b < N) : (pad N H).get b = some ((H.get b).getD .dead) := by
 unfold pad;simp [AH.get, h]
theorem Nc {N : Nat} {H : AH} {b : Nat} (h : b < H.size) (hN : H.size ≤ N) : (pad N H).get b = H.get b := by
 rw [Nb (by omega)]
 cases hg : H.get b with
 | some o => rfl
 | none =>
  unfold AH.get at hg;unfold AH.size at h;rw [List.getElem?_eq_none_iff] at hg;omega
theorem Rel.pad {N : Nat} (h : Rel P w0 B (ρ.below H.size) H w) (hN : H.size ≤ N) (hfull : ∀ b x, ρ b = some x → b < N) (hblk : ∀ b c d sz, ρ b = some (c, d, sz) → c < w.heap.size) : Rel P w0 B ρ (Gst.pad N H) w := by
 have key : ∀ {b x o}, ρ b = some x → (Gst.pad N H).get b = some o → (b < H.size ∧ ρ.below H.size b = some x ∧ H.get b = some o) ∨ o = .dead := by
  intro b x o hx ho
  by_cases hb : b < H.size
  ·rw [Nc hb hN] at ho
   exact .inl ⟨hb, by rw [bh.below_lt hb]; exact hx, ho⟩
  ·rw [Nb (hfull b x hx), AH.get_none (by omega)] at ho
   cases ho; exact .inr rfl
 refine ⟨h.base, h.below, fun b x hx => by rw [UW]; exact hfull b x hx, hblk, ?_, ?_, ?_, ?_⟩
 ·intro b c d sz o hx ho
  rcases key hx ho with ⟨_, h1, h2⟩ | rfl
  ·exact (h.obj b c d sz o h1 h2).mono sW
  ·trivial
 ·intro b c d sz o hx ho hr
  rcases key hx ho with ⟨_, h1, h2⟩ | rfl
  ·exact h.own b c d sz o h1 h2 hr
  ·simp [AObj.rw] at hr
 ·intro b c d sz cs hx ho
  rcases key hx ho with ⟨_, h1, h2⟩ | e
  ·exact h.ro b c d sz cs h1 h2
  ·cases e
 ·intro b1 b2 c d1 d2 sz1 sz2 o1 o2 hx1 hx2 ho1 ho2 hr1 hr2
  rcases key hx1 ho1 with ⟨_, h1, h2⟩ | rfl
  ·rcases key hx2 ho2 with ⟨_, h3, h4⟩ | rfl
   ·exact h.inj _ _ _ _ _ _ _ _ _ h1 h3 h2 h4 hr1 hr2
   ·simp [AObj.rw] at hr2
  ·simp [AObj.rw] at hr1
structure Way (T : Tra P G call ops) (w0 : World) (B : Nat) (ρ0 : bh) (wS : World) : Prop where
 hcall : kH P G call
 mono : ga call
 glob : GlobRel ρ0 G
 rel : Rel P w0 B ρ0 (T.s 0).2 wS
 act : ∃ a, bI P ρ0 (T.s 0).1 a
variable {T : Tra P G call ops} {ρ0 : bh} {wS : World}
theorem YC (W : Way T w0 B ρ0 wS) : ∀ i, i ≤ ops.size → ∃ ρ1 a1 w1, bI P ρ1 (T.s i).1 a1 ∧ GlobRel ρ1 G ∧ Rel P w0 B ρ1 (T.s i).2 w1 := by
 intro i
 induction i with
 | zero => intro _; obtain ⟨a, ha⟩ := W.act; exact ⟨ρ0, a, wS, ha, W.glob, W.rel⟩
 | succ i ih =>
  intro hi;obtain ⟨ρ1, a1, w1, hA, hG, hR⟩ := ih (by omega)
  have ho : ops[i]? = some ops[i] := by simp [Nat.lt_of_succ_le hi]
  obtain ⟨hok, hs, h | ⟨_, hv, hH⟩⟩ := T.step i _ ho
  ·obtain ⟨v', w', ρ', hv, hE, hR'⟩ := (tY W.hcall hA hG hR hok h.2).some
   exact ⟨ρ', _, w', by rw [hs]; exact jm (hA.mono hE.le) _ hv, hG.mono hE.le, hR'⟩
  ·exact ⟨ρ1, _, w1, by rw [hs, hv]; exact jm hA _ VRel.undef, hG, by rw [hH]; exact hR⟩
theorem X5 (W : Way T w0 B ρ0 wS) {i t : Nat} {v : Value} (hi : i ≤ ops.size) (h : (T.s i).1[t]? = some v) : WF P (T.s i).2.size v := by
 obtain ⟨ρ1, a1, w1, hA, _, hR⟩ := YC W i hi;obtain ⟨y, _, hv⟩ := hA.tmps.get h;exact ⟨ρ1, y, hR.dom, hv⟩
theorem Cp (op : Op) : jE op = 0 ∨ jE op = 1 ∨ jE op = 2 ∨ jE op = 3 := by
 unfold jE
 split <;> first | omega | (split <;> omega)
theorem CS (W : Way T w0 B ρ0 wS) {i : Nat} {o : Oper} (ho : ops[i]? = some o) (hk : jE o.op ≠ 3) : (T.s (i + 1)).2 = (T.s i).2 ∨ (jE o.op = 1 ∧ ∃ c : AObj, c.rw = true ∧ (T.s (i + 1)).2 = (T.s i).2.push c) := by
 have hi := (Array.getElem?_eq_some_iff.1 ho).1;obtain ⟨hok, hs, ⟨hw, h⟩ | ⟨_, hv, hH⟩⟩ := T.step i o ho
 ·rcases Cp o.op with h0 | h1 | h2 | h3
  ·exact .inl (sU h0 h).1
  ·obtain ⟨ρ1, a1, w1, hA, hG, hR⟩ := YC W i (by omega)
   obtain ⟨c, hc, e, _⟩ := yT hA hG hok h1 h;exact .inr ⟨h1, c, hc, e⟩
  ·rw [yO h2] at h
   obtain ⟨y, _, e⟩ := aM.1 h;exact .inl (Prod.mk.inj e).2.symm
  ·exact absurd h3 hk
 ·exact .inl hH
theorem CM (W : Way T w0 B ρ0 wS) {i : Nat} (hi : i < ops.size) : (T.s i).2.size ≤ (T.s (i + 1)).2.size := by
 have ho : ops[i]? = some ops[i] := by simp [hi]
 obtain ⟨hok, hs, ⟨_, h⟩ | ⟨_, _, hH⟩⟩ := T.step i _ ho
 ·exact Fw W.mono h
 ·rw [hH]; exact bf _
theorem bN (W : Way T w0 B ρ0 wS) {i j : Nat} (hij : i ≤ j) (hj : j ≤ ops.size) : (T.s i).2.size ≤ (T.s j).2.size := by
 induction j with
 | zero => rw [show i = 0 from by omega]; exact bf _
 | succ j ih =>
  by_cases e : i = j + 1
  ·rw [e]; exact bf _
  ·exact dN (ih (by omega) (by omega)) (CM W (by omega))
theorem iF (W : Way T w0 B ρ0 wS) {i j : Nat} (hij : i < j) (hj : j ≤ ops.size) {c : AObj} (hp : (T.s (i + 1)).2 = (T.s i).2.push c) : (T.s i).2.size < (T.s j).2.size := by
 have := bN W (Nat.succ_le_of_lt hij) hj;rw [hp, AH.size_push] at this;omega
theorem GP (W : Way T w0 B ρ0 wS) {k1 k2 : Nat} (h12 : k1 ≤ k2) (hk : k2 ≤ ops.size) (hno : ∀ i o, ops[i]? = some o → k1 ≤ i → i < k2 → jE o.op ≠ 3) {b : Nat} (hb : b < (T.s k1).2.size) : (T.s k2).2.get b = (T.s k1).2.get b := by
 induction k2 with
 | zero => rw [show k1 = 0 from by omega]
 | succ k ih =>
  by_cases e : k1 = k + 1
  ·rw [e]
  ·have hlt : k < ops.size := by omega
   have ho : ops[k]? = some ops[k] := by simp [hlt]
   have h1 := ih (by omega) (by omega) (fun i o hi h1 h2 => hno i o hi h1 (by omega))
   rcases CS W ho (hno k _ ho (by omega) (by omega)) with h2 | ⟨_, c, _, h2⟩
   ·rw [h2, h1]
   ·rw [h2, AH.get_push_old (Nat.lt_of_lt_of_le hb (bN W (by omega) (by omega))), h1]
theorem Yv (T : Tra P G call ops) {i j : Nat} {o : Oper} (ho : ops[j]? = some o) (h : fb (bz ops.toList) i j = true) : i < j := by
 have := iP (L := fun k => decide (k < j)) (fun k ok hk hL e he hb => by
  have := T.back k ok hk e he hb;simp only [decide_eq_true_eq] at hL ⊢
  omega) j o ho (fun e he hb => by simpa using T.back j o ho e he hb) i h
 simpa using this
structure og (T : Tra P G call ops) (w0 : World) (B : Nat) (ρ0 : bh) (wS : World) (L : Nat → Bool) (a : Act) (w : World) (ρ : bh) (t : Nat) : Prop where
 closed : ∀ k o, ops[k]? = some o → L k = true → ∀ e ∈ o.after, Region.binds .any e = true → L e.on = true
 act : bI P ρ (AD T L ops.size) a
 rel : Rel P w0 B (ρ.below (T.s t).2.size) (T.s t).2 w
 ext : hU ρ0 (T.s 0).2 wS (ρ.below (T.s t).2.size) (T.s t).2 w
 ht : t ≤ ops.size
 ht1 : t = 0 ∨ ∃ o, ops[t - 1]? = some o ∧ jE o.op = 3
 hE : ∀ i o, ops[i]? = some o → jE o.op = 3 → (L i = true ↔ i < t)
 full : ∀ b x, ρ b = some x → b < (T.s ops.size).2.size
 blk : ∀ b c d sz, ρ b = some (c, d, sz) → c < w.heap.size
 pend : ∀ b x, ρ b = some x → (T.s t).2.size ≤ b → ∃ i o c c' sz, ops[i]? = some o ∧ t ≤ i ∧ L i = true ∧ b = (T.s i).2.size ∧ (T.s (i + 1)).2 = (T.s i).2.push c ∧ x = (c', 0, sz) ∧ c.rw = true ∧ wS.heap.size ≤ c' ∧ oA P (ρ.below b) 0 sz c w.heap[c']?
 alone : ∀ b b' c d sz d' sz', ρ b = some (c, d, sz) → ρ b' = some (c, d', sz') → (T.s t).2.size ≤ b → b = b'
 later : ∀ i o c, ops[i]? = some o → jE o.op = 1 → (T.s (i + 1)).2 = (T.s i).2.push c → L i = false → ρ (T.s i).2.size = none ∧ (i < t → (T.s t).2.get (T.s i).2.size = (T.s (i + 1)).2.get (T.s i).2.size)
variable {L : Nat → Bool} {a : Act} {t : Nat}
theorem og.glob (W : Way T w0 B ρ0 wS) (I : og T w0 B ρ0 wS L a w ρ t) {m : Nat} (hm : (T.s 0).2.size ≤ m) : GlobRel (ρ.below m) G := by
 refine W.glob.mono (fun b x hx => ?_);have h1 := sW _ _ (I.ext.le b x hx);have h2 := W.rel.dom b x hx;rw [bh.below_lt (by omega)]; exact h1
theorem og.derive (W : Way T w0 B ρ0 wS) (I : og T w0 B ρ0 wS L a w ρ t) : ∀ k, t ≤ k → k ≤ ops.size → (∀ i o, ops[i]? = some o → t ≤ i → i < k → jE o.op ≠ 3) →
 Rel P w0 B (ρ.below (T.s k).2.size) (T.s k).2 w ∧ hU ρ0 (T.s 0).2 wS (ρ.below (T.s k).2.size) (T.s k).2 w := by
 intro k
 induction k with
 | zero => intro h _ _; have e : t = 0 := by omega
           subst e; exact ⟨I.rel, I.ext⟩
 | succ k ih =>
  intro h1 h2 hno
  by_cases e : t = k + 1
  ·subst e; exact ⟨I.rel, I.ext⟩
  ·have hlt : k < ops.size := by omega
   have ho : ops[k]? = some ops[k] := by simp [hlt]
   obtain ⟨hR, hX⟩ := ih (by omega) (by omega) (fun i o hi h1 h2 => hno i o hi h1 (by omega))
   rcases CS W ho (hno k _ ho (by omega) (by omega)) with h3 | ⟨hk1, c, hc, h3⟩
   ·rw [h3]; exact ⟨hR, hX⟩
   ·rw [h3, AH.size_push]
    cases hρ : ρ (T.s k).2.size with
    | none => rw [w7 hρ]; exact ⟨hR.pushU c, hX.pushU c⟩
    | some x =>
     have htk := bN W (show t ≤ k by omega) (by omega);obtain ⟨i, o, c2, c', sz, hoi, hti, hLi, hb, hp, rfl, hrw, hw, hO⟩ := I.pend _ _ hρ htk;have hio := (Array.getElem?_eq_some_iff.1 hoi).1
     have hik : i = k := by
      rcases Nat.lt_trichotomy i k with h | h | h
      ·have := iF W h (by omega) hp; omega
      ·exact h
      ·have := iF W h (by omega) h3; omega
     subst hik;rw [h3] at hp
     have hcc : c = c2 := by
      have := AH.get_push_new (T.s i).2 c;rw [hp, AH.get_push_new] at this;exact (fg this).symm
     subst hcc;rw [HQ hρ];refine ⟨hR.pushM hrw (dN W.rel.size hw) (I.blk _ _ _ _ hρ) hO (fun b1 d sz1 hx => ?_), ?_⟩
     ·obtain ⟨h5, h6⟩ := bh.below_some hx
      have := I.alone _ _ _ _ _ _ _ hρ h6 htk;omega
     ·exact (hX.pushU c).updN (by unfold bh.below; rw [if_neg (by omega)]) (bN W (Nat.zero_le _) (by omega)) (by rw [AH.size_push]; omega) hw
structure Next (T : Tra P G call ops) (L : Nat → Bool) (j : Nat) (o : Oper) : Prop where
 ho : ops[j]? = some o
 hj : L j = false
 ready : ∀ e ∈ o.after, Region.binds .any e = true → L e.on = true
theorem og.slots (I : og T w0 B ρ0 wS L a w ρ t) {j : Nat} {o : Oper} (N : Next T L j o) {u : Nat} (hu : u ∈ o.looksAt ops) : (AD T L ops.size)[u]? = (T.s j).1[u]? := by
 have hjn := (Array.getElem?_eq_some_iff.1 N.ho).1;refine Yi T (by omega) (fun i oi hi hij hd => ?_) (fun i oi hi hij hd => ?_)
 ·rcases T.pair i j oi o hij hi N.ho with h | ⟨h, _⟩
  ·exact iP I.closed j o N.ho N.ready i h
  ·exact absurd hu ((Oper.apart_spec h).1 u hd)
 ·cases hL : L i with
  | false => rfl
  | true =>
   by_cases e : i = j
   ·subst e; rw [N.hj] at hL; exact hL.symm
   ·rcases T.pair j i o oi (by omega) N.ho hi with h | ⟨h, _⟩
    ·have := iP I.closed i oi hi (I.closed i oi hi hL) j h
     rw [N.hj] at this; cases this
    ·exact absurd hu ((Oper.apart_spec h).2.2 u hd)
theorem ru {o : Oper} {u : Nat} (h : Operand.tmp u ∈ o.op.operands.toList) : u ∈ o.looksAt ops := by
 unfold Oper.looksAt;exact List.mem_append_left _ (List.mem_filterMap.2 ⟨_, h, rfl⟩)
theorem og.evs (I : og T w0 B ρ0 wS L a w ρ t) {j : Nat} {o : Oper} (N : Next T L j o) {x : Operand} (hx : x ∈ o.op.operands.toList) : ed (AD T L ops.size) x = ed (T.s j).1 x := by
 cases x with
 | tmp u => simp only [ed]; rw [I.slots N (ru hx)]
 | _ => rfl
theorem og.wanted (I : og T w0 B ρ0 wS L a w ρ t) {j : Nat} {o : Oper} (N : Next T L j o) : Region.wanted o (yielded ops a.tmps) = Region.wanted o (cN ops (T.s j).1) := by
 rw [sN I.act];unfold Region.wanted
 cases hg : o.guard with
 | none => rfl
 | some gw =>
  obtain ⟨g, want⟩ := gw
  have : cN ops (AD T L ops.size) g = cN ops (T.s j).1 g := by
   unfold cN
   cases hd : (ops[g]?).bind (·.dst) with
   | none => rfl
   | some u =>
    simp only [be];rw [I.slots N (u := u) (by unfold Oper.looksAt; simp [hg, hd])]
  simp only [this]
theorem og.set (I : og T w0 B ρ0 wS L a w ρ t) {j : Nat} {o : Oper} (N : Next T L j o) : AD T (fun i => if i = j then true else L i) ops.size = jY (AD T L ops.size) o.dst (T.val j) := by
 refine YX T N.ho N.hj (fun i oi hi hij hL u hd hd' => ?_)
 rcases T.pair j i o oi hij N.ho hi with h | ⟨h, _⟩
 ·have := iP I.closed i oi hi (I.closed i oi hi hL) j h
  rw [N.hj] at this; cases this
 ·exact (Oper.apart_spec h).2.1 u hd hd'
theorem og.closed' (I : og T w0 B ρ0 wS L a w ρ t) {j : Nat} {o : Oper} (N : Next T L j o) : ∀ k ok, ops[k]? = some ok → (fun i => if i = j then true else L i) k = true → ∀ e ∈ ok.after, Region.binds .any e = true → (fun i => if i = j then true else L i) e.on = true := by
 intro k ok hk hL e he hb;simp only
 by_cases hej : e.on = j
 ·rw [if_pos hej]
 ·rw [if_neg hej]
  by_cases hkj : k = j
  ·subst hkj
   rw [N.ho] at hk; cases hk;exact N.ready e he hb
  ·simp only [if_neg hkj] at hL
   exact I.closed k ok hk hL e he hb
theorem og.masked (W : Way T w0 B ρ0 wS) (I : og T w0 B ρ0 wS L a w ρ t) {j : Nat} {o : Oper} (N : Next T L j o) :
 bI P (ρ.below (T.s j).2.size) (o9 (rB o.op) (AD T L ops.size)) { tmps := (o9 (rB o.op) a.tmps.toList).toArray, defers := [] } := by
 have hjn := (Array.getElem?_eq_some_iff.1 N.ho).1;refine Uw I.act (fun u x y hu hx hv => ?_);rw [I.slots N (ru (Ex hu))] at hx;exact (X5 W (by omega) hx).under hv
end
section
variable {P : Program} {w0 : World} {B : Nat} {ρ : bh} {w : World} {G : List Nat} {call : a7} {ops : Array Oper} {T : Tra P G call ops} {ρ0 : bh} {wS : World} {L : Nat → Bool} {a : Act} {t : Nat}
abbrev qN (L : Nat → Bool) (j : Nat) : Nat → Bool := fun i => if i = j then true else L i
theorem Es {i j : Nat} (h : i ≠ j) : qN L j i = L i := by simp [qN, h]
theorem Et {i j : Nat} (h : L i = true) : qN L j i = true := by simp only [qN]; split <;> first | rfl | exact h
theorem rY {i j : Nat} (h : qN L j i = false) : i ≠ j ∧ L i = false := by
 simp only [qN] at h
 split at h
 ·cases h
 ·exact ⟨by assumption, h⟩
theorem og.same (I : og T w0 B ρ0 wS L a w ρ t) {j : Nat} {o : Oper} (N : Next T L j o) (hk : jE o.op ≠ 3) {v' : Value} (hv : VRel P ρ (T.val j) v') : og T w0 B ρ0 wS (qN L j) (a.put o.dst v') w ρ t where
 closed := I.closed' N
 act := by rw [I.set N]; exact jm I.act o.dst hv
 rel := I.rel
 ext := I.ext
 ht := I.ht
 ht1 := I.ht1
 hE := fun i oi hi h3 => by
  have : i ≠ j := fun e => by subst e; rw [N.ho] at hi; cases hi; exact hk h3
  rw [Es this]; exact I.hE i oi hi h3
 full := I.full
 blk := I.blk
 pend := fun b x hx hb => by
  obtain ⟨i, oi, c, c', sz, h1, h2, h3, h4⟩ := I.pend b x hx hb;exact ⟨i, oi, c, c', sz, h1, h2, Et h3, h4⟩
 alone := I.alone
 later := fun i oi c hi h1 hp hL => I.later i oi c hi h1 hp (rY hL).2
theorem Zo (I : og T w0 B ρ0 wS L a w ρ t) {j : Nat} {o : Oper} (N : Next T L j o) (hk : jE o.op = 3) : t ≤ j ∧ ∀ i oi, ops[i]? = some oi → t ≤ i → i < j → jE oi.op ≠ 3 := by
 refine ⟨?_, fun i oi hi hti hij h3 => ?_⟩
 ·rcases Nat.lt_or_ge j t with h | h
  ·have := (I.hE j o N.ho hk).2 h
   rw [N.hj] at this; cases this
  ·exact h
 ·rcases T.pair i j oi o hij hi N.ho with h | ⟨_, h⟩
  ·have := iP I.closed j o N.ho N.ready i h
   have := (I.hE i oi hi h3).1 this;omega
  ·exact h ⟨h3, hk⟩
theorem og.alloc (W : Way T w0 B ρ0 wS) (I : og T w0 B ρ0 wS L a w ρ t) {j : Nat} {o : Oper} (N : Next T L j o) (hk : jE o.op = 1) {c : AObj} (hc : c.rw = true) (hp : (T.s (j + 1)).2 = (T.s j).2.push c) {ob : Obj} {sz : Nat} {v' : Value}
 (hO : oA P (ρ.below (T.s j).2.size) 0 sz c (some ob)) (hv : ∀ ρ' : bh, ρ' (T.s j).2.size = some (w.heap.size, 0, sz) → VRel P ρ' (T.val j) v') :
 og T w0 B ρ0 wS (qN L j) (a.put o.dst v') (w.alloc ob) (ρ.upd (T.s j).2.size (w.heap.size, 0, sz)) t := by
 have hjn := (Array.getElem?_eq_some_iff.1 N.ho).1;obtain ⟨hnone, hbefore⟩ := I.later j o c N.ho hk hp N.hj;have hle := bh.upd_le (x := (w.heap.size, 0, sz)) hnone;have hltn := iF W (show j < ops.size from hjn) (bf _) hp
 have bmono : ∀ {b i x}, ρ.below b i = some x → (ρ.upd (T.s j).2.size (w.heap.size, 0, sz)).below b i = some x := by
  intro b i x hx;obtain ⟨h1, h2⟩ := bh.below_some hx;rw [bh.below_lt h1]; exact hle _ _ h2
 have hrel : Rel P w0 B ((ρ.upd (T.s j).2.size (w.heap.size, 0, sz)).below (T.s t).2.size) (T.s t).2 (w.alloc ob) ∧ hU ρ0 (T.s 0).2 wS ((ρ.upd (T.s j).2.size (w.heap.size, 0, sz)).below (T.s t).2.size) (T.s t).2 (w.alloc ob) := by
  rcases Nat.lt_or_ge j t with hjt | hjt
  ·have hlt := iF W hjt I.ht hp
   have e : (ρ.upd (T.s j).2.size (w.heap.size, 0, sz)).below (T.s t).2.size = (ρ.below (T.s t).2.size).upd (T.s j).2.size (w.heap.size, 0, sz) := by
    funext b
    unfold bh.below bh.upd
    by_cases e : b = (T.s j).2.size
    ·subst e; simp [hlt]
    ·simp [e]
   have hnb : ρ.below (T.s t).2.size (T.s j).2.size = none := by rw [bh.below_lt hlt]; exact hnone
   rw [e];refine ⟨I.rel.fill hnb hc (hO.mono (HP (Nat.le_of_lt hlt))) hlt ?_ (fun b x hx => ⟨I.rel.dom b x hx, rfl⟩), ?_⟩
   ·rw [hbefore hjt, hp, AH.get_push_new]
   ·exact (I.ext.allocW ob).updN hnb (bN W (Nat.zero_le _) (by omega)) hlt I.ext.wsize
  ·have hge := bN W hjt (by omega)
   have e : (ρ.upd (T.s j).2.size (w.heap.size, 0, sz)).below (T.s t).2.size = ρ.below (T.s t).2.size := by
    funext b
    unfold bh.below bh.upd
    by_cases e : b < (T.s t).2.size
    ·rw [if_pos e, if_pos e, if_neg (by omega)]
    ·rw [if_neg e, if_neg e]
   rw [e];exact ⟨I.rel.allocW ob, I.ext.allocW ob⟩
 refine ⟨I.closed' N, ?_, hrel.1, hrel.2, I.ht, I.ht1, ?_, ?_, ?_, ?_, ?_, ?_⟩
 ·rw [I.set N]; exact jm (I.act.mono hle) o.dst (hv _ (bh.upd_same ..))
 ·intro i oi hi h3
  have : i ≠ j := fun e => by subst e; rw [N.ho] at hi; cases hi; omega
  rw [Es this]; exact I.hE i oi hi h3
 ·intro b x hx
  rcases cK hx with ⟨rfl, _⟩ | ⟨_, hx⟩
  ·exact hltn
  ·exact I.full b x hx
 ·intro b c1 d sz1 hx
  rw [World.size_alloc]
  rcases cK hx with ⟨rfl, e⟩ | ⟨_, hx⟩
  ·cases e; omega
  ·have := I.blk b c1 d sz1 hx; omega
 ·intro b x hx hb
  rcases cK hx with ⟨rfl, rfl⟩ | ⟨_, hx⟩
  ·refine ⟨j, o, c, w.heap.size, sz, N.ho, ?_, by simp [qN], rfl, hp, rfl, hc, I.ext.wsize, ?_⟩
   ·rcases Nat.lt_or_ge j t with hjt | hjt
    ·have := iF W hjt I.ht hp; omega
    ·exact hjt
   ·rw [heap_alloc_new w ob]; exact hO.mono (fun _ _ h => bmono h)
  ·obtain ⟨i, oi, c1, c', sz1, h1, h2, h3, h4, h5, h6, h7, h8, h9⟩ := I.pend b x hx hb
   subst h6;refine ⟨i, oi, c1, c', sz1, h1, h2, Et h3, h4, h5, rfl, h7, h8, ?_⟩;rw [Below.heap_alloc w ob c' (I.blk _ _ _ _ hx)];exact h9.mono (fun _ _ h => bmono h)
 ·intro b b' c1 d sz1 d' sz' hx hx' hb
  rcases cK hx with ⟨e1, e⟩ | ⟨_, hx⟩ <;> rcases cK hx' with ⟨e2, e'⟩ | ⟨_, hx'⟩
  ·rw [e1, e2]
  ·cases e; have := I.blk _ _ _ _ hx'; omega
  ·cases e'; have := I.blk _ _ _ _ hx; omega
  ·exact I.alone _ _ _ _ _ _ _ hx hx' hb
 ·intro i oi c1 hi h1 hpi hL
  obtain ⟨hne, hL⟩ := rY hL;obtain ⟨h2, h3⟩ := I.later i oi c1 hi h1 hpi hL;refine ⟨?_, h3⟩;have hin := (Array.getElem?_eq_some_iff.1 hi).1;rw [bh.upd_ne (fun e => ?_)]
  ·exact h2
  ·rcases Nat.lt_or_gt_of_ne hne with h | h
   ·have := iF W h (by omega) hpi; omega
   ·have := iF W h (by omega) hp; omega
theorem og.effect (W : Way T w0 B ρ0 wS) (I : og T w0 B ρ0 wS L a w ρ t) {j : Nat} {o : Oper} (N : Next T L j o) (hk : jE o.op = 3) {v' : Value} {w' : World} {ρ1 : bh} (hv : VRel P ρ1 (T.val j) v')
 (hE : hU (ρ.below (T.s j).2.size) (T.s j).2 w ρ1 (T.s (j + 1)).2 w') (hR : Rel P w0 B ρ1 (T.s (j + 1)).2 w') :
 ∃ ρ2, og T w0 B ρ0 wS (qN L j) (a.put o.dst v') w' ρ2 (j + 1) := by
 have hjn := (Array.getElem?_eq_some_iff.1 N.ho).1;obtain ⟨htj, hno⟩ := Zo I N hk;obtain ⟨hRj, hXj⟩ := I.derive W j htj (by omega) hno;have hm : (T.s j).2.size ≤ (T.s (j + 1)).2.size := CM W hjn;have hmt : (T.s t).2.size ≤ (T.s j).2.size := bN W htj (by omega)
 -- no block of the region's own lies in the gap
 have pos : ∀ {b x}, ρ b = some x → (T.s j).2.size ≤ b → (T.s (j + 1)).2.size ≤ b ∧ ∃ i oi c c' sz, ops[i]? = some oi ∧ j + 1 ≤ i ∧ L i = true ∧ b = (T.s i).2.size ∧ (T.s (i + 1)).2 = (T.s i).2.push c ∧ x = (c', 0, sz) ∧ c.rw = true ∧ wS.heap.size ≤ c' ∧ oA P (ρ.below b) 0 sz c w.heap[c']? := by
  intro b x hx hb;obtain ⟨i, oi, c, c', sz, h1, h2, h3, h4, h5, h6⟩ := I.pend b x hx (by omega);have hin := (Array.getElem?_eq_some_iff.1 h1).1
  have hij : j + 1 ≤ i := by
   rcases Nat.lt_trichotomy i j with h | h | h
   ·have := iF W h (by omega) h5; omega
   ·subst h; rw [N.hj] at h3; cases h3
   ·omega
  exact ⟨by have := bN W hij (by omega); omega, i, oi, c, c', sz, h1, hij, h3, h4, h5, h6⟩
 have hle : ∀ b x, ρ b = some x → (fun b => if b < (T.s (j + 1)).2.size then ρ1 b else ρ b) b = some x := by
  intro b x hx
  by_cases hb : b < (T.s (j + 1)).2.size
  ·simp only [hb, if_true]
   by_cases hbj : b < (T.s j).2.size
   ·exact hE.le b x (by rw [bh.below_lt hbj]; exact hx)
   ·have := (pos hx (by omega)).1; omega
  ·simp only [hb, if_false]; exact hx
 have hle1 : ∀ b x, ρ1 b = some x → (fun b => if b < (T.s (j + 1)).2.size then ρ1 b else ρ b) b = some x := by
  intro b x hx;have := hR.dom b x hx;simp only [this, if_true]; exact hx
 have cases' : ∀ {b x}, (fun b => if b < (T.s (j + 1)).2.size then ρ1 b else ρ b) b = some x → (b < (T.s (j + 1)).2.size ∧ ρ1 b = some x) ∨ ((T.s (j + 1)).2.size ≤ b ∧ ρ b = some x) := by
  intro b x hx
  by_cases hb : b < (T.s (j + 1)).2.size
  ·simp only [hb, if_true] at hx; exact .inl ⟨hb, hx⟩
  ·simp only [hb, if_false] at hx; exact .inr ⟨by omega, hx⟩
 have e2 : bh.below (fun b => if b < (T.s (j + 1)).2.size then ρ1 b else ρ b) (T.s (j + 1)).2.size = ρ1 := by
  funext b
  simp only [bh.below]
  by_cases hb : b < (T.s (j + 1)).2.size
  ·simp only [hb, if_true]
  ·simp only [hb, if_false]
   cases h : ρ1 b with
   | none => rfl
   | some x => exact absurd (hR.dom b x h) hb
 refine ⟨fun b => if b < (T.s (j + 1)).2.size then ρ1 b else ρ b, I.closed' N, ?_, by rw [e2]; exact hR, by rw [e2]; exact hXj.trans W.rel hE, by omega, .inr ⟨o, by simpa using N.ho, hk⟩, ?_, ?_, ?_, ?_, ?_, ?_⟩
 ·rw [I.set N]; exact jm (I.act.mono hle) o.dst (hv.mono hle1)
 ·intro i oi hi h3
  by_cases e : i = j
  ·subst e; simp [qN]
  ·rw [Es e, I.hE i oi hi h3]
   constructor
   ·intro h; omega
   ·intro h
    rcases Nat.lt_or_ge i t with h4 | h4
    ·exact h4
    ·exact absurd h3 (hno i oi hi h4 (by omega))
 ·intro b x hx
  rcases cases' hx with ⟨hb, _⟩ | ⟨_, hx⟩
  ·exact Nat.lt_of_lt_of_le hb (bN W (by omega) (bf _))
  ·exact I.full b x hx
 ·intro b c d sz hx
  rcases cases' hx with ⟨_, hx⟩ | ⟨_, hx⟩
  ·exact hR.blk b c d sz hx
  ·have := I.blk b c d sz hx; have := hE.wsize; omega
 ·intro b x hx hb
  rcases cases' hx with ⟨hb', _⟩ | ⟨_, hx⟩
  ·omega
  ·obtain ⟨_, i, oi, c, c', sz, h1, h2, h3, h4, h5, h6, h7, h8, h9⟩ := pos hx (by omega)
   subst h6;refine ⟨i, oi, c, c', sz, h1, h2, Et h3, h4, h5, rfl, h7, h8, ?_⟩;rw [hE.keepC c' (I.blk _ _ _ _ hx) (fun b1 d sz1 o1 hx1 _ => ?_)]
   ·refine h9.mono (fun b1 x1 hx1 => ?_)
    obtain ⟨h10, h11⟩ := bh.below_some hx1;rw [bh.below_lt h10]; exact hle _ _ h11
   ·obtain ⟨h10, h11⟩ := bh.below_some hx1
    have := I.alone _ _ _ _ _ _ _ hx h11 (by omega);omega
 ·intro b b' c d sz d' sz' hx hx' hb
  rcases cases' hx with ⟨hb', _⟩ | ⟨_, hx⟩
  ·omega
  ·rcases cases' hx' with ⟨hb', hx'⟩ | ⟨_, hx'⟩
   ·exfalso
    cases hρ : ρ.below (T.s j).2.size b' with
    | some y =>
     have := hE.le b' y hρ;rw [hx'] at this;cases this;obtain ⟨h10, h11⟩ := bh.below_some hρ;have := I.alone _ _ _ _ _ _ _ hx h11 (by omega);omega
    | none =>
     rcases hE.newC b' c d' sz' hx' hρ with h | ⟨b0, d0, sz0, o0, h, _, _⟩
     ·have := I.blk _ _ _ _ hx; omega
     ·obtain ⟨h10, h11⟩ := bh.below_some h
      have := I.alone _ _ _ _ _ _ _ hx h11 (by omega);omega
   ·exact I.alone _ _ _ _ _ _ _ hx hx' (by omega)
 ·intro i oi c hi h1 hp hL
  obtain ⟨hne, hL⟩ := rY hL;obtain ⟨h2, h3⟩ := I.later i oi c hi h1 hp hL;have hin := (Array.getElem?_eq_some_iff.1 hi).1;refine ⟨?_, fun hij => ?_⟩
  ·by_cases hb : (T.s i).2.size < (T.s (j + 1)).2.size
   ·rw [if_pos hb]
    cases h4 : ρ1 (T.s i).2.size with
    | none => rfl
    | some y =>
     have h5 : ρ.below (T.s j).2.size (T.s i).2.size = none := by unfold bh.below; rw [h2]; split <;> rfl
     have h6 := (hE.fresh _ y h4 h5).1
     rcases Nat.lt_or_gt_of_ne hne with h | h
     ·have := iF W h (by omega) hp; omega
     ·have := bN W (show j + 1 ≤ i from h) (by omega); omega
   ·rw [if_neg hb]; exact h2
  ·have hlt : i < j := by omega
   have hsz := iF W hlt (by omega) hp
   have h5 : ρ.below (T.s j).2.size (T.s i).2.size = none := by unfold bh.below; rw [h2]; split <;> rfl
   rw [hE.keepA _ hsz h5]
   rcases Nat.lt_or_ge i t with h4 | h4
   ·rw [GP W htj (by omega) hno (iF W h4 I.ht hp), h3 h4]
   ·exact GP W (show i + 1 ≤ j from hlt) (by omega) (fun k ok hk h6 h7 => hno k ok hk (by omega) h7) (by rw [hp, AH.size_push]; omega)
theorem og.readAt (I : og T w0 B ρ0 wS L a w ρ t) {j : Nat} {o : Oper} (N : Next T L j o) (hk : jE o.op = 2) :
 ∃ k, t ≤ k ∧ k ≤ ops.size ∧ (∀ i oi, ops[i]? = some oi → t ≤ i → i < k → jE oi.op ≠ 3) ∧ yP P (ed (T.s j).1) o.op (T.s k).2 = yP P (ed (T.s j).1) o.op (T.s j).2 := by
 have hjn := (Array.getElem?_eq_some_iff.1 N.ho).1
 rcases Nat.lt_or_ge j t with hjt | hjt
 ·rcases I.ht1 with h0 | ⟨oe, he, h3⟩
  ·omega
  ·have hL : L (t - 1) = true := (I.hE (t - 1) oe he h3).2 (by omega)
   have hne : j ≠ t - 1 := fun e => by rw [e] at N; have := N.ho; rw [he] at this; cases this; omega
   have hf1 : fb (bz ops.toList) (t - 1) j = false := by
    cases h : fb (bz ops.toList) (t - 1) j with
    | false => rfl
    | true => have := Yv T N.ho h; omega
   have hf2 : fb (bz ops.toList) j (t - 1) = false := by
    cases h : fb (bz ops.toList) j (t - 1) with
    | false => rfl
    | true =>
     have := iP I.closed (t - 1) oe he (I.closed _ _ he hL) j h;rw [N.hj] at this; cases this
   have h := T.look j (t - 1) o oe N.ho he hk h3 hf1 hf2;rw [if_neg (by omega), show t - 1 + 1 = t from by omega] at h;exact ⟨t, bf _, I.ht, fun i oi hi h1 h2 => absurd h1 (by omega), h⟩
 ·-- the first that does more than look, between here and there
  have key : ∀ n, t + n ≤ j → (∀ i oi, ops[i]? = some oi → t ≤ i → i < t + n → jE oi.op ≠ 3) ∨
   ∃ e oe, t ≤ e ∧ e < j ∧ ops[e]? = some oe ∧ jE oe.op = 3 ∧ ∀ i oi, ops[i]? = some oi → t ≤ i → i < e → jE oi.op ≠ 3 := by
   intro n
   induction n with
   | zero => intro _; exact .inl (fun i oi hi h1 h2 => absurd h1 (by omega))
   | succ n ih =>
    intro hn
    rcases ih (by omega) with h | h
    ·have ho : ops[t + n]? = some ops[t + n] := by simp [show t + n < ops.size from by omega]
     by_cases h3 : jE (ops[t + n]).op = 3
     ·exact .inr ⟨t + n, _, by omega, by omega, ho, h3, h⟩
     ·refine .inl (fun i oi hi h1 h2 => ?_)
      by_cases e : i = t + n
      ·subst e; rw [ho] at hi; cases hi; exact h3
      ·exact h i oi hi h1 (by omega)
    ·exact .inr h
  rcases key (j - t) (by omega) with h | ⟨e, oe, h1, h2, he, h3, h4⟩
  ·exact ⟨j, hjt, by omega, fun i oi hi h1 h2 => h i oi hi h1 (by omega), rfl⟩
  ·have hLe : L e = false := by
    cases h : L e with
    | false => rfl
    | true => have := (I.hE e oe he h3).1 h; omega
   have hf1 : fb (bz ops.toList) e j = false := by
    cases h : fb (bz ops.toList) e j with
    | false => rfl
    | true => have := iP I.closed j o N.ho N.ready e h; rw [hLe] at this; cases this
   have hf2 : fb (bz ops.toList) j e = false := by
    cases h : fb (bz ops.toList) j e with
    | false => rfl
    | true => have := Yv T he h; omega
   have h := T.look j e o oe N.ho he hk h3 hf1 hf2;rw [if_pos h2] at h;exact ⟨e, h1, by omega, h4, h⟩
theorem sT {ev : Operand → Value} {o : Oper} {H : AH} {r : Value × AH} (h : dx P call ev o H = some r) : ∀ cs b, o.op ≠ .select cs b := by
 intro cs b e;obtain ⟨dst, op, type, pos, after, guard⟩ := o;simp only at e;subst e;simp [dx] at h
theorem og.step (W : Way T w0 B ρ0 wS) (I : og T w0 B ρ0 wS L a w ρ t) {j : Nat} {o : Oper} (N : Next T L j o) {K : Act → World → Prop} {Q : Exit → Act → World → Prop}
 (hK : ∀ a' w' ρ' t', og T w0 B ρ0 wS (qN L j) a' w' ρ' t' → K a' w') : wpOp P ops Q j K a w := by
 have hjn := (Array.getElem?_eq_some_iff.1 N.ho).1;unfold wpOp;rw [N.ho];simp only;rw [I.wanted N];obtain ⟨hok, hs, ⟨hw, h⟩ | ⟨hw, hv, hH⟩⟩ := T.step j o N.ho
 ·rw [if_pos hw]
  refine .inl ?_
  rcases Cp o.op with h0 | h1 | h2 | h3
  ·have h' : dx P call (ed (AD T L ops.size)) o (pad (T.s ops.size).2.size (T.s t).2) = some (T.val j, pad (T.s ops.size).2.size (T.s t).2) := by
    rw [mo (fun x hx => I.evs N hx)]; exact (sU h0 h).2 _
   have hp : Rel P w0 B ρ (pad (T.s ops.size).2.size (T.s t).2) w := I.rel.pad (bN W I.ht (bf _)) I.full I.blk;have hG : GlobRel ρ G := (I.glob W (bN W (Nat.zero_le t) I.ht)).mono sW;obtain ⟨v', hr, hv⟩ := GO I.act hG hp hok (.inl h0) h';refine dH.wp (R := fun v w' => v = v' ∧ w' = w) (by unfold dH; rw [hr]; exact ⟨rfl, rfl⟩) ?_
   rintro v w' ⟨rfl, rfl⟩
   exact hK _ _ _ _ (I.same N (by omega) hv)
  ·have h' : dx P call (ed (o9 (rB o.op) (AD T L ops.size))) o (T.s j).2 = some (T.val j, (T.s (j + 1)).2) := by
    rw [mo (fun x hx => (MW hx).trans (I.evs N hx))]; exact h
   obtain ⟨c, hc, hp, hall⟩ := yT (I.masked W N) (I.glob W (bN W (Nat.zero_le j) (by omega))) hok h1 h';obtain ⟨ob, sz, v', hr, hO, hv⟩ := hall w;rw [execOp_congr o (sT h) (fun x hx => Cj (by simpa using hx))] at hr;refine dH.wp (R := fun v w' => v = v' ∧ w' = w.alloc ob) (by unfold dH; rw [hr]; exact ⟨rfl, rfl⟩) ?_
   rintro v w' ⟨rfl, rfl⟩
   exact hK _ _ _ _ (I.alloc W N h1 hc hp hO hv)
  ·obtain ⟨k, hk1, hk2, hk3, hrd⟩ := I.readAt N h2
   obtain ⟨hRk, _⟩ := I.derive W k hk1 hk2 hk3;have hp : Rel P w0 B ρ (pad (T.s ops.size).2.size (T.s k).2) w := hRk.pad (bN W hk2 (bf _)) I.full I.blk;rw [yO h2] at h;obtain ⟨y, hy, e⟩ := aM.1 h;have ey : y = T.val j := (Prod.mk.inj e).1;subst ey;rw [← hrd] at hy
   have h' : dx P call (ed (AD T L ops.size)) o (pad (T.s ops.size).2.size (T.s k).2) = some (T.val j, pad (T.s ops.size).2.size (T.s k).2) := by
    rw [mo (fun x hx => I.evs N hx), yO h2, XN (H1 := (T.s k).2) (fun b hb => Nc (Qw hy hb) (bN W hk2 (bf _))), hy]
    rfl
   have hG : GlobRel ρ G := (I.glob W (bN W (Nat.zero_le t) I.ht)).mono sW;obtain ⟨v', hr, hv⟩ := GO I.act hG hp hok (.inr h2) h';refine dH.wp (R := fun v w' => v = v' ∧ w' = w) (by unfold dH; rw [hr]; exact ⟨rfl, rfl⟩) ?_
   rintro v w' ⟨rfl, rfl⟩
   exact hK _ _ _ _ (I.same N (by omega) hv)
  ·obtain ⟨htj, hno⟩ := Zo I N h3
   obtain ⟨hRj, _⟩ := I.derive W j htj (by omega) hno
   have h' : dx P call (ed (o9 (rB o.op) (AD T L ops.size))) o (T.s j).2 = some (T.val j, (T.s (j + 1)).2) := by
    rw [mo (fun x hx => (MW hx).trans (I.evs N hx))]; exact h
   have hr := tY W.hcall (I.masked W N) (I.glob W (bN W (Nat.zero_le j) (by omega))) hRj hok h';have hr := hr.congr (execOp_congr o (sT h) (fun x hx => Cj (by simpa using hx)));refine hr.wp ?_
   rintro v' w' ⟨ρ1, hv, hE, hR⟩
   obtain ⟨ρ2, I2⟩ := I.effect W N h3 hv hE hR;exact hK _ _ _ _ I2
 ·rw [if_neg (by rw [hw]; simp)]
  by_cases h3 : jE o.op = 3
  ·obtain ⟨htj, hno⟩ := Zo I N h3
   obtain ⟨hRj, _⟩ := I.derive W j htj (by omega) hno;obtain ⟨ρ2, I2⟩ := I.effect W N h3 (v' := undef) (w' := w) (ρ1 := ρ.below (T.s j).2.size) (by rw [hv]; exact VRel.undef) (by rw [hH]; exact hU.refl _ _ _) (by rw [hH]; exact hRj);exact hK _ _ _ _ I2
  ·exact hK _ _ _ _ (I.same N h3 (by rw [hv]; exact VRel.undef))
theorem og.start (W : Way T w0 B ρ0 wS) (hA : bI P ρ0 (T.s 0).1 a) : og T w0 B ρ0 wS (fun _ => false) a wS ρ0 0 := by
 have e : ρ0.below (T.s 0).2.size = ρ0 := by
  funext b
  unfold bh.below
  split
  ·rfl
  ·cases h : ρ0 b with
   | none => rfl
   | some x => exact absurd (W.rel.dom b x h) (by assumption)
 refine ⟨fun _ _ _ h => (by cases h), by rw [Ww]; exact hA, by rw [e]; exact W.rel, by rw [e]; exact hU.refl _ _ _, Nat.zero_le _, .inl rfl, fun i o _ _ => by simp, ?_, W.rel.blk, ?_, ?_, ?_⟩
 ·intro b x hx
  have := W.rel.dom b x hx;have := bN W (Nat.zero_le ops.size) (bf _);omega
 ·intro b x hx hb
  have := W.rel.dom b x hx; omega
 ·intro b b' c d sz d' sz' hx _ hb
  have := W.rel.dom b _ hx; omega
 ·intro i o c hi _ hp _
  refine ⟨?_, fun h => by omega⟩;have hin := (Array.getElem?_eq_some_iff.1 hi).1;have := bN W (Nat.zero_le i) (by omega)
  cases h : ρ0 (T.s i).2.size with
  | none => rfl
  | some x => have := W.rel.dom _ x h; omega
theorem og.done (W : Way T w0 B ρ0 wS) (I : og T w0 B ρ0 wS L a w ρ t) (hL : ∀ i, i < ops.size → L i = true) : yI P w0 B G ρ0 (T.s 0).2 wS (T.s ops.size).1 (T.s ops.size).2 a w := by
 have e : ρ.below (T.s ops.size).2.size = ρ := by
  funext b
  unfold bh.below
  split
  ·rfl
  ·cases h : ρ b with
   | none => rfl
   | some x => exact absurd (I.full b x h) (by assumption)
 obtain ⟨hR, hX⟩ := I.derive W ops.size I.ht (bf _) (fun i o hi h1 h2 h3 => by
  have := (I.hE i o hi h3).1 (hL i (by omega)); omega)
 rw [e] at hR hX;exact ⟨ρ, by rw [← YW T hL]; exact I.act, W.glob.mono hX.le, hX, hR⟩
theorem N2 (W : Way T w0 B ρ0 wS) {Q : Exit → Act → World → Prop} (hQ : ∀ a' w', yI P w0 B G ρ0 (T.s 0).2 wS (T.s ops.size).1 (T.s ops.size).2 a' w' → Q .normal a' w') :
 ∀ (fuel : Nat) (listed : Array Bool) (a : Act) (w : World) (ρ : bh) (t : Nat), listed.size = ops.size → ((List.range ops.size).filter fun i => !listed.getD i false).length ≤ fuel →
  og T w0 B ρ0 wS (fun i => listed.getD i false) a w ρ t → wpAny P .any ops Q fuel listed a w := by
 have inready : ∀ (listed : Array Bool), listed.size = ops.size → ∀ j, j ∈ Region.ready .any ops listed → ∃ o, Next T (fun i => listed.getD i false) j o := by
  intro listed hsz j hj;unfold Region.ready at hj;rw [List.mem_filter] at hj;obtain ⟨hj, h⟩ := hj;rw [List.mem_range] at hj
  have ho : ops[j]? = some ops[j] := by simp [hj]
  simp only [Bool.and_eq_true, Bool.not_eq_true'] at h;obtain ⟨h1, h2⟩ := h;rw [ho] at h2;simp only [dD, Option.getD_some, Array.all_eq_true'] at h2;refine ⟨ops[j], ho, ?_, fun e he hb => ?_⟩
  ·have hjl : j < listed.size := by omega
   simp only [Array.getD, hjl, dif_pos] at h1 ⊢; exact h1
  ·have := h2 e he
   simpa [hb] using this
 have least : ∀ (listed : Array Bool), listed.size = ops.size → Region.ready .any ops listed = [] → ∀ i, i < ops.size → listed.getD i false = true := by
  intro listed hsz hnil i
  induction i using Nat.strongRecOn with
  | _ i ih =>
   intro hi
   cases h : listed.getD i false with
   | true => rfl
   | false =>
    exfalso
    have ho : ops[i]? = some ops[i] := by simp [hi]
    have : i ∈ Region.ready .any ops listed := by
     unfold Region.ready;rw [List.mem_filter, List.mem_range];refine ⟨hi, ?_⟩;simp only [Bool.and_eq_true, Bool.not_eq_true'];refine ⟨?_, ?_⟩
     ·have hjl : i < listed.size := by omega
      simp only [Array.getD, hjl, dif_pos] at h ⊢; exact h
     ·rw [ho]
      simp only [dD, Option.getD_some, Array.all_eq_true'];intro e he
      cases hb : Region.binds .any e with
      | false => rfl
      | true =>
       have hlt := T.back i _ ho e he hb
       simpa using ih e.on hlt (by omega)
    rw [hnil] at this;cases this
 intro fuel
 induction fuel with
 | zero =>
  intro listed a w ρ t hsz hcnt I
  have hall : ∀ i, i < ops.size → listed.getD i false = true := by
   intro i hi;have h0 : ((List.range ops.size).filter fun i => !listed.getD i false) = [] := List.eq_nil_of_length_eq_zero (by omega);rw [List.filter_eq_nil_iff] at h0;have := h0 i (List.mem_range.2 hi)
   simpa using this
  refine ⟨?_, hQ _ _ (I.done W hall)⟩
  cases hr : Region.ready .any ops listed with
  | nil => rfl
  | cons j js =>
   obtain ⟨o, N⟩ := inready listed hsz j (by rw [hr]; simp);have := hall j (Array.getElem?_eq_some_iff.1 N.ho).1;have h2 : listed.getD j false = false := N.hj;rw [this] at h2; cases h2
 | succ fuel ih =>
  intro listed a w ρ t hsz hcnt I;refine ⟨fun hnil => hQ _ _ (I.done W (least listed hsz hnil)), fun j hj => ?_⟩;obtain ⟨o, N⟩ := inready listed hsz j hj;have hjn := (Array.getElem?_eq_some_iff.1 N.ho).1
  have hset : (fun i => (listed.setIfInBounds j true).getD i false) = qN (fun i => listed.getD i false) j := by
   funext i
   simp only [qN, Array.getD_eq_getD_getElem?];rw [Array.getElem?_setIfInBounds]
   by_cases e : i = j
   ·subst e; simp [show i < listed.size from by omega]
   ·rw [if_neg (fun e' => e e'.symm), if_neg e]
  refine I.step W N (fun a' w' ρ' t' I' => ih _ a' w' ρ' t' (by simp [hsz]) ?_ (by rw [hset]; exact I'))
  have e1 : ((List.range ops.size).filter fun i => !(listed.setIfInBounds j true).getD i false) = ((List.range ops.size).filter fun i => !listed.getD i false).filter fun i => i != j := by
   rw [List.filter_filter];apply List.filter_congr;intro i _;have : (listed.setIfInBounds j true).getD i false = qN (fun i => listed.getD i false) j i := congrFun hset i;rw [this];simp only [qN]
   by_cases e : i = j
   ·subst e; simp
   ·simp [e]
  have e2 : (((List.range ops.size).filter fun i => !listed.getD i false).filter fun i => i != j).length < ((List.range ops.size).filter fun i => !listed.getD i false).length := by
   rw [List.length_filter_lt_length_iff_exists];refine ⟨j, ?_, by simp⟩;rw [List.mem_filter, List.mem_range];have : listed.getD j false = false := N.hj;exact ⟨hjn, by rw [this]; rfl⟩
  rw [e1]; omega
theorem Kg (W : Way T w0 B ρ0 wS) (hm : P.follows .mixedOrders = true) {id : Nat} {Q : Exit → Act → World → Prop} {w : World} (hw : wS = { w with drawn := w.drawn + 1 }) (hA : bI P ρ0 (T.s 0).1 a)
 (hQ : ∀ a' w', yI P w0 B G ρ0 (T.s 0).2 wS (T.s ops.size).1 (T.s ops.size).2 a' w' → Q .normal a' w') : (Code.region id ops true).wp P Q a w := by
 refine wp_region_any hm ?_;rw [← hw];refine N2 W hQ ops.size _ a wS ρ0 0 (by simp) ?_ ?_
 ·refine dN (List.length_filter_le _ _) (by simp)
 ·have e : (fun i => (Array.replicate ops.size false).getD i false) = fun _ => false := by
   funext i
   rw [Array.getD_eq_getD_getElem?, Array.getElem?_replicate]
   split <;> rfl
  rw [e];exact og.start W hA
end
end Go.Proofs.YtghoamdlcjdfjaaGreatDoor.Gst
