/- Several texts in one. -/
import Derived.Calls
import Derived.Orders
import Derived.Below
import Derived.Laws.Entries
import Derived.Laws.Cells
import Derived.Laws.CopyRow
import Derived.Laws.Append
import Derived.Laws.AppendOwn
import Derived.Laws.MakeOwn
import Derived.Laws.StructEq
import Derived.Laws.Pointers
import Derived.Laws.Slices
import Derived.Laws.Strings
import Derived.Deep.LoopGhost
import Derived.Tactics
import Derived.LoopN
import Derived.Defers
import Derived.KernelRfl
import Derived.DataReads
import Derived.ChangeArms
import Derived.ChangeSame
import Derived.Carry
import Derived.ProofKit
import Derived.Recover
import Derived.Test.YtghoamdlcjdfjaaGreatDoorProg
import Derived.Test.YtghoamdlcjdfjaaGreatDoorRows
namespace Go.Proofs.YtghoamdlcjdfjaaGreatDoor.Gst
open Go Go.RowKit
set_option linter.unusedVariables false
set_option linter.unusedSimpArgs false
abbrev aG := @Option.bind_eq_some_iff
abbrev aN := @Option.map_eq_some_iff
abbrev br := @List.getElem?_eq_getElem
abbrev qw := @List.getElem?_eq_some_iff
abbrev tA := @List.getElem?_map
abbrev dh := @List.length_append
abbrev bo := @Option.bind_some
abbrev pJ := @List.length_map
abbrev xa := @List.length_set
abbrev iy := @decide_eq_true
abbrev gU := @decide_eq_false
abbrev Kv := @List.map_append
abbrev dP := @Option.map_some
abbrev sm := @List.mem_cons
abbrev fi := @Option.some.inj
abbrev nK := @Int.toNat_natCast
abbrev Ku := @List.getElem_mem
abbrev aiY := @Int.tmod_eq_emod_of_nonneg
abbrev dZ := @Nat.le_trans
abbrev bj := @Nat.le_refl
inductive AObj where
 | cells (ro : Bool) (cs : List Value)
 | map (es : List MapEntry) (clock : Nat)
 | dead
def AObj.rw : AObj → Bool
 | .cells false _ => true
 | .map _ _ => true
 | _ => false
structure AH where
 objs : List AObj
def AH.size (H : AH) : Nat := H.objs.length
def AH.get (H : AH) (b : Nat) : Option AObj := H.objs[b]?
def AH.set (H : AH) (b : Nat) (o : AObj) : AH := ⟨H.objs.set b o⟩
def AH.push (H : AH) (o : AObj) : AH := ⟨H.objs ++ [o]⟩
theorem AH.size_set (H : AH) (b : Nat) (o : AObj) : (H.set b o).size = H.size := by simp [AH.size, AH.set]
theorem AH.size_push (H : AH) (o : AObj) : (H.push o).size = H.size + 1 := by simp [AH.size, AH.push]
theorem AH.lt_of_get {H : AH} {b : Nat} {o : AObj} (h : H.get b = some o) : b < H.size := by
 unfold AH.get at h; unfold AH.size;exact (qw.1 h).1
theorem AH.get_none {H : AH} {b : Nat} (h : H.size ≤ b) : H.get b = none := by
 unfold AH.get; unfold AH.size at h; exact List.getElem?_eq_none h
theorem AH.get_push (H : AH) (o : AObj) (b : Nat) : (H.push o).get b = if b = H.size then some o else H.get b := by
 unfold AH.get AH.push AH.size
 by_cases h : b = H.objs.length
 ·subst h; simp
 ·rw [if_neg h]
  by_cases hl : b < H.objs.length
  ·rw [List.getElem?_append_left hl]
  ·rw [List.getElem?_append_right (by omega), List.getElem?_eq_none (by simp; omega), List.getElem?_eq_none (by omega)]
theorem AH.get_set (H : AH) (b : Nat) (o : AObj) (b' : Nat) : (H.set b o).get b' = if b' = b then (if b < H.size then some o else none) else H.get b' := by
 unfold AH.get AH.set AH.size;rw [List.getElem?_set]
 by_cases h : b = b'
 ·subst h; simp
 ·rw [if_neg h, if_neg (fun e => h e.symm)]
theorem AH.get_set_ne {H : AH} {b : Nat} {o : AObj} {b' : Nat} (h : b' ≠ b) : (H.set b o).get b' = H.get b' := by rw [AH.get_set, if_neg h]
theorem AH.get_set_eq {H : AH} {b : Nat} {o : AObj} (h : b < H.size) : (H.set b o).get b = some o := by rw [AH.get_set, if_pos rfl, if_pos h]
theorem AH.get_push_old {H : AH} {o : AObj} {b : Nat} (h : b < H.size) : (H.push o).get b = H.get b := by rw [AH.get_push, if_neg (by omega)]
theorem AH.get_push_new (H : AH) (o : AObj) : (H.push o).get H.size = some o := by rw [AH.get_push, if_pos rfl]
def cJ : Value → Bool
 | .bool _ | .int _ _ | .float _ _ | .complex _ _ _ | .string _ | .pointer none | .slice none _ _ | .map none | .chan none | .nilFunc | .nilIface => true
 | _ => false
def wG : Value → Bool
 | .agg cs => cs.toList.all cJ
 | .tuple cs => cs.toList.all cJ
 | v => cJ v
abbrev bv := Nat → Option (Nat × Nat × Nat)
def bv.upd (ρ : bv) (b : Nat) (x : Nat × Nat × Nat) : bv := fun i => if i = b then some x else ρ i
inductive VRel (P : Program) (ρ : bv) : Value → Value → Prop
 | lit {v : Value} (h : cJ v = true) : VRel P ρ v v
 | ptr {b o c d sz : Nat} (h : ρ b = some (c, d, sz)) : VRel P ρ (.pointer (some ⟨b, o, none⟩)) (.pointer (some ⟨c, d + o, none⟩))
 | slice {b o n e c d sz k : Nat} (h : ρ b = some (c, d, sz)) (hk : d + o + k * e ≤ sz) (hn : n ≤ k) (he : 0 < e) :
  VRel P ρ (.slice (some ⟨b, o, none⟩) n e) (.slice (some ⟨c, d + o, none⟩) n k)
 | slice0 {b o e c d sz : Nat} {a : Addr} (h : ρ b = some (c, d, sz)) : VRel P ρ (.slice (some ⟨b, o, none⟩) 0 e) (.slice (some a) 0 0)
 | empty {b o : Nat} {a : Addr} : VRel P ρ (.slice (some ⟨b, o, none⟩) 0 0) (.slice (some a) 0 0)
 | map {b c d sz : Nat} (h : ρ b = some (c, d, sz)) : VRel P ρ (.map (some b)) (.map (some c))
 | func {fn : Fn} {f f' c c' : Array Value} (hf : f.size = f'.size) (hfe : ∀ (i : Nat) (x y : Value), f[i]? = some x → f'[i]? = some y → VRel P ρ x y)
  (hc : c.size = c'.size) (hce : ∀ (i : Nat) (x y : Value), c[i]? = some x → c'[i]? = some y → VRel P ρ x y) : VRel P ρ (.func fn f c) (.func fn f' c')
 | iface {t : TypeId} {v v' : Value} (h : VRel P ρ v v') : VRel P ρ (.iface t v) (.iface t v')
 | agg {xs ys : Array Value} (hs : xs.size = ys.size) (he : ∀ (i : Nat) (x y : Value), xs[i]? = some x → ys[i]? = some y → VRel P ρ x y) : VRel P ρ (.agg xs) (.agg ys)
 | tuple {xs ys : Array Value} (hs : xs.size = ys.size) (he : ∀ (i : Nat) (x y : Value), xs[i]? = some x → ys[i]? = some y → VRel P ρ x y) : VRel P ρ (.tuple xs) (.tuple ys)
theorem VRel.mono {P : Program} {ρ ρ' : bv} (hle : ∀ b x, ρ b = some x → ρ' b = some x) {v v' : Value} (h : VRel P ρ v v') : VRel P ρ' v v' := by
 induction h with
 | lit h => exact .lit h
 | ptr h => exact .ptr (hle _ _ h)
 | slice h hk hn he => exact .slice (hle _ _ h) hk hn he
 | slice0 h => exact .slice0 (hle _ _ h)
 | empty => exact .empty
 | map h => exact .map (hle _ _ h)
 | func hf _ hc _ ih1 ih2 => exact .func hf ih1 hc ih2
 | iface _ ih => exact .iface ih
 | agg hs _ ih => exact .agg hs ih
 | tuple hs _ ih => exact .tuple hs ih
theorem VRel.slice_inv {P : Program} {ρ : bv} {b o n e : Nat} {s' : Value} (h : VRel P ρ (.slice (some ⟨b, o, none⟩) n e) s') (he : e ≠ 0) :
 (∃ c d sz a, ρ b = some (c, d, sz) ∧ n = 0 ∧ s' = .slice (some a) 0 0) ∨ ∃ c d sz k, ρ b = some (c, d, sz) ∧ d + o + k * e ≤ sz ∧ n ≤ k ∧ s' = .slice (some ⟨c, d + o, none⟩) n k := by
 cases h with
 | lit h => simp [cJ] at h
 | slice h hk hn he => exact .inr ⟨_, _, _, _, h, hk, hn, rfl⟩
 | slice0 h => exact .inl ⟨_, _, _, _, h, rfl, rfl⟩
 | empty => exact absurd rfl he
theorem VRel.const {P : Program} {ρ : bv} {v : Value} (h : wG v = true) : VRel P ρ v v := by
 have all : ∀ cs : Array Value, cs.toList.all cJ = true → ∀ (i : Nat) (x y : Value), cs[i]? = some x → cs[i]? = some y → VRel P ρ x y := by
  intro cs hcs i x y hx hy;rw [hx] at hy;cases hy
  have hm : x ∈ cs.toList := by
   have := Array.mem_of_getElem? hx
   simpa using this
  exact .lit (List.all_eq_true.1 hcs x hm)
 cases v <;> first
  | exact .lit h
  | exact .agg rfl (all _ h)
  | exact .tuple rfl (all _ h)
theorem VRel.undef {P : Program} {ρ : bv} : VRel P ρ undef undef := .tuple rfl (fun i x y hx _ => by simp at hx)
def LRel (P : Program) (ρ : bv) (xs ys : List Value) : Prop := xs.length = ys.length ∧ ∀ (i : Nat) (x y : Value), xs[i]? = some x → ys[i]? = some y → VRel P ρ x y
theorem LRel.mono {P : Program} {ρ ρ' : bv} (hle : ∀ b x, ρ b = some x → ρ' b = some x) {xs ys : List Value} (h : LRel P ρ xs ys) : LRel P ρ' xs ys :=
 ⟨h.1, fun i x y hx hy => (h.2 i x y hx hy).mono hle⟩
theorem LRel.nil {P : Program} {ρ : bv} : LRel P ρ [] [] := ⟨rfl, fun _ _ _ h => by simp at h⟩
theorem LRel.cons {P : Program} {ρ : bv} {x y : Value} {xs ys : List Value} (h : VRel P ρ x y) (hs : LRel P ρ xs ys) : LRel P ρ (x :: xs) (y :: ys) := by
 refine ⟨by simp [hs.1], fun i a b ha hb => ?_⟩
 cases i with
 | zero => simp at ha hb; subst ha; subst hb; exact h
 | succ i => simp at ha hb; exact hs.2 i a b ha hb
theorem LRel.append {P : Program} {ρ : bv} {xs ys xs' ys' : List Value} (h : LRel P ρ xs ys) (h' : LRel P ρ xs' ys') : LRel P ρ (xs ++ xs') (ys ++ ys') := by
 refine ⟨by simp [h.1, h'.1], fun i a b ha hb => ?_⟩;have hl := h.1;rw [List.getElem?_append] at ha hb
 by_cases hi : i < xs.length
 ·rw [if_pos hi] at ha; rw [if_pos (by omega)] at hb; exact h.2 i a b ha hb
 ·rw [if_neg hi] at ha; rw [if_neg (by omega)] at hb
  rw [← hl] at hb;exact h'.2 _ a b ha hb
theorem LRel.take {P : Program} {ρ : bv} {xs ys : List Value} (h : LRel P ρ xs ys) (n : Nat) : LRel P ρ (xs.take n) (ys.take n) := by
 refine ⟨by simp [h.1], fun i a b ha hb => ?_⟩;rw [List.getElem?_take] at ha hb
 by_cases hi : i < n
 ·rw [if_pos hi] at ha hb; exact h.2 i a b ha hb
 ·rw [if_neg hi] at ha; cases ha
theorem LRel.drop {P : Program} {ρ : bv} {xs ys : List Value} (h : LRel P ρ xs ys) (n : Nat) : LRel P ρ (xs.drop n) (ys.drop n) := by
 refine ⟨by simp [h.1], fun i a b ha hb => ?_⟩;rw [List.getElem?_drop] at ha hb;exact h.2 _ a b ha hb
theorem LRel.set {P : Program} {ρ : bv} {xs ys : List Value} (h : LRel P ρ xs ys) (n : Nat) {x y : Value} (hx : VRel P ρ x y) : LRel P ρ (xs.set n x) (ys.set n y) := by
 refine ⟨by simp [h.1], fun i a b ha hb => ?_⟩;rw [List.getElem?_set] at ha hb
 by_cases hi : n = i
 ·rw [if_pos hi] at ha hb
  have := h.1
  split at ha <;> split at hb <;> first | (cases ha; cases hb; exact hx) | omega | cases ha
 ·rw [if_neg hi] at ha hb; exact h.2 i a b ha hb
theorem LRel.get {P : Program} {ρ : bv} {xs ys : List Value} (h : LRel P ρ xs ys) {i : Nat} {x : Value} (hx : xs[i]? = some x) : ∃ y, ys[i]? = some y ∧ VRel P ρ x y := by
 have hi := (qw.1 hx).1
 have hy : i < ys.length := by have := h.1; omega
 exact ⟨ys[i], br hy, h.2 i x _ hx (br hy)⟩
theorem LRel.of_all {P : Program} {ρ : bv} {xs : List Value} (h : xs.all cJ = true) : LRel P ρ xs xs :=
 ⟨rfl, fun i x y hx hy => by
  rw [hx] at hy; cases hy
  exact .lit (List.all_eq_true.1 h x (List.mem_of_getElem? hx))⟩
theorem VRel.cells {P : Program} {ρ : bv} {v v' : Value} (h : VRel P ρ v v') : LRel P ρ v.cells.toList v'.cells.toList := by
 have one : ∀ {v v' : Value}, VRel P ρ v v' → LRel P ρ [v] [v'] := fun h => LRel.cons h LRel.nil
 cases h with
 | lit h =>
  cases v <;> first | exact one (.lit h) | (simp [cJ] at h)
 | agg hs he =>
  exact ⟨by simpa [Value.cells] using hs, fun i x y hx hy => he i x y (by simpa [Value.cells] using hx) (by simpa [Value.cells] using hy)⟩
 | ptr h => exact one (.ptr h)
 | slice h hk hn he => exact one (.slice h hk hn he)
 | slice0 h => exact one (.slice0 h)
 | empty => exact one .empty
 | map h => exact one (.map h)
 | func hf h1 hc h2 => exact one (.func hf h1 hc h2)
 | iface h => exact one (.iface h)
 | tuple hs he => exact one (.tuple hs he)
theorem VRel.oneCell {P : Program} {ρ : bv} {v v' : Value} (h : VRel P ρ v v') : v.oneCell' = v'.oneCell' := by
 cases h <;> rfl
def Ut (P : Program) (ρ : bv) (e e' : MapEntry) : Prop := VRel P ρ e.key e'.key ∧ VRel P ρ e.val e'.val ∧ e.born = e'.born
def pQ (P : Program) (ρ : bv) (d sz : Nat) (o : AObj) (x : Option Obj) : Prop :=
 match o with
 | .dead => True
 | .cells ro cs => ∃ cc el fz, x = some (.cells cc el fz) ∧ cc.size = sz ∧ d + cs.length ≤ sz ∧ (ro = false → fz = (0, 0)) ∧ LRel P ρ cs ((cc.toList.drop d).take cs.length)
 | .map es clock => ∃ es', x = some (.map es' clock) ∧ es'.size = es.length ∧ ∀ (i : Nat) (e e' : MapEntry), es[i]? = some e → es'[i]? = some e' → Ut P ρ e e'
theorem pQ.mono {P : Program} {ρ ρ' : bv} (hle : ∀ b x, ρ b = some x → ρ' b = some x) {d sz : Nat} {o : AObj} {x : Option Obj} (h : pQ P ρ d sz o x) : pQ P ρ' d sz o x := by
 cases o with
 | dead => trivial
 | cells ro cs =>
  obtain ⟨cc, el, fz, h1, h2, h3, h4, h5⟩ := h;exact ⟨cc, el, fz, h1, h2, h3, h4, h5.mono hle⟩
 | map es clock =>
  obtain ⟨es', h1, h2, h3⟩ := h;exact ⟨es', h1, h2, fun i e e' he he' => let ⟨a, b, c⟩ := h3 i e e' he he'; ⟨a.mono hle, b.mono hle, c⟩⟩
structure Rel (P : Program) (w0 : World) (B : Nat) (ρ : bv) (H : AH) (w : World) : Prop where
 base : B ≤ w0.heap.size
 below : Below B w0 w
 dom : ∀ b x, ρ b = some x → b < H.size
 blk : ∀ b c d sz, ρ b = some (c, d, sz) → c < w.heap.size
 obj : ∀ b c d sz o, ρ b = some (c, d, sz) → H.get b = some o → pQ P ρ d sz o w.heap[c]?
 own : ∀ b c d sz o, ρ b = some (c, d, sz) → H.get b = some o → o.rw = true → B ≤ c
 ro : ∀ b c d sz cs, ρ b = some (c, d, sz) → H.get b = some (.cells true cs) → c < B
 inj : ∀ b b' c d d' sz sz' o o', ρ b = some (c, d, sz) → ρ b' = some (c, d', sz') → H.get b = some o → H.get b' = some o' → o.rw = true → o'.rw = true → b = b'
structure ix (ρ : bv) (H : AH) (w : World) (ρ' : bv) (H' : AH) (w' : World) : Prop where
 le : ∀ b x, ρ b = some x → ρ' b = some x
 fresh : ∀ b x, ρ' b = some x → ρ b = none → H.size ≤ b ∧ b < H'.size
 hsize : H.size ≤ H'.size
 wsize : w.heap.size ≤ w'.heap.size
 keepA : ∀ b, b < H.size → ρ b = none → H'.get b = H.get b
 keepRo : ∀ b o, H.get b = some o → o.rw = false → H'.get b = some o
 keepC : ∀ c, c < w.heap.size → (∀ b d sz o, ρ b = some (c, d, sz) → H.get b = some o → o.rw = false) → w'.heap[c]? = w.heap[c]?
 newC : ∀ b c d sz, ρ' b = some (c, d, sz) → ρ b = none → w.heap.size ≤ c ∨ ∃ b0 d0 sz0 o, ρ b0 = some (c, d0, sz0) ∧ H.get b0 = some o ∧ o.rw = true
theorem ix.refl (ρ : bv) (H : AH) (w : World) : ix ρ H w ρ H w where
 le := fun _ _ h => h
 fresh := fun b x h hn => by rw [hn] at h; cases h
 hsize := bj _
 wsize := bj _
 keepA := fun _ _ _ => rfl
 keepRo := fun _ _ h _ => h
 keepC := fun _ _ _ => rfl
 newC := fun b c d sz h hn => by rw [hn] at h; cases h
theorem ix.trans {P : Program} {w0 : World} {B : Nat} {ρ ρ1 ρ2 : bv} {H H1 H2 : AH} {w w1 w2 : World} (hr : Rel P w0 B ρ H w)
 (h : ix ρ H w ρ1 H1 w1) (k : ix ρ1 H1 w1 ρ2 H2 w2) : ix ρ H w ρ2 H2 w2 where
 le := fun b x hb => k.le b x (h.le b x hb)
 fresh := fun b x hb hn => by
  cases h1 : ρ1 b with
  | none => have := k.fresh b x hb h1; have := h.hsize; omega
  | some y => have := h.fresh b y h1 hn; have := k.hsize; omega
 hsize := dZ h.hsize k.hsize
 wsize := dZ h.wsize k.wsize
 keepA := fun b hb hn => by
  have h1 : ρ1 b = none := by
   cases h1 : ρ1 b with
   | none => rfl
   | some y => have := h.fresh b y h1 hn; omega
  rw [k.keepA b (by have := h.hsize; omega) h1, h.keepA b hb hn]
 keepRo := fun b o ho hrw => k.keepRo b o (h.keepRo b o ho hrw) hrw
 keepC := fun c hc hf => by
  have e1 := h.keepC c hc hf;rw [← e1];refine k.keepC c (Nat.lt_of_lt_of_le hc h.wsize) ?_;intro b d sz o hb ho
  cases hn : ρ b with
  | some y =>
   have hy : y = (c, d, sz) := by have := h.le b y hn; rw [hb] at this; exact (fi this).symm
   subst hy
   cases hH : H.get b with
   | some o1 =>
    have h2 := hf b d sz o1 hn hH;have h3 := h.keepRo b o1 hH h2;rw [ho] at h3;cases h3;exact h2
   | none =>
    have h4 := hr.dom b _ hn;unfold AH.get at hH; unfold AH.size at h4;rw [List.getElem?_eq_none_iff] at hH;omega
  | none =>
   rcases h.newC b c d sz hb hn with h3 | ⟨b0, d0, sz0, o0, h3, h4, h5⟩
   ·omega
   ·have := hf b0 d0 sz0 o0 h3 h4; rw [h5] at this; cases this
 newC := fun b c d sz hb hn => by
  cases h1 : ρ1 b with
  | some y =>
   have hy : y = (c, d, sz) := by have := k.le b y h1; rw [hb] at this; exact (fi this).symm
   subst hy;exact h.newC b c d sz h1 hn
  | none =>
   rcases k.newC b c d sz hb h1 with h3 | ⟨b0, d0, sz0, o0, h3, h4, h5⟩
   ·exact .inl (dZ h.wsize h3)
   ·cases h6 : ρ b0 with
    | none =>
     rcases h.newC b0 c d0 sz0 h3 h6 with h7 | h7
     ·exact .inl h7
     ·exact .inr h7
    | some y =>
     have hy : y = (c, d0, sz0) := by have := h.le b0 y h6; rw [h3] at this; exact (fi this).symm
     subst hy
     cases hH : H.get b0 with
     | none =>
      have h8 := hr.dom b0 _ h6;unfold AH.get at hH; unfold AH.size at h8;rw [List.getElem?_eq_none_iff] at hH;omega
     | some o1 =>
      refine .inr ⟨b0, d0, sz0, o1, h6, hH, ?_⟩
      cases hrw : o1.rw with
      | true => rfl
      | false =>
       have := h.keepRo b0 o1 hH hrw;rw [h4] at this;cases this;rw [h5] at hrw;cases hrw
theorem Rel.drew {P : Program} {w0 : World} {B : Nat} {ρ : bv} {H : AH} {w : World} (h : Rel P w0 B ρ H w) : Rel P w0 B ρ H w.drew :=
 { h with below := h.below.drew }
theorem ix.drew {ρ ρ' : bv} {H H' : AH} {w w' : World} (h : ix ρ H w ρ' H' w') : ix ρ H w ρ' H' w'.drew := { h with }
theorem ix.of_drew {ρ ρ' : bv} {H H' : AH} {w w' : World} (h : ix ρ H w.drew ρ' H' w') : ix ρ H w ρ' H' w' := { h with }
section
variable {P : Program} {w0 : World} {B : Nat} {ρ : bv} {H : AH} {w : World}
theorem Rel.setBlock (h : Rel P w0 B ρ H w) {b c d sz : Nat} {o o' : AObj} (hb : ρ b = some (c, d, sz)) (ho : H.get b = some o) (hrw : o.rw = true) (hrw' : o'.rw = true) {w' : World}
 (hos : w'.os = w.os) (htape : w'.tape = w.tape) (hout : w'.output = w.output) (hsz : w'.heap.size = w.heap.size) (hoth : ∀ k, k ≠ c → w'.heap[k]? = w.heap[k]?)
 (hnew : pQ P ρ d sz o' w'.heap[c]?) : Rel P w0 B ρ (H.set b o') w' ∧ ix ρ H w ρ (H.set b o') w' := by
 have hlt := AH.lt_of_get ho;have hB : B ≤ c := h.own b c d sz o hb ho hrw
 have key : ∀ b1 o1, (H.set b o').get b1 = some o1 → (b1 = b ∧ o1 = o') ∨ (b1 ≠ b ∧ H.get b1 = some o1) := by
  intro b1 o1 h1;rw [AH.get_set] at h1
  by_cases hb1 : b1 = b
  ·rw [if_pos hb1, if_pos hlt] at h1
   exact .inl ⟨hb1, (fi h1).symm⟩
  ·rw [if_neg hb1] at h1
   exact .inr ⟨hb1, h1⟩
 constructor
 ·refine ⟨h.base, ?_, ?_, ?_, ?_, ?_, ?_, ?_⟩
  ·exact h.below.trans ⟨hos, htape, hout, Nat.le_of_eq hsz.symm, fun k hk => hoth k (by omega)⟩
  ·intro b1 x hx; rw [AH.size_set]; exact h.dom b1 x hx
  ·intro b1 c1 d1 sz1 hx; rw [hsz]; exact h.blk b1 c1 d1 sz1 hx
  ·intro b1 c1 d1 sz1 o1 hx ho1
   rcases key b1 o1 ho1 with ⟨rfl, rfl⟩ | ⟨hne, ho1⟩
   ·rw [hb] at hx; cases hx; exact hnew
   ·by_cases hc : c1 = c
    ·subst hc
     cases hr1 : o1.rw with
     | true => exact absurd (h.inj b1 b _ _ _ _ _ _ _ hx hb ho1 ho hr1 hrw) hne
     | false =>
      cases o1 with
      | dead => trivial
      | map es cl => simp [AObj.rw] at hr1
      | cells r cs =>
       cases r with
       | false => simp [AObj.rw] at hr1
       | true => have := h.ro b1 _ _ _ _ hx ho1; omega
    ·rw [hoth c1 hc]; exact h.obj b1 c1 d1 sz1 o1 hx ho1
  ·intro b1 c1 d1 sz1 o1 hx ho1 hr1
   rcases key b1 o1 ho1 with ⟨rfl, rfl⟩ | ⟨_, ho1⟩
   ·rw [hb] at hx; cases hx; exact hB
   ·exact h.own b1 c1 d1 sz1 o1 hx ho1 hr1
  ·intro b1 c1 d1 sz1 cs hx ho1
   rcases key b1 _ ho1 with ⟨rfl, rfl⟩ | ⟨_, ho1⟩
   ·simp [AObj.rw] at hrw'
   ·exact h.ro b1 c1 d1 sz1 cs hx ho1
  ·intro b1 b2 c1 d1 d2 sz1 sz2 o1 o2 hx1 hx2 ho1 ho2 hr1 hr2
   rcases key b1 o1 ho1 with ⟨rfl, rfl⟩ | ⟨n1, k1⟩ <;> rcases key b2 o2 ho2 with ⟨rfl, rfl⟩ | ⟨n2, k2⟩
   ·rfl
   ·exact h.inj _ _ _ _ _ _ _ _ _ hx1 hx2 ho k2 hrw hr2
   ·exact h.inj _ _ _ _ _ _ _ _ _ hx1 hx2 k1 ho hr1 hrw
   ·exact h.inj _ _ _ _ _ _ _ _ _ hx1 hx2 k1 k2 hr1 hr2
 ·refine ⟨fun _ _ hx => hx, fun b1 x hx hn => absurd hx (by rw [hn]; simp), Nat.le_of_eq (AH.size_set ..).symm, Nat.le_of_eq hsz.symm, ?_, ?_, ?_, fun b1 c1 d1 sz1 hx hn => absurd hx (by rw [hn]; simp)⟩
  ·intro b1 _ hn
   exact AH.get_set_ne (fun e => by rw [e, hb] at hn; cases hn)
  ·intro b1 o1 ho1 hr1
   rw [AH.get_set_ne (fun e => by rw [e, ho] at ho1; cases ho1; rw [hrw] at hr1; cases hr1)];exact ho1
  ·intro c1 _ hf
   exact hoth c1 (fun e => by subst e; have := hf b d sz o hb ho; rw [hrw] at this; cases this)
theorem bv.upd_same (ρ : bv) (b : Nat) (x : Nat × Nat × Nat) : ρ.upd b x b = some x := by simp [bv.upd]
theorem bv.upd_ne {ρ : bv} {b b' : Nat} {x : Nat × Nat × Nat} (h : b' ≠ b) : ρ.upd b x b' = ρ b' := by simp [bv.upd, h]
theorem bv.upd_le {ρ : bv} {b : Nat} {x : Nat × Nat × Nat} (h : ρ b = none) : ∀ b' y, ρ b' = some y → ρ.upd b x b' = some y := by
 intro b' y hy;rw [bv.upd_ne (fun e => by rw [e, h] at hy; cases hy)];exact hy
theorem Rel.size (h : Rel P w0 B ρ H w) : B ≤ w.heap.size := dZ h.base h.below.size
theorem Rel.push (h : Rel P w0 B ρ H w) {o : AObj} {ob : Obj} {sz : Nat} (hrw : o.rw = true) (hnew : pQ P ρ 0 sz o (some ob)) :
 Rel P w0 B (ρ.upd H.size (w.heap.size, 0, sz)) (H.push o) (w.alloc ob) ∧ ix ρ H w (ρ.upd H.size (w.heap.size, 0, sz)) (H.push o) (w.alloc ob) := by
 have hB := h.size
 have hnone : ρ H.size = none := by
  cases hn : ρ H.size with
  | none => rfl
  | some x => have := h.dom _ _ hn; omega
 have hle := bv.upd_le (x := (w.heap.size, 0, sz)) hnone;have hheap : ∀ k, k < w.heap.size → (w.alloc ob).heap[k]? = w.heap[k]? := fun k hk => Below.heap_alloc w ob k hk;have hlast : (w.alloc ob).heap[w.heap.size]? = some ob  := heap_alloc_new w ob
 have key : ∀ b1 o1, (H.push o).get b1 = some o1 → (b1 = H.size ∧ o1 = o) ∨ (b1 < H.size ∧ H.get b1 = some o1) := by
  intro b1 o1 h1;rw [AH.get_push] at h1
  by_cases hb1 : b1 = H.size
  ·rw [if_pos hb1] at h1; exact .inl ⟨hb1, (fi h1).symm⟩
  ·rw [if_neg hb1] at h1; exact .inr ⟨AH.lt_of_get h1, h1⟩
 have old : ∀ {b1 c1 d1 sz1}, b1 < H.size → ρ.upd H.size (w.heap.size, 0, sz) b1 = some (c1, d1, sz1) → ρ b1 = some (c1, d1, sz1) := by
  intro b1 c1 d1 sz1 hb1 hx
  rwa [bv.upd_ne (by omega)] at hx
 constructor
 ·refine ⟨h.base, ?_, ?_, ?_, ?_, ?_, ?_, ?_⟩
  ·exact h.below.alloc hB ob
  ·intro b1 x hx
   rw [AH.size_push]
   by_cases hb1 : b1 = H.size
   ·omega
   ·rw [bv.upd_ne hb1] at hx; have := h.dom b1 x hx; omega
  ·intro b1 c1 d1 sz1 hx
   rw [World.size_alloc]
   by_cases hb1 : b1 = H.size
   ·subst hb1; rw [bv.upd_same] at hx; cases hx; omega
   ·rw [bv.upd_ne hb1] at hx; have := h.blk b1 c1 d1 sz1 hx; omega
  ·intro b1 c1 d1 sz1 o1 hx ho1
   rcases key b1 o1 ho1 with ⟨rfl, rfl⟩ | ⟨hlt, ho1⟩
   ·rw [bv.upd_same] at hx; cases hx; rw [hlast]; exact hnew.mono hle
   ·have hx' := old hlt hx
    rw [hheap c1 (h.blk b1 c1 d1 sz1 hx')]; exact (h.obj b1 c1 d1 sz1 o1 hx' ho1).mono hle
  ·intro b1 c1 d1 sz1 o1 hx ho1 hr1
   rcases key b1 o1 ho1 with ⟨rfl, rfl⟩ | ⟨hlt, ho1⟩
   ·rw [bv.upd_same] at hx; cases hx; exact hB
   ·exact h.own b1 c1 d1 sz1 o1 (old hlt hx) ho1 hr1
  ·intro b1 c1 d1 sz1 cs hx ho1
   rcases key b1 _ ho1 with ⟨rfl, rfl⟩ | ⟨hlt, ho1⟩
   ·simp [AObj.rw] at hrw
   ·exact h.ro b1 c1 d1 sz1 cs (old hlt hx) ho1
  ·intro b1 b2 c1 d1 d2 sz1 sz2 o1 o2 hx1 hx2 ho1 ho2 hr1 hr2
   rcases key b1 o1 ho1 with ⟨rfl, rfl⟩ | ⟨n1, k1⟩ <;> rcases key b2 o2 ho2 with ⟨rfl, rfl⟩ | ⟨n2, k2⟩
   ·rfl
   ·rw [bv.upd_same] at hx1; cases hx1
    have := h.blk _ _ _ _ (old n2 hx2); omega
   ·rw [bv.upd_same] at hx2; cases hx2
    have := h.blk _ _ _ _ (old n1 hx1); omega
   ·exact h.inj _ _ _ _ _ _ _ _ _ (old n1 hx1) (old n2 hx2) k1 k2 hr1 hr2
 ·refine ⟨hle, ?_, by rw [AH.size_push]; omega, by simp, ?_, ?_, ?_, ?_⟩
  ·intro b1 x hx hn
   by_cases hb1 : b1 = H.size
   ·rw [AH.size_push]; omega
   ·rw [bv.upd_ne hb1, hn] at hx; cases hx
  ·intro b1 hb1 _; exact AH.get_push_old hb1
  ·intro b1 o1 ho1 _; rw [AH.get_push_old (AH.lt_of_get ho1)]; exact ho1
  ·intro c1 hc _; exact hheap c1 hc
  ·intro b1 c1 d1 sz1 hx hn
   by_cases hb1 : b1 = H.size
   ·subst hb1; rw [bv.upd_same] at hx; cases hx; exact .inl (bj _)
   ·rw [bv.upd_ne hb1, hn] at hx; cases hx
theorem Rel.move (h : Rel P w0 B ρ H w) {b c d sz : Nat} {cs : List Value} (hb : ρ b = some (c, d, sz)) (ho : H.get b = some (.cells false cs)) {o' : AObj} (hrw' : o'.rw = true) {w' : World} {c' d' sz' : Nat}
 (hos : w'.os = w.os) (htape : w'.tape = w.tape) (hout : w'.output = w.output) (hsz : w.heap.size ≤ w'.heap.size)
 (hc' : c' = c ∧ w'.heap.size = w.heap.size ∨ c' = w.heap.size ∧ c' < w'.heap.size) (hoth : ∀ k, k < w.heap.size → k ≠ c → w'.heap[k]? = w.heap[k]?)
 (hnew : pQ P ρ d' sz' o' w'.heap[c']?) (hkeep : c' ≠ c → w'.heap[c]? = w.heap[c]?) :
 Rel P w0 B (ρ.upd H.size (c', d', sz')) ((H.set b .dead).push o') w' ∧ ix ρ H w (ρ.upd H.size (c', d', sz')) ((H.set b .dead).push o') w' := by
 have hlt := AH.lt_of_get ho;have hcB : B ≤ c := h.own b c d sz _ hb ho rfl;have hB := h.size;have hcw : c < w.heap.size := h.blk b c d sz hb
 have hc'w : c' < w'.heap.size := by rcases hc' with ⟨e, e2⟩ | ⟨_, e⟩ <;> omega
 have hBc' : B ≤ c' := by rcases hc' with ⟨e, _⟩ | ⟨e, _⟩ <;> omega
 have hsize : (H.set b .dead).size = H.size := AH.size_set ..
 have hnone : ρ H.size = none := by
  cases hn : ρ H.size with
  | none => rfl
  | some x => have := h.dom _ _ hn; omega
 have hle := bv.upd_le (x := (c', d', sz')) hnone
 have key : ∀ b1 o1, ((H.set b .dead).push o').get b1 = some o1 → (b1 = H.size ∧ o1 = o') ∨ (b1 = b ∧ o1 = .dead) ∨ (b1 < H.size ∧ b1 ≠ b ∧ H.get b1 = some o1) := by
  intro b1 o1 h1;rw [AH.get_push, hsize] at h1
  by_cases hb1 : b1 = H.size
  ·rw [if_pos hb1] at h1; exact .inl ⟨hb1, (fi h1).symm⟩
  ·rw [if_neg hb1, AH.get_set] at h1
   by_cases hb2 : b1 = b
   ·rw [if_pos hb2, if_pos hlt] at h1; exact .inr (.inl ⟨hb2, (fi h1).symm⟩)
   ·rw [if_neg hb2] at h1; exact .inr (.inr ⟨AH.lt_of_get h1, hb2, h1⟩)
 have old : ∀ {b1 c1 d1 sz1}, b1 < H.size → ρ.upd H.size (c', d', sz') b1 = some (c1, d1, sz1) → ρ b1 = some (c1, d1, sz1) := by
  intro b1 c1 d1 sz1 hb1 hx
  rwa [bv.upd_ne (by omega)] at hx
 -- an old block that is written lies elsewhere
 have apart : ∀ {b1 c1 d1 sz1 o1}, b1 ≠ b → ρ b1 = some (c1, d1, sz1) → H.get b1 = some o1 → o1.rw = true → c1 ≠ c := by
  intro b1 c1 d1 sz1 o1 hne hx ho1 hr1 e;subst e;exact hne (h.inj _ _ _ _ _ _ _ _ _ hx hb ho1 ho hr1 rfl)
 have ne' : ∀ {b1 c1 d1 sz1 o1}, b1 ≠ b → ρ b1 = some (c1, d1, sz1) → H.get b1 = some o1 → o1.rw = true → c1 ≠ c' := by
  intro b1 c1 d1 sz1 o1 hne hx ho1 hr1 e
  rcases hc' with ⟨e1, _⟩ | ⟨e1, _⟩
  ·exact apart hne hx ho1 hr1 (e.trans e1)
  ·have := h.blk _ _ _ _ hx; omega
 constructor
 ·refine ⟨h.base, ?_, ?_, ?_, ?_, ?_, ?_, ?_⟩
  ·exact h.below.trans ⟨hos, htape, hout, hsz, fun k hk => hoth k (by omega) (by omega)⟩
  ·intro b1 x hx
   rw [AH.size_push, hsize]
   by_cases hb1 : b1 = H.size
   ·omega
   ·rw [bv.upd_ne hb1] at hx; have := h.dom b1 x hx; omega
  ·intro b1 c1 d1 sz1 hx
   by_cases hb1 : b1 = H.size
   ·subst hb1; rw [bv.upd_same] at hx; cases hx; exact hc'w
   ·rw [bv.upd_ne hb1] at hx; have := h.blk b1 c1 d1 sz1 hx; omega
  ·intro b1 c1 d1 sz1 o1 hx ho1
   rcases key b1 o1 ho1 with ⟨rfl, rfl⟩ | ⟨rfl, rfl⟩ | ⟨hl, hne, ho1⟩
   ·rw [bv.upd_same] at hx; cases hx; exact hnew.mono hle
   ·trivial
   ·have hx' := old hl hx
    have hw := h.blk b1 c1 d1 sz1 hx'
    by_cases e : c1 = c
    ·subst e
     by_cases e' : c' = c1
     ·cases hr1 : o1.rw with
      | true => exact absurd rfl (apart hne hx' ho1 hr1)
      | false =>
       cases o1 with
       | dead => trivial
       | map es cl => simp [AObj.rw] at hr1
       | cells r cs1 =>
        cases r with
        | false => simp [AObj.rw] at hr1
        | true => have := h.ro b1 _ _ _ _ hx' ho1; omega
     ·rw [hkeep e']; exact (h.obj b1 _ d1 sz1 o1 hx' ho1).mono hle
    ·rw [hoth c1 hw e]; exact (h.obj b1 c1 d1 sz1 o1 hx' ho1).mono hle
  ·intro b1 c1 d1 sz1 o1 hx ho1 hr1
   rcases key b1 o1 ho1 with ⟨rfl, rfl⟩ | ⟨rfl, rfl⟩ | ⟨hl, hne, ho1⟩
   ·rw [bv.upd_same] at hx; cases hx; exact hBc'
   ·simp [AObj.rw] at hr1
   ·exact h.own b1 c1 d1 sz1 o1 (old hl hx) ho1 hr1
  ·intro b1 c1 d1 sz1 cs1 hx ho1
   rcases key b1 _ ho1 with ⟨rfl, rfl⟩ | ⟨rfl, e⟩ | ⟨hl, hne, ho1⟩
   ·simp [AObj.rw] at hrw'
   ·cases e
   ·exact h.ro b1 c1 d1 sz1 cs1 (old hl hx) ho1
  ·intro b1 b2 c1 d1 d2 sz1 sz2 o1 o2 hx1 hx2 ho1 ho2 hr1 hr2
   rcases key b1 o1 ho1 with ⟨rfl, rfl⟩ | ⟨rfl, rfl⟩ | ⟨n1, m1, k1⟩ <;> rcases key b2 o2 ho2 with ⟨rfl, rfl⟩ | ⟨rfl, rfl⟩ | ⟨n2, m2, k2⟩ <;> try (simp [AObj.rw] at hr1; done)
   all_goals try (simp [AObj.rw] at hr2; done)
   ·rfl
   ·rw [bv.upd_same] at hx1; cases hx1; exact absurd rfl (ne' m2 (old n2 hx2) k2 hr2)
   ·rw [bv.upd_same] at hx2; cases hx2; exact absurd rfl (ne' m1 (old n1 hx1) k1 hr1)
   ·exact h.inj _ _ _ _ _ _ _ _ _ (old n1 hx1) (old n2 hx2) k1 k2 hr1 hr2
 ·refine ⟨hle, ?_, by rw [AH.size_push, hsize]; omega, hsz, ?_, ?_, ?_, ?_⟩
  ·intro b1 x hx hn
   by_cases hb1 : b1 = H.size
   ·rw [AH.size_push, hsize]; omega
   ·rw [bv.upd_ne hb1, hn] at hx; cases hx
  ·intro b1 hb1 hn
   rw [AH.get_push_old (by rw [hsize]; exact hb1), AH.get_set_ne (fun e => by rw [e, hb] at hn; cases hn)]
  ·intro b1 o1 ho1 hr1
   rw [AH.get_push_old (by rw [hsize]; exact AH.lt_of_get ho1), AH.get_set_ne (fun e => by rw [e, ho] at ho1; cases ho1; cases hr1)];exact ho1
  ·intro c1 hc1 hf
   exact hoth c1 hc1 (fun e => by subst e; have := hf b d sz _ hb ho; cases this)
  ·intro b1 c1 d1 sz1 hx hn
   by_cases hb1 : b1 = H.size
   ·subst hb1; rw [bv.upd_same] at hx; cases hx
    rcases hc' with ⟨e, _⟩ | ⟨e, _⟩
    ·exact .inr ⟨b, d, sz, _, by rw [hb, e], ho, rfl⟩
    ·exact .inl (by omega)
   ·rw [bv.upd_ne hb1, hn] at hx; cases hx
end
def ca (P : Program) (t : TypeId) : Option Nat := (P.info? t).map (·.size)
def eD (P : Program) (t : TypeId) : Option (Option Nat) :=
 match P.underlying t with
 | some (.struct _) | some (.array _ _) => (ca P t).map some
 | some _ => some none
 | none => none
def bE (P : Program) (t : TypeId) : Option Value :=
 match P.info? t with
 | some i => match i.zero with
  | some z => if z.cells.toList.all cJ = true ∧ wG z = true then some z else none
  | none => none
 | none => none
def jK (P : Program) (t : TypeId) (f : Nat) : Option Field :=
 match P.underlying t with
 | some (.struct fs) => fs[f]?
 | _ => none
def b4 (P : Program) (t : TypeId) : Option TypeId :=
 match P.underlying t with
 | some (.slice e) => some e
 | _ => none
def eZ (P : Program) (t : TypeId) : Option Nat := (P.info? t).map (·.bytes)
def e8 (P : Program) (sub : List Field → Option Nat) : Nat → List Field → Option Nat
 | n, [] => some n
 | n, f :: fs => if f.name ≠ "_" ∧ f.offset = n then (match P.underlying f.type with
  | some (.int _) => e8 P sub (n + 1) fs
  | some (.struct gs) => (match sub gs.toList with
   | some k => if ca P f.type = some k ∧ P.stoodInHeld f.type = false then e8 P sub (n + k) fs else none
   | none => none)
  | _ => none) else none
def oI (P : Program) : Nat → Nat → List Field → Option Nat
 | 0 => e8 P fun _ => none
 | e + 1 => e8 P (oI P e 0)
def tm (P : Program) (t : TypeId) : Option Nat :=
 match P.underlying t with
 | some (.struct fs) => if P.stoodInHeld t = false ∧ P.eqGuardType P.depth t = false then oI P 2 0 fs.toList else none
 | _ => none
def qr (P : Program) (t : TypeId) : Option IntKind :=
 match P.underlying t with
 | some (.int k) => some k
 | _ => none
def tN : Value → Option (Nat × Nat)
 | .pointer (some ⟨b, o, none⟩) => some (b, o)
 | _ => none
def dq (H : AH) (b : Nat) : Option (List Value) :=
 match H.get b with
 | some (.cells _ cs) => some cs
 | _ => none
def aM (c a b : Value) : Option Value :=
 match c with
 | .bool t => some (if t = true then a else b)
 | _ => none
def tO : Value → Option Value
 | .pointer none | .nilIface | .nilFunc => none
 | .func (.method _) _ _ => none
 | v => some v
def au (v : Value) (H : AH) : Option Value := (tN v).bind fun a => (dq H a.1).bind fun cs => cs[a.2]?
def aC (n : Nat) (v : Value) (H : AH) : Option Value :=
 (tN v).bind fun a => (dq H a.1).bind fun cs => if a.2 + n ≤ cs.length then some (.agg ((cs.drop a.2).take n).toArray) else none
def splice (cs : List Value) (o : Nat) (xs : List Value) : List Value := cs.take o ++ xs ++ cs.drop (o + xs.length)
def dc (n : Nat) (v x : Value) (H : AH) : Option AH :=
 (tN v).bind fun a => match H.get a.1 with
  | some (.cells false cs) => if x.cells.size = n ∧ a.2 + n ≤ cs.length ∧ x.cells.toList.all Value.oneCell' = true then some (H.set a.1 (.cells false (splice cs a.2 x.cells.toList))) else none
  | _ => none
def ajC (cs : List Value) (H : AH) : Value × AH := (.pointer (some ⟨H.size, 0, none⟩), H.push (.cells false cs))
def D6 (off : Nat) (v : Value) : Option Value := (tN v).map fun a => .pointer (some ⟨a.1, a.2 + off, none⟩)
def j2 (n : Option Nat) (off : Nat) (v : Value) : Option Value :=
 match v with
 | .agg cs => match n with
  | some n => some (.agg (cs.extract off (off + n)))
  | none => cs[off]?
 | _ => none
def nX (e : Nat) (v i : Value) : Option Value :=
 match v, i with
 | .slice (some ⟨b, o, none⟩) n _, .int _ i => if 0 ≤ i ∧ i < n then some (.pointer (some ⟨b, o + i.toNat * e, none⟩)) else none
 | _, _ => none
def iv (len e : Nat) (v i : Value) : Option Value :=
 match v, i with
 | .pointer (some ⟨b, o, none⟩), .int _ i => if 0 ≤ i ∧ i < len then some (.pointer (some ⟨b, o + i.toNat * e, none⟩)) else none
 | _, _ => none
def iT (len : Nat) (n : Option Nat) (e : Nat) (v i : Value) : Option Value :=
 match v, i with
 | .agg cs, .int _ i => if 0 ≤ i ∧ i < len then (match n with | some n => some (.agg (cs.extract (i.toNat * e) (i.toNat * e + n))) | none => cs[i.toNat * e]?) else none
 | _, _ => none
def iS (v i : Value) : Option Value :=
 match v, i with
 | .string s, .int _ i => if 0 ≤ i then (s[i.toNat]?).map fun b => .int .u8 b.toNat else none
 | _, _ => none
def pL : Value → Option Value
 | .slice _ n _ => some (.int .i64 n)
 | .string s => some (.int .i64 s.size)
 | _ => none
def mz (v : Value) (H : AH) : Option Value :=
 match v with
 | .map none => some (.int .i64 0)
 | .map (some b) => match H.get b with
  | some (.map es _) => some (.int .i64 es.length)
  | _ => none
 | _ => none
def ig : List Value → Option Value
 | [.int k x, .int _ y] => some (.int k (if y > x then y else x))
 | _ => none
def i8 : List Value → Option Value
 | [.int k x, .int _ y] => some (.int k (if y < x then y else x))
 | _ => none
def bq : List Value → List Value → Option Bool
 | [], [] => some true
 | .int k a :: xs, .int k' b :: ys => if k = k' then (bq xs ys).map fun r => a == b && r else none
 | _, _ => none
def l7 (op : BinOp) (k : IntKind) (a b : Int) : Option Value :=
 match op with
 | .add => some (.int k (k.wrap (a + b)))
 | .sub => some (.int k (k.wrap (a - b)))
 | .mul => some (.int k (k.wrap (a * b)))
 | .quo => if b = 0 then none else some (.int k (k.wrap (a.tdiv b)))
 | .rem => if b = 0 then none else some (.int k (a.tmod b))
 | .and => some (.int k (Go.bits .and k a b))
 | .or => some (.int k (Go.bits .or k a b))
 | .xor => some (.int k (Go.bits .xor k a b))
 | .andNot => some (.int k (Go.bits .andNot k a b))
 | .eql => some (.bool (a == b))
 | .neq => some (.bool (a != b))
 | .lss => some (.bool (decide (a < b)))
 | .leq => some (.bool (decide (a ≤ b)))
 | .gtr => some (.bool (decide (a > b)))
 | .geq => some (.bool (decide (a ≥ b)))
 | _ => none
def lS (op : BinOp) (k : IntKind) (a b : Int) : Option Value :=
 if b < 0 then none else
 match op with
 | .shl => some (.int k (k.wrap (a * 2 ^ min b.toNat k.bits)))
 | .shr => some (.int k (a.fdiv (2 ^ min b.toNat k.bits)))
 | _ => none
inductive TCls where
 | bool | ptr | slice | map | func | flat (n : Nat) | other
def ym (P : Program) (t : TypeId) : TCls :=
 match P.underlying t with
 | some .bool => .bool
 | some (.pointer _) => .ptr
 | some (.slice _) => .slice
 | some (.map _ _) => .map
 | some (.func _ _ _) => .func
 | some (.struct _) => match tm P t with
  | some n => .flat n
  | none => .other
 | _ => .other
def oN (cl : TCls) (x y : Value) : Option Bool :=
 match cl, x, y with
 | .bool, .bool a, .bool b => some (a == b)
 | .flat n, .agg a, .agg b => if a.size = n ∧ b.size = n then bq a.toList b.toList else none
 | .ptr, .pointer a, .pointer none => some a.isNone
 | .ptr, .pointer none, .pointer (some _) => some false
 | .slice, .slice a _ _, .slice none _ _ => some a.isNone
 | .slice, .slice none _ _, .slice (some _) _ _ => some false
 | .map, .map a, .map none => some a.isNone
 | .map, .map none, .map (some _) => some false
 | .func, .func _ _ _, .nilFunc => some false
 | .func, .nilFunc, .func _ _ _ => some false
 | .func, .nilFunc, .nilFunc => some true
 | _, _, _ => none
def ad7 (op : BinOp) (a b : ByteArray) : Option Value :=
 match op with
 | .eql => some (.bool (a == b))
 | .neq => some (.bool !(a == b))
 | _ => none
def Fe (cl : TCls) (op : BinOp) (x y : Value) : Option Value :=
 match op with
 | .eql => (oN cl x y).map fun b => .bool b
 | .neq => (oN cl x y).map fun b => .bool !b
 | _ => none
def aj (cl : TCls) (op : BinOp) (x y : Value) : Option Value :=
 match x, y with
 | .int k a, .int k' b =>
  match op with
  | .shl => lS .shl k a b
  | .shr => lS .shr k a b
  | op => if k = k' then l7 op k a b else none
 | .string a, .string b => ad7 op a b
 | x, y => Fe cl op x y
def pM (op : UnOp) (x : Value) : Option Value :=
 match op, x with
 | .neg, .int k n => some (.int k (k.wrap (0 - n)))
 | .xor, .int k n => some (.int k (Go.bits .xor k (if k.signed then -1 else k.max) n))
 | .not, .bool b => some (.bool !b)
 | _, _ => none
def bI (k : Option IntKind) (x : Value) : Option Value :=
 match k, x with
 | some k, .int _ n => some (.int k (k.wrap n))
 | _, _ => none
def ak (v : Value) (i : Nat) : Option Value :=
 match v with
 | .tuple vs => vs[i]?
 | _ => none
def my : Value → Option Int
 | .int _ n => some n
 | _ => none
def ec (e : Nat) (x : Value) (lo hi : Option Value) : Option Value :=
 match x with
 | .slice a n e' =>
  (match lo with | some v => my v | none => some 0).bind fun l => (match hi with | some v => my v | none => some (n : Int)).bind fun h =>
   if 0 ≤ l ∧ l ≤ h ∧ h ≤ n then
    match a with
    | none => if n = 0 ∧ e' = 0 then some (.slice none 0 0) else none
    | some ⟨b, o, none⟩ => if e' = e ∧ 0 < e then some (.slice (some ⟨b, o + l.toNat * e, none⟩) (h.toNat - l.toNat) e) else none
    | _ => none
   else none
 | _ => none
def iU (x : Value) (hi mx : Value) : Option Value :=
 match x, hi, mx with
 | .slice none 0 0, .int _ 0, .int _ 0 => some (.slice none 0 0)
 | .slice (some ⟨b, o, none⟩) _ _, .int _ 0, .int _ 0 => some (.slice (some ⟨b, o, none⟩) 0 0)
 | _, _, _ => none
def kL (e : Nat) (x : Value) (H : AH) : Option (Nat × List Value) :=
 match x with
 | .slice none n _ => if n = 0 then some (0, []) else none
 | .slice (some ⟨b, o, none⟩) m _ => if m = 0 then some (0, []) else (dq H b).bind fun cs => if o + m * e ≤ cs.length then some (m, (cs.drop o).take (m * e)) else none
 | _ => none
def room : Nat := 140737488355328
def dN (e bytes : Nat) (s x : Value) (H : AH) : Option (Value × AH) :=
 (kL e x H).bind fun r =>
  if r.2.all Value.oneCell' = true ∧ 0 < e then
   match s with
   | .slice none n k => if n = 0 ∧ k = 0 then (if r.1 = 0 then some (.slice none 0 0, H) else if r.1 * bytes ≤ room ∧ r.1 ≤ room then some (.slice (some ⟨H.size, 0, none⟩) r.1 e, H.push (.cells false r.2)) else none) else none
   | .slice (some ⟨b, o, none⟩) n e' =>
    if r.1 = 0 then some (s, H)
    else if e' = 0 then (if n = 0 ∧ r.1 * bytes ≤ room ∧ r.1 ≤ room then some (.slice (some ⟨H.size, 0, none⟩) r.1 e, H.push (.cells false r.2)) else none)
    else match H.get b with
     | some (.cells false cs) =>
      if e' = e ∧ o + n * e ≤ cs.length ∧ (n + r.1) * bytes ≤ room ∧ n + r.1 ≤ room then some (.slice (some ⟨H.size, 0, none⟩) (n + r.1) e, (H.set b .dead).push (.cells false ((cs.drop o).take (n * e) ++ r.2))) else none
     | _ => none
   | _ => none
  else none
def kB (zero : List Value) (e bytes : Nat) (len cap : Value) (H : AH) : Option (Value × AH) :=
 match len, cap with
 | .int _ l, .int _ c => if 0 ≤ l ∧ l = c ∧ l.toNat * bytes ≤ room ∧ l.toNat ≤ room ∧ 0 < e ∧ zero.length = e then
  some (.slice (some ⟨H.size, 0, none⟩) l.toNat e, H.push (.cells false (List.replicate l.toNat zero).flatten)) else none
 | _, _ => none
inductive KCls where
 | int | string | flat (n : Nat)
def qq : Value → Bool
 | .int _ _ => true
 | _ => false
def ir (cl : KCls) (k : Value) : Bool :=
 match cl, k with
 | .int, .int _ _ => true
 | .string, .string _ => true
 | .flat n, .agg xs => xs.size == n && xs.toList.all qq
 | _, _ => false
def j0 (cl : KCls) (a b : Value) : Option Bool :=
 match cl, a, b with
 | .int, .int k x, .int k' y => if k = k' then some (x == y) else none
 | .string, .string x, .string y => some (x == y)
 | .flat n, .agg x, .agg y => if x.size = n ∧ y.size = n then bq x.toList y.toList else none
 | _, _, _ => none
def aV (cl : KCls) (k : Value) : List MapEntry → Nat → Option (Option (Nat × Value))
 | [], _ => some none
 | e :: es, i => (j0 cl k e.key).bind fun b => if b = true then some (some (i, e.val)) else aV cl k es (i + 1)
def jD (v : Value) (H : AH) : Option (List MapEntry × Nat) :=
 match v with
 | .map none => some ([], 0)
 | .map (some b) => match H.get b with
  | some (.map es c) => some (es, c)
  | _ => none
 | _ => none
def cu (fl : KCls) (zero : Value) (m k : Value) (ok : Bool) (H : AH) : Option Value :=
 if ir fl k = true then (jD m H).bind fun es => (aV fl k es.1 0).map fun r => match r with
  | some (_, v) => if ok then .tuple #[v, .bool true] else v
  | none => if ok then .tuple #[zero, .bool false] else zero
 else none
def dG (fl : KCls) (m k x : Value) (H : AH) : Option AH :=
 if ir fl k = true then match m with
 | .map (some b) => match H.get b with
  | some (.map es c) => (aV fl k es 0).map fun r => match r with
   | some (i, _) => H.set b (.map (es.modify i fun e => { e with key := k, val := x }) c)
   | none => H.set b (.map (es ++ [{ key := k, val := x, born := c }]) (c + 1))
  | _ => none
 | _ => none
 else none
def mw (fl : KCls) (m k : Value) (H : AH) : Option AH :=
 if ir fl k = true then match m with
 | .map (some b) => match H.get b with
  | some (.map es c) => (aV fl k es 0).map fun r => match r with
   | some (i, _) => H.set b (.map (es.eraseIdx i) c)
   | none => H.set b (.map es c)
  | _ => none
 | _ => none
 else none
def cI (places : Nat → Option (Nat × Nat)) (zero : List Value) : List (Nat × Value) → Option (List Value)
 | [] => some zero
 | (i, v) :: rest => (places i).bind fun p => if v.cells.size = p.2 ∧ p.1 + p.2 ≤ zero.length then cI places (splice zero p.1 v.cells.toList) rest else none
def b5 (v : Value) (args : List Value) : Option (Nat × List Value) :=
 match v with
 | .func (.func f) first captured => some (f, first.toList ++ args ++ captured.toList)
 | _ => none
def cp (P : Program) (t : TypeId) : Option KCls :=
 match P.underlying t with
 | some (.int _) => some .int
 | some .string => some .string
 | some (.struct _) => (tm P t).map .flat
 | _ => none
def b8 (P : Program) (t : TypeId) : Option (TypeId × TypeId) :=
 match P.underlying t with
 | some (.map k e) => some (k, e)
 | _ => none
def iV (P : Program) (fs : List Field) : Option (List (Nat × Nat)) := fs.mapM fun f => (ca P f.type).map fun n => (f.offset, n)
abbrev bg := Nat → List Value → AH → Option (Value × AH)
def cj (P : Program) (b : Builtin) (argTypes : Array TypeId) (args : List Value) (H : AH) : Option (Value × AH) :=
 match b, args with
 | .len, [x] => match (argTypes[0]?).bind fun t => P.underlying t with
  | some (.slice _) => match x with | .slice _ _ _ => (pL x).map (·, H) | _ => none
  | some .string => match x with | .string _ => (pL x).map (·, H) | _ => none
  | some (.map _ _) => (mz x H).map (·, H)
  | _ => none
 | .max, args => (ig args).map (·, H)
 | .min, args => (i8 args).map (·, H)
 | .append, [s, x] => (argTypes[0]?).bind fun t => (b4 P t).bind fun el => (ca P el).bind fun e => (eZ P el).bind fun by' => (bE P el).bind fun z =>
  if z.cells.size = e ∧ (argTypes[1]?).bind (fun u => b4 P u) = some el then dN e by' s x H else none
 | .delete, [m, k] => (argTypes[0]?).bind fun t => (b8 P t).bind fun kt => (cp P kt.1).bind fun fl => (mw fl m k H).map fun H' => (.tuple #[], H')
 | _, _ => none
def dK (P : Program) (call : bg) (ev : Operand → Value) (o : Oper) (H : AH) : Option (Value × AH) :=
 match o.op with
 | .move x => some (ev x, H)
 | .assign x => some (ev x, H)
 | .pick c a b => (aM (ev c) (ev a) (ev b)).map (·, H)
 | .alloc t => (bE P t).map fun z => ajC z.cells.toList H
 | .box _ x => some (ajC (ev x).cells.toList H)
 | .build t parts => match P.underlying t with
  | some (.struct fs) => (bE P t).bind fun z => (iV P fs.toList).bind fun ps => (cI (ps[·]?) z.cells.toList (parts.toList.map fun p => (p.1, ev p.2))).map fun cs => (.agg cs.toArray, H)
  | some (.array _ el) => (bE P t).bind fun z => (ca P el).bind fun e => (cI (fun i => some (i * e, e)) z.cells.toList (parts.toList.map fun p => (p.1, ev p.2))).map fun cs => (.agg cs.toArray, H)
  | _ => none
 | .buildSlice t len parts => (b4 P t).bind fun el => (ca P el).bind fun e => (bE P el).bind fun z =>
  if 0 < e ∧ z.cells.size = e ∧ len * e ≤ 2 ^ 24 then
   (cI (fun i => some (i * e, e)) (List.replicate len z.cells.toList).flatten (parts.toList.map fun p => (p.1, ev p.2))).map fun cs => (.slice (some ⟨H.size, 0, none⟩) len e, H.push (.cells false cs))
  else none
 | .load t a => (eD P t).bind fun g => match g with
  | some n => (aC n (ev a) H).map (·, H)
  | none => (au (ev a) H).map (·, H)
 | .store t a x => (ca P t).bind fun n => (dc n (ev a) (ev x) H).map fun H' => (undef, H')
 | .nilCheck x => (tO (ev x)).map (·, H)
 | .binOp op t x y _ => (aj (ym P t) op (ev x) (ev y)).map (·, H)
 | .unOp op _ x => (pM op (ev x)).map (·, H)
 | .convert src dst x => match P.underlying src with
  | some _ => (bI (qr P dst) (ev x)).map (·, H)
  | none => none
 | .makeFunc fn first captured => some (.func fn (first.map ev) (captured.map ev), H)
 | .makeMap _ none => some (.map (some H.size), H.push (.map [] 0))
 | .makeSlice t l c => (b4 P t).bind fun el => (ca P el).bind fun e => (eZ P el).bind fun by' => (bE P el).bind fun z => kB z.cells.toList e by' (ev l) (ev c) H
 | .slice t x lo hi none => (b4 P t).bind fun el => (ca P el).bind fun e => (ec e (ev x) (lo.map ev) (hi.map ev)).map (·, H)
 | .slice t x none (some hi) (some mx) => (b4 P t).bind fun el => (ca P el).bind fun _ => (iU (ev x) (ev hi) (ev mx)).map (·, H)
 | .fieldAddr s x f => (jK P s f).bind fun f => (ca P f.type).bind fun n => if n = 0 then none else (D6 f.offset (ev x)).map (·, H)
 | .field s x f => (jK P s f).bind fun f => (eD P f.type).bind fun n => (j2 n f.offset (ev x)).map (·, H)
 | .indexAddr t x i => match P.underlying t with
  | some (.slice el) => (ca P el).bind fun e => (nX e (ev x) (ev i)).map (·, H)
  | some (.array len el) => (ca P el).bind fun e => (iv len e (ev x) (ev i)).map (·, H)
  | _ => none
 | .index t x i => match P.underlying t with
  | some (.array len el) => (ca P el).bind fun e => (eD P el).bind fun n => (iT len n e (ev x) (ev i)).map (·, H)
  | some .string => (iS (ev x) (ev i)).map (·, H)
  | _ => none
 | .lookup t m k ok => (b8 P t).bind fun kt => (cp P kt.1).bind fun fl => (bE P kt.2).bind fun z => (cu fl z (ev m) (ev k) ok H).map (·, H)
 | .mapUpdate t m k x => (b8 P t).bind fun kt => (cp P kt.1).bind fun fl => (dG fl (ev m) (ev k) (ev x) H).map fun H' => (undef, H')
 | .extract t i => (ak (ev t) i).map (·, H)
 | .call c => match c.callee with
  | .builtin b => cj P b c.argTypes (c.args.toList.map ev) H
  | .value f => (b5 (ev f) (c.args.toList.map ev)).bind fun fa => call fa.1 fa.2 H
  | _ => none
 | _ => none
section
variable {P : Program} {ρ : bv}
theorem VRel.int_inv {k : IntKind} {n : Int} {v : Value} (h : VRel P ρ (.int k n) v) : v = .int k n := by cases h; rfl
theorem VRel.bool_inv {b : Bool} {v : Value} (h : VRel P ρ (.bool b) v) : v = .bool b := by cases h; rfl
theorem VRel.string_inv {s : ByteArray} {v : Value} (h : VRel P ρ (.string s) v) : v = .string s := by cases h; rfl
theorem VRel.nilFunc_inv {v : Value} (h : VRel P ρ .nilFunc v) : v = .nilFunc := by cases h; rfl
theorem VRel.ptr_inv {b o : Nat} {v : Value} (h : VRel P ρ (.pointer (some ⟨b, o, none⟩)) v) : ∃ c d sz, ρ b = some (c, d, sz) ∧ v = .pointer (some ⟨c, d + o, none⟩) := by
 cases h with
 | lit h => simp [cJ] at h
 | ptr h => exact ⟨_, _, _, h, rfl⟩
theorem VRel.pointer_inv {a : Option Addr} {v : Value} (h : VRel P ρ (.pointer a) v) : ∃ a', v = .pointer a' ∧ a'.isNone = a.isNone := by
 cases h with
 | lit h => exact ⟨_, rfl, rfl⟩
 | ptr h => exact ⟨_, rfl, rfl⟩
theorem VRel.nilslice_inv {n k : Nat} {v : Value} (h : VRel P ρ (.slice none n k) v) : v = .slice none n k := by cases h; rfl
theorem VRel.nilmap_inv {v : Value} (h : VRel P ρ (.map none) v) : v = .map none := by cases h; rfl
theorem VRel.map_inv {b : Nat} {v : Value} (h : VRel P ρ (.map (some b)) v) : ∃ c d sz, ρ b = some (c, d, sz) ∧ v = .map (some c) := by
 cases h with
 | lit h => simp [cJ] at h
 | map h => exact ⟨_, _, _, h, rfl⟩
theorem VRel.anymap_inv {r : Option Nat} {v : Value} (h : VRel P ρ (.map r) v) : ∃ r', v = .map r' ∧ r'.isNone = r.isNone := by
 cases h with
 | lit h => exact ⟨_, rfl, rfl⟩
 | map h => exact ⟨_, rfl, rfl⟩
theorem VRel.anyslice_inv {a : Option Addr} {n e : Nat} {v : Value} (h : VRel P ρ (.slice a n e) v) : ∃ a' k, v = .slice a' n k ∧ a'.isNone = a.isNone := by
 cases h with
 | lit h => exact ⟨_, _, rfl, rfl⟩
 | slice h => exact ⟨_, _, rfl, rfl⟩
 | slice0 h => exact ⟨_, _, rfl, rfl⟩
 | empty => exact ⟨_, _, rfl, rfl⟩
theorem VRel.agg_inv {xs : Array Value} {v : Value} (h : VRel P ρ (.agg xs) v) : ∃ ys : Array Value, v = .agg ys ∧ xs.size = ys.size ∧ ∀ (i : Nat) (x y : Value), xs[i]? = some x → ys[i]? = some y → VRel P ρ x y := by
 cases h with
 | lit h => simp [cJ] at h
 | agg hs he => exact ⟨_, rfl, hs, he⟩
theorem VRel.tuple_inv {xs : Array Value} {v : Value} (h : VRel P ρ (.tuple xs) v) : ∃ ys : Array Value, v = .tuple ys ∧ xs.size = ys.size ∧ ∀ (i : Nat) (x y : Value), xs[i]? = some x → ys[i]? = some y → VRel P ρ x y := by
 cases h with
 | lit h => simp [cJ] at h
 | tuple hs he => exact ⟨_, rfl, hs, he⟩
theorem VRel.func_inv {fn : Fn} {f c : Array Value} {v : Value} (h : VRel P ρ (.func fn f c) v) : ∃ f' c' : Array Value, v = .func fn f' c' ∧ LRel P ρ f.toList f'.toList ∧ LRel P ρ c.toList c'.toList := by
 cases h with
 | lit h => simp [cJ] at h
 | func hf h1 hc h2 => exact ⟨_, _, rfl, ⟨by simpa using hf, fun i x y hx hy => h1 i x y (by simpa using hx) (by simpa using hy)⟩, ⟨by simpa using hc, fun i x y hx hy => h2 i x y (by simpa using hx) (by simpa using hy)⟩⟩
theorem LRel.toAgg {xs ys : List Value} (h : LRel P ρ xs ys) : VRel P ρ (.agg xs.toArray) (.agg ys.toArray) :=
 .agg (by simpa using h.1) (fun i x y hx hy => h.2 i x y (by simpa using hx) (by simpa using hy))
theorem LRel.toTuple {xs ys : List Value} (h : LRel P ρ xs ys) : VRel P ρ (.tuple xs.toArray) (.tuple ys.toArray) :=
 .tuple (by simpa using h.1) (fun i x y hx hy => h.2 i x y (by simpa using hx) (by simpa using hy))
theorem cA {t : TypeId} {n : Nat} (h : ca P t = some n) (w : World) : (sizeOf t).run P w = .ok n w := by
 unfold ca at h
 cases hi : P.info? t with
 | none => simp [hi] at h
 | some i => simp [hi] at h; simp [sizeOf, typeInfo, hi, h]
theorem Yr {t : TypeId} {n : Nat} (h : ca P t = some n) : ∃ i, P.info? t = some i ∧ i.size = n := by
 unfold ca at h
 cases hi : P.info? t with
 | none => simp [hi] at h
 | some i => exact ⟨i, rfl, by simpa [hi] using h⟩
theorem cD {t : TypeId} {z : Value} (h : bE P t = some z) : ∃ i, P.info? t = some i ∧ i.zero = some z ∧ z.cells.toList.all cJ = true ∧ wG z = true := by
 unfold bE at h
 cases hi : P.info? t with
 | none => simp [hi] at h
 | some i =>
  simp only [hi] at h
  cases hz : i.zero with
  | none => simp [hz] at h
  | some z =>
   simp only [hz] at h
   split at h
   ·rename_i hl; cases h; exact ⟨i, rfl, hz, hl⟩
   ·cases h
theorem il {t : TypeId} {z : Value} (h : bE P t = some z) (w : World) : (zeroValue t).run P w = .ok z w := by
 obtain ⟨i, hi, hz, _⟩ := cD h;simp [zeroValue, typeInfo, hi, hz]
theorem n8 {t : TypeId} (h : eD P t = some none) (w : World) : (isAgg t).run P w = .ok false w := by
 unfold eD at h
 cases hu : P.underlying t with
 | none => simp [hu] at h
 | some d =>
  simp only [hu] at h
  cases d <;> simp_all [isAgg, run_underlying hu]
theorem n9 {t : TypeId} {n : Nat} (h : eD P t = some (some n)) (w : World) : (isAgg t).run P w = .ok true w ∧ ca P t = some n := by
 unfold eD at h
 cases hu : P.underlying t with
 | none => simp [hu] at h
 | some d =>
  simp only [hu] at h
  cases d <;> simp_all [isAgg, run_underlying hu]
theorem adW {op : BinOp} {k : IntKind} {a b : Int} {v : Value} (h : l7 op k a b = some v) (t : TypeId) (w : World) (hs : op ≠ .shl) (hr : op ≠ .shr) : (binOp op t (.int k a) (.int k b)).run P w = .ok v w := by
 cases op <;> simp only [l7] at h <;> first
  | (cases h; simp [binOp, Op.intArith, Op.intCmp, Op.intBits, Go.bits]; done)
  | (split at h <;> first | (cases h; done) | (cases h; rename_i hb; simp [binOp, Op.intDiv, hb]; done))
  | (cases h; done)
  | exact absurd rfl hs
  | exact absurd rfl hr
theorem Oy {op : BinOp} {k yk : IntKind} {a b : Int} {v : Value} (h : lS op k a b = some v) (w : World) : (Op.shift op k a yk b).run P w = .ok v w := by
 unfold lS at h
 split at h
 ·cases h
 ·rename_i hb
  cases op <;> simp only at h <;> first | (cases h; done) | (cases h; simp [Op.shift, hb])
theorem yp : ∀ {xs ys : List Value} {xs' ys' : List Value} {r : Bool}, bq xs ys = some r → LRel P ρ xs xs' → LRel P ρ ys ys' → xs' = xs ∧ ys' = ys := by
 intro xs
 induction xs with
 | nil =>
  intro ys xs' ys' r h h1 h2
  cases ys with
  | nil => exact ⟨List.eq_nil_of_length_eq_zero h1.1.symm, List.eq_nil_of_length_eq_zero h2.1.symm⟩
  | cons => simp [bq] at h
 | cons x xs ih =>
  intro ys xs' ys' r h h1 h2
  cases ys with
  | nil => simp [bq] at h
  | cons y ys =>
   cases xs' with
   | nil => have := h1.1; simp at this
   | cons x' xs' =>
    cases ys' with
    | nil => have := h2.1; simp at this
    | cons y' ys' =>
     cases x <;> cases y <;> simp only [bq] at h <;> try (cases h; done)
     rename_i k a k' b
     split at h
     ·obtain ⟨r', hr', _⟩ := aN.1 h
      have hx := (h1.2 0 (.int k a) x' (by simp) (by simp)).int_inv;have hy := (h2.2 0 (.int k' b) y' (by simp) (by simp)).int_inv
      have t1 : LRel P ρ xs xs' := by simpa using h1.drop 1
      have t2 : LRel P ρ ys ys' := by simpa using h2.drop 1
      obtain ⟨e1, e2⟩ := ih hr' t1 t2;exact ⟨by rw [hx, e1], by rw [hy, e2]⟩
     ·cases h
end
section
variable {P : Program} {ρ : bv}
theorem mm {sub : List Field → Option Nat} : ∀ {fs : List Field} {n m : Nat}, e8 P sub n fs = some m → n ≤ m := by
 intro fs
 induction fs with
 | nil => intro n m h; simp [e8] at h; omega
 | cons f fs ih =>
  intro n m h;simp only [e8] at h
  split at h
  ·split at h
   ·have := ih h; omega
   ·split at h
    ·split at h
     ·have := ih h; omega
     ·cases h
    ·cases h
   ·cases h
  ·cases h
theorem JD : ∀ {a a' b b' : List Value} {r : Bool}, a.length = a'.length → bq (a ++ b) (a' ++ b') = some r → ∃ r1 r2, bq a a' = some r1 ∧ bq b b' = some r2 ∧ r = (r1 && r2) := by
 intro a
 induction a with
 | nil =>
  intro a' b b' r hl h;have : a' = [] := List.eq_nil_of_length_eq_zero hl.symm;subst this;exact ⟨true, r, rfl, h, by simp⟩
 | cons x a ih =>
  intro a' b b' r hl h
  cases a' with
  | nil => simp at hl
  | cons y a' =>
   simp only [List.cons_append] at h
   cases x <;> cases y <;> simp only [bq] at h <;> try (cases h; done)
   rename_i k1 u k2 v
   split at h
   ·rename_i hk
    obtain ⟨r', hr', hr⟩ := aN.1 h;obtain ⟨r1, r2, h1, h2, h3⟩ := ih (by simpa using hl) hr';refine ⟨u == v && r1, r2, ?_, h2, ?_⟩
    ·simp only [bq, if_pos hk, h1, dP]
    ·rw [← hr, h3, Bool.and_assoc]
   ·cases h
theorem AY (X : Array Value) {n k : Nat} (h : n + k ≤ X.size) : X.toList.drop n = (X.extract n (n + k)).toList ++ X.toList.drop (n + k) := by
 rw [Array.toList_extract, List.extract_eq_take_drop, show n + k - n = k from by omega, ← List.drop_drop];exact (List.take_append_drop k (X.toList.drop n)).symm
theorem yu {sub : List Field → Option Nat} {D : Nat} {w : World} (hsub : ∀ (gs : List Field) (k : Nat) (X Y : Array Value) (r : Bool), sub gs = some k → X.size = k → Y.size = k → bq X.toList Y.toList = some r → (Op.eqFields D X Y gs).run P w = .ok r w) (X Y : Array Value) :
 ∀ {fs : List Field} {n m : Nat} {r : Bool}, e8 P sub n fs = some m → X.size = m → Y.size = m →
 bq (X.toList.drop n) (Y.toList.drop n) = some r → (Op.eqFields (D + 1) X Y fs).run P w = .ok r w := by
 intro fs
 induction fs with
 | nil =>
  intro n m r h hX hY he;simp [e8] at h;rw [List.drop_eq_nil_of_le (by simp; omega), List.drop_eq_nil_of_le (by simp; omega)] at he;simp [bq] at he;simp [Op.eqFields, ← he]
 | cons f fs ih =>
  intro n m r h hX hY he;simp only [e8] at h
  split at h
  ·rename_i hf
   split at h
   ·rename_i k hk
    have hlen := mm h
    have hnX : n < X.toList.length := by simp; omega
    have hnY : n < Y.toList.length := by simp; omega
    rw [List.drop_eq_getElem_cons hnX, List.drop_eq_getElem_cons hnY] at he
    generalize hx : X.toList[n] = x at he
    generalize hy : Y.toList[n] = y at he
    cases x <;> cases y <;> simp only [bq] at he <;> try (cases he; done)
    rename_i k1 a k2 b
    split at he
    ·rename_i hkk
     subst hkk;obtain ⟨r', hr', hr⟩ := aN.1 he;have ih' := ih h hX hY hr'
     have hXn : X[n]? = some (.int k1 a) := by rw [← Array.getElem?_toList, br hnX, hx]
     have hYn : Y[n]? = some (.int k1 b) := by rw [← Array.getElem?_toList, br hnY, hy]
     have hag : (isAgg f.type).run P w = .ok false w := by simp [isAgg, run_underlying hk]
     simp only [Op.eqFields, hf.1, ne_eq, not_false_eq_true, if_true, part, Sem.run_bind, hag, Result.andThen_ok, Sem.run_ite, Bool.false_eq_true, if_false, hf.2, hXn, hYn, Sem.run_pure, run_equalIn_int w D f.type k1 k a b hk];cases hab : (a == b)
     ·simp [hab] at hr; simp [← hr]
     ·simp [hab] at hr; simpa [hr] using ih'
    ·cases he
   ·rename_i gs hk
    split at h
    ·rename_i k hs
     split at h
     ·rename_i hc
      have hlen := mm h;rw [AY X (n := n) (k := k) (by omega), AY Y (n := n) (k := k) (by omega)] at he
      have sX : (X.extract n (n + k)).size = k := by rw [Array.size_extract]; omega
      have sY : (Y.extract n (n + k)).size = k := by rw [Array.size_extract]; omega
      obtain ⟨r1, r2, h1, h2, h3⟩ := JD (by simp only [Array.length_toList, sX, sY]) he;have ih' := ih h hX hY h2;have hq := hsub gs.toList k _ _ r1 hs sX sY h1
      have hag : (isAgg f.type).run P w = .ok true w := by simp [isAgg, run_underlying hk]
      have hsz := cA hc.1 w
      have hfs : P.fieldsOf f.type = gs := by simp [Program.fieldsOf, hk]
      have hst := run_equalIn_struct w D f.type (X.extract n (n + k)) (Y.extract n (n + k)) (by rw [hfs]; exact hk) hc.2;rw [hfs, hq] at hst;simp only [Op.eqFields, hf.1, ne_eq, not_false_eq_true, if_true, part, Sem.run_bind, hag, Result.andThen_ok, Sem.run_ite, hf.2, hsz, Sem.run_pure, hst];cases r1
      ·simp at h3; simp [h3]
      ·simp at h3; simpa [h3] using ih'
     ·cases h
    ·cases h
   ·cases h
  ·cases h
theorem aiX (w : World) : ∀ (e d : Nat) (X Y : Array Value) {fs : List Field} {n m : Nat} {r : Bool}, oI P e n fs = some m → X.size = m → Y.size = m →
 bq (X.toList.drop n) (Y.toList.drop n) = some r → (Op.eqFields (d + e + 1) X Y fs).run P w = .ok r w := by
 intro e
 induction e with
 | zero => intro d X Y fs n m r h hX hY he; exact yu (D := d) (fun gs k X Y r h => by cases h) X Y h hX hY he
 | succ e ih => intro d X Y fs n m r h hX hY he; exact yu (D := d + e + 1) (fun gs k X Y r h hX hY he => ih d X Y h hX hY (by simpa using he)) X Y h hX hY he
theorem EV {t : TypeId} {n : Nat} (h : tm P t = some n) {X Y : Array Value} (hX : X.size = n) (hY : Y.size = n) {r : Bool} (he : bq X.toList Y.toList = some r) (w : World) :
 (Op.equalIn 10000 t (.agg X) (.agg Y)).run P w = .ok r w ∧ P.eqGuardType P.depth t = false := by
 unfold tm at h
 cases hu : P.underlying t with
 | none => simp [hu] at h
 | some dsc =>
  cases dsc <;> simp only [hu] at h <;> try (cases h; done)
  rename_i fs
  split at h
  ·rename_i hc
   refine ⟨?_, hc.2⟩
   have hfs : P.fieldsOf t = fs := by simp [Program.fieldsOf, hu]
   rw [run_equalIn_struct w 9999 t X Y (by rw [hfs]; exact hu) hc.1, hfs];exact aiX w 2 9996 X Y h hX hY (by simpa using he)
  ·cases h
theorem UZ (d : Nat) {t : TypeId} (hu : P.underlying t = some .bool) (a b : Bool) (w : World) : (Op.equalIn (d + 1) t (.bool a) (.bool b)).run P w = .ok (a == b) w := run_equalIn_bool w d t a b hu
theorem Zy (d : Nat) {t el : TypeId} (hu : P.underlying t = some (.pointer el)) (a : Option Addr) (w : World) : (Op.equalIn (d + 1) t (.pointer a) (.pointer none)).run P w = .ok a.isNone w := by
 cases a <;> simp [Op.equalIn, run_underlying hu]
theorem U1 (d : Nat) {t el : TypeId} (hu : P.underlying t = some (.pointer el)) (a : Addr) (w : World) : (Op.equalIn (d + 1) t (.pointer none) (.pointer (some a))).run P w = .ok false w := by
 simp [Op.equalIn, run_underlying hu]
theorem MN (d : Nat) {t el : TypeId} (hu : P.underlying t = some (.slice el)) (a : Option Addr) (n k m l : Nat) (w : World) : (Op.equalIn (d + 1) t (.slice a n k) (.slice none m l)).run P w = .ok a.isNone w := by
 cases a <;> simp [Op.equalIn, run_underlying hu]
theorem JE (d : Nat) {t el : TypeId} (hu : P.underlying t = some (.slice el)) (a : Addr) (n k m l : Nat) (w : World) : (Op.equalIn (d + 1) t (.slice none n k) (.slice (some a) m l)).run P w = .ok false w := by
 simp [Op.equalIn, run_underlying hu]
theorem Zx (d : Nat) {t kt el : TypeId} (hu : P.underlying t = some (.map kt el)) (a : Option Nat) (w : World) : (Op.equalIn (d + 1) t (.map a) (.map none)).run P w = .ok a.isNone w := by
 cases a <;> simp [Op.equalIn, run_underlying hu]
theorem U0 (d : Nat) {t kt el : TypeId} (hu : P.underlying t = some (.map kt el)) (a : Nat) (w : World) : (Op.equalIn (d + 1) t (.map none) (.map (some a))).run P w = .ok false w := by
 simp [Op.equalIn, run_underlying hu]
theorem wI (d : Nat) {t : TypeId} {ps rs : Array TypeId} {va : Bool} (hu : P.underlying t = some (.func ps rs va)) (f : Fn) (a c : Array Value) (w : World) :
 (Op.equalIn (d + 1) t (.func f a c) .nilFunc).run P w = .ok false w ∧ (Op.equalIn (d + 1) t .nilFunc (.func f a c)).run P w = .ok false w ∧ (Op.equalIn (d + 1) t .nilFunc .nilFunc).run P w = .ok true w := by
 refine ⟨?_, ?_, ?_⟩ <;> simp [Op.equalIn, run_underlying hu]
theorem pX {t : TypeId} {x y : Value} {r : Bool} {w : World} (X Y : Operand) (op : BinOp) (hop : op = .eql ∨ op = .neq) (hg : (eqGuard op t X Y x y).run P w = .ok () w)
 (hi : ∀ k a, x ≠ .int k a) (hf : ∀ k a, x ≠ .float k a) (hc : ∀ k a b, x ≠ .complex k a b) (hs : ∀ a, x ≠ .string a) (he : (Op.equalIn 10000 t x y).run P w = .ok r w) :
 (do eqGuard op t X Y x y; binOp op t x y : Sem Value).run P w = .ok (.bool (if op = .eql then r else !r)) w := by
 have he' : (Op.equal t x y).run P w = .ok r w := he;simp only [Sem.run_bind, hg, Result.andThen_ok]
 rcases hop with rfl | rfl
 ·have e : binOp .eql t x y = (do pure (.bool (← Op.equal t x y)) : Sem Value) := by
   cases x <;> first | rfl | exact absurd rfl (hi _ _) | exact absurd rfl (hf _ _) | exact absurd rfl (hc _ _ _) | exact absurd rfl (hs _)
  rw [e]; simp [he']
 ·have e : binOp .neq t x y = (do pure (.bool (!(← Op.equal t x y))) : Sem Value) := by
   cases x <;> first | rfl | exact absurd rfl (hi _ _) | exact absurd rfl (hf _ _) | exact absurd rfl (hc _ _ _) | exact absurd rfl (hs _)
  rw [e]; simp [he']
theorem S6 {t : TypeId} {x y x' y' : Value} {r : Bool} (h : oN (ym P t) x y = some r) (hx : VRel P ρ x x') (hy : VRel P ρ y y') (X Y : Operand) (w : World) (op : BinOp) (hop : op = .eql ∨ op = .neq) :
 (do eqGuard op t X Y x' y'; binOp op t x' y' : Sem Value).run P w = .ok (.bool (if op = .eql then r else !r)) w := by
 unfold ym at h
 cases hu : P.underlying t with
 | none => simp [hu, oN] at h
 | some d =>
  cases d <;> simp only [hu] at h <;> try (simp [oN] at h; done)
  case bool =>
   cases x <;> cases y <;> simp [oN] at h
   rw [hx.bool_inv, hy.bool_inv];exact pX X Y op hop (by rw [eqGuard_at_bool]; rfl) (by simp) (by simp) (by simp) (by simp) (by rw [UZ 9999 hu, h])
  case pointer el =>
   cases x <;> cases y <;> simp only [oN] at h <;> try (cases h; done)
   rename_i a b
   obtain ⟨a', rfl, ha⟩ := hx.pointer_inv;obtain ⟨b', rfl, hb⟩ := hy.pointer_inv;refine pX X Y op hop (by rw [eqGuard_at_pointer]; rfl) (by simp) (by simp) (by simp) (by simp) ?_
   cases b with
   | none =>
    have hb' : b' = none := by cases b' <;> simp_all
    subst hb';rw [Zy 9999 hu, ha]
    cases a <;> simp [oN] at h <;> simp [h]
   | some b =>
    cases a with
    | some a => simp [oN] at h
    | none =>
     have ha' : a' = none := by cases a' <;> simp_all
     subst ha'
     cases b' with
     | none => simp at hb
     | some b' => simp [oN] at h; rw [U1 9999 hu, ← h]
  case slice el =>
   cases x <;> cases y <;> simp only [oN] at h <;> try (cases h; done)
   rename_i a n1 k1 b n2 k2
   obtain ⟨a', _, rfl, ha⟩ := hx.anyslice_inv;obtain ⟨b', _, rfl, hb⟩ := hy.anyslice_inv;refine pX X Y op hop (by rw [eqGuard_at_slice]; rfl) (by simp) (by simp) (by simp) (by simp) ?_
   cases b with
   | none =>
    have hb' : b' = none := by cases b' <;> simp_all
    subst hb';rw [MN 9999 hu, ha]
    cases a <;> simp [oN] at h <;> simp [h]
   | some b =>
    cases a with
    | some a => simp [oN] at h
    | none =>
     have ha' : a' = none := by cases a' <;> simp_all
     subst ha'
     cases b' with
     | none => simp at hb
     | some b' => simp [oN] at h; rw [JE 9999 hu, ← h]
  case map kt el =>
   cases x <;> cases y <;> simp only [oN] at h <;> try (cases h; done)
   rename_i a b
   obtain ⟨a', rfl, ha⟩ := hx.anymap_inv;obtain ⟨b', rfl, hb⟩ := hy.anymap_inv;refine pX X Y op hop (by rw [eqGuard_at_map]; rfl) (by simp) (by simp) (by simp) (by simp) ?_
   cases b with
   | none =>
    have hb' : b' = none := by cases b' <;> simp_all
    subst hb';rw [Zx 9999 hu, ha]
    cases a <;> simp [oN] at h <;> simp [h]
   | some b =>
    cases a with
    | some a => simp [oN] at h
    | none =>
     have ha' : a' = none := by cases a' <;> simp_all
     subst ha'
     cases b' with
     | none => simp at hb
     | some b' => simp [oN] at h; rw [U0 9999 hu, ← h]
  case func ps rs va =>
   cases x <;> cases y <;> simp [oN] at h
   ·obtain ⟨f', c', rfl, _⟩ := hx.func_inv
    rw [hy.nilFunc_inv];exact pX X Y op hop (by rw [eqGuard_at_func]; rfl) (by simp) (by simp) (by simp) (by simp) (by rw [(wI 9999 hu _ f' c' w).1, h])
   ·obtain ⟨f', c', rfl, _⟩ := hy.func_inv
    rw [hx.nilFunc_inv];exact pX X Y op hop (by rw [eqGuard_at_nilFunc]; rfl) (by simp) (by simp) (by simp) (by simp) (by rw [(wI 9999 hu _ f' c' w).2.1, h])
   ·rw [hx.nilFunc_inv, hy.nilFunc_inv]
    exact pX X Y op hop (by rw [eqGuard_at_nilFunc]; rfl) (by simp) (by simp) (by simp) (by simp) (by rw [(wI 9999 hu (.func 0) #[] #[] w).2.2, h])
  case struct fs =>
   cases hf : tm P t with
   | none => simp [hf, oN] at h
   | some n =>
    simp only [hf] at h
    cases x <;> cases y <;> simp only [oN] at h <;> try (cases h; done)
    rename_i xs ys
    split at h
    ·rename_i hsz
     obtain ⟨xs', rfl, hxs, hxe⟩ := hx.agg_inv;obtain ⟨ys', rfl, hys, hye⟩ := hy.agg_inv;have hlx : LRel P ρ xs.toList xs'.toList := ⟨by simpa using hxs, fun i a b ha hb => hxe i a b (by simpa using ha) (by simpa using hb)⟩;have hly : LRel P ρ ys.toList ys'.toList := ⟨by simpa using hys, fun i a b ha hb => hye i a b (by simpa using ha) (by simpa using hb)⟩;obtain ⟨e1, e2⟩ := yp h hlx hly;have e1 := Array.toList_inj.1 e1;have e2 := Array.toList_inj.1 e2;subst e1; subst e2;obtain ⟨hq, hg⟩ := EV hf hsz.1 hsz.2 h w;exact pX X Y op hop (run_eqGuard_agg (P := P) w op t X Y xs' ys' hg) (by simp) (by simp) (by simp) (by simp) hq
    ·cases h
theorem KI {t : TypeId} {op : BinOp} {x y x' y' v : Value} (h : aj (ym P t) op x y = some v) (hx : VRel P ρ x x') (hy : VRel P ρ y y') (X Y : Operand) (w : World) :
 (do eqGuard op t X Y x' y'; binOp op t x' y' : Sem Value).run P w = .ok v w ∧ cJ v = true := by
 by_cases hi : ∃ k a k' b, x = .int k a ∧ y = .int k' b
 ·obtain ⟨k, a, k', b, rfl, rfl⟩ := hi
  rw [hx.int_inv, hy.int_inv, eqGuard_at_int];simp only [aj] at h
  have lit : ∀ {op' : BinOp}, l7 op' k a b = some v → cJ v = true := by
   intro op' hp
   cases op' <;> simp only [l7] at hp <;> first | (cases hp; rfl) | (split at hp <;> first | (cases hp; done) | (cases hp; rfl)) | (cases hp; done)
  have lits : ∀ {op' : BinOp}, lS op' k a b = some v → cJ v = true := by
   intro op' hp;unfold lS at hp
   split at hp
   ·cases hp
   ·cases op' <;> simp only at hp <;> first | (cases hp; done) | (cases hp; rfl)
  cases op <;> simp only at h <;> first
   | (refine ⟨?_, lits h⟩; have := Oy (P := P) (yk := k') h w; simpa [binOp] using this)
   | (split at h
      ·rename_i hk; subst hk; exact ⟨by simpa using adW (P := P) h t w (by simp) (by simp), lit h⟩
      ·cases h)
 ·by_cases hs : ∃ a b, x = .string a ∧ y = .string b
  ·obtain ⟨a, b, rfl, rfl⟩ := hs
   rw [hx.string_inv, hy.string_inv, eqGuard_at_string];simp only [aj] at h
   cases op <;> simp only [ad7] at h <;> first | (cases h; done) | (cases h; refine ⟨?_, rfl⟩; simp [binOp, Op.stringOp, beq_toListBytes])
  ·have h' : Fe (ym P t) op x y = some v := by
    cases x <;> cases y <;> first | (exfalso; exact hi ⟨_, _, _, _, rfl, rfl⟩) | (exfalso; exact hs ⟨_, _, rfl, rfl⟩) | (simp only [aj] at h; exact h)
   cases op <;> simp only [Fe] at h' <;> try (cases h'; done)
   ·obtain ⟨r, hr, rfl⟩ := aN.1 h'
    exact ⟨by simpa using S6 hr hx hy X Y w .eql (.inl rfl), rfl⟩
   ·obtain ⟨r, hr, rfl⟩ := aN.1 h'
    exact ⟨by simpa using S6 hr hx hy X Y w .neq (.inr rfl), rfl⟩
theorem Tb {op : UnOp} {x x' v : Value} (h : pM op x = some v) (hx : VRel P ρ x x') (w : World) : (Op.unary op x').run P w = .ok v w ∧ cJ v = true := by
 cases op <;> cases x <;> simp only [pM] at h <;> try (cases h; done)
 ·cases h; rw [hx.int_inv]; exact ⟨by simp [Op.unary, Op.intArith], rfl⟩
 ·cases h; rw [hx.int_inv]; exact ⟨by simp [Op.unary, Op.intBits, Go.bits], rfl⟩
 ·cases h; rw [hx.bool_inv]; exact ⟨by simp [Op.unary], rfl⟩
end
section
variable {P : Program} {w0 : World} {B : Nat} {ρ : bv} {H : AH} {w : World}
def pS (P : Program) (w0 : World) (B : Nat) (ρ : bv) (H : AH) (w : World) (r : Result Next) (v : Value) (H' : AH) : Prop :=
 ∃ v' w' ρ', (r = .ok (.value v') w' ∨ (r = .ok .skip w' ∧ v' = undef)) ∧ VRel P ρ' v v' ∧ ix ρ H w ρ' H' w' ∧ Rel P w0 B ρ' H' w'
theorem pS.pure (hR : Rel P w0 B ρ H w) {r : Result Next} {v v' : Value} (hr : r = .ok (.value v') w) (hv : VRel P ρ v v') : pS P w0 B ρ H w r v H :=
 ⟨v', w, ρ, .inl hr, hv, ix.refl _ _ _, hR⟩
theorem vt {v : Value} {b o : Nat} (h : tN v = some (b, o)) : v = .pointer (some ⟨b, o, none⟩) := by
 unfold tN at h
 split at h
 ·cases h; rfl
 ·cases h
theorem j1 {b : Nat} {cs : List Value} (h : dq H b = some cs) : ∃ ro, H.get b = some (.cells ro cs) := by
 unfold dq at h
 split at h
 ·rename_i ro cs' hg; cases h; exact ⟨ro, hg⟩
 ·cases h
theorem Rel.cells (hR : Rel P w0 B ρ H w) {b c d sz : Nat} {ro : Bool} {cs : List Value} (hb : ρ b = some (c, d, sz)) (ho : H.get b = some (.cells ro cs)) :
 ∃ cc el fz, w.heap[c]? = some (.cells cc el fz) ∧ cc.size = sz ∧ d + cs.length ≤ sz ∧ (ro = false → fz = (0, 0)) ∧ LRel P ρ cs ((cc.toList.drop d).take cs.length) :=
 hR.obj b c d sz _ hb ho
theorem Qz {c d o n : Nat} {cc : Array Value} {el : TypeId} {fz : Nat × Nat} {y : Value} (hg : w.heap[c]? = some (.cells cc el fz)) (hy : ((cc.toList.drop d).take n)[o]? = some y) :
 w.cell? ⟨c, d + o, none⟩ = some y := by
 rw [List.getElem?_take] at hy
 split at hy
 ·rw [List.getElem?_drop, Array.getElem?_toList] at hy
  simp [World.cell?, hg, hy]
 ·cases hy
theorem ac0 (hR : Rel P w0 B ρ H w) {v v' x : Value} (h : au v H = some x) (hv : VRel P ρ v v') : ∃ a' x', v' = .pointer (some a') ∧ (load a').run P w = .ok x' w ∧ VRel P ρ x x' := by
 unfold au at h;obtain ⟨⟨b, o⟩, ha, h⟩ := aG.1 h;obtain ⟨cs, hc, h⟩ := aG.1 h;rw [vt ha] at hv;obtain ⟨c, d, sz, hb, rfl⟩ := hv.ptr_inv;obtain ⟨ro, hg⟩ := j1 hc;obtain ⟨cc, el, fz, hw, _, _, _, hl⟩ := hR.cells hb hg;obtain ⟨x', hx', hxx⟩ := hl.get h;refine ⟨_, x', rfl, ?_, hxx⟩;have hcell := Qz hw hx';simp [run_load, hcell]
theorem Ky (hR : Rel P w0 B ρ H w) {n : Nat} {v v' x : Value} (h : aC n v H = some x) (hv : VRel P ρ v v') : ∃ a' xs', v' = .pointer (some a') ∧ (loadCells a' n).run P w = .ok xs' w ∧ VRel P ρ x (.agg xs') := by
 unfold aC at h;obtain ⟨⟨b, o⟩, ha, h⟩ := aG.1 h;obtain ⟨cs, hc, h⟩ := aG.1 h;rw [vt ha] at hv;obtain ⟨c, d, sz, hb, rfl⟩ := hv.ptr_inv;obtain ⟨ro, hg⟩ := j1 hc;obtain ⟨cc, el, fz, hw, _, _, _, hl⟩ := hR.cells hb hg
 split at h
 ·rename_i hle
  cases h;have hl' := (hl.drop o).take n
  have hlen : ((((cc.toList.drop d).take cs.length).drop o).take n).length = n := by rw [← hl'.1]; simp; simp at hle; omega
  have hrun := run_loadCells_list (P := P) w ⟨c, d + o, none⟩ ((((cc.toList.drop d).take cs.length).drop o).take n) (by
   intro j y hy;rw [List.getElem?_take] at hy
   split at hy
   ·rw [List.getElem?_drop] at hy
    have := Qz hw hy;rw [Addr.add_lit, Nat.add_assoc];exact this
   ·cases hy)
  rw [hlen] at hrun;exact ⟨_, _, rfl, hrun, hl'.toAgg⟩
 ·cases h
theorem Ea {cc : List Value} {d o n : Nat} {xs : List Value} (hd : d + n ≤ cc.length) (ho : o + xs.length ≤ n) :
 ((cc.take (d + o) ++ xs ++ cc.drop (d + o + xs.length)).drop d).take n = splice ((cc.drop d).take n) o xs := by
 unfold splice;apply List.ext_getElem?;intro i;simp only [List.getElem?_take, List.getElem?_drop, List.getElem?_append, List.length_take, dh, List.length_drop]
 have m1 : min (d + o) cc.length = d + o := by omega
 have m2 : min n (cc.length - d) = n := by omega
 have m3 : min o n = o := by omega
 simp only [m1, m2, m3]
 by_cases hi : i < n
 ·simp only [hi, if_true]
  by_cases h1 : i < o
  ·have a1 : d + i < d + o := by omega
   have a2 : d + i < d + o + xs.length := by omega
   have a3 : i < o + xs.length := by omega
   simp [h1, a1, a2, a3]
  ·by_cases h2 : i < o + xs.length
   ·have a1 : ¬ d + i < d + o := by omega
    have a2 : d + i < d + o + xs.length := by omega
    have a4 : d + i - (d + o) = i - o := by omega
    simp [h1, h2, a1, a2, a4]
   ·have a2 : ¬ d + i < d + o + xs.length := by omega
    have a5 : o + xs.length + (i - (o + xs.length)) < n := by omega
    have a6 : d + o + xs.length + (d + i - (d + o + xs.length)) = d + (o + xs.length + (i - (o + xs.length))) := by omega
    simp [h2, a2, a5, a6]
 ·simp only [hi, if_false]
  have a3 : ¬ i < o + xs.length := by omega
  have a5 : ¬ o + xs.length + (i - (o + xs.length)) < n := by omega
  simp [a3, a5]
theorem jQ {cs xs : List Value} {o : Nat} (h : o + xs.length ≤ cs.length) : (splice cs o xs).length = cs.length := by
 unfold splice; simp; omega
theorem LRel.splice {cs cs' xs xs' : List Value} (h : LRel P ρ cs cs') (hx : LRel P ρ xs xs') (o : Nat) : LRel P ρ (Gst.splice cs o xs) (Gst.splice cs' o xs') := by
 unfold Gst.splice;rw [← hx.1];exact ((h.take o).append hx).append (h.drop _)
theorem KH {xs xs' : List Value} (h : LRel P ρ xs xs') (ha : xs.all Value.oneCell' = true) : ∀ v ∈ xs', v.oneCell' = true := by
 intro v hv;obtain ⟨i, hi, rfl⟩ := List.getElem_of_mem hv
 have hi' : i < xs.length := by have := h.1; omega
 have hr := h.2 i xs[i] xs'[i] (br hi') (br hi);rw [← hr.oneCell];exact List.all_eq_true.1 ha _ (Ku hi')
theorem am7 (hR : Rel P w0 B ρ H w) {n : Nat} {v v' x x' : Value} {H' : AH} (h : dc n v x H = some H') (hv : VRel P ρ v v') (hx : VRel P ρ x x') :
 ∃ a' w', v' = .pointer (some a') ∧ x'.cells.size = n ∧ (storeCells a' x'.cells.toList).run P w = .ok () w' ∧ ix ρ H w ρ H' w' ∧ Rel P w0 B ρ H' w' := by
 unfold dc at h;obtain ⟨⟨b, o⟩, ha, h⟩ := aG.1 h;rw [vt ha] at hv;obtain ⟨c, d, sz, hb, rfl⟩ := hv.ptr_inv;simp only at h
 split at h
 ·rename_i cs hg
  split at h
  ·rename_i hcond
   obtain ⟨hn, hfit, hone⟩ := hcond;cases h;obtain ⟨cc, el, fz, hw, hsz, hd, hfz, hl⟩ := hR.cells hb hg;have hfz := hfz rfl;subst hfz;have hxc := hx.cells
   have hlen : x'.cells.toList.length = n := by rw [← hxc.1]; simpa using hn
   have hlenx : x.cells.toList.length = n := by simpa using hn
   have hst := run_storeCells_at P c (d + o) el x'.cells.toList 0 cc w hw (by rw [hlen]; omega) (KH hxc hone);simp only [Nat.add_zero] at hst;have hset := hR.setBlock (o := .cells false cs) (o' := .cells false (Gst.splice cs o x.cells.toList)) hb hg rfl rfl
    (w' := w.setRow c (cc.toList.take (d + o) ++ x'.cells.toList ++ cc.toList.drop (d + o + x'.cells.toList.length)).toArray)
    rfl rfl rfl (size_setRow ..) (fun k hk => setRow_other w c k _ hk)
    ⟨_, el, (0, 0), setRow_heap w c cc _ el (0, 0) hw, (by have h1 := hlen; simp at h1 ⊢; omega), by rw [jQ (by rw [hlenx]; exact hfit)]; exact hd, fun _ => rfl, by
     have hwin := Ea (cc := cc.toList) (d := d) (o := o) (n := cs.length) (xs := x'.cells.toList) (by simp; omega) (by rw [hlen]; exact hfit);rw [jQ (by rw [hlenx]; exact hfit)];have e : (cc.toList.take (d + o) ++ x'.cells.toList ++ cc.toList.drop (d + o + x'.cells.toList.length)).toArray.toList = cc.toList.take (d + o) ++ x'.cells.toList ++ cc.toList.drop (d + o + x'.cells.toList.length) := rfl;rw [e, hwin]
     exact hl.splice hxc o⟩
   refine ⟨_, _, rfl, by simpa using hlen, hst, hset.2, hset.1⟩
  ·cases h
 ·cases h
theorem rZ (hR : Rel P w0 B ρ H w) {cs cs' : List Value} {el : TypeId} (hl : LRel P ρ cs cs') :
 Rel P w0 B (ρ.upd H.size (w.heap.size, 0, cs'.length)) (H.push (.cells false cs)) (w.alloc (.cells cs'.toArray el)) ∧
 ix ρ H w (ρ.upd H.size (w.heap.size, 0, cs'.length)) (H.push (.cells false cs)) (w.alloc (.cells cs'.toArray el)) :=
 hR.push rfl ⟨_, el, (0, 0), rfl, by simp, by rw [hl.1]; omega, fun _ => rfl, by rw [hl.1]; simpa using hl⟩
theorem adL (hR : Rel P w0 B ρ H w) {cs cs' : List Value} {el : TypeId} (hl : LRel P ρ cs cs') {r : Result Next} (hr : r = .ok (.value (.pointer (some ⟨w.heap.size, 0, none⟩))) (w.alloc (.cells cs'.toArray el))) :
 pS P w0 B ρ H w r (.pointer (some ⟨H.size, 0, none⟩)) (H.push (.cells false cs)) :=
 ⟨_, _, _, .inl hr, .ptr (d := 0) (o := 0) (bv.upd_same ..), (rZ hR hl).2, (rZ hR hl).1⟩
end
section
variable {P : Program} {w0 : World} {B : Nat} {ρ : bv} {H : AH} {w : World}
theorem TG (hR : Rel P w0 B ρ H w) {e m : Nat} {x x' : Value} {news : List Value} (h : kL e x H = some (m, news)) (hx : VRel P ρ x x') :
 ∃ a' k' news', x' = .slice a' m k' ∧ LRel P ρ news news' ∧ news'.length = m * e ∧ (Builtin.firstCells e m x').run P w = .ok news'.toArray w ∧ (Builtin.firstCells e m x').run P w.drew = .ok news'.toArray w.drew := by
 by_cases hsl : ∃ a n k, x = .slice a n k
 case neg =>
  exfalso
  cases x <;> first | exact hsl ⟨_, _, _, rfl⟩ | (simp [kL] at h)
 obtain ⟨a, n, k, rfl⟩ := hsl
 cases a with
 | none =>
  simp only [kL] at h
  split at h
  ·rename_i hn
   cases h;subst hn;rw [hx.nilslice_inv];exact ⟨none, k, [], rfl, LRel.nil, by simp, by simp [Builtin.firstCells], by simp [Builtin.firstCells]⟩
  ·cases h
 | some ad =>
  obtain ⟨b, o, sp⟩ := ad
  cases sp with
  | some sp => simp [kL] at h
  | none =>
  simp only [kL] at h
  split at h
  ·rename_i hm
   cases h;subst hm;obtain ⟨a', k', rfl, ha⟩ := hx.anyslice_inv
   cases a' with
   | none => simp at ha
   | some a' => exact ⟨some a', k', [], rfl, LRel.nil, by simp, by simp [Builtin.firstCells, loadCells, loadCellsFrom], by simp [Builtin.firstCells, loadCells, loadCellsFrom]⟩
  ·rename_i hm
   have h2 := aG.1 h
   clear h
   obtain ⟨cs, hc, h⟩ := h2
   split at h
   ·rename_i hle
    cases h
    cases hx with
    | lit h => simp [cJ] at h
    | slice0 h => exact absurd rfl hm
    | empty => exact absurd rfl hm
    | slice hb hk hn he =>
     rename_i c d sz k'
     have hld : aC (m * e) (.pointer (some ⟨b, o, none⟩)) H = some (.agg ((cs.drop o).take (m * e)).toArray) := by
      simp [aC, tN, hc, hle]
     obtain ⟨a', xs', ha', hrun, hv⟩ := Ky hR hld (.ptr hb);cases ha';obtain ⟨ys, hys, hsz, hel⟩ := hv.agg_inv;cases hys
     have hrun2 : (loadCells ⟨c, d + o, none⟩ (m * e)).run P w.drew = .ok xs' w.drew := by
      obtain ⟨a2, xs2, ha2, hr2, _⟩ := Ky hR.drew hld (.ptr hb);cases ha2;have hcs : (loadCells ⟨c, d + o, none⟩ (m * e)).run P w = .ok xs' w := hrun
      -- the cells are the same ones
      obtain ⟨ro, hg⟩ := j1 hc;obtain ⟨cc, el, fz, hw, hsz', hd', _, _⟩ := hR.cells hb hg
      have hrd : ∀ (W : World), W.heap[c]? = some (.cells cc el fz) → (loadCells ⟨c, d + o, none⟩ (m * e)).run P W = .ok ((cc.toList.drop (d + o)).take (m * e)).toArray W := by
       intro W hW
       have hl : ((cc.toList.drop (d + o)).take (m * e)).length = m * e := by simp; omega
       have := run_loadCells_list (P := P) W ⟨c, d + o, none⟩ ((cc.toList.drop (d + o)).take (m * e)) (by
        intro j y hy;rw [List.getElem?_take] at hy
        split at hy
        ·rw [List.getElem?_drop, Array.getElem?_toList] at hy
         rw [Addr.add_lit];simp [World.cell?, hW, hy]
        ·cases hy)
       rwa [hl] at this
      rw [hrd w hw] at hcs;cases hcs;exact hrd w.drew hw
     refine ⟨some ⟨c, d + o, none⟩, k', xs'.toList, rfl, ⟨by simpa using hsz, fun i x y hx hy => hel i x y (by simpa using hx) (by simpa using hy)⟩, ?_, ?_, ?_⟩
     ·have := hsz; simp at this ⊢; omega
     ·simpa [Builtin.firstCells] using hrun
     ·simpa [Builtin.firstCells] using hrun2
   ·cases h
theorem yQ {t u ty el : TypeId} {i : TypeInfo} {z : Value} (ht : P.underlying t = some (.slice el)) (hu : P.underlying u = some (.slice el)) (hi : P.info? el = some i) (hz : i.zero = some z)
 (base : Option Addr) (sLen sCap : Nat) (olds' : List Value) (ho : (Builtin.firstCells i.size sLen (.slice base sLen sCap)).run P w.drew = .ok olds'.toArray w.drew)
 {a' : Option Addr} {m k' : Nat} {news' : List Value} (hx : (Builtin.firstCells i.size m (.slice a' m k')).run P w.drew = .ok news'.toArray w.drew)
 (hg : sCap < sLen + m) (hb : (sLen + m) * i.bytes ≤ room) (h63 : sLen + m ≤ room) :
 (Builtin.append_ #[t, u] ty #[.slice base sLen sCap, .slice a' m k']).run P w =
  .ok (.slice (some ⟨w.heap.size, 0, none⟩) (sLen + m) (grownCap w (sLen + m) sCap el))
   (w.drew.alloc (.cells (olds' ++ news' ++ (Builtin.zeroCells z.cells (grownCap w (sLen + m) sCap el - (sLen + m))).toList).toArray el)) := by
 unfold room at hb h63
 have hn : ¬ (sLen + m ≤ sCap) := by omega
 have h63' : ¬ (9223372036854775807 < ((sLen : Int) + (m : Int))) := by omega
 have h48' : ¬ (281474976710656 < Builtin.nextslicecap (sLen + m) sCap * i.bytes) := by
  have := growslice_fits hg hb; omega
 simp [Builtin.append_, run_underlying ht, run_underlying hu, sizeOf, typeInfo, zeroValue, hi, hz, Builtin.lenOf, hn, h63', h48', Question.forced, ho, hx, newRow, grownCap]
 congr 2
 apply Array.ext';simp [List.append_assoc]
theorem gJ {t u ty el : TypeId} {i : TypeInfo} (ht : P.underlying t = some (.slice el)) (hu : P.underlying u = some (.slice el)) (hi : P.info? el = some i)
 (base : Addr) (sLen sCap : Nat) {a' : Option Addr} {m k' : Nat} {news' : List Value} (hx : (Builtin.firstCells i.size m (.slice a' m k')).run P w = .ok news'.toArray w)
 (hg : sLen + m ≤ sCap) {w' : World} (hst : (storeCells (base.add (sLen * i.size)) news').run P w = .ok () w') :
 (Builtin.append_ #[t, u] ty #[.slice (some base) sLen sCap, .slice a' m k']).run P w = .ok (.slice (some base) (sLen + m) sCap) w' := by
 simp [Builtin.append_, run_underlying ht, run_underlying hu, sizeOf, typeInfo, hi, Builtin.lenOf, hg, hx, hst]
theorem AA {t u ty el : TypeId} {i : TypeInfo} (ht : P.underlying t = some (.slice el)) (hu : P.underlying u = some (.slice el)) (hi : P.info? el = some i)
 {a' : Option Addr} {k' : Nat} {news' : List Value} (hx : (Builtin.firstCells i.size 0 (.slice a' 0 k')).run P w = .ok news'.toArray w) :
 (Builtin.append_ #[t, u] ty #[.slice none 0 0, .slice a' 0 k']).run P w = .ok (.slice none 0 0) w := by
 simp [Builtin.append_, run_underlying ht, run_underlying hu, sizeOf, typeInfo, hi, Builtin.lenOf, hx]
theorem ahH (hR : Rel P w0 B ρ H w) {t u ty el : TypeId} {i : TypeInfo} {z : Value} (ht : P.underlying t = some (.slice el)) (hu : P.underlying u = some (.slice el)) (hi : P.info? el = some i) (hz : i.zero = some z)
 (hzs : z.cells.size = i.size) {s s' x x' v : Value} {H' : AH} (h : dN i.size i.bytes s x H = some (v, H')) (hs : VRel P ρ s s') (hx : VRel P ρ x x') :
 ∃ v' w' ρ', (Builtin.append_ #[t, u] ty #[s', x']).run P w = .ok v' w' ∧ VRel P ρ' v v' ∧ ix ρ H w ρ' H' w' ∧ Rel P w0 B ρ' H' w' := by
 unfold dN at h;have h2 := aG.1 h
 clear h
 obtain ⟨⟨m, news⟩, hrow, h⟩ := h2;obtain ⟨a', k', news', rfl, hln, hnl, hrun, hrunD⟩ := TG hR hrow hx
 split at h
 ·rename_i hcond
  obtain ⟨hone, he⟩ := hcond;have hones := KH hln hone;simp only at h hone
  -- a new block, whatever stood there before
  have fresh : ∀ (base : Option Addr) (sCap n : Nat) (olds olds' : List Value), LRel P ρ olds olds' → olds'.length = n * i.size → s' = .slice base n sCap →
   (Builtin.firstCells i.size n (.slice base n sCap)).run P w.drew = .ok olds'.toArray w.drew → sCap < n + m → (n + m) * i.bytes ≤ room → n + m ≤ room →
   ∃ sz k, (Builtin.append_ #[t, u] ty #[s', .slice a' m k']).run P w = .ok (.slice (some ⟨w.heap.size, 0, none⟩) (n + m) k) (w.drew.alloc (.cells (olds' ++ news' ++ (Builtin.zeroCells z.cells (k - (n + m))).toList).toArray el)) ∧
    sz = k * i.size ∧ n + m ≤ k ∧ pQ P ρ 0 sz (.cells false (olds ++ news)) (some (.cells (olds' ++ news' ++ (Builtin.zeroCells z.cells (k - (n + m))).toList).toArray el)) := by
   intro base sCap n olds olds' hlo hlen hs' ho hg hb h63;have hge := grownCap_ge w (n + m) sCap el;refine ⟨_, grownCap w (n + m) sCap el, by rw [hs']; exact yQ ht hu hi hz base n sCap olds' ho hrunD hg hb h63, rfl, hge, ?_⟩
   have htot : (olds' ++ news').length = (n + m) * i.size := by simp [hlen, hnl, Nat.add_mul]
   refine ⟨_, el, (0, 0), rfl, ?_, ?_, fun _ => rfl, ?_⟩
   ·have hzl : (Builtin.zeroCells z.cells (grownCap w (n + m) sCap el - (n + m))).size = (grownCap w (n + m) sCap el - (n + m)) * i.size := by rw [size_zeroCells, hzs]
    simp only [List.size_toArray, dh, Array.length_toList, hzl] at htot ⊢;rw [htot, ← Nat.add_mul]
    congr 1
    omega
   ·rw [Nat.zero_add, (hlo.append hln).1, htot]
    exact Nat.mul_le_mul_right _ hge
   ·have e : ((olds' ++ news' ++ (Builtin.zeroCells z.cells (grownCap w (n + m) sCap el - (n + m))).toList).toArray.toList.drop 0).take (olds ++ news).length = olds' ++ news' := by
     rw [(hlo.append hln).1];simp only [List.drop_zero];exact List.take_left
    rw [e];exact hlo.append hln
  have freshPush : ∀ (base : Option Addr) (sCap : Nat), s' = .slice base 0 sCap → sCap = 0 → (Builtin.firstCells i.size 0 (.slice base 0 sCap)).run P w.drew = .ok [].toArray w.drew → 0 < m → m * i.bytes ≤ room → m ≤ room →
   ∃ v' w' ρ', (Builtin.append_ #[t, u] ty #[s', .slice a' m k']).run P w = .ok v' w' ∧ VRel P ρ' (.slice (some ⟨H.size, 0, none⟩) m i.size) v' ∧ ix ρ H w ρ' (H.push (.cells false news)) w' ∧ Rel P w0 B ρ' (H.push (.cells false news)) w' := by
   intro base sCap hs' hcap ho hm hb h63;obtain ⟨sz, k, hr, hsz, hk, hor⟩ := fresh base sCap 0 [] [] LRel.nil (by simp) hs' ho (by omega) (by simpa using hb) (by omega);simp only [Nat.zero_add, List.nil_append] at hr hk hor;have hp := hR.drew.push (o := .cells false news) rfl hor;exact ⟨_, _, _, hr, .slice (d := 0) (o := 0) (bv.upd_same ..) (by rw [hsz]; simp) hk he, hp.2.of_drew, hp.1⟩
  by_cases hsl : ∃ a n k, s = .slice a n k
  case neg =>
   exfalso
   cases s <;> first | exact hsl ⟨_, _, _, rfl⟩ | (simp at h)
  obtain ⟨a, n, e', rfl⟩ := hsl
  cases a with
  | none =>
   simp only at h
   split at h
   ·rename_i hnk
    obtain ⟨rfl, rfl⟩ := hnk;have hs' := hs.nilslice_inv
    split at h
    ·rename_i hm0
     cases h;subst hm0;rw [hs'];exact ⟨_, w, ρ, AA ht hu hi hrun, .lit rfl, ix.refl _ _ _, hR⟩
    ·rename_i hm0
     split at h
     ·rename_i hc
      cases h;exact freshPush none 0 hs' rfl (by simp [Builtin.firstCells]) (by omega) hc.1 hc.2
     ·cases h
   ·cases h
  | some ad =>
   obtain ⟨b, o, sp⟩ := ad
   cases sp with
   | some sp => simp at h
   | none =>
   simp only at h
   split at h
   ·rename_i hm0
    cases h;subst hm0;have hn0 : news' = [] := List.eq_nil_of_length_eq_zero (by simpa using hnl);subst hn0
    cases hs with
    | lit h => simp [cJ] at h
    | slice hb hk hn he' =>
     exact ⟨_, w, ρ, gJ ht hu hi _ _ _ hrun (by omega) (by simp [storeCells]), .slice hb hk (by omega) he', ix.refl _ _ _, hR⟩
    | slice0 hb =>
     exact ⟨_, w, ρ, gJ ht hu hi _ _ _ hrun (by omega) (by simp [storeCells]), .slice0 hb, ix.refl _ _ _, hR⟩
    | empty =>
     exact ⟨_, w, ρ, gJ ht hu hi _ _ _ hrun (by omega) (by simp [storeCells]), .empty, ix.refl _ _ _, hR⟩
   ·rename_i hm0
    split at h
    ·rename_i he0
     subst he0
     split at h
     ·rename_i hc
      obtain ⟨rfl, hb, h63⟩ := hc;cases h
      cases hs with
      | lit h => simp [cJ] at h
      | slice hb hk hn he' => omega
      | slice0 hb' => exact freshPush _ 0 rfl rfl (by simp [Builtin.firstCells, loadCells, loadCellsFrom]) (by omega) hb h63
      | empty => exact freshPush _ 0 rfl rfl (by simp [Builtin.firstCells, loadCells, loadCellsFrom]) (by omega) hb h63
     ·cases h
    ·rename_i he0
     split at h
     ·rename_i cs hg
      split at h
      ·rename_i hc
       obtain ⟨rfl, hfit, hb, h63⟩ := hc;cases h;have hlt := AH.lt_of_get hg
       -- the row in a new block
       have grow : ∀ (base : Option Addr) (sCap c d sz : Nat), ρ b = some (c, d, sz) → s' = .slice base n sCap → sCap < n + m → (∃ olds', LRel P ρ ((cs.drop o).take (n * i.size)) olds' ∧ (Builtin.firstCells i.size n (.slice base n sCap)).run P w.drew = .ok olds'.toArray w.drew) →
        ∃ v' w' ρ', (Builtin.append_ #[t, u] ty #[s', .slice a' m k']).run P w = .ok v' w' ∧ VRel P ρ' (.slice (some ⟨H.size, 0, none⟩) (n + m) i.size) v' ∧
         ix ρ H w ρ' ((H.set b .dead).push (.cells false ((cs.drop o).take (n * i.size) ++ news))) w' ∧ Rel P w0 B ρ' ((H.set b .dead).push (.cells false ((cs.drop o).take (n * i.size) ++ news))) w' := by
        intro base sCap c d sz hbc hs' hcap ⟨olds', hlo, ho⟩
        have hlen : olds'.length = n * i.size := by rw [← hlo.1]; simp; omega
        obtain ⟨sz', k, hr, hsz', hk, hor⟩ := fresh base sCap n _ olds' hlo hlen hs' ho hcap hb h63;have hlast : (w.drew.alloc (.cells (olds' ++ news' ++ (Builtin.zeroCells z.cells (k - (n + m))).toList).toArray el)).heap[w.heap.size]? = some (.cells (olds' ++ news' ++ (Builtin.zeroCells z.cells (k - (n + m))).toList).toArray el) := heap_alloc_new w.drew _;have jm : ∀ q, q < w.heap.size → (w.drew.alloc (.cells (olds' ++ news' ++ (Builtin.zeroCells z.cells (k - (n + m))).toList).toArray el)).heap[q]? = w.heap[q]? := fun q hq => heap_alloc_old w.drew _ q hq;have hmv := hR.move hbc hg (o' := .cells false ((cs.drop o).take (n * i.size) ++ news)) rfl (w' := w.drew.alloc (.cells (olds' ++ news' ++ (Builtin.zeroCells z.cells (k - (n + m))).toList).toArray el)) (c' := w.heap.size) (d' := 0) (sz' := sz')
         rfl rfl rfl (by simp) (.inr ⟨rfl, by simp⟩) (fun q hq _ => jm q hq) (by rw [hlast]; exact hor) (fun _ => jm c (hR.blk b c d sz hbc))
        exact ⟨_, _, _, hr, .slice (d := 0) (o := 0) (bv.upd_same ..) (by rw [hsz']; simp) hk he, hmv.2, hmv.1⟩
       rcases hs.slice_inv he0 with ⟨c, d, sz, a, hb', rfl, rfl⟩ | ⟨c, d, sz, k, hb', hk, hn, rfl⟩
       ·refine grow (some a) 0 c d sz hb' rfl (by omega) ⟨[], by simpa using LRel.nil, by simp [Builtin.firstCells, loadCells, loadCellsFrom]⟩
       ·have he' : 0 < i.size := by omega
        obtain ⟨cc, elc, fz, hw, hsz, hd, hfz, hl⟩ := hR.cells hb' hg;have hfz := hfz rfl;subst hfz
        by_cases hroom : n + m ≤ k
        ·-- in its own block
         have hmul : n * i.size + m * i.size ≤ k * i.size := by rw [← Nat.add_mul]; exact Nat.mul_le_mul_right _ hroom
         have hst := run_storeCells_at P c (d + o + n * i.size) elc news' 0 cc w hw (by rw [hnl]; omega) hones;simp only [Nat.add_zero] at hst;have hadd : (⟨c, d + o, none⟩ : Addr).add (n * i.size) = ⟨c, d + o + n * i.size, none⟩ := Addr.add_lit _ _ _;have hr := gJ (ty := ty) ht hu hi ⟨c, d + o, none⟩ n k hrun hroom (by rw [hadd]; exact hst)
         have hor : pQ P ρ (d + o) sz (.cells false ((cs.drop o).take (n * i.size) ++ news)) (w.setRow c (cc.toList.take (d + o + n * i.size) ++ news' ++ cc.toList.drop (d + o + n * i.size + news'.length)).toArray).heap[c]? := by
          rw [setRow_heap w c cc _ elc (0, 0) hw]
          have hlo : ((cs.drop o).take (n * i.size)).length = n * i.size := by simp; omega
          refine ⟨_, elc, (0, 0), rfl, (by simp; omega), (by rw [dh, hlo, hln.1, hnl]; omega), fun _ => rfl, ?_⟩
          have hlen2 : ((cs.drop o).take (n * i.size) ++ news).length = n * i.size + m * i.size := by rw [dh, hlo, hln.1, hnl]
          rw [hlen2]
          have e : ((cc.toList.take (d + o + n * i.size) ++ news' ++ cc.toList.drop (d + o + n * i.size + news'.length)).toArray.toList.drop (d + o)).take (n * i.size + m * i.size) = ((cc.toList.drop (d + o)).take (n * i.size)) ++ news' := by
           have hccl : d + o + n * i.size ≤ cc.toList.length := by simp; omega
           have e1 : (cc.toList.take (d + o + n * i.size) ++ news' ++ cc.toList.drop (d + o + n * i.size + news'.length)).toArray.toList = cc.toList.take (d + o + n * i.size) ++ (news' ++ cc.toList.drop (d + o + n * i.size + news'.length)) := by simp
           have l1 : (cc.toList.take (d + o + n * i.size)).length = d + o + n * i.size := by rw [List.length_take]; omega
           rw [e1, List.drop_append_of_le_length (by omega), List.drop_take]
           have l2 : ((cc.toList.drop (d + o)).take (d + o + n * i.size - (d + o))).length = n * i.size := by rw [List.length_take, List.length_drop]; omega
           have l3 : d + o + n * i.size - (d + o) = n * i.size := by omega
           rw [l3] at l2 ⊢;rw [← List.append_assoc, List.take_append_of_le_length (by rw [dh, l2, hnl]; omega), List.take_of_length_le (by rw [dh, l2, hnl]; omega)]
          rw [e];refine LRel.append ?_ hln;have := (hl.drop o).take (n * i.size)
          have e2 : (((cc.toList.drop d).take cs.length).drop o).take (n * i.size) = (cc.toList.drop (d + o)).take (n * i.size) := by
           rw [List.drop_take, List.drop_drop, List.take_take]
           congr 1
           omega
          rwa [e2] at this
         have hmv := hR.move hb' hg (o' := .cells false ((cs.drop o).take (n * i.size) ++ news)) rfl (w' := w.setRow c (cc.toList.take (d + o + n * i.size) ++ news' ++ cc.toList.drop (d + o + n * i.size + news'.length)).toArray) (c' := c) (d' := d + o) (sz' := sz)
          rfl rfl rfl (by rw [size_setRow]; exact bj _) (.inl ⟨rfl, size_setRow ..⟩) (fun q _ hq => setRow_other w c q _ hq) hor (fun hne => absurd rfl hne)
         have hv2 := VRel.slice (P := P) (o := 0) (n := n + m) (e := i.size) (k := k) (bv.upd_same ρ H.size (c, d + o, sz)) (by omega) hroom he;exact ⟨_, _, _, hr, hv2, hmv.2, hmv.1⟩
        ·refine grow (some ⟨c, d + o, none⟩) k c d sz hb' rfl (by omega) ?_
         by_cases hn0 : n = 0
         ·subst hn0
          exact ⟨[], by simpa using LRel.nil, by simp [Builtin.firstCells, loadCells, loadCellsFrom]⟩
         ·have hc : dq H b = some cs := by simp [dq, hg]
          have hrow2 : kL i.size (.slice (some ⟨b, o, none⟩) n i.size) H = some (n, (cs.drop o).take (n * i.size)) := by simp [kL, hn0, hc, hfit]
          obtain ⟨a2, k2, olds', e2, hlo, _, _, hrd⟩ := TG hR hrow2 (.slice hb' hk hn he');cases e2;exact ⟨olds', hlo, hrd⟩
      ·cases h
     ·cases h
 ·cases h
end
section
variable {P : Program} {w0 : World} {B : Nat} {ρ : bv} {H : AH} {w : World}
theorem acL {α : Type} (l : List α) (n i : Nat) (h : i < n * l.length) : (List.replicate n l).flatten[i]? = l[i % l.length]? := by
 induction n generalizing i with
 | zero => simp at h
 | succ n ih =>
  rw [List.replicate_succ, List.flatten_cons, List.getElem?_append]
  by_cases hi : i < l.length
  ·rw [if_pos hi, Nat.mod_eq_of_lt hi]
  ·rw [if_neg hi, ih (i - l.length) (by rw [Nat.add_mul] at h; omega)]
   congr 1
   exact (Nat.mod_eq_sub_mod (by omega)).symm
theorem o5 (z : Array Value) (n : Nat) (hz : 0 < z.size) : ((Array.range (n * z.size)).map fun x => z[x % z.size]!).toList = (List.replicate n z.toList).flatten := by
 apply List.ext_getElem?;intro i
 by_cases hi : i < n * z.size
 ·rw [acL z.toList n i (by simpa using hi)]
  have hm : i % z.size < z.size := Nat.mod_lt _ hz;simp [hi, getElem!_pos, hm]
 ·have hl : ((List.replicate n z.toList).flatten).length = n * z.size := by simp
  rw [List.getElem?_eq_none (by simp; omega), List.getElem?_eq_none (by rw [hl]; omega)]
theorem HA (off : Nat) : ∀ (vs : List Value) (k : Nat) (cells : List Value), off + k + vs.length ≤ cells.length →
 ((vs.zipIdx k).foldl (fun (cs : Array Value) (p : Value × Nat) => cs.setIfInBounds (off + p.2) p.1) cells.toArray).toList = splice cells (off + k) vs := by
 intro vs
 induction vs with
 | nil => intro k cells _; simp [splice]
 | cons v vs ih =>
  intro k cells h;simp only [List.length_cons] at h;rw [List.zipIdx_cons, List.foldl_cons]
  have e : (cells.toArray.setIfInBounds (off + k) v) = (cells.set (off + k) v).toArray := by simp
  rw [e, ih (k + 1) _ (by simp; omega)];unfold splice;have e2 := list_seg_step cells (off + k) v vs (by omega);simp only [List.length_cons];rw [show off + (k + 1) = off + k + 1 from by omega];exact e2
theorem acJ (cells vs : List Value) (off : Nat) (h : off + vs.length ≤ cells.length) :
 (vs.toArray.zipIdx.foldl (fun (cs : Array Value) (p : Value × Nat) => cs.setIfInBounds (off + p.2) p.1) cells.toArray) = (splice cells off vs).toArray := by
 have e := HA off vs 0 cells (by omega);apply Array.ext';simp only [Nat.add_zero] at e;rw [← e, ← Array.foldl_toList, Array.toList_zipIdx]
theorem uZ (pl : Nat → Option (Nat × Nat)) : ∀ {parts : List (Nat × Value)} {parts' : List (Nat × Value)} {cells cells' out : List Value}, cI pl cells parts = some out → LRel P ρ cells cells' →
 (parts.length = parts'.length ∧ ∀ (i : Nat) p p', parts[i]? = some p → parts'[i]? = some p' → p.1 = p'.1 ∧ VRel P ρ p.2 p'.2) → ∃ out', Instr.fill pl cells'.toArray parts' = some out'.toArray ∧ LRel P ρ out out' := by
 intro parts
 induction parts with
 | nil =>
  intro parts' cells cells' out h hl hp
  cases parts' with
  | cons => simp at hp
  | nil => simp only [cI] at h; cases h; exact ⟨cells', by simp [Instr.fill], hl⟩
 | cons p parts ih =>
  intro parts' cells cells' out h hl hp
  cases parts' with
  | nil => simp at hp
  | cons p' parts' =>
   obtain ⟨i, v⟩ := p;obtain ⟨i', v'⟩ := p';obtain ⟨hi, hv⟩ := hp.2 0 (i, v) (i', v') (by simp) (by simp);simp only at hi hv;subst hi;simp only [cI] at h;have h2 := aG.1 h
   clear h
   obtain ⟨⟨off, size⟩, hpl, h⟩ := h2;simp only at h
   split at h
   ·rename_i hc
    have hvc := hv.cells
    have hsz : v'.cells.size = size := by have := hvc.1; simp at this; omega
    have hcl : cells'.length = cells.length := hl.1.symm;obtain ⟨out', ho, hr⟩ := ih h (hl.splice hvc off) ⟨by simpa using hp.1, fun j q q' hq hq' => hp.2 (j + 1) q q' (by simpa using hq) (by simpa using hq')⟩;refine ⟨out', ?_, hr⟩;simp only [Instr.fill, hpl]
    have hcond : (v'.cells.size ≠ size || off + v'.cells.size > cells'.toArray.size) = false := by
     simp [hsz]; omega
    have hf := acJ cells' v'.cells.toList off (by simp [hsz]; omega);simp only [Array.toArray_toList] at hf;rw [hf, if_neg (by simpa using hcond)];exact ho
   ·cases h
theorem rY {ev ev' : Operand → Value} (ps : Array (Nat × Operand)) (hx : ∀ x ∈ ps.toList.map (·.2), VRel P ρ (ev x) (ev' x)) :
 (ps.toList.map fun p => (p.1, ev p.2)).length = ((ps.map fun (i, x) => (i, ev' x)).toList).length ∧
 ∀ (i : Nat) p p', (ps.toList.map fun p => (p.1, ev p.2))[i]? = some p → ((ps.map fun (i, x) => (i, ev' x)).toList)[i]? = some p' → p.1 = p'.1 ∧ VRel P ρ p.2 p'.2 := by
 refine ⟨by simp, fun i p p' hp hp' => ?_⟩;simp only [tA, aN, Array.toList_map] at hp hp';obtain ⟨q, hq, rfl⟩ := hp;obtain ⟨q', hq', rfl⟩ := hp';rw [hq] at hq';cases hq';exact ⟨rfl, hx _ (List.mem_map.2 ⟨q, List.mem_of_getElem? hq, rfl⟩)⟩
theorem OJ {fs : List Field} {ps : List (Nat × Nat)} (h : iV P fs = some ps) (w : World) : (fs.mapM (m := Sem) fun f => do pure (f.offset, ← sizeOf f.type)).run P w = .ok ps w := by
 induction fs generalizing ps with
 | nil => simp [iV] at h; subst h; simp
 | cons f fs ih =>
  unfold iV at h ih;rw [List.mapM_cons] at h;simp only [Option.bind_eq_bind, aG, Option.pure_def, Option.some.injEq] at h;obtain ⟨p, hp, qs, hq, rfl⟩ := h;obtain ⟨n, hn, rfl⟩ := aN.1 hp;have hi := ih hq;rw [List.mapM_cons];simp only [Sem.run_bind, cA hn, Result.andThen_ok, Sem.run_pure, hi]
theorem KP {fs : Array Field} {ps : List (Nat × Nat)} (h : iV P fs.toList = some ps) (w : World) : (fs.mapM (m := Sem) fun f => do pure (f.offset, ← sizeOf f.type)).run P w = .ok ps.toArray w := by
 rw [Array.mapM_eq_mapM_toList];simp only [Sem.run_map, OJ h, Result.andThen_ok]
theorem Es {t : TypeId} {parts : Array (Nat × Operand)} {ev ev' : Operand → Value} (hx : ∀ x ∈ parts.toList.map (·.2), VRel P ρ (ev x) (ev' x)) {z : Value} (hz : bE P t = some z) {fs : Array Field} (hu : P.underlying t = some (.struct fs))
 {ps : List (Nat × Nat)} (hps : iV P fs.toList = some ps) {cs : List Value} (h : cI (ps[·]?) z.cells.toList (parts.toList.map fun p => (p.1, ev p.2)) = some cs) :
 ∃ v', (Instr.build t (parts.map fun (i, x) => (i, ev' x))).run P w = .ok v' w ∧ VRel P ρ (.agg cs.toArray) v' := by
 obtain ⟨i, hi, hzi, hlit, _⟩ := cD hz;obtain ⟨out', ho, hr⟩ := uZ _ h (LRel.of_all hlit) (rY parts hx);refine ⟨.agg out'.toArray, ?_, hr.toAgg⟩;have hpr := KP hps w
 have e : (fun i : Nat => ps.toArray[i]?) = (fun i : Nat => ps[i]?) := by funext i; simp
 simp only [Instr.build, Sem.run_bind, il hz, Result.andThen_ok, run_underlying hu, hpr];rw [e];simp only [Array.toArray_toList] at ho;rw [ho]
 rfl
theorem uo {t el : TypeId} {n : Nat} {parts : Array (Nat × Operand)} {ev ev' : Operand → Value} (hx : ∀ x ∈ parts.toList.map (·.2), VRel P ρ (ev x) (ev' x)) {z : Value} (hz : bE P t = some z) (hu : P.underlying t = some (.array n el))
 {e : Nat} (he : ca P el = some e) {cs : List Value} (h : cI (fun i => some (i * e, e)) z.cells.toList (parts.toList.map fun p => (p.1, ev p.2)) = some cs) :
 ∃ v', (Instr.build t (parts.map fun (i, x) => (i, ev' x))).run P w = .ok v' w ∧ VRel P ρ (.agg cs.toArray) v' := by
 obtain ⟨i, hi, hzi, hlit, _⟩ := cD hz;obtain ⟨out', ho, hr⟩ := uZ _ h (LRel.of_all hlit) (rY parts hx);refine ⟨.agg out'.toArray, ?_, hr.toAgg⟩;simp only [Instr.build, Sem.run_bind, il hz, Result.andThen_ok, run_underlying hu, cA he];simp only [Array.toArray_toList] at ho;rw [ho]
 rfl
theorem vh {z : List Value} (h : z.all cJ = true) (n : Nat) : LRel P ρ (List.replicate n z).flatten (List.replicate n z).flatten := by
 apply LRel.of_all;rw [List.all_eq_true] at h ⊢;intro x hx;rw [List.mem_flatten] at hx;obtain ⟨l, hl, hxl⟩ := hx;rw [(List.mem_replicate.1 hl).2] at hxl;exact h x hxl
theorem AP (hR : Rel P w0 B ρ H w) {t el : TypeId} {len : Nat} {parts : Array (Nat × Operand)} {ev ev' : Operand → Value} (hx : ∀ x ∈ parts.toList.map (·.2), VRel P ρ (ev x) (ev' x)) {z : Value} (hz : bE P el = some z)
 (hu : P.underlying t = some (.slice el)) {e : Nat} (he : ca P el = some e) (h0 : 0 < e) (hze : z.cells.size = e) (hbig : len * e ≤ 2 ^ 24) {cs : List Value}
 (h : cI (fun i => some (i * e, e)) (List.replicate len z.cells.toList).flatten (parts.toList.map fun p => (p.1, ev p.2)) = some cs) :
 ∃ v' w' ρ', (Instr.buildSlice t len (parts.map fun (i, x) => (i, ev' x))).run P w = .ok v' w' ∧ VRel P ρ' (.slice (some ⟨H.size, 0, none⟩) len e) v' ∧ ix ρ H w ρ' (H.push (.cells false cs)) w' ∧ Rel P w0 B ρ' (H.push (.cells false cs)) w' := by
 obtain ⟨i, hi, hzi, hlit, _⟩ := cD hz;obtain ⟨out', ho, hr⟩ := uZ _ h (vh hlit len) (rY parts hx);have hzf := o5 z.cells len (by omega);rw [hze] at hzf
 have hza : ((Array.range (len * e)).map fun x => z.cells[x % e]!) = ((List.replicate len z.cells.toList).flatten).toArray := by rw [← hzf]
 have hpush := rZ (el := el) hR hr
 have hlo : out'.length = len * e := by
  have hfl : ∀ {parts : List (Nat × Value)} {cells out : List Value}, cI (fun i => some (i * e, e)) cells parts = some out → out.length = cells.length := by
   intro parts
   induction parts with
   | nil => intro cells out h; simp [cI] at h; rw [h]
   | cons p parts ih =>
    intro cells out h;obtain ⟨i, v⟩ := p;simp only [cI, bo] at h
    split at h
    ·rename_i hc
     rw [ih h, jQ];simp; omega
    ·cases h
  rw [← hr.1, hfl h];simp [hze]
 refine ⟨_, _, _, ?_, .slice (d := 0) (o := 0) (sz := out'.length) (bv.upd_same ..) (by rw [hlo]; omega) (bj len) h0, hpush.2, hpush.1⟩
 have hnb : ¬ (len * e > 2 ^ 24) := by omega
 by_cases hl0 : len = 0
 ·subst hl0
  rw [Nat.zero_mul] at hnb;have hr0 : (Array.range 0) = (#[] : Array Nat) := rfl;have ho0 : (List.replicate 0 z.cells.toList).flatten.toArray = (#[] : Array Value) := rfl;rw [ho0] at ho;simp only [Instr.buildSlice, Sem.run_bind, run_underlying hu, Result.andThen_ok, cA he, Sem.run_ite, Nat.zero_mul, hnb, if_false, Sem.run_pure, if_true, hr0, Array.map_empty, ho, newRow, run_newObj, Nat.zero_add]
  rfl
 have hne : ¬ (len * e = 0) := by
  intro h
  rcases Nat.mul_eq_zero.1 h with h | h <;> omega
 simp only [Instr.buildSlice, Sem.run_bind, run_underlying hu, Result.andThen_ok, cA he, Sem.run_ite, hnb, if_false, Sem.run_pure, hne, il hz, hze, hza, ho, newRow, run_newObj, Nat.zero_add]
 rfl
theorem ac4 (hR : Rel P w0 B ρ H w) {t el : TypeId} {l c v : Value} {H' : AH} {z : Value} {e by' : Nat} (hz : bE P el = some z) (hu : P.underlying t = some (.slice el)) (he : ca P el = some e) (hb : eZ P el = some by')
 (h : kB z.cells.toList e by' l c H = some (v, H')) {l' c' : Value} (hl : VRel P ρ l l') (hc : VRel P ρ c c') :
 ∃ v' w' ρ', (Instr.makeSlice t l' c').run P w = .ok v' w' ∧ VRel P ρ' v v' ∧ ix ρ H w ρ' H' w' ∧ Rel P w0 B ρ' H' w' := by
 cases l <;> simp only [kB] at h <;> try (cases h; done)
 cases c <;> simp only at h <;> try (cases h; done)
 rename_i k1 l k2 c
 split at h
 ·rename_i hcond
  obtain ⟨h0, rfl, hbig, hroom, hpos, hzl⟩ := hcond;cases h;rw [hl.int_inv, hc.int_inv];obtain ⟨i, hi, hzi, hlit, _⟩ := cD hz
  have hie : i.size = e := by
   obtain ⟨i2, hi2, h2⟩ := Yr he;rw [hi] at hi2; cases hi2; exact h2
  have hib : i.bytes = by' := by
   unfold eZ at hb; simpa [hi] using hb
  unfold room at hbig hroom
  have hln : l = (l.toNat : Int) := by omega
  have hbytes : (i.bytes : Int) * l ≤ 281474976710656 := by
   rw [hib, hln, ← Int.natCast_mul]
   have : by' * l.toNat ≤ 140737488355328 := by rw [Nat.mul_comm]; exact hbig
   omega
  have hrun := run_make (P := P) w t el i z hu hi hzi k1 k2 l l h0 (Int.le_refl _) hbytes (by omega)
  have hzs : z.cells.size = e := by simpa using hzl
  have hm : madeCells z.cells (l.toNat * i.size) = ((List.replicate l.toNat z.cells.toList).flatten).toArray := by
   have hzf := o5 z.cells l.toNat (by omega);rw [hzs] at hzf;unfold madeCells;rw [hie, ← hzf, hzs]
  rw [hm] at hrun;have hpush := rZ (el := el) hR (vh (P := P) (ρ := ρ) hlit l.toNat);exact ⟨_, _, _, hrun, .slice (d := 0) (o := 0) (bv.upd_same ..) (by simp [hzs]) (bj _) hpos, hpush.2, hpush.1⟩
 ·cases h
end
section
variable {P : Program} {w0 : World} {B : Nat} {ρ : bv} {H : AH} {w : World}
def io (P : Program) (ρ : bv) (es es' : List MapEntry) : Prop := es'.length = es.length ∧ ∀ (i : Nat) (e e' : MapEntry), es[i]? = some e → es'[i]? = some e' → Ut P ρ e e'
theorem io.tail {e e' : MapEntry} {es es' : List MapEntry} (h : io P ρ (e :: es) (e' :: es')) : Ut P ρ e e' ∧ io P ρ es es' :=
 ⟨h.2 0 e e' rfl rfl, by simpa using h.1, fun i a a' ha ha' => h.2 (i + 1) a a' (by simpa using ha) (by simpa using ha')⟩
def gz (P : Program) (ρ : bv) : Option (Nat × Value) → Option (Nat × Value) → Prop
 | none, none => True
 | some (i, v), some (i', v') => i = i' ∧ VRel P ρ v v'
 | _, _ => False
theorem En {a b : ByteArray} (h : (a == b) = true) : a = b := by
 rw [beq_toListBytes] at h
 have h2 : a.toList = b.toList := by simpa using h
 rw [ByteArray.toList_eq, ByteArray.toList_eq] at h2;obtain ⟨⟨x⟩⟩ := a;obtain ⟨⟨y⟩⟩ := b;simp only at h2;rw [h2]
theorem Bc : ∀ {l m : List Value}, bq l m = some true → l = m := by
 intro l
 induction l with
 | nil => intro m hm; cases m with
  | nil => rfl
  | cons => simp [bq] at hm
 | cons x l ih =>
  intro m hm
  cases m with
  | nil => cases x <;> simp [bq] at hm
  | cons y m =>
   cases x <;> cases y <;> simp only [bq] at hm <;> try (cases hm; done)
   split at hm
   ·rename_i hk
    obtain ⟨r', hr', hb⟩ := aN.1 hm;simp only [Bool.and_eq_true, beq_iff_eq] at hb;obtain ⟨hab, rfl⟩ := hb;rw [ih hr', hk, hab]
   ·cases hm
theorem rQ {cl : KCls} {k k' : Value} (h : ir cl k = true) (hk : VRel P ρ k k') : k' = k := by
 cases cl <;> cases k <;> simp only [ir] at h <;> try (cases h; done)
 ·exact hk.int_inv
 ·exact hk.string_inv
 ·rename_i n xs
  simp only [Bool.and_eq_true, beq_iff_eq] at h;obtain ⟨ys, rfl, hs, he⟩ := hk.agg_inv
  congr 1
  apply Array.ext';apply List.ext_getElem?;intro i
  by_cases hi : i < xs.size
  ·have hi' : i < ys.size := by omega
   have h1 : qq xs[i] = true := List.all_eq_true.1 h.2 _ (by simp);have h2 := he i xs[i] ys[i] (by simp [hi]) (by simp [hi']);simp only [Array.getElem?_toList, Array.getElem?_eq_getElem hi, Array.getElem?_eq_getElem hi']
   generalize xs[i] = x at h1 h2
   cases x <;> simp [qq] at h1
   rw [h2.int_inv]
  ·rw [List.getElem?_eq_none (by simp; omega), List.getElem?_eq_none (by simp; omega)]
theorem wZ {cl : KCls} {a b b' : Value} {r : Bool} (h : j0 cl a b = some r) (hb : VRel P ρ b b') : b' = b ∧ (r = true → a = b) := by
 cases cl <;> cases a <;> cases b <;> simp only [j0] at h <;> try (cases h; done)
 ·split at h
  ·rename_i hk
   subst hk;refine ⟨hb.int_inv, fun hr => ?_⟩;subst hr
   simpa using h
  ·cases h
 ·refine ⟨hb.string_inv, fun hr => ?_⟩
  subst hr;rw [En (fi h)]
 ·rename_i xs ys
  split at h
  ·obtain ⟨ys', rfl, h3, h4⟩ := hb.agg_inv
   have hly : LRel P ρ ys.toList ys'.toList := ⟨by simpa using h3, fun i a b ha hb => h4 i a b (by simpa using ha) (by simpa using hb)⟩
   have hall : LRel P ρ xs.toList xs.toList := by
    refine LRel.of_all ?_
    have : ∀ {l m : List Value} {r : Bool}, bq l m = some r → l.all cJ = true := by
     intro l
     induction l with
     | nil => intro m r _; rfl
     | cons x l ih =>
      intro m r hm
      cases m with
      | nil => cases x <;> simp [bq] at hm
      | cons y m =>
       cases x <;> cases y <;> simp only [bq] at hm <;> try (cases hm; done)
       split at hm
       ·obtain ⟨r', hr', _⟩ := aN.1 hm
        simp only [List.all_cons, ih hr', Bool.and_true]; rfl
       ·cases hm
    exact this h
   obtain ⟨_, e2⟩ := yp h hall hly;have e2 := Array.toList_inj.1 e2;subst e2;refine ⟨rfl, fun hr => ?_⟩;subst hr;rw [Array.toList_inj.1 (Bc h)]
  ·cases h
theorem acK {kk : IntKind} {k : Value} : ∀ {es es' : List MapEntry} {i : Nat} {r : Option (Nat × Value)}, aV .int k es i = some r → io P ρ es es' →
 ∃ r', Instr.findNow (.int kk) k es' i = some r' ∧ gz P ρ r r' := by
 intro es
 induction es with
 | nil =>
  intro es' i r h hes
  cases es' with
  | cons => have := hes.1; simp at this
  | nil => simp [aV] at h; subst h; exact ⟨none, rfl, trivial⟩
 | cons e es ih =>
  intro es' i r h hes
  cases es' with
  | nil => have := hes.1; simp at this
  | cons e' es' =>
   obtain ⟨he, hes⟩ := hes.tail;simp only [aV] at h;have h2 := aG.1 h
   clear h
   obtain ⟨b, hb, h⟩ := h2;have hk := (wZ hb he.1).1
   cases hek : e.key <;> rw [hek] at hb <;> cases k <;> simp only [j0] at hb <;> try (cases hb; done)
   rename_i k' y k a
   rw [hek] at hk
   split at hb
   ·rename_i hkk
    subst hkk;cases hb;simp only [Instr.findNow, hk, Instr.sameNow, if_true];cases hay : (a == y)
    ·rw [hay] at h; simp only [Bool.false_eq_true, if_false] at h; exact ih h hes
    ·rw [hay] at h; simp only [if_true] at h; cases h; exact ⟨_, rfl, rfl, he.2.1⟩
   ·cases hb
theorem Kg {k : Value} : ∀ {es es' : List MapEntry} {i : Nat} {r : Option (Nat × Value)}, aV .string k es i = some r → io P ρ es es' →
 ∃ r', Instr.findNow .string k es' i = some r' ∧ gz P ρ r r' := by
 intro es
 induction es with
 | nil =>
  intro es' i r h hes
  cases es' with
  | cons => have := hes.1; simp at this
  | nil => simp [aV] at h; subst h; exact ⟨none, rfl, trivial⟩
 | cons e es ih =>
  intro es' i r h hes
  cases es' with
  | nil => have := hes.1; simp at this
  | cons e' es' =>
   obtain ⟨he, hes⟩ := hes.tail;simp only [aV] at h;have h2 := aG.1 h
   clear h
   obtain ⟨b, hb, h⟩ := h2;have hk := (wZ hb he.1).1
   cases hek : e.key <;> rw [hek] at hb <;> cases k <;> simp only [j0] at hb <;> try (cases hb; done)
   rename_i y a
   rw [hek] at hk;cases hb;simp only [Instr.findNow, hk, Instr.sameNow];cases hay : (a == y)
   ·rw [hay] at h; simp only [Bool.false_eq_true, if_false] at h; exact ih h hes
   ·rw [hay] at h; simp only [if_true] at h; cases h; exact ⟨_, rfl, rfl, he.2.1⟩
theorem WA {kt : TypeId} {n : Nat} (hf : tm P kt = some n) {X : Array Value} : ∀ {es es' : List MapEntry} {i : Nat} {r : Option (Nat × Value)}, aV (.flat n) (.agg X) es i = some r →
 io P ρ es es' → ∃ r', (Instr.findAsking kt (.agg X) es' i).run P w = .ok r' w ∧ gz P ρ r r' := by
 intro es
 induction es with
 | nil =>
  intro es' i r h hes
  cases es' with
  | cons => have := hes.1; simp at this
  | nil => simp [aV] at h; subst h; exact ⟨none, rfl, trivial⟩
 | cons e es ih =>
  intro es' i r h hes
  cases es' with
  | nil => have := hes.1; simp at this
  | cons e' es' =>
   obtain ⟨he, hes⟩ := hes.tail;simp only [aV] at h;have h2 := aG.1 h
   clear h
   obtain ⟨b, hb, h⟩ := h2;have hk := (wZ hb he.1).1
   cases hek : e.key <;> rw [hek] at hb <;> simp only [j0] at hb <;> try (cases hb; done)
   rename_i Y
   rw [hek] at hk
   split at hb
   ·rename_i hsz
    have hq : (Op.equal kt (.agg X) (.agg Y)).run P w = .ok b w := (EV hf hsz.1 hsz.2 hb w).1;simp only [Instr.findAsking, hk, Sem.run_bind, hq, Result.andThen_ok]
    cases b with
    | true => simp only [if_true] at h; cases h; exact ⟨some (i, e'.val), by simp, rfl, he.2.1⟩
    | false => simp only [Bool.false_eq_true, if_false] at h; simpa using ih h hes
   ·cases hb
theorem Cb {fs : Array Field} {X : Array Value} {es : List MapEntry} : Instr.findNow (.struct fs) (.agg X) es 0 = none ∨ (es = [] ∧ Instr.findNow (.struct fs) (.agg X) es 0 = some none) := by
 cases es with
 | nil => exact .inr ⟨rfl, rfl⟩
 | cons e es => left; simp [Instr.findNow, Instr.sameNow]
theorem Cc {kt : TypeId} {cl : KCls} (hcl : cp P kt = some cl) {k : Value} (hok : ir cl k = true) {es es' : List MapEntry} {r : Option (Nat × Value)} (h : aV cl k es 0 = some r) (hes : io P ρ es es') :
 ∃ r', (Instr.findKey kt k es').run P w = .ok r' w ∧ gz P ρ r r' := by
 unfold cp at hcl
 cases hu : P.underlying kt with
 | none => simp [hu] at hcl
 | some d =>
  cases d <;> simp only [hu] at hcl <;> try (cases hcl; done)
  case int kk =>
   cases hcl;obtain ⟨r', h1, h2⟩ := acK (kk := kk) h hes;exact ⟨r', by simp [Instr.findKey, run_underlying hu, h1], h2⟩
  case string =>
   cases hcl;obtain ⟨r', h1, h2⟩ := Kg h hes;exact ⟨r', by simp [Instr.findKey, run_underlying hu, h1], h2⟩
  case struct fs =>
   obtain ⟨n, hf, rfl⟩ := aN.1 hcl
   cases k <;> simp only [ir] at hok <;> try (cases hok; done)
   rename_i X
   obtain ⟨r', h1, h2⟩ := WA (w := w) hf h hes;refine ⟨r', ?_, h2⟩
   rcases Cb (fs := fs) (X := X) (es := es') with h3 | ⟨rfl, h3⟩
   ·simp [Instr.findKey, run_underlying hu, h3, h1]
   ·simp only [Instr.findKey, Sem.run_bind, run_underlying hu, Result.andThen_ok, h3]
    simpa [Instr.findAsking] using h1
theorem Zi (b : Bool) (d : Nat) {t : TypeId} {k : IntKind} (hu : P.underlying t = some (.int k)) (v : Value) (w : World) : (Instr.checkKey b (d + 1) t v).run P w = .ok () w := by
 cases v <;> simp [Instr.checkKey, run_underlying hu]
theorem UO (b : Bool) (d : Nat) {t : TypeId} (hu : P.underlying t = some .string) (v : Value) (w : World) : (Instr.checkKey b (d + 1) t v).run P w = .ok () w := by
 cases v <;> simp [Instr.checkKey, run_underlying hu]
def pU (b : Bool) (D : Nat) (X : Array Value) (l : List Field) : Sem Unit := do
 for f in l do
  if f.name ≠ "_" then Instr.checkKey b D f.type (← part f.type X f.offset)
theorem QD (b : Bool) (D : Nat) {t : TypeId} {gs : Array Field} (hu : P.underlying t = some (.struct gs)) (X : Array Value) (w : World) : (Instr.checkKey b (D + 1) t (.agg X)).run P w = (pU b D X gs.toList).run P w := by
 rw [Instr.checkKey];simp only [Sem.run_bind, run_underlying hu, Result.andThen_ok];rw [← Array.forIn_toList];unfold pU;simp only [Sem.run_bind]
theorem yr (b : Bool) {sub : List Field → Option Nat} {D : Nat} {w : World} (hsub : ∀ (gs : List Field) (k : Nat) (X : Array Value), sub gs = some k → X.size = k → (pU b D X gs).run P w = .ok () w) (X : Array Value) :
 ∀ {l : List Field} {i m : Nat}, e8 P sub i l = some m → X.size = m → (pU b (D + 1) X l).run P w = .ok () w := by
 intro l
 induction l with
 | nil => intro i m _ _; simp [pU]
 | cons f l ih =>
  intro i m hm hXm;simp only [e8] at hm
  split at hm
  ·rename_i hc
   split at hm
   ·rename_i k hk
    have hge := mm hm
    have hi : X[i]? = some X[i] := by simp
    have hag : (isAgg f.type).run P w = .ok false w := by simp [isAgg, run_underlying hk]
    have hpart : (part f.type X f.offset).run P w = .ok X[i] w := by simp [part, hag, hc.2, hi]
    have ih' := ih hm hXm;unfold pU at ih' ⊢;simp only [Sem.run_bind] at ih';simp only [List.forIn_cons, hc.1, ne_eq, not_false_eq_true, if_true, Sem.run_bind, hpart, Result.andThen_ok, Zi b D hk, Sem.run_pure];exact ih'
   ·rename_i gs hk
    split at hm
    ·rename_i k hs
     split at hm
     ·rename_i hcc
      have hge := mm hm
      have hag : (isAgg f.type).run P w = .ok true w := by simp [isAgg, run_underlying hk]
      have hsz := cA hcc.1 w
      have hpart : (part f.type X f.offset).run P w = .ok (.agg (X.extract i (i + k))) w := by simp [part, hag, hc.2, hsz]
      have hsub' := hsub gs.toList k (X.extract i (i + k)) hs (by rw [Array.size_extract]; omega);rw [← QD b D hk] at hsub';have ih' := ih hm hXm;unfold pU at ih' ⊢;simp only [Sem.run_bind] at ih';simp only [List.forIn_cons, hc.1, ne_eq, not_false_eq_true, if_true, Sem.run_bind, hpart, Result.andThen_ok, hsub', Sem.run_pure];exact ih'
     ·cases hm
    ·cases hm
   ·cases hm
  ·cases hm
theorem ahM (b : Bool) (w : World) : ∀ (e d : Nat) (X : Array Value) {l : List Field} {i m : Nat}, oI P e i l = some m → X.size = m → (pU b (d + e + 1) X l).run P w = .ok () w := by
 intro e
 induction e with
 | zero => intro d X l i m h hX; exact yr b (D := d) (fun gs k X h => by cases h) X h hX
 | succ e ih => intro d X l i m h hX; exact yr b (D := d + e + 1) (fun gs k X h hX => ih d X h hX) X h hX
theorem ry {kt : TypeId} {cl : KCls} (hcl : cp P kt = some cl) {k : Value} (hok : ir cl k = true) (b : Bool) (w : World) : (Instr.checkKey b 10000 kt k).run P w = .ok () w := by
 unfold cp at hcl
 cases hu : P.underlying kt with
 | none => simp [hu] at hcl
 | some d =>
  cases d <;> simp only [hu] at hcl <;> try (cases hcl; done)
  case int kk => exact Zi b 9999 hu k w
  case string => exact UO b 9999 hu k w
  case struct fs =>
   obtain ⟨n, hf, rfl⟩ := aN.1 hcl
   cases k <;> simp only [ir] at hok <;> try (cases hok; done)
   rename_i X
   simp only [Bool.and_eq_true, beq_iff_eq] at hok;unfold tm at hf;simp only [hu] at hf
   split at hf
   ·rw [show (10000 : Nat) = 9999 + 1 from rfl, QD b 9999 hu]
    exact ahM b w 2 9996 X hf hok.1
   ·cases hf
end
section
variable {P : Program} {w0 : World} {B : Nat} {ρ : bv} {H : AH} {w : World}
theorem ei {r : Nat} {es : Array MapEntry} {c : Nat} (h : w.heap[r]? = some (.map es c)) : (getObj r).run P w = .ok (.map es c) w := by
 simp [getObj, Sem.run, h]
theorem iZ {r : Nat} {es es2 : Array MapEntry} {c c2 : Nat} (h : w.heap[r]? = some (.map es c)) : (setObj r (.map es2 c2)).run P w = .ok () { w with heap := w.heap.setIfInBounds r (.map es2 c2) } := by
 simp [setObj, Sem.run, h]
theorem Rel.map (hR : Rel P w0 B ρ H w) {b c d sz : Nat} {es : List MapEntry} {cl : Nat} (hb : ρ b = some (c, d, sz)) (ho : H.get b = some (.map es cl)) :
 ∃ es' : Array MapEntry, w.heap[c]? = some (.map es' cl) ∧ io P ρ es es'.toList := by
 obtain ⟨es', h1, h2, h3⟩ := hR.obj b c d sz _ hb ho;exact ⟨es', h1, by simpa using h2, fun i e e' he he' => h3 i e e' he (by simpa using he')⟩
theorem mP {t k e : TypeId} (h : b8 P t = some (k, e)) : P.underlying t = some (.map k e) := by
 unfold b8 at h
 cases hu : P.underlying t with
 | none => simp [hu] at h
 | some d => cases d <;> simp [hu] at h; obtain ⟨rfl, rfl⟩ := h; rfl
theorem WT (hR : Rel P w0 B ρ H w) {m m' : Value} {es : List MapEntry} {c : Nat} (h : jD m H = some (es, c)) (hm : VRel P ρ m m') :
 (m' = .map none ∧ es = []) ∨ ∃ r es', m' = .map (some r) ∧ w.heap[r]? = some (.map es' c) ∧ io P ρ es es'.toList := by
 cases m <;> simp only [jD] at h <;> try (cases h; done)
 rename_i r
 cases r with
 | none => simp only at h; cases h; exact .inl ⟨hm.nilmap_inv, rfl⟩
 | some b =>
  simp only at h
  split at h
  ·rename_i es1 c1 hg
   cases h;obtain ⟨c', d, sz, hb, rfl⟩ := hm.map_inv;obtain ⟨es', h1, h2⟩ := hR.map hb hg;exact .inr ⟨c', es', rfl, h1, h2⟩
  ·cases h
theorem FX {t : TypeId} {z : Value} (h : bE P t = some z) : VRel P ρ z z := by
 obtain ⟨_, _, _, _, hc⟩ := cD h;exact VRel.const hc
theorem KO {v v' : Value} (h : VRel P ρ v v') (b : Bool) : VRel P ρ (.tuple #[v, .bool b]) (.tuple #[v', .bool b]) :=
 LRel.toTuple (xs := [v, .bool b]) (ys := [v', .bool b]) (LRel.cons h (LRel.cons (.lit rfl) LRel.nil))
theorem Cq (hR : Rel P w0 B ρ H w) {t kt et : TypeId} (ht : b8 P t = some (kt, et)) {cl : KCls} (hcl : cp P kt = some cl) {z : Value} (hz : bE P et = some z) {m m' k k' v : Value} {ok : Bool}
 (h : cu cl z m k ok H = some v) (hm : VRel P ρ m m') (hk : VRel P ρ k k') : ∃ v', (Instr.lookup t m' k' ok).run P w = .ok v' w ∧ VRel P ρ v v' := by
 unfold cu at h
 split at h
 ·rename_i hok
  have h2 := aG.1 h
  clear h
  obtain ⟨⟨es, c⟩, hes, h⟩ := h2;obtain ⟨r, hr, h⟩ := aN.1 h;simp only at hr;rw [rQ hok hk];have hu := mP ht
  have fin : ∀ (es' : List MapEntry) (emp : Bool), io P ρ es es' → ∃ v', (do
   Instr.checkKey emp 10000 kt k
   let (v, ok2) ← match ← Instr.findKey kt k es' with
    | some (_, v) => pure (v, true)
    | none => pure (← zeroValue et, false)
   pure (if ok then .tuple #[v, .bool ok2] else v) : Sem Value).run P w = .ok v' w ∧ VRel P ρ v v' := by
   intro es' emp hrel;obtain ⟨r', h1, h2⟩ := Cc (w := w) hcl hok hr hrel;simp only [Sem.run_bind, ry hcl hok, Result.andThen_ok, h1]
   cases r with
   | none =>
    cases r' with
    | some x => obtain ⟨i, x⟩ := x; simp [gz] at h2
    | none =>
     subst h;simp only [Sem.run_bind, il hz, Result.andThen_ok, Sem.run_pure];cases ok
     ·exact ⟨_, rfl, FX hz⟩
     ·exact ⟨_, rfl, KO (FX hz) false⟩
   | some x =>
    obtain ⟨i, x⟩ := x
    cases r' with
    | none => simp [gz] at h2
    | some y =>
     obtain ⟨i', y⟩ := y;subst h;simp only [Sem.run_pure, Result.andThen_ok];cases ok
     ·exact ⟨_, rfl, h2.2⟩
     ·exact ⟨_, rfl, KO h2.2 true⟩
  rcases WT hR hes hm with ⟨rfl, rfl⟩ | ⟨r1, es', rfl, hw, hrel⟩
  ·obtain ⟨v', h1, h2⟩ := fin [] true ⟨rfl, fun _ _ _ h => by simp at h⟩
   refine ⟨v', ?_, h2⟩;simp only [Instr.lookup, Sem.run_bind, run_underlying hu, Result.andThen_ok, Sem.run_pure] at h1 ⊢;exact h1
  ·obtain ⟨v', h1, h2⟩ := fin es'.toList es'.isEmpty hrel
   refine ⟨v', ?_, h2⟩;simp only [Instr.lookup, Sem.run_bind, run_underlying hu, Result.andThen_ok, ei hw, Sem.run_pure] at h1 ⊢;exact h1
 ·cases h
theorem EW {cl : KCls} {k : Value} : ∀ {es : List MapEntry} {j i : Nat} {v : Value}, aV cl k es j = some (some (i, v)) → j ≤ i ∧ ∃ e, es[i - j]? = some e ∧ e.key = k := by
 intro es
 induction es with
 | nil => intro j i v h; simp [aV] at h
 | cons e es ih =>
  intro j i v h;simp only [aV] at h;have h2 := aG.1 h
  clear h
  obtain ⟨b, hb, h⟩ := h2
  cases b with
  | true =>
   simp only [if_true] at h;cases h
   have he : k = e.key := by
    have hlit : VRel (default : Program) (fun _ => none) e.key e.key ∨ True := .inr trivial
    cases cl <;> cases hk : k <;> cases hek : e.key <;> rw [hk, hek] at hb <;> simp only [j0] at hb <;> try (cases hb; done)
    ·split at hb
     ·rename_i hkk
      subst hkk;have := fi hb;simp at this;rw [this]
     ·cases hb
    ·rw [En (fi hb)]
    ·split at hb
     ·rw [Array.toList_inj.1 (Bc hb)]
     ·cases hb
   exact ⟨bj _, e, by simp, he.symm⟩
  | false =>
   simp only [Bool.false_eq_true, if_false] at h;obtain ⟨h1, e1, h2, h3⟩ := ih h;refine ⟨by omega, e1, ?_, h3⟩
   have : i - j = (i - (j + 1)) + 1 := by omega
   rw [this]
   simpa using h2
theorem D9 {cl : KCls} {k : Value} (hok : ir cl k = true) : Instr.sameBits 10000 k k = true := by
 cases cl <;> cases k <;> simp only [ir] at hok <;> try (cases hok; done)
 ·simp [Instr.sameBits]
 ·simp [Instr.sameBits, beq_toListBytes]
 ·rename_i n xs
  simp only [Bool.and_eq_true, beq_iff_eq] at hok
  have key : ∀ (d : Nat) (l : List Value), l.all qq = true → (l.zip l).all (fun (x, y) => Instr.sameBits d x y) = true := by
   intro d l
   induction l with
   | nil => intro _; rfl
   | cons x l ih =>
    intro h;simp only [List.all_cons, Bool.and_eq_true] at h;simp only [List.zip_cons_cons, List.all_cons, ih h.2, Bool.and_true]
    cases x <;> simp [qq] at h
    cases d <;> simp [Instr.sameBits]
  have : Instr.sameBits (9999 + 1) (.agg xs) (.agg xs) = true := by
   rw [Instr.sameBits];simp [key 9999 xs.toList hok.2]
  exact this
theorem IN (hR : Rel P w0 B ρ H w) {b c d sz : Nat} {es es2 : List MapEntry} {cl cl2 : Nat} (hb : ρ b = some (c, d, sz)) (ho : H.get b = some (.map es cl)) {es2' : Array MapEntry} (hrel : io P ρ es2 es2'.toList) :
 Rel P w0 B ρ (H.set b (.map es2 cl2)) { w with heap := w.heap.setIfInBounds c (.map es2' cl2) } ∧ ix ρ H w ρ (H.set b (.map es2 cl2)) { w with heap := w.heap.setIfInBounds c (.map es2' cl2) } := by
 have hc := hR.blk b c d sz hb;refine hR.setBlock (o' := .map es2 cl2) hb ho rfl rfl rfl rfl rfl (by simp) (fun k hk => ?_) ?_
 ·simp only [Array.getElem?_setIfInBounds]
  rw [if_neg (by omega)]
 ·refine ⟨es2', ?_, by simpa using hrel.1, fun i e e' he he' => hrel.2 i e e' he (by simpa using he')⟩
  simp [hc]
theorem io.push {es es' : List MapEntry} (h : io P ρ es es') {e e' : MapEntry} (he : Ut P ρ e e') : io P ρ (es ++ [e]) (es' ++ [e']) := by
 refine ⟨by simp [h.1], fun i a a' ha ha' => ?_⟩;rw [List.getElem?_append] at ha ha'
 by_cases hi : i < es.length
 ·rw [if_pos hi] at ha; rw [if_pos (by rw [h.1]; exact hi)] at ha'; exact h.2 i a a' ha ha'
 ·rw [if_neg hi] at ha; rw [if_neg (by rw [h.1]; exact hi), h.1] at ha'
  have e0 : i - es.length = 0 := by
   have := (qw.1 ha).1;simp at this; omega
  rw [e0] at ha ha';cases ha; cases ha';exact he
theorem io.modify {es es' : List MapEntry} (h : io P ρ es es') (i : Nat) {f f' : MapEntry → MapEntry} (hf : ∀ e e', Ut P ρ e e' → Ut P ρ (f e) (f' e')) : io P ρ (es.modify i f) (es'.modify i f') := by
 refine ⟨by simp [h.1], fun j a a' ha ha' => ?_⟩;rw [List.getElem?_modify] at ha ha';obtain ⟨e, he, rfl⟩ := aN.1 ha;obtain ⟨e', he', rfl⟩ := aN.1 ha';have := h.2 j e e' he he'
 split
 ·exact hf _ _ this
 ·exact this
theorem io.erase {es es' : List MapEntry} (h : io P ρ es es') (i : Nat) : io P ρ (es.eraseIdx i) (es'.eraseIdx i) := by
 refine ⟨by simp [List.length_eraseIdx, h.1], fun j a a' ha ha' => ?_⟩;rw [List.getElem?_eraseIdx] at ha ha'
 split at ha <;> rename_i hj
 ·rw [if_pos hj] at ha'; exact h.2 j a a' ha ha'
 ·rw [if_neg hj] at ha'; exact h.2 _ a a' ha ha'
theorem PY (hR : Rel P w0 B ρ H w) {t kt et : TypeId} (ht : b8 P t = some (kt, et)) {cl : KCls} (hcl : cp P kt = some cl) {m m' k k' x x' : Value} {H' : AH}
 (h : dG cl m k x H = some H') (hm : VRel P ρ m m') (hk : VRel P ρ k k') (hx : VRel P ρ x x') : ∃ w', (Instr.mapUpdate t m' k' x').run P w = .ok () w' ∧ ix ρ H w ρ H' w' ∧ Rel P w0 B ρ H' w' := by
 unfold dG at h
 split at h
 ·rename_i hok
  have hkk := rQ hok hk;subst hkk;have hu := mP ht
  cases m <;> try (cases h; done)
  rename_i r0
  cases r0 with
  | none => simp at h
  | some b =>
  simp only at h
  split at h
  ·rename_i es c hg
   obtain ⟨r, hr, h⟩ := aN.1 h;obtain ⟨cb, d, sz, hb, rfl⟩ := hm.map_inv;obtain ⟨es', hw, hrel⟩ := hR.map hb hg;obtain ⟨r', h1, h2⟩ := Cc (w := w) hcl hok hr hrel;simp only [Instr.mapUpdate, Sem.run_bind, run_underlying hu, Result.andThen_ok, ei hw, ry hcl hok, h1]
   cases r with
   | none =>
    cases r' with
    | some x => obtain ⟨i, x⟩ := x; simp [gz] at h2
    | none =>
     subst h;have hs := IN (cl2 := c + 1) hR hb hg (es2 := es ++ [{ key := k', val := x, born := c }]) (es2' := es'.push { key := k', val := x', born := c }) (by simpa using hrel.push (e := { key := k', val := x, born := c }) (e' := { key := k', val := x', born := c }) ⟨hk, hx, rfl⟩);exact ⟨_, iZ hw, hs.2, hs.1⟩
   | some y =>
    obtain ⟨i, y⟩ := y
    cases r' with
    | none => simp [gz] at h2
    | some y' =>
     obtain ⟨i', y'⟩ := y';obtain ⟨rfl, hy⟩ := h2;subst h;obtain ⟨_, e, he, hek⟩ := EW hr;simp only [Nat.sub_zero] at he;have hi : i < es.length := (qw.1 he).1
     have hi' : i < es'.toList.length := by rw [hrel.1]; exact hi
     have hrele := hrel.2 i e es'.toList[i] he (br hi')
     have jm : (((es'[i]?).map (·.key)).getD k') = k' := by
      have hkey := hrele.1;rw [hek] at hkey;have := rQ hok hkey
      have hi2 : i < es'.size := by simpa using hi'
      simp only [Array.getElem_toList] at this;simp [hi2, this]
     have hstay : (Instr.keyThatStays (((es'[i]?).map (·.key)).getD k') k').run P w = .ok k' w := by
      rw [jm];simp [Instr.keyThatStays, D9 hok]
     simp only [Sem.run_bind, hstay, Result.andThen_ok]
     have hs := IN (cl2 := c) hR hb hg (es2 := es.modify i fun e => { e with key := k', val := x }) (es2' := es'.modify i fun e => { e with key := k', val := x' }) (by
      have := hrel.modify i (f := fun e => { e with key := k', val := x }) (f' := fun e => { e with key := k', val := x' }) (fun e e' h => ⟨hk, hx, h.2.2⟩)
      simpa [Array.toList_modify] using this)
     exact ⟨_, iZ hw, hs.2, hs.1⟩
  ·cases h
 ·cases h
theorem Mw (hR : Rel P w0 B ρ H w) {t ty kt et : TypeId} (ht : b8 P t = some (kt, et)) {cl : KCls} (hcl : cp P kt = some cl) {m m' k k' : Value} {H' : AH} {ts : Array TypeId} (hts : ts[0]? = some t)
 (h : mw cl m k H = some H') (hm : VRel P ρ m m') (hk : VRel P ρ k k') : ∃ w', (Builtin.delete_ ts ty #[m', k']).run P w = .ok (.tuple #[]) w' ∧ ix ρ H w ρ H' w' ∧ Rel P w0 B ρ H' w' := by
 unfold mw at h
 split at h
 ·rename_i hok
  have hkk := rQ hok hk;subst hkk;have hu := mP ht
  cases m <;> try (cases h; done)
  rename_i r0
  cases r0 with
  | none => simp at h
  | some b =>
  simp only at h
  split at h
  ·rename_i es c hg
   obtain ⟨r, hr, h⟩ := aN.1 h;obtain ⟨cb, d, sz, hb, rfl⟩ := hm.map_inv;obtain ⟨es', hw, hrel⟩ := hR.map hb hg;obtain ⟨r', h1, h2⟩ := Cc (w := w) hcl hok hr hrel
   have pre : ∀ {w' : World}, (match r' with
    | some (i, _) => setObj cb (.map (es'.eraseIdxIfInBounds i) c)
    | none => setObj cb (.map es' c) : Sem Unit).run P w = .ok () w' → (Builtin.delete_ ts ty #[.map (some cb), k']).run P w = .ok (.tuple #[]) w' := by
    intro w' hrun
    cases r' with
    | none => simp [Builtin.delete_, hts, run_underlying hu, ei hw, ry hcl hok, h1, hrun]
    | some x => obtain ⟨i, x⟩ := x; simp [Builtin.delete_, hts, run_underlying hu, ei hw, ry hcl hok, h1, hrun]
   cases r with
   | none =>
    cases r' with
    | some x => obtain ⟨i, x⟩ := x; simp [gz] at h2
    | none =>
     subst h;have hs := IN (cl2 := c) hR hb hg (es2 := es) (es2' := es') hrel;exact ⟨_, pre (iZ hw), hs.2, hs.1⟩
   | some y =>
    obtain ⟨i, y⟩ := y
    cases r' with
    | none => simp [gz] at h2
    | some y' =>
     obtain ⟨i', y'⟩ := y';obtain ⟨rfl, hy⟩ := h2;subst h
     have hs := IN (cl2 := c) hR hb hg (es2 := es.eraseIdx i) (es2' := es'.eraseIdxIfInBounds i) (by
      have hi : i < es'.size := by
       obtain ⟨_, e, he, _⟩ := EW hr;have := (qw.1 he).1;have := hrel.1;simp at this; omega
      have := hrel.erase i
      simpa [Array.eraseIdxIfInBounds, hi] using this)
     exact ⟨_, pre (iZ hw), hs.2, hs.1⟩
  ·cases h
 ·cases h
end
def L5 (G : List Nat) : Operand → Bool
 | .const v => wG v
 | .global g => G.contains g
 | _ => true
def eF (A : List Value) : Operand → Value
 | .tmp t => A[t]?.getD undef
 | .const v => v
 | .global g => .pointer (some ⟨g, 0, none⟩)
 | .func f => .func (.func f) #[] #[]
def GlobRel (ρ : bv) (G : List Nat) : Prop := ∀ g ∈ G, ∃ sz, ρ g = some (g, 0, sz)
theorem GlobRel.mono {ρ ρ' : bv} {G : List Nat} (hle : ∀ b x, ρ b = some x → ρ' b = some x) (h : GlobRel ρ G) : GlobRel ρ' G :=
 fun g hg => let ⟨sz, hs⟩ := h g hg; ⟨sz, hle _ _ hs⟩
structure bU (P : Program) (ρ : bv) (A : List Value) (a : Act) : Prop where
 tmps : LRel P ρ A a.tmps.toList
 defers : a.defers = []
section
variable {P : Program} {w0 : World} {B : Nat} {ρ : bv} {H : AH} {w : World} {G : List Nat}
theorem bU.mono {ρ' : bv} {A : List Value} {a : Act} (hle : ∀ b x, ρ b = some x → ρ' b = some x) (h : bU P ρ A a) : bU P ρ' A a := ⟨h.tmps.mono hle, h.defers⟩
theorem wJ {A : List Value} {a : Act} (hA : bU P ρ A a) (hG : GlobRel ρ G) {x : Operand} (hx : L5 G x = true) : VRel P ρ (eF A x) (a.eval x) := by
 cases x with
 | tmp t =>
  simp only [eF, Act.eval]
  cases hA1 : A[t]? with
  | none =>
   have h1 : A.length ≤ t := by rwa [List.getElem?_eq_none_iff] at hA1
   have h2 : a.tmps.size ≤ t := by have := hA.tmps.1; simp at this; omega
   have : a.tmps.getD t undef = undef := by simp [Array.getD, Nat.not_lt.2 h2]
   rw [this];exact VRel.undef
  | some v =>
   obtain ⟨y, hy, hv⟩ := hA.tmps.get hA1
   have : a.tmps.getD t undef = y := by
    rw [Array.getElem?_toList] at hy;rw [Array.getD_eq_getD_getElem?, hy]
    rfl
   rw [this];exact hv
 | const v => exact VRel.const hx
 | global g =>
  simp only [L5, List.contains_iff_mem] at hx;obtain ⟨sz, hs⟩ := hG g hx;exact .ptr (d := 0) (o := 0) hs
 | func f => exact .func rfl (fun _ _ _ h => by simp at h) rfl (fun _ _ _ h => by simp at h)
theorem bU.put {A : List Value} {a : Act} (hA : bU P ρ A a) (d : Option Tmp) {v v' : Value} (hv : VRel P ρ v v') :
 bU P ρ (match d with | some d => A.set d v | none => A) (a.put d v') := by
 cases d with
 | none => exact hA
 | some d => exact ⟨by simpa [Act.put] using hA.tmps.set d hv, hA.defers⟩
def lq (P : Program) (G : List Nat) (call : bg) : Prop :=
 ∀ f args H v H', call f args H = some (v, H') → (∃ fn, P.funcs[f]? = some fn ∧ fn.body.isSome = true ∧ fn.name ≠ "runtime.NumGoroutine") ∧
  ∀ w0 B ρ w args', Rel P w0 B ρ H w → GlobRel ρ G → LRel P ρ args args' →
   Calls P f args'.toArray w fun e w' => ∃ v' ρ', e = .returned v' ∧ VRel P ρ' v v' ∧ ix ρ H w ρ' H' w' ∧ Rel P w0 B ρ' H' w'
theorem z7 {ev ev' : Operand → Value} {xs : Array Operand} (h : ∀ x ∈ xs.toList, VRel P ρ (ev x) (ev' x)) : LRel P ρ (xs.toList.map ev) (xs.map ev').toList := by
 refine ⟨by simp, fun i a b ha hb => ?_⟩;simp only [tA, aN, Array.toList_map] at ha hb;obtain ⟨x, hx, rfl⟩ := ha;obtain ⟨y, hy, rfl⟩ := hb;rw [hx] at hy;cases hy;exact h x (List.mem_of_getElem? hx)
def Ok (v : Value) : Sem Next :=
 match v with
 | .pointer none | .nilIface | .nilFunc => runtimePanic .nilDeref
 | .func (.method name) first captured =>
  match (first[0]? : Option Value) with
  | some .nilIface => runtimePanic .nilDeref
  | some (.iface t w) => do
   if (← nilAhead ((← program).types.size + Made.depth) t w name) != some false then
    unsupported (.noEntry "op/nilCheck.the method's receiver behind this interface value is a nil pointer, or cannot be seen to be none, and the arguments act or may panic (ledger 612)")
   pure (.value (.func (.method name) first captured))
  | _ => pure (.value (.func (.method name) first captured))
 | x => pure (.value x)
theorem KL {v v' x : Value} (h : tO v = some x) (hv : VRel P ρ v v') : x = v ∧ Ok v' = pure (.value v') := by
 cases hv with
 | lit hl =>
  cases v with
  | pointer a => cases a <;> simp [tO] at h <;> simp [cJ] at hl
  | func fn f c => simp [cJ] at hl
  | slice a n k => cases h; exact ⟨rfl, rfl⟩
  | map a => cases h; exact ⟨rfl, rfl⟩
  | chan a => cases h; exact ⟨rfl, rfl⟩
  | _ => first | (simp [tO] at h; done) | (cases h; exact ⟨rfl, rfl⟩) | (simp [cJ] at hl)
 | func hf h1 hc h2 =>
  rename_i fn f f' c c'
  cases fn <;> first | (cases h; exact ⟨rfl, rfl⟩) | (simp [tO] at h)
 | ptr _ => cases h; exact ⟨rfl, rfl⟩
 | slice _ _ _ _ => cases h; exact ⟨rfl, rfl⟩
 | slice0 _ => cases h; exact ⟨rfl, rfl⟩
 | empty => cases h; exact ⟨rfl, rfl⟩
 | map _ => cases h; exact ⟨rfl, rfl⟩
 | iface _ => cases h; exact ⟨rfl, rfl⟩
 | agg _ _ => cases h; exact ⟨rfl, rfl⟩
 | tuple _ _ => cases h; exact ⟨rfl, rfl⟩
theorem SC {n off : Nat} {t : TypeId} {f : Field} {fs : Array Field} {v v' x : Value} {i : Nat} (hu : P.underlying t = some (.struct fs)) (hf : fs[i]? = some f) (hn : ca P f.type = some n) (h0 : n ≠ 0) (hoff : f.offset = off)
 (h : D6 off v = some x) (hv : VRel P ρ v v') : ∃ x', (Instr.fieldAt t v' i).run P w = .ok x' w ∧ VRel P ρ x x' := by
 obtain ⟨⟨b, o⟩, ha, rfl⟩ := aN.1 h;rw [vt ha] at hv;obtain ⟨c, d, sz, hb, rfl⟩ := hv.ptr_inv;refine ⟨.pointer (some ⟨c, d + o + off, none⟩), ?_, ?_⟩
 ·simp [Instr.fieldAt, run_underlying hu, hf, Instr.sureAddr, fieldPlace, cA hn, h0, hoff, Addr.add_lit]
 ·rw [Nat.add_assoc]; exact .ptr hb
theorem CC {t : TypeId} {n : Option Nat} (hn : eD P t = some n) {off : Nat} {xs : Array Value} {v' x : Value} (h : j2 n off (.agg xs) = some x) (hv : VRel P ρ (.agg xs) v') :
 ∃ ys x', v' = .agg ys ∧ (part t ys off).run P w = .ok x' w ∧ VRel P ρ x x' := by
 obtain ⟨ys, rfl, hs, he⟩ := hv.agg_inv
 cases n with
 | none =>
  simp only [j2] at h;have hi : off < xs.size := (Array.getElem?_eq_some_iff.1 h).1
  have hi' : off < ys.size := by omega
  exact ⟨ys, ys[off], rfl, by simp [part, n8 hn, hi'], he off x _ h (by simp [hi'])⟩
 | some n =>
  simp only [j2] at h;cases h;obtain ⟨hag, hsz⟩ := n9 hn w;refine ⟨ys, .agg (ys.extract off (off + n)), rfl, by simp [part, hag, cA hsz], .agg (by simp [hs]) (fun i x y hx hy => ?_)⟩;rw [Array.getElem?_extract] at hx hy;rw [← hs] at hy
  split at hx
  ·rename_i hi; rw [if_pos hi] at hy; exact he _ x y hx hy
  ·cases hx
theorem SG {e : Nat} {t el : TypeId} (hu : P.underlying t = some (.slice el)) (he : ca P el = some e) {v v' i i' x : Value} (h : nX e v i = some x) (hv : VRel P ρ v v') (hi : VRel P ρ i i') :
 ∃ x', (Instr.indexAt t v' i').run P w = .ok x' w ∧ VRel P ρ x x' := by
 by_cases hsl : ∃ a n k, v = .slice a n k
 case neg =>
  exfalso
  cases v <;> first | exact hsl ⟨_, _, _, rfl⟩ | (simp [nX] at h)
 obtain ⟨a, n, k, rfl⟩ := hsl
 cases a with
 | none => cases i <;> simp [nX] at h
 | some ad =>
 obtain ⟨b, o, sp⟩ := ad
 cases sp with
 | some sp => cases i <;> simp [nX] at h
 | none =>
 cases i <;> simp only [nX] at h <;> try (cases h; done)
 rename_i kk i
 split at h
 ·rename_i hc
  cases h;rw [hi.int_inv]
  have hel : P.elem t = el := by simp [Program.elem, hu]
  cases hv with
  | lit h => simp [cJ] at h
  | slice0 h => omega
  | empty => omega
  | slice hb hk hn he0 =>
   rename_i c d sz k'
   refine ⟨.pointer (some ⟨c, d + o + i.toNat * e, none⟩), ?_, by rw [Nat.add_assoc]; exact .ptr hb⟩;rw [run_indexAt_slice w t ⟨c, d + o, none⟩ n k' kk i (by rw [hel]; exact hu), if_pos hc, hel, cA he];simp [Addr.add_lit]
 ·cases h
theorem Kp {e len : Nat} {t el : TypeId} (hu : P.underlying t = some (.array len el)) (he : ca P el = some e) {v v' i i' x : Value} (h : iv len e v i = some x) (hv : VRel P ρ v v') (hi : VRel P ρ i i') :
 ∃ x', (Instr.indexAt t v' i').run P w = .ok x' w ∧ VRel P ρ x x' := by
 by_cases hsl : ∃ a, v = .pointer a
 case neg =>
  exfalso
  cases v <;> first | exact hsl ⟨_, rfl⟩ | (simp [iv] at h)
 obtain ⟨a, rfl⟩ := hsl
 cases a with
 | none => cases i <;> simp [iv] at h
 | some ad =>
 obtain ⟨b, o, sp⟩ := ad
 cases sp with
 | some sp => cases i <;> simp [iv] at h
 | none =>
 cases i <;> simp only [iv] at h <;> try (cases h; done)
 rename_i kk i
 split at h
 ·rename_i hc
  cases h;rw [hi.int_inv];obtain ⟨c, d, sz, hb, rfl⟩ := hv.ptr_inv
  have hel : P.elem t = el := by simp [Program.elem, hu]
  have hlen : P.arrayLen t = len := by simp [Program.arrayLen, hu]
  refine ⟨.pointer (some ⟨c, d + o + i.toNat * e, none⟩), ?_, by rw [Nat.add_assoc]; exact .ptr hb⟩;rw [run_indexAt_array w t ⟨c, d + o, none⟩ kk i (by rw [hel, hlen]; exact hu), hlen, if_pos hc, hel, cA he];simp [Addr.add_lit]
 ·cases h
theorem Ch {e len : Nat} {n : Option Nat} {t el : TypeId} (hu : P.underlying t = some (.array len el)) (he : ca P el = some e) (hn : eD P el = some n) {v v' i i' x : Value} (h : iT len n e v i = some x) (hv : VRel P ρ v v') (hi : VRel P ρ i i') :
 ∃ x', (Instr.index t v' i').run P w = .ok x' w ∧ VRel P ρ x x' := by
 cases v <;> simp only [iT] at h <;> try (cases h; done)
 rename_i xs
 cases i <;> simp only at h <;> try (cases h; done)
 rename_i kk i
 split at h
 ·rename_i hc
  rw [hi.int_inv]
  have hp : j2 n (i.toNat * e) (.agg xs) = some x := by cases n <;> simpa [j2] using h
  obtain ⟨ys, x', rfl, hr, hx⟩ := CC (w := w) hn hp hv;exact ⟨x', by simp [Instr.index, asIntOf, run_underlying hu, hc, cA he, hr], hx⟩
 ·cases h
theorem Cg {t : TypeId} (hu : P.underlying t = some .string) {v v' i i' x : Value} (h : iS v i = some x) (hv : VRel P ρ v v') (hi : VRel P ρ i i') :
 ∃ x', (Instr.index t v' i').run P w = .ok x' w ∧ VRel P ρ x x' := by
 cases v <;> simp only [iS] at h <;> try (cases h; done)
 rename_i s
 cases i <;> simp only at h <;> try (cases h; done)
 rename_i kk i
 split at h
 ·rename_i hc
  obtain ⟨b, hb, rfl⟩ := aN.1 h;rw [hi.int_inv, hv.string_inv];exact ⟨_, by simp [Instr.index, asIntOf, run_underlying hu, hc, hb], .lit rfl⟩
 ·cases h
theorem FO {e : Nat} {t el : TypeId} (hu : P.underlying t = some (.slice el)) (he : ca P el = some e) {x x' v : Value} {lo hi lo' hi' : Option Value} (h : ec e x lo hi = some v) (hx : VRel P ρ x x')
 (hlo : lo = none ∧ lo' = none ∨ ∃ a a', lo = some a ∧ lo' = some a' ∧ VRel P ρ a a') (hhi : hi = none ∧ hi' = none ∨ ∃ a a', hi = some a ∧ hi' = some a' ∧ VRel P ρ a a') :
 ∃ v', (Instr.sliceAt t x' lo' hi' none).run P w = .ok v' w ∧ VRel P ρ v v' := by
 cases x <;> simp only [ec] at h <;> try (cases h; done)
 rename_i a n e'
 have h2 := aG.1 h
 clear h
 obtain ⟨l, hl, h⟩ := h2;have h2 := aG.1 h
 clear h
 obtain ⟨hh, hhv, h⟩ := h2
 split at h
 ·rename_i hc
  have elo : lo = none ∧ lo' = none ∧ l = 0 ∨ ∃ k, lo' = some (.int k l) := by
   rcases hlo with ⟨rfl, rfl⟩ | ⟨b, b', rfl, rfl, hb⟩
   ·left; simp at hl; exact ⟨rfl, rfl, hl.symm⟩
   ·right; cases b <;> simp [my] at hl; subst hl; exact ⟨_, by rw [hb.int_inv]⟩
  have ehi : hi = none ∧ hi' = none ∧ hh = n ∨ ∃ k, hi' = some (.int k hh) := by
   rcases hhi with ⟨rfl, rfl⟩ | ⟨b, b', rfl, rfl, hb⟩
   ·left; simp at hhv; exact ⟨rfl, rfl, hhv.symm⟩
   ·right; cases b <;> simp [my] at hhv; subst hhv; exact ⟨_, by rw [hb.int_inv]⟩
  -- what the run comes to
  have run : ∀ (a' : Option Addr) (k' : Nat), n ≤ k' → (Instr.sliceAt t (.slice a' n k') lo' hi' none).run P w = .ok (.slice (if k' = l.toNat then a' else a'.map (·.add (l.toNat * e))) (hh.toNat - l.toNat) (k' - l.toNat)) w := by
   intro a' k' hk
   have c1 : hh ≤ (k' : Int) := by omega
   have c3 : 0 ≤ hh := by omega
   have c2 : l ≤ hh := hc.2.1
   have c5 : max hh 0 = hh := by omega
   rcases elo with ⟨_, rfl, rfl⟩ | ⟨kl, rfl⟩ <;> rcases ehi with ⟨_, rfl, rfl⟩ | ⟨kh, rfl⟩ <;>
    simp [Instr.sliceAt, Instr.slice, run_underlying hu, Instr.sliceBounds, Instr.sliceBound, asIntOf, cA he, hc.1, c1, c2, c3, c5]
  cases a with
  | none =>
   simp only at h
   split at h
   ·rename_i hne
    obtain ⟨rfl, rfl⟩ := hne;cases h;rw [hx.nilslice_inv]
    have e1 : l.toNat = 0 := by omega
    have e2 : hh.toNat = 0 := by omega
    refine ⟨.slice none 0 0, ?_, .lit rfl⟩;rw [run none 0 (bj _), e1, e2]
    rfl
   ·cases h
  | some ad =>
   obtain ⟨b, o, sp⟩ := ad
   cases sp with
   | some sp => simp at h
   | none =>
    simp only at h
    split at h
    ·rename_i hee
     obtain ⟨rfl, he0⟩ := hee;cases h
     cases hx with
     | lit h => simp [cJ] at h
     | slice hb hk hn he1 =>
      rename_i c d sz k'
      refine ⟨_, run _ k' hn, ?_⟩
      by_cases hkl : k' = l.toNat
      ·have e1 : hh.toNat - l.toNat = 0 := by omega
       have e2 : k' - l.toNat = 0 := by omega
       rw [if_pos hkl, e1, e2];exact .slice0 hb
      ·rw [if_neg hkl]
       simp only [dP, Addr.add_lit];rw [Nat.add_assoc];refine .slice hb ?_ (by omega) he0
       have h1 : l.toNat * e' + (k' - l.toNat) * e' = k' * e' := by rw [← Nat.add_mul]; congr 1; omega
       omega
     | empty => omega
     | slice0 hb =>
      rename_i c d sz a
      refine ⟨_, run _ 0 (bj _), ?_⟩
      have e1 : l.toNat = 0 := by omega
      have e2 : hh.toNat = 0 := by omega
      rw [e1, e2]
      simpa using VRel.slice0 hb
    ·cases h
 ·cases h
theorem Dk {t el : TypeId} {e : Nat} (hu : P.underlying t = some (.slice el)) (he : ca P el = some e) {x x' hi hi' mx mx' v : Value} (h : iU x hi mx = some v) (hx : VRel P ρ x x') (hh : VRel P ρ hi hi') (hm : VRel P ρ mx mx') :
 ∃ v', (Instr.sliceAt t x' none (some hi') (some mx')).run P w = .ok v' w ∧ VRel P ρ v v' := by
 have run : ∀ (a' : Option Addr) (n k' : Nat) (k1 k2 : IntKind), (Instr.sliceAt t (.slice a' n k') none (some (.int k1 0)) (some (.int k2 0))).run P w = .ok (.slice a' 0 0) w := by
  intro a' n k' k1 k2;simp [Instr.sliceAt, Instr.slice, run_underlying hu, Instr.sliceBounds, Instr.sliceBound, asIntOf, cA he]
 unfold iU at h
 split at h
 ·cases h
  rw [hh.int_inv, hm.int_inv, hx.nilslice_inv];exact ⟨_, run _ _ _ _ _, .lit rfl⟩
 ·rename_i b o n k k1 k2 _
  cases h;rw [hh.int_inv, hm.int_inv]
  cases hx with
  | lit h => simp [cJ] at h
  | slice hb _ _ _ => exact ⟨_, run _ _ _ _ _, .slice0 hb⟩
  | slice0 hb => exact ⟨_, run _ _ _ _ _, .slice0 hb⟩
  | empty => exact ⟨_, run _ _ _ _ _, .empty⟩
 ·cases h
end
section
variable {P : Program} {w0 : World} {B : Nat} {ρ : bv} {H : AH} {w : World} {G : List Nat}
theorem YB {o : Oper} {a : Act} {v : Value} {H' : AH} {next : Act → World → Prop} {Q : Exit → Act → World → Prop} (h : pS P w0 B ρ H w ((execOp a.eval o).run P w) v H')
 (hn : ∀ v' ρ' w', VRel P ρ' v v' → ix ρ H w ρ' H' w' → Rel P w0 B ρ' H' w' → next (a.put o.dst v') w') : o.wp P a w next Q := by
 obtain ⟨v', w', ρ', hr | ⟨hr, rfl⟩, hv, he, hR⟩ := h
 ·unfold Oper.wp; rw [hr, Oper.upon_value]; exact hn v' ρ' w' hv he hR
 ·unfold Oper.wp; rw [hr, Oper.upon_skip]; exact hn _ ρ' w' hv he hR
theorem aO {s : Sem Value} {v' : Value} {w' : World} (h : s.run P w = .ok v' w') : (do pure (Next.value (← s)) : Sem Next).run P w = .ok (.value v') w' := by simp [h]
theorem LN {s : Sem Unit} {w' : World} (h : s.run P w = .ok () w') : (do s; pure Next.skip : Sem Next).run P w = .ok .skip w' := by simp [h]
theorem dV {t el : TypeId} (h : b4 P t = some el) : P.underlying t = some (.slice el) := by
 unfold b4 at h
 cases hu : P.underlying t with
 | none => simp [hu] at h
 | some d => cases d <;> simp [hu] at h; rw [h]
theorem E3 {t : TypeId} {k : IntKind} (h : qr P t = some k) : P.underlying t = some (.int k) := by
 unfold qr at h
 cases hu : P.underlying t with
 | none => simp [hu] at h
 | some d => cases d <;> simp [hu] at h; rw [h]
theorem oH {t : TypeId} {i : Nat} {f : Field} (h : jK P t i = some f) : ∃ fs, P.underlying t = some (.struct fs) ∧ fs[i]? = some f := by
 unfold jK at h
 cases hu : P.underlying t with
 | none => simp [hu] at h
 | some d => cases d <;> simp [hu] at h; exact ⟨_, rfl, h⟩
theorem AS {t : TypeId} {n : Nat} (h : eZ P t = some n) {i : TypeInfo} (hi : P.info? t = some i) : i.bytes = n := by
 unfold eZ at h; simpa [hi] using h
theorem FM {t : TypeId} {n : Nat} (h : ca P t = some n) {i : TypeInfo} (hi : P.info? t = some i) : i.size = n := by
 unfold ca at h; simpa [hi] using h
theorem Al {xs : List Value} {ys : Array Value} (h : LRel P ρ xs ys.toList) {x y : Value} (hx : xs = [x, y]) : ∃ x' y', ys = #[x', y'] ∧ VRel P ρ x x' ∧ VRel P ρ y y' := by
 subst hx;have hl := h.1;obtain ⟨l⟩ := ys
 match l, hl with
 | [x', y'], _ => exact ⟨x', y', rfl, h.2 0 x x' rfl rfl, h.2 1 y y' rfl rfl⟩
theorem S5 {xs : List Value} {ys : Array Value} (h : LRel P ρ xs ys.toList) {x : Value} (hx : xs = [x]) : ∃ x', ys = #[x'] ∧ VRel P ρ x x' := by
 subst hx;have hl := h.1;obtain ⟨l⟩ := ys
 match l, hl with
 | [x'], _ => exact ⟨x', rfl, h.2 0 x x' rfl rfl⟩
theorem SR {xs : List Value} {ys : Array Value} (h : LRel P ρ xs ys.toList) {v : Value} (hm : ig xs = some v) (ts : Array TypeId) (t : TypeId) : (Builtin.max_ ts t ys).run P w = .ok v w ∧ cJ v = true := by
 unfold ig at hm
 split at hm
 ·rename_i k x k' y
  obtain ⟨x', y', rfl, hx, hy⟩ := Al h rfl;rw [hx.int_inv, hy.int_inv];cases hm;exact ⟨run_max_int2 w ts t k k' x y, rfl⟩
 ·cases hm
theorem SS {xs : List Value} {ys : Array Value} (h : LRel P ρ xs ys.toList) {v : Value} (hm : i8 xs = some v) (ts : Array TypeId) (t : TypeId) : (Builtin.min_ ts t ys).run P w = .ok v w ∧ cJ v = true := by
 unfold i8 at hm
 split at hm
 ·rename_i k x k' y
  obtain ⟨x', y', rfl, hx, hy⟩ := Al h rfl;rw [hx.int_inv, hy.int_inv];cases hm;exact ⟨run_min_int2 w ts t k k' x y, rfl⟩
 ·cases hm
theorem Jo (hR : Rel P w0 B ρ H w) {b : Builtin} {ts : Array TypeId} {t : TypeId} {cs : Array Bool} {xs : List Value} {ys : Array Value} (hl : LRel P ρ xs ys.toList) {v : Value} {H' : AH} (h : cj P b ts xs H = some (v, H')) :
 pS P w0 B ρ H w ((builtin b ts t cs ys).run P w) v H' := by
 unfold cj at h
 split at h
 ·-- len
  rename_i x
  obtain ⟨x', rfl, hx⟩ := S5 hl rfl
  cases hts : ts[0]? with
  | none => simp [hts] at h
  | some t0 =>
   simp only [hts, bo] at h
   cases hu : P.underlying t0 with
   | none => simp [hu] at h
   | some d =>
    cases d <;> simp only [hu] at h <;> try (cases h; done)
    case string =>
     cases x <;> simp only at h <;> try (cases h; done)
     obtain ⟨y, hy, e⟩ := aN.1 h;cases e;simp [pL] at hy;subst hy;rw [hx.string_inv];exact pS.pure hR (by simp [builtin, Builtin.len_, hts, run_underlying hu, goInt]) (.lit rfl)
    case slice el =>
     cases x <;> simp only at h <;> try (cases h; done)
     obtain ⟨y, hy, e⟩ := aN.1 h;cases e;simp [pL] at hy;subst hy;obtain ⟨a', k', rfl, _⟩ := hx.anyslice_inv;exact pS.pure hR (by simp [builtin, Builtin.len_, hts, run_underlying hu, goInt]) (.lit rfl)
    case map k el =>
     obtain ⟨y, hy, e⟩ := aN.1 h;cases e
     cases x <;> simp only [mz] at hy <;> try (cases hy; done)
     rename_i r
     cases r with
     | none =>
      simp only at hy;cases hy;rw [hx.nilmap_inv];exact pS.pure hR (by simp [builtin, Builtin.len_, hts, run_underlying hu, goInt]) (.lit rfl)
     | some b =>
      simp only at hy
      split at hy
      ·rename_i es c hg
       cases hy;obtain ⟨c', d, sz, hb, rfl⟩ := hx.map_inv;obtain ⟨es', hw, hrel⟩ := hR.map hb hg
       have hsz : es'.size = es.length := by simpa using hrel.1
       exact pS.pure hR (by simp [builtin, Builtin.len_, hts, run_underlying hu, ei hw, goInt, hsz]) (.lit rfl)
      ·cases hy
 ·obtain ⟨y, hy, e⟩ := aN.1 h
  cases e;obtain ⟨hr, hv⟩ := SR (w := w) hl hy ts t;exact pS.pure hR (by simp only [builtin]; exact aO hr) (.lit hv)
 ·obtain ⟨y, hy, e⟩ := aN.1 h
  cases e;obtain ⟨hr, hv⟩ := SS (w := w) hl hy ts t;exact pS.pure hR (by simp only [builtin]; exact aO hr) (.lit hv)
 ·-- append
  rename_i s x
  obtain ⟨s', x', rfl, hs, hx⟩ := Al hl rfl;obtain ⟨t0, ht0, h⟩ := aG.1 h;obtain ⟨el, hel, h⟩ := aG.1 h;obtain ⟨e, he, h⟩ := aG.1 h;obtain ⟨by', hby, h⟩ := aG.1 h;obtain ⟨z, hz, h⟩ := aG.1 h
  split at h
  ·rename_i hc
   obtain ⟨hzs, hu⟩ := hc;obtain ⟨u, hu0, hue⟩ := aG.1 hu;obtain ⟨i, hi, hzi, _⟩ := cD hz;have e1 := FM he hi;have e2 := AS hby hi;subst e1; subst e2
   have hts : Builtin.append_ ts t #[s', x'] = Builtin.append_ #[t0, u] t #[s', x'] := by
    simp [Builtin.append_, ht0, hu0]
   obtain ⟨v', w', ρ', hr, hv, hE, hR'⟩ := ahH (ty := t) hR (dV hel) (dV hue) hi hzi hzs h hs hx;exact ⟨v', w', ρ', .inl (by simp only [builtin, hts]; exact aO hr), hv, hE, hR'⟩
  ·cases h
 ·-- delete
  rename_i m k
  obtain ⟨m', k', rfl, hm, hk⟩ := Al hl rfl;obtain ⟨t0, ht0, h⟩ := aG.1 h;obtain ⟨⟨kt, et⟩, hkt, h⟩ := aG.1 h;obtain ⟨cl, hcl, h⟩ := aG.1 h;obtain ⟨H2, hH, e⟩ := aN.1 h;cases e;obtain ⟨w', hr, hE, hR'⟩ := Mw (ty := t) hR hkt hcl ht0 hH hm hk;exact ⟨.tuple #[], w', ρ, .inl (by simp only [builtin]; exact aO hr), VRel.undef, hE, hR'⟩
 ·cases h
theorem AV {f f' : Value} {args args' : List Value} {g : Nat} {xs : List Value} (h : b5 f args = some (g, xs)) (hf : VRel P ρ f f') (ha : LRel P ρ args args') :
 ∃ first captured : Array Value, f' = .func (.func g) first captured ∧ LRel P ρ xs (first.toList ++ args' ++ captured.toList) := by
 cases f <;> simp only [b5] at h <;> try (cases h; done)
 rename_i fn first captured
 cases fn <;> simp only at h <;> try (cases h; done)
 cases h;obtain ⟨f1, c1, rfl, h1, h2⟩ := hf.func_inv;exact ⟨f1, c1, rfl, (h1.append ha).append h2⟩
theorem adT {call : bg} {A : List Value} {a : Act} (hA : bU P ρ A a) (hG : GlobRel ρ G) (hR : Rel P w0 B ρ H w) {o : Oper} (hok : o.op.operands.toList.all (L5 G) = true)
 (hno : ∀ c f, o.op = .call c → c.callee ≠ .value f) {v : Value} {H' : AH} (h : dK P call (eF A) o H = some (v, H')) : pS P w0 B ρ H w ((execOp a.eval o).run P w) v H' := by
 obtain ⟨dst, op, type, pos, after, guard⟩ := o;simp only at hok hno;have ev : ∀ x, x ∈ op.operands.toList → VRel P ρ (eF A x) (a.eval x) := fun x hx => wJ hA hG (List.all_eq_true.1 hok x hx)
 cases op <;> simp only [dK] at h <;> simp only [execOp] <;> try (cases h; done)
 case move x => cases h; exact pS.pure hR rfl (ev x (by simp [Op.operands]))
 case assign x => cases h; exact pS.pure hR rfl (ev x (by simp [Op.operands]))
 case pick c x y =>
  obtain ⟨z, hz, e⟩ := aN.1 h;cases e;have hc := ev c (by simp [Op.operands])
  cases hcv : eF A c <;> rw [hcv] at hz <;> simp only [aM] at hz <;> try (cases hz; done)
  rename_i t
  cases hz;rw [hcv] at hc;rw [hc.bool_inv];cases t
  ·exact pS.pure hR (by simp [asBool]) (ev y (by simp [Op.operands]))
  ·exact pS.pure hR (by simp [asBool]) (ev x (by simp [Op.operands]))
 case alloc t =>
  obtain ⟨z, hz, e⟩ := aN.1 h;cases e;obtain ⟨i, hi, hzi, hlit, _⟩ := cD hz;refine adL (el := t) (cs' := z.cells.toList) hR (LRel.of_all hlit) (aO ?_);simp [Instr.alloc, il hz, newVar, newRow]
 case box t x =>
  cases h;refine adL (el := t) (cs' := (a.eval x).cells.toList) hR (ev x (by simp [Op.operands])).cells (aO ?_);simp [Instr.box, newVar, newRow]
 case build t parts =>
  have hx : ∀ x ∈ parts.toList.map (·.2), VRel P ρ (eF A x) (a.eval x) := fun x hx => ev x (by simpa [Op.operands] using hx)
  cases hu : P.underlying t with
  | none => simp [hu] at h
  | some d =>
   cases d <;> simp only [hu] at h <;> try (cases h; done)
   case struct fs =>
    obtain ⟨z, hz, h⟩ := aG.1 h;obtain ⟨ps, hps, h⟩ := aG.1 h;obtain ⟨cs, hcs, e⟩ := aN.1 h;cases e;obtain ⟨v', hr, hv⟩ := Es (w := w) hx hz hu hps hcs;exact pS.pure hR (aO hr) hv
   case array n el =>
    obtain ⟨z, hz, h⟩ := aG.1 h;obtain ⟨e, he, h⟩ := aG.1 h;obtain ⟨cs, hcs, e⟩ := aN.1 h;cases e;obtain ⟨v', hr, hv⟩ := uo (w := w) hx hz hu he hcs;exact pS.pure hR (aO hr) hv
 case buildSlice t len parts =>
  have hx : ∀ x ∈ parts.toList.map (·.2), VRel P ρ (eF A x) (a.eval x) := fun x hx => ev x (by simpa [Op.operands] using hx);obtain ⟨el, hel, h⟩ := aG.1 h;obtain ⟨e, he, h⟩ := aG.1 h;obtain ⟨z, hz, h⟩ := aG.1 h
  split at h
  ·rename_i hc
   obtain ⟨cs, hcs, e2⟩ := aN.1 h;cases e2;obtain ⟨v', w', ρ', hr, hv, hE, hR'⟩ := AP hR hx hz (dV hel) he hc.1 hc.2.1 hc.2.2 hcs;exact ⟨v', w', ρ', .inl (aO hr), hv, hE, hR'⟩
  ·cases h
 case load t x =>
  have hx := ev x (by simp [Op.operands]);obtain ⟨g, hg, h⟩ := aG.1 h
  cases g with
  | none =>
   obtain ⟨y, hy, e⟩ := aN.1 h;cases e;obtain ⟨a', y', ha, hr, hv⟩ := ac0 hR hy hx;exact pS.pure hR (aO (by simp [Instr.loadAt, ha, Instr.sureAddr, loadVar, n8 hg]; simpa using hr)) hv
  | some n =>
   obtain ⟨y, hy, e⟩ := aN.1 h;cases e;obtain ⟨a', ys, ha, hr, hv⟩ := Ky hR hy hx;obtain ⟨hag, hsz⟩ := n9 hg w;exact pS.pure hR (aO (by simp [Instr.loadAt, ha, Instr.sureAddr, loadVar, hag, cA hsz, hr])) hv
 case store t x y =>
  have hx := ev x (by simp [Op.operands]);have hy := ev y (by simp [Op.operands]);obtain ⟨n, hn, h⟩ := aG.1 h;obtain ⟨H2, hH, e⟩ := aN.1 h;cases e;obtain ⟨a', w', ha, hcs, hr, hE, hR'⟩ := am7 hR hH hx hy;exact ⟨undef, w', ρ, .inr ⟨LN (by simp [Instr.storeAt, ha, Instr.sureAddr, storeVar, cA hn, hcs, hr]), rfl⟩, VRel.undef, hE, hR'⟩
 case nilCheck x =>
  have hx := ev x (by simp [Op.operands]);obtain ⟨y, hy, e⟩ := aN.1 h;cases e;obtain ⟨rfl, hr⟩ := KL hy hx
  have e2 : (Ok (a.eval x)).run P w = .ok (.value (a.eval x)) w := by rw [hr]; rfl
  exact pS.pure hR e2 hx
 case binOp op t x y yt =>
  obtain ⟨z, hz, e⟩ := aN.1 h;cases e;obtain ⟨hr, hl⟩ := KI hz (ev x (by simp [Op.operands])) (ev y (by simp [Op.operands])) x y w;exact pS.pure hR (aO hr) (.lit hl)
 case unOp op t x =>
  obtain ⟨z, hz, e⟩ := aN.1 h;cases e;obtain ⟨hr, hl⟩ := Tb hz (ev x (by simp [Op.operands])) w;exact pS.pure hR (aO hr) (.lit hl)
 case convert src dst x =>
  cases hu : P.underlying src with
  | none => simp [hu] at h
  | some d =>
   simp only [hu] at h;obtain ⟨z, hz, e⟩ := aN.1 h;cases e;have hx := ev x (by simp [Op.operands])
   cases hk : qr P dst with
   | none => simp [hk, bI] at hz
   | some k =>
    cases hxv : eF A x <;> rw [hk, hxv] at hz <;> simp only [bI] at hz <;> try (cases hz; done)
    rename_i k0 n
    cases hz;rw [hxv] at hx;rw [hx.int_inv];have hud := E3 hk
    have hkd : P.intKind dst = k := by simp [Program.intKind, hud]
    have hr := run_convert_int (P := P) w src dst k0 n (by simp [hu]) (by rw [hkd]; exact hud);rw [hkd] at hr;exact pS.pure hR (aO hr) (.lit rfl)
 case makeFunc fn first captured =>
  cases h;refine pS.pure hR (aO (by simp [Instr.makeFunc]; rfl)) ?_;refine .func (by simp) (fun i x y hx hy => ?_) (by simp) (fun i x y hx hy => ?_)
  ·simp only [Array.getElem?_map, aN] at hx hy
   obtain ⟨p, hp, rfl⟩ := hx;obtain ⟨q, hq, rfl⟩ := hy;rw [hp] at hq; cases hq;exact ev p (by simp only [Op.operands, Array.toList_append, List.mem_append]; exact .inl (by simpa using Array.mem_of_getElem? hp))
  ·simp only [Array.getElem?_map, aN] at hx hy
   obtain ⟨p, hp, rfl⟩ := hx;obtain ⟨q, hq, rfl⟩ := hy;rw [hp] at hq; cases hq;exact ev p (by simp only [Op.operands, Array.toList_append, List.mem_append]; exact .inr (by simpa using Array.mem_of_getElem? hp))
 case makeMap t r =>
  cases r with
  | some r => simp at h
  | none =>
   simp only at h;cases h;have hp := hR.push (o := .map [] 0) (ob := .map #[] 0) (sz := 0) rfl ⟨#[], rfl, rfl, fun _ _ _ h => by simp at h⟩;refine ⟨.map (some w.heap.size), _, _, .inl (aO ?_), .map (bv.upd_same ..), hp.2, hp.1⟩;simp [Instr.makeMap]
 case makeSlice t l c =>
  obtain ⟨el, hel, h⟩ := aG.1 h;obtain ⟨e, he, h⟩ := aG.1 h;obtain ⟨by', hby, h⟩ := aG.1 h;obtain ⟨z, hz, h⟩ := aG.1 h;obtain ⟨v', w', ρ', hr, hv, hE, hR'⟩ := ac4 hR hz (dV hel) he hby h (ev l (by simp [Op.operands])) (ev c (by simp [Op.operands]));exact ⟨v', w', ρ', .inl (aO hr), hv, hE, hR'⟩
 case slice t x lo hi mx =>
  cases mx with
  | none =>
   simp only at h;obtain ⟨el, hel, h⟩ := aG.1 h;obtain ⟨e, he, h⟩ := aG.1 h;obtain ⟨z, hz, e2⟩ := aN.1 h;cases e2;have hx := ev x (by simp [Op.operands]);obtain ⟨v', hr, hv⟩ := FO (w := w) (lo' := lo.map a.eval) (hi' := hi.map a.eval) (dV hel) he hz hx
    (by cases lo with
        | none => exact .inl ⟨rfl, rfl⟩
        | some l => exact .inr ⟨_, _, rfl, rfl, ev l (by simp [Op.operands])⟩)
    (by cases hi with
        | none => exact .inl ⟨rfl, rfl⟩
        | some l => exact .inr ⟨_, _, rfl, rfl, ev l (by simp [Op.operands])⟩)
   exact pS.pure hR (aO hr) hv
  | some mx =>
   cases lo with
   | some lo => cases hi <;> simp at h
   | none =>
    cases hi with
    | none => simp at h
    | some hi =>
     simp only at h;obtain ⟨el, hel, h⟩ := aG.1 h;obtain ⟨e, he, h⟩ := aG.1 h;obtain ⟨z, hz, e2⟩ := aN.1 h;cases e2;obtain ⟨v', hr, hv⟩ := Dk (w := w) (dV hel) he hz (ev x (by simp [Op.operands])) (ev hi (by simp [Op.operands])) (ev mx (by simp [Op.operands]));exact pS.pure hR (aO hr) hv
 case fieldAddr s x f =>
  obtain ⟨fd, hf, h⟩ := aG.1 h;obtain ⟨n, hn, h⟩ := aG.1 h
  split at h
  ·cases h
  ·rename_i h0
   obtain ⟨z, hz, e2⟩ := aN.1 h;cases e2;obtain ⟨fs, hu, hfs⟩ := oH hf;obtain ⟨v', hr, hv⟩ := SC (w := w) hu hfs hn h0 rfl hz (ev x (by simp [Op.operands]));exact pS.pure hR (aO hr) hv
 case field s x f =>
  obtain ⟨fd, hf, h⟩ := aG.1 h;obtain ⟨n, hn, h⟩ := aG.1 h;obtain ⟨z, hz, e2⟩ := aN.1 h;cases e2;obtain ⟨fs, hu, hfs⟩ := oH hf;have hx := ev x (by simp [Op.operands])
  cases hxv : eF A x <;> rw [hxv] at hz <;> try (simp [j2] at hz; done)
  rename_i xs
  rw [hxv] at hx;obtain ⟨ys, v', hys, hr, hv⟩ := CC (w := w) hn hz hx;refine pS.pure hR (aO ?_) hv;simp [Instr.field, run_underlying hu, hfs, hys, asAgg, hr]
 case indexAddr t x i =>
  cases hu : P.underlying t with
  | none => simp [hu] at h
  | some d =>
   cases d <;> simp only [hu] at h <;> try (cases h; done)
   case slice el =>
    obtain ⟨e, he, h⟩ := aG.1 h;obtain ⟨z, hz, e2⟩ := aN.1 h;cases e2;obtain ⟨v', hr, hv⟩ := SG (w := w) hu he hz (ev x (by simp [Op.operands])) (ev i (by simp [Op.operands]));exact pS.pure hR (aO hr) hv
   case array n el =>
    obtain ⟨e, he, h⟩ := aG.1 h;obtain ⟨z, hz, e2⟩ := aN.1 h;cases e2;obtain ⟨v', hr, hv⟩ := Kp (w := w) hu he hz (ev x (by simp [Op.operands])) (ev i (by simp [Op.operands]));exact pS.pure hR (aO hr) hv
 case index t x i =>
  cases hu : P.underlying t with
  | none => simp [hu] at h
  | some d =>
   cases d <;> simp only [hu] at h <;> try (cases h; done)
   case string =>
    obtain ⟨z, hz, e2⟩ := aN.1 h;cases e2;obtain ⟨v', hr, hv⟩ := Cg (w := w) hu hz (ev x (by simp [Op.operands])) (ev i (by simp [Op.operands]));exact pS.pure hR (aO hr) hv
   case array n el =>
    obtain ⟨e, he, h⟩ := aG.1 h;obtain ⟨nn, hnn, h⟩ := aG.1 h;obtain ⟨z, hz, e2⟩ := aN.1 h;cases e2;obtain ⟨v', hr, hv⟩ := Ch (w := w) hu he hnn hz (ev x (by simp [Op.operands])) (ev i (by simp [Op.operands]));exact pS.pure hR (aO hr) hv
 case lookup t m k ok =>
  obtain ⟨⟨kt, et⟩, hkt, h⟩ := aG.1 h;obtain ⟨cl, hcl, h⟩ := aG.1 h;obtain ⟨z, hz, h⟩ := aG.1 h;obtain ⟨y, hy, e2⟩ := aN.1 h;cases e2;obtain ⟨v', hr, hv⟩ := Cq hR hkt hcl hz hy (ev m (by simp [Op.operands])) (ev k (by simp [Op.operands]));exact pS.pure hR (aO hr) hv
 case mapUpdate t m k x =>
  obtain ⟨⟨kt, et⟩, hkt, h⟩ := aG.1 h;obtain ⟨cl, hcl, h⟩ := aG.1 h;obtain ⟨H2, hH, e2⟩ := aN.1 h;cases e2;obtain ⟨w', hr, hE, hR'⟩ := PY hR hkt hcl hH (ev m (by simp [Op.operands])) (ev k (by simp [Op.operands])) (ev x (by simp [Op.operands]));exact ⟨undef, w', ρ, .inr ⟨LN hr, rfl⟩, VRel.undef, hE, hR'⟩
 case extract t i =>
  obtain ⟨z, hz, e2⟩ := aN.1 h;cases e2;have hx := ev t (by simp [Op.operands])
  cases hxv : eF A t <;> rw [hxv] at hz <;> simp only [ak] at hz <;> try (cases hz; done)
  rename_i vs
  rw [hxv] at hx;obtain ⟨ys, hys, hs, he⟩ := hx.tuple_inv;have hi : i < vs.size := (Array.getElem?_eq_some_iff.1 hz).1
  have hi' : i < ys.size := by omega
  exact pS.pure hR (aO (by simp [Instr.extract, hys, hi']; rfl)) (he i _ _ hz (by simp [hi']))
 case call c =>
  obtain ⟨callee, args, ats⟩ := c;simp only at h
  cases callee with
  | value f => exact absurd rfl (hno _ f rfl)
  | invoke r m => simp at h
  | builtin b =>
   simp only at h;have hl : LRel P ρ (args.toList.map (eF A)) (args.map a.eval).toList := z7 (fun x hx => ev x (by simp only [Op.operands, Call.operands, Array.toList_append, List.mem_append]; exact .inr hx));simp only [resolve, Sem.run_bind, Sem.run_pure, Result.andThen_ok, invoke];exact Jo hR hl h
theorem adU {call : bg} (hcall : lq P G call) {A : List Value} {a : Act} (hA : bU P ρ A a) (hG : GlobRel ρ G) (hR : Rel P w0 B ρ H w) {o : Oper} (hok : o.op.operands.toList.all (L5 G) = true)
 {v : Value} {H' : AH} (h : dK P call (eF A) o H = some (v, H')) {next : Act → World → Prop} {Q : Exit → Act → World → Prop}
 (hn : ∀ v' ρ' w', VRel P ρ' v v' → ix ρ H w ρ' H' w' → Rel P w0 B ρ' H' w' → next (a.put o.dst v') w') : o.wp P a w next Q := by
 by_cases hc : ∃ c f, o.op = .call c ∧ c.callee = .value f
 ·obtain ⟨c, f, ho, hcf⟩ := hc
  obtain ⟨dst, op, type, pos, after, guard⟩ := o;simp only at ho;subst ho;obtain ⟨callee, args, ats⟩ := c;simp only at hcf;subst hcf;have ev : ∀ x, x ∈ (Op.call { callee := .value f, args := args, argTypes := ats }).operands.toList → VRel P ρ (eF A x) (a.eval x) := fun x hx => wJ hA hG (List.all_eq_true.1 hok x hx);simp only [dK] at h;obtain ⟨⟨g, xs⟩, hfa, h⟩ := aG.1 h;simp only at h;have hl : LRel P ρ (args.toList.map (eF A)) (args.map a.eval).toList := z7 (fun x hx => ev x (by simp only [Op.operands, Call.operands, Array.toList_append, List.mem_append]; exact .inr hx));obtain ⟨first, captured, hf, hx⟩ := AV hfa (ev f (by simp [Op.operands, Call.operands])) hl;obtain ⟨⟨fn, hfn, hbody, hname⟩, hcalls⟩ := hcall g xs H v H' h;have hcl := hcalls w0 B ρ w _ hR hG hx;have hrun : (execOp a.eval { dst := dst, op := .call { callee := .value f, args := args, argTypes := ats }, type := type, pos := pos, after := after, guard := guard }).run P w =
   .ok (.enter g (first ++ args.map a.eval ++ captured)) w := by
   have hbn : ¬ (fn.body = none) := by intro hb; rw [hb] at hbody; cases hbody
   simp [execOp, resolve, hf, Deferred.ofValue, invoke, callFunc, hfn, hname, hbn]
  unfold Oper.wp;rw [hrun, Oper.upon_enter]
  have e : (first.toList ++ (args.map a.eval).toList ++ captured.toList).toArray = first ++ args.map a.eval ++ captured := by
   apply Array.ext'; simp
  rw [e] at hcl;refine hcl.mono ?_
  rintro e w' ⟨v', ρ', rfl, hv, hE, hR'⟩
  exact hn v' ρ' w' hv hE hR'
 ·exact YB (adT hA hG hR hok (fun c f ho hcf => hc ⟨c, f, ho, hcf⟩) h) hn
end
def kE (A : List Value) (d : Option Tmp) (v : Value) : List Value :=
 match d with
 | some d => A.set d v
 | none => A
def cV (ops : Array Oper) (A : List Value) (j : Nat) : Option Bool :=
 match ((ops[j]?).bind (·.dst)).bind (A[·]?) with
 | some (.bool b) => some b
 | _ => none
def fI (P : Program) (G : List Nat) (call : bg) (ops : Array Oper) (o : Oper) (A : List Value) (H : AH) : Option (List Value × AH) :=
 if o.op.operands.toList.all (L5 G) = true then
  if Region.wanted o (cV ops A) = true then (dK P call (eF A) o H).map fun r => (kE A o.dst r.1, r.2) else some (kE A o.dst undef, H)
 else none
def cG (P : Program) (G : List Nat) (call : bg) (ops : Array Oper) : List Oper → List Value → AH → Option (List Value × AH)
 | [], A, H => some (A, H)
 | o :: rest, A, H => (fI P G call ops o A H).bind fun s => cG P G call ops rest s.1 s.2
section
variable {P : Program} {w0 : World} {B : Nat} {ρ : bv} {H : AH} {w : World} {G : List Nat} {call : bg}
theorem jP {A : List Value} {a : Act} (hA : bU P ρ A a) (d : Option Tmp) {v v' : Value} (hv : VRel P ρ v v') : bU P ρ (kE A d v) (a.put d v') := by
 cases d with
 | none => exact hA
 | some d => exact ⟨by simpa [Act.put, kE] using hA.tmps.set d hv, hA.defers⟩
theorem YF {A : List Value} {a : Act} (hA : bU P ρ A a) (ops : Array Oper) (j : Nat) : yielded ops a.tmps j = cV ops A j := by
 unfold yielded cV
 cases hd : (ops[j]?).bind (·.dst) with
 | none => rfl
 | some t =>
  simp only [bo]
  cases hx : A[t]? with
  | none =>
   have : a.tmps[t]? = none := by
    rw [List.getElem?_eq_none_iff] at hx;have := hA.tmps.1;rw [Array.getElem?_eq_none_iff];simp at this; omega
   rw [this]
  | some x =>
   obtain ⟨y, hy, hv⟩ := hA.tmps.get hx;rw [Array.getElem?_toList] at hy;rw [hy]
   cases hv with
   | lit h => rfl
   | _ => rfl
theorem ub {A : List Value} {a : Act} (hA : bU P ρ A a) (ops : Array Oper) (o : Oper) : Region.wanted o (yielded ops a.tmps) = Region.wanted o (cV ops A) := by
 unfold Region.wanted
 cases o.guard with
 | none => rfl
 | some g => simp only [YF hA]
def An (P : Program) (w0 : World) (B : Nat) (G : List Nat) (ρ : bv) (H : AH) (w : World) (A' : List Value) (H' : AH) (a' : Act) (w' : World) : Prop :=
 ∃ ρ', bU P ρ' A' a' ∧ GlobRel ρ' G ∧ ix ρ H w ρ' H' w' ∧ Rel P w0 B ρ' H' w'
theorem WX (hcall : lq P G call) (ops : Array Oper) {Q : Exit → Act → World → Prop} : ∀ (l : List Oper) {ρ : bv} {A : List Value} {H : AH} {a : Act} {w : World} {A' : List Value} {H' : AH}, cG P G call ops l A H = some (A', H') →
 bU P ρ A a → GlobRel ρ G → Rel P w0 B ρ H w → (∀ a' w', An P w0 B G ρ H w A' H' a' w' → Q .normal a' w') → wpList P ops Q l a w := by
 intro l
 induction l with
 | nil =>
  intro ρ A H a w A' H' h hA hG hR hQ;simp only [cG] at h;cases h;exact hQ a w ⟨ρ, hA, hG, ix.refl _ _ _, hR⟩
 | cons o rest ih =>
  intro ρ A H a w A' H' h hA hG hR hQ;simp only [cG] at h;obtain ⟨⟨A1, H1⟩, hs, h⟩ := aG.1 h;simp only at h;unfold fI at hs
  split at hs
  ·rename_i hok
   unfold wpList;rw [ub hA]
   split at hs
   ·rename_i hw
    rw [if_pos hw];obtain ⟨⟨v, H2⟩, ho, e⟩ := aN.1 hs;cases e;refine .inl (adU hcall hA hG hR hok ho (fun v' ρ' w' hv hE hR' => ?_));refine ih h (jP (hA.mono hE.le) o.dst hv) (hG.mono hE.le) hR' (fun a' w'' hp => ?_);obtain ⟨ρ'', h1, h2, h3, h4⟩ := hp;exact hQ a' w'' ⟨ρ'', h1, h2, hE.trans hR h3, h4⟩
   ·rename_i hw
    rw [if_neg hw];cases hs;exact ih h (jP hA o.dst VRel.undef) hG hR hQ
  ·cases hs
theorem K9 (hcall : lq P G call) {id : Nat} {ops : Array Oper} {Q : Exit → Act → World → Prop} {A : List Value} {a : Act} {A' : List Value} {H' : AH} (h : cG P G call ops ops.toList A H = some (A', H'))
 (hA : bU P ρ A a) (hG : GlobRel ρ G) (hR : Rel P w0 B ρ H w) (hQ : ∀ a' w', An P w0 B G ρ H w A' H' a' w' → Q .normal a' w') : (Code.region id ops false).wp P Q a w :=
 wp_region_list (WX hcall ops ops.toList h hA hG hR hQ)
end
def j5 : Op → Nat
 | .move _ | .assign _ | .pick .. | .build .. | .nilCheck _ | .binOp .. | .unOp .. | .convert .. | .makeFunc .. | .slice .. | .fieldAddr .. | .field .. | .indexAddr .. | .index .. | .extract .. => 0
 | .alloc _ | .box .. | .buildSlice .. | .makeMap .. | .makeSlice .. => 1
 | .load .. | .lookup .. => 2
 | .call c => match c.callee with
  | .builtin .max | .builtin .min => 0
  | .builtin .len => 2
  | _ => 3
 | _ => 3
def Av (P : Program) (ev : Operand → Value) (op : Op) (H : AH) : Option Value :=
 match op with
 | .load t a => (eD P t).bind fun g => match g with
  | some n => aC n (ev a) H
  | none => au (ev a) H
 | .lookup t m k ok => (b8 P t).bind fun kt => (cp P kt.1).bind fun fl => (bE P kt.2).bind fun z => cu fl z (ev m) (ev k) ok H
 | .call c => match c.args.toList.map ev with
  | [x] => match (c.argTypes[0]?).bind fun t => P.underlying t with
   | some (.slice _) => match x with | .slice _ _ _ => pL x | _ => none
   | some .string => match x with | .string _ => pL x | _ => none
   | some (.map _ _) => mz x H
   | _ => none
  | _ => none
 | _ => none
def Fq (ev : Operand → Value) (op : Op) : Option Nat :=
 match op with
 | .load _ a => (tN (ev a)).map (·.1)
 | .lookup _ m _ _ => match ev m with | .map r => r | _ => none
 | .call c => match c.args.toList.map ev with
  | [.map r] => r
  | _ => none
 | _ => none
section
variable {P : Program} {w0 : World} {B : Nat} {ρ : bv} {H : AH} {w : World} {G : List Nat} {call : bg}
theorem Au {ev : Operand → Value} {o : Oper} (hk : j5 o.op = 2) (H : AH) : dK P call ev o H = (Av P ev o.op H).map (·, H) := by
 obtain ⟨dst, op, type, pos, after, guard⟩ := o;simp only at hk ⊢
 cases op <;> simp [j5] at hk
 case load t a =>
  simp only [dK, Av]
  cases eD P t with
  | none => rfl
  | some g => cases g <;> rfl
 case lookup t m k ok =>
  simp only [dK, Av]
  cases b8 P t with
  | none => rfl
  | some kt =>
   simp only [bo]
   cases cp P kt.1 with
   | none => rfl
   | some fl =>
    simp only [bo]
    cases bE P kt.2 with
    | none => rfl
    | some z => rfl
 case call c =>
  obtain ⟨callee, args, ats⟩ := c
  cases callee <;> simp at hk
  rename_i b
  cases b <;> simp at hk
  simp only [dK, Av]
  generalize args.toList.map ev = xs
  unfold cj
  match xs with
  | [] => rfl
  | [x] =>
   simp only
   cases hb : (ats[0]?).bind fun t => P.underlying t with
   | none => rfl
   | some d => cases d <;> simp only <;> first | rfl | (cases x <;> rfl)
  | x :: y :: zs => rfl
theorem ajH {ev : Operand → Value} {op : Op} {H1 H2 : AH} (h : ∀ b, Fq ev op = some b → H2.get b = H1.get b) : Av P ev op H2 = Av P ev op H1 := by
 cases op <;> simp only [Av]
 case load t a =>
  have e : ∀ b o, tN (ev a) = some (b, o) → dq H2 b = dq H1 b := by
   intro b o hb;unfold dq;rw [h b (by simp [Fq, hb])]
  have e1 : au (ev a) H2 = au (ev a) H1 := by
   unfold au
   cases hp : tN (ev a) with
   | none => rfl
   | some x => simp only [bo]; rw [e x.1 x.2 hp]
  have e2 : ∀ n, aC n (ev a) H2 = aC n (ev a) H1 := by
   intro n;unfold aC
   cases hp : tN (ev a) with
   | none => rfl
   | some x => simp only [bo]; rw [e x.1 x.2 hp]
  simp only [e1, e2]
 case lookup t m k ok =>
  have e : jD (ev m) H2 = jD (ev m) H1 := by
   unfold jD
   cases hm : ev m with
   | map r =>
    cases r with
    | none => rfl
    | some b => simp only; rw [h b (by simp [Fq, hm])]
   | _ => rfl
  simp only [cu, e]
 case call c =>
  have hb : ∀ b, c.args.toList.map ev = [.map (some b)] → H2.get b = H1.get b := fun b hx => h b (by simp only [Fq]; rw [hx])
  generalize c.args.toList.map ev = xs at hb
  match xs with
  | [] => rfl
  | [x] =>
   simp only
   have e : mz x H2 = mz x H1 := by
    unfold mz
    cases x with
    | map r =>
     cases r with
     | none => rfl
     | some b => simp only; rw [hb b rfl]
    | _ => rfl
   rw [e]
  | x :: y :: zs => rfl
theorem XA {ev : Operand → Value} {op : Op} {v : Value} (h : Av P ev op H = some v) {b : Nat} (hb : Fq ev op = some b) : b < H.size := by
 cases op <;> simp only [Av, Fq] at h hb <;> try (cases hb; done)
 case load t a =>
  obtain ⟨⟨b', o⟩, hp, e⟩ := aN.1 hb;simp only at e;subst e;obtain ⟨g, _, h⟩ := aG.1 h
  cases g with
  | none =>
   simp only [au, hp, bo] at h;obtain ⟨cs, hc, _⟩ := aG.1 h;obtain ⟨ro, hg⟩ := j1 hc;exact AH.lt_of_get hg
  | some n =>
   simp only [aC, hp, bo] at h;obtain ⟨cs, hc, _⟩ := aG.1 h;obtain ⟨ro, hg⟩ := j1 hc;exact AH.lt_of_get hg
 case lookup t m k ok =>
  cases hm : ev m <;> rw [hm] at hb <;> try (cases hb; done)
  simp only at hb;subst hb;obtain ⟨kt, _, h⟩ := aG.1 h;obtain ⟨fl, _, h⟩ := aG.1 h;obtain ⟨z, _, h⟩ := aG.1 h;unfold cu at h
  split at h
  ·obtain ⟨es, hes, _⟩ := aG.1 h
   rw [hm] at hes;simp only [jD] at hes
   split at hes
   ·rename_i hg; exact AH.lt_of_get hg
   ·cases hes
  ·cases h
 case call c =>
  generalize c.args.toList.map ev = xs at h hb
  match xs, h, hb with
  | [x], h, hb =>
   cases x <;> simp only at hb <;> try (cases hb; done)
   subst hb;simp only at h
   cases hd : (c.argTypes[0]?).bind fun t => P.underlying t with
   | none => simp [hd] at h
   | some d =>
    cases d <;> simp only [hd] at h <;> try (cases h; done)
    simp only [mz] at h
    split at h
    ·rename_i hg; exact AH.lt_of_get hg
    ·cases h
  | [], h, hb => cases h
  | x :: y :: zs, h, hb => cases h
theorem uj {ev : Operand → Value} {o : Oper} (hk : j5 o.op = 0) {v : Value} {H' : AH} (h : dK P call ev o H = some (v, H')) : H' = H ∧ ∀ H2, dK P call ev o H2 = some (v, H2) := by
 have key : ∀ {x : Option Value} {H H' : AH} {v : Value}, x.map (·, H) = some (v, H') → H' = H ∧ x = some v := by
  intro x H H' v hx;obtain ⟨y, hy, e⟩ := aN.1 hx;cases e;exact ⟨rfl, hy⟩
 obtain ⟨dst, op, type, pos, after, guard⟩ := o;simp only at hk
 cases op <;> simp [j5] at hk <;> simp only [dK] at h ⊢
 case move x => cases h; exact ⟨rfl, fun _ => rfl⟩
 case assign x => cases h; exact ⟨rfl, fun _ => rfl⟩
 case pick => obtain ⟨e, hx⟩ := key h; exact ⟨e, fun _ => by rw [hx]; rfl⟩
 case nilCheck => obtain ⟨e, hx⟩ := key h; exact ⟨e, fun _ => by rw [hx]; rfl⟩
 case binOp => obtain ⟨e, hx⟩ := key h; exact ⟨e, fun _ => by rw [hx]; rfl⟩
 case unOp => obtain ⟨e, hx⟩ := key h; exact ⟨e, fun _ => by rw [hx]; rfl⟩
 case extract => obtain ⟨e, hx⟩ := key h; exact ⟨e, fun _ => by rw [hx]; rfl⟩
 case makeFunc => cases h; exact ⟨rfl, fun _ => rfl⟩
 case convert src dst x =>
  cases hu : P.underlying src with
  | none => simp [hu] at h
  | some d => simp only [hu] at h; obtain ⟨e, hx⟩ := key h; exact ⟨e, fun _ => by simp [hx]⟩
 case build t parts =>
  cases hu : P.underlying t with
  | none => simp [hu] at h
  | some d =>
   cases d <;> simp only [hu] at h ⊢ <;> try (cases h; done)
   ·obtain ⟨z, hz, h⟩ := aG.1 h
    obtain ⟨e, he, h⟩ := aG.1 h;obtain ⟨y, hy, e2⟩ := aN.1 h;cases e2;exact ⟨rfl, fun _ => by simp [hz, he, hy]⟩
   ·obtain ⟨z, hz, h⟩ := aG.1 h
    obtain ⟨e, he, h⟩ := aG.1 h;obtain ⟨y, hy, e2⟩ := aN.1 h;cases e2;exact ⟨rfl, fun _ => by simp [hz, he, hy]⟩
 case slice t x lo hi mx =>
  cases mx with
  | none =>
   simp only at h ⊢;obtain ⟨z, hz, h⟩ := aG.1 h;obtain ⟨e, he, h⟩ := aG.1 h;obtain ⟨e2, hx⟩ := key h;exact ⟨e2, fun _ => by simp [hz, he, hx]⟩
  | some m =>
   cases lo with
   | some l => cases hi <;> simp at h
   | none =>
    cases hi with
    | none => simp at h
    | some hi =>
     simp only at h ⊢;obtain ⟨z, hz, h⟩ := aG.1 h;obtain ⟨e, he, h⟩ := aG.1 h;obtain ⟨e2, hx⟩ := key h;exact ⟨e2, fun _ => by simp [hz, he, hx]⟩
 case fieldAddr s x f =>
  obtain ⟨z, hz, h⟩ := aG.1 h;obtain ⟨n, hn, h⟩ := aG.1 h
  split at h
  ·cases h
  ·rename_i h0
   obtain ⟨e2, hx⟩ := key h;exact ⟨e2, fun _ => by simp [hz, hn, h0, hx]⟩
 case field s x f =>
  obtain ⟨z, hz, h⟩ := aG.1 h;obtain ⟨n, hn, h⟩ := aG.1 h;obtain ⟨e2, hx⟩ := key h;exact ⟨e2, fun _ => by simp [hz, hn, hx]⟩
 case indexAddr t x i =>
  cases hu : P.underlying t with
  | none => simp [hu] at h
  | some d =>
   cases d <;> simp only [hu] at h ⊢ <;> try (cases h; done)
   ·obtain ⟨n, hn, h⟩ := aG.1 h
    obtain ⟨e2, hx⟩ := key h;exact ⟨e2, fun _ => by simp [hn, hx]⟩
   ·obtain ⟨n, hn, h⟩ := aG.1 h
    obtain ⟨e2, hx⟩ := key h;exact ⟨e2, fun _ => by simp [hn, hx]⟩
 case index t x i =>
  cases hu : P.underlying t with
  | none => simp [hu] at h
  | some d =>
   cases d <;> simp only [hu] at h ⊢ <;> try (cases h; done)
   ·obtain ⟨e2, hx⟩ := key h
    exact ⟨e2, fun _ => by simp [hx]⟩
   ·obtain ⟨n, hn, h⟩ := aG.1 h
    obtain ⟨m, hm, h⟩ := aG.1 h;obtain ⟨e2, hx⟩ := key h;exact ⟨e2, fun _ => by simp [hn, hm, hx]⟩
 case call c =>
  obtain ⟨callee, args, ats⟩ := c
  cases callee <;> simp at hk
  rename_i b
  cases b <;> simp at hk
  ·simp only at h ⊢
   generalize args.toList.map ev = xs at h ⊢
   unfold cj at h ⊢;obtain ⟨e, hx⟩ := key h;exact ⟨e, fun _ => by simp [hx]⟩
  ·simp only at h ⊢
   generalize args.toList.map ev = xs at h ⊢
   unfold cj at h ⊢;obtain ⟨e, hx⟩ := key h;exact ⟨e, fun _ => by simp [hx]⟩
end
section
variable {P : Program} {w0 : World} {B : Nat} {ρ : bv} {H : AH} {w : World} {G : List Nat} {call : bg}
theorem Az {A : List Value} {a : Act} (hA : bU P ρ A a) (hG : GlobRel ρ G) {o : Oper} (hok : o.op.operands.toList.all (L5 G) = true) (hk : j5 o.op = 1) {v : Value} {H' : AH} (h : dK P call (eF A) o H = some (v, H')) :
 ∃ c : AObj, c.rw = true ∧ H' = H.push c ∧ ∀ w : World, ∃ ob sz v', (execOp a.eval o).run P w = .ok (.value v') (w.alloc ob) ∧ pQ P ρ 0 sz c (some ob) ∧
  ∀ ρ' : bv, ρ' H.size = some (w.heap.size, 0, sz) → VRel P ρ' v v' := by
 obtain ⟨dst, op, type, pos, after, guard⟩ := o;simp only at hok hk;have ev : ∀ x, x ∈ op.operands.toList → VRel P ρ (eF A x) (a.eval x) := fun x hx => wJ hA hG (List.all_eq_true.1 hok x hx)
 have cells : ∀ {cs cs' : List Value} {el : TypeId}, LRel P ρ cs cs' → pQ P ρ 0 cs'.length (.cells false cs) (some (.cells cs'.toArray el)) := by
  intro cs cs' el hl;exact ⟨_, el, (0, 0), rfl, by simp, by rw [hl.1]; omega, fun _ => rfl, by rw [hl.1]; simpa using hl⟩
 cases op <;> simp [j5] at hk <;> simp only [dK] at h <;> simp only [execOp]
 case alloc t =>
  obtain ⟨z, hz, e⟩ := aN.1 h;cases e;obtain ⟨i, hi, hzi, hlit, _⟩ := cD hz;refine ⟨_, rfl, rfl, fun w => ⟨.cells z.cells.toList.toArray t, _, .pointer (some ⟨w.heap.size, 0, none⟩), aO ?_, cells (LRel.of_all hlit), fun ρ' hρ => .ptr (d := 0) (o := 0) hρ⟩⟩;simp [Instr.alloc, il hz, newVar, newRow]
 case box t x =>
  cases h;refine ⟨_, rfl, rfl, fun w => ⟨.cells (a.eval x).cells.toList.toArray t, _, .pointer (some ⟨w.heap.size, 0, none⟩), aO ?_, cells (ev x (by simp [Op.operands])).cells, fun ρ' hρ => .ptr (d := 0) (o := 0) hρ⟩⟩;simp [Instr.box, newVar, newRow]
 case makeMap t r =>
  cases r with
  | some r => simp at h
  | none =>
   simp only at h;cases h;refine ⟨_, rfl, rfl, fun w => ⟨.map #[] 0, 0, .map (some w.heap.size), aO ?_, ⟨#[], rfl, rfl, fun _ _ _ h => by simp at h⟩, fun ρ' hρ => .map hρ⟩⟩;simp [Instr.makeMap]
 case buildSlice t len parts =>
  have hx : ∀ x ∈ parts.toList.map (·.2), VRel P ρ (eF A x) (a.eval x) := fun x hx => ev x (by simpa [Op.operands] using hx);obtain ⟨el, hel, h⟩ := aG.1 h;obtain ⟨e, he, h⟩ := aG.1 h;obtain ⟨z, hz, h⟩ := aG.1 h
  split at h
  ·rename_i hc
   obtain ⟨cs, hcs, e2⟩ := aN.1 h;cases e2;obtain ⟨h0, hze, hbig⟩ := hc;obtain ⟨i, hi, hzi, hlit, _⟩ := cD hz;obtain ⟨out', ho, hr⟩ := uZ _ hcs (vh hlit len) (rY parts hx);have hzf := o5 z.cells len (by omega);rw [hze] at hzf
   have hza : ((Array.range (len * e)).map fun x => z.cells[x % e]!) = ((List.replicate len z.cells.toList).flatten).toArray := by rw [← hzf]
   have hlo : out'.length = len * e := by
    have hfl : ∀ {parts : List (Nat × Value)} {cells out : List Value}, cI (fun i => some (i * e, e)) cells parts = some out → out.length = cells.length := by
     intro parts
     induction parts with
     | nil => intro cells out h; simp [cI] at h; rw [h]
     | cons p parts ih =>
      intro cells out h;obtain ⟨i, v⟩ := p;simp only [cI, bo] at h
      split at h
      ·rename_i hc
       rw [ih h, jQ];simp; omega
      ·cases h
    rw [← hr.1, hfl hcs];simp [hze]
   have hnb : ¬ (len * e > 2 ^ 24) := by omega
   refine ⟨_, rfl, rfl, fun w => ⟨.cells out'.toArray el, _, .slice (some ⟨w.heap.size, 0, none⟩) len len, aO ?_, cells hr, fun ρ' hρ => .slice (d := 0) (o := 0) hρ (by rw [hlo]; omega) (bj _) h0⟩⟩
   by_cases hl0 : len = 0
   ·subst hl0
    rw [Nat.zero_mul] at hnb;have hr0 : (Array.range 0) = (#[] : Array Nat) := rfl;have ho0 : (List.replicate 0 z.cells.toList).flatten.toArray = (#[] : Array Value) := rfl;rw [ho0] at ho;simp only [Instr.buildSlice, Sem.run_bind, run_underlying (dV hel), Result.andThen_ok, cA he, Sem.run_ite, Nat.zero_mul, hnb, if_false, Sem.run_pure, if_true, hr0, Array.map_empty, ho, newRow, run_newObj, Nat.zero_add]
    rfl
   have hne : ¬ (len * e = 0) := by
    intro h
    rcases Nat.mul_eq_zero.1 h with h | h <;> omega
   simp only [Instr.buildSlice, Sem.run_bind, run_underlying (dV hel), Result.andThen_ok, cA he, Sem.run_ite, hnb, if_false, Sem.run_pure, hne, il hz, hze, hza, ho, newRow, run_newObj, Nat.zero_add]
   rfl
  ·cases h
 case makeSlice t l c =>
  obtain ⟨el, hel, h⟩ := aG.1 h;obtain ⟨e, he, h⟩ := aG.1 h;obtain ⟨by', hby, h⟩ := aG.1 h;obtain ⟨z, hz, h⟩ := aG.1 h;have hl := ev l (by simp [Op.operands]);have hc := ev c (by simp [Op.operands])
  cases hlv : eF A l <;> rw [hlv] at h <;> simp only [kB] at h <;> try (cases h; done)
  cases hcv : eF A c <;> rw [hcv] at h <;> simp only at h <;> try (cases h; done)
  rename_i k1 l0 k2 c0
  rw [hlv] at hl;rw [hcv] at hc
  split at h
  ·rename_i hcond
   obtain ⟨h0, rfl, hbig, hroom, hpos, hzl⟩ := hcond;cases h;rw [hl.int_inv, hc.int_inv];obtain ⟨i, hi, hzi, hlit, _⟩ := cD hz;have hie := FM he hi;have hib := AS hby hi;unfold room at hbig hroom
   have hln : l0 = (l0.toNat : Int) := by omega
   have hbytes : (i.bytes : Int) * l0 ≤ 281474976710656 := by
    rw [hib, hln, ← Int.natCast_mul]
    have : by' * l0.toNat ≤ 140737488355328 := by rw [Nat.mul_comm]; exact hbig
    omega
   have hzs : z.cells.size = e := by simpa using hzl
   have hm : madeCells z.cells (l0.toNat * i.size) = ((List.replicate l0.toNat z.cells.toList).flatten).toArray := by
    have hzf := o5 z.cells l0.toNat (by omega);rw [hzs] at hzf;unfold madeCells;rw [hie, ← hzf, hzs]
   refine ⟨_, rfl, rfl, fun w => ⟨.cells ((List.replicate l0.toNat z.cells.toList).flatten).toArray el, _, .slice (some ⟨w.heap.size, 0, none⟩) l0.toNat l0.toNat, aO ?_, cells (vh hlit l0.toNat), fun ρ' hρ => .slice (d := 0) (o := 0) hρ (by simp [hzs]) (bj _) hpos⟩⟩;have hrun := run_make (P := P) w t el i z (dV hel) hi hzi k1 k2 l0 l0 h0 (Int.le_refl _) hbytes (by omega);rw [hm] at hrun;exact hrun
  ·cases h
 case call c =>
  obtain ⟨callee, args, ats⟩ := c
  cases callee <;> simp at hk
  rename_i b
  cases b <;> simp at hk
theorem nc {ev ev' : Operand → Value} {o : Oper} (h : ∀ x ∈ o.op.operands.toList, ev x = ev' x) (H : AH) : dK P call ev o H = dK P call ev' o H := by
 obtain ⟨dst, op, type, pos, after, guard⟩ := o;simp only at h
 have pairs : ∀ ps : Array (Nat × Operand), (∀ x ∈ ps.toList.map (·.2), ev x = ev' x) → (ps.toList.map fun p => (p.1, ev p.2)) = ps.toList.map fun p => (p.1, ev' p.2) := by
  intro ps hp;apply List.map_congr_left;intro p hm;rw [hp p.2 (List.mem_map.2 ⟨p, hm, rfl⟩)]
 cases op <;> simp only [dK] <;> simp only [Op.operands] at h
 case build t ps => simp only [pairs ps (fun x hx => h x (by simpa using hx))]
 case buildSlice t n ps => simp only [pairs ps (fun x hx => h x (by simpa using hx))]
 case makeFunc fn first captured =>
  rw [Array.map_congr_left (xs := first) (f := ev) (g := ev') fun x hx => h x (by simp; exact .inl hx), Array.map_congr_left (xs := captured) (f := ev) (g := ev') fun x hx => h x (by simp; exact .inr hx)]
 case call c =>
  have hargs : c.args.toList.map ev = c.args.toList.map ev' := List.map_congr_left fun x hx => h x (by simp only [Call.operands, Array.toList_append, List.mem_append]; exact .inr hx)
  cases hc : c.callee with
  | value f => simp only [hargs, h f (by simp [Call.operands, hc])]
  | invoke r m => rfl
  | builtin b => simp only [hargs]
 case makeMap t r => cases r <;> rfl
 case slice t x lo hi mx =>
  have hx := h x (by simp)
  cases lo <;> cases hi <;> cases mx <;> simp_all
 all_goals (first | rfl | (simp_all; done))
theorem rr {ev ev' : Operand → Value} {op : Op} (h : ∀ x ∈ op.operands.toList, ev x = ev' x) (H : AH) : Av P ev op H = Av P ev' op H := by
 cases op <;> simp only [Av] <;> simp only [Op.operands] at h
 case load t a => rw [h a (by simp)]
 case lookup t m k ok => rw [h m (by simp), h k (by simp)]
 case call c =>
  have hargs : c.args.toList.map ev = c.args.toList.map ev' := List.map_congr_left fun x hx => h x (by simp only [Call.operands, Array.toList_append, List.mem_append]; exact .inr hx);rw [hargs]
def gy (call : bg) : Prop := ∀ f args H v H', call f args H = some (v, H') → H.size ≤ H'.size
theorem Ja (hm : gy call) {ev : Operand → Value} {o : Oper} {H H' : AH} {v : Value} (h : dK P call ev o H = some (v, H')) : H.size ≤ H'.size := by
 have key : ∀ {x : Option Value} {H H' : AH} {v : Value}, x.map (·, H) = some (v, H') → H.size ≤ H'.size := by
  intro x H H' v hx;obtain ⟨y, hy, e⟩ := aN.1 hx;cases e;exact bj _
 by_cases hk : j5 o.op = 0
 ·rw [(uj hk h).1]; exact bj _
 by_cases hk2 : j5 o.op = 2
 ·rw [Au hk2] at h; exact key h
 obtain ⟨dst, op, type, pos, after, guard⟩ := o;simp only at hk hk2
 cases op <;> simp [j5] at hk hk2 <;> simp only [dK] at h <;> try (cases h; done)
 case alloc t => obtain ⟨z, hz, e⟩ := aN.1 h; cases e; rw [AH.size_push]; omega
 case box t x => cases h; rw [AH.size_push]; omega
 case makeMap t r =>
  cases r with
  | some r => simp at h
  | none => simp only at h; cases h; rw [AH.size_push]; omega
 case buildSlice t n ps =>
  obtain ⟨el, hel, h⟩ := aG.1 h;obtain ⟨e, he, h⟩ := aG.1 h;obtain ⟨z, hz, h⟩ := aG.1 h
  split at h
  ·obtain ⟨cs, hcs, e2⟩ := aN.1 h
   cases e2;rw [AH.size_push]; omega
  ·cases h
 case makeSlice t l c =>
  obtain ⟨el, hel, h⟩ := aG.1 h;obtain ⟨e, he, h⟩ := aG.1 h;obtain ⟨by', hby, h⟩ := aG.1 h;obtain ⟨z, hz, h⟩ := aG.1 h;unfold kB at h
  split at h
  ·split at h
   ·cases h; rw [AH.size_push]; omega
   ·cases h
  ·cases h
 case store t x y =>
  obtain ⟨n, hn, h⟩ := aG.1 h;obtain ⟨H2, hH, e⟩ := aN.1 h;cases e;unfold dc at hH;obtain ⟨a, ha, hH⟩ := aG.1 hH
  split at hH
  ·split at hH
   ·cases hH; rw [AH.size_set]; exact bj _
   ·cases hH
  ·cases hH
 case mapUpdate t m k x =>
  obtain ⟨kt, hkt, h⟩ := aG.1 h;obtain ⟨cl, hcl, h⟩ := aG.1 h;obtain ⟨H2, hH, e⟩ := aN.1 h;cases e;unfold dG at hH
  split at hH
  ·split at hH
   ·split at hH
    ·obtain ⟨r, hr, e⟩ := aN.1 hH
     cases r with
     | none => subst e; rw [AH.size_set]; exact bj _
     | some p => subst e; rw [AH.size_set]; exact bj _
    ·cases hH
   ·cases hH
  ·cases hH
 case call c =>
  obtain ⟨callee, args, ats⟩ := c;simp only at h
  cases callee with
  | value f =>
   simp only at h;obtain ⟨fa, hfa, h⟩ := aG.1 h;exact hm _ _ _ _ _ h
  | invoke r m => simp at h
  | builtin b =>
   simp only at h;unfold cj at h
   split at h
   ·simp at hk2
   ·simp at hk
   ·simp at hk
   ·obtain ⟨t0, ht0, h⟩ := aG.1 h
    obtain ⟨el, hel, h⟩ := aG.1 h;obtain ⟨e, he, h⟩ := aG.1 h;obtain ⟨by', hby, h⟩ := aG.1 h;obtain ⟨z, hz, h⟩ := aG.1 h
    split at h
    ·unfold dN at h
     obtain ⟨r, hr, h⟩ := aG.1 h
     split at h
     ·split at h
      ·split at h
       ·split at h
        ·cases h; exact bj _
        ·split at h
         ·cases h; rw [AH.size_push]; omega
         ·cases h
       ·cases h
      ·split at h
       ·cases h; exact bj _
       ·split at h
        ·split at h
         ·cases h; rw [AH.size_push]; omega
         ·cases h
        ·split at h
         ·split at h
          ·cases h; rw [AH.size_push, AH.size_set]; omega
          ·cases h
         ·cases h
      ·cases h
     ·cases h
    ·cases h
   ·obtain ⟨t0, ht0, h⟩ := aG.1 h
    obtain ⟨kt, hkt, h⟩ := aG.1 h;obtain ⟨cl, hcl, h⟩ := aG.1 h;obtain ⟨H2, hH, e⟩ := aN.1 h;cases e;unfold mw at hH
    split at hH
    ·split at hH
     ·split at hH
      ·obtain ⟨r, hr, e⟩ := aN.1 hH
       cases r with
       | none => subst e; rw [AH.size_set]; exact bj _
       | some p => subst e; rw [AH.size_set]; exact bj _
      ·cases hH
     ·cases hH
    ·cases hH
   ·cases h
end
def Cs (acc : List Nat) (o : Oper) : Nat := o.after.toList.foldl (fun s e => if Region.binds .any e && decide (e.on < acc.length) then s ||| (2 ^ e.on ||| acc.getD e.on 0) else s) 0
def bL (ops : List Oper) : List Nat := ops.foldl (fun acc o => acc ++ [Cs acc o]) []
def fb (ms : List Nat) (i j : Nat) : Bool := (ms.getD j 0).testBit i
theorem Oh {acc : List Nat} {o : Oper} {i : Nat} (h : (Cs acc o).testBit i = true) : ∃ e ∈ o.after, Region.binds .any e = true ∧ e.on < acc.length ∧ (i = e.on ∨ (acc.getD e.on 0).testBit i = true) := by
 have key : ∀ (l : List Edge) (s : Nat), (l.foldl (fun s e => if Region.binds .any e && decide (e.on < acc.length) then s ||| (2 ^ e.on ||| acc.getD e.on 0) else s) s).testBit i = true →
  s.testBit i = true ∨ ∃ e ∈ l, Region.binds .any e = true ∧ e.on < acc.length ∧ (i = e.on ∨ (acc.getD e.on 0).testBit i = true) := by
  intro l
  induction l with
  | nil => intro s h; exact .inl h
  | cons e l ih =>
   intro s h;rw [List.foldl_cons] at h
   rcases ih _ h with h1 | ⟨e', he', hh⟩
   ·split at h1
    ·rename_i hc
     simp only [Bool.and_eq_true, decide_eq_true_eq] at hc;rw [Nat.testBit_or, Nat.testBit_or, Nat.testBit_two_pow] at h1;simp only [Bool.or_eq_true, decide_eq_true_eq] at h1
     rcases h1 with h1 | h1 | h1
     ·exact .inl h1
     ·exact .inr ⟨e, by simp, hc.1, hc.2, .inl h1.symm⟩
     ·exact .inr ⟨e, by simp, hc.1, hc.2, .inr h1⟩
    ·exact .inl h1
   ·exact .inr ⟨e', by simp [he'], hh⟩
 rcases key o.after.toList 0 h with h | ⟨e, he, hh⟩
 ·simp at h
 ·exact ⟨e, by simpa using he, hh⟩
theorem TC {α : Type} {p : List α → Prop} (h0 : p []) (h1 : ∀ l a, p l → p (l ++ [a])) (l : List α) : p l := by
 have key : ∀ m : List α, p m.reverse := by
  intro m
  induction m with
  | nil => exact h0
  | cons a m ih => rw [List.reverse_cons]; exact h1 _ _ ih
 have := key l.reverse
 rwa [List.reverse_reverse] at this
theorem Cu (l : List Oper) (o : Oper) : bL (l ++ [o]) = bL l ++ [Cs (bL l) o] := by
 unfold bL; rw [List.foldl_append]; rfl
theorem kI : ∀ l : List Oper, (bL l).length = l.length := by
 refine TC rfl (fun l o ih => ?_);rw [Cu]; simp [ih]
theorem Ct : ∀ (l : List Oper) (j : Nat) (o : Oper), l[j]? = some o → (bL l).getD j 0 = Cs (bL (l.take j)) o := by
 refine TC (fun j o h => by simp at h) (fun l o' ih => ?_)
 ·intro j o h
  rw [Cu]
  by_cases hj : j < l.length
  ·rw [List.getElem?_append_left hj] at h
   have e1 : (bL l ++ [Cs (bL l) o']).getD j 0 = (bL l).getD j 0 := by
    rw [List.getD_eq_getElem?_getD, List.getElem?_append_left (by rw [kI]; exact hj), ← List.getD_eq_getElem?_getD]
   rw [e1, ih j o h, List.take_append_of_le_length (by omega)]
  ·have hl : j = l.length := by
    have := (qw.1 h).1;simp at this; omega
   subst hl;simp at h;subst h;rw [List.getD_eq_getElem?_getD, List.getElem?_append_right (by rw [kI]; exact bj _), kI];simp
theorem y7 (l : List Oper) (j k : Nat) (hk : k < j) (hj : j ≤ l.length) : (bL (l.take j)).getD k 0 = (bL l).getD k 0 := by
 have h1 : k < l.length := by omega
 have h2 : (l.take j)[k]? = some l[k] := by rw [List.getElem?_take, if_pos hk, br h1]
 rw [Ct (l.take j) k _ h2, Ct l k l[k] (br h1), List.take_take]
 congr 2
 congr 1
 omega
theorem jk {ops : Array Oper} {L : Nat → Bool} (hcl : ∀ k o, ops[k]? = some o → L k = true → ∀ e ∈ o.after, Region.binds .any e = true → L e.on = true) :
 ∀ (j : Nat) (o : Oper), ops[j]? = some o → (∀ e ∈ o.after, Region.binds .any e = true → L e.on = true) → ∀ i, fb (bL ops.toList) i j = true → L i = true := by
 intro j
 induction j using Nat.strongRecOn with
 | _ j ih =>
  intro o ho hready i hfb;unfold fb at hfb
  have ho' : ops.toList[j]? = some o := by simpa using ho
  have hj : j < ops.toList.length := (qw.1 ho').1;rw [Ct ops.toList j o ho'] at hfb;obtain ⟨e, he, hb, hlt, hi⟩ := Oh hfb;rw [kI, List.length_take] at hlt
  have hej : e.on < j := by omega
  have hL := hready e he hb
  rcases hi with rfl | hi
  ·exact hL
  ·rw [y7 _ j e.on hej (by omega)] at hi
   have hok : e.on < ops.size := by simp at hj; omega
   exact ih e.on hej ops[e.on] (by simp [hok]) (hcl e.on _ (by simp [hok]) hL) i hi
structure Tra (P : Program) (G : List Nat) (call : bg) (ops : Array Oper) where
 s : Nat → List Value × AH
 val : Nat → Value
 step : ∀ i o, ops[i]? = some o → o.op.operands.toList.all (L5 G) = true ∧ (s (i + 1)).1 = kE (s i).1 o.dst (val i) ∧
  ((Region.wanted o (cV ops (s i).1) = true ∧ dK P call (eF (s i).1) o (s i).2 = some (val i, (s (i + 1)).2)) ∨
   (Region.wanted o (cV ops (s i).1) = false ∧ val i = undef ∧ (s (i + 1)).2 = (s i).2))
 back : ∀ j o, ops[j]? = some o → ∀ e ∈ o.after, Region.binds .any e = true → e.on < j
 pair : ∀ i j oi oj, i < j → ops[i]? = some oi → ops[j]? = some oj → fb (bL ops.toList) i j = true ∨ (oi.apart ops oj = true ∧ ¬ (j5 oi.op = 3 ∧ j5 oj.op = 3))
 look : ∀ j e oj oe, ops[j]? = some oj → ops[e]? = some oe → j5 oj.op = 2 → j5 oe.op = 3 → fb (bL ops.toList) e j = false → fb (bL ops.toList) j e = false →
  Av P (eF (s j).1) oj.op (s (if e < j then e else e + 1)).2 = Av P (eF (s j).1) oj.op (s j).2
section
variable {P : Program} {w0 : World} {B : Nat} {ρ : bv} {H : AH} {w : World} {G : List Nat} {call : bg} {ops : Array Oper}
def AD (T : Tra P G call ops) (L : Nat → Bool) : Nat → List Value
 | 0 => (T.s 0).1
 | k + 1 => match ops[k]? with
  | some o => if L k = true then kE (AD T L k) o.dst (T.val k) else AD T L k
  | none => AD T L k
theorem ma (A : List Value) (d : Option Tmp) (v : Value) : (kE A d v).length = A.length := by cases d <;> simp [kE]
theorem uk {A : List Value} {d : Option Tmp} {v : Value} {t : Nat} (h : d ≠ some t) : (kE A d v)[t]? = A[t]? := by
 cases d with
 | none => rfl
 | some d => simp only [kE]; rw [List.getElem?_set_ne (fun e => h (by rw [e]))]
theorem zG {A : List Value} {t : Nat} {v : Value} : (kE A (some t) v)[t]? = if t < A.length then some v else none := by
 simp only [kE];rw [List.getElem?_set];simp
theorem Us (T : Tra P G call ops) (L : Nat → Bool) : ∀ k, (AD T L k).length = (T.s 0).1.length := by
 intro k
 induction k with
 | zero => rfl
 | succ k ih =>
  simp only [AD]
  split
  ·split
   ·rw [ma, ih]
   ·exact ih
  ·exact ih
theorem afH (T : Tra P G call ops) : ∀ k, k ≤ ops.size → (T.s k).1.length = (T.s 0).1.length := by
 intro k
 induction k with
 | zero => intro _; rfl
 | succ k ih =>
  intro hk
  have ho : ops[k]? = some ops[k] := by simp [Nat.lt_of_succ_le hk]
  rw [(T.step k _ ho).2.1, ma, ih (by omega)]
theorem akB (T : Tra P G call ops) {L : Nat → Bool} {j t : Nat} (hj : j ≤ ops.size) (h1 : ∀ i o, ops[i]? = some o → i < j → o.dst = some t → L i = true) (h2 : ∀ i o, ops[i]? = some o → j ≤ i → o.dst = some t → L i = false) :
 (AD T L ops.size)[t]? = (T.s j).1[t]? := by
 have a1 : ∀ k, k ≤ j → (AD T L k)[t]? = (T.s k).1[t]? := by
  intro k
  induction k with
  | zero => intro _; rfl
  | succ k ih =>
   intro hk
   have hlt : k < ops.size := by omega
   have ho : ops[k]? = some ops[k] := by simp [hlt]
   simp only [AD, ho];rw [(T.step k _ ho).2.1]
   by_cases hd : (ops[k]).dst = some t
   ·rw [if_pos (h1 k _ ho (by omega) hd), hd, zG, zG, Us, afH T k (by omega)]
   ·rw [uk hd]
    split
    ·rw [uk hd]; exact ih (by omega)
    ·exact ih (by omega)
 have a2 : ∀ k, j ≤ k → k ≤ ops.size → (AD T L k)[t]? = (AD T L j)[t]? := by
  intro k
  induction k with
  | zero => intro hk _; rw [show j = 0 from by omega]
  | succ k ih =>
   intro hk hs
   by_cases he : j = k + 1
   ·rw [he]
   ·have hlt : k < ops.size := by omega
    have ho : ops[k]? = some ops[k] := by simp [hlt]
    simp only [AD, ho]
    by_cases hd : (ops[k]).dst = some t
    ·rw [if_neg (by rw [h2 k _ ho (by omega) hd]; simp)]; exact ih (by omega) (by omega)
    ·split
     ·rw [uk hd]; exact ih (by omega) (by omega)
     ·exact ih (by omega) (by omega)
 rw [a2 _ hj (bj _), a1 j (bj _)]
theorem alG (T : Tra P G call ops) {L : Nat → Bool} {j : Nat} {o : Oper} (ho : ops[j]? = some o) (hj : L j = false) (hlater : ∀ i oi, ops[i]? = some oi → j < i → L i = true → ∀ t, o.dst = some t → oi.dst ≠ some t) :
 AD T (fun i => if i = j then true else L i) ops.size = kE (AD T L ops.size) o.dst (T.val j) := by
 have key : ∀ k, k ≤ ops.size → AD T (fun i => if i = j then true else L i) k = if j < k then kE (AD T L k) o.dst (T.val j) else AD T L k := by
  intro k
  induction k with
  | zero => intro _; simp [AD]
  | succ k ih =>
   intro hk
   have hlt : k < ops.size := by omega
   have hok : ops[k]? = some ops[k] := by simp [hlt]
   simp only [AD, hok];rw [ih (by omega)]
   by_cases hkj : k = j
   ·subst hkj
    rw [ho] at hok;cases hok;simp [hj]
   ·simp only [if_neg hkj]
    by_cases hjk : j < k
    ·have h3 : j < k + 1 := by omega
     rw [if_pos hjk, if_pos h3]
     by_cases hL : L k = true
     ·rw [if_pos hL, if_pos hL]
      -- two slots, or none
      cases hd : o.dst with
      | none => rfl
      | some t =>
       have hne := hlater k _ hok hjk hL t hd
       cases hdk : (ops[k]).dst with
       | none => rfl
       | some u =>
        have : t ≠ u := fun e => hne (by rw [hdk, e]);simp only [kE];rw [List.set_comm _ _ this]
     ·rw [if_neg hL, if_neg hL]
    ·have h3 : ¬ j < k + 1 := by omega
     rw [if_neg hjk, if_neg h3]
 rw [key _ (bj _), if_pos (by have := (Array.getElem?_eq_some_iff.1 ho).1; omega)]
theorem ahB (T : Tra P G call ops) : ∀ k, AD T (fun _ => false) k = (T.s 0).1 := by
 intro k
 induction k with
 | zero => rfl
 | succ k ih => simp only [AD]; split <;> simp [ih]
theorem alF (T : Tra P G call ops) {L : Nat → Bool} (h : ∀ i, i < ops.size → L i = true) : AD T L ops.size = (T.s ops.size).1 := by
 apply List.ext_getElem?;intro t;exact akB T (bj _) (fun i o ho hi _ => h i hi) (fun i o ho hi _ => by have := (Array.getElem?_eq_some_iff.1 ho).1; omega)
theorem Rel.agree {H2 : AH} (h : Rel P w0 B ρ H w) (ha : ∀ b x, ρ b = some x → b < H2.size ∧ H2.get b = H.get b) : Rel P w0 B ρ H2 w where
 base := h.base
 below := h.below
 dom := fun b x hx => (ha b x hx).1
 blk := h.blk
 obj := fun b c d sz o hx ho => h.obj b c d sz o hx (by rw [← (ha b _ hx).2]; exact ho)
 own := fun b c d sz o hx ho => h.own b c d sz o hx (by rw [← (ha b _ hx).2]; exact ho)
 ro := fun b c d sz cs hx ho => h.ro b c d sz cs hx (by rw [← (ha b _ hx).2]; exact ho)
 inj := fun b b' c d d' sz sz' o o' hx hx' ho ho' => h.inj b b' c d d' sz sz' o o' hx hx' (by rw [← (ha b _ hx).2]; exact ho) (by rw [← (ha b' _ hx').2]; exact ho')
def bv.below (ρ : bv) (m : Nat) : bv := fun b => if b < m then ρ b else none
theorem bv.below_some {ρ : bv} {m b : Nat} {x : Nat × Nat × Nat} (h : ρ.below m b = some x) : b < m ∧ ρ b = some x := by
 unfold bv.below at h
 split at h
 ·exact ⟨by assumption, h⟩
 ·cases h
theorem bv.below_lt {ρ : bv} {m b : Nat} (h : b < m) : ρ.below m b = ρ b := by simp [bv.below, h]
theorem Rel.fill (h : Rel P w0 B ρ H w) {b : Nat} (hb : ρ b = none) {o : AObj} {ob : Obj} {sz : Nat} (hrw : o.rw = true) (hnew : pQ P ρ 0 sz o (some ob)) {H2 : AH} (hs : b < H2.size) (hg : H2.get b = some o)
 (ha : ∀ b' x, ρ b' = some x → b' < H2.size ∧ H2.get b' = H.get b') : Rel P w0 B (ρ.upd b (w.heap.size, 0, sz)) H2 (w.alloc ob) := by
 have hB := h.size;have hle := bv.upd_le (x := (w.heap.size, 0, sz)) hb;have hheap : ∀ k, k < w.heap.size → (w.alloc ob).heap[k]? = w.heap[k]? := fun k hk => Below.heap_alloc w ob k hk;have hlast : (w.alloc ob).heap[w.heap.size]? = some ob := heap_alloc_new w ob
 have cases' : ∀ {b1 x}, ρ.upd b (w.heap.size, 0, sz) b1 = some x → (b1 = b ∧ x = (w.heap.size, 0, sz)) ∨ (b1 ≠ b ∧ ρ b1 = some x) := by
  intro b1 x hx
  by_cases e : b1 = b
  ·subst e; rw [bv.upd_same] at hx; exact .inl ⟨rfl, (fi hx).symm⟩
  ·rw [bv.upd_ne e] at hx; exact .inr ⟨e, hx⟩
 refine ⟨h.base, h.below.alloc hB ob, ?_, ?_, ?_, ?_, ?_, ?_⟩
 ·intro b1 x hx
  rcases cases' hx with ⟨rfl, _⟩ | ⟨_, hx⟩
  ·exact hs
  ·exact (ha b1 x hx).1
 ·intro b1 c d sz1 hx
  rw [World.size_alloc]
  rcases cases' hx with ⟨rfl, e⟩ | ⟨_, hx⟩
  ·cases e; omega
  ·have := h.blk b1 c d sz1 hx; omega
 ·intro b1 c d sz1 o1 hx ho1
  rcases cases' hx with ⟨rfl, e⟩ | ⟨_, hx⟩
  ·cases e; rw [hg] at ho1; cases ho1; rw [hlast]; exact hnew.mono hle
  ·rw [(ha b1 _ hx).2] at ho1
   rw [hheap c (h.blk b1 c d sz1 hx)]; exact (h.obj b1 c d sz1 o1 hx ho1).mono hle
 ·intro b1 c d sz1 o1 hx ho1 hr1
  rcases cases' hx with ⟨rfl, e⟩ | ⟨_, hx⟩
  ·cases e; exact hB
  ·rw [(ha b1 _ hx).2] at ho1; exact h.own b1 c d sz1 o1 hx ho1 hr1
 ·intro b1 c d sz1 cs hx ho1
  rcases cases' hx with ⟨rfl, e⟩ | ⟨_, hx⟩
  ·rw [hg] at ho1; cases ho1; simp [AObj.rw] at hrw
  ·rw [(ha b1 _ hx).2] at ho1; exact h.ro b1 c d sz1 cs hx ho1
 ·intro b1 b2 c d1 d2 sz1 sz2 o1 o2 hx1 hx2 ho1 ho2 hr1 hr2
  rcases cases' hx1 with ⟨e1, e⟩ | ⟨n1, hx1⟩ <;> rcases cases' hx2 with ⟨e2, e'⟩ | ⟨n2, hx2⟩
  ·rw [e1, e2]
  ·cases e; have := h.blk _ _ _ _ hx2; omega
  ·cases e'; have := h.blk _ _ _ _ hx1; omega
  ·rw [(ha b1 _ hx1).2] at ho1; rw [(ha b2 _ hx2).2] at ho2
   exact h.inj _ _ _ _ _ _ _ _ _ hx1 hx2 ho1 ho2 hr1 hr2
end
section
variable {P : Program} {w0 : World} {B : Nat} {ρ : bv} {H : AH} {w : World} {G : List Nat} {call : bg}
def gj (P : Program) (ρ : bv) (w : World) (r : Result Next) (v : Value) : Prop := ∃ v', r = .ok (.value v') w ∧ VRel P ρ v v'
theorem gj.mk {r : Result Next} {v v' : Value} (hr : r = .ok (.value v') w) (hv : VRel P ρ v v') : gj P ρ w r v := ⟨v', hr, hv⟩
theorem F2 (hR : Rel P w0 B ρ H w) {b : Builtin} {ts : Array TypeId} {t : TypeId} {cs : Array Bool} {xs : List Value} {ys : Array Value} (hl : LRel P ρ xs ys.toList) (hb : b = .len ∨ b = .max ∨ b = .min) {v : Value} {H' : AH} (h : cj P b ts xs H = some (v, H')) :
 gj P ρ w ((builtin b ts t cs ys).run P w) v := by
 unfold cj at h
 split at h
 ·-- len
  rename_i x
  obtain ⟨x', rfl, hx⟩ := S5 hl rfl
  cases hts : ts[0]? with
  | none => simp [hts] at h
  | some t0 =>
   simp only [hts, bo] at h
   cases hu : P.underlying t0 with
   | none => simp [hu] at h
   | some d =>
    cases d <;> simp only [hu] at h <;> try (cases h; done)
    case string =>
     cases x <;> simp only at h <;> try (cases h; done)
     obtain ⟨y, hy, e⟩ := aN.1 h;cases e;simp [pL] at hy;subst hy;rw [hx.string_inv];exact gj.mk (by simp [builtin, Builtin.len_, hts, run_underlying hu, goInt]) (.lit rfl)
    case slice el =>
     cases x <;> simp only at h <;> try (cases h; done)
     obtain ⟨y, hy, e⟩ := aN.1 h;cases e;simp [pL] at hy;subst hy;obtain ⟨a', k', rfl, _⟩ := hx.anyslice_inv;exact gj.mk (by simp [builtin, Builtin.len_, hts, run_underlying hu, goInt]) (.lit rfl)
    case map k el =>
     obtain ⟨y, hy, e⟩ := aN.1 h;cases e
     cases x <;> simp only [mz] at hy <;> try (cases hy; done)
     rename_i r
     cases r with
     | none =>
      simp only at hy;cases hy;rw [hx.nilmap_inv];exact gj.mk (by simp [builtin, Builtin.len_, hts, run_underlying hu, goInt]) (.lit rfl)
     | some b =>
      simp only at hy
      split at hy
      ·rename_i es c hg
       cases hy;obtain ⟨c', d, sz, hb, rfl⟩ := hx.map_inv;obtain ⟨es', hw, hrel⟩ := hR.map hb hg
       have hsz : es'.size = es.length := by simpa using hrel.1
       exact gj.mk (by simp [builtin, Builtin.len_, hts, run_underlying hu, ei hw, goInt, hsz]) (.lit rfl)
      ·cases hy
 ·obtain ⟨y, hy, e⟩ := aN.1 h
  cases e;obtain ⟨hr, hv⟩ := SR (w := w) hl hy ts t;exact gj.mk (by simp only [builtin]; exact aO hr) (.lit hv)
 ·obtain ⟨y, hy, e⟩ := aN.1 h
  cases e;obtain ⟨hr, hv⟩ := SS (w := w) hl hy ts t;exact gj.mk (by simp only [builtin]; exact aO hr) (.lit hv)
 ·rcases hb with hb | hb | hb <;> cases hb
 ·rcases hb with hb | hb | hb <;> cases hb
 ·cases h
theorem KV {call : bg} {A : List Value} {a : Act} (hA : bU P ρ A a) (hG : GlobRel ρ G) (hR : Rel P w0 B ρ H w) {o : Oper} (hok : o.op.operands.toList.all (L5 G) = true)
 (hk : j5 o.op = 0 ∨ j5 o.op = 2) {v : Value} {H' : AH} (h : dK P call (eF A) o H = some (v, H')) : gj P ρ w ((execOp a.eval o).run P w) v := by
 obtain ⟨dst, op, type, pos, after, guard⟩ := o;simp only at hok hk;have ev : ∀ x, x ∈ op.operands.toList → VRel P ρ (eF A x) (a.eval x) := fun x hx => wJ hA hG (List.all_eq_true.1 hok x hx)
 cases op <;> try (simp [j5] at hk; done)
 all_goals simp only [dK] at h
 all_goals simp only [execOp]
 case move x => cases h; exact gj.mk rfl (ev x (by simp [Op.operands]))
 case assign x => cases h; exact gj.mk rfl (ev x (by simp [Op.operands]))
 case pick c x y =>
  obtain ⟨z, hz, e⟩ := aN.1 h;cases e;have hc := ev c (by simp [Op.operands])
  cases hcv : eF A c <;> rw [hcv] at hz <;> simp only [aM] at hz <;> try (cases hz; done)
  rename_i t
  cases hz;rw [hcv] at hc;rw [hc.bool_inv];cases t
  ·exact gj.mk (by simp [asBool]) (ev y (by simp [Op.operands]))
  ·exact gj.mk (by simp [asBool]) (ev x (by simp [Op.operands]))
 case build t parts =>
  have hx : ∀ x ∈ parts.toList.map (·.2), VRel P ρ (eF A x) (a.eval x) := fun x hx => ev x (by simpa [Op.operands] using hx)
  cases hu : P.underlying t with
  | none => simp [hu] at h
  | some d =>
   cases d <;> simp only [hu] at h <;> try (cases h; done)
   case struct fs =>
    obtain ⟨z, hz, h⟩ := aG.1 h;obtain ⟨ps, hps, h⟩ := aG.1 h;obtain ⟨cs, hcs, e⟩ := aN.1 h;cases e;obtain ⟨v', hr, hv⟩ := Es (w := w) hx hz hu hps hcs;exact gj.mk (aO hr) hv
   case array n el =>
    obtain ⟨z, hz, h⟩ := aG.1 h;obtain ⟨e, he, h⟩ := aG.1 h;obtain ⟨cs, hcs, e⟩ := aN.1 h;cases e;obtain ⟨v', hr, hv⟩ := uo (w := w) hx hz hu he hcs;exact gj.mk (aO hr) hv
 case load t x =>
  have hx := ev x (by simp [Op.operands]);obtain ⟨g, hg, h⟩ := aG.1 h
  cases g with
  | none =>
   obtain ⟨y, hy, e⟩ := aN.1 h;cases e;obtain ⟨a', y', ha, hr, hv⟩ := ac0 hR hy hx;exact gj.mk (aO (by simp [Instr.loadAt, ha, Instr.sureAddr, loadVar, n8 hg]; simpa using hr)) hv
  | some n =>
   obtain ⟨y, hy, e⟩ := aN.1 h;cases e;obtain ⟨a', ys, ha, hr, hv⟩ := Ky hR hy hx;obtain ⟨hag, hsz⟩ := n9 hg w;exact gj.mk (aO (by simp [Instr.loadAt, ha, Instr.sureAddr, loadVar, hag, cA hsz, hr])) hv
 case nilCheck x =>
  have hx := ev x (by simp [Op.operands]);obtain ⟨y, hy, e⟩ := aN.1 h;cases e;obtain ⟨rfl, hr⟩ := KL hy hx
  have e2 : (Ok (a.eval x)).run P w = .ok (.value (a.eval x)) w := by rw [hr]; rfl
  exact gj.mk e2 hx
 case binOp op t x y yt =>
  obtain ⟨z, hz, e⟩ := aN.1 h;cases e;obtain ⟨hr, hl⟩ := KI hz (ev x (by simp [Op.operands])) (ev y (by simp [Op.operands])) x y w;exact gj.mk (aO hr) (.lit hl)
 case unOp op t x =>
  obtain ⟨z, hz, e⟩ := aN.1 h;cases e;obtain ⟨hr, hl⟩ := Tb hz (ev x (by simp [Op.operands])) w;exact gj.mk (aO hr) (.lit hl)
 case convert src dst x =>
  cases hu : P.underlying src with
  | none => simp [hu] at h
  | some d =>
   simp only [hu] at h;obtain ⟨z, hz, e⟩ := aN.1 h;cases e;have hx := ev x (by simp [Op.operands])
   cases hk : qr P dst with
   | none => simp [hk, bI] at hz
   | some k =>
    cases hxv : eF A x <;> rw [hk, hxv] at hz <;> simp only [bI] at hz <;> try (cases hz; done)
    rename_i k0 n
    cases hz;rw [hxv] at hx;rw [hx.int_inv];have hud := E3 hk
    have hkd : P.intKind dst = k := by simp [Program.intKind, hud]
    have hr := run_convert_int (P := P) w src dst k0 n (by simp [hu]) (by rw [hkd]; exact hud);rw [hkd] at hr;exact gj.mk (aO hr) (.lit rfl)
 case makeFunc fn first captured =>
  cases h;refine gj.mk (aO (by simp [Instr.makeFunc]; rfl)) ?_;refine .func (by simp) (fun i x y hx hy => ?_) (by simp) (fun i x y hx hy => ?_)
  ·simp only [Array.getElem?_map, aN] at hx hy
   obtain ⟨p, hp, rfl⟩ := hx;obtain ⟨q, hq, rfl⟩ := hy;rw [hp] at hq; cases hq;exact ev p (by simp only [Op.operands, Array.toList_append, List.mem_append]; exact .inl (by simpa using Array.mem_of_getElem? hp))
  ·simp only [Array.getElem?_map, aN] at hx hy
   obtain ⟨p, hp, rfl⟩ := hx;obtain ⟨q, hq, rfl⟩ := hy;rw [hp] at hq; cases hq;exact ev p (by simp only [Op.operands, Array.toList_append, List.mem_append]; exact .inr (by simpa using Array.mem_of_getElem? hp))
 case slice t x lo hi mx =>
  cases mx with
  | none =>
   simp only at h;obtain ⟨el, hel, h⟩ := aG.1 h;obtain ⟨e, he, h⟩ := aG.1 h;obtain ⟨z, hz, e2⟩ := aN.1 h;cases e2;have hx := ev x (by simp [Op.operands]);obtain ⟨v', hr, hv⟩ := FO (w := w) (lo' := lo.map a.eval) (hi' := hi.map a.eval) (dV hel) he hz hx
    (by cases lo with
        | none => exact .inl ⟨rfl, rfl⟩
        | some l => exact .inr ⟨_, _, rfl, rfl, ev l (by simp [Op.operands])⟩)
    (by cases hi with
        | none => exact .inl ⟨rfl, rfl⟩
        | some l => exact .inr ⟨_, _, rfl, rfl, ev l (by simp [Op.operands])⟩)
   exact gj.mk (aO hr) hv
  | some mx =>
   cases lo with
   | some lo => cases hi <;> simp at h
   | none =>
    cases hi with
    | none => simp at h
    | some hi =>
     simp only at h;obtain ⟨el, hel, h⟩ := aG.1 h;obtain ⟨e, he, h⟩ := aG.1 h;obtain ⟨z, hz, e2⟩ := aN.1 h;cases e2;obtain ⟨v', hr, hv⟩ := Dk (w := w) (dV hel) he hz (ev x (by simp [Op.operands])) (ev hi (by simp [Op.operands])) (ev mx (by simp [Op.operands]));exact gj.mk (aO hr) hv
 case fieldAddr s x f =>
  obtain ⟨fd, hf, h⟩ := aG.1 h;obtain ⟨n, hn, h⟩ := aG.1 h
  split at h
  ·cases h
  ·rename_i h0
   obtain ⟨z, hz, e2⟩ := aN.1 h;cases e2;obtain ⟨fs, hu, hfs⟩ := oH hf;obtain ⟨v', hr, hv⟩ := SC (w := w) hu hfs hn h0 rfl hz (ev x (by simp [Op.operands]));exact gj.mk (aO hr) hv
 case field s x f =>
  obtain ⟨fd, hf, h⟩ := aG.1 h;obtain ⟨n, hn, h⟩ := aG.1 h;obtain ⟨z, hz, e2⟩ := aN.1 h;cases e2;obtain ⟨fs, hu, hfs⟩ := oH hf;have hx := ev x (by simp [Op.operands])
  cases hxv : eF A x <;> rw [hxv] at hz <;> try (simp [j2] at hz; done)
  rename_i xs
  rw [hxv] at hx;obtain ⟨ys, v', hys, hr, hv⟩ := CC (w := w) hn hz hx;refine gj.mk (aO ?_) hv;simp [Instr.field, run_underlying hu, hfs, hys, asAgg, hr]
 case indexAddr t x i =>
  cases hu : P.underlying t with
  | none => simp [hu] at h
  | some d =>
   cases d <;> simp only [hu] at h <;> try (cases h; done)
   case slice el =>
    obtain ⟨e, he, h⟩ := aG.1 h;obtain ⟨z, hz, e2⟩ := aN.1 h;cases e2;obtain ⟨v', hr, hv⟩ := SG (w := w) hu he hz (ev x (by simp [Op.operands])) (ev i (by simp [Op.operands]));exact gj.mk (aO hr) hv
   case array n el =>
    obtain ⟨e, he, h⟩ := aG.1 h;obtain ⟨z, hz, e2⟩ := aN.1 h;cases e2;obtain ⟨v', hr, hv⟩ := Kp (w := w) hu he hz (ev x (by simp [Op.operands])) (ev i (by simp [Op.operands]));exact gj.mk (aO hr) hv
 case index t x i =>
  cases hu : P.underlying t with
  | none => simp [hu] at h
  | some d =>
   cases d <;> simp only [hu] at h <;> try (cases h; done)
   case string =>
    obtain ⟨z, hz, e2⟩ := aN.1 h;cases e2;obtain ⟨v', hr, hv⟩ := Cg (w := w) hu hz (ev x (by simp [Op.operands])) (ev i (by simp [Op.operands]));exact gj.mk (aO hr) hv
   case array n el =>
    obtain ⟨e, he, h⟩ := aG.1 h;obtain ⟨nn, hnn, h⟩ := aG.1 h;obtain ⟨z, hz, e2⟩ := aN.1 h;cases e2;obtain ⟨v', hr, hv⟩ := Ch (w := w) hu he hnn hz (ev x (by simp [Op.operands])) (ev i (by simp [Op.operands]));exact gj.mk (aO hr) hv
 case lookup t m k ok =>
  obtain ⟨⟨kt, et⟩, hkt, h⟩ := aG.1 h;obtain ⟨cl, hcl, h⟩ := aG.1 h;obtain ⟨z, hz, h⟩ := aG.1 h;obtain ⟨y, hy, e2⟩ := aN.1 h;cases e2;obtain ⟨v', hr, hv⟩ := Cq hR hkt hcl hz hy (ev m (by simp [Op.operands])) (ev k (by simp [Op.operands]));exact gj.mk (aO hr) hv
 case extract t i =>
  obtain ⟨z, hz, e2⟩ := aN.1 h;cases e2;have hx := ev t (by simp [Op.operands])
  cases hxv : eF A t <;> rw [hxv] at hz <;> simp only [ak] at hz <;> try (cases hz; done)
  rename_i vs
  rw [hxv] at hx;obtain ⟨ys, hys, hs, he⟩ := hx.tuple_inv;have hi : i < vs.size := (Array.getElem?_eq_some_iff.1 hz).1
  have hi' : i < ys.size := by omega
  exact gj.mk (aO (by simp [Instr.extract, hys, hi']; rfl)) (he i _ _ hz (by simp [hi']))
 case call c =>
  obtain ⟨callee, args, ats⟩ := c
  cases callee with
  | value f => simp [j5] at hk
  | invoke r m => simp at h
  | builtin b =>
   simp only at h;have hl : LRel P ρ (args.toList.map (eF A)) (args.map a.eval).toList := z7 (fun x hx => ev x (by simp only [Op.operands, Call.operands, Array.toList_append, List.mem_append]; exact .inr hx));simp only [resolve, Sem.run_bind, Sem.run_pure, Result.andThen_ok, invoke];refine F2 hR hl ?_ h
   cases b <;> first | (simp [j5] at hk; done) | simp
def dS (P : Program) (o : Oper) (ev : Operand → Value) (w : World) (R : Value → World → Prop) : Prop :=
 match (execOp ev o).run P w with
 | .ok (.value v) w' => R v w'
 | .ok .skip w' => R undef w'
 | .ok (.enter f args) w' => Calls P f args w' fun e w'' => ∃ v, e = .returned v ∧ R v w''
 | _ => False
theorem dS.wp {o : Oper} {a : Act} {R : Value → World → Prop} {next : Act → World → Prop} {Q : Exit → Act → World → Prop} (h : dS P o a.eval w R) (hn : ∀ v w', R v w' → next (a.put o.dst v) w') : o.wp P a w next Q := by
 unfold dS at h;unfold Oper.wp
 split at h
 ·rename_i v w' hr; rw [hr, Oper.upon_value]; exact hn _ _ h
 ·rename_i w' hr; rw [hr, Oper.upon_skip]; exact hn _ _ h
 ·rename_i f args w' hr
  rw [hr, Oper.upon_enter];refine h.mono ?_
  rintro e w'' ⟨v, rfl, hR⟩
  exact hn _ _ hR
 ·exact h.elim
theorem dS.mono {o : Oper} {ev : Operand → Value} {R R' : Value → World → Prop} (h : dS P o ev w R) (hm : ∀ v w', R v w' → R' v w') : dS P o ev w R' := by
 unfold dS at h ⊢
 split at h
 ·exact hm _ _ h
 ·exact hm _ _ h
 ·refine Calls.mono h ?_
  rintro e w'' ⟨v, rfl, hR⟩
  exact ⟨v, rfl, hm _ _ hR⟩
 ·exact h.elim
theorem dS.some {o : Oper} {ev : Operand → Value} {R : Value → World → Prop} (h : dS P o ev w R) : ∃ v w', R v w' := by
 unfold dS at h
 split at h
 ·exact ⟨_, _, h⟩
 ·exact ⟨_, _, h⟩
 ·obtain ⟨e, w', fr, ⟨v, _, hR⟩, _⟩ := h []
  exact ⟨v, w', hR⟩
 ·exact h.elim
theorem dS.congr {o : Oper} {ev ev' : Operand → Value} {R : Value → World → Prop} (h : dS P o ev w R) (e : execOp ev o = execOp ev' o) : dS P o ev' w R := by
 unfold dS at h ⊢
 rwa [← e]
theorem vq (hcall : lq P G call) {A : List Value} {a : Act} (hA : bU P ρ A a) (hG : GlobRel ρ G) (hR : Rel P w0 B ρ H w) {o : Oper} (hok : o.op.operands.toList.all (L5 G) = true)
 {v : Value} {H' : AH} (h : dK P call (eF A) o H = some (v, H')) : dS P o a.eval w fun v' w' => ∃ ρ', VRel P ρ' v v' ∧ ix ρ H w ρ' H' w' ∧ Rel P w0 B ρ' H' w' := by
 by_cases hc : ∃ c f, o.op = .call c ∧ c.callee = .value f
 ·obtain ⟨c, f, ho, hcf⟩ := hc
  obtain ⟨dst, op, type, pos, after, guard⟩ := o;simp only at ho;subst ho;obtain ⟨callee, args, ats⟩ := c;simp only at hcf;subst hcf;have ev : ∀ x, x ∈ (Op.call { callee := .value f, args := args, argTypes := ats }).operands.toList → VRel P ρ (eF A x) (a.eval x) := fun x hx => wJ hA hG (List.all_eq_true.1 hok x hx);simp only [dK] at h;obtain ⟨⟨g, xs⟩, hfa, h⟩ := aG.1 h;simp only at h;have hl : LRel P ρ (args.toList.map (eF A)) (args.map a.eval).toList := z7 (fun x hx => ev x (by simp only [Op.operands, Call.operands, Array.toList_append, List.mem_append]; exact .inr hx));obtain ⟨first, captured, hf, hx⟩ := AV hfa (ev f (by simp [Op.operands, Call.operands])) hl;obtain ⟨⟨fn, hfn, hbody, hname⟩, hcalls⟩ := hcall g xs H v H' h;have hcl := hcalls w0 B ρ w _ hR hG hx;have hrun : (execOp a.eval { dst := dst, op := .call { callee := .value f, args := args, argTypes := ats }, type := type, pos := pos, after := after, guard := guard }).run P w =
   .ok (.enter g (first ++ args.map a.eval ++ captured)) w := by
   have hbn : ¬ (fn.body = none) := by intro hb; rw [hb] at hbody; cases hbody
   simp [execOp, resolve, hf, Deferred.ofValue, invoke, callFunc, hfn, hname, hbn]
  unfold dS;rw [hrun]
  have e : (first.toList ++ (args.map a.eval).toList ++ captured.toList).toArray = first ++ args.map a.eval ++ captured := by
   apply Array.ext'; simp
  rw [e] at hcl;refine hcl.mono ?_
  rintro e w' ⟨v', ρ', rfl, hv, hE, hR'⟩
  exact ⟨v', rfl, ρ', hv, hE, hR'⟩
 ·obtain ⟨v', w', ρ', hr | ⟨hr, rfl⟩, hv, he, hR'⟩ := adT hA hG hR hok (fun c f ho hcf => hc ⟨c, f, ho, hcf⟩) h
  ·unfold dS; rw [hr]; exact ⟨ρ', hv, he, hR'⟩
  ·unfold dS; rw [hr]; exact ⟨ρ', hv, he, hR'⟩
def WF (P : Program) (m : Nat) (v : Value) : Prop := ∃ ρ1 v1, (∀ b x, ρ1 b = some x → b < m) ∧ VRel P ρ1 v v1
theorem WF.under {m : Nat} {v v' : Value} (h : WF P m v) (k : VRel P ρ v v') : VRel P (ρ.below m) v v' := by
 obtain ⟨ρ1, v1, hm, h⟩ := h
 have up : ∀ {b x y}, ρ1 b = some x → ρ b = some y → ρ.below m b = some y := fun h1 h2 => by rw [bv.below_lt (hm _ _ h1)]; exact h2
 induction h generalizing v' with
 | lit hl =>
  cases k with
  | lit h => exact .lit h
  | agg hs he => simp [cJ] at hl
  | tuple hs he => simp [cJ] at hl
  | iface h => simp [cJ] at hl
  | func _ _ _ _ => simp [cJ] at hl
  | ptr _ => simp [cJ] at hl
  | slice _ _ _ _ => simp [cJ] at hl
  | slice0 _ => simp [cJ] at hl
  | empty => simp [cJ] at hl
  | map _ => simp [cJ] at hl
 | ptr h => cases k with
  | lit h => simp [cJ] at h
  | ptr h2 => exact .ptr (up h h2)
 | slice h hk hn he => cases k with
  | lit h => simp [cJ] at h
  | slice h2 a b c => exact .slice (up h h2) a b c
  | slice0 h2 => exact .slice0 (up h h2)
  | empty => exact .empty
 | slice0 h => cases k with
  | lit h => simp [cJ] at h
  | slice h2 a b c => exact .slice (up h h2) a b c
  | slice0 h2 => exact .slice0 (up h h2)
  | empty => exact .empty
 | empty => cases k with
  | lit h => simp [cJ] at h
  | slice h2 a b c => omega
  | slice0 h2 => exact .empty
  | empty => exact .empty
 | map h => cases k with
  | lit h => simp [cJ] at h
  | map h2 => exact .map (up h h2)
 | func hf _ hc _ ih1 ih2 => cases k with
  | lit h => simp [cJ] at h
  | func hf' h1 hc' h2 =>
   refine .func hf' (fun i x y hx hy => ?_) hc' (fun i x y hx hy => ?_)
   ·have hi := (Array.getElem?_eq_some_iff.1 hx).1
    exact ih1 i x _ hx (Array.getElem?_eq_getElem (by omega)) (h1 i x y hx hy)
   ·have hi := (Array.getElem?_eq_some_iff.1 hx).1
    exact ih2 i x _ hx (Array.getElem?_eq_getElem (by omega)) (h2 i x y hx hy)
 | iface _ ih => cases k with
  | lit h => simp [cJ] at h
  | iface h => exact .iface (ih h)
 | agg hs _ ih => cases k with
  | lit h => simp [cJ] at h
  | agg hs' h1 =>
   refine .agg hs' (fun i x y hx hy => ?_);have hi := (Array.getElem?_eq_some_iff.1 hx).1;exact ih i x _ hx (Array.getElem?_eq_getElem (by omega)) (h1 i x y hx hy)
 | tuple hs _ ih => cases k with
  | lit h => simp [cJ] at h
  | tuple hs' h1 =>
   refine .tuple hs' (fun i x y hx hy => ?_);have hi := (Array.getElem?_eq_some_iff.1 hx).1;exact ih i x _ hx (Array.getElem?_eq_getElem (by omega)) (h1 i x y hx hy)
def qx (S : Nat → Bool) (A : List Value) : List Value := A.mapIdx fun i v => if S i then v else undef
theorem rS (S : Nat → Bool) (A : List Value) (t : Nat) : (qx S A)[t]? = (A[t]?).map fun v => if S t then v else undef := by
 simp [qx]
theorem ac7 {S : Nat → Bool} {A : List Value} {a : Act} {ρ' : bv} (hA : bU P ρ A a) (hS : ∀ t x y, S t = true → A[t]? = some x → VRel P ρ x y → VRel P ρ' x y) :
 bU P ρ' (qx S A) { tmps := (qx S a.tmps.toList).toArray, defers := [] } := by
 refine ⟨⟨by simp [qx, hA.tmps.1], fun t x y hx hy => ?_⟩, rfl⟩;rw [rS] at hx;rw [List.toList_toArray, rS] at hy;obtain ⟨x0, hx0, rfl⟩ := aN.1 hx;obtain ⟨y0, hy0, rfl⟩ := aN.1 hy
 by_cases h : S t = true
 ·rw [if_pos h, if_pos h]; exact hS t x0 y0 h hx0 (hA.tmps.2 t x0 y0 hx0 hy0)
 ·rw [if_neg h, if_neg h]; exact VRel.undef
def s7 (op : Op) (t : Nat) : Bool := op.operands.toList.any fun x => match x with | .tmp u => u == t | _ => false
theorem Lr {op : Op} {t : Nat} (h : Operand.tmp t ∈ op.operands.toList) : s7 op t = true := by
 unfold s7;rw [List.any_eq_true];exact ⟨_, h, by simp⟩
theorem HQ {op : Op} {t : Nat} (h : s7 op t = true) : Operand.tmp t ∈ op.operands.toList := by
 unfold s7 at h;obtain ⟨x, hx, h⟩ := List.any_eq_true.1 h
 cases x <;> simp at h
 subst h; exact hx
theorem SQ {op : Op} {A : List Value} {x : Operand} (hx : x ∈ op.operands.toList) : eF (qx (s7 op) A) x = eF A x := by
 cases x with
 | tmp t =>
  simp only [eF, rS, Lr hx, if_true]
  cases A[t]? <;> rfl
 | _ => rfl
theorem E7 {op : Op} {a : Act} {d : List Deferred} {x : Operand} (hx : x ∈ op.operands.toList) : ({ tmps := (qx (s7 op) a.tmps.toList).toArray, defers := d } : Act).eval x = a.eval x := by
 cases x with
 | tmp t =>
  simp only [Act.eval, Array.getD_eq_getD_getElem?, List.getElem?_toArray, rS, Lr hx, if_true, Array.getElem?_toList]
  cases a.tmps[t]? <;> rfl
 | _ => rfl
end
section
variable {P : Program} {w0 : World} {B : Nat} {ρ : bv} {H : AH} {w : World} {G : List Nat} {call : bg} {ops : Array Oper}
theorem Rel.pushU (h : Rel P w0 B ρ H w) (c : AObj) : Rel P w0 B ρ (H.push c) w :=
 h.agree fun b x hx => ⟨by rw [AH.size_push]; have := h.dom b x hx; omega, AH.get_push_old (h.dom b x hx)⟩
theorem ix.pushU {ρ0 : bv} {H0 : AH} {wS : World} (h : ix ρ0 H0 wS ρ H w) (c : AObj) : ix ρ0 H0 wS ρ (H.push c) w where
 le := h.le
 fresh := fun b x hx hn => by have := h.fresh b x hx hn; rw [AH.size_push]; omega
 hsize := by rw [AH.size_push]; have := h.hsize; omega
 wsize := h.wsize
 keepA := fun b hb hn => by rw [AH.get_push_old (by have := h.hsize; omega)]; exact h.keepA b hb hn
 keepRo := fun b o ho hr => by have := h.keepRo b o ho hr; rw [AH.get_push_old (AH.lt_of_get this)]; exact this
 keepC := h.keepC
 newC := h.newC
theorem cS {b b1 : Nat} {x y : Nat × Nat × Nat} (hx : ρ.upd b y b1 = some x) : (b1 = b ∧ x = y) ∨ (b1 ≠ b ∧ ρ b1 = some x) := by
 by_cases e : b1 = b
 ·subst e; rw [bv.upd_same] at hx; exact .inl ⟨rfl, (fi hx).symm⟩
 ·rw [bv.upd_ne e] at hx; exact .inr ⟨e, hx⟩
theorem Rel.none_size (h : Rel P w0 B ρ H w) : ρ H.size = none := by
 cases hn : ρ H.size with
 | none => rfl
 | some x => have := h.dom _ _ hn; omega
theorem Rel.pushM (h : Rel P w0 B ρ H w) {o : AObj} {c sz : Nat} (hrw : o.rw = true) (hB : B ≤ c) (hc : c < w.heap.size) (ho : pQ P ρ 0 sz o w.heap[c]?) (hd : ∀ b d sz1, ρ b = some (c, d, sz1) → False) :
 Rel P w0 B (ρ.upd H.size (c, 0, sz)) (H.push o) w := by
 have hle := bv.upd_le (x := (c, 0, sz)) h.none_size;have old : ∀ {b x}, ρ b = some x → (H.push o).get b = H.get b := fun hx => AH.get_push_old (h.dom _ _ hx);refine ⟨h.base, h.below, ?_, ?_, ?_, ?_, ?_, ?_⟩
 ·intro b x hx
  rw [AH.size_push]
  rcases cS hx with ⟨rfl, _⟩ | ⟨_, hx⟩
  ·omega
  ·have := h.dom b x hx; omega
 ·intro b c1 d sz1 hx
  rcases cS hx with ⟨rfl, e⟩ | ⟨_, hx⟩
  ·cases e; exact hc
  ·exact h.blk b c1 d sz1 hx
 ·intro b c1 d sz1 o1 hx ho1
  rcases cS hx with ⟨rfl, e⟩ | ⟨_, hx⟩
  ·cases e; rw [AH.get_push_new] at ho1; cases ho1; exact ho.mono hle
  ·rw [old hx] at ho1; exact (h.obj b c1 d sz1 o1 hx ho1).mono hle
 ·intro b c1 d sz1 o1 hx ho1 hr1
  rcases cS hx with ⟨rfl, e⟩ | ⟨_, hx⟩
  ·cases e; exact hB
  ·rw [old hx] at ho1; exact h.own b c1 d sz1 o1 hx ho1 hr1
 ·intro b c1 d sz1 cs hx ho1
  rcases cS hx with ⟨rfl, e⟩ | ⟨_, hx⟩
  ·rw [AH.get_push_new] at ho1; cases ho1; simp [AObj.rw] at hrw
  ·rw [old hx] at ho1; exact h.ro b c1 d sz1 cs hx ho1
 ·intro b1 b2 c1 d1 d2 sz1 sz2 o1 o2 hx1 hx2 ho1 ho2 hr1 hr2
  rcases cS hx1 with ⟨e1, e⟩ | ⟨n1, hx1⟩ <;> rcases cS hx2 with ⟨e2, e'⟩ | ⟨n2, hx2⟩
  ·rw [e1, e2]
  ·cases e; exact (hd _ _ _ hx2).elim
  ·cases e'; exact (hd _ _ _ hx1).elim
  ·rw [old hx1] at ho1; rw [old hx2] at ho2
   exact h.inj _ _ _ _ _ _ _ _ _ hx1 hx2 ho1 ho2 hr1 hr2
theorem ix.updN {ρ0 : bv} {H0 : AH} {wS : World} (h : ix ρ0 H0 wS ρ H w) {b c d sz : Nat} (hb : ρ b = none) (h0 : H0.size ≤ b) (h1 : b < H.size) (hc : wS.heap.size ≤ c) : ix ρ0 H0 wS (ρ.upd b (c, d, sz)) H w where
 le := fun b1 x hx => bv.upd_le hb b1 x (h.le b1 x hx)
 fresh := fun b1 x hx hn => by
  rcases cS hx with ⟨rfl, _⟩ | ⟨_, hx⟩
  ·exact ⟨h0, h1⟩
  ·exact h.fresh b1 x hx hn
 hsize := h.hsize
 wsize := h.wsize
 keepA := h.keepA
 keepRo := h.keepRo
 keepC := h.keepC
 newC := fun b1 c1 d1 sz1 hx hn => by
  rcases cS hx with ⟨rfl, e⟩ | ⟨_, hx⟩
  ·cases e; exact .inl hc
  ·exact h.newC b1 c1 d1 sz1 hx hn
theorem Rel.allocW (h : Rel P w0 B ρ H w) (ob : Obj) : Rel P w0 B ρ H (w.alloc ob) where
 base := h.base
 below := h.below.alloc h.size ob
 dom := h.dom
 blk := fun b c d sz hx => by rw [World.size_alloc]; have := h.blk b c d sz hx; omega
 obj := fun b c d sz o hx ho => by rw [Below.heap_alloc w ob c (h.blk b c d sz hx)]; exact h.obj b c d sz o hx ho
 own := h.own
 ro := h.ro
 inj := h.inj
theorem ix.allocW {ρ0 : bv} {H0 : AH} {wS : World} (h : ix ρ0 H0 wS ρ H w) (ob : Obj) : ix ρ0 H0 wS ρ H (w.alloc ob) :=
 { h with
  wsize := by rw [World.size_alloc]; have := h.wsize; omega
  keepC := fun c hc hf => by rw [Below.heap_alloc w ob c (by have := h.wsize; omega)]; exact h.keepC c hc hf }
theorem Mj {m : Nat} {x : Nat × Nat × Nat} (h : ρ m = some x) : ρ.below (m + 1) = (ρ.below m).upd m x := by
 funext b
 unfold bv.below bv.upd
 by_cases e : b = m
 ·subst e; simp [h]
 ·by_cases hb : b < m
  ·rw [if_pos (by omega), if_neg e]; simp [hb]
  ·rw [if_neg (by omega), if_neg e]; simp [hb]
theorem yR {m : Nat} (h : ρ m = none) : ρ.below (m + 1) = ρ.below m := by
 funext b
 unfold bv.below
 by_cases e : b = m
 ·subst e; simp [h]
 ·by_cases hb : b < m
  ·rw [if_pos (by omega), if_pos hb]
  ·rw [if_neg (by omega), if_neg hb]
theorem ul {m : Nat} : ∀ b x, ρ.below m b = some x → ρ b = some x := fun _ _ h => (bv.below_some h).2
theorem Mi {m m' : Nat} (hm : m ≤ m') : ∀ b x, ρ.below m b = some x → ρ.below m' b = some x := fun b x h => by
 obtain ⟨h1, h2⟩ := bv.below_some h;rw [bv.below_lt (by omega)]; exact h2
def pad (N : Nat) (H : AH) : AH := ⟨(List.range N).map fun b => (H.get b).getD .dead⟩
theorem ad8 (N : Nat) (H : AH) : (pad N H).size = N := by simp [pad, AH.size]
theorem Tc {N : Nat} {H : AH} {b : Nat} (h : b < N) : (pad N H).get b = some ((H.get b).getD .dead) := by
 unfold pad;simp [AH.get, h]
theorem Td {N : Nat} {H : AH} {b : Nat} (h : b < H.size) (hN : H.size ≤ N) : (pad N H).get b = H.get b := by
 rw [Tc (by omega)]
 cases hg : H.get b with
 | some o => rfl
 | none =>
  unfold AH.get at hg;unfold AH.size at h;rw [List.getElem?_eq_none_iff] at hg;omega
theorem Rel.pad {N : Nat} (h : Rel P w0 B (ρ.below H.size) H w) (hN : H.size ≤ N) (hfull : ∀ b x, ρ b = some x → b < N) (hblk : ∀ b c d sz, ρ b = some (c, d, sz) → c < w.heap.size) : Rel P w0 B ρ (Gst.pad N H) w := by
 have key : ∀ {b x o}, ρ b = some x → (Gst.pad N H).get b = some o → (b < H.size ∧ ρ.below H.size b = some x ∧ H.get b = some o) ∨ o = .dead := by
  intro b x o hx ho
  by_cases hb : b < H.size
  ·rw [Td hb hN] at ho
   exact .inl ⟨hb, by rw [bv.below_lt hb]; exact hx, ho⟩
  ·rw [Tc (hfull b x hx), AH.get_none (by omega)] at ho
   cases ho; exact .inr rfl
 refine ⟨h.base, h.below, fun b x hx => by rw [ad8]; exact hfull b x hx, hblk, ?_, ?_, ?_, ?_⟩
 ·intro b c d sz o hx ho
  rcases key hx ho with ⟨_, h1, h2⟩ | rfl
  ·exact (h.obj b c d sz o h1 h2).mono ul
  ·trivial
 ·intro b c d sz o hx ho hr
  rcases key hx ho with ⟨_, h1, h2⟩ | rfl
  ·exact h.own b c d sz o h1 h2 hr
  ·simp [AObj.rw] at hr
 ·intro b c d sz cs hx ho
  rcases key hx ho with ⟨_, h1, h2⟩ | e
  ·exact h.ro b c d sz cs h1 h2
  ·cases e
 ·intro b1 b2 c d1 d2 sz1 sz2 o1 o2 hx1 hx2 ho1 ho2 hr1 hr2
  rcases key hx1 ho1 with ⟨_, h1, h2⟩ | rfl
  ·rcases key hx2 ho2 with ⟨_, h3, h4⟩ | rfl
   ·exact h.inj _ _ _ _ _ _ _ _ _ h1 h3 h2 h4 hr1 hr2
   ·simp [AObj.rw] at hr2
  ·simp [AObj.rw] at hr1
structure Way (T : Tra P G call ops) (w0 : World) (B : Nat) (ρ0 : bv) (wS : World) : Prop where
 hcall : lq P G call
 mono : gy call
 glob : GlobRel ρ0 G
 rel : Rel P w0 B ρ0 (T.s 0).2 wS
 act : ∃ a, bU P ρ0 (T.s 0).1 a
variable {T : Tra P G call ops} {ρ0 : bv} {wS : World}
theorem akX (W : Way T w0 B ρ0 wS) : ∀ i, i ≤ ops.size → ∃ ρ1 a1 w1, bU P ρ1 (T.s i).1 a1 ∧ GlobRel ρ1 G ∧ Rel P w0 B ρ1 (T.s i).2 w1 := by
 intro i
 induction i with
 | zero => intro _; obtain ⟨a, ha⟩ := W.act; exact ⟨ρ0, a, wS, ha, W.glob, W.rel⟩
 | succ i ih =>
  intro hi;obtain ⟨ρ1, a1, w1, hA, hG, hR⟩ := ih (by omega)
  have ho : ops[i]? = some ops[i] := by simp [Nat.lt_of_succ_le hi]
  obtain ⟨hok, hs, h | ⟨_, hv, hH⟩⟩ := T.step i _ ho
  ·obtain ⟨v', w', ρ', hv, hE, hR'⟩ := (vq W.hcall hA hG hR hok h.2).some
   exact ⟨ρ', _, w', by rw [hs]; exact jP (hA.mono hE.le) _ hv, hG.mono hE.le, hR'⟩
  ·exact ⟨ρ1, _, w1, by rw [hs, hv]; exact jP hA _ VRel.undef, hG, by rw [hH]; exact hR⟩
theorem ajY (W : Way T w0 B ρ0 wS) {i t : Nat} {v : Value} (hi : i ≤ ops.size) (h : (T.s i).1[t]? = some v) : WF P (T.s i).2.size v := by
 obtain ⟨ρ1, a1, w1, hA, _, hR⟩ := akX W i hi;obtain ⟨y, _, hv⟩ := hA.tmps.get h;exact ⟨ρ1, y, hR.dom, hv⟩
theorem Fd (op : Op) : j5 op = 0 ∨ j5 op = 1 ∨ j5 op = 2 ∨ j5 op = 3 := by
 unfold j5
 split <;> first | omega | (split <;> omega)
theorem FU (W : Way T w0 B ρ0 wS) {i : Nat} {o : Oper} (ho : ops[i]? = some o) (hk : j5 o.op ≠ 3) : (T.s (i + 1)).2 = (T.s i).2 ∨ (j5 o.op = 1 ∧ ∃ c : AObj, c.rw = true ∧ (T.s (i + 1)).2 = (T.s i).2.push c) := by
 have hi := (Array.getElem?_eq_some_iff.1 ho).1;obtain ⟨hok, hs, ⟨hw, h⟩ | ⟨_, hv, hH⟩⟩ := T.step i o ho
 ·rcases Fd o.op with h0 | h1 | h2 | h3
  ·exact .inl (uj h0 h).1
  ·obtain ⟨ρ1, a1, w1, hA, hG, hR⟩ := akX W i (by omega)
   obtain ⟨c, hc, e, _⟩ := Az hA hG hok h1 h;exact .inr ⟨h1, c, hc, e⟩
  ·rw [Au h2] at h
   obtain ⟨y, _, e⟩ := aN.1 h;exact .inl (Prod.mk.inj e).2.symm
  ·exact absurd h3 hk
 ·exact .inl hH
theorem FN (W : Way T w0 B ρ0 wS) {i : Nat} (hi : i < ops.size) : (T.s i).2.size ≤ (T.s (i + 1)).2.size := by
 have ho : ops[i]? = some ops[i] := by simp [hi]
 obtain ⟨hok, hs, ⟨_, h⟩ | ⟨_, _, hH⟩⟩ := T.step i _ ho
 ·exact Ja W.mono h
 ·rw [hH]; exact bj _
theorem bY (W : Way T w0 B ρ0 wS) {i j : Nat} (hij : i ≤ j) (hj : j ≤ ops.size) : (T.s i).2.size ≤ (T.s j).2.size := by
 induction j with
 | zero => rw [show i = 0 from by omega]; exact bj _
 | succ j ih =>
  by_cases e : i = j + 1
  ·rw [e]; exact bj _
  ·exact dZ (ih (by omega) (by omega)) (FN W (by omega))
theorem i5 (W : Way T w0 B ρ0 wS) {i j : Nat} (hij : i < j) (hj : j ≤ ops.size) {c : AObj} (hp : (T.s (i + 1)).2 = (T.s i).2.push c) : (T.s i).2.size < (T.s j).2.size := by
 have := bY W (Nat.succ_le_of_lt hij) hj;rw [hp, AH.size_push] at this;omega
theorem KW (W : Way T w0 B ρ0 wS) {k1 k2 : Nat} (h12 : k1 ≤ k2) (hk : k2 ≤ ops.size) (hno : ∀ i o, ops[i]? = some o → k1 ≤ i → i < k2 → j5 o.op ≠ 3) {b : Nat} (hb : b < (T.s k1).2.size) : (T.s k2).2.get b = (T.s k1).2.get b := by
 induction k2 with
 | zero => rw [show k1 = 0 from by omega]
 | succ k ih =>
  by_cases e : k1 = k + 1
  ·rw [e]
  ·have hlt : k < ops.size := by omega
   have ho : ops[k]? = some ops[k] := by simp [hlt]
   have h1 := ih (by omega) (by omega) (fun i o hi h1 h2 => hno i o hi h1 (by omega))
   rcases FU W ho (hno k _ ho (by omega) (by omega)) with h2 | ⟨_, c, _, h2⟩
   ·rw [h2, h1]
   ·rw [h2, AH.get_push_old (Nat.lt_of_lt_of_le hb (bY W (by omega) (by omega))), h1]
theorem akQ (T : Tra P G call ops) {i j : Nat} {o : Oper} (ho : ops[j]? = some o) (h : fb (bL ops.toList) i j = true) : i < j := by
 have := jk (L := fun k => decide (k < j)) (fun k ok hk hL e he hb => by
  have := T.back k ok hk e he hb;simp only [decide_eq_true_eq] at hL ⊢
  omega) j o ho (fun e he hb => by simpa using T.back j o ho e he hb) i h
 simpa using this
structure pA (T : Tra P G call ops) (w0 : World) (B : Nat) (ρ0 : bv) (wS : World) (L : Nat → Bool) (a : Act) (w : World) (ρ : bv) (t : Nat) : Prop where
 closed : ∀ k o, ops[k]? = some o → L k = true → ∀ e ∈ o.after, Region.binds .any e = true → L e.on = true
 act : bU P ρ (AD T L ops.size) a
 rel : Rel P w0 B (ρ.below (T.s t).2.size) (T.s t).2 w
 ext : ix ρ0 (T.s 0).2 wS (ρ.below (T.s t).2.size) (T.s t).2 w
 ht : t ≤ ops.size
 ht1 : t = 0 ∨ ∃ o, ops[t - 1]? = some o ∧ j5 o.op = 3
 hE : ∀ i o, ops[i]? = some o → j5 o.op = 3 → (L i = true ↔ i < t)
 full : ∀ b x, ρ b = some x → b < (T.s ops.size).2.size
 blk : ∀ b c d sz, ρ b = some (c, d, sz) → c < w.heap.size
 pend : ∀ b x, ρ b = some x → (T.s t).2.size ≤ b → ∃ i o c c' sz, ops[i]? = some o ∧ t ≤ i ∧ L i = true ∧ b = (T.s i).2.size ∧ (T.s (i + 1)).2 = (T.s i).2.push c ∧ x = (c', 0, sz) ∧ c.rw = true ∧ wS.heap.size ≤ c' ∧ pQ P (ρ.below b) 0 sz c w.heap[c']?
 alone : ∀ b b' c d sz d' sz', ρ b = some (c, d, sz) → ρ b' = some (c, d', sz') → (T.s t).2.size ≤ b → b = b'
 later : ∀ i o c, ops[i]? = some o → j5 o.op = 1 → (T.s (i + 1)).2 = (T.s i).2.push c → L i = false → ρ (T.s i).2.size = none ∧ (i < t → (T.s t).2.get (T.s i).2.size = (T.s (i + 1)).2.get (T.s i).2.size)
variable {L : Nat → Bool} {a : Act} {t : Nat}
theorem pA.glob (W : Way T w0 B ρ0 wS) (I : pA T w0 B ρ0 wS L a w ρ t) {m : Nat} (hm : (T.s 0).2.size ≤ m) : GlobRel (ρ.below m) G := by
 refine W.glob.mono (fun b x hx => ?_);have h1 := ul _ _ (I.ext.le b x hx);have h2 := W.rel.dom b x hx;rw [bv.below_lt (by omega)]; exact h1
theorem pA.derive (W : Way T w0 B ρ0 wS) (I : pA T w0 B ρ0 wS L a w ρ t) : ∀ k, t ≤ k → k ≤ ops.size → (∀ i o, ops[i]? = some o → t ≤ i → i < k → j5 o.op ≠ 3) →
 Rel P w0 B (ρ.below (T.s k).2.size) (T.s k).2 w ∧ ix ρ0 (T.s 0).2 wS (ρ.below (T.s k).2.size) (T.s k).2 w := by
 intro k
 induction k with
 | zero => intro h _ _; have e : t = 0 := by omega
           subst e; exact ⟨I.rel, I.ext⟩
 | succ k ih =>
  intro h1 h2 hno
  by_cases e : t = k + 1
  ·subst e; exact ⟨I.rel, I.ext⟩
  ·have hlt : k < ops.size := by omega
   have ho : ops[k]? = some ops[k] := by simp [hlt]
   obtain ⟨hR, hX⟩ := ih (by omega) (by omega) (fun i o hi h1 h2 => hno i o hi h1 (by omega))
   rcases FU W ho (hno k _ ho (by omega) (by omega)) with h3 | ⟨hk1, c, hc, h3⟩
   ·rw [h3]; exact ⟨hR, hX⟩
   ·rw [h3, AH.size_push]
    cases hρ : ρ (T.s k).2.size with
    | none => rw [yR hρ]; exact ⟨hR.pushU c, hX.pushU c⟩
    | some x =>
     have htk := bY W (show t ≤ k by omega) (by omega);obtain ⟨i, o, c2, c', sz, hoi, hti, hLi, hb, hp, rfl, hrw, hw, hO⟩ := I.pend _ _ hρ htk;have hio := (Array.getElem?_eq_some_iff.1 hoi).1
     have hik : i = k := by
      rcases Nat.lt_trichotomy i k with h | h | h
      ·have := i5 W h (by omega) hp; omega
      ·exact h
      ·have := i5 W h (by omega) h3; omega
     subst hik;rw [h3] at hp
     have hcc : c = c2 := by
      have := AH.get_push_new (T.s i).2 c;rw [hp, AH.get_push_new] at this;exact (fi this).symm
     subst hcc;rw [Mj hρ];refine ⟨hR.pushM hrw (dZ W.rel.size hw) (I.blk _ _ _ _ hρ) hO (fun b1 d sz1 hx => ?_), ?_⟩
     ·obtain ⟨h5, h6⟩ := bv.below_some hx
      have := I.alone _ _ _ _ _ _ _ hρ h6 htk;omega
     ·exact (hX.pushU c).updN (by unfold bv.below; rw [if_neg (by omega)]) (bY W (Nat.zero_le _) (by omega)) (by rw [AH.size_push]; omega) hw
structure Next (T : Tra P G call ops) (L : Nat → Bool) (j : Nat) (o : Oper) : Prop where
 ho : ops[j]? = some o
 hj : L j = false
 ready : ∀ e ∈ o.after, Region.binds .any e = true → L e.on = true
theorem pA.slots (I : pA T w0 B ρ0 wS L a w ρ t) {j : Nat} {o : Oper} (N : Next T L j o) {u : Nat} (hu : u ∈ o.looksAt ops) : (AD T L ops.size)[u]? = (T.s j).1[u]? := by
 have hjn := (Array.getElem?_eq_some_iff.1 N.ho).1;refine akB T (by omega) (fun i oi hi hij hd => ?_) (fun i oi hi hij hd => ?_)
 ·rcases T.pair i j oi o hij hi N.ho with h | ⟨h, _⟩
  ·exact jk I.closed j o N.ho N.ready i h
  ·exact absurd hu ((Oper.apart_spec h).1 u hd)
 ·cases hL : L i with
  | false => rfl
  | true =>
   by_cases e : i = j
   ·subst e; rw [N.hj] at hL; exact hL.symm
   ·rcases T.pair j i o oi (by omega) N.ho hi with h | ⟨h, _⟩
    ·have := jk I.closed i oi hi (I.closed i oi hi hL) j h
     rw [N.hj] at this; cases this
    ·exact absurd hu ((Oper.apart_spec h).2.2 u hd)
theorem sV {o : Oper} {u : Nat} (h : Operand.tmp u ∈ o.op.operands.toList) : u ∈ o.looksAt ops := by
 unfold Oper.looksAt;exact List.mem_append_left _ (List.mem_filterMap.2 ⟨_, h, rfl⟩)
theorem pA.evs (I : pA T w0 B ρ0 wS L a w ρ t) {j : Nat} {o : Oper} (N : Next T L j o) {x : Operand} (hx : x ∈ o.op.operands.toList) : eF (AD T L ops.size) x = eF (T.s j).1 x := by
 cases x with
 | tmp u => simp only [eF]; rw [I.slots N (sV hx)]
 | _ => rfl
theorem pA.wanted (I : pA T w0 B ρ0 wS L a w ρ t) {j : Nat} {o : Oper} (N : Next T L j o) : Region.wanted o (yielded ops a.tmps) = Region.wanted o (cV ops (T.s j).1) := by
 rw [ub I.act];unfold Region.wanted
 cases hg : o.guard with
 | none => rfl
 | some gw =>
  obtain ⟨g, want⟩ := gw
  have : cV ops (AD T L ops.size) g = cV ops (T.s j).1 g := by
   unfold cV
   cases hd : (ops[g]?).bind (·.dst) with
   | none => rfl
   | some u =>
    simp only [bo];rw [I.slots N (u := u) (by unfold Oper.looksAt; simp [hg, hd])]
  simp only [this]
theorem pA.set (I : pA T w0 B ρ0 wS L a w ρ t) {j : Nat} {o : Oper} (N : Next T L j o) : AD T (fun i => if i = j then true else L i) ops.size = kE (AD T L ops.size) o.dst (T.val j) := by
 refine alG T N.ho N.hj (fun i oi hi hij hL u hd hd' => ?_)
 rcases T.pair j i o oi hij N.ho hi with h | ⟨h, _⟩
 ·have := jk I.closed i oi hi (I.closed i oi hi hL) j h
  rw [N.hj] at this; cases this
 ·exact (Oper.apart_spec h).2.1 u hd hd'
theorem pA.closed' (I : pA T w0 B ρ0 wS L a w ρ t) {j : Nat} {o : Oper} (N : Next T L j o) : ∀ k ok, ops[k]? = some ok → (fun i => if i = j then true else L i) k = true → ∀ e ∈ ok.after, Region.binds .any e = true → (fun i => if i = j then true else L i) e.on = true := by
 intro k ok hk hL e he hb;simp only
 by_cases hej : e.on = j
 ·rw [if_pos hej]
 ·rw [if_neg hej]
  by_cases hkj : k = j
  ·subst hkj
   rw [N.ho] at hk; cases hk;exact N.ready e he hb
  ·simp only [if_neg hkj] at hL
   exact I.closed k ok hk hL e he hb
theorem pA.masked (W : Way T w0 B ρ0 wS) (I : pA T w0 B ρ0 wS L a w ρ t) {j : Nat} {o : Oper} (N : Next T L j o) :
 bU P (ρ.below (T.s j).2.size) (qx (s7 o.op) (AD T L ops.size)) { tmps := (qx (s7 o.op) a.tmps.toList).toArray, defers := [] } := by
 have hjn := (Array.getElem?_eq_some_iff.1 N.ho).1;refine ac7 I.act (fun u x y hu hx hv => ?_);rw [I.slots N (sV (HQ hu))] at hx;exact (ajY W (by omega) hx).under hv
end
section
variable {P : Program} {w0 : World} {B : Nat} {ρ : bv} {w : World} {G : List Nat} {call : bg} {ops : Array Oper} {T : Tra P G call ops} {ρ0 : bv} {wS : World} {L : Nat → Bool} {a : Act} {t : Nat}
abbrev sn (L : Nat → Bool) (j : Nat) : Nat → Bool := fun i => if i = j then true else L i
theorem HL {i j : Nat} (h : i ≠ j) : sn L j i = L i := by simp [sn, h]
theorem HM {i j : Nat} (h : L i = true) : sn L j i = true := by simp only [sn]; split <;> first | rfl | exact h
theorem tC {i j : Nat} (h : sn L j i = false) : i ≠ j ∧ L i = false := by
 simp only [sn] at h
 split at h
 ·cases h
 ·exact ⟨by assumption, h⟩
theorem pA.same (I : pA T w0 B ρ0 wS L a w ρ t) {j : Nat} {o : Oper} (N : Next T L j o) (hk : j5 o.op ≠ 3) {v' : Value} (hv : VRel P ρ (T.val j) v') : pA T w0 B ρ0 wS (sn L j) (a.put o.dst v') w ρ t where
 closed := I.closed' N
 act := by rw [I.set N]; exact jP I.act o.dst hv
 rel := I.rel
 ext := I.ext
 ht := I.ht
 ht1 := I.ht1
 hE := fun i oi hi h3 => by
  have : i ≠ j := fun e => by subst e; rw [N.ho] at hi; cases hi; exact hk h3
  rw [HL this]; exact I.hE i oi hi h3
 full := I.full
 blk := I.blk
 pend := fun b x hx hb => by
  obtain ⟨i, oi, c, c', sz, h1, h2, h3, h4⟩ := I.pend b x hx hb;exact ⟨i, oi, c, c', sz, h1, h2, HM h3, h4⟩
 alone := I.alone
 later := fun i oi c hi h1 hp hL => I.later i oi c hi h1 hp (tC hL).2
theorem amB (I : pA T w0 B ρ0 wS L a w ρ t) {j : Nat} {o : Oper} (N : Next T L j o) (hk : j5 o.op = 3) : t ≤ j ∧ ∀ i oi, ops[i]? = some oi → t ≤ i → i < j → j5 oi.op ≠ 3 := by
 refine ⟨?_, fun i oi hi hti hij h3 => ?_⟩
 ·rcases Nat.lt_or_ge j t with h | h
  ·have := (I.hE j o N.ho hk).2 h
   rw [N.hj] at this; cases this
  ·exact h
 ·rcases T.pair i j oi o hij hi N.ho with h | ⟨_, h⟩
  ·have := jk I.closed j o N.ho N.ready i h
   have := (I.hE i oi hi h3).1 this;omega
  ·exact h ⟨h3, hk⟩
theorem pA.alloc (W : Way T w0 B ρ0 wS) (I : pA T w0 B ρ0 wS L a w ρ t) {j : Nat} {o : Oper} (N : Next T L j o) (hk : j5 o.op = 1) {c : AObj} (hc : c.rw = true) (hp : (T.s (j + 1)).2 = (T.s j).2.push c) {ob : Obj} {sz : Nat} {v' : Value}
 (hO : pQ P (ρ.below (T.s j).2.size) 0 sz c (some ob)) (hv : ∀ ρ' : bv, ρ' (T.s j).2.size = some (w.heap.size, 0, sz) → VRel P ρ' (T.val j) v') :
 pA T w0 B ρ0 wS (sn L j) (a.put o.dst v') (w.alloc ob) (ρ.upd (T.s j).2.size (w.heap.size, 0, sz)) t := by
 have hjn := (Array.getElem?_eq_some_iff.1 N.ho).1;obtain ⟨hnone, hbefore⟩ := I.later j o c N.ho hk hp N.hj;have hle := bv.upd_le (x := (w.heap.size, 0, sz)) hnone;have hltn := i5 W (show j < ops.size from hjn) (bj _) hp
 have bmono : ∀ {b i x}, ρ.below b i = some x → (ρ.upd (T.s j).2.size (w.heap.size, 0, sz)).below b i = some x := by
  intro b i x hx;obtain ⟨h1, h2⟩ := bv.below_some hx;rw [bv.below_lt h1]; exact hle _ _ h2
 have hrel : Rel P w0 B ((ρ.upd (T.s j).2.size (w.heap.size, 0, sz)).below (T.s t).2.size) (T.s t).2 (w.alloc ob) ∧ ix ρ0 (T.s 0).2 wS ((ρ.upd (T.s j).2.size (w.heap.size, 0, sz)).below (T.s t).2.size) (T.s t).2 (w.alloc ob) := by
  rcases Nat.lt_or_ge j t with hjt | hjt
  ·have hlt := i5 W hjt I.ht hp
   have e : (ρ.upd (T.s j).2.size (w.heap.size, 0, sz)).below (T.s t).2.size = (ρ.below (T.s t).2.size).upd (T.s j).2.size (w.heap.size, 0, sz) := by
    funext b
    unfold bv.below bv.upd
    by_cases e : b = (T.s j).2.size
    ·subst e; simp [hlt]
    ·simp [e]
   have hnb : ρ.below (T.s t).2.size (T.s j).2.size = none := by rw [bv.below_lt hlt]; exact hnone
   rw [e];refine ⟨I.rel.fill hnb hc (hO.mono (Mi (Nat.le_of_lt hlt))) hlt ?_ (fun b x hx => ⟨I.rel.dom b x hx, rfl⟩), ?_⟩
   ·rw [hbefore hjt, hp, AH.get_push_new]
   ·exact (I.ext.allocW ob).updN hnb (bY W (Nat.zero_le _) (by omega)) hlt I.ext.wsize
  ·have hge := bY W hjt (by omega)
   have e : (ρ.upd (T.s j).2.size (w.heap.size, 0, sz)).below (T.s t).2.size = ρ.below (T.s t).2.size := by
    funext b
    unfold bv.below bv.upd
    by_cases e : b < (T.s t).2.size
    ·rw [if_pos e, if_pos e, if_neg (by omega)]
    ·rw [if_neg e, if_neg e]
   rw [e];exact ⟨I.rel.allocW ob, I.ext.allocW ob⟩
 refine ⟨I.closed' N, ?_, hrel.1, hrel.2, I.ht, I.ht1, ?_, ?_, ?_, ?_, ?_, ?_⟩
 ·rw [I.set N]; exact jP (I.act.mono hle) o.dst (hv _ (bv.upd_same ..))
 ·intro i oi hi h3
  have : i ≠ j := fun e => by subst e; rw [N.ho] at hi; cases hi; omega
  rw [HL this]; exact I.hE i oi hi h3
 ·intro b x hx
  rcases cS hx with ⟨rfl, _⟩ | ⟨_, hx⟩
  ·exact hltn
  ·exact I.full b x hx
 ·intro b c1 d sz1 hx
  rw [World.size_alloc]
  rcases cS hx with ⟨rfl, e⟩ | ⟨_, hx⟩
  ·cases e; omega
  ·have := I.blk b c1 d sz1 hx; omega
 ·intro b x hx hb
  rcases cS hx with ⟨rfl, rfl⟩ | ⟨_, hx⟩
  ·refine ⟨j, o, c, w.heap.size, sz, N.ho, ?_, by simp [sn], rfl, hp, rfl, hc, I.ext.wsize, ?_⟩
   ·rcases Nat.lt_or_ge j t with hjt | hjt
    ·have := i5 W hjt I.ht hp; omega
    ·exact hjt
   ·rw [heap_alloc_new w ob]; exact hO.mono (fun _ _ h => bmono h)
  ·obtain ⟨i, oi, c1, c', sz1, h1, h2, h3, h4, h5, h6, h7, h8, h9⟩ := I.pend b x hx hb
   subst h6;refine ⟨i, oi, c1, c', sz1, h1, h2, HM h3, h4, h5, rfl, h7, h8, ?_⟩;rw [Below.heap_alloc w ob c' (I.blk _ _ _ _ hx)];exact h9.mono (fun _ _ h => bmono h)
 ·intro b b' c1 d sz1 d' sz' hx hx' hb
  rcases cS hx with ⟨e1, e⟩ | ⟨_, hx⟩ <;> rcases cS hx' with ⟨e2, e'⟩ | ⟨_, hx'⟩
  ·rw [e1, e2]
  ·cases e; have := I.blk _ _ _ _ hx'; omega
  ·cases e'; have := I.blk _ _ _ _ hx; omega
  ·exact I.alone _ _ _ _ _ _ _ hx hx' hb
 ·intro i oi c1 hi h1 hpi hL
  obtain ⟨hne, hL⟩ := tC hL;obtain ⟨h2, h3⟩ := I.later i oi c1 hi h1 hpi hL;refine ⟨?_, h3⟩;have hin := (Array.getElem?_eq_some_iff.1 hi).1;rw [bv.upd_ne (fun e => ?_)]
  ·exact h2
  ·rcases Nat.lt_or_gt_of_ne hne with h | h
   ·have := i5 W h (by omega) hpi; omega
   ·have := i5 W h (by omega) hp; omega
theorem pA.effect (W : Way T w0 B ρ0 wS) (I : pA T w0 B ρ0 wS L a w ρ t) {j : Nat} {o : Oper} (N : Next T L j o) (hk : j5 o.op = 3) {v' : Value} {w' : World} {ρ1 : bv} (hv : VRel P ρ1 (T.val j) v')
 (hE : ix (ρ.below (T.s j).2.size) (T.s j).2 w ρ1 (T.s (j + 1)).2 w') (hR : Rel P w0 B ρ1 (T.s (j + 1)).2 w') :
 ∃ ρ2, pA T w0 B ρ0 wS (sn L j) (a.put o.dst v') w' ρ2 (j + 1) := by
 have hjn := (Array.getElem?_eq_some_iff.1 N.ho).1;obtain ⟨htj, hno⟩ := amB I N hk;obtain ⟨hRj, hXj⟩ := I.derive W j htj (by omega) hno;have hm : (T.s j).2.size ≤ (T.s (j + 1)).2.size := FN W hjn;have hmt : (T.s t).2.size ≤ (T.s j).2.size := bY W htj (by omega)
 -- no block of the region's own lies in the gap
 have pos : ∀ {b x}, ρ b = some x → (T.s j).2.size ≤ b → (T.s (j + 1)).2.size ≤ b ∧ ∃ i oi c c' sz, ops[i]? = some oi ∧ j + 1 ≤ i ∧ L i = true ∧ b = (T.s i).2.size ∧ (T.s (i + 1)).2 = (T.s i).2.push c ∧ x = (c', 0, sz) ∧ c.rw = true ∧ wS.heap.size ≤ c' ∧ pQ P (ρ.below b) 0 sz c w.heap[c']? := by
  intro b x hx hb;obtain ⟨i, oi, c, c', sz, h1, h2, h3, h4, h5, h6⟩ := I.pend b x hx (by omega);have hin := (Array.getElem?_eq_some_iff.1 h1).1
  have hij : j + 1 ≤ i := by
   rcases Nat.lt_trichotomy i j with h | h | h
   ·have := i5 W h (by omega) h5; omega
   ·subst h; rw [N.hj] at h3; cases h3
   ·omega
  exact ⟨by have := bY W hij (by omega); omega, i, oi, c, c', sz, h1, hij, h3, h4, h5, h6⟩
 have hle : ∀ b x, ρ b = some x → (fun b => if b < (T.s (j + 1)).2.size then ρ1 b else ρ b) b = some x := by
  intro b x hx
  by_cases hb : b < (T.s (j + 1)).2.size
  ·simp only [hb, if_true]
   by_cases hbj : b < (T.s j).2.size
   ·exact hE.le b x (by rw [bv.below_lt hbj]; exact hx)
   ·have := (pos hx (by omega)).1; omega
  ·simp only [hb, if_false]; exact hx
 have hle1 : ∀ b x, ρ1 b = some x → (fun b => if b < (T.s (j + 1)).2.size then ρ1 b else ρ b) b = some x := by
  intro b x hx;have := hR.dom b x hx;simp only [this, if_true]; exact hx
 have cases' : ∀ {b x}, (fun b => if b < (T.s (j + 1)).2.size then ρ1 b else ρ b) b = some x → (b < (T.s (j + 1)).2.size ∧ ρ1 b = some x) ∨ ((T.s (j + 1)).2.size ≤ b ∧ ρ b = some x) := by
  intro b x hx
  by_cases hb : b < (T.s (j + 1)).2.size
  ·simp only [hb, if_true] at hx; exact .inl ⟨hb, hx⟩
  ·simp only [hb, if_false] at hx; exact .inr ⟨by omega, hx⟩
 have e2 : bv.below (fun b => if b < (T.s (j + 1)).2.size then ρ1 b else ρ b) (T.s (j + 1)).2.size = ρ1 := by
  funext b
  simp only [bv.below]
  by_cases hb : b < (T.s (j + 1)).2.size
  ·simp only [hb, if_true]
  ·simp only [hb, if_false]
   cases h : ρ1 b with
   | none => rfl
   | some x => exact absurd (hR.dom b x h) hb
 refine ⟨fun b => if b < (T.s (j + 1)).2.size then ρ1 b else ρ b, I.closed' N, ?_, by rw [e2]; exact hR, by rw [e2]; exact hXj.trans W.rel hE, by omega, .inr ⟨o, by simpa using N.ho, hk⟩, ?_, ?_, ?_, ?_, ?_, ?_⟩
 ·rw [I.set N]; exact jP (I.act.mono hle) o.dst (hv.mono hle1)
 ·intro i oi hi h3
  by_cases e : i = j
  ·subst e; simp [sn]
  ·rw [HL e, I.hE i oi hi h3]
   constructor
   ·intro h; omega
   ·intro h
    rcases Nat.lt_or_ge i t with h4 | h4
    ·exact h4
    ·exact absurd h3 (hno i oi hi h4 (by omega))
 ·intro b x hx
  rcases cases' hx with ⟨hb, _⟩ | ⟨_, hx⟩
  ·exact Nat.lt_of_lt_of_le hb (bY W (by omega) (bj _))
  ·exact I.full b x hx
 ·intro b c d sz hx
  rcases cases' hx with ⟨_, hx⟩ | ⟨_, hx⟩
  ·exact hR.blk b c d sz hx
  ·have := I.blk b c d sz hx; have := hE.wsize; omega
 ·intro b x hx hb
  rcases cases' hx with ⟨hb', _⟩ | ⟨_, hx⟩
  ·omega
  ·obtain ⟨_, i, oi, c, c', sz, h1, h2, h3, h4, h5, h6, h7, h8, h9⟩ := pos hx (by omega)
   subst h6;refine ⟨i, oi, c, c', sz, h1, h2, HM h3, h4, h5, rfl, h7, h8, ?_⟩;rw [hE.keepC c' (I.blk _ _ _ _ hx) (fun b1 d sz1 o1 hx1 _ => ?_)]
   ·refine h9.mono (fun b1 x1 hx1 => ?_)
    obtain ⟨h10, h11⟩ := bv.below_some hx1;rw [bv.below_lt h10]; exact hle _ _ h11
   ·obtain ⟨h10, h11⟩ := bv.below_some hx1
    have := I.alone _ _ _ _ _ _ _ hx h11 (by omega);omega
 ·intro b b' c d sz d' sz' hx hx' hb
  rcases cases' hx with ⟨hb', _⟩ | ⟨_, hx⟩
  ·omega
  ·rcases cases' hx' with ⟨hb', hx'⟩ | ⟨_, hx'⟩
   ·exfalso
    cases hρ : ρ.below (T.s j).2.size b' with
    | some y =>
     have := hE.le b' y hρ;rw [hx'] at this;cases this;obtain ⟨h10, h11⟩ := bv.below_some hρ;have := I.alone _ _ _ _ _ _ _ hx h11 (by omega);omega
    | none =>
     rcases hE.newC b' c d' sz' hx' hρ with h | ⟨b0, d0, sz0, o0, h, _, _⟩
     ·have := I.blk _ _ _ _ hx; omega
     ·obtain ⟨h10, h11⟩ := bv.below_some h
      have := I.alone _ _ _ _ _ _ _ hx h11 (by omega);omega
   ·exact I.alone _ _ _ _ _ _ _ hx hx' (by omega)
 ·intro i oi c hi h1 hp hL
  obtain ⟨hne, hL⟩ := tC hL;obtain ⟨h2, h3⟩ := I.later i oi c hi h1 hp hL;have hin := (Array.getElem?_eq_some_iff.1 hi).1;refine ⟨?_, fun hij => ?_⟩
  ·by_cases hb : (T.s i).2.size < (T.s (j + 1)).2.size
   ·rw [if_pos hb]
    cases h4 : ρ1 (T.s i).2.size with
    | none => rfl
    | some y =>
     have h5 : ρ.below (T.s j).2.size (T.s i).2.size = none := by unfold bv.below; rw [h2]; split <;> rfl
     have h6 := (hE.fresh _ y h4 h5).1
     rcases Nat.lt_or_gt_of_ne hne with h | h
     ·have := i5 W h (by omega) hp; omega
     ·have := bY W (show j + 1 ≤ i from h) (by omega); omega
   ·rw [if_neg hb]; exact h2
  ·have hlt : i < j := by omega
   have hsz := i5 W hlt (by omega) hp
   have h5 : ρ.below (T.s j).2.size (T.s i).2.size = none := by unfold bv.below; rw [h2]; split <;> rfl
   rw [hE.keepA _ hsz h5]
   rcases Nat.lt_or_ge i t with h4 | h4
   ·rw [KW W htj (by omega) hno (i5 W h4 I.ht hp), h3 h4]
   ·exact KW W (show i + 1 ≤ j from hlt) (by omega) (fun k ok hk h6 h7 => hno k ok hk (by omega) h7) (by rw [hp, AH.size_push]; omega)
theorem pA.readAt (I : pA T w0 B ρ0 wS L a w ρ t) {j : Nat} {o : Oper} (N : Next T L j o) (hk : j5 o.op = 2) :
 ∃ k, t ≤ k ∧ k ≤ ops.size ∧ (∀ i oi, ops[i]? = some oi → t ≤ i → i < k → j5 oi.op ≠ 3) ∧ Av P (eF (T.s j).1) o.op (T.s k).2 = Av P (eF (T.s j).1) o.op (T.s j).2 := by
 have hjn := (Array.getElem?_eq_some_iff.1 N.ho).1
 rcases Nat.lt_or_ge j t with hjt | hjt
 ·rcases I.ht1 with h0 | ⟨oe, he, h3⟩
  ·omega
  ·have hL : L (t - 1) = true := (I.hE (t - 1) oe he h3).2 (by omega)
   have hne : j ≠ t - 1 := fun e => by rw [e] at N; have := N.ho; rw [he] at this; cases this; omega
   have hf1 : fb (bL ops.toList) (t - 1) j = false := by
    cases h : fb (bL ops.toList) (t - 1) j with
    | false => rfl
    | true => have := akQ T N.ho h; omega
   have hf2 : fb (bL ops.toList) j (t - 1) = false := by
    cases h : fb (bL ops.toList) j (t - 1) with
    | false => rfl
    | true =>
     have := jk I.closed (t - 1) oe he (I.closed _ _ he hL) j h;rw [N.hj] at this; cases this
   have h := T.look j (t - 1) o oe N.ho he hk h3 hf1 hf2;rw [if_neg (by omega), show t - 1 + 1 = t from by omega] at h;exact ⟨t, bj _, I.ht, fun i oi hi h1 h2 => absurd h1 (by omega), h⟩
 ·-- the first that does more than look, between here and there
  have key : ∀ n, t + n ≤ j → (∀ i oi, ops[i]? = some oi → t ≤ i → i < t + n → j5 oi.op ≠ 3) ∨
   ∃ e oe, t ≤ e ∧ e < j ∧ ops[e]? = some oe ∧ j5 oe.op = 3 ∧ ∀ i oi, ops[i]? = some oi → t ≤ i → i < e → j5 oi.op ≠ 3 := by
   intro n
   induction n with
   | zero => intro _; exact .inl (fun i oi hi h1 h2 => absurd h1 (by omega))
   | succ n ih =>
    intro hn
    rcases ih (by omega) with h | h
    ·have ho : ops[t + n]? = some ops[t + n] := by simp [show t + n < ops.size from by omega]
     by_cases h3 : j5 (ops[t + n]).op = 3
     ·exact .inr ⟨t + n, _, by omega, by omega, ho, h3, h⟩
     ·refine .inl (fun i oi hi h1 h2 => ?_)
      by_cases e : i = t + n
      ·subst e; rw [ho] at hi; cases hi; exact h3
      ·exact h i oi hi h1 (by omega)
    ·exact .inr h
  rcases key (j - t) (by omega) with h | ⟨e, oe, h1, h2, he, h3, h4⟩
  ·exact ⟨j, hjt, by omega, fun i oi hi h1 h2 => h i oi hi h1 (by omega), rfl⟩
  ·have hLe : L e = false := by
    cases h : L e with
    | false => rfl
    | true => have := (I.hE e oe he h3).1 h; omega
   have hf1 : fb (bL ops.toList) e j = false := by
    cases h : fb (bL ops.toList) e j with
    | false => rfl
    | true => have := jk I.closed j o N.ho N.ready e h; rw [hLe] at this; cases this
   have hf2 : fb (bL ops.toList) j e = false := by
    cases h : fb (bL ops.toList) j e with
    | false => rfl
    | true => have := akQ T he h; omega
   have h := T.look j e o oe N.ho he hk h3 hf1 hf2;rw [if_pos h2] at h;exact ⟨e, h1, by omega, h4, h⟩
theorem ui {ev : Operand → Value} {o : Oper} {H : AH} {r : Value × AH} (h : dK P call ev o H = some r) : ∀ cs b, o.op ≠ .select cs b := by
 intro cs b e;obtain ⟨dst, op, type, pos, after, guard⟩ := o;simp only at e;subst e;simp [dK] at h
theorem pA.step (W : Way T w0 B ρ0 wS) (I : pA T w0 B ρ0 wS L a w ρ t) {j : Nat} {o : Oper} (N : Next T L j o) {K : Act → World → Prop} {Q : Exit → Act → World → Prop}
 (hK : ∀ a' w' ρ' t', pA T w0 B ρ0 wS (sn L j) a' w' ρ' t' → K a' w') : wpOp P ops Q j K a w := by
 have hjn := (Array.getElem?_eq_some_iff.1 N.ho).1;unfold wpOp;rw [N.ho];simp only;rw [I.wanted N];obtain ⟨hok, hs, ⟨hw, h⟩ | ⟨hw, hv, hH⟩⟩ := T.step j o N.ho
 ·rw [if_pos hw]
  refine .inl ?_
  rcases Fd o.op with h0 | h1 | h2 | h3
  ·have h' : dK P call (eF (AD T L ops.size)) o (pad (T.s ops.size).2.size (T.s t).2) = some (T.val j, pad (T.s ops.size).2.size (T.s t).2) := by
    rw [nc (fun x hx => I.evs N hx)]; exact (uj h0 h).2 _
   have hp : Rel P w0 B ρ (pad (T.s ops.size).2.size (T.s t).2) w := I.rel.pad (bY W I.ht (bj _)) I.full I.blk;have hG : GlobRel ρ G := (I.glob W (bY W (Nat.zero_le t) I.ht)).mono ul;obtain ⟨v', hr, hv⟩ := KV I.act hG hp hok (.inl h0) h';refine dS.wp (R := fun v w' => v = v' ∧ w' = w) (by unfold dS; rw [hr]; exact ⟨rfl, rfl⟩) ?_
   rintro v w' ⟨rfl, rfl⟩
   exact hK _ _ _ _ (I.same N (by omega) hv)
  ·have h' : dK P call (eF (qx (s7 o.op) (AD T L ops.size))) o (T.s j).2 = some (T.val j, (T.s (j + 1)).2) := by
    rw [nc (fun x hx => (SQ hx).trans (I.evs N hx))]; exact h
   obtain ⟨c, hc, hp, hall⟩ := Az (I.masked W N) (I.glob W (bY W (Nat.zero_le j) (by omega))) hok h1 h';obtain ⟨ob, sz, v', hr, hO, hv⟩ := hall w;rw [execOp_congr o (ui h) (fun x hx => E7 (by simpa using hx))] at hr;refine dS.wp (R := fun v w' => v = v' ∧ w' = w.alloc ob) (by unfold dS; rw [hr]; exact ⟨rfl, rfl⟩) ?_
   rintro v w' ⟨rfl, rfl⟩
   exact hK _ _ _ _ (I.alloc W N h1 hc hp hO hv)
  ·obtain ⟨k, hk1, hk2, hk3, hrd⟩ := I.readAt N h2
   obtain ⟨hRk, _⟩ := I.derive W k hk1 hk2 hk3;have hp : Rel P w0 B ρ (pad (T.s ops.size).2.size (T.s k).2) w := hRk.pad (bY W hk2 (bj _)) I.full I.blk;rw [Au h2] at h;obtain ⟨y, hy, e⟩ := aN.1 h;have ey : y = T.val j := (Prod.mk.inj e).1;subst ey;rw [← hrd] at hy
   have h' : dK P call (eF (AD T L ops.size)) o (pad (T.s ops.size).2.size (T.s k).2) = some (T.val j, pad (T.s ops.size).2.size (T.s k).2) := by
    rw [nc (fun x hx => I.evs N hx), Au h2, ajH (H1 := (T.s k).2) (fun b hb => Td (XA hy hb) (bY W hk2 (bj _))), hy]
    rfl
   have hG : GlobRel ρ G := (I.glob W (bY W (Nat.zero_le t) I.ht)).mono ul;obtain ⟨v', hr, hv⟩ := KV I.act hG hp hok (.inr h2) h';refine dS.wp (R := fun v w' => v = v' ∧ w' = w) (by unfold dS; rw [hr]; exact ⟨rfl, rfl⟩) ?_
   rintro v w' ⟨rfl, rfl⟩
   exact hK _ _ _ _ (I.same N (by omega) hv)
  ·obtain ⟨htj, hno⟩ := amB I N h3
   obtain ⟨hRj, _⟩ := I.derive W j htj (by omega) hno
   have h' : dK P call (eF (qx (s7 o.op) (AD T L ops.size))) o (T.s j).2 = some (T.val j, (T.s (j + 1)).2) := by
    rw [nc (fun x hx => (SQ hx).trans (I.evs N hx))]; exact h
   have hr := vq W.hcall (I.masked W N) (I.glob W (bY W (Nat.zero_le j) (by omega))) hRj hok h';have hr := hr.congr (execOp_congr o (ui h) (fun x hx => E7 (by simpa using hx)));refine hr.wp ?_
   rintro v' w' ⟨ρ1, hv, hE, hR⟩
   obtain ⟨ρ2, I2⟩ := I.effect W N h3 hv hE hR;exact hK _ _ _ _ I2
 ·rw [if_neg (by rw [hw]; simp)]
  by_cases h3 : j5 o.op = 3
  ·obtain ⟨htj, hno⟩ := amB I N h3
   obtain ⟨hRj, _⟩ := I.derive W j htj (by omega) hno;obtain ⟨ρ2, I2⟩ := I.effect W N h3 (v' := undef) (w' := w) (ρ1 := ρ.below (T.s j).2.size) (by rw [hv]; exact VRel.undef) (by rw [hH]; exact ix.refl _ _ _) (by rw [hH]; exact hRj);exact hK _ _ _ _ I2
  ·exact hK _ _ _ _ (I.same N h3 (by rw [hv]; exact VRel.undef))
theorem pA.start (W : Way T w0 B ρ0 wS) (hA : bU P ρ0 (T.s 0).1 a) : pA T w0 B ρ0 wS (fun _ => false) a wS ρ0 0 := by
 have e : ρ0.below (T.s 0).2.size = ρ0 := by
  funext b
  unfold bv.below
  split
  ·rfl
  ·cases h : ρ0 b with
   | none => rfl
   | some x => exact absurd (W.rel.dom b x h) (by assumption)
 refine ⟨fun _ _ _ h => (by cases h), by rw [ahB]; exact hA, by rw [e]; exact W.rel, by rw [e]; exact ix.refl _ _ _, Nat.zero_le _, .inl rfl, fun i o _ _ => by simp, ?_, W.rel.blk, ?_, ?_, ?_⟩
 ·intro b x hx
  have := W.rel.dom b x hx;have := bY W (Nat.zero_le ops.size) (bj _);omega
 ·intro b x hx hb
  have := W.rel.dom b x hx; omega
 ·intro b b' c d sz d' sz' hx _ hb
  have := W.rel.dom b _ hx; omega
 ·intro i o c hi _ hp _
  refine ⟨?_, fun h => by omega⟩;have hin := (Array.getElem?_eq_some_iff.1 hi).1;have := bY W (Nat.zero_le i) (by omega)
  cases h : ρ0 (T.s i).2.size with
  | none => rfl
  | some x => have := W.rel.dom _ x h; omega
theorem pA.done (W : Way T w0 B ρ0 wS) (I : pA T w0 B ρ0 wS L a w ρ t) (hL : ∀ i, i < ops.size → L i = true) : An P w0 B G ρ0 (T.s 0).2 wS (T.s ops.size).1 (T.s ops.size).2 a w := by
 have e : ρ.below (T.s ops.size).2.size = ρ := by
  funext b
  unfold bv.below
  split
  ·rfl
  ·cases h : ρ b with
   | none => rfl
   | some x => exact absurd (I.full b x h) (by assumption)
 obtain ⟨hR, hX⟩ := I.derive W ops.size I.ht (bj _) (fun i o hi h1 h2 h3 => by
  have := (I.hE i o hi h3).1 (hL i (by omega)); omega)
 rw [e] at hR hX;exact ⟨ρ, by rw [← alF T hL]; exact I.act, W.glob.mono hX.le, hX, hR⟩
theorem UE (W : Way T w0 B ρ0 wS) {Q : Exit → Act → World → Prop} (hQ : ∀ a' w', An P w0 B G ρ0 (T.s 0).2 wS (T.s ops.size).1 (T.s ops.size).2 a' w' → Q .normal a' w') :
 ∀ (fuel : Nat) (listed : Array Bool) (a : Act) (w : World) (ρ : bv) (t : Nat), listed.size = ops.size → ((List.range ops.size).filter fun i => !listed.getD i false).length ≤ fuel →
  pA T w0 B ρ0 wS (fun i => listed.getD i false) a w ρ t → wpAny P .any ops Q fuel listed a w := by
 have inready : ∀ (listed : Array Bool), listed.size = ops.size → ∀ j, j ∈ Region.ready .any ops listed → ∃ o, Next T (fun i => listed.getD i false) j o := by
  intro listed hsz j hj;unfold Region.ready at hj;rw [List.mem_filter] at hj;obtain ⟨hj, h⟩ := hj;rw [List.mem_range] at hj
  have ho : ops[j]? = some ops[j] := by simp [hj]
  simp only [Bool.and_eq_true, Bool.not_eq_true'] at h;obtain ⟨h1, h2⟩ := h;rw [ho] at h2;simp only [dP, Option.getD_some, Array.all_eq_true'] at h2;refine ⟨ops[j], ho, ?_, fun e he hb => ?_⟩
  ·have hjl : j < listed.size := by omega
   simp only [Array.getD, hjl, dif_pos] at h1 ⊢; exact h1
  ·have := h2 e he
   simpa [hb] using this
 have least : ∀ (listed : Array Bool), listed.size = ops.size → Region.ready .any ops listed = [] → ∀ i, i < ops.size → listed.getD i false = true := by
  intro listed hsz hnil i
  induction i using Nat.strongRecOn with
  | _ i ih =>
   intro hi
   cases h : listed.getD i false with
   | true => rfl
   | false =>
    exfalso
    have ho : ops[i]? = some ops[i] := by simp [hi]
    have : i ∈ Region.ready .any ops listed := by
     unfold Region.ready;rw [List.mem_filter, List.mem_range];refine ⟨hi, ?_⟩;simp only [Bool.and_eq_true, Bool.not_eq_true'];refine ⟨?_, ?_⟩
     ·have hjl : i < listed.size := by omega
      simp only [Array.getD, hjl, dif_pos] at h ⊢; exact h
     ·rw [ho]
      simp only [dP, Option.getD_some, Array.all_eq_true'];intro e he
      cases hb : Region.binds .any e with
      | false => rfl
      | true =>
       have hlt := T.back i _ ho e he hb
       simpa using ih e.on hlt (by omega)
    rw [hnil] at this;cases this
 intro fuel
 induction fuel with
 | zero =>
  intro listed a w ρ t hsz hcnt I
  have hall : ∀ i, i < ops.size → listed.getD i false = true := by
   intro i hi;have h0 : ((List.range ops.size).filter fun i => !listed.getD i false) = [] := List.eq_nil_of_length_eq_zero (by omega);rw [List.filter_eq_nil_iff] at h0;have := h0 i (List.mem_range.2 hi)
   simpa using this
  refine ⟨?_, hQ _ _ (I.done W hall)⟩
  cases hr : Region.ready .any ops listed with
  | nil => rfl
  | cons j js =>
   obtain ⟨o, N⟩ := inready listed hsz j (by rw [hr]; simp);have := hall j (Array.getElem?_eq_some_iff.1 N.ho).1;have h2 : listed.getD j false = false := N.hj;rw [this] at h2; cases h2
 | succ fuel ih =>
  intro listed a w ρ t hsz hcnt I;refine ⟨fun hnil => hQ _ _ (I.done W (least listed hsz hnil)), fun j hj => ?_⟩;obtain ⟨o, N⟩ := inready listed hsz j hj;have hjn := (Array.getElem?_eq_some_iff.1 N.ho).1
  have hset : (fun i => (listed.setIfInBounds j true).getD i false) = sn (fun i => listed.getD i false) j := by
   funext i
   simp only [sn, Array.getD_eq_getD_getElem?];rw [Array.getElem?_setIfInBounds]
   by_cases e : i = j
   ·subst e; simp [show i < listed.size from by omega]
   ·rw [if_neg (fun e' => e e'.symm), if_neg e]
  refine I.step W N (fun a' w' ρ' t' I' => ih _ a' w' ρ' t' (by simp [hsz]) ?_ (by rw [hset]; exact I'))
  have e1 : ((List.range ops.size).filter fun i => !(listed.setIfInBounds j true).getD i false) = ((List.range ops.size).filter fun i => !listed.getD i false).filter fun i => i != j := by
   rw [List.filter_filter];apply List.filter_congr;intro i _;have : (listed.setIfInBounds j true).getD i false = sn (fun i => listed.getD i false) j i := congrFun hset i;rw [this];simp only [sn]
   by_cases e : i = j
   ·subst e; simp
   ·simp [e]
  have e2 : (((List.range ops.size).filter fun i => !listed.getD i false).filter fun i => i != j).length < ((List.range ops.size).filter fun i => !listed.getD i false).length := by
   rw [List.length_filter_lt_length_iff_exists];refine ⟨j, ?_, by simp⟩;rw [List.mem_filter, List.mem_range];have : listed.getD j false = false := N.hj;exact ⟨hjn, by rw [this]; rfl⟩
  rw [e1]; omega
theorem O7 (W : Way T w0 B ρ0 wS) (hm : P.follows .mixedOrders = true) {id : Nat} {Q : Exit → Act → World → Prop} {w : World} (hw : wS = { w with drawn := w.drawn + 1 }) (hA : bU P ρ0 (T.s 0).1 a)
 (hQ : ∀ a' w', An P w0 B G ρ0 (T.s 0).2 wS (T.s ops.size).1 (T.s ops.size).2 a' w' → Q .normal a' w') : (Code.region id ops true).wp P Q a w := by
 refine wp_region_any hm ?_;rw [← hw];refine UE W hQ ops.size _ a wS ρ0 0 (by simp) ?_ ?_
 ·refine dZ (List.length_filter_le _ _) (by simp)
 ·have e : (fun i => (Array.replicate ops.size false).getD i false) = fun _ => false := by
   funext i
   rw [Array.getD_eq_getD_getElem?, Array.getElem?_replicate]
   split <;> rfl
  rw [e];exact pA.start W hA
end
end Go.Proofs.YtghoamdlcjdfjaaGreatDoor.Gst
