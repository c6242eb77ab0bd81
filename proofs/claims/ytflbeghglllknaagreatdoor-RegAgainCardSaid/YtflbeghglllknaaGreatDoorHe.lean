/- Several texts in one. -/
import Derived.Test.YtflbeghglllknaaGreatDoorHd
namespace Go.Proofs.YtflbeghglllknaaGreatDoor.Gst
open Go Go.RowKit
set_option linter.unusedSimpArgs false
set_option linter.unusedVariables false
set_option maxHeartbeats 4000000
set_option maxRecDepth 100000
set_option synthInstance.maxSize 2000
set_option synthInstance.maxHeartbeats 400000
section
variable (g d : Nat)
def yw (b : Nat) : Nat := if b < g then b else b + d
def xd (a : Addr) : Addr := { a with block := yw g d a.block }
def bR : Value → Value
 | .pointer a => .pointer (a.map (xd g d))
 | .slice a n e => .slice (a.map (xd g d)) n e
 | .map r => .map (r.map (yw g d))
 | .func fn f c => .func fn (f.map bR) (c.map bR)
 | .iface t v => .iface t (bR v)
 | .agg cs => .agg (cs.map bR)
 | .tuple cs => .tuple (cs.map bR)
 | v => v
end
abbrev gU (g d : Nat) (l : List Value) : List Value := l.map (bR g d)
section
variable {g d : Nat}
theorem Nk {a b : Nat} (h : yw g d a = yw g d b) : a = b := by unfold yw at h; split at h <;> split at h <;> omega
@[simp] theorem Nl (b : Bool) : (bR g d) (.bool b) = .bool b := by rw [bR] <;> simp
@[simp] theorem wE (k : IntKind) (n : Int) : (bR g d) (.int k n) = .int k n := by rw [bR] <;> simp
@[simp] theorem ZZ (k : FloatKind) (n : Nat) : (bR g d) (.float k n) = .float k n := by rw [bR] <;> simp
@[simp] theorem Y6 (k : FloatKind) (n m : Nat) : (bR g d) (.complex k n m) = .complex k n m := by rw [bR] <;> simp
@[simp] theorem Dk (b : ByteArray) : (bR g d) (.string b) = .string b := by rw [bR] <;> simp
@[simp] theorem aaJ (r : Option Nat) : (bR g d) (.chan r) = .chan r := by rw [bR] <;> simp
@[simp] theorem Y7 : (bR g d) .nilFunc = .nilFunc := by rw [bR] <;> simp
@[simp] theorem Yj : (bR g d) .nilIface = .nilIface := by rw [bR] <;> simp
@[simp] theorem Kx (a : Option Addr) : (bR g d) (.pointer a) = .pointer (a.map (xd g d)) := by rw [bR]
@[simp] theorem gz (a : Option Addr) (n e : Nat) : (bR g d) (.slice a n e) = .slice (a.map (xd g d)) n e := by rw [bR]
@[simp] theorem FE (r : Option Nat) : (bR g d) (.map r) = .map (r.map (yw g d)) := by rw [bR]
@[simp] theorem Z0 (t : TypeId) (v : Value) : (bR g d) (.iface t v) = .iface t ((bR g d) v) := by rw [bR]
@[simp] theorem aaK (fn : Fn) (f c : Array Value) : (bR g d) (.func fn f c) = .func fn (f.map (bR g d)) (c.map (bR g d)) := by rw [bR]
@[simp] theorem Ks (cs : Array Value) : (bR g d) (.agg cs) = .agg (cs.map (bR g d)) := by rw [bR]
@[simp] theorem UK (cs : Array Value) : (bR g d) (.tuple cs) = .tuple (cs.map (bR g d)) := by rw [bR]
@[simp] theorem qp : (bR g d) undef = undef := by simp [undef]
theorem UE {v : Value} (h : dl v = true) : (bR g d) v = v := by
 unfold dl at h
 split at h <;> first | (simp; done) | cases h
theorem u4 {l : List Value} (h : l.all dl = true) : gU g d l = l := by
 induction l with
 | nil => rfl
 | cons x l ih => simp only [List.all_cons, Bool.and_eq_true] at h; simp only [gU, List.map_cons, UE h.1]; rw [show List.map (bR g d) l = l from ih h.2]
theorem HO {v : Value} (h : vy v = true) : (bR g d) v = v := by
 unfold vy at h
 split at h
 ·rename_i cs
  rw [Ks]; congr 1; exact Array.toList_inj.1 (by rw [Array.toList_map]; exact u4 h)
 ·rename_i cs
  rw [UK]; congr 1; exact Array.toList_inj.1 (by rw [Array.toList_map]; exact u4 h)
 ·exact UE h
theorem Bj (v : Value) : ((bR g d) v).cells = v.cells.map (bR g d) := by
 cases v <;> simp [Value.cells]
theorem Qj (v : Value) : ((bR g d) v).cells.toList = gU g d v.cells.toList := by rw [Bj, Array.toList_map]
theorem Y8 (v : Value) : Value.oneCell' ((bR g d) v) = Value.oneCell' v := by
 cases v <;> simp [Value.oneCell']
theorem Nm (l : List Value) : (gU g d l).all Value.oneCell' = l.all Value.oneCell' := by
 simp only [gU, List.all_map]; congr 1; funext v; exact Y8 v
theorem FG (v : Value) : sJ ((bR g d) v) = (sJ v).map fun a => (yw g d a.1, a.2) := by
 cases v with
 | pointer a =>
  cases a with
  | none => simp [sJ]
  | some a =>
   obtain ⟨b, o, sp⟩ := a
   cases sp <;> simp [sJ, xd]
 | _ => simp [sJ]
theorem UJ (c a b : Value) : aX ((bR g d) c) ((bR g d) a) ((bR g d) b) = (aX c a b).map (bR g d) := by
 cases c with
 | bool t => cases t <;> simp [aX]
 | _ => simp [aX]
theorem Xg (v : Value) : sK ((bR g d) v) = (sK v).map (bR g d) := by
 cases v with
 | pointer a => cases a <;> simp [sK]
 | func fn f c => cases fn <;> simp [sK]
 | _ => simp [sK]
theorem Xb (off : Nat) (v : Value) : B4 off ((bR g d) v) = (B4 off v).map (bR g d) := by
 unfold B4;rw [FG]
 cases sJ v <;> simp [xd]
theorem UI (n : Option Nat) (off : Nat) (v : Value) : kK n off ((bR g d) v) = (kK n off v).map (bR g d) := by
 cases v with
 | agg cs => cases n <;> simp [kK]
 | _ => simp [kK]
theorem Xc (e : Nat) (v i : Value) : nF e ((bR g d) v) ((bR g d) i) = (nF e v i).map (bR g d) := by
 cases v with
 | slice a n k =>
  cases a with
  | none => simp [nF]
  | some a =>
   obtain ⟨b, o, sp⟩ := a
   cases sp with
   | none =>
    cases i with
    | int k i => simp only [gz, wE, eR, xd, nF]; split <;> simp [xd]
    | _ => simp [nF, xd]
   | some sp => simp [nF, xd]
 | _ => simp [nF]
theorem UH (len e : Nat) (v i : Value) : jx len e ((bR g d) v) ((bR g d) i) = (jx len e v i).map (bR g d) := by
 cases v with
 | pointer a =>
  cases a with
  | none => simp [jx]
  | some a =>
   obtain ⟨b, o, sp⟩ := a
   cases sp with
   | none =>
    cases i with
    | int k i => simp only [Kx, wE, eR, xd, jx]; split <;> simp [xd]
    | _ => simp [jx, xd]
   | some sp => simp [jx, xd]
 | _ => simp [jx]
theorem Kv (len : Nat) (n : Option Nat) (e : Nat) (v i : Value) : je len n e ((bR g d) v) ((bR g d) i) = (je len n e v i).map (bR g d) := by
 cases v with
 | agg cs =>
  cases i with
  | int k i =>
   simp only [Ks, wE, je]
   split
   ·cases n <;> simp
   ·rfl
  | _ => simp [je]
 | _ => simp [je]
theorem Ku (v i : Value) : jd ((bR g d) v) ((bR g d) i) = (jd v i).map (bR g d) := by
 cases v with
 | string b =>
  cases i with
  | int k i =>
   simp only [Dk, wE, jd]
   split
   ·rw [Option.map_map]; congr 1; funext x; simp
   ·rfl
  | _ => simp [jd]
 | _ => simp [jd]
theorem Xd (v : Value) : pa ((bR g d) v) = (pa v).map (bR g d) := by cases v <;> simp [pa]
theorem Xe (l : List Value) : ii (gU g d l) = (ii l).map (bR g d) := by
 match l with
 | [] => rfl
 | [x] => simp [gU, ii]
 | [x, y] => cases x <;> cases y <;> simp [gU, ii]
 | x :: y :: z :: l => simp [gU, ii]
theorem Xf (l : List Value) : ju (gU g d l) = (ju l).map (bR g d) := by
 match l with
 | [] => rfl
 | [x] => simp [gU, ju]
 | [x, y] => cases x <;> cases y <;> simp [gU, ju]
 | x :: y :: z :: l => simp [gU, ju]
theorem Bk : ∀ xs ys : List Value, bI (gU g d xs) (gU g d ys) = bI xs ys := by
 intro xs
 induction xs with
 | nil => intro ys; cases ys <;> simp [gU, bI]
 | cons x xs ih =>
  intro ys
  cases ys with
  | nil => cases x <;> simp [gU, bI]
  | cons y ys =>
   have := ih ys;simp only [gU] at this
   cases x <;> cases y <;> simp [gU, bI, this]
theorem Y9 (cl : TCls) (x y : Value) : oo cl ((bR g d) x) ((bR g d) y) = oo cl x y := by
 cases cl with
 | flat n =>
  cases x with
  | agg a =>
   cases y with
   | agg b =>
    simp only [Ks, oo, Array.size_map, Array.toList_map];rw [show bI (List.map (bR g d) a.toList) (List.map (bR g d) b.toList) = bI a.toList b.toList from Bk _ _]
   | _ => simp [oo]
  | _ => cases y <;> simp [oo]
 | bool => cases x <;> cases y <;> simp [oo]
 | ptr => cases x <;> cases y <;> simp [oo] <;> (rename_i a b; cases a <;> cases b <;> simp [oo])
 | slice => cases x <;> cases y <;> simp [oo] <;> (rename_i a _ _ b _ _; cases a <;> cases b <;> simp [oo])
 | map => cases x <;> cases y <;> simp [oo] <;> (rename_i a b; cases a <;> cases b <;> simp [oo])
 | func => cases x <;> cases y <;> simp [oo]
 | other => cases x <;> cases y <;> simp [oo]
theorem W2 {op : BinOp} {k : IntKind} {a b : Int} : (mi op k a b).map (bR g d) = mi op k a b := by
 cases op <;> simp [mi] <;> (split <;> simp)
theorem PO {op : BinOp} {k : IntKind} {a b : Int} : (lZ op k a b).map (bR g d) = lZ op k a b := by
 unfold lZ
 split
 ·rfl
 ·cases op <;> simp
theorem W4 {op : BinOp} {a b : ByteArray} : (TW op a b).map (bR g d) = TW op a b := by
 cases op <;> simp [TW]
theorem UG (cl : TCls) (op : BinOp) (x y : Value) : C1 cl op ((bR g d) x) ((bR g d) y) = (C1 cl op x y).map (bR g d) := by
 cases op <;> simp only [C1, Y9, Option.map_map, Option.map_none] <;> (congr 1; funext b; simp)
theorem Xa (cl : TCls) (op : BinOp) (x y : Value) : aq cl op ((bR g d) x) ((bR g d) y) = (aq cl op x y).map (bR g d) := by
 have key := UG (g := g) (d := d) cl op x y
 cases x with
 | int k a =>
  cases y with
  | int k' b => cases op <;> simp only [wE, aq, PO] <;> (split <;> simp [W2])
  | _ => simpa [aq] using key
 | string a =>
  cases y with
  | string b => simp [aq, W4]
  | _ => simpa [aq] using key
 | _ => simpa [aq] using key
theorem Za (op : UnOp) (x : Value) : mD op ((bR g d) x) = (mD op x).map (bR g d) := by cases op <;> cases x <;> simp [mD]
theorem UF (k : Option IntKind) (x : Value) : cH k ((bR g d) x) = (cH k x).map (bR g d) := by cases k <;> cases x <;> simp [cH]
theorem HP (v : Value) (i : Nat) : af ((bR g d) v) i = (af v i).map (bR g d) := by cases v <;> simp [af]
theorem Bn (v : Value) : mA ((bR g d) v) = mA v := by cases v <;> simp [mA]
end
inductive Tr (α : Type) where
 | lf
 | nd (v : Option α) (l r : Tr α)
section
variable {α : Type}
def Tr.get : Tr α → Nat → Option α
 | .lf, _ => none
 | .nd v l r, i => match i with
  | 0 => v
  | i + 1 => match Nat.beq (i % 2) 0 with
   | true => l.get (i / 2)
   | false => r.get (i / 2)
def Tr.set (x : α) : Nat → Tr α → Nat → Option (Tr α)
 | 0, _, _ => none
 | k + 1, t, i => match i with
  | 0 => match t with
   | .lf => some (.nd (some x) .lf .lf)
   | .nd _ l r => some (.nd (some x) l r)
  | i + 1 => match Nat.beq (i % 2) 0 with
   | true => match t with
    | .lf => (Tr.set x k .lf (i / 2)).map fun l' => .nd none l' .lf
    | .nd v l r => (Tr.set x k l (i / 2)).map fun l' => .nd v l' r
   | false => match t with
    | .lf => (Tr.set x k .lf (i / 2)).map fun r' => .nd none .lf r'
    | .nd v l r => (Tr.set x k r (i / 2)).map fun r' => .nd v l r'
theorem Tr.get_set {x : α} : ∀ (k : Nat) {t t' : Tr α} {i : Nat}, Tr.set x k t i = some t' → ∀ j, t'.get j = if j = i then some x else t.get j := by
 intro k
 induction k with
 | zero => intro t t' i h; cases h
 | succ k ih =>
  intro t t' i h j
  cases i with
  | zero =>
   cases t with
   | lf => simp only [Tr.set] at h; cases h; cases j with
    | zero => rfl
    | succ j => simp only [Tr.get]; split <;> simp [Tr.get]
   | nd v l r => simp only [Tr.set] at h; cases h; cases j with
    | zero => rfl
    | succ j => simp [Tr.get]
  | succ i =>
   simp only [Tr.set] at h
   have beq : ∀ a : Nat, Nat.beq a 0 = (a == 0) := fun a => by cases a <;> simp [Nat.beq]
   have lf : ∀ j, (Tr.lf : Tr α).get j = none := fun j => by cases j <;> rfl
   cases hb : Nat.beq (i % 2) 0 with
   | true =>
    have hi : i % 2 = 0 := by rw [beq] at hb; simpa using hb
    rw [hb] at h;simp only at h
    have key : ∃ v l r l', Tr.set x k l (i / 2) = some l' ∧ t' = .nd v l' r ∧ ∀ j, t.get j = (Tr.nd v l r).get j := by
     cases t with
     | lf => obtain ⟨l', h1, e⟩ := be.1 h; exact ⟨none, .lf, .lf, l', h1, e.symm, fun j => by rw [lf]; cases j with | zero => rfl | succ j => simp only [Tr.get]; split <;> rfl⟩
     | nd v l r => obtain ⟨l', h1, e⟩ := be.1 h; exact ⟨v, l, r, l', h1, e.symm, fun j => rfl⟩
    obtain ⟨v, l, r, l', h1, rfl, hg⟩ := key;rw [hg]
    cases j with
    | zero => rfl
    | succ j =>
     simp only [Tr.get]
     cases hj : Nat.beq (j % 2) 0 with
     | true =>
      have hj' : j % 2 = 0 := by rw [beq] at hj; simpa using hj
      simp only;rw [ih h1]
      by_cases e : j / 2 = i / 2
      ·rw [if_pos e, if_pos (by omega)]
      ·rw [if_neg e, if_neg (by omega)]
     | false =>
      have hj' : j % 2 ≠ 0 := by rw [beq] at hj; simpa using hj
      simp only;rw [if_neg (by omega)]
   | false =>
    have hi : i % 2 ≠ 0 := by rw [beq] at hb; simpa using hb
    rw [hb] at h;simp only at h
    have key : ∃ v l r r', Tr.set x k r (i / 2) = some r' ∧ t' = .nd v l r' ∧ ∀ j, t.get j = (Tr.nd v l r).get j := by
     cases t with
     | lf => obtain ⟨l', h1, e⟩ := be.1 h; exact ⟨none, .lf, .lf, l', h1, e.symm, fun j => by rw [lf]; cases j with | zero => rfl | succ j => simp only [Tr.get]; split <;> rfl⟩
     | nd v l r => obtain ⟨l', h1, e⟩ := be.1 h; exact ⟨v, l, r, l', h1, e.symm, fun j => rfl⟩
    obtain ⟨v, l, r, l', h1, rfl, hg⟩ := key;rw [hg]
    cases j with
    | zero => rfl
    | succ j =>
     simp only [Tr.get]
     cases hj : Nat.beq (j % 2) 0 with
     | false =>
      have hj' : j % 2 ≠ 0 := by rw [beq] at hj; simpa using hj
      simp only;rw [ih h1]
      by_cases e : j / 2 = i / 2
      ·rw [if_pos e, if_pos (by omega)]
      ·rw [if_neg e, if_neg (by omega)]
     | true =>
      have hj' : j % 2 = 0 := by rw [beq] at hj; simpa using hj
      simp only;rw [if_neg (by omega)]
end
structure EH where
 n : Nat
 t : Tr AObj
def EH.get (E : EH) (b : Nat) : Option AObj := E.t.get b
def EH.set (E : EH) (b : Nat) (o : AObj) : Option EH := (Tr.set o 24 E.t b).map fun t => ⟨E.n, t⟩
def EH.push (E : EH) (o : AObj) : Option EH := (Tr.set o 24 E.t E.n).map fun t => ⟨E.n + 1, t⟩
section
variable (g d : Nat)
def HN (e : MapEntry) : MapEntry := { e with key := bR g d e.key, val := bR g d e.val }
def Iu : AObj → AObj
 | .cells ro cs => .cells ro (gU g d cs)
 | .map es c => .map (es.map (HN g d)) c
 | .dead => .dead
structure HR (F : List AObj) (E : EH) (H : AH) : Prop where
 len : F.length = d
 le : g ≤ E.n
 size : H.size = E.n + d
 get : ∀ b, H.get (yw g d b) = (E.get b).map (Iu g d)
 out : ∀ b, E.n ≤ b → E.get b = none
 fr : ∀ b, g ≤ b → b < g + d → H.get b = F[b - g]?
end
section
variable {g d : Nat} {F : List AObj} {E E' : EH} {H : AH}
theorem HR.lt (h : HR g d F E H) {b : Nat} {o : AObj} (hb : E.get b = some o) : b < E.n := by
 rcases Nat.lt_or_ge b E.n with h1 | h1
 ·exact h1
 ·rw [h.out b h1] at hb; cases hb
theorem HR.new (h : HR g d F E H) : H.size = yw g d E.n := by
 unfold yw; rw [if_neg (by have := h.le; omega)]; exact h.size
theorem HR.shlt (h : HR g d F E H) {b : Nat} (hb : b < E.n) : yw g d b < H.size := by
 rw [h.size]; unfold yw; split <;> omega
theorem HR.set (h : HR g d F E H) {b : Nat} {o : AObj} (hb : b < E.n) (hs : E.set b o = some E') : HR g d F E' (H.set (yw g d b) (Iu g d o)) := by
 obtain ⟨t, ht, rfl⟩ := be.1 hs;have hg := Tr.get_set 24 ht;refine ⟨h.len, h.le, by rw [AH.size_set]; exact h.size, fun j => ?_, fun j hj => ?_, fun j h1 h2 => ?_⟩
 ·show _ = (t.get j).map _
  rw [hg j, AH.get_set]
  by_cases e : j = b
  ·subst e; rw [if_pos rfl, if_pos rfl, if_pos (h.shlt hb)]; rfl
  ·rw [if_neg (fun x => e (Nk x)), if_neg e]; exact h.get j
 ·show t.get j = none
  rw [hg j, if_neg (by have : E.n ≤ j := hj; omega)]; exact h.out j hj
 ·rw [AH.get_set_ne (by unfold yw; split <;> omega)]; exact h.fr j h1 h2
theorem HR.push (h : HR g d F E H) {o : AObj} (hs : E.push o = some E') : HR g d F E' (H.push (Iu g d o)) := by
 obtain ⟨t, ht, rfl⟩ := be.1 hs;have hg := Tr.get_set 24 ht;have hle := h.le;have hsz := h.size;refine ⟨h.len, by show g ≤ E.n + 1; omega, by rw [AH.size_push, hsz]; show _ = E.n + 1 + d; omega, fun j => ?_, fun j hj => ?_, fun j h1 h2 => ?_⟩
 ·show _ = (t.get j).map _
  rw [hg j, AH.get_push, h.new]
  by_cases e : j = E.n
  ·subst e; rw [if_pos rfl, if_pos rfl]; rfl
  ·rw [if_neg (fun x => e (Nk x)), if_neg e]; exact h.get j
 ·show t.get j = none
  have : E.n + 1 ≤ j := hj;rw [hg j, if_neg (by omega)]; exact h.out j (by omega)
 ·rw [AH.get_push_old (by omega)]; exact h.fr j h1 h2
end
section
variable {g d : Nat}
theorem Dj (cs : List Value) (o : Nat) (xs : List Value) : splice (gU g d cs) o (gU g d xs) = gU g d (splice cs o xs) := by
 simp [splice, gU, List.map_take, List.map_drop]
theorem Bm (places : Nat → Option (Nat × Nat)) : ∀ (parts : List (Nat × Value)) (zero : List Value), dk places (gU g d zero) (parts.map fun p => (p.1, (bR g d) p.2)) = (dk places zero parts).map (gU g d) := by
 intro parts
 induction parts with
 | nil => intro zero; rfl
 | cons p parts ih =>
  intro zero;obtain ⟨i, v⟩ := p;simp only [List.map_cons, dk]
  cases places i with
  | none => rfl
  | some q =>
   simp only [bG];rw [Bj, Array.size_map, Array.toList_map, show (gU g d zero).length = zero.length from ui _]
   split
   ·rw [show List.map (bR g d) v.cells.toList = gU g d v.cells.toList from rfl, Dj]; exact ih _
   ·rfl
theorem Qk (e : Nat) (x : Value) (lo hi : Option Value) : ft e ((bR g d) x) (lo.map (bR g d)) (hi.map (bR g d)) = (ft e x lo hi).map (bR g d) := by
 cases x with
 | slice a n e' =>
  have key : ∀ L R : Option Int, (L.bind fun l => R.bind fun h =>
   if 0 ≤ l ∧ l ≤ h ∧ h ≤ n then
    match a.map (xd g d) with
    | none => if n = 0 ∧ e' = 0 then some (.slice none 0 0) else none
    | some ⟨b, o, none⟩ => if e' = e ∧ 0 < e then some (.slice (some ⟨b, o + l.toNat * e, none⟩) (h.toNat - l.toNat) e) else none
    | _ => none
   else none : Option Value) = (L.bind fun l => R.bind fun h =>
   if 0 ≤ l ∧ l ≤ h ∧ h ≤ n then
    match a with
    | none => if n = 0 ∧ e' = 0 then some (.slice none 0 0) else none
    | some ⟨b, o, none⟩ => if e' = e ∧ 0 < e then some (.slice (some ⟨b, o + l.toNat * e, none⟩) (h.toNat - l.toNat) e) else none
    | _ => none
   else none : Option Value).map (bR g d) := by
   intro L R
   cases L with
   | none => rfl
   | some l =>
    cases R with
    | none => rfl
    | some r =>
     simp only [bG]
     split
     ·cases a with
      | none => simp only [Option.map_none]; split <;> simp
      | some a =>
       obtain ⟨b, o, sp⟩ := a
       cases sp with
       | none => simp only [eR, xd]; split <;> simp [xd]
       | some sp => simp [xd]
     ·rfl
  cases lo with
  | none =>
   cases hi with
   | none => simp only [gz, ft, Option.map_none]; exact key (some 0) (some n)
   | some h => simp only [gz, ft, eR, Bn]; exact key (some 0) (mA h)
  | some l =>
   cases hi with
   | none => simp only [gz, ft, eR, Bn]; exact key (mA l) (some n)
   | some h => simp only [gz, ft, eR, Bn]; exact key (mA l) (mA h)
 | _ => simp [ft]
theorem Kw {x hi mx v : Value} (h : jf x hi mx = some v) : jf ((bR g d) x) ((bR g d) hi) ((bR g d) mx) = some ((bR g d) v) := by
 unfold jf at h
 split at h
 ·cases h; simp [jf]
 ·cases h; simp [jf, xd]
 ·cases h
theorem UC (v : Value) : pN ((bR g d) v) = pN v := by cases v <;> simp [pN]
theorem Bl (cl : KCls) (k : Value) : iR cl ((bR g d) k) = iR cl k := by
 cases cl <;> cases k <;> simp [iR]
 rename_i n cs
 congr 2
 funext v; exact UC v
theorem UD (cl : KCls) (a b : Value) : kc cl ((bR g d) a) ((bR g d) b) = kc cl a b := by
 cases cl with
 | flat n =>
  cases a <;> cases b <;> simp [kc]
  rename_i x y
  rw [show bI (List.map (bR g d) x.toList) (List.map (bR g d) y.toList) = bI x.toList y.toList from Bk _ _]
 | int => cases a <;> cases b <;> simp [kc]
 | string => cases a <;> cases b <;> simp [kc]
theorem th (cl : KCls) (k : Value) : ∀ (es : List MapEntry) (i : Nat), br cl ((bR g d) k) (es.map (HN g d)) i = (br cl k es i).map fun r => r.map fun p => (p.1, (bR g d) p.2) := by
 intro es
 induction es with
 | nil => intro i; rfl
 | cons e es ih =>
  intro i;simp only [List.map_cons, br, HN, UD]
  cases kc cl k e.key with
  | none => rfl
  | some b =>
   simp only [bG]
   cases b with
   | true => simp
   | false => simp only [Bool.false_eq_true, if_false]; exact ih _
theorem Kt (v : Value) (args : List Value) : dd ((bR g d) v) (gU g d args) = (dd v args).map fun r => (r.1, gU g d r.2) := by
 cases v with
 | func fn f c => cases fn <;> simp [dd, gU]
 | _ => simp [dd]
end
def pk (E : EH) (b : Nat) : Option (List Value) :=
 match E.get b with
 | some (.cells _ cs) => some cs
 | _ => none
def Rz (v : Value) (E : EH) : Option Value := (sJ v).bind fun a => (pk E a.1).bind fun cs => cs[a.2]?
def RA (n : Nat) (v : Value) (E : EH) : Option Value :=
 (sJ v).bind fun a => (pk E a.1).bind fun cs => if a.2 + n ≤ cs.length then some (.agg ((cs.drop a.2).take n).toArray) else none
def eSt (n : Nat) (v x : Value) (E : EH) : Option EH :=
 (sJ v).bind fun a => match E.get a.1 with
  | some (.cells false cs) => if x.cells.size = n ∧ a.2 + n ≤ cs.length ∧ x.cells.toList.all Value.oneCell' = true then E.set a.1 (.cells false (splice cs a.2 x.cells.toList)) else none
  | _ => none
def YB (cs : List Value) (E : EH) : Option (Value × EH) := (E.push (.cells false cs)).map fun E' => (.pointer (some ⟨E.n, 0, none⟩), E')
def Cy (n e : Nat) (cs : List Value) (E : EH) : Option (Value × EH) := (E.push (.cells false cs)).map fun E' => (.slice (some ⟨E.n, 0, none⟩) n e, E')
def Cx (v : Value) (E : EH) : Option Value :=
 match v with
 | .map none => some (.int .i64 0)
 | .map (some b) => match E.get b with
  | some (.map es _) => some (.int .i64 es.length)
  | _ => none
 | _ => none
def N8 (e : Nat) (x : Value) (E : EH) : Option (Nat × List Value) :=
 match x with
 | .slice none n _ => if n = 0 then some (0, []) else none
 | .slice (some ⟨b, o, none⟩) m _ => if m = 0 then some (0, []) else (pk E b).bind fun cs => if o + m * e ≤ cs.length then some (m, (cs.drop o).take (m * e)) else none
 | _ => none
def Yz (e bytes : Nat) (s x : Value) (E : EH) : Option (Value × EH) :=
 (N8 e x E).bind fun r =>
  if r.2.all Value.oneCell' = true ∧ 0 < e then
   match s with
   | .slice none n k => if n = 0 ∧ k = 0 then (if r.1 = 0 then some (.slice none 0 0, E) else if r.1 * bytes ≤ dt ∧ r.1 ≤ dt then Cy r.1 e r.2 E else none) else none
   | .slice (some ⟨b, o, none⟩) n e' =>
    if r.1 = 0 then some (s, E)
    else if e' = 0 then (if n = 0 ∧ r.1 * bytes ≤ dt ∧ r.1 ≤ dt then Cy r.1 e r.2 E else none)
    else match E.get b with
     | some (.cells false cs) =>
      if e' = e ∧ o + n * e ≤ cs.length ∧ (n + r.1) * bytes ≤ dt ∧ n + r.1 ≤ dt then (E.set b .dead).bind fun E1 => Cy (n + r.1) e ((cs.drop o).take (n * e) ++ r.2) E1 else none
     | _ => none
   | _ => none
  else none
def RB (zero : List Value) (e bytes : Nat) (len cap : Value) (E : EH) : Option (Value × EH) :=
 match len, cap with
 | .int _ l, .int _ c => if 0 ≤ l ∧ l = c ∧ l.toNat * bytes ≤ dt ∧ l.toNat ≤ dt ∧ 0 < e ∧ zero.length = e then
  Cy l.toNat e (List.replicate l.toNat zero).flatten E else none
 | _, _ => none
def vz (v : Value) (E : EH) : Option (List MapEntry × Nat) :=
 match v with
 | .map none => some ([], 0)
 | .map (some b) => match E.get b with
  | some (.map es c) => some (es, c)
  | _ => none
 | _ => none
def yB (fl : KCls) (zero : Value) (m k : Value) (ok : Bool) (E : EH) : Option Value :=
 if iR fl k = true then (vz m E).bind fun es => (br fl k es.1 0).map fun r => match r with
  | some (_, v) => if ok then .tuple #[v, .bool true] else v
  | none => if ok then .tuple #[zero, .bool false] else zero
 else none
def DP (fl : KCls) (m k x : Value) (E : EH) : Option EH :=
 if iR fl k = true then match m with
 | .map (some b) => match E.get b with
  | some (.map es c) => (br fl k es 0).bind fun r => match r with
   | some (i, _) => E.set b (.map (es.modify i fun e => { e with key := k, val := x }) c)
   | none => E.set b (.map (es ++ [{ key := k, val := x, born := c }]) (c + 1))
  | _ => none
 | _ => none
 else none
def DJ (fl : KCls) (m k : Value) (E : EH) : Option EH :=
 if iR fl k = true then match m with
 | .map (some b) => match E.get b with
  | some (.map es c) => (br fl k es 0).bind fun r => match r with
   | some (i, _) => E.set b (.map (es.eraseIdx i) c)
   | none => E.set b (.map es c)
  | _ => none
 | _ => none
 else none
def ei (g d : Nat) (F : List AObj) (x : Option (Value × EH)) (y : Option (Value × AH)) : Prop := ∀ v E', x = some (v, E') → ∃ H', y = some (bR g d v, H') ∧ HR g d F E' H'
def VI (g d : Nat) (F : List AObj) (x : Option EH) (y : Option AH) : Prop := ∀ E', x = some E' → ∃ H', y = some H' ∧ HR g d F E' H'
section
variable {g d : Nat} {F : List AObj} {E E' : EH} {H : AH}
theorem HR.cells (h : HR g d F E H) (b : Nat) : d8 H (yw g d b) = (pk E b).map (gU g d) := by
 unfold d8 pk;rw [h.get b]
 cases E.get b with
 | none => rfl
 | some o => cases o <;> rfl
theorem HR.ld1 (h : HR g d F E H) (v : Value) : ar ((bR g d) v) H = (Rz v E).map (bR g d) := by
 unfold ar Rz;rw [FG]
 cases sJ v with
 | none => rfl
 | some a =>
  simp only [eR, bG, h.cells]
  cases pk E a.1 <;> simp [gU]
theorem HR.ldN (h : HR g d F E H) (n : Nat) (v : Value) : aA n ((bR g d) v) H = (RA n v E).map (bR g d) := by
 unfold aA RA;rw [FG]
 cases sJ v with
 | none => rfl
 | some a =>
  simp only [eR, bG, h.cells]
  cases pk E a.1 with
  | none => rfl
  | some cs =>
   simp only [eR, bG, gU, ui]
   split
   ·simp [List.map_take, List.map_drop]
   ·rfl
theorem HR.st (h : HR g d F E H) (n : Nat) (v x : Value) : VI g d F (eSt n v x E) (cD n ((bR g d) v) ((bR g d) x) H) := by
 intro E' he;unfold eSt at he;unfold cD;rw [FG];obtain ⟨a, ha, he⟩ := aE.1 he;rw [ha];simp only [eR, bG, h.get]
 split at he
 ·rename_i cs hcs
  split at he
  ·rename_i hc
   rw [hcs];simp only [eR, Iu]
   rw [Bj, Array.size_map, Array.toList_map, show (gU g d cs).length = cs.length from ui _, show (List.map (bR g d) x.cells.toList).all Value.oneCell' = x.cells.toList.all Value.oneCell' from Nm _, if_pos hc,
    show splice (gU g d cs) a.2 (List.map (bR g d) x.cells.toList) = gU g d (splice cs a.2 x.cells.toList) from Dj _ _ _]
   exact ⟨_, rfl, h.set (h.lt hcs) he⟩
  ·cases he
 ·cases he
theorem HR.new' (h : HR g d F E H) (cs : List Value) : ei g d F (YB cs E) (some (W3 (gU g d cs) H)) := by
 intro v E' he;obtain ⟨E1, h1, e⟩ := be.1 he;cases e;exact ⟨H.push (Iu g d (.cells false cs)), by simp [W3, h.new, xd, Iu], h.push h1⟩
theorem HR.rowP (h : HR g d F E H) (n e : Nat) (cs : List Value) : ei g d F (Cy n e cs E) (some (.slice (some ⟨H.size, 0, none⟩) n e, H.push (.cells false (gU g d cs)))) := by
 intro v E' he;obtain ⟨E1, h1, e⟩ := be.1 he;cases e;exact ⟨H.push (Iu g d (.cells false cs)), by simp [h.new, xd, Iu], h.push h1⟩
theorem HR.lenM (h : HR g d F E H) (v : Value) : mB ((bR g d) v) H = (Cx v E).map (bR g d) := by
 cases v with
 | map r =>
  cases r with
  | none => simp [mB, Cx]
  | some b =>
   simp only [FE, eR, mB, Cx, h.get]
   cases E.get b with
   | none => rfl
   | some o => cases o <;> simp [Iu]
 | _ => simp [mB, Cx]
theorem HR.row (h : HR g d F E H) (e : Nat) (x : Value) : kV e ((bR g d) x) H = (N8 e x E).map fun r => (r.1, gU g d r.2) := by
 cases x with
 | slice a n k =>
  cases a with
  | none => simp only [gz, Option.map_none, kV, N8]; split <;> rfl
  | some a =>
   obtain ⟨b, o, sp⟩ := a
   cases sp with
   | some sp => simp [kV, N8, xd]
   | none =>
    simp only [gz, eR, xd, kV, N8, h.cells]
    split
    ·rfl
    ·cases pk E b with
     | none => rfl
     | some cs =>
      simp only [eR, bG, gU, ui]
      split
      ·simp [List.map_take, List.map_drop]
      ·rfl
 | _ => simp [kV, N8]
theorem HR.mapOf (h : HR g d F E H) (v : Value) : jO ((bR g d) v) H = (vz v E).map fun r => (r.1.map (HN g d), r.2) := by
 cases v with
 | map r =>
  cases r with
  | none => simp [jO, vz]
  | some b =>
   simp only [FE, eR, jO, vz, h.get]
   cases E.get b with
   | none => rfl
   | some o => cases o <;> simp [Iu]
 | _ => simp [jO, vz]
theorem HR.lookup (h : HR g d F E H) (fl : KCls) {zero : Value} (hz : (bR g d) zero = zero) (m k : Value) (ok : Bool) : cY fl zero ((bR g d) m) ((bR g d) k) ok H = (yB fl zero m k ok E).map (bR g d) := by
 unfold cY yB;rw [Bl]
 split
 ·rw [h.mapOf]
  cases vz m E with
  | none => rfl
  | some es =>
   simp only [eR, bG, th]
   cases br fl k es.1 0 with
   | none => rfl
   | some r =>
    cases r with
    | none => cases ok <;> simp [hz]
    | some p => cases ok <;> simp
 ·rfl
theorem HR.update (h : HR g d F E H) (fl : KCls) (m k x : Value) : VI g d F (DP fl m k x E) (eD fl ((bR g d) m) ((bR g d) k) ((bR g d) x) H) := by
 intro E' he;unfold DP at he
 split at he
 ·rename_i hk
  split at he
  ·rename_i b
   split at he
   ·rename_i es c hb
    obtain ⟨r, hr, he⟩ := aE.1 he
    have hg : H.get (yw g d b) = some (.map (es.map (HN g d)) c) := by rw [h.get, hb]; rfl
    have hf := th (g := g) (d := d) fl k es 0;rw [hr] at hf;simp only [FE, eR, eD, Bl, hk, if_true, hg]
    cases r with
    | some p =>
     have hf : br fl ((bR g d) k) (es.map (HN g d)) 0 = some (some (p.1, (bR g d) p.2)) := hf;rw [hf];refine ⟨_, rfl, ?_⟩;have := h.set (h.lt hb) he;simp only [Iu] at this;show HR g d F E' (H.set (yw g d b) (.map ((es.map (HN g d)).modify p.1 fun e => { e with key := (bR g d) k, val := (bR g d) x }) c));rw [show (es.map (HN g d)).modify p.1 (fun e => { e with key := (bR g d) k, val := (bR g d) x }) = (es.modify p.1 fun e => { e with key := k, val := x }).map (HN g d) from ?_]
     ·exact this
     ·apply List.ext_getElem?
      intro i;simp only [List.getElem?_modify, Au]
      cases es[i]? with
      | none => rfl
      | some e => simp only [eR, Option.map_map]; split <;> rfl
    | none =>
     have hf : br fl ((bR g d) k) (es.map (HN g d)) 0 = some none := hf;rw [hf];refine ⟨_, rfl, ?_⟩;have := h.set (h.lt hb) he;simp only [Iu, EV, List.map_cons, List.map_nil, HN] at this;exact this
   ·cases he
  ·cases he
 ·cases he
theorem HR.delete (h : HR g d F E H) (fl : KCls) (m k : Value) : VI g d F (DJ fl m k E) (mz fl ((bR g d) m) ((bR g d) k) H) := by
 intro E' he;unfold DJ at he
 split at he
 ·rename_i hk
  split at he
  ·rename_i b
   split at he
   ·rename_i es c hb
    obtain ⟨r, hr, he⟩ := aE.1 he
    have hg : H.get (yw g d b) = some (.map (es.map (HN g d)) c) := by rw [h.get, hb]; rfl
    have hf := th (g := g) (d := d) fl k es 0;rw [hr] at hf;simp only [FE, eR, mz, Bl, hk, if_true, hg]
    cases r with
    | some p =>
     have hf : br fl ((bR g d) k) (es.map (HN g d)) 0 = some (some (p.1, (bR g d) p.2)) := hf;rw [hf];refine ⟨_, rfl, ?_⟩;have := h.set (h.lt hb) he;simp only [Iu] at this;show HR g d F E' (H.set (yw g d b) (.map ((es.map (HN g d)).eraseIdx p.1) c));rw [show (es.map (HN g d)).eraseIdx p.1 = (es.eraseIdx p.1).map (HN g d) from by simp [List.eraseIdx_eq_take_drop_succ, List.map_take, List.map_drop]];exact this
    | none =>
     have hf : br fl ((bR g d) k) (es.map (HN g d)) 0 = some none := hf;rw [hf];exact ⟨_, rfl, h.set (h.lt hb) he⟩
   ·cases he
  ·cases he
 ·cases he
theorem HR.make (h : HR g d F E H) {zero : List Value} (hz : gU g d zero = zero) (e by' : Nat) (len cap : Value) : ei g d F (RB zero e by' len cap E) (mC zero e by' ((bR g d) len) ((bR g d) cap) H) := by
 intro v E' he;unfold RB at he
 split at he
 ·split at he
  ·rename_i k1 l k2 c hc
   obtain ⟨H', h1, h2⟩ := h.rowP _ _ _ v E' he;refine ⟨H', ?_, h2⟩;simp only [wE, mC];rw [if_pos hc, ← h1]
   congr 4
   rw [gU, List.map_flatten, List.map_replicate, show List.map (bR g d) zero = zero from hz]
  ·cases he
 ·cases he
theorem HR.app (h : HR g d F E H) (e by' : Nat) (x y : Value) : ei g d F (Yz e by' x y E) (f3 e by' ((bR g d) x) ((bR g d) y) H) := by
 intro v E' he;unfold Yz at he;unfold f3;rw [h.row];obtain ⟨r, hr, he⟩ := aE.1 he;rw [hr];simp only [eR, bG];rw [show (gU g d r.2).all Value.oneCell' = r.2.all Value.oneCell' from Nm _]
 split at he
 ·rename_i hc
  rw [if_pos hc]
  split at he
  ·rename_i n k
   simp only [gz, Option.map_none]
   split at he
   ·rename_i h0
    rw [if_pos h0]
    split at he
    ·rename_i h1
     rw [if_pos h1]; cases he; exact ⟨H, by simp, h⟩
    ·rename_i h1
     rw [if_neg h1]
     split at he
     ·rename_i h2
      rw [if_pos h2];exact h.rowP _ _ _ v E' he
     ·cases he
   ·cases he
  ·rename_i _ b o n e' _
   simp only [gz, eR, xd]
   split at he
   ·rename_i h1
    rw [if_pos h1]; cases he; exact ⟨H, by simp [xd], h⟩
   ·rename_i h1
    rw [if_neg h1]
    split at he
    ·rename_i h2
     rw [if_pos h2]
     split at he
     ·rename_i h3
      rw [if_pos h3];exact h.rowP _ _ _ v E' he
     ·cases he
    ·rename_i h2
     rw [if_neg h2]
     split at he
     ·rename_i cs hb
      have hg : H.get (yw g d b) = some (.cells false (gU g d cs)) := by rw [h.get, hb]; rfl
      rw [hg];simp only;rw [show (gU g d cs).length = cs.length from ui _]
      split at he
      ·rename_i h3
       rw [if_pos h3];obtain ⟨E1, h4, he⟩ := aE.1 he;have hs := h.set (h.lt hb) h4;obtain ⟨H', h5, h6⟩ := hs.rowP _ _ _ v E' he;refine ⟨H', ?_, h6⟩;rw [← h5, AH.size_set];simp [Iu, gU, List.map_take, List.map_drop]
      ·cases he
     ·cases he
  ·cases he
 ·cases he
end
abbrev TF := Nat → List Value → EH → Option (Value × EH)
def Bs (P : Program) (b : Builtin) (argTypes : Array TypeId) (args : List Value) (E : EH) : Option (Value × EH) :=
 match b, args with
 | .len, [x] => match (argTypes[0]?).bind fun t => P.underlying t with
  | some (.slice _) => match x with | .slice _ _ _ => (pa x).map (·, E) | _ => none
  | some .string => match x with | .string _ => (pa x).map (·, E) | _ => none
  | some (.map _ _) => (Cx x E).map (·, E)
  | _ => none
 | .max, args => (ii args).map (·, E)
 | .min, args => (ju args).map (·, E)
 | .append, [s, x] => (argTypes[0]?).bind fun t => (cF P t).bind fun el => (cL P el).bind fun e => (fQ P el).bind fun by' => (bT P el).bind fun z =>
  if z.cells.size = e ∧ (argTypes[1]?).bind (fun u => cF P u) = some el then Yz e by' s x E else none
 | .delete, [m, k] => (argTypes[0]?).bind fun t => (cG P t).bind fun kt => (cT P kt.1).bind fun fl => (DJ fl m k E).map fun E' => (.tuple #[], E')
 | _, _ => none
def Zx (P : Program) (ev : Operand → Value) (op : Op) (E : EH) : Option Value :=
 match op with
 | .load t a => (fB P t).bind fun g => match g with
  | some n => RA n (ev a) E
  | none => Rz (ev a) E
 | .lookup t m k ok => (cG P t).bind fun kt => (cT P kt.1).bind fun fl => (bT P kt.2).bind fun z => yB fl z (ev m) (ev k) ok E
 | .call c => match c.args.toList.map ev with
  | [x] => match (c.argTypes[0]?).bind fun t => P.underlying t with
   | some (.slice _) => match x with | .slice _ _ _ => pa x | _ => none
   | some .string => match x with | .string _ => pa x | _ => none
   | some (.map _ _) => Cx x E
   | _ => none
  | _ => none
 | _ => none
def u9 (P : Program) (call : TF) (ev : Operand → Value) (o : Oper) (E : EH) : Option (Value × EH) :=
 match o.op with
 | .move x => some (ev x, E)
 | .assign x => some (ev x, E)
 | .pick c a b => (aX (ev c) (ev a) (ev b)).map (·, E)
 | .alloc t => (bT P t).bind fun z => YB z.cells.toList E
 | .box _ x => YB (ev x).cells.toList E
 | .build t parts => match P.underlying t with
  | some (.struct fs) => (bT P t).bind fun z => (jg P fs.toList).bind fun ps => (dk (ps[·]?) z.cells.toList (parts.toList.map fun p => (p.1, ev p.2))).map fun cs => (.agg cs.toArray, E)
  | some (.array _ el) => (bT P t).bind fun z => (cL P el).bind fun e => (dk (fun i => some (i * e, e)) z.cells.toList (parts.toList.map fun p => (p.1, ev p.2))).map fun cs => (.agg cs.toArray, E)
  | _ => none
 | .buildSlice t len parts => (cF P t).bind fun el => (cL P el).bind fun e => (bT P el).bind fun z =>
  if 0 < e ∧ z.cells.size = e ∧ len * e ≤ 2 ^ 24 then
   (dk (fun i => some (i * e, e)) (List.replicate len z.cells.toList).flatten (parts.toList.map fun p => (p.1, ev p.2))).bind fun cs => Cy len e cs E
  else none
 | .load t a => (fB P t).bind fun g => match g with
  | some n => (RA n (ev a) E).map (·, E)
  | none => (Rz (ev a) E).map (·, E)
 | .store t a x => (cL P t).bind fun n => (eSt n (ev a) (ev x) E).map fun E' => (undef, E')
 | .nilCheck x => (sK (ev x)).map (·, E)
 | .binOp op t x y _ => (aq (wN P t) op (ev x) (ev y)).map (·, E)
 | .unOp op _ x => (mD op (ev x)).map (·, E)
 | .convert src dst x => match P.underlying src with
  | some _ => (cH (pO P dst) (ev x)).map (·, E)
  | none => none
 | .makeFunc fn first captured => some (.func fn (first.map ev) (captured.map ev), E)
 | .makeMap _ none => (E.push (.map [] 0)).map fun E' => (.map (some E.n), E')
 | .makeSlice t l c => (cF P t).bind fun el => (cL P el).bind fun e => (fQ P el).bind fun by' => (bT P el).bind fun z => RB z.cells.toList e by' (ev l) (ev c) E
 | .slice t x lo hi none => (cF P t).bind fun el => (cL P el).bind fun e => (ft e (ev x) (lo.map ev) (hi.map ev)).map (·, E)
 | .slice t x none (some hi) (some mx) => (cF P t).bind fun el => (cL P el).bind fun _ => (jf (ev x) (ev hi) (ev mx)).map (·, E)
 | .fieldAddr s x f => (jU P s f).bind fun f => (cL P f.type).bind fun n => if n = 0 then none else (B4 f.offset (ev x)).map (·, E)
 | .field s x f => (jU P s f).bind fun f => (fB P f.type).bind fun n => (kK n f.offset (ev x)).map (·, E)
 | .indexAddr t x i => match P.underlying t with
  | some (.slice el) => (cL P el).bind fun e => (nF e (ev x) (ev i)).map (·, E)
  | some (.array len el) => (cL P el).bind fun e => (jx len e (ev x) (ev i)).map (·, E)
  | _ => none
 | .index t x i => match P.underlying t with
  | some (.array len el) => (cL P el).bind fun e => (fB P el).bind fun n => (je len n e (ev x) (ev i)).map (·, E)
  | some .string => (jd (ev x) (ev i)).map (·, E)
  | _ => none
 | .lookup t m k ok => (cG P t).bind fun kt => (cT P kt.1).bind fun fl => (bT P kt.2).bind fun z => (yB fl z (ev m) (ev k) ok E).map (·, E)
 | .mapUpdate t m k x => (cG P t).bind fun kt => (cT P kt.1).bind fun fl => (DP fl (ev m) (ev k) (ev x) E).map fun E' => (undef, E')
 | .extract t i => (af (ev t) i).map (·, E)
 | .call c => match c.callee with
  | .builtin b => Bs P b c.argTypes (c.args.toList.map ev) E
  | .value f => (dd (ev f) (c.args.toList.map ev)).bind fun fa => call fa.1 fa.2 E
  | _ => none
 | _ => none
section
variable {P : Program} {g d : Nat} {F : List AObj} {E E' : EH} {H : AH}
theorem jT {t : TypeId} {z : Value} (h : bT P t = some z) : (bR g d) z = z ∧ gU g d z.cells.toList = z.cells.toList := by
 obtain ⟨i, _, _, h1, h2⟩ := dc h;exact ⟨HO h2, u4 h1⟩
theorem ei.val (h : HR g d F E H) {x y : Option Value} (e : y = x.map (bR g d)) : ei g d F (x.map (·, E)) (y.map (·, H)) := by
 intro v E' hx;obtain ⟨z, hz, e1⟩ := be.1 hx;cases e1;rw [e, hz];exact ⟨H, rfl, h⟩
theorem ei.bind {α : Type} {o : Option α} {f : α → Option (Value × EH)} {f' : α → Option (Value × AH)} (h : ∀ a, o = some a → ei g d F (f a) (f' a)) : ei g d F (o.bind f) (o.bind f') := by
 intro v E' hx;obtain ⟨a, ha, hx⟩ := aE.1 hx;rw [ha];exact h a ha v E' hx
theorem ei.no {y : Option (Value × AH)} : ei g d F none y := fun v E' h => by cases h
theorem ei.ite {c : Prop} [Decidable c] {x : Option (Value × EH)} {y : Option (Value × AH)} (h : c → ei g d F x y) : ei g d F (if c then x else none) (if c then y else none) := by
 intro v E' hx
 split at hx
 ·rename_i hc; rw [if_pos hc]; exact h hc v E' hx
 ·cases hx
theorem ei.heap {x : Option EH} {y : Option AH} (v : Value) (hv : (bR g d) v = v) (h : VI g d F x y) : ei g d F (x.map fun E' => (v, E')) (y.map fun H' => (v, H')) := by
 intro v' E' hx;obtain ⟨E1, h1, e⟩ := be.1 hx;cases e;obtain ⟨H', h2, h3⟩ := h E' h1;exact ⟨H', by rw [h2, hv]; rfl, h3⟩
theorem I7 {ev ev' : Operand → Value} {l : List Operand} (h : ∀ x ∈ l, ev' x = (bR g d) (ev x)) : l.map ev' = gU g d (l.map ev) := by
 rw [gU, List.map_map];exact List.map_congr_left h
theorem Gm (h : HR g d F E H) (b : Builtin) (ats : Array TypeId) (args : List Value) : ei g d F (Bs P b ats args E) (cS P b ats (gU g d args) H) := by
 intro v E' hx;unfold Bs at hx
 split at hx
 ·rename_i x
  simp only [gU, List.map_cons, List.map_nil, cS]
  split at hx
  ·rename_i hu
   rw [hu];simp only
   split at hx
   ·simp only [gz]
    exact ei.val h (by rw [← gz, Xd]) v E' hx
   ·cases hx
  ·rename_i hu
   rw [hu];simp only
   split at hx
   ·simp only [Dk]
    exact ei.val h (by simp [pa]) v E' hx
   ·cases hx
  ·rename_i hu
   rw [hu];exact ei.val h (h.lenM _) v E' hx
  ·cases hx
 ·exact ei.val h (Xe _) v E' hx
 ·exact ei.val h (Xf _) v E' hx
 ·simp only [gU, List.map_cons, List.map_nil, cS]
  exact ei.bind (fun t _ => ei.bind fun el _ => ei.bind fun e _ => ei.bind fun by' _ => ei.bind fun z _ => ei.ite fun _ => h.app _ _ _ _) v E' hx
 ·simp only [gU, List.map_cons, List.map_nil, cS]
  exact ei.bind (fun t _ => ei.bind fun kt _ => ei.bind fun fl _ => ei.heap _ (by simp) (h.delete _ _ _)) v E' hx
 ·cases hx
theorem Yi (h : HR g d F E H) {ev ev' : Operand → Value} {op : Op} (hev : ∀ x, x ∈ op.operands.toList → ev' x = (bR g d) (ev x)) : ze P ev' op H = (Zx P ev op E).map (bR g d) := by
 cases op with
 | load t a =>
  simp only [ze, Zx];rw [hev a (by simp [Op.operands])]
  cases fB P t with
  | none => rfl
  | some n => cases n with
   | none => exact h.ld1 _
   | some n => exact h.ldN _ _
 | lookup t m k ok =>
  simp only [ze, Zx];rw [hev m (by simp [Op.operands]), hev k (by simp [Op.operands])]
  cases cG P t with
  | none => rfl
  | some kt =>
   simp only [bG]
   cases cT P kt.1 with
   | none => rfl
   | some fl =>
    simp only [bG]
    cases hz : bT P kt.2 with
    | none => rfl
    | some z => exact h.lookup fl (jT hz).1 _ _ _
 | call c =>
  have ha : c.args.toList.map ev' = gU g d (c.args.toList.map ev) := I7 fun x hx => hev x (by simp only [Op.operands, Call.operands, Array.toList_append, List.mem_append]; exact .inr hx);simp only [ze, Zx];rw [ha]
  generalize c.args.toList.map ev = l
  match l with
  | [] => rfl
  | [x] =>
   simp only [gU, List.map_cons, List.map_nil]
   generalize (c.argTypes[0]?).bind (fun t => P.underlying t) = u
   cases u with
   | none => rfl
   | some u => cases u <;> first | rfl | exact h.lenM _ | (cases x <;> simp [pa])
  | x :: y :: l => rfl
 | _ => rfl
def qD (g d : Nat) (F : List AObj) (c : TF) (c' : bE) : Prop := ∀ (E : EH) (H : AH) f args, HR g d F E H → ei g d F (c f args E) (c' f (gU g d args) H)
theorem YW (h : HR g d F E H) {c : TF} {c' : bE} (hc : qD g d F c c') {ev ev' : Operand → Value} {o : Oper} (hev : ∀ x, x ∈ o.op.operands.toList → ev' x = (bR g d) (ev x)) :
 ei g d F (u9 P c ev o E) (eH P c' ev' o H) := by
 obtain ⟨dst, op, type, pos, after, guard⟩ := o;simp only at hev
 have fill : ∀ (parts : Array (Nat × Operand)), (∀ x, x ∈ (parts.toList.map (·.2)) → ev' x = (bR g d) (ev x)) → (parts.toList.map fun p => (p.1, ev' p.2)) = (parts.toList.map fun p => (p.1, ev p.2)).map fun p => (p.1, (bR g d) p.2) := by
  intro parts hp;rw [List.map_map];refine List.map_congr_left fun p hpm => ?_;simp only [Function.comp];rw [hp p.2 (List.mem_map_of_mem hpm)]
 have arr : ∀ (l : Array Operand), (∀ x ∈ l.toList, ev' x = (bR g d) (ev x)) → l.map ev' = (l.map ev).map (bR g d) := by
  intro l hl;apply Array.toList_inj.1;rw [Array.toList_map, Array.toList_map, Array.toList_map];exact I7 hl
 cases op
 case move x => intro v E' hx; simp only [u9] at hx; cases hx; exact ⟨H, by simp only [eH]; rw [hev x (by simp [Op.operands])], h⟩
 case assign x => intro v E' hx; simp only [u9] at hx; cases hx; exact ⟨H, by simp only [eH]; rw [hev x (by simp [Op.operands])], h⟩
 case pick k a b =>
  simp only [u9, eH];rw [hev k (by simp [Op.operands]), hev a (by simp [Op.operands]), hev b (by simp [Op.operands])];exact ei.val h (UJ _ _ _)
 case alloc t =>
  intro v E' hx;simp only [u9] at hx;simp only [eH];obtain ⟨z, hz, hx⟩ := aE.1 hx;rw [hz];have := h.new' _ v E' hx;rw [(jT hz).2] at this;exact this
 case box t x =>
  simp only [u9, eH];rw [hev x (by simp [Op.operands]), Qj];exact h.new' _
 case build t parts =>
  have hp := fill parts fun x hx => hev x (by simpa [Op.operands] using hx);intro v E' hx;simp only [u9] at hx;simp only [eH];rw [hp]
  split at hx
  ·rename_i fs hu
   rw [hu];simp only;obtain ⟨z, hz, hx⟩ := aE.1 hx;obtain ⟨ps, hps, hx⟩ := aE.1 hx;obtain ⟨cs, hcs, e⟩ := be.1 hx;cases e;have hf := Bm (g := g) (d := d) (ps[·]?) (parts.toList.map fun p => (p.1, ev p.2)) z.cells.toList;rw [(jT hz).2, hcs] at hf;rw [hz, hps];simp only [bG];rw [hf];exact ⟨H, by simp, h⟩
  ·rename_i el hu
   rw [hu];simp only;obtain ⟨z, hz, hx⟩ := aE.1 hx;obtain ⟨e, he, hx⟩ := aE.1 hx;obtain ⟨cs, hcs, e⟩ := be.1 hx;cases e;have hf := Bm (g := g) (d := d) (fun i => some (i * e, e)) (parts.toList.map fun p => (p.1, ev p.2)) z.cells.toList;rw [(jT hz).2, hcs] at hf;rw [hz, he];simp only [bG];rw [hf];exact ⟨H, by simp, h⟩
  ·cases hx
 case buildSlice t len parts =>
  have hp := fill parts fun x hx => hev x (by simpa [Op.operands] using hx);simp only [u9, eH];rw [hp];refine ei.bind fun el _ => ei.bind fun e _ => ei.bind fun z hz => ei.ite fun _ => ?_;intro v E' hx;obtain ⟨cs, hcs, hx⟩ := aE.1 hx;have hf := Bm (g := g) (d := d) (fun i => some (i * e, e)) (parts.toList.map fun p => (p.1, ev p.2)) (List.replicate len z.cells.toList).flatten
  rw [hcs, show gU g d (List.replicate len z.cells.toList).flatten = (List.replicate len z.cells.toList).flatten from by
   rw [gU, List.map_flatten, List.map_replicate, show List.map (bR g d) z.cells.toList = z.cells.toList from (jT hz).2]] at hf
  rw [hf];exact h.rowP _ _ _ v E' hx
 case load t a =>
  simp only [u9, eH];rw [hev a (by simp [Op.operands])];refine ei.bind fun n _ => ?_
  cases n with
  | none => exact ei.val h (h.ld1 _)
  | some n => exact ei.val h (h.ldN _ _)
 case store t a x =>
  simp only [u9, eH];rw [hev a (by simp [Op.operands]), hev x (by simp [Op.operands])];exact ei.bind fun n _ => ei.heap _ qp (h.st _ _ _)
 case nilCheck x =>
  simp only [u9, eH];rw [hev x (by simp [Op.operands])];exact ei.val h (Xg _)
 case binOp op t x y z =>
  simp only [u9, eH];rw [hev x (by simp [Op.operands]), hev y (by simp [Op.operands])];exact ei.val h (Xa _ _ _ _)
 case unOp op t x =>
  simp only [u9, eH];rw [hev x (by simp [Op.operands])];exact ei.val h (Za _ _)
 case convert src dst x =>
  simp only [u9, eH];rw [hev x (by simp [Op.operands])]
  split
  ·rename_i hu; rw [hu]; exact ei.val h (UF _ _)
  ·exact ei.no
 case makeFunc fn first captured =>
  simp only [u9, eH];rw [arr first fun x hx => hev x (by simp only [Op.operands, Array.toList_append, List.mem_append]; exact .inl hx), arr captured fun x hx => hev x (by simp only [Op.operands, Array.toList_append, List.mem_append]; exact .inr hx)];intro v E' hx; cases hx; exact ⟨H, by simp, h⟩
 case makeMap t r =>
  cases r with
  | none =>
   intro v E' hx;simp only [u9] at hx;simp only [eH];obtain ⟨E1, h1, e⟩ := be.1 hx;cases e;exact ⟨H.push (Iu g d (.map [] 0)), by simp [h.new, Iu], h.push h1⟩
  | some r => exact ei.no
 case makeSlice t l k =>
  simp only [u9, eH];rw [hev l (by simp [Op.operands]), hev k (by simp [Op.operands])]
  exact ei.bind fun el _ => ei.bind fun e _ => ei.bind fun by' _ => ei.bind fun z hz => h.make (jT hz).2 _ _ _ _
 case slice t x lo hi mx =>
  have hx := hev x (by simp [Op.operands])
  have ho : ∀ (q : Option Operand), (∀ y ∈ q.toArray.toList, ev' y = (bR g d) (ev y)) → q.map ev' = (q.map ev).map (bR g d) := by
   intro q hq
   cases q with
   | none => rfl
   | some y => simp [hq y (by simp)]
  have hlo : lo.map ev' = (lo.map ev).map (bR g d) := ho lo fun y hy => hev y (by simp only [Op.operands, Array.toList_append, List.mem_append]; exact .inl (.inl (.inr hy)));have hhi : hi.map ev' = (hi.map ev).map (bR g d) := ho hi fun y hy => hev y (by simp only [Op.operands, Array.toList_append, List.mem_append]; exact .inl (.inr hy));have hmx : mx.map ev' = (mx.map ev).map (bR g d) := ho mx fun y hy => hev y (by simp only [Op.operands, Array.toList_append, List.mem_append]; exact .inr hy)
  cases mx with
  | none =>
   simp only [u9, eH];rw [hx, hlo, hhi];exact ei.bind fun el _ => ei.bind fun e _ => ei.val h (Qk _ _ _ _)
  | some mx =>
   cases lo with
   | some lo => cases hi <;> exact ei.no
   | none =>
    cases hi with
    | none => exact ei.no
    | some hi =>
     simp only [eR, Option.some.injEq] at hhi hmx;simp only [u9, eH];rw [hx, hhi, hmx];refine ei.bind fun el _ => ei.bind fun e _ => ?_;intro v E' hv;obtain ⟨z, hz, e⟩ := be.1 hv;cases e;rw [Kw hz];exact ⟨H, rfl, h⟩
 case fieldAddr st x f =>
  simp only [u9, eH];rw [hev x (by simp [Op.operands])];refine ei.bind fun f _ => ei.bind fun n _ => ?_
  split
  ·exact ei.no
  ·exact ei.val h (Xb _ _)
 case field st x f =>
  simp only [u9, eH];rw [hev x (by simp [Op.operands])];exact ei.bind fun f _ => ei.bind fun n _ => ei.val h (UI _ _ _)
 case indexAddr t x i =>
  simp only [u9, eH];rw [hev x (by simp [Op.operands]), hev i (by simp [Op.operands])]
  split
  ·rename_i hu; rw [hu]; exact ei.bind fun e _ => ei.val h (Xc _ _ _)
  ·rename_i hu; rw [hu]; exact ei.bind fun e _ => ei.val h (UH _ _ _ _)
  ·exact ei.no
 case index t x i =>
  simp only [u9, eH];rw [hev x (by simp [Op.operands]), hev i (by simp [Op.operands])]
  split
  ·rename_i hu; rw [hu]; exact ei.bind fun e _ => ei.bind fun n _ => ei.val h (Kv _ _ _ _ _)
  ·rename_i hu; rw [hu]; exact ei.val h (Ku _ _)
  ·exact ei.no
 case lookup t m k ok =>
  simp only [u9, eH];rw [hev m (by simp [Op.operands]), hev k (by simp [Op.operands])];exact ei.bind fun kt _ => ei.bind fun fl _ => ei.bind fun z hz => ei.val h (h.lookup fl (jT hz).1 _ _ _)
 case mapUpdate t m k x =>
  simp only [u9, eH];rw [hev m (by simp [Op.operands]), hev k (by simp [Op.operands]), hev x (by simp [Op.operands])];exact ei.bind fun kt _ => ei.bind fun fl _ => ei.heap _ qp (h.update _ _ _ _)
 case extract t i =>
  simp only [u9, eH];rw [hev t (by simp [Op.operands])];exact ei.val h (HP _ _)
 case call k =>
  obtain ⟨callee, args, ats⟩ := k;have ha : args.toList.map ev' = gU g d (args.toList.map ev) := I7 fun x hx => hev x (by simp only [Op.operands, Call.operands, Array.toList_append, List.mem_append]; exact .inr hx)
  cases callee with
  | builtin b =>
   simp only [u9, eH];rw [ha];exact Gm h _ _ _
  | value f =>
   simp only [u9, eH];rw [ha, hev f (by simp [Op.operands, Call.operands])];intro v E' hx;obtain ⟨q, hq, hx⟩ := aE.1 hx;rw [Kt, hq];exact hc E H _ _ h v E' hx
  | invoke r m => exact ei.no
 all_goals exact ei.no
end
def Xm (T : Tr Value) : Operand → Value
 | .tmp t => match T.get t with
  | some v => v
  | none => undef
 | .const v => v
 | .global g => .pointer (some ⟨g, 0, none⟩)
 | .func f => .func (.func f) #[] #[]
def Xn (m : Nat) (T : Tr Value) (dst : Option Tmp) (v : Value) : Option (Tr Value) :=
 match dst with
 | some j => match Nat.blt j m with
  | true => Tr.set v 24 T j
  | false => none
 | none => some T
def KE (ops : Array Oper) (T : Tr Value) (j : Nat) : Option Bool :=
 match (ops[j]?).bind (·.dst) with
 | some t => match T.get t with
  | some (.bool b) => some b
  | _ => none
 | none => none
def Nr (P : Program) (G : List Nat) (call : TF) (ops : Array Oper) (m : Nat) (o : Oper) (T : Tr Value) (E : EH) : Option (Tr Value × EH) :=
 match o.op.operands.toList.all (It G) with
 | true => match Region.wanted o (KE ops T) with
  | true => (u9 P call (Xm T) o E).bind fun r => (Xn m T o.dst r.1).map fun T' => (T', r.2)
  | false => (Xn m T o.dst undef).map fun T' => (T', E)
 | false => none
def KD (P : Program) (G : List Nat) (call : TF) (ops : Array Oper) (m : Nat) : List Oper → Tr Value → EH → List (Tr Value × EH) → Option (List (Tr Value × EH) × Tr Value × EH)
 | [], T, E, hist => some (hist ++ [(T, E)], T, E)
 | o :: rest, T, E, hist => (Nr P G call ops m o T E).bind fun r => KD P G call ops m rest r.1 r.2 (hist ++ [(T, E)])
def Yl (P : Program) (G : List Nat) (hist : List (Tr Value × EH)) (ops : Array Oper) (p : Nat × Nat) : Bool :=
 match ops[p.1]?, hist[p.1]?, hist[if p.2 < p.1 then p.2 else p.2 + 1]? with
 | some o, some s, some s' => o.op.operands.toList.all (It G) && eqO (Zx P (Xm s.1) o.op s'.2) (Zx P (Xm s.1) o.op s.2)
 | _, _, _ => false
def yZ (P : Program) (G : List Nat) (call : TF) (ops : Array Oper) (m : Nat) (draw : Bool) (T : Tr Value) (E : EH) : Option (Tr Value × EH) :=
 match draw with
 | true => match rP ops.toList with
  | true => (KD P G call ops m ops.toList T E []).bind fun r => match (dR ops.toList).all (Yl P G r.1 ops) with
   | true => some r.2
   | false => none
  | false => none
 | false => (KD P G call ops m ops.toList T E []).map (·.2)
abbrev TR := AE × Tr Value × EH
def Nq (f : Tr Value → EH → Option TR) : Nat → Tr Value → EH → Option TR
 | 0, _, _ => none
 | n + 1, T, E => (f T E).bind fun r => match r.1 with
  | .normal => Nq f n r.2.1 r.2.2
  | _ => some r
def jo (P : Program) (G : List Nat) (call : TF) (N m : Nat) : Code → Tr Value → EH → Option TR
 | .skip, T, E => some (.normal, T, E)
 | .label _, T, E => some (.normal, T, E)
 | .region _ ops draw, T, E => (yZ P G call ops m draw T E).map fun s => (.normal, s.1, s.2)
 | .seq x y, T, E => (jo P G call N m x T E).bind fun r => match r.1 with
  | .normal => jo P G call N m y r.2.1 r.2.2
  | _ => some r
 | .cond c x y, T, E => match It G c with
  | true => match Xm T c with
   | .bool true => jo P G call N m x T E
   | .bool false => jo P G call N m y T E
   | _ => none
  | false => none
 | .block id x, T, E => (jo P G call N m x T E).map fun r => match r.1 with
  | .exit i => if i = id then (.normal, r.2.1, r.2.2) else r
  | _ => r
 | .loop x, T, E => Nq (jo P G call N m x) N T E
 | .exit id, T, E => some (.exit id, T, E)
 | .ret, T, E => some (.ret, T, E)
 | _, _, _ => none
def Bt (T : Tr Value) (t : Nat) : Value := match T.get t with
 | some v => v
 | none => undef
def vd (P : Program) (T : Tr Value) (E : EH) : ResultVar → Option Value
 | .tmp t => some (Bt T t)
 | .cell a t => (fB P t).bind fun g => match g with
  | some n => RA n (Bt T a) E
  | none => Rz (Bt T a) E
def Ds (P : Program) (T : Tr Value) (E : EH) : List ResultVar → Option (List Value)
 | [] => some []
 | r :: rs => (vd P T E r).bind fun v => (Ds P T E rs).bind fun vs => some (v :: vs)
def UU (P : Program) (rs : List ResultVar) (r : TR) : Option (Value × EH) :=
 match r.1 with
 | .exit _ => none
 | _ => (Ds P r.2.1 r.2.2 rs).map fun vs => (match vs with
  | [v] => v
  | vs => .tuple vs.toArray, r.2.2)
def HW : List Value → Nat → Tr Value → Option (Tr Value)
 | [], _, T => some T
 | v :: vs, i, T => (Tr.set v 24 T i).bind fun T' => HW vs (i + 1) T'
def UT (P : Program) (G : List Nat) (call : TF) (N n : Nat) (rs : List ResultVar) (s : DSh) (T : Tr Value) (E : EH) : Option (Value × EH) :=
 (jo P G call N n s.c1 T E).bind fun r => match r.1 with
  | .normal => match Nat.blt s.t n with
   | true => (Nr P G call s.ops2 n s.om r.2.1 r.2.2).bind fun q => (KD P G call s.ops3 n s.ops3.toList q.1 q.2 []).bind fun z => UU P rs (.normal, z.2.1, z.2.2)
   | false => none
  | _ => none
def Dq (P : Program) (G D : List Nat) (N : Nat) : Nat → TF
 | 0 => fun _ _ _ => none
 | k + 1 => fun f args E => match P.funcs[f]? with
  | some fn => if fn.name = "runtime.NumGoroutine" then none else match fn.body with
   | some c => match Nat.ble args.length fn.ntmps with
    | true => (HW args 0 .lf).bind fun T => match ku c with
     | none => (jo P G (Dq P G D N k) N fn.ntmps c T E).bind (UU P fn.results.toList)
     | some s => match D.contains s.k with
      | true => UT P G (Dq P G D N k) N fn.ntmps fn.results.toList s T E
      | false => none
    | false => none
   | none => none
  | none => none
section
variable {P : Program} {G : List Nat} {g d m N : Nat} {F : List AObj}
structure ER (g d m : Nat) (T : Tr Value) (A : List Value) : Prop where
 len : A.length = m
 get : ∀ t, A[t]?.getD undef = bR g d (Bt T t)
theorem HV {v : Value} {T T' : Tr Value} {j : Nat} (h : Tr.set v 24 T j = some T') (t : Nat) : Bt T' t = if t = j then v else Bt T t := by
 unfold Bt;rw [Tr.get_set 24 h t]
 by_cases e : t = j
 ·rw [if_pos e, if_pos e]
 ·rw [if_neg e, if_neg e]
theorem ER.put {T T' : Tr Value} {A : List Value} (h : ER g d m T A) {dst : Option Tmp} {v : Value} (hp : Xn m T dst v = some T') : ER g d m T' (kP A dst ((bR g d) v)) := by
 unfold Xn at hp
 cases dst with
 | none => cases hp; exact h
 | some j =>
  simp only at hp
  split at hp
  ·rename_i hb
   have hj : j < m := Nat.le_of_ble_eq_true hb;refine ⟨by simp [kP, h.len], fun t => ?_⟩;rw [HV hp];simp only [kP];rw [List.getElem?_set]
   by_cases e : t = j
   ·rw [if_pos e, if_pos e.symm, if_pos (by rw [h.len]; omega)]; rfl
   ·rw [if_neg e, if_neg (fun x => e x.symm)]; exact h.get t
  ·cases hp
theorem ER.ev {T : Tr Value} {A : List Value} (h : ER g d m T A) (hG : ∀ b ∈ G, b < g) {x : Operand} (hx : It G x = true) : fD A x = (bR g d) (Xm T x) := by
 cases x with
 | tmp t => exact h.get t
 | const v => exact (HO hx).symm
 | global b =>
  simp only [It, List.contains_iff_mem] at hx;simp [fD, Xm, xd, yw, hG b hx]
 | func f => simp [fD, Xm]
theorem ER.yield {T : Tr Value} {A : List Value} (h : ER g d m T A) (ops : Array Oper) : dG ops A = KE ops T := by
 funext j
 unfold dG KE
 cases (ops[j]?).bind (·.dst) with
 | none => rfl
 | some t =>
  simp only [bG];have hg := h.get t;unfold Bt at hg
  cases hT : T.get t with
  | none =>
   rw [hT] at hg;simp only [qp] at hg
   cases hA : A[t]? with
   | none => rfl
   | some v => rw [hA] at hg; simp only [Option.getD_some] at hg; subst hg; rfl
  | some v =>
   rw [hT] at hg;simp only at hg
   cases hA : A[t]? with
   | none => rw [hA] at hg; simp only [Option.getD_none] at hg; cases v <;> simp [undef] at hg ⊢
   | some w => rw [hA] at hg; simp only [Option.getD_some] at hg; subst hg; cases v <;> simp
structure St (g d m : Nat) (F : List AObj) (x : Tr Value × EH) (y : List Value × AH) : Prop where
 er : ER g d m x.1 y.1
 hr : HR g d F x.2 y.2
theorem HS {c : TF} {c' : bE} (hG : ∀ b ∈ G, b < g) (hc : qD g d F c c') {ops : Array Oper} {o : Oper} {T : Tr Value} {E : EH} {A : List Value} {H : AH} {r} (hS : St g d m F (T, E) (A, H)) (h : Nr P G c ops m o T E = some r) :
 ∃ r', gl P G c' ops o A H = some r' ∧ St g d m F r r' := by
 unfold Nr at h;unfold gl
 split at h
 ·rename_i hok
  rw [if_pos hok];have hev : ∀ x, x ∈ o.op.operands.toList → fD A x = (bR g d) (Xm T x) := fun x hx => hS.er.ev hG (List.all_eq_true.1 hok x hx);rw [hS.er.yield]
  split at h
  ·rename_i hw
   rw [if_pos hw];obtain ⟨⟨v, E1⟩, h1, h⟩ := aE.1 h;obtain ⟨T', h2, e⟩ := be.1 h;cases e;obtain ⟨H', h3, h4⟩ := YW hS.hr hc hev v E1 h1;rw [h3];exact ⟨_, rfl, hS.er.put h2, h4⟩
  ·rename_i hw
   rw [if_neg (by rw [hw]; simp)];obtain ⟨T', h2, e⟩ := be.1 h;cases e;refine ⟨_, rfl, ?_, hS.hr⟩;have := hS.er.put h2
   rwa [qp] at this
 ·cases h
theorem E7 {c : TF} {c' : bE} (hG : ∀ b ∈ G, b < g) (hc : qD g d F c c') {ops : Array Oper} : ∀ (l : List Oper) {T : Tr Value} {E : EH} {A : List Value} {H : AH} {hist r}, St g d m F (T, E) (A, H) → KD P G c ops m l T E hist = some r →
 (∃ r', dh P G c' ops l A H = some r' ∧ St g d m F r.2 r') ∧ ∃ t, r.1 = hist ++ t ∧ t.length = l.length + 1 ∧ ∀ i, i ≤ l.length → ∃ x y, t[i]? = some x ∧ dh P G c' ops (l.take i) A H = some y ∧ St g d m F x y := by
 intro l
 induction l with
 | nil =>
  intro T E A H hist r hS h;simp only [KD] at h; cases h;refine ⟨⟨_, rfl, hS⟩, [(T, E)], rfl, rfl, ?_⟩;intro i hi
  have : i = 0 := by simpa using hi
  subst this;exact ⟨_, _, rfl, rfl, hS⟩
 | cons o l ih =>
  intro T E A H hist r hS h;simp only [KD] at h;obtain ⟨q, hq, h⟩ := aE.1 h;obtain ⟨⟨A1, H1⟩, h1, hS1⟩ := HS hG hc hS hq;obtain ⟨T1, E1⟩ := q;obtain ⟨⟨r', h2, hS2⟩, t, e, hl, ht⟩ := ih hS1 h;refine ⟨⟨r', by simp only [dh, h1, bG]; exact h2, hS2⟩, (T, E) :: t, by rw [e]; simp, by simp [hl], ?_⟩;intro i hi
  cases i with
  | zero => exact ⟨_, _, rfl, rfl, hS⟩
  | succ i =>
   obtain ⟨x, y, hx, hy, hxy⟩ := ht i (by simpa using hi);exact ⟨x, y, by simpa using hx, by simp only [List.take_succ_cons, dh, h1, bG]; exact hy, hxy⟩
theorem Km {c : TF} {c' : bE} (hG : ∀ b ∈ G, b < g) (hc : qD g d F c c') {ops : Array Oper} {draw : Bool} {T : Tr Value} {E : EH} {A : List Value} {H : AH} {r} (hS : St g d m F (T, E) (A, H)) (h : yZ P G c ops m draw T E = some r) :
 ∃ r', f6 P G c' ops draw A H = some r' ∧ St g d m F r r' := by
 cases draw with
 | false =>
  simp only [yZ, f6] at h ⊢;obtain ⟨q, hq, e⟩ := be.1 h;subst e;exact (E7 hG hc _ hS hq).1
 | true =>
  simp only [yZ, f6] at h ⊢
  split at h
  ·rename_i hreg
   obtain ⟨q, hq, h⟩ := aE.1 h
   split at h
   ·rename_i hall
    cases h;obtain ⟨⟨r', h1, h2⟩, t, e, hl, ht⟩ := E7 hG hc _ hS hq;refine ⟨r', ?_, h2⟩;unfold mj;rw [hreg];simp only
    cases hp : dR ops.toList with
    | nil => exact h1
    | cons p ps =>
     simp only;rw [j6 ?_]
     ·exact h1
     ·rw [← hp]
      intro p hpm o ho;have hx := List.all_eq_true.1 hall p hpm;unfold Yl at hx;rw [ho] at hx;simp only [List.nil_append] at e
      have st : ∀ i x, q.1[i]? = some x → St g d m F x (jz P G c' ops A H i) := by
       intro i x hs
       have hi : i < t.length := by rw [e] at hs; exact (B0.1 hs).1
       obtain ⟨x', y, hx', hy, hxy⟩ := ht i (by omega);rw [e, hx'] at hs;cases hs;unfold jz;rw [hy];exact hxy
      split at hx
      ·rename_i o' x1 x2 ho' hs hs'
       cases ho';simp only [Bool.and_eq_true] at hx;have hev : ∀ x, x ∈ o.op.operands.toList → fD (jz P G c' ops A H p.1).1 x = (bR g d) (Xm x1.1 x) := fun x hxm => (st _ _ hs).er.ev hG (List.all_eq_true.1 hx.1 x hxm);rw [Yi (st _ _ hs').hr hev, Yi (st _ _ hs).hr hev, Oe hx.2]
      ·cases hx
   ·cases h
  ·cases h
structure Ar (g d m : Nat) (F : List AObj) (x : TR) (y : AR) : Prop where
 e : x.1 = y.1
 st : St g d m F x.2 y.2
theorem Gv {c : TF} {c' : bE} (hG : ∀ b ∈ G, b < g) (hc : qD g d F c c') : ∀ (k : Code) {T : Tr Value} {E : EH} {A : List Value} {H : AH} {r : TR}, St g d m F (T, E) (A, H) → jo P G c N m k T E = some r →
 ∃ r', aW P G c' k A H = some r' ∧ Ar g d m F r r' := by
 intro k
 induction k with
 | region id ops draw =>
  intro T E A H r hS hr;simp only [jo, aW] at hr ⊢;obtain ⟨q, hq, e⟩ := be.1 hr;obtain ⟨r', h1, h2⟩ := Km hG hc hS hq;subst e;rw [h1];exact ⟨_, rfl, rfl, h2⟩
 | seq x y ihx ihy =>
  intro T E A H r hS hr;simp only [jo, aW] at hr ⊢;obtain ⟨⟨e, T1, E1⟩, hx, hr⟩ := aE.1 hr;obtain ⟨⟨e', A1, H1⟩, h1, h2⟩ := ihx hS hx;have he : e = e' := h2.e;subst he;rw [h1];simp only [bG]
  cases e with
  | normal => exact ihy h2.st hr
  | exit i => cases hr; exact ⟨_, rfl, h2⟩
  | ret => cases hr; exact ⟨_, rfl, h2⟩
 | cond b x y ihx ihy =>
  intro T E A H r hS hr;simp only [jo, aW] at hr ⊢
  split at hr
  ·rename_i hok
   rw [hS.er.ev hG hok]
   split at hr
   ·rename_i e; rw [e]; simp only [Nl]; exact ihx hS hr
   ·rename_i e; rw [e]; simp only [Nl]; exact ihy hS hr
   ·cases hr
  ·cases hr
 | block id x ih =>
  intro T E A H r hS hr;simp only [jo, aW] at hr ⊢;obtain ⟨⟨e, T1, E1⟩, hx, hr⟩ := be.1 hr;obtain ⟨⟨e', A1, H1⟩, h1, h2⟩ := ih hS hx;have he : e = e' := h2.e;subst he;rw [h1];subst hr
  cases e with
  | normal => exact ⟨_, rfl, h2⟩
  | exit i =>
   simp only [eR]
   by_cases hi : i = id
   ·rw [if_pos hi, if_pos hi]; exact ⟨_, rfl, rfl, h2.st⟩
   ·rw [if_neg hi, if_neg hi]; exact ⟨_, rfl, h2⟩
  | ret => exact ⟨_, rfl, h2⟩
 | loop x ih =>
  intro T E A H r hS hr;simp only [jo, aW] at hr ⊢
  suffices key : ∀ n T E A H, St g d m F (T, E) (A, H) → Nq (jo P G c N m x) n T E = some r → ∃ r', eY (aW P G c' x) n A H = some r' ∧ Ar g d m F r r' from by
   obtain ⟨r', h1, h2⟩ := key N T E A H hS hr;exact ⟨r', dg.2 ⟨N, h1⟩, h2⟩
  clear hr hS
  intro n
  induction n with
  | zero => intro T E A H hS hr; cases hr
  | succ n ihn =>
   intro T E A H hS hr;simp only [Nq, eY] at hr ⊢;obtain ⟨⟨e, T1, E1⟩, hx, hr⟩ := aE.1 hr;obtain ⟨⟨e', A1, H1⟩, h1, h2⟩ := ih hS hx;have he : e = e' := h2.e;subst he;rw [h1];simp only [bG]
   cases e with
   | normal => exact ihn _ _ _ _ h2.st hr
   | exit i => cases hr; exact ⟨_, rfl, h2⟩
   | ret => cases hr; exact ⟨_, rfl, h2⟩
 | skip => intro T E A H r hS hr; simp only [jo] at hr; cases hr; exact ⟨_, rfl, rfl, hS⟩
 | label l => intro T E A H r hS hr; simp only [jo] at hr; cases hr; exact ⟨_, rfl, rfl, hS⟩
 | exit i => intro T E A H r hS hr; simp only [jo] at hr; cases hr; exact ⟨_, rfl, rfl, hS⟩
 | ret => intro T E A H r hS hr; simp only [jo] at hr; cases hr; exact ⟨_, rfl, rfl, hS⟩
 | _ => intro T E A H r hS hr; cases hr
theorem Kp {T : Tr Value} {E : EH} {A : List Value} {H : AH} (hS : St g d m F (T, E) (A, H)) (r : ResultVar) : kQ P A H r = (vd P T E r).map (bR g d) := by
 cases r with
 | tmp t => simp only [kQ, vd, eR]; rw [hS.er.get t]
 | cell a t =>
  simp only [kQ, vd];rw [hS.er.get a]
  cases fB P t with
  | none => rfl
  | some n => cases n with
   | none => exact hS.hr.ld1 _
   | some n => exact hS.hr.ldN _ _
theorem Tz {T : Tr Value} {E : EH} {A : List Value} {H : AH} (hS : St g d m F (T, E) (A, H)) : ∀ rs : List ResultVar, rH P A H rs = (Ds P T E rs).map (gU g d) := by
 intro rs
 induction rs with
 | nil => rfl
 | cons r rs ih =>
  simp only [rH, Ds];rw [Kp hS, ih]
  cases vd P T E r with
  | none => rfl
  | some v => cases Ds P T E rs <;> rfl
theorem MH {rs : List ResultVar} {x : TR} {y : AR} (h : Ar g d m F x y) : ei g d F (UU P rs x) (Q5 P rs y) := by
 intro v E' hx;obtain ⟨e, T, E⟩ := x;obtain ⟨e', A, H⟩ := y;have he : e = e' := h.e;subst he;have hS := h.st;have hm := Tz (P := P) hS rs
 have key : ∀ vs, Ds P T E rs = some vs → iV P A H rs = some ((bR g d) (match vs with | [v] => v | vs => .tuple vs.toArray)) := by
  intro vs hvs;unfold iV;rw [hm, hvs];simp only [eR]
  congr 1
  match vs with
  | [] => simp [gU]
  | [v] => rfl
  | v :: w :: vs => simp [gU]
 cases e with
 | exit i => cases hx
 | normal =>
  simp only [UU, Q5] at hx ⊢;obtain ⟨vs, hvs, e⟩ := be.1 hx;cases e;rw [key vs hvs];exact ⟨H, rfl, hS.hr⟩
 | ret =>
  simp only [UU, Q5] at hx ⊢;obtain ⟨vs, hvs, e⟩ := be.1 hx;cases e;rw [key vs hvs];exact ⟨H, rfl, hS.hr⟩
theorem Tl : ∀ (vs : List Value) (i : Nat) (T : Tr Value) {T' : Tr Value}, HW vs i T = some T' → ∀ t, Bt T' t = if i ≤ t ∧ t < i + vs.length then (vs[t - i]?).getD undef else Bt T t := by
 intro vs
 induction vs with
 | nil => intro i T T' h t; simp only [HW] at h; cases h; rw [if_neg (by simp only [List.length_nil]; omega)]
 | cons v vs ih =>
  intro i T T' h t;simp only [HW] at h;obtain ⟨T1, h1, h⟩ := aE.1 h;rw [ih _ _ h t, HV h1]
  by_cases e1 : i + 1 ≤ t ∧ t < i + 1 + vs.length
  ·rw [if_pos e1, if_pos (by simp; omega)]
   rw [show t - i = (t - (i + 1)) + 1 from by omega, List.getElem?_cons_succ]
  ·rw [if_neg e1]
   by_cases e2 : t = i
   ·subst e2; rw [if_pos rfl, if_pos (by simp)]; simp
   ·rw [if_neg e2, if_neg (by simp; omega)]
theorem Rr {D : List Nat} (hG : ∀ b ∈ G, b < g) (hD : ∀ k ∈ D, tr P k) : ∀ k, qD g d F (Dq P G D N k) (fA P G k) := by
 intro k
 induction k with
 | zero => intro E H f args hR v E' h; cases h
 | succ k ih =>
  intro E H f args hR v E' h;rw [Dq] at h;rw [fA];simp only [] at h ⊢
  cases hf : P.funcs[f]? with
  | none => rw [hf] at h; cases h
  | some fn =>
   rw [hf] at h;simp only at h ⊢
   split at h
   ·cases h
   ·rename_i hn
    rw [if_neg hn]
    cases hb : fn.body with
    | none => rw [hb] at h; cases h
    | some c =>
     rw [hb] at h;simp only at h ⊢
     split at h
     ·rename_i hle
      have hle := Nat.le_of_ble_eq_true hle;obtain ⟨T, hT, h⟩ := aE.1 h
      have hS : St g d fn.ntmps F (T, E) (gU g d args ++ List.replicate (fn.ntmps - (gU g d args).length) undef, H) := by
       refine ⟨⟨by simp; omega, fun t => ?_⟩, hR⟩;rw [Tl _ _ _ hT];simp only [gU, List.getElem?_append, ui, Au, List.getElem?_replicate]
       by_cases e : t < args.length
       ·rw [if_pos (show 0 ≤ t ∧ t < 0 + args.length from by omega), if_pos e]
        simp [cM e]
       ·rw [if_neg (show ¬ (0 ≤ t ∧ t < 0 + args.length) from by omega), if_neg e]
        have : Bt .lf t = undef := rfl;rw [this, qp]
        split <;> rfl
      cases hd : ku c with
      | none =>
       rw [hd] at h;obtain ⟨r, hr, h⟩ := aE.1 h;obtain ⟨r', h1, h2⟩ := Gv hG ih c hS hr;simp only;unfold oE;rw [h1];exact MH h2 v E' h
      | some q =>
       rw [hd] at h;simp only at h ⊢
       split at h
       ·rename_i hin
        rw [j6 (hD _ (by simpa using hin))];unfold UT at h;unfold nR;obtain ⟨⟨e1, T1, E1⟩, hr, h⟩ := aE.1 h;obtain ⟨⟨e2, A1, H1⟩, h1, h2⟩ := Gv hG ih q.c1 hS hr;have he : e1 = e2 := h2.e;subst he;rw [h1];simp only [bG]
        cases e1 with
        | exit i => cases h
        | ret => cases h
        | normal =>
         simp only at h ⊢
         split at h
         ·rename_i hlt
          have hlt : q.t < fn.ntmps := Nat.le_of_ble_eq_true hlt;have hlen : A1.length = fn.ntmps := h2.st.er.len;rw [if_neg (by omega)];obtain ⟨⟨T2, E2⟩, h3, h⟩ := aE.1 h;obtain ⟨⟨A2, H2⟩, h4, h5⟩ := HS hG ih h2.st h3;obtain ⟨z, h6, h⟩ := aE.1 h;obtain ⟨⟨⟨A3, H3⟩, h7, h8⟩, _⟩ := E7 hG ih _ h5 h6;rw [h4];simp only [bG];rw [h7];exact MH (x := (.normal, z.2.1, z.2.2)) (y := (.normal, A3, H3)) ⟨rfl, h8⟩ v E' h
         ·cases h
       ·cases h
     ·cases h
end
def TQ (tab : List Value) : Option (Value × EH) → Bool
 | some (.bool true, E) => match E.get 0 with
  | some (.cells true cs) => BV (Wa 0) cs tab
  | _ => false
 | _ => false
def HX (tab : List Value) : EH := ⟨1, .nd (some (.cells true tab)) .lf .lf⟩
theorem IK {P : Program} {D : List Nat} {N k f : Nat} {tab : List Value} (hD : ∀ k ∈ D, tr P k) (hl : tab.all dl = true) (h : TQ tab (Dq P [0] D N k f [] (HX tab)) = true)
 {H : AH} (hH : H.get 0 = some (.cells true tab)) : ∃ H', aF P [0] f [] H = some (.bool true, H') ∧ H.size ≤ H'.size ∧ ∀ i, i < H.size → H'.get i = H.get i := by
 obtain ⟨objs⟩ := H
 cases objs with
 | nil => cases hH
 | cons o F =>
  have ho : o = .cells true tab := by simpa [AH.get] using hH
  subst ho
  have hR : HR 1 F.length F (HX tab) ⟨.cells true tab :: F⟩ := by
   refine ⟨rfl, bK _, by simp [AH.size, HX, Nat.add_comm], fun b => ?_, fun b hb => ?_, fun b h1 h2 => ?_⟩
   ·cases b with
    | zero =>
     have : yw 1 F.length 0 = 0 := rfl;rw [this];show some _ = some (AObj.cells true (gU 1 F.length tab));rw [u4 hl]
    | succ b =>
     have e : yw 1 F.length (b + 1) = b + 1 + F.length := by simp [yw]
     have e2 : (HX tab).get (b + 1) = none := by
      simp only [EH.get, HX, Tr.get]; split <;> rfl
     rw [e, e2];exact AH.get_none (by simp [AH.size]; omega)
   ·have : 1 ≤ b := hb
    obtain ⟨b, rfl⟩ : ∃ c, b = c + 1 := ⟨b - 1, by omega⟩
    simp only [EH.get, HX, Tr.get]; split <;> rfl
   ·obtain ⟨b, rfl⟩ : ∃ c, b = c + 1 := ⟨b - 1, by omega⟩
    simp [AH.get]
  unfold TQ at h
  split at h
  ·rename_i E' hE
   obtain ⟨H', h1, h2⟩ := Rr (F := F) (N := N) (P := P) (by simp) hD k (HX tab) _ f [] hR _ _ hE;refine ⟨H', ?_, ?_, fun i hi => ?_⟩
   ·have := KV k _ _ _ _ h1
    simpa using this
   ·rw [h2.size]
    have := h2.le;simp [AH.size]; omega
   ·split at h
    ·rename_i cs hcs
     have he : cs = tab := zJ (CA 0) _ _ h;subst he
     cases i with
     | zero =>
      have := h2.get 0;rw [show yw 1 F.length 0 = 0 from rfl, hcs] at this;rw [this];show some (AObj.cells true (gU 1 F.length cs)) = _;rw [u4 hl]; rfl
     | succ i =>
      have hi : i < F.length := by simpa [AH.size] using hi
      rw [h2.fr (i + 1) (by omega) (by omega)];simp [AH.get]
    ·cases h
  ·cases h
section
variable {P : Program} {w : World} {ev : Operand → Value} {d : Option Tmp} {x : Operand} {v a b : Value} {y : TypeId} {p : String} {e : Array Edge} {gd : Option (Nat × Bool)}
end
def tabC : List Value := [0,1,56,2,57,49,28,3,61,58,42,50,38,29,17,4,62,47,59,36,45,43,51,22,53,39,33,30,24,18,12,5,63,55,48,27,60,41,37,16,46,35,44,21,52,32,23,11,54,26,40,15,34,20,31,10,25,14,19,9,13,8,7,6].map fun n => .int .u8 n
theorem Gf : TQ tabC (Dq Tryz.prog [0] [] 100000 60 11 [] (HX tabC)) = true := by decide +kernel
theorem ae.keeps {P : SP} {H H' : AH} (h : ae P H) (k : ∀ i, i < H.size → H'.get i = H.get i) : ae P H' := by
 obtain ⟨x, hx, hg⟩ := h
 exact ⟨x, hx, fun i o hi => by
  have := hg i o hi
  rw [k i (AH.lt_of_get this)]; exact this⟩
theorem Rb {H0 : AH} (hT : H0.get 0 = some (.cells true tabC)) : Hs (fix H0) 0 (.cells true tabC) := ⟨fun h => (Fx.refl H0).fx h 0 _ hT⟩
abbrev ITy : Ty := .int .i64
abbrev CfgTy : Ty := .pair ITy (.pair ITy (.pair ITy (.pair ITy (.pair (.int .u64) .unit))))
theorem VS {H : AH} {x : CfgTy.I} {cs : List Value} (h : Abs H CfgTy x cs) : ∃ c : fM, cs = fM.cells c := by
 obtain ⟨c1, c2, rfl, h1, c3, c4, rfl, h2, c5, c6, rfl, h3, c7, c8, rfl, h4, c9, ZF, rfl, h5, h6⟩ := h;have h6 : ZF = [] := h6;obtain ⟨e5, hw⟩ := h5
 have : 0 ≤ x.2.2.2.2.1 ∧ x.2.2.2.2.1 ≤ 18446744073709551615 := by simpa [Lit.wf, IntKind.has, IntKind.min, IntKind.max, IntKind.bits, IntKind.signed] using hw
 refine ⟨⟨x.1, x.2.1, x.2.2.1, x.2.2.2.1, x.2.2.2.2.1.toNat⟩, ?_⟩;rw [h1.1, h2.1, h3.1, h4.1, e5, h6];show _ = [vi x.1, vi x.2.1, vi x.2.2.1, vi x.2.2.2.1, .int .u64 ((x.2.2.2.2.1.toNat : Nat) : Int)];rw [Int.toNat_of_nonneg this.1]
 rfl
theorem QC {P : SP} {H : AH} {k : Value × AH → OV} {Q : Value → AH → Prop} (h : ae P H) [i : Hs P 0 (.cells true tabC)] (hk : ∀ H', ae P H' → wp (k (vb true, H')) Q) : wp ((FF pU [] H).bind k) Q := by
 obtain ⟨H', e, _, hg⟩ := IK (D := []) (fun j hj => by cases hj) (by decide) Gf (i.get h);have e' : FF pU [] H = some (vb true, H') := e;rw [e'];exact hk H' (h.keeps hg)
structure New (σ : aL) (k : Nat) : Prop where
 si : SI σ k
 js : ∀ l, l.1 ≠ 10 → σ.μ.V l = 0
theorem lA {flow : Int} {obj : Nat} (h : obj < 4294967296) : cq flow obj % 4294967296 = obj := by
 unfold cq;omega
theorem New.lay {σ : aL} {k : Nat} (h : New σ k) (ho : σ.obs.length < 90) (f w most : Int) (hf : 0 ≤ f ∧ f < 1000) : New (σ.lay f w most) (k + 4) := by
 obtain ⟨⟨c, N, E, pts, V, obs, cells, slot, head⟩, js⟩ := h;obtain ⟨q1, q2, q3⟩ := qV most
 have hsl : cq f σ.obs.length < 18446744073709551616 := by unfold cq; omega
 have hlen : (σ.lay f w most).obs.length = σ.obs.length + 1 := by simp [aL.lay, aL.make]
 refine ⟨⟨c, by simp [aL.lay, aL.make]; omega, by simp [aL.lay, aL.make]; omega, by simp [aL.lay, aL.make]; omega, fun l => ?_, by rw [hlen]; omega, fun o ho2 => ?_, fun s i => ?_, fun o => ?_⟩, fun l hl => ?_⟩
 ·show (if l = (10, f.tmod σ.c.sh, f.tdiv σ.c.sh) then cq f σ.obs.length else σ.μ.V l) < _
  split
  ·exact hsl
  ·exact V l
 ·rw [hlen] at ho2
  unfold au;show 1 ≤ ((((σ.obs ++ [_])[o]?).map _).getD []).length ∧ ((((σ.obs ++ [_])[o]?).map _).getD []).length < 1000
  by_cases e : o < σ.obs.length
  ·rw [List.getElem?_append_left e]
   exact cells o e
  ·rw [show o = σ.obs.length from by omega, List.getElem?_append_right (bK _), Nat.sub_self]
   show 1 ≤ (List.replicate (dA most) w6).length ∧ (List.replicate (dA most) w6).length < 1000;rw [List.length_replicate];omega
 ·rw [hlen]
  show (if (10, s, i) = ((10 : Int), f.tmod σ.c.sh, f.tdiv σ.c.sh) then cq f σ.obs.length else σ.μ.V (10, s, i)) ≠ 0 → (if (10, s, i) = ((10 : Int), f.tmod σ.c.sh, f.tdiv σ.c.sh) then cq f σ.obs.length else σ.μ.V (10, s, i)) % 4294967296 < _
  split
  ·intro _
   rw [lA (by omega)];omega
  ·intro hv
   have := slot s i hv;omega
 ·show (if ((12 : Int), (o : Int), (0 : Int)) = (10, f.tmod σ.c.sh, f.tdiv σ.c.sh) then cq f σ.obs.length else σ.μ.V (12, o, 0)) ≤ _
  rw [if_neg (by simp)];have := head o;omega
 ·show (if l = (10, f.tmod σ.c.sh, f.tdiv σ.c.sh) then cq f σ.obs.length else σ.μ.V l) = 0
  rw [if_neg (fun e => hl (by rw [e]))];exact js l hl
theorem Hb (c : fM) (hc : bW c = true) : ∀ n, n ≤ 16 → New (aL.made c n) (4 * n) := by
 intro n
 induction n with
 | zero =>
  intro _;exact ⟨⟨hc, bK _, bK _, bK _, fun _ => (by show (0 : Nat) < _; omega), (by show (0 : Nat) ≤ _; omega), fun o ho => (by cases ho), fun s i h => absurd rfl h, fun o => bK _⟩, fun _ _ => rfl⟩
 | succ n ih =>
  intro hn;have h := ih (by omega);have hm := (JJ c n).2.2;unfold aL.made
  split
  ·exact h.lay (by omega) _ _ _ (by omega)
  ·exact ⟨h.si.mono (by omega), h.js⟩
theorem SI.clear {σ : aL} {k : Nat} (h : SI σ k) (s i : Int) : SI (σ.mem (σ.μ.put (10, s, i) 0)) k := by
 refine ⟨h.c, h.N, h.E, h.pts, fun x => ?_, h.obs, h.cells, fun s' i' => ?_, fun o => ?_⟩
 ·show (if x = (10, s, i) then 0 else σ.μ.V x) < _
  split
  ·omega
  ·exact h.V x
 ·show (if ((10 : Int), s', i') = (10, s, i) then 0 else σ.μ.V (10, s', i')) ≠ 0 → (if ((10 : Int), s', i') = (10, s, i) then 0 else σ.μ.V (10, s', i')) % _ < _
  split
  ·intro h; exact absurd rfl h
  ·exact h.slot s' i'
 ·show (if ((12 : Int), (o : Int), (0 : Int)) = (10, s, i) then 0 else σ.μ.V (12, o, 0)) ≤ _
  rw [if_neg (by simp)];exact h.head o
section
variable (p x : Nat) (rp : List Nat) (σ : aL) (K : Nat)
theorem KI {P : SP} {H : AH} {Q : Value → AH → Prop} {k : Value × AH → OV} {a b : Int} (h : ae P H) (h0 : 0 < b) (h1 : b < 9223372036854775808) (hk : ∀ H', ae P H' → wp (k (vi (um a b), H')) Q) : wp ((FF eK [vi a, vi b] H).bind k) Q := by
 refine ag h (qa a b h0 h1) fun _ H1 h2 => ?_;exact hk H1 h2.to
end
theorem SI.slotput {σ : aL} {k : Nat} (h : SI σ k) (s i f : Int) (o : Nat) (hf : 0 ≤ f ∧ f ≤ 1048576) (ho : o < σ.obs.length) (hk : k < 400000) : SI (σ.mem (σ.μ.put (10, s, i) (cq f o))) k := by
 have hob := h.obs
 have hsl : cq f o < 18446744073709551616 := by unfold cq; omega
 refine ⟨h.c, h.N, h.E, h.pts, fun x => ?_, h.obs, h.cells, fun s' i' => ?_, fun o' => ?_⟩
 ·show (if x = (10, s, i) then cq f o else σ.μ.V x) < _
  split
  ·exact hsl
  ·exact h.V x
 ·show (if ((10 : Int), s', i') = (10, s, i) then cq f o else σ.μ.V (10, s', i')) ≠ 0 → (if ((10 : Int), s', i') = (10, s, i) then cq f o else σ.μ.V (10, s', i')) % _ < _
  split
  ·intro _
   rw [lA (by omega)];exact ho
  ·exact h.slot s' i'
 ·show (if ((12 : Int), (o' : Int), (0 : Int)) = (10, s, i) then cq f o else σ.μ.V (12, o', 0)) ≤ _
  rw [if_neg (by simp)];exact h.head o'
theorem SI.make {σ : aL} {k : Nat} (h : SI σ k) (who : Int) (o : Ob) : SI (σ.make who o) (k + 3) := by
 obtain ⟨c, N, E, pts, V, obs, cells, slot, head⟩ := h;obtain ⟨q1, q2, q3⟩ := qV o.most
 have hlen : (σ.make who o).obs.length = σ.obs.length + 1 := by simp [aL.make]
 refine ⟨c, by simp [aL.make]; omega, by simp [aL.make]; omega, by simp [aL.make]; omega, V, by rw [hlen]; omega, fun o' ho2 => ?_, fun s i hv => ?_, fun o' => ?_⟩
 ·rw [hlen] at ho2
  unfold au;show 1 ≤ ((((σ.obs ++ [_])[o']?).map _).getD []).length ∧ ((((σ.obs ++ [_])[o']?).map _).getD []).length < 1000
  by_cases e : o' < σ.obs.length
  ·rw [List.getElem?_append_left e]
   exact cells o' e
  ·rw [show o' = σ.obs.length from by omega, List.getElem?_append_right (bK _), Nat.sub_self]
   show 1 ≤ (List.replicate (dA o.most) w6).length ∧ (List.replicate (dA o.most) w6).length < 1000;rw [List.length_replicate];omega
 ·rw [hlen]
  have := slot s i hv;show σ.μ.V (10, s, i) % 4294967296 < _;omega
 ·have := head o'
  show σ.μ.V (12, o', 0) ≤ _;omega
structure KeptR (σ : aL) (t : Tk) (r : aL × Tk × Bool) (k : Nat) : Prop where
 si : SI r.1 (k + 3)
 c : r.1.c = σ.c
 obs : σ.obs.length ≤ r.1.obs.length
 ok : r.2.2 = false → lE r.1 r.2.1
 x : r.2.1.x = t.x
 who : r.2.1.who = t.who
section
variable {σ : aL} {t : Tk} {k : Nat}
theorem CX (h : SI σ k) (T : lE σ t) (hat : t.at' < 4) (hx : hM t.x = none) : KeptR σ t (eN σ t) k := by
 have hs : SI (kG σ t) (k + 3) := (h.swp t.who (8, t.s, 0) 0 1 (by omega) (by simp) (by simp)).mono (by omega)
 by_cases hw : σ.μ.V (8, t.s, 0) = 0
 ·have e : eN σ t = (kG σ t, { t with at' := 3 }, false) := by unfold eN; rw [if_pos hw]
  rw [e];exact ⟨hs, rfl, bK _, fun _ => ⟨T.s, fun _ => T.i hat, fun _ => hx, .inr (.inr (.inl rfl)), by simp, by simp, T.w⟩, rfl, rfl⟩
 ·have e : eN σ t = (kG σ t, { t with at' := 2 }, false) := by unfold eN; rw [if_neg hw]
  rw [e];exact ⟨hs, rfl, bK _, fun _ => ⟨T.s, fun _ => T.i hat, fun _ => hx, .inr (.inl rfl), by simp, by simp, T.w⟩, rfl, rfl⟩
theorem Ie (h : SI σ k) : SI (iz σ t) (k + 3) := ((h.acc t.who 2 (8, t.s, 0)).put (8, t.s, 0) 0 (by omega) (by simp) (.inl (by simp))).mono (by omega)
theorem Kr (h : SI σ k) (T : lE σ t) (now : Int) (hat : t.at' = 3) : KeptR σ t (aw σ t now) k := by
 have hc := bx.1 h.c;have hx : hM t.x = none := T.x (by omega);have hi := T.i (by omega);have ha : SI (aS σ t) (k + 2) := h.acc t.who 1 (10, t.s, (t.i : Int));have hn : ∀ code, SI ((aS σ t).note now t.who code) (k + 3) := fun code => ha.note now t.who code
 by_cases hfd : (aB σ t).found = true
 ·by_cases ho : t.x.op = 1
  ·have e : aw σ t now = ((aS σ t).note now t.who 6, { aB σ t with at' := 6, code := 6 }, false) := by simp only [aw, hat]; rw [if_pos hfd, if_pos ho]
   rw [e];exact ⟨hn 6, rfl, bK _, fun _ => ⟨T.s, by simp, fun _ => hx, .inr (.inr (.inr (.inl ⟨by simp, by simp⟩))), by simp, fun hh => by simp [aB, ho] at hh, T.w⟩, rfl, rfl⟩
  ·have e : aw σ t now = (aS σ t, { aB σ t with at' := 4 }, false) := by simp only [aw, hat]; rw [if_pos hfd, if_neg ho]
   have hob : (aB σ t).obj < σ.obs.length := by
    show (if (aB σ t).found = true then σ.μ.V (10, t.s, (t.i : Int)) % 4294967296 else t.obj) < _;rw [if_pos hfd];refine h.slot t.s t.i fun h0 => ?_;have : fe (σ.μ.V (10, t.s, (t.i : Int))) t.x.flow = true := hfd;rw [h0] at this;cases this
   rw [e];exact ⟨ha.mono (by omega), rfl, bK _, fun _ => ⟨T.s, by simp, fun _ => hx, .inr (.inr (.inr (.inl ⟨by simp, by simp⟩))), fun _ hh => absurd hh ho, fun _ => hob, T.w⟩, rfl, rfl⟩
 ·have hli : (aB σ t).i = t.i + 1 := by
   show (if (aB σ t).found = true then t.i else t.i + 1) = _;rw [if_neg hfd]
  by_cases hla : bQ σ (aB σ t) = true
  ·by_cases ho : t.x.op = 1
   ·by_cases hm : (aB σ t).mark < 0
    ·have e : aw σ t now = ((aS σ t).note now t.who 7, { aB σ t with at' := 6, code := 7 }, false) := by simp only [aw, hat]; rw [if_neg hfd, if_pos hla, if_pos ho, if_pos hm]
     rw [e];exact ⟨hn 7, rfl, bK _, fun _ => ⟨T.s, by simp, fun _ => hx, .inr (.inr (.inr (.inl ⟨by simp, by simp⟩))), by simp, fun hh => by simp [aB, ho] at hh, T.w⟩, rfl, rfl⟩
    ·have e : aw σ t now = (aS σ t, { aB σ t with at' := 4 }, false) := by simp only [aw, hat]; rw [if_neg hfd, if_pos hla, if_pos ho, if_neg hm]
     rw [e];exact ⟨ha.mono (by omega), rfl, bK _, fun _ => ⟨T.s, by simp, fun _ => hx, .inr (.inr (.inr (.inl ⟨by simp, by simp⟩))), fun _ _ => by show 0 ≤ (aB σ t).mark; omega, fun hh => by simp [aB, ho] at hh, T.w⟩, rfl, rfl⟩
   ·have e : aw σ t now = ((aS σ t).note now t.who 5, { aB σ t with at' := 10, code := 5 }, false) := by simp only [aw, hat]; rw [if_neg hfd, if_pos hla, if_neg ho]
    rw [e];exact ⟨hn 5, rfl, bK _, fun _ => ⟨T.s, by simp, fun _ => hx, .inr (.inr (.inr (.inr ⟨ho, by simp, by simp⟩))), by simp, by simp, T.w⟩, rfl, rfl⟩
  ·have e : aw σ t now = (aS σ t, aB σ t, false) := by simp only [aw, hat]; rw [if_neg hfd, if_neg hla]
   have hil : ((aB σ t).i : Int) < σ.c.sl := by
    have hla2 : bQ σ (aB σ t) = decide (σ.c.sl ≤ ((aB σ t).i : Int)) := rfl;rw [hla2] at hla;have := of_decide_eq_false (by simpa using hla : decide (σ.c.sl ≤ ((aB σ t).i : Int)) = false);omega
   have hat' : (aB σ t).at' = 3 := hat;rw [e];exact ⟨ha.mono (by omega), rfl, bK _, fun _ => ⟨T.s, fun _ => hil, fun _ => hx, .inr (.inr (.inl hat')), by show (aB σ t).at' = 4 ∨ (aB σ t).at' = 5 → _; omega, by show (aB σ t).at' = 5 ∧ _ ∨ 4 ≤ (aB σ t).at' ∧ _ → _; omega, T.w⟩, rfl, rfl⟩
theorem Bp (now : Int) (hk : k < 300000) (h : SI σ k) (T : lE σ t) : KeptR σ t (aw σ t now) k := by
 rcases T.ats with hat | hat | hat | hat | hat
 ·cases hx : hM t.x with
  | some e =>
   have hs : aw σ t now = (σ.note now t.who e, { t with code := e }, true) := by simp only [aw, hat, hx]
   rw [hs];exact ⟨(h.note now t.who e).mono (by omega), rfl, bK _, (fun h => by cases h), rfl, rfl⟩
  | none =>
   have hs : aw σ t now = eN σ t := by simp only [aw, hat, hx]
   rw [hs];exact CX h T (by omega) hx
 ·have hs : aw σ t now = eN σ t := by simp only [aw, hat]
  rw [hs];exact CX h T (by omega) (T.x (by omega))
 ·exact Kr h T now hat
 all_goals
  have hx : hM t.x = none := T.x (by omega);have hx2 := uR hx
  have fin : aw σ t now = (iz σ t, t, true) → KeptR σ t (aw σ t now) k := fun hs => by
   rw [hs];exact ⟨Ie h, rfl, bK _, (fun h => by cases h), rfl, rfl⟩
  by_cases ho : t.x.op = 1
  ·by_cases h4 : t.at' = 4
   ·have hst : aw σ t now = (σ.make t.who (TN σ t), { t with obj := σ.obs.length, at' := 5 }, false) := by rw [kY σ t now ho (by omega)]; simp only [uS, h4]
    rw [hst];exact ⟨h.make t.who (TN σ t), rfl, by simp [aL.make], fun _ => ⟨T.s, by simp, fun _ => hx, .inr (.inr (.inr (.inl ⟨by simp, by simp⟩))), fun _ _ => T.mark (.inl h4) ho, fun _ => by simp [aL.make], T.w⟩, rfl, rfl⟩
   by_cases h5 : t.at' = 5
   ·have hst : aw σ t now = ((σ.mem ((σ.μ.acc t.who 2 (10, t.s, t.mark)).put (10, t.s, t.mark) (cq t.x.flow t.obj))).note now t.who 0, { t with at' := 6, code := 0 }, false) := by rw [kY σ t now ho (by omega)]; simp only [uS, h5]
    rw [hst];have hob := T.obj (.inl ⟨h5, ho⟩);exact ⟨((h.acc t.who 2 (10, t.s, t.mark)).slotput t.s t.mark t.x.flow t.obj hx2.1 hob (by omega)).note now t.who 0, rfl, bK _, fun _ => ⟨T.s, by simp, fun _ => hx, .inr (.inr (.inr (.inl ⟨by simp, by simp⟩))), by simp, fun hh => by simp [ho] at hh, T.w⟩, rfl, rfl⟩
   have h6 : t.at' = 6 := by omega
   exact fin (by rw [kY σ t now ho (by omega)]; simp only [uS, h6])
  ·have hm : ∀ {u : Tk}, u.x = t.x → (u.at' = 4 ∨ u.at' = 5 → u.x.op = 1 → 0 ≤ u.mark) := fun e _ hh => absurd (by rw [← e]; exact hh) ho
   by_cases h4 : t.at' = 4
   ·have hob := T.obj (.inr ⟨by omega, by omega, ho⟩)
    have hS : SI (da σ t) (k + 3) := (h.acc t.who 1 (11, (t.obj : Int), 0)).mono (by omega)
    by_cases hw : aR (σ.μ.V (11, (t.obj : Int), 0)) = 0
    ·have hst : aw σ t now = (da σ t, { t with w := σ.μ.V (11, (t.obj : Int), 0), at' := 8 }, false) := by rw [bM σ t now ho (by omega)]; simp only [d6, h4]; rw [if_pos hw]
     rw [hst];exact ⟨hS, rfl, bK _, fun _ => ⟨T.s, by simp, fun _ => hx, .inr (.inr (.inr (.inr ⟨ho, by simp, by simp⟩))), hm rfl, fun _ => hob, h.V _⟩, rfl, rfl⟩
    ·have hst : aw σ t now = (da σ t, { t with w := σ.μ.V (11, (t.obj : Int), 0), at' := 5 }, false) := by rw [bM σ t now ho (by omega)]; simp only [d6, h4]; rw [if_neg hw]
     rw [hst];exact ⟨hS, rfl, bK _, fun _ => ⟨T.s, by simp, fun _ => hx, .inr (.inr (.inr (.inl ⟨by simp, by simp⟩))), hm rfl, fun _ => hob, h.V _⟩, rfl, rfl⟩
   by_cases h5 : t.at' = 5
   ·have hob := T.obj (.inr ⟨by omega, by omega, ho⟩)
    have hS : SI (d9 σ t) (k + 3) := (h.acc t.who 1 (2, 0, 0)).mono (by omega)
    by_cases hw : σ.μ.V (2, 0, 0) % 2 = 1
    ·have hst : aw σ t now = (d9 σ t, { t with q := σ.μ.V (2, 0, 0), at' := 4 }, false) := by rw [bM σ t now ho (by omega)]; simp only [d6, h5]; rw [if_pos hw]
     rw [hst];exact ⟨hS, rfl, bK _, fun _ => ⟨T.s, by simp, fun _ => hx, .inr (.inr (.inr (.inl ⟨by simp, by simp⟩))), hm rfl, fun _ => hob, T.w⟩, rfl, rfl⟩
    ·have hst : aw σ t now = (d9 σ t, { t with q := σ.μ.V (2, 0, 0), at' := 6 }, false) := by rw [bM σ t now ho (by omega)]; simp only [d6, h5]; rw [if_neg hw]
     rw [hst];exact ⟨hS, rfl, bK _, fun _ => ⟨T.s, by simp, fun _ => hx, .inr (.inr (.inr (.inl ⟨by simp, by simp⟩))), hm rfl, fun _ => hob, T.w⟩, rfl, rfl⟩
   by_cases h6 : t.at' = 6
   ·have hob := T.obj (.inr ⟨by omega, by omega, ho⟩)
    have hS : SI (da σ t) (k + 3) := (h.acc t.who 1 (11, (t.obj : Int), 0)).mono (by omega)
    by_cases hw : aR (σ.μ.V (11, (t.obj : Int), 0)) = 0
    ·have hst : aw σ t now = (da σ t, { t with w := σ.μ.V (11, (t.obj : Int), 0), mark := now, at' := 8 }, false) := by rw [bM σ t now ho (by omega)]; simp only [d6, h6]; rw [if_pos hw]
     rw [hst];exact ⟨hS, rfl, bK _, fun _ => ⟨T.s, by simp, fun _ => hx, .inr (.inr (.inr (.inr ⟨ho, by simp, by simp⟩))), hm rfl, fun _ => hob, h.V _⟩, rfl, rfl⟩
    ·have hst : aw σ t now = (da σ t, { t with w := σ.μ.V (11, (t.obj : Int), 0), mark := now, at' := 7 }, false) := by rw [bM σ t now ho (by omega)]; simp only [d6, h6]; rw [if_neg hw]
     rw [hst];exact ⟨hS, rfl, bK _, fun _ => ⟨T.s, by simp, fun _ => hx, .inr (.inr (.inr (.inr ⟨ho, by simp, by simp⟩))), hm rfl, fun _ => hob, h.V _⟩, rfl, rfl⟩
   by_cases h7 : t.at' = 7
   ·have hob := T.obj (.inr ⟨by omega, by omega, ho⟩)
    have hS : SI (d9 σ t) (k + 2) := h.acc t.who 1 (2, 0, 0)
    by_cases hw : σ.μ.V (2, 0, 0) = t.q
    ·have hst : aw σ t now = ((d9 σ t).note t.mark t.who 8, { t with at' := 10, code := 8 }, false) := by rw [bM σ t now ho (by omega)]; simp only [d6, h7]; rw [if_pos hw]
     rw [hst];exact ⟨hS.note t.mark t.who 8, rfl, bK _, fun _ => ⟨T.s, by simp, fun _ => hx, .inr (.inr (.inr (.inr ⟨ho, by simp, by simp⟩))), hm rfl, by simp, T.w⟩, rfl, rfl⟩
    ·have hst : aw σ t now = (d9 σ t, { t with at' := 4 }, false) := by rw [bM σ t now ho (by omega)]; simp only [d6, h7]; rw [if_neg hw]
     rw [hst];exact ⟨hS.mono (by omega), rfl, bK _, fun _ => ⟨T.s, by simp, fun _ => hx, .inr (.inr (.inr (.inl ⟨by simp, by simp⟩))), hm rfl, fun _ => hob, T.w⟩, rfl, rfl⟩
   by_cases h8 : t.at' = 8
   ·have hob := T.obj (.inr ⟨by omega, by omega, ho⟩)
    have hS : SI (σ.mem (σ.μ.turn t.who t.obj t.w (aQ t.w 2))) (k + 2) := h.turn t.who t.obj t.w 2;have hc : (σ.mem (σ.μ.turn t.who t.obj t.w (aQ t.w 2))).c = σ.c := rfl
    cases hw : dY σ.μ t.obj t.w (aQ t.w 2) with
    | true =>
     have hst : aw σ t now = ((σ.mem (σ.μ.turn t.who t.obj t.w (aQ t.w 2))).note now t.who 0, { t with at' := 9, code := 0 }, false) := by rw [bM σ t now ho (by omega)]; simp only [d6, h8]; rw [if_pos hw]
     rw [hst];exact ⟨hS.note now t.who 0, rfl, bK _, fun _ => ⟨T.s, by simp, fun _ => hx, .inr (.inr (.inr (.inr ⟨ho, by simp, by simp⟩))), hm rfl, fun _ => hob, T.w⟩, rfl, rfl⟩
    | false =>
     have hst : aw σ t now = (σ.mem (σ.μ.turn t.who t.obj t.w (aQ t.w 2)), { t with at' := 4 }, false) := by rw [bM σ t now ho (by omega)]; simp only [d6, h8]; rw [if_neg (by rw [hw]; simp)]
     rw [hst];exact ⟨hS.mono (by omega), rfl, bK _, fun _ => ⟨T.s, by simp, fun _ => hx, .inr (.inr (.inr (.inl ⟨by simp, by simp⟩))), hm rfl, fun _ => hob, T.w⟩, rfl, rfl⟩
   by_cases h9 : t.at' = 9
   ·have hst : aw σ t now = (σ.mem ((σ.μ.acc t.who 2 (10, t.s, (t.i : Int))).put (10, t.s, (t.i : Int)) 0), { t with at' := 10 }, false) := by rw [bM σ t now ho (by omega)]; simp only [d6, h9]
    rw [hst];exact ⟨((h.acc t.who 2 (10, t.s, (t.i : Int))).clear t.s t.i).mono (by omega), rfl, bK _, fun _ => ⟨T.s, by simp, fun _ => hx, .inr (.inr (.inr (.inr ⟨ho, by simp, by simp⟩))), hm rfl, by simp, T.w⟩, rfl, rfl⟩
   have h10 : t.at' = 10 := by omega
   exact fin (by rw [bM σ t now ho (by omega)]; simp only [d6, h10])
end
theorem lE.new {σ : aL} (hc : bW σ.c = true) (who : Int) (x : Cl) : lE σ (Tk.newR σ.c who x) := by
 have := bx.1 hc;exact ⟨rfl, fun _ => by simp; omega, by simp, .inl rfl, by simp, by simp, by simp⟩
theorem lE.mono {σ σ' : aL} {t : Tk} (T : lE σ t) (hc : σ'.c = σ.c) (ho : σ.obs.length ≤ σ'.obs.length) : lE σ' t :=
 ⟨by rw [hc]; exact T.s, by rw [hc]; exact T.i, T.x, T.ats, T.mark, fun h => Nat.lt_of_lt_of_le (T.obj h) ho, T.w⟩
theorem gT.mono' {σ σ' : aL} {t : Tk} (T : gT σ t) (hc : σ'.c = σ.c) (ho : σ.obs.length ≤ σ'.obs.length) : gT σ' t :=
 ⟨fun h => Nat.lt_of_lt_of_le (T.obj h) ho, by rw [hc]; exact T.s, by rw [hc]; exact T.i, T.w, T.c5, T.c0, T.ats⟩
theorem No (σ : aL) (t : Tk) (now : Int) : (ah σ t now).2.1.x = t.x := by
 unfold ah;dsimp only
 repeat' split
 all_goals rfl
theorem Qm (σ : aL) (t : Tk) (now : Int) : (ah σ t now).1.obs.length = σ.obs.length := by
 unfold ah;dsimp only
 repeat' split
 all_goals first | rfl | exact i0 σ t
def bq (σ : aL) (t : Tk) (now : Int) : aL × Tk × Bool := if t.x.op = 3 then ah σ t now else aw σ t now
def aT (e p : Nat) (rp : List Nat) (t : Tk) : SP := if t.x.op = 3 then eT e p rp t else rT e p rp t
def zT (xb x : Nat) (t : Tk) : SP := if t.x.op = 3 then xT xb x t else yT xb x t
def aU (e p : Nat) (rp : List Nat) (r : aL × Tk × Bool) : SP := if r.2.2 = true then emp else aT e p rp r.2.1
def zU (xb x : Nat) (r : aL × Tk × Bool) : SP := if r.2.1.x.op = 3 then xU xb x r else yU xb x r
structure vk (σ : aL) (t : Tk) : Prop where
 e : t.x.op = 3 → gT σ t
 r : t.x.op ≠ 3 → lE σ t
def Tk.newA (c : fM) (who : Int) (x : Cl) : Tk := if x.op = 3 then Tk.new c who x else Tk.newR c who x
abbrev FK (op : Int) (e xb : Nat) : List Value := [if op = 3 then vp e else .pointer none, if op = 3 then .pointer none else vp e, vp xb]
theorem UV {op : Int} {e xb : Nat} (ho : op = 3) : FK op e xb = [vp e, .pointer none, vp xb] := by simp [FK, ho]
theorem UW {op : Int} {e xb : Nat} (ho : op ≠ 3) : FK op e xb = [.pointer none, vp e, vp xb] := by simp [FK, ho]
structure KeptA (σ : aL) (t : Tk) (r : aL × Tk × Bool) (k : Nat) : Prop where
 si : SI r.1 (k + 3)
 c : r.1.c = σ.c
 obs : σ.obs.length ≤ r.1.obs.length
 ok : r.2.2 = false → vk r.1 r.2.1
 x : r.2.1.x = t.x
theorem oB {σ : aL} {t : Tk} {k : Nat} (now : Int) (hk : k < 300000) (h : SI σ k) (T : vk σ t) : KeptA σ t (bq σ t now) k := by
 by_cases ho : t.x.op = 3
 ·rw [show bq σ t now = ah σ t now from if_pos ho]
  have K := Qr now hk h (T.e ho);have hx := No σ t now;exact ⟨K.si, K.c, Nat.le_of_eq (Qm σ t now).symm, fun hf => ⟨fun _ => K.ok hf, fun hn => absurd (by rw [hx]; exact ho) hn⟩, hx⟩
 ·rw [show bq σ t now = aw σ t now from if_neg ho]
  have K := Bp now hk h (T.r ho);exact ⟨K.si, K.c, K.obs, fun hf => ⟨fun hn => absurd (by rw [K.x] at hn; exact hn) ho, fun _ => K.ok hf⟩, K.x⟩
theorem vk.new {σ : aL} (hc : bW σ.c = true) (who : Int) (x : Cl) : vk σ (Tk.newA σ.c who x) := by
 by_cases ho : x.op = 3
 ·rw [show Tk.newA σ.c who x = Tk.new σ.c who x from if_pos ho]
  exact ⟨fun _ => gT.new hc who x, fun h => absurd ho h⟩
 ·rw [show Tk.newA σ.c who x = Tk.newR σ.c who x from if_neg ho]
  exact ⟨fun h => absurd h ho, fun _ => lE.new hc who x⟩
theorem vk.mono {σ σ' : aL} {t : Tk} (T : vk σ t) (hc : σ'.c = σ.c) (ho : σ.obs.length ≤ σ'.obs.length) : vk σ' t := ⟨fun h => (T.e h).mono' hc ho, fun h => (T.r h).mono hc ho⟩
theorem YU (c : fM) (who : Int) (x : Cl) : (Tk.newA c who x).x = x := by unfold Tk.newA; split <;> rfl
theorem MY {l l' : List Nat} (h : l <+: l') {i b : Nat} (e : l[i]? = some b) : l'[i]? = some b := by
 obtain ⟨s, rfl⟩ := h;rw [List.getElem?_append_left (B0.1 e).1];exact e
theorem KW {e p : Nat} {rp rp' : List Nat} {t : Tk} {R : SP} {H : AH} (hp : rp <+: rp') (h : ae (aT e p rp t * R) H) : ae (aT e p rp' t * R) H := by
 unfold aT at h ⊢
 split
 ·rename_i ho
  rw [if_pos ho] at h;unfold eT at h ⊢;obtain ⟨v, h1⟩ := ae.ex.1 h;rw [aj, ae.pu] at h1;refine ae.ex.2 ⟨v, ?_⟩;rw [aj, ae.pu];exact ⟨fun h7 => by obtain ⟨b, e1, e2⟩ := h1.1 h7; exact ⟨b, MY hp e1, e2⟩, h1.2⟩
 ·rename_i ho
  rw [if_neg ho] at h;unfold rT at h ⊢;obtain ⟨k, h1⟩ := ae.ex.1 h;rw [aj, ae.pu] at h1;refine ae.ex.2 ⟨k, ?_⟩;rw [aj, ae.pu];obtain ⟨⟨q1, q2, q3⟩, h2⟩ := h1;refine ⟨⟨q1, q2, fun hn => ?_⟩, h2⟩;obtain ⟨a1, a2⟩ := q3 hn;exact ⟨fun g1 g2 => by obtain ⟨c1, b, e1, e2⟩ := a1 g1 g2; exact ⟨c1, b, MY hp e1, e2⟩, a2⟩
theorem UX (xb x : Nat) (t : Tk) (C : Xk → Prop) (d : Bool) (c : Int) (hC : d = true → ∀ k, C k → k.code = c) (c' : Int) (hc' : c' = if d = true then c else 0) :
 Sp od [vp xb, vb d] (ex fun k : Xk => pu (C k) * xB xb x t k) (fun _ : Unit => .agg (dX c').toArray) (fun _ => ex fun k : Xk => pu (C k) * xB xb x t k) := by
 subst hc';refine aM fun R H h => ?_;obtain ⟨k, h1⟩ := ae.ex.1 h;rw [aj, ae.pu] at h1;obtain ⟨hk, h1⟩ := h1;refine bj (fun r => G9 _ _ H) ?_;refine bm h1 fun b H2 h2 => ?_;have back : ∀ {H' : AH}, ae (xB xb x t k * R) H' → ae ((ex fun k : Xk => pu (C k) * xB xb x t k) * R) H' := fun h => ae.ex.2 ⟨k, by rw [aj]; exact ae.pu.2 ⟨hk, h⟩⟩;cases d
 ·refine gs ?_
  refine iU ?_;refine eG h2 rfl rfl fun H3 h3 => ?_;refine aV h3 ?_;exact ap ⟨(), rfl, back h3.to⟩
 ·refine gs ?_
  have hk2 := hC rfl k hk;refine Vd h2 ac ?_;rw [hk2];refine eG h2 rfl rfl fun H3 h3 => ?_;refine aV h3 ?_;exact ap ⟨(), rfl, back h3.to⟩
theorem Zc (xb x : Nat) (r : aL × Tk × Bool) : Sp od [vp xb, vb r.2.2] (zU xb x r) (fun _ : Unit => .agg (dX (if r.2.2 = true then r.2.1.code else 0)).toArray) (fun _ => zU xb x r) := by
 unfold zU
 split
 ·exact UX xb x r.2.1 _ r.2.2 r.2.1.code (fun hd k hk => by rw [if_pos hd] at hk; exact hk) _ rfl
 ·exact UX xb x r.2.1 _ r.2.2 r.2.1.code (fun hd k hk => by rw [if_pos hd] at hk; exact hk) _ rfl
theorem YG (d : Bool) : aq .bool .eql (vb d) (vb d) = some (vb true) := by cases d <;> rfl
section
variable (p x : Nat) (rp : List Nat)
theorem Du {pb b6 b9 tb xb : Nat} {x0 x1 : Value} {c : Int} {σ : aL} {r : aL × Tk × Bool} {x7 x8 : Value} {R : SP} {H : AH} (hc : c = if r.2.2 = true then r.2.1.code else 0)
 (h : ae (blk tb (.cells false [x0, x1, vp xb]) * (blk pb (.cells false [vp p, vp x]) * (blk b6 (.cells false [vi 0, .slice none 0 0, vi 0, vw 0]) * (blk b9 (.cells false (dX c)) * (zU xb x r * (bf p rp σ * (aJ x σ * R))))))) H) :
 wp (gH (vp tb) (vp pb) (vp b6) x7 x8 (vp b9) (vb r.2.2) (vb r.2.2) H) fun v' H' => v' = .tuple #[.agg (dX c).toArray, vb r.2.2, vb true] ∧ ae (zU xb x r * (bf p rp σ * (aJ x σ * R))) H' := by
 refine ai (rq ..) ?_;refine aV h ?_;refine aa (YG _) ?_;refine gs ?_;refine aV h ?_;refine gs ?_;refine ak h aK rfl ?_;refine gs ?_;refine ag h (Zc xb x r) fun _ H1 h1 => ?_;rw [← hc];refine d7 h1 h rfl ?_;refine d7 h1 h rfl ?_;refine gs ?_;refine ag h1 (Ti c) fun _ H2 h2 => ?_;refine d7 h2 h rfl ?_;refine gs ?_;refine ak h2 aK rfl ?_;refine gs ?_;obtain ⟨g, hrp, hg, k1⟩ := eE (p := p) (rp := rp) (σ := σ) (R := aJ x σ * (blk b9 (.cells false (dX c)) * (blk b6 (.cells false [vi 0, .slice none 0 0, vi 0, vw 0]) * (blk pb (.cells false [vp p, vp x]) * (zU xb x r * R))))) (H := H2) h2.to;obtain ⟨gx, hgx, l1⟩ := fC (p := x) (σ := σ) (R := aC p g σ * (blk b9 (.cells false (dX c)) * (blk b6 (.cells false [vi 0, .slice none 0 0, vi 0, vw 0]) * (blk pb (.cells false [vp p, vp x]) * (zU xb x r * R))))) (H := H2) k1.to;obtain ⟨kv, vv, ev, Z, m1, back⟩ := PR (x := x) (g := gx) (σ := σ) (R := aC p g σ * (blk b9 (.cells false (dX c)) * (blk b6 (.cells false [vi 0, .slice none 0 0, vi 0, vw 0]) * (blk pb (.cells false [vp p, vp x]) * (zU xb x r * R))))) (H := H2) l1.to;refine gs ?_;refine ak m1 ac rfl ?_;refine gs ?_;have bl : Sp jV [vp g.m] (aC p g σ) (fun _ : Unit => vi σ.μ.E.length) (fun _ => aC p g σ) := QV (p := p) (g := g) (σ := σ) (WZ g.m σ.μ);refine ag m1 bl fun _ H3 m2 => ?_;refine d7 m2 h rfl ?_;refine nO ?_;refine bD aK ?_;refine gs ?_;refine aY m2 rfl ?_;refine aG m1 m2 (by rfl) ?_;refine nO ?_;refine bD ac ?_;refine gs ?_;refine aY m2 rfl ?_;refine aG m1 m2 (by rfl) ?_;refine nO ?_;refine bD ac ?_;refine gs ?_;refine aY m2 rfl ?_;refine aG m1 m2 (by rfl) ?_;refine gs ?_;refine y5 (s := ev) (l := σ.μ.E) m2 ?_;refine Dw ?_;refine gs ?_;refine aa (bw rfl) ?_;refine gs ?_;refine eG m2 rfl rfl fun H4 m4 => ?_;refine aG m4 m2 (by rfl) ?_;refine aG m4 m2 (by rfl) ?_;refine aG m4 m2 (by rfl) ?_;refine Dw ?_;refine aV m4 ?_;have m3 := back (R' := aC p g σ * (zU xb x r * R)) (H' := H4) m4.to;have n4 := dm (p := x) (σ := σ) (R := aC p g σ * (zU xb x r * R)) gx hgx m3;have n5 := bJ (p := p) (rp := rp) (σ := σ) (R := aJ x σ * (zU xb x r * R)) (H := H4) g hrp hg n4.to;exact ap ⟨rfl, n5.to⟩
theorem wG (e xb : Nat) (σ : aL) (t : Tk) (now : Int) (K : Nat) (S : SI σ K) (hK : K < 290000) (T : vk σ t) :
 Sp fU [.agg (FK t.x.op e xb).toArray, .agg [vp p, vp x].toArray, vi now] (aT e p rp t * (bf p rp σ * (zT xb x t * aJ x σ)))
  (fun _ : List Nat => .tuple #[.agg (dX (if (bq σ t now).2.2 = true then (bq σ t now).2.1.code else 0)).toArray, vb (bq σ t now).2.2, vb true])
  (fun rp' => pu (rp <+: rp') * (aU e p rp' (bq σ t now) * (zU xb x (bq σ t now) * (bf p rp' (bq σ t now).1 * aJ x (bq σ t now).1)))) := by
 refine aM fun R H h => ?_
 by_cases ho : t.x.op = 3
 ·have hA : bq σ t now = ah σ t now := if_pos ho
  have hx3 : (ah σ t now).2.1.x.op = 3 := by rw [No]; exact ho
  rw [hA, UV ho];refine bj (fun r => ny _ _ _ H) ?_;refine bg (l := [vp e, .pointer none, vp xb]) h fun tb H1 h1 => ?_;refine bg (l := [vp p, vp x]) h1 fun pb H2 h2 => ?_;refine bm h2 fun b6 H3 h3 => ?_;refine bm h3 fun b9 H4 h4 => ?_;refine ai (kF ..) ?_;refine ak h4 aK rfl ?_;refine aa (v := vb true) rfl ?_;refine gs ?_;refine ak h4 aK rfl ?_
  have h5 : ae (eP e p rp σ t * (xP xb x σ t * (blk tb (.cells false [vp e, .pointer none, vp xb]) * (blk pb (.cells false [vp p, vp x]) * (blk b6 (.cells false [vi 0, .slice none 0 0, vi 0, vw 0]) * (blk b9 (.cells false [vi 0, .slice none 0 0, vi 0, vw 0]) * R)))))) H4 := by
   rw [RC, Z8];unfold aT zT at h4;rw [if_pos ho, if_pos ho] at h4;exact h4.to
  refine ag h5 (RG e p rp σ t now (S.ok (by omega)) (T.e ho)) fun _ H5 h6 => ?_;refine aa (v := .agg (dX (if (ah σ t now).2.2 = true then (ah σ t now).2.1.code else 0)).toArray) rfl ?_;refine aa (v := vb (ah σ t now).2.2) rfl ?_;refine eG h6 rfl rfl fun H7 h7 => ?_;refine ak h7 aK rfl ?_;refine ag h7 (QM xb x σ t now (S.ok (by omega)) (T.e ho)) fun _ H8 h8 => ?_;rw [Z9, ZH] at h8;refine KM ?_ (Du p x rp (xb := xb) (x0 := vp e) (x1 := .pointer none) (pb := pb) (tb := tb) (b6 := b6) (b9 := b9) (σ := (ah σ t now).1) (r := ah σ t now) (R := eU e p rp (ah σ t now) * R) (H := H8) rfl (by unfold zU; rw [if_pos hx3]; exact h8.to))
  rintro v' H' ⟨rfl, h9⟩
  refine ⟨rp, rfl, ?_⟩;rw [aj, ae.pu];refine ⟨kf _, ?_⟩
  have ea : aU e p rp (ah σ t now) = eU e p rp (ah σ t now) := by
   unfold aU eU aT;rw [if_pos hx3]
  rw [ea];exact h9.to
 ·have hA : bq σ t now = aw σ t now := if_neg ho
  have KR := Bp now (by omega) S (T.r ho)
  have hx3 : ¬ (aw σ t now).2.1.x.op = 3 := by rw [KR.x]; exact ho
  rw [hA, UW ho];refine bj (fun r => ny _ _ _ H) ?_;refine bg (l := [.pointer none, vp e, vp xb]) h fun tb H1 h1 => ?_;refine bg (l := [vp p, vp x]) h1 fun pb H2 h2 => ?_;refine bm h2 fun b6 H3 h3 => ?_;refine bm h3 fun b9 H4 h4 => ?_;refine ai (kF ..) ?_;refine ak h4 aK rfl ?_;refine aa (v := vb false) rfl ?_;refine gs ?_;refine ak h4 aK rfl ?_;refine aa (v := vb true) rfl ?_;refine gs ?_;refine ak h4 aK rfl ?_
  have h5 : ae (rT e p rp t * (bf p rp σ * (yT xb x t * (aJ x σ * (blk tb (.cells false [.pointer none, vp e, vp xb]) * (blk pb (.cells false [vp p, vp x]) * (blk b6 (.cells false [vi 0, .slice none 0 0, vi 0, vw 0]) * (blk b9 (.cells false [vi 0, .slice none 0 0, vi 0, vw 0]) * R)))))))) H4 := by
   unfold aT zT at h4;rw [if_neg ho, if_neg ho] at h4;exact h4.to
  refine ag h5 (Uv e p rp σ t now (S.ok (by omega)) (T.r ho)) fun rp' H5 h6 => ?_;unfold rQ at h6;rw [aj, ae.pu] at h6;obtain ⟨hpre, h6⟩ := h6;refine aa (v := .agg (dX (if (aw σ t now).2.2 = true then (aw σ t now).2.1.code else 0)).toArray) rfl ?_;refine aa (v := vb (aw σ t now).2.2) rfl ?_;refine eG h6 rfl rfl fun H7 h7 => ?_;refine ak h7 aK rfl ?_;refine ag h7 (QP xb x σ t now (S.ok (by omega)) (T.r ho)) fun _ H8 h8 => ?_;refine KM ?_ (Du p x rp' (xb := xb) (x0 := .pointer none) (x1 := vp e) (pb := pb) (tb := tb) (b6 := b6) (b9 := b9) (σ := (aw σ t now).1) (r := aw σ t now) (R := rU e p rp' (aw σ t now) * R) (H := H8) rfl (by unfold zU; rw [if_neg hx3]; exact h8.to))
  rintro v' H' ⟨rfl, h9⟩
  refine ⟨rp', rfl, ?_⟩;rw [aj, ae.pu];refine ⟨hpre, ?_⟩
  have ea : aU e p rp' (aw σ t now) = rU e p rp' (aw σ t now) := by
   unfold aU rU aT;rw [if_neg hx3]
  rw [ea];exact h9.to
theorem Co (σ : aL) (hc : bW σ.c = true) (hN : σ.μ.N < 1000000) (who place : Int) (c : Cl) :
 Sp mu [.agg [vp p, vp x].toArray, vi who, vi place, .agg (Cl.cells c).toArray] (bf p rp σ * aJ x σ) (fun g : Nat × Nat => .agg (FK c.op g.1 g.2).toArray)
  (fun g => aT g.1 p rp (Tk.newA σ.c who c) * (zT g.2 x (Tk.newA σ.c who c) * (bf p rp (σ.begin who place) * aJ x (σ.begin who place)))) := by
 refine bp (EU _ _ _ _) fun R H h => ?_;refine bg (l := [vp p, vp x]) h fun pb H1 h1 => ?_;refine bg h1 fun cb H2 h2 => ?_;refine bm h2 fun b3 H3 h3 => ?_;refine aV h3 ?_;refine ag h3 (JR p x rp σ who place hN) fun _ H4 h4 => ?_;refine ak h4 aK rfl ?_;refine aV h4 ?_;have hcb : bW (σ.begin who place).c = true := hc
 by_cases ho : c.op = 3
 ·refine ag h4 (HC x (σ.begin who place) who c 0) fun xb H5 h5 => ?_
  refine iU ?_;refine bm h5 fun b5 H6 h6 => ?_;refine eG h6 rfl rfl fun H7 h7 => ?_;refine ai (oN ..) ?_;refine ak h7 aK rfl ?_;refine aa (bw ho) ?_;refine gs ?_;refine ak h7 aK rfl ?_;refine aV h7 ?_;refine ag h7 (RF p rp (σ.begin who place) hcb who c) fun e H8 h8 => ?_;refine bv h8 aK rfl rfl fun H9 h9 => ?_;refine ai (oO ..) ?_;refine aV h9 ?_;refine eG h9 rfl rfl fun HA hA => ?_;refine aV hA ?_;refine ap ⟨(e, xb), by rw [UV ho], ?_⟩;rw [show Tk.newA σ.c who c = Tk.new σ.c who c from if_pos ho];rw [show aT (e, xb).1 p rp (Tk.new σ.c who c) = eT e p rp (Tk.new σ.c who c) from if_pos ho, show zT (e, xb).2 x (Tk.new σ.c who c) = xT xb x (Tk.new σ.c who c) from if_pos ho];exact hA.to
 ·have nt : Sp jY [vp x, vi who, .agg (Cl.cells c).toArray] emp (fun b : Nat => vp b) (fun b => yT b x (Tk.newR σ.c who c)) := by
   refine bp (qe _ _ _) fun R H h => ?_;refine bg h fun b H1 h1 => ?_;refine aV h1 ?_;refine iU ?_;refine bg h1 fun xb H2 h2 => ?_;refine ap ⟨xb, rfl, ?_⟩;unfold yT;refine ae.ex.2 ⟨⟨0, 0, -1, false, 0, 0, 0, 0, 0, 0, 0⟩, ?_⟩;rw [aj, ae.pu];exact ⟨y8 rfl (by simp) ⟨rfl, rfl⟩, h2.to⟩
  refine ag h4 nt fun xb H5 h5 => ?_;refine iU ?_;refine bm h5 fun b5 H6 h6 => ?_;refine eG h6 rfl rfl fun H7 h7 => ?_;refine ai (oN ..) ?_;refine ak h7 aK rfl ?_;refine aa (aD ho) ?_;refine gs ?_;refine ak h7 aK rfl ?_;refine aV h7 ?_;refine ag h7 (Ut p rp (σ.begin who place) hcb who c) fun e H8 h8 => ?_;refine bv h8 aK rfl rfl fun H9 h9 => ?_;refine ai (oO ..) ?_;refine aV h9 ?_;refine eG h9 rfl rfl fun HA hA => ?_;refine aV hA ?_;refine ap ⟨(e, xb), by rw [UW ho], ?_⟩;rw [show Tk.newA σ.c who c = Tk.newR σ.c who c from if_neg ho];rw [show aT (e, xb).1 p rp (Tk.newR σ.c who c) = rT e p rp (Tk.newR σ.c who c) from if_neg ho, show zT (e, xb).2 x (Tk.newR σ.c who c) = yT xb x (Tk.newR σ.c who c) from if_neg ho];exact hA.to
end

abbrev Wk := Option (Nat × Nat × Tk)
def Zz (σ : aL) (q : Wk) : Prop := match q with
 | none => True
 | some q => vk σ q.2.2
structure Zu (σ : aL) (ws : List Wk) (ats : List Nat) : Prop where
 l : ws.length = 4
 al : ats.length = 4
 r : ∀ w (h : w < 4), Zz σ (ws[w]'(by omega))
theorem Zz.mono {σ σ' : aL} {q : Wk} (h : Zz σ q) (hc : σ'.c = σ.c) (ho : σ.obs.length ≤ σ'.obs.length) : Zz σ' q := by
 cases q with
 | none => trivial
 | some q => exact vk.mono (show vk σ q.2.2 from h) hc ho
theorem Zu.mono {σ σ' : aL} {ws : List Wk} {ats : List Nat} (h : Zu σ ws ats) (hc : σ'.c = σ.c) (ho : σ.obs.length ≤ σ'.obs.length) : Zu σ' ws ats :=
 ⟨h.l, h.al, fun w hw => (h.r w hw).mono hc ho⟩
theorem Zu.set {σ : aL} {ws : List Wk} {ats : List Nat} (h : Zu σ ws ats) {w : Nat} (hw : w < 4) {q : Wk} (a : Nat) (hq : Zz σ q) : Zu σ (ws.set w q) (ats.set w a) := by
 refine ⟨by simp [h.l], by simp [h.al], fun w' hw' => ?_⟩;rw [List.getElem_set]
 by_cases e : w = w'
 ·rw [if_pos e]; exact hq
 ·rw [if_neg e]; exact h.r w' hw'
theorem W0 (b : Nat) : aq .ptr .neq (vp b) (.pointer none) = some (vb true) := rfl
abbrev SlT := Option Addr × Nat × Nat
abbrev slv (x : SlT) : Value := .slice x.1 x.2.1 x.2.2
abbrev ZI (x : SlT) : List Value := [slv x]
instance : Enc ZI 1 := ⟨fun _ => rfl, fun _ => rfl, by omega⟩
structure AfterR (σ σ' : aL) (k : Nat) : Prop where
 si : SI σ' k
 c : σ'.c = σ.c
 obs : σ'.obs.length = σ.obs.length
section
variable (p x : Nat) (rp : List Nat) (σ : aL) (K : Nat)
end
instance {c : Bool} {e1 : Option Value} {k : Value → OV} : Gd ((BN (yv undef) c e1 (some undef)).bind k) (k undef) := ⟨fun h => by cases c <;> exact h⟩
theorem VE {xb x : Nat} {r : aL × Tk × Bool} (h : r.2.2 = false) : zU xb x r = zT xb x r.2.1 := by
 unfold zU zT
 split
 ·exact aaA h
 ·unfold yU yT
  simp only [h]
  rfl
theorem Q7 {e p : Nat} {rp : List Nat} {r : aL × Tk × Bool} (h : r.2.2 = false) : aU e p rp r = aT e p rp r.2.1 := by
 unfold aU;rw [if_neg (by rw [h]; simp)]
section
variable (p x pb tb ab : Nat) (lb : Nat) (LL : List (SlT × List Cl)) (pv : Value) (picks : List Int) (blows : Bool) (most : Nat)
variable (I : aL → List Wk → Prop)
variable (x10 x11 : Value) (Z : SP)
variable (hL : LL.length = 4) (hQ : ∀ q ∈ LL, q.2.length ≤ 1000) (hm : most ≤ 500) [hP : Rd Z pv 1 kR picks]
variable (hIs : ∀ (σ : aL) (ws : List Wk) (w : Nat) (q : Nat × Nat × Tk) (now : Int) (K : Nat), K < 20000 → SI σ K → ws.length = 4 → ws[w]? = some (some q) → vk σ q.2.2 → I σ ws →
 I (bq σ q.2.2 now).1 (ws.set w (if (bq σ q.2.2 now).2.2 = true then none else some (q.1, q.2.1, (bq σ q.2.2 now).2.1))))
variable (hIb : ∀ (σ : aL) (ws : List Wk) (w e xk : Nat) (place : Int) (c : Cl), bW σ.c = true → ws.length = 4 → ws[w]? = some none → I σ ws → I (σ.begin w place) (ws.set w (some (e, xk, Tk.newA σ.c w c))))
variable (hIt : blows = true → ∀ (σ σ' : aL) (ws : List Wk) (k : Nat), AfterR σ σ' k → I σ ws → I σ' ws)
include hL hm hP hIs hIb hIt
end

section
variable (x0 x1 x2 x3 x4 x10 x11 x13 x14 x16 x17 x21 x22 : Value) (H : AH)
noncomputable def nj (p : List Nat) : Code := Code.sub (ce Tryz.f7) p
noncomputable def mV : KK := fE PP (Tryz.f7).results.toList
noncomputable def XP : KK := CQ (nj [1, 1, 1, 1, 1, 1, 1]) mV ca mV
noncomputable def oI : OV := XP (ls [u, x1, u, x3, x4, u, u, u, u, u, x10, x11, u, x13, x14, u, x16] 155) H
noncomputable def SF : KK := CQ (nj [1, 1, 1, 1, 1, 1, 1, 1]) mV ca mV
noncomputable def XM : KK := jv 5986310706507378352962293074805895248510699695936493 SF
noncomputable def kw : OV := SF (ls [u, x1, u, u, x4, u, u, u, u, u, x10, x11, u, x13, x14, u, x16] 155) H
noncomputable def XQ : KK := CQ (nj [1, 1, 1, 1, 1, 1, 1, 1, 1, 1, 1]) mV ca mV
noncomputable def oJ : OV := XQ (ls [u, x1, u, u, x4, u, u, u, u, u, x10, x11, u, x13, x14, u, x16, u, u, u, u, x21] 150) H
noncomputable def XR : KK := CQ (nj [1, 1, 1, 1, 1, 1, 1, 1, 1, 1, 1, 1]) mV ca mV
noncomputable def il : OV := XR (ls [u, x1, u, u, x4, u, u, u, u, u, x10, x11, u, u, x14, u, x16, u, u, u, u, x21] 150) H
noncomputable def XS : KK := CQ (nj [1, 1, 1, 1, 1, 1, 1, 1, 1, 1, 1, 1, 1]) mV ca mV
noncomputable def XN : KK := jv 5986310706507378352962293074805895248510699696028671 XS
noncomputable def XT : KK := CQ (nj [1, 1, 1, 1, 1, 1, 1, 1, 1, 1, 1, 1, 0, 1]) XN ca mV
noncomputable def oK : OV := XT (ls [u, x1, u, u, x4, u, u, u, u, u, x10, x11, u, u, x14, u, x16, u, u, u, u, x21, x22] 149) H
noncomputable def SO : KX := BX 2 XN ca
noncomputable def MC : KX := FV 5986310706507378352962293074805895248510699696028671 SO
noncomputable def SG : KK := NF (nj [1, 1, 1, 1, 1, 1, 1, 1, 1, 1, 1, 1, 0, 1, 4, 5]) MC mV
noncomputable def XO : KK := jv 5986310706507378352962293074805895248510699689653229 SG
noncomputable def im : OV := SG (ls [u, x1, u, u, x4, u, u, u, u, u, x10, x11, u, u, x14, u, x16, u, u, u, u, x21, x22] 149) H
noncomputable def XU : KK := CQ (nj [1, 1, 1, 1, 1, 1, 1, 1, 1, 1, 1, 1, 0, 1, 4, 5, 1]) XO MC mV
noncomputable def oL : OV := XU (ls [u, x1, u, u, x4, u, u, u, u, u, x10, x11, u, u, x14, u, x16, u, u, u, u, x21, x22] 149) H
noncomputable def SM : KK := CQ (nj [1, 1, 1, 1, 1, 1, 1, 1, 1, 1, 1, 1, 0, 1, 4, 5, 1, 1]) XO MC mV
noncomputable def ZK : KK := jv 5986310706507378352962293074805895248510699689653229 SM
noncomputable def oM : OV := SM (ls [u, x1, u, u, x4, u, u, u, u, u, x10, x11, u, u, x14, u, x16, u, u, u, u, x21, x22] 149) H
noncomputable def YK : KX := BX 3 ZK MC
noncomputable def ub : OV := SO 2 (ls [u, u, u, u, u, u, u, u, u, u, x10] 161) H
noncomputable def SH : KK := CQ (nj [1, 1, 1, 1, 1, 1, 1, 0, 1]) XM ca mV
noncomputable def np : OV := SH (ls [u, x1, u, x3, x4, u, u, u, u, u, x10, x11, u, x13, x14, u, x16, x17] 154) H
noncomputable def Jw : KX := BX 0 XM ca
noncomputable def EI : KX := FV 5986310706507378352962293074805895248510699695936493 Jw
noncomputable def Ju : KK := NF (nj [1, 1, 1, 1, 1, 1, 1, 0, 1, 4, 5]) EI mV
noncomputable def SE : KK := jv 5986310706507378352962293074805895248510699695805413 Ju
noncomputable def gG : OV := Ju (ls [u, x1, u, x3, x4, u, u, u, u, u, x10, x11, u, x13, x14, u, x16, x17] 154) H
noncomputable def SK : KK := CQ (nj [1, 1, 1, 1, 1, 1, 1, 0, 1, 4, 5, 1]) SE EI mV
noncomputable def nq : OV := SK (ls [u, x1, u, x3, x4, u, u, u, u, u, x10, x11, u, x13, x14, u, x16, x17] 154) H
noncomputable def Jv : KK := CQ (nj [1, 1, 1, 1, 1, 1, 1, 0, 1, 4, 5, 1, 1]) SE EI mV
noncomputable def YJ : KK := jv 5986310706507378352962293074805895248510699695805413 Jv
noncomputable def nr : OV := Jv (ls [u, x1, u, x3, x4, u, u, u, u, u, x10, x11, u, x13, x14, u, x16, x17] 154) H
noncomputable def YL : KX := BX 1 YJ EI
noncomputable def lP : OV := Jw 0 (ls [u, x1, u, u, x4, u, u, u, u, u, x10, x11, u, x13, x14, u, x16] 155) H
theorem fZ : az 5986310706507378352962293074805895248510699696028671 mV := rf
theorem WK : az 5986310706507378352962293074805895248510699695936485 XP := rc fZ aH fZ
theorem EF : az 5986310706507378352962293074805895248510699695936493 SF := rc fZ aH fZ
theorem WL : az 5986310706507378352962293074805895248510699693839341 XQ := rc fZ aH fZ
theorem WM : az 5986310706507378352962293074805895248510699693847533 XR := rc fZ aH fZ
theorem EG : az 5986310706507378352962293074805895248510699696028671 XS := rc fZ aH fZ
theorem WN : az 5986310706507378352962293074805895248510699689653229 XT := rc (cd EG) aH fZ
theorem tX : ∀ i, az 5986310706507378352962293074805895248510699696028671 (SO i) := rb (cd EG) aH
theorem yK : az 5986310706507378352962293074805895248510699689653229 SG := rl (cx tX) fZ
theorem WO : az 5986310706507378352962293074805895248510699689653229 XU := rc (cd yK) (cx tX) fZ
theorem MB : az 5986310706507378352962293074805895248510699689653229 SM := rc (cd yK) (cx tX) fZ
theorem SN : ∀ i, az 5986310706507378352962293074805895248510699689653229 (YK i) := rb (cd MB) (cx tX)
theorem SJ : az 5986310706507378352962293074805895248510699695805413 SH := rc (cd EF) aH fZ
theorem pG : ∀ i, az 5986310706507378352962293074805895248510699695936493 (Jw i) := rb (cd EF) aH
theorem tW : az 5986310706507378352962293074805895248510699695805413 Ju := rl (cx pG) fZ
theorem SL : az 5986310706507378352962293074805895248510699695805413 SK := rc (cd tW) (cx pG) fZ
theorem GV : az 5986310706507378352962293074805895248510699695805413 Jv := rc (cd tW) (cx pG) fZ
theorem SQ : ∀ i, az 5986310706507378352962293074805895248510699695805413 (YL i) := rb (cd GV) (cx pG)
theorem sx : oM x1 x4 x10 x11 x14 x16 x21 x22 H =
 (aq .other .add x22 (vi 1)).bind fun v10 =>
 im x1 x4 x10 x11 x14 x16 x21 v10 H :=
 (by kernel_rfl)
theorem sw : oL x1 x4 x10 x11 x14 x16 x21 x22 H =
 (aA 3 x16 H).bind fun v12 =>
 (aA 2 x11 H).bind fun v13 =>
 (FF fU [v12, v13, x14] H).bind fun r14 =>
 (af r14.1 0).bind fun v15 =>
 (af r14.1 1).bind fun v16 =>
 (af r14.1 2).bind fun v17 =>
 aZ [(vi 0), (.slice none 0 0), (vi 0), (vw 0)] r14.2 fun v18 H19 =>
 (cD 4 v18 v15 H19).bind fun H20 =>
 (mD .not v17).bind fun v21 =>
 ax v21
 (some ((vb false), H20))
 ((aq .other .add x14 (vi 1)).bind fun v22 =>
 ax v16
 (ld [.f 0] v18 H20 fun v23 =>
 (aq .other .neq v23 x21).bind fun v24 =>
 fT v24 false  [.f 0] x11 H20 fun v25 =>
 (gE v24 false H20 (FF bS [v25, (vi 0)] H20)).bind fun r26 =>
 (gB v24 false (aq .ptr .eql r26.1 (.pointer none))).bind fun v27 =>
 (aX v24 (vb true) v27).bind fun v28 =>
 fT v28 false  [.f 0] x11 r26.2 fun v29 =>
 (gE v28 false r26.2 (FF bS [v29, (vi 0)] r26.2)).bind fun r30 =>
 (gE v28 false r30.2 (FF dw [r30.1, (vi 0), (vw 0)] r30.2)).bind fun r31 =>
 (aX v28 (vb true) r31.1).bind fun v32 =>
 ax v32
 (some ((vb false), r31.2))
 ((mD .not x4).bind fun v33 =>
 ax v33
 (ld [.f 0] x11 r31.2 fun v34 =>
 (FF fI [v34] r31.2).bind fun r35 =>
 (aq .other .eql r35.1 (vi 1)).bind fun v36 =>
 some (v36, r35.2))
 (ld [.f 0] x11 r31.2 fun v37 =>
 (FF bS [v37, (vi 1)] r31.2).bind fun r38 =>
 (aq .ptr .neq r38.1 (.pointer none)).bind fun v39 =>
 (gV v39 true r38.1).bind fun v40 =>
 (gE v39 true r38.2 (FF dw [v40, (vi 0), (vw 0)] r38.2)).bind fun r41 =>
 (aX v39 r41.1 (vb false)).bind fun v42 =>
 (gV v42 true r38.1).bind fun v43 =>
 (gE v42 true r41.2 (FF iw [v43, (vi 0), (vw 0)] r41.2)).bind fun r44 =>
 (gV v42 true x1).bind fun v45 =>
 (BN (yv v42) true (gC [(0, 1), (1, 1), (2, 1)] [(vi 0), (vi 0), (vi 0)] [(0, (vi 1)), (1, v45), (2, (vi 5))] some) (some undef)).bind fun v46 =>
 (gB v42 true (aq (.flat 3) .eql r44.1 v46)).bind fun v47 =>
 (aX v42 v47 (vb false)).bind fun v48 =>
 some (v48, r44.2))))
 (oM x1 x4 x10 x11 v22 x16 x21 x22 H20)) :=
 (pt rfl 0 MB (bt rfl (nj [1, 1, 1, 1, 1, 1, 1, 1, 1, 1, 1, 1, 0, 1, 4, 5, 1, 0, 4]) 3 SN (by kernel_rfl)))
theorem su : im x1 x4 x10 x11 x14 x16 x21 x22 H =
 (aq .other .lss x22 (vi 40)).bind fun v49 =>
 ax v49
 (oL x1 x4 x10 x11 x14 x16 x21 x22 H)
 (ub x10 H) :=
 PJ rfl yK (pt rfl 0 WO (by kernel_rfl))
theorem ss : oK x1 x4 x10 x11 x14 x16 x21 x22 H =
 im x1 x4 x10 x11 x14 x16 x21 x22 H :=
 (bt rfl (nj [1, 1, 1, 1, 1, 1, 1, 1, 1, 1, 1, 1, 0, 1, 4]) 2 tX (li rfl (nj [1, 1, 1, 1, 1, 1, 1, 1, 1, 1, 1, 1, 0, 1, 4, 5]) yK (by kernel_rfl)))
theorem sr : il x1 x4 x10 x11 x14 x16 x21 H =
 oK x1 x4 x10 x11 x14 x16 x21 (vi 0) H :=
 (pt rfl 0 EG (pt rfl 0 WN (by kernel_rfl)))
theorem sq : oJ x1 x4 x10 x11 x13 x14 x16 x21 H =
 ax x4
 ((aA 2 x11 H).bind fun v50 =>
 gC [(0, 1), (1, 1), (2, 1), (3, 1)] [(vi 0), (vi 0), (vi 0), (vi 0)] [(0, (vi 1)), (1, (vi 1)), (2, (vi 1)), (3, (vi 1))] fun v51 =>
 (FF kg [v50, (vi 0), (vi 2), v51, x14, (vi 30)] H).bind fun r52 =>
 (af r52.1 0).bind fun v53 =>
 (af r52.1 1).bind fun v54 =>
 (af r52.1 2).bind fun v55 =>
 (cD 4 x13 v53 r52.2).bind fun H56 =>
 (mD .not v55).bind fun v57 =>
 fT v57 false  [.f 0] x13 H56 fun v58 =>
 (gB v57 false (aq .other .neq v58 (vi 0))).bind fun v59 =>
 (aX v57 (vb true) v59).bind fun v60 =>
 ax v60
 (some ((vb false), H56))
 (il x1 x4 x10 x11 v54 x16 (vi 0) H56))
 (il x1 x4 x10 x11 x14 x16 x21 H) :=
 (pt rfl 0 WM (by kernel_rfl))
theorem so : kw x1 x4 x10 x11 x13 x14 x16 H =
 (aA 2 x11 H).bind fun v61 =>
 gC [(0, 1), (1, 1), (2, 1), (3, 1)] [(vi 0), (vi 0), (vi 0), (vi 0)] [(0, (vi 2)), (1, (vi 1))] fun v62 =>
 (FF kg [v61, (vi 0), (vi 1), v62, x14, (vi 30)] H).bind fun r63 =>
 (af r63.1 0).bind fun v64 =>
 (af r63.1 1).bind fun v65 =>
 (af r63.1 2).bind fun v66 =>
 (cD 4 x13 v64 r63.2).bind fun H67 =>
 (mD .not v66).bind fun v68 =>
 fT v68 false  [.f 0] x13 H67 fun v69 =>
 (gB v68 false (aq .other .neq v69 (vi 0))).bind fun v70 =>
 (aX v68 (vb true) v70).bind fun v71 =>
 ax v71
 (some ((vb false), H67))
 (oJ x1 x4 x10 x11 x13 v65 x16 (vi 5) H67) :=
 (pt rfl 2 WL (by kernel_rfl))
theorem rn : nr x1 x3 x4 x10 x11 x13 x14 x16 x17 H =
 (aq .other .add x17 (vi 1)).bind fun v77 =>
 gG x1 x3 x4 x10 x11 x13 x14 x16 v77 H :=
 (by kernel_rfl)
theorem rm : nq x1 x3 x4 x10 x11 x13 x14 x16 x17 H =
 (aA 3 x16 H).bind fun v79 =>
 (aA 2 x11 H).bind fun v80 =>
 (FF fU [v79, v80, x14] H).bind fun r81 =>
 (af r81.1 0).bind fun v82 =>
 (af r81.1 1).bind fun v83 =>
 (af r81.1 2).bind fun v84 =>
 aZ [(vi 0), (.slice none 0 0), (vi 0), (vw 0)] r81.2 fun v85 H86 =>
 (cD 4 v85 v82 H86).bind fun H87 =>
 (gV v83 false v84).bind fun v88 =>
 (gB v83 false (mD .not v88)).bind fun v89 =>
 (aX v83 (vb true) v89).bind fun v90 =>
 ax v90
 (some ((vb false), H87))
 ((aq .other .add x14 (vi 1)).bind fun v91 =>
 nr x1 x3 x4 x10 x11 x13 v91 x16 x17 H87) :=
 (pt rfl 0 GV (bt rfl (nj [1, 1, 1, 1, 1, 1, 1, 0, 1, 4, 5, 1, 0, 4]) 1 SQ (by kernel_rfl)))
theorem o9 : lP x1 x4 x10 x11 x13 x14 x16 H = kw x1 x4 x10 x11 x13 x14 x16 H :=
 (by kernel_rfl)
theorem kE : gG x1 x3 x4 x10 x11 x13 x14 x16 x17 H =
 (aq .other .lss x17 x3).bind fun v92 =>
 ax v92
 (nq x1 x3 x4 x10 x11 x13 x14 x16 x17 H)
 (lP x1 x4 x10 x11 x13 x14 x16 H) :=
 PJ rfl tW (pt rfl 0 SL (by kernel_rfl))
theorem rk : np x1 x3 x4 x10 x11 x13 x14 x16 x17 H =
 gG x1 x3 x4 x10 x11 x13 x14 x16 x17 H :=
 (bt rfl (nj [1, 1, 1, 1, 1, 1, 1, 0, 1, 4]) 0 pG (li rfl (nj [1, 1, 1, 1, 1, 1, 1, 0, 1, 4, 5]) tW (by kernel_rfl)))
theorem sn : oI x1 x3 x4 x10 x11 x13 x14 x16 H =
 np x1 x3 x4 x10 x11 x13 x14 x16 (vi 0) H :=
 (pt rfl 0 EF (pt rfl 0 SJ (by kernel_rfl)))
noncomputable def ES : OV := bn PP GG FF (nj []) (ls [x0, x1, x2, x3, x4] 167) H mV ca mV
theorem xC {r : Value × AH} (h : (
 aZ (Value.cells x0).toList H fun v93 H94 =>
 (aA 5 v93 H94).bind fun v95 =>
 (FF sD [v95, (vi 0)] H94).bind fun r96 =>
 (af r96.1 0).bind fun v97 =>
 (af r96.1 1).bind fun v98 =>
 aZ [(.pointer none), (.pointer none)] r96.2 fun v99 H100 =>
 (cD 2 v99 v97 H100).bind fun H101 =>
 (FF pU [] H101).bind fun r102 =>
 (mD .not r102.1).bind fun v103 =>
 (gV v103 false v98).bind fun v104 =>
 (gB v103 false (mD .not v104)).bind fun v105 =>
 (aX v103 (vb true) v105).bind fun v106 =>
 ax v106
 (some ((vb false), r102.2))
 ((FF eK [x1, (vi 100)] r102.2).bind fun r107 =>
 (aq .other .add (vi 1) r107.1).bind fun v108 =>
 (FF eK [x2, (vi 100)] r107.2).bind fun r109 =>
 (aq .other .add (vi 1) r109.1).bind fun v110 =>
 (FF eK [x3, (vi 3)] r109.2).bind fun r111 =>
 (aq .other .add (vi 2) r111.1).bind fun v112 =>
 (aA 2 v99 r111.2).bind fun v113 =>
 gC [(0, 1), (1, 1), (2, 1), (3, 1)] [(vi 0), (vi 0), (vi 0), (vi 0)] [(0, (vi 1)), (1, (vi 1)), (2, v110), (3, (vi 1))] fun v114 =>
 (FF kg [v113, (vi 0), (vi 0), v114, (vi 0), (vi 30)] r111.2).bind fun r115 =>
 (af r115.1 0).bind fun v116 =>
 (af r115.1 1).bind fun v117 =>
 (af r115.1 2).bind fun v118 =>
 aZ [(vi 0), (.slice none 0 0), (vi 0), (vw 0)] r115.2 fun v119 H120 =>
 (cD 4 v119 v116 H120).bind fun H121 =>
 (mD .not v118).bind fun v122 =>
 fT v122 false  [.f 0] v119 H121 fun v123 =>
 (gB v122 false (aq .other .neq v123 (vi 0))).bind fun v124 =>
 (aX v122 (vb true) v124).bind fun v125 =>
 ax v125
 (some ((vb false), H121))
 ((aA 2 v99 H121).bind fun v126 =>
 gC [(0, 1), (1, 1), (2, 1), (3, 1)] [(vi 0), (vi 0), (vi 0), (vi 0)] [(0, (vi 3)), (1, (vi 1)), (2, v108), (3, (vi 5))] fun v127 =>
 (FF mu [v126, (vi 1), (vi 0), v127] H121).bind fun r128 =>
 aZ [(.pointer none), (.pointer none), (.pointer none)] r128.2 fun v129 H130 =>
 (cD 3 v129 r128.1 H130).bind fun H131 =>
 oI v108 v112 x4 (vb false) v99 v119 v117 v129 H131))) = some r) : FF i4 [x0, x1, x2, x3, x4] H = some r :=
 fo (t := ES x0 x1 x2 x3 x4 H) Tryz.func7 (by kernel_rfl) (Eq.trans (pt rfl 6 WK (by kernel_rfl)) h)
theorem tg {r : Value × AH} (h : (
 ad [.n, .f 0] x0 fun v0 =>
 (ar v0 H).bind fun v1 =>
 (FF bP [x0, x2] H).bind fun r2 =>
 bZ (ar v0 r2.2) (ar v0 H) <|
 (FF cX [x0, (vi 15), r2.1] r2.2).bind fun r3 =>
 bZ (ar v0 r3.2) (ar v0 H) <|
 (FF cU [v1, x1, r3.1] r3.2).bind fun r4 =>
 (aq .other .add x2 (vw 1)).bind fun v5 =>
 (aq .other .eql r4.1 v5).bind fun v6 =>
 some (v6, r4.2)) = some r) : FF dw [x0, x1, x2] H = some r :=
 fo Tryz.func22 (by kernel_rfl) h
theorem ru {r : Value × AH} (h : (
 ld [.n, .f 10] x0 H fun v0 =>
 mh v0 fun v1 =>
 some (v1, H)) = some r) : FF fI [x0] H = some r :=
 fo Tryz.func23 (by kernel_rfl) h
theorem wB {r : Value × AH} (h : (
 aZ [(vi 0), (vi 0), (vi 0)] H fun v0 H1 =>
 ad [.n, .f 0] x0 fun v2 =>
 (ar v2 H1).bind fun v3 =>
 (FF bP [x0, x2] H1).bind fun r4 =>
 bZ (ar v2 r4.2) (ar v2 H1) <|
 (FF cX [x0, (vi 16), r4.1] r4.2).bind fun r5 =>
 bZ (ar v2 r5.2) (ar v2 H1) <|
 (FF i5 [v3, x1, r5.1] r5.2).bind fun r6 =>
 ad [.n, .f 2] x0 fun v7 =>
 (ar v7 r6.2).bind fun v8 =>
 (FF bP [x0, x2] r6.2).bind fun r9 =>
 bZ (ar v7 r9.2) (ar v7 r6.2) <|
 ldN 3 [.i 3 r9.1] v8 r9.2 fun v10 =>
 (cD 3 v0 v10 r9.2).bind fun H11 =>
 (aA 3 v0 H11).bind fun v12 => some (v12, H11)) = some r) : FF iw [x0, x1, x2] H = some r :=
 fo Tryz.func24 (by kernel_rfl) h
end
section
variable (m i rp : Nat) (cs : List Pk) (μ : Mu)
theorem Bh (who : Int) (n : Nat) (hn : n < 18446744073709551615) (h0 : 1 ≤ cs.length ∧ cs.length < 1000) (hE : μ.N < 1099511627000) :
 Sp dw [vp rp, vi who, vu n] (cB m i rp cs * bA m μ) (fun _ : Unit => vb (decide (μ.V (15, (i : Int), ((n % cs.length : Nat) : Int)) = n + 1))) (fun _ => cB m i rp cs * bA m (μ.acc who 1 (15, (i : Int), ((n % cs.length : Nat) : Int)))) := by
 refine aM fun R H h => ?_;obtain ⟨cv, k0⟩ := bH (m := m) (i := i) (rp := rp) (cs := cs) (R := bA m μ * R) (H := H) h.to;refine bj (fun r => tg _ _ _ H) ?_;refine bD ac ?_;refine aY k0 rfl ?_;refine ag h (ra m i rp cs n h0) fun _ H1 h1 => ?_;obtain ⟨cv1, k1⟩ := bH h1;refine aG k1 k0 (by rfl) ?_;refine ag h1 (oA m i rp cs 15 ((n % cs.length : Nat) : Int)) fun _ H2 h2 => ?_;obtain ⟨cv2, k2⟩ := bH h2;refine aG k2 k0 (by rfl) ?_;refine ag h2 (vZ m μ who (15, (i : Int), ((n % cs.length : Nat) : Int)) (by omega)) fun _ H3 h3 => ?_;refine aa (eZ (b := 1) (by omega)) ?_
 by_cases hv : μ.V (15, (i : Int), ((n % cs.length : Nat) : Int)) = n + 1
 ·refine aa (bw (by omega)) ?_
  exact ap ⟨(), by rw [dI hv], h3.to⟩
 ·refine aa (aD (by omega)) ?_
  exact ap ⟨(), by rw [dQ hv], h3.to⟩
theorem Uy (who : Int) (n : Nat) (h0 : 1 ≤ cs.length ∧ cs.length < 1000) (hE : μ.N < 1099511627000) :
 Sp iw [vp rp, vi who, vu n] (cB m i rp cs * bA m μ) (fun _ : Unit => .agg (Pk.cells (cs[n % cs.length]'(Nat.mod_lt _ (by omega)))).toArray) (fun _ => cB m i rp cs * bA m (μ.acc who 5 (16, (i : Int), ((n % cs.length : Nat) : Int)))) := by
 have hlt : n % cs.length < cs.length := Nat.mod_lt _ (by omega);refine bp (wB _ _ _) fun R H h => ?_;refine bm h fun b H1 h1 => ?_;obtain ⟨cv, k1⟩ := bH (m := m) (i := i) (rp := rp) (cs := cs) (R := bA m μ * (blk b (.cells false [vi 0, vi 0, vi 0]) * R)) (H := H1) h1.to;refine bD ac ?_;refine aY k1 rfl ?_;refine ag h1 (ra m i rp cs n h0) fun _ H2 h2 => ?_;obtain ⟨cv2, k2⟩ := bH h2;refine aG k2 k1 (by rfl) ?_;refine ag h2 (oA m i rp cs 16 ((n % cs.length : Nat) : Int)) fun _ H3 h3 => ?_;obtain ⟨cv3, k3⟩ := bH h3;refine aG k3 k1 (by rfl) ?_;refine ag h3 ((Hf m μ who (16, (i : Int), ((n % cs.length : Nat) : Int)) (by omega)).imp fun _ R H h => i1 (N' := μ.N + 2) (by simp) h) fun _ H4 h4 => ?_;obtain ⟨cv4, k4⟩ := bH (m := m) (i := i) (rp := rp) (cs := cs) (R := bA m (μ.acc who 5 (16, (i : Int), ((n % cs.length : Nat) : Int))) * (blk b (.cells false [vi 0, vi 0, vi 0]) * R)) (H := H4) h4.to;refine bD ac ?_;refine aY k4 rfl ?_
 have again : ∀ {k : Value × AH → OV} {Q : Value → AH → Prop}, (∀ H5, ae (blk rp (.cells false [vp m, vi i, cv4]) * (ts 3 Pk.cells cv4 cs * (bA m (μ.acc who 5 (16, (i : Int), ((n % cs.length : Nat) : Int))) * (blk b (.cells false [vi 0, vi 0, vi 0]) * R)))) H5 → wp (k (vi ((n % cs.length : Nat) : Int), H5)) Q) → wp ((FF bP [vp rp, vu n] H4).bind k) Q := by
  intro k Q hk
  have cell4 : Sp bP [vp rp, vu n] (blk rp (.cells false [vp m, vi i, cv4]) * ts 3 Pk.cells cv4 cs) (fun _ : Unit => vi ((n % cs.length : Nat) : Int)) (fun _ => blk rp (.cells false [vp m, vi i, cv4]) * ts 3 Pk.cells cv4 cs) := by
   refine bp (jj _ _) fun R H h => ?_;refine ak h ac rfl ?_;refine tl (s := cv4) (l := cs) h ?_;refine aa (dH (by omega) (by omega)) ?_;rw [show ((cs.length : Nat) : Int).toNat = cs.length from sj _];refine aa (iO (by omega)) ?_;refine aa (ik (by omega)) ?_;exact ap ⟨(), rfl, h⟩
  exact ag k4 cell4 fun _ H5 h5 => hk H5 h5.to
 refine again fun H5 k5 => ?_;refine aG k5 k4 rfl ?_;refine Vi (s := cv4) (l := cs) k5 hlt ?_;refine eG k5 rfl rfl fun H6 k6 => ?_;refine aV k6 ?_;exact ap ⟨(), rfl, ((qo (cv := cv4) (m := m) (i := i) (rp := rp) (cs := cs) (R := bA m (μ.acc who 5 (16, (i : Int), ((n % cs.length : Nat) : Int))) * R) (H := H6) k6.to)).to⟩
end
theorem JV {p : Nat} {g : PIds} {σ : aL} (hl : g.rp.length = σ.obs.length) : Sp fI [vp p] (aC p g σ) (fun _ : Unit => vi σ.obs.length) (fun _ => aC p g σ) := by
 have hz : ((σ.obs.map fun x => x.1).zip g.rp).length = σ.obs.length := by simp [hl]
 refine bp (ru _) fun R H h => ?_;have h2 := h;unfold aC at h2;refine ak h2 ac rfl ?_;refine tl (enc := DQ) (l := (σ.obs.map fun x : Ob × List Pk => x.1).zip g.rp) h2 ?_;rw [hz];exact ap ⟨(), rfl, h⟩
def iA : Nat → aL → Tk → Int → Option (aL × Tk × Int)
 | 0, _, _, _ => none
 | n + 1, σ, t, now => if (bq σ t now).2.2 = true then some ((bq σ t now).1, (bq σ t now).2.1, now + 1) else iA n (bq σ t now).1 (bq σ t now).2.1 (now + 1)
theorem pi : ∀ (n : Nat) (σ : aL) (t : Tk) (now : Int) (k : Nat) (res : aL × Tk × Int), SI σ k → vk σ t → k + 3 * n < 300000 → iA n σ t now = some res → SI res.1 (k + 3 * n) ∧ res.1.c = σ.c ∧ now < res.2.2 ∧ res.2.2 ≤ now + n := by
 intro n
 induction n with
 | zero => intro σ t now k res _ _ _ h; cases h
 | succ n ih =>
  intro σ t now k res S T hk h;have K := oB now (by omega) S T;unfold iA at h
  by_cases hd : (bq σ t now).2.2 = true
  ·rw [if_pos hd] at h
   obtain rfl := hF h;exact ⟨K.si.mono (by omega), K.c, by show now < now + 1; omega, by show now + 1 ≤ _; omega⟩
  ·rw [if_neg hd] at h
   obtain ⟨h1, h2, h3, h4⟩ := ih _ _ _ _ _ K.si (K.ok (by simpa using hd)) (by omega) h;exact ⟨h1.mono (by omega), h2.trans K.c, by omega, by omega⟩
theorem Gc : ∀ (n m : Nat) (σ : aL) (t : Tk) (now : Int) (res : aL × Tk × Int), n ≤ m → iA n σ t now = some res → iA m σ t now = some res := by
 intro n
 induction n with
 | zero => intro m σ t now res _ h; cases h
 | succ n ih =>
  intro m σ t now res hm h;obtain ⟨m, rfl⟩ : ∃ m', m = m' + 1 := ⟨m - 1, by omega⟩;unfold iA at h ⊢
  by_cases hd : (bq σ t now).2.2 = true
  ·rw [if_pos hd] at h ⊢; exact h
  ·rw [if_neg hd] at h ⊢; exact ih m _ _ _ _ (by omega) h
abbrev upd (V : cE → Nat) (l : cE) (v : Nat) : cE → Nat := fun x => if x = l then v else V x
section
variable {V : cE → Nat} {l x : cE} {v : Nat}
theorem upd_ne (h : x ≠ l) : upd V l v x = V x := if_neg h
theorem jR : upd V l v l = v := if_pos rfl
theorem nN (h : V l = 0) (u : Nat) : upd (upd V l u) l 0 = V := by
 funext z
 show (if z = l then 0 else if z = l then u else V z) = V z
 by_cases e : z = l
 ·rw [if_pos e, e, h]
 ·rw [if_neg e, if_neg e]
end
theorem mL {μ : Mu} {who : Int} {l : cE} {was now : Nat} (h : μ.V l = was) : (μ.swp who l was now).V = upd μ.V l now := by
 show (μ.swap who l was now).V = _;unfold Mu.swap;rw [if_pos h]
def gj (n : Nat) (σ : aL) (t : Tk) (now : Int) (P : aL → Int → Prop) : Prop := ∃ res, iA n σ t now = some res ∧ P res.1 res.2.1.code
structure Sm (σ σ' : aL) : Prop where
 c : σ'.c = σ.c
 V : σ'.μ.V = σ.μ.V
 obs : σ'.obs = σ.obs
theorem Sm.rfl' {σ : aL} : Sm σ σ := ⟨rfl, rfl, rfl⟩
theorem Sm.trans {σ σ1 σ2 : aL} (a : Sm σ σ1) (b : Sm σ1 σ2) : Sm σ σ2 := ⟨b.c.trans a.c, b.V.trans a.V, b.obs.trans a.obs⟩
section
variable {n m : Nat} {σ σ1 : aL} {t t1 : Tk} {now : Int} {P P' : aL → Int → Prop}
theorem gj.step (h : bq σ t now = (σ1, t1, false)) (k : gj n σ1 t1 (now + 1) P) : gj (n + 1) σ t now P := by
 obtain ⟨res, h1, h2⟩ := k;refine ⟨res, ?_, h2⟩;unfold iA;rw [h, if_neg (by simp)];exact h1
theorem gj.last (h : bq σ t now = (σ1, t1, true)) (p : P σ1 t1.code) : gj (n + 1) σ t now P := by
 refine ⟨(σ1, t1, now + 1), ?_, p⟩;unfold iA;rw [h, if_pos rfl]
theorem gj.mono (h : n ≤ m) (k : gj n σ t now P) : gj m σ t now P := by
 obtain ⟨res, h1, h2⟩ := k;exact ⟨res, Gc _ _ _ _ _ _ h h1, h2⟩
theorem gj.congr (h : bq σ t now = bq σ t1 now) (k : gj n σ t1 now P) : gj n σ t now P := by
 obtain ⟨res, h1, h2⟩ := k
 cases n with
 | zero => cases h1
 | succ n =>
  refine ⟨res, ?_, h2⟩;unfold iA at h1 ⊢;rw [h];exact h1
end
theorem bY {σ : aL} {t : Tk} {now : Int} (hx : t.x.op = 3) : bq σ t now = ah σ t now := if_pos hx
theorem dN {σ : aL} {t : Tk} {now : Int} (hx : ¬ t.x.op = 3) : bq σ t now = aw σ t now := if_neg hx
section
variable (who s : Int) (x : Cl) (i o : Nat) (f : Bool) (w q : Nat) (mk : Int) (tp : Nat) (cd : Int) (σ : aL) (now : Int) (hx : x.op = 3)
include hx
theorem e0 (h : dM x = none) : bq σ ⟨who, x, s, 0, i, o, f, w, q, mk, tp, cd⟩ now = bq σ ⟨who, x, s, 2, i, o, f, w, q, mk, tp, cd⟩ now := by
 rw [bY hx, bY hx]; simp only [ah, h]; rfl
theorem e2h (h : fe (σ.μ.V (10, s, (i : Int))) x.flow = true) : bq σ ⟨who, x, s, 2, i, o, f, w, q, mk, tp, cd⟩ now = (σ.mem (σ.μ.acc who 1 (10, s, (i : Int))), ⟨who, x, s, 6, i + 1, σ.μ.V (10, s, (i : Int)) % 4294967296, true, w, q, mk, tp, cd⟩, false) := by
 rw [bY hx]; simp only [ah, aP, h]; rfl
theorem e3 (h : σ.μ.V (8, s, 0) = 0) : bq σ ⟨who, x, s, 3, i, o, f, w, q, mk, tp, cd⟩ now = (σ.mem (σ.μ.swp who (8, s, 0) 0 1), ⟨who, x, s, 4, 0, o, f, w, q, mk, tp, cd⟩, false) := by
 rw [bY hx]; simp only [ah]; rw [if_pos h]
theorem e4m (h : fe (σ.μ.V (10, s, (i : Int))) x.flow = false) (hl : ((i + 1 : Nat) : Int) < σ.c.sl) : bq σ ⟨who, x, s, 4, i, o, f, w, q, mk, tp, cd⟩ now = (σ.mem (σ.μ.acc who 1 (10, s, (i : Int))), ⟨who, x, s, 4, i + 1, o, false, w, q, mk, tp, cd⟩, false) := by
 have e : bQ σ ⟨who, x, s, 4, i + 1, o, false, w, q, mk, tp, cd⟩ = false := dQ (by show ¬ σ.c.sl ≤ ((i + 1 : Nat) : Int); omega);rw [bY hx]; simp only [ah, aP, h];show (if bQ σ ⟨who, x, s, 4, i + 1, o, false, w, q, mk, tp, cd⟩ = true then _ else (aS σ _, (⟨who, x, s, 4, i + 1, o, false, w, q, mk, tp, cd⟩ : Tk), false)) = _;rw [e]; rfl
theorem e4l (h : fe (σ.μ.V (10, s, (i : Int))) x.flow = false) (hl : σ.c.sl ≤ ((i + 1 : Nat) : Int)) : bq σ ⟨who, x, s, 4, i, o, f, w, q, mk, tp, cd⟩ now = ((σ.mem (σ.μ.acc who 1 (10, s, (i : Int)))).note now who 5, ⟨who, x, s, 5, i + 1, o, false, w, q, mk, tp, 5⟩, false) := by
 have e : bQ σ ⟨who, x, s, 4, i + 1, o, false, w, q, mk, tp, cd⟩ = true := dI hl;rw [bY hx]; simp only [ah, aP, h];show (if bQ σ ⟨who, x, s, 4, i + 1, o, false, w, q, mk, tp, cd⟩ = true then ((aS σ _).note now who 5, (⟨who, x, s, 5, i + 1, o, false, w, q, mk, tp, 5⟩ : Tk), false) else _) = _;rw [e]; rfl
theorem e5 : bq σ ⟨who, x, s, 5, i, o, false, w, q, mk, tp, cd⟩ now = (σ.mem ((σ.μ.acc who 2 (8, s, 0)).put (8, s, 0) 0), ⟨who, x, s, 6, i, o, false, w, q, mk, tp, cd⟩, true) := by
 rw [bY hx]; simp only [ah]; rfl
theorem e6 : bq σ ⟨who, x, s, 6, i, o, f, w, q, mk, tp, cd⟩ now = (σ.mem (σ.μ.acc who 5 (13, (o : Int), 0)), ⟨who, x, s, 7, i, o, f, w, q, mk, tp, cd⟩, false) := by
 rw [bY hx]; simp only [ah]
theorem e7 (h : aR (σ.μ.V (11, (o : Int), 0)) ≠ 2) : bq σ ⟨who, x, s, 7, i, o, f, w, q, mk, tp, cd⟩ now = (σ.mem (σ.μ.acc who 1 (11, (o : Int), 0)), ⟨who, x, s, 8, i, o, f, σ.μ.V (11, (o : Int), 0), q, mk, tp, cd⟩, false) := by
 rw [bY hx]; simp only [ah]; rw [if_neg h]
theorem e8f (h : ie w (σ.μ.V (12, (o : Int), 0)) (au σ o).length = true) : bq σ ⟨who, x, s, 8, i, o, f, w, q, mk, tp, cd⟩ now = (σ.mem (σ.μ.acc who 1 (12, (o : Int), 0)), ⟨who, x, s, 15, i, o, f, w, q, mk, tp, cd⟩, false) := by
 have h' : jw σ ⟨who, x, s, 8, i, o, f, w, q, mk, tp, cd⟩ = true := h;rw [bY hx]; simp only [ah]; rw [if_pos h']
theorem e8a (h : ie w (σ.μ.V (12, (o : Int), 0)) (au σ o).length = false) (h1 : aR w = 1) : bq σ ⟨who, x, s, 8, i, o, f, w, q, mk, tp, cd⟩ now = (σ.mem (σ.μ.acc who 1 (12, (o : Int), 0)), ⟨who, x, s, 9, i, o, f, w, q, mk, tp, cd⟩, false) := by
 have h' : jw σ ⟨who, x, s, 8, i, o, f, w, q, mk, tp, cd⟩ = false := h;rw [bY hx]; simp only [ah]; rw [if_neg (by rw [h']; simp), if_pos h1]
theorem e8r (h : ie w (σ.μ.V (12, (o : Int), 0)) (au σ o).length = false) (h1 : aR w ≠ 1) : bq σ ⟨who, x, s, 8, i, o, f, w, q, mk, tp, cd⟩ now = (σ.mem (σ.μ.acc who 1 (12, (o : Int), 0)), ⟨who, x, s, 12, i, o, f, w, q, mk, tp, cd⟩, false) := by
 have h' : jw σ ⟨who, x, s, 8, i, o, f, w, q, mk, tp, cd⟩ = false := h;rw [bY hx]; simp only [ah]; rw [if_neg (by rw [h']; simp), if_neg h1]
omit hx in
theorem tu {μ : Mu} {v : Nat} {how : Nat} (hn : aQ w how = some v) (hw : μ.V (11, (o : Int), 0) = w) : dY μ o w (aQ w how) = true := by
 rw [hn]; show (true && decide (μ.V (11, (o : Int), 0) = w)) = true; rw [dI hw]; rfl
theorem e9 {v : Nat} (hn : aQ w 0 = some v) (hw : σ.μ.V (11, (o : Int), 0) = w) : bq σ ⟨who, x, s, 9, i, o, f, w, q, mk, tp, cd⟩ now = ((σ.mem (σ.μ.swp who (11, (o : Int), 0) w v)).note now who 0, ⟨who, x, s, 10, i, o, f, w, q, mk, tp, 0⟩, false) := by
 rw [bY hx]; simp only [ah]; rw [if_pos (tu o w hn hw), hn]
theorem e10 : bq σ ⟨who, x, s, 10, i, o, f, w, q, mk, tp, cd⟩ now = (nz σ ⟨who, x, s, 10, i, o, f, w, q, mk, tp, cd⟩, ⟨who, x, s, 11, i, o, f, w, q, mk, tp, cd⟩, false) := by
 rw [bY hx]; simp only [ah]
theorem e11 : bq σ ⟨who, x, s, 11, i, o, f, w, q, mk, tp, cd⟩ now = (qq σ ⟨who, x, s, 11, i, o, f, w, q, mk, tp, cd⟩, ⟨who, x, s, 11, i, o, f, w, q, mk, tp, cd⟩, true) := by
 rw [bY hx]; simp only [ah]
theorem e12 : bq σ ⟨who, x, s, 12, i, o, f, w, q, mk, tp, cd⟩ now = (σ.mem (σ.μ.cnt who (3, 0, 0) 4294967296), ⟨who, x, s, 13, i, o, f, w, q, mk, tp, cd⟩, false) := by
 rw [bY hx]; simp only [ah]
theorem e13 {v : Nat} (hn : aQ w 0 = some v) (hw : σ.μ.V (11, (o : Int), 0) = w) : bq σ ⟨who, x, s, 13, i, o, f, w, q, mk, tp, cd⟩ now = ((σ.mem (σ.μ.swp who (11, (o : Int), 0) w v)).note now who 0, ⟨who, x, s, 14, i, o, f, w, q, mk, tp, 0⟩, false) := by
 rw [bY hx]; simp only [ah]; rw [if_pos (tu o w hn hw), hn]
theorem e14 : bq σ ⟨who, x, s, 14, i, o, f, w, q, mk, tp, cd⟩ now = (nz σ ⟨who, x, s, 14, i, o, f, w, q, mk, tp, cd⟩, ⟨who, x, s, 21, i, o, f, w, q, mk, tp, cd⟩, false) := by
 rw [bY hx]; simp only [ah]
theorem e15 (h : ¬ σ.μ.V (2, 0, 0) % 2 = 1) : bq σ ⟨who, x, s, 15, i, o, f, w, q, mk, tp, cd⟩ now = (σ.mem (σ.μ.acc who 1 (2, 0, 0)), ⟨who, x, s, 16, i, o, f, w, σ.μ.V (2, 0, 0), mk, tp, cd⟩, false) := by
 rw [bY hx]; simp only [ah]; rw [if_neg h]
theorem e16 (h : aR (σ.μ.V (11, (o : Int), 0)) ≠ 2) : bq σ ⟨who, x, s, 16, i, o, f, w, q, mk, tp, cd⟩ now = (σ.mem (σ.μ.acc who 1 (11, (o : Int), 0)), ⟨who, x, s, 17, i, o, f, σ.μ.V (11, (o : Int), 0), q, mk, tp, cd⟩, false) := by
 rw [bY hx]; simp only [ah]; rw [if_neg h]
theorem e17 (h : ie w (σ.μ.V (12, (o : Int), 0)) (au σ o).length = true) : bq σ ⟨who, x, s, 17, i, o, f, w, q, mk, tp, cd⟩ now = (σ.mem (σ.μ.acc who 1 (12, (o : Int), 0)), ⟨who, x, s, 18, i, o, f, w, q, now, tp, cd⟩, false) := by
 have h' : jw σ ⟨who, x, s, 17, i, o, f, w, q, mk, tp, cd⟩ = true := h;rw [bY hx]; simp only [ah]; rw [if_pos h']
theorem e18 (h : σ.μ.V (2, 0, 0) = q) : bq σ ⟨who, x, s, 18, i, o, f, w, q, mk, tp, cd⟩ now = ((σ.mem (σ.μ.acc who 1 (2, 0, 0))).note mk who 9, ⟨who, x, s, 18, i, o, f, w, q, mk, tp, 9⟩, true) := by
 rw [bY hx]; simp only [ah]; rw [if_pos h]
theorem e21 : bq σ ⟨who, x, s, 21, i, o, f, w, q, mk, tp, cd⟩ now = (qq σ ⟨who, x, s, 21, i, o, f, w, q, mk, tp, cd⟩, ⟨who, x, s, 22, i, o, f, w, q, mk, tp, cd⟩, false) := by
 rw [bY hx]; simp only [ah]
theorem e22 : bq σ ⟨who, x, s, 22, i, o, f, w, q, mk, tp, cd⟩ now = (σ.mem (σ.μ.acc who 1 (9, s, 0)), ⟨who, x, s, 23, i, o, f, w, q, mk, σ.μ.V (9, s, 0), cd⟩, false) := by
 rw [bY hx]; simp only [ah]
theorem e23 : bq σ ⟨who, x, s, 23, i, o, f, w, q, mk, tp, cd⟩ now = ({ σ with μ := σ.μ.acc who 6 (14, (o : Int), 0), nx := fun k => if k = (o : Int) then some tp else σ.nx k }, ⟨who, x, s, 24, i, o, f, w, q, mk, tp, cd⟩, false) := by
 rw [bY hx]; simp only [ah]
theorem e24 (h : σ.μ.V (9, s, 0) = tp) : bq σ ⟨who, x, s, 24, i, o, f, w, q, mk, tp, cd⟩ now = (σ.mem (σ.μ.swp who (9, s, 0) tp (o + 1)), ⟨who, x, s, 25, i, o, f, w, q, mk, tp, cd⟩, false) := by
 rw [bY hx]; simp only [ah]; rw [if_pos h]
theorem e25 : bq σ ⟨who, x, s, 25, i, o, f, w, q, mk, tp, cd⟩ now = (σ.mem (σ.μ.cnt who (3, 0, 0) 1), ⟨who, x, s, 25, i, o, f, w, q, mk, tp, cd⟩, true) := by
 rw [bY hx]; simp only [ah]
end
abbrev oG (σ : aL) (o w : Nat) : Nat := aI w % (au σ o).length
structure Iv (σ σ' : aL) (o : Nat) (x : Cl) : Prop where
 c : σ'.c = σ.c
 w : σ'.μ.V (11, (o : Int), 0) = aI (σ.μ.V (11, (o : Int), 0)) + 1 + 2305843009213693952
 sh : σ'.μ.V (15, (o : Int), ((oG σ o (σ.μ.V (11, (o : Int), 0)) : Nat) : Int)) = aI (σ.μ.V (11, (o : Int), 0)) + 1
 V : ∀ l : cE, l ≠ (11, (o : Int), 0) → l.1 ≠ 3 → l.1 ≠ 9 → l ≠ (15, (o : Int), ((oG σ o (σ.μ.V (11, (o : Int), 0)) : Nat) : Int)) → σ'.μ.V l = σ.μ.V l
 obs : σ'.obs = σ.obs.modify o fun p => (p.1, p.2.set (oG σ o (σ.μ.V (11, (o : Int), 0))) ⟨x.flow, x.a, x.b⟩)
theorem CW (σ : aL) (t : Tk) (o : Nat) : (au (nz σ t) o).length = (au σ o).length := by
 show ((((σ.obs.modify t.obj _)[o]?).map _).getD []).length = (((σ.obs[o]?).map _).getD []).length;rw [List.getElem?_modify]
 cases σ.obs[o]? with
 | none => rfl
 | some q =>
  show (if t.obj = o then _ else q).2.length = q.2.length
  split
  ·exact JE
  ·rfl
theorem UL (σ : aL) (t : Tk) : (qq σ t).μ.V = upd σ.μ.V (15, (t.obj : Int), ((aI t.w % (au σ t.obj).length : Nat) : Int)) (aI t.w + 1) := rfl
theorem zw (μ : Mu) (who : Int) (l : cE) (n : Nat) : (μ.cnt who l n).V = upd μ.V l ((μ.V l + n) % 18446744073709551616) := rfl
section
variable {who s : Int} {x : Cl} {σ : aL} {P : aL → Int → Prop}
theorem V6 (hx : x.op = 3) (i o : Nat) (f : Bool) (w q : Nat) (mk : Int) (tp : Nat) (cd now : Int) (k : ∀ σ', σ'.c = σ.c → (∀ l : cE, l.1 ≠ 3 → l.1 ≠ 9 → σ'.μ.V l = σ.μ.V l) → σ'.obs = σ.obs → P σ' cd) :
 gj 4 σ ⟨who, x, s, 22, i, o, f, w, q, mk, tp, cd⟩ now P := by
 refine .step (e22 _ _ _ _ _ _ _ _ _ _ _ _ _ hx) ?_;refine .step (e23 _ _ _ _ _ _ _ _ _ _ _ _ _ hx) ?_;refine .step (e24 _ _ _ _ _ _ _ _ _ _ _ _ _ hx rfl) ?_;refine .last (e25 _ _ _ _ _ _ _ _ _ _ _ _ _ hx) (k _ rfl (fun l a2 a3 => ?_) rfl);refine Eq.trans (congrFun (zw _ _ _ _) _) (Eq.trans (upd_ne (fun e => a2 (by rw [e]))) ?_);refine Eq.trans (congrFun (mL (μ := (σ.μ.acc who 1 (9, s, 0)).acc who 6 (14, (o : Int), 0)) (l := (9, s, 0)) rfl) _) ?_;exact upd_ne (l := (9, s, 0)) (x := l) (fun e => a3 (by rw [e]))
theorem VZ (hx : x.op = 3) (i o : Nat) (f : Bool) (w q : Nat) (mk : Int) (tp : Nat) (cd now : Int) (k : ∀ σ', σ'.c = σ.c → σ'.μ.V = upd σ.μ.V (15, (o : Int), ((oG σ o w : Nat) : Int)) (aI w + 1) → σ'.obs = (σ.obs.modify o fun p => (p.1, p.2.set (oG σ o w) ⟨x.flow, x.a, x.b⟩)) → P σ' cd) :
 gj 2 σ ⟨who, x, s, 10, i, o, f, w, q, mk, tp, cd⟩ now P := by
 refine .step (e10 _ _ _ _ _ _ _ _ _ _ _ _ _ hx) ?_;refine .last (e11 _ _ _ _ _ _ _ _ _ _ _ _ _ hx) (k _ rfl ?_ rfl);refine Eq.trans (UL _ _) ?_;show upd σ.μ.V (15, (o : Int), ((aI w % (au (nz σ _) o).length : Nat) : Int)) (aI w + 1) = _;rw [CW]
theorem V0 (hx : x.op = 3) (i o : Nat) (f : Bool) (w q : Nat) (mk : Int) (tp : Nat) (cd now : Int) (k : ∀ σ', σ'.c = σ.c → (∀ l : cE, l.1 ≠ 3 → l.1 ≠ 9 → σ'.μ.V l = upd σ.μ.V (15, (o : Int), ((oG σ o w : Nat) : Int)) (aI w + 1) l) → σ'.obs = (σ.obs.modify o fun p => (p.1, p.2.set (oG σ o w) ⟨x.flow, x.a, x.b⟩)) → P σ' cd) :
 gj 6 σ ⟨who, x, s, 14, i, o, f, w, q, mk, tp, cd⟩ now P := by
 refine .step (e14 _ _ _ _ _ _ _ _ _ _ _ _ _ hx) ?_;refine .step (e21 _ _ _ _ _ _ _ _ _ _ _ _ _ hx) ?_;refine V6 hx _ _ _ _ _ _ _ _ _ fun σ' c' V' O' => k σ' c' (fun l a2 a3 => ?_) O';refine Eq.trans (V' l a2 a3) (Eq.trans (congrFun (UL _ _) l) ?_);show upd σ.μ.V (15, (o : Int), ((aI w % (au (nz σ _) o).length : Nat) : Int)) (aI w + 1) l = _;rw [CW]
theorem I4 (hx : x.op = 3) (i o : Nat) (f : Bool) (w q : Nat) (mk : Int) (tp : Nat) (cd now : Int) (hr : cQ (σ.μ.V (11, (o : Int), 0)) = true) (h2 : aR (σ.μ.V (11, (o : Int), 0)) ≠ 2) (hc : aI (σ.μ.V (11, (o : Int), 0)) < 2305843009213693951) (hq : σ.μ.V (2, 0, 0) = 0)
 (hf : ie (σ.μ.V (11, (o : Int), 0)) (σ.μ.V (12, (o : Int), 0)) (au σ o).length = true → ∀ σ', Sm σ σ' → P σ' 9)
 (hn : ie (σ.μ.V (11, (o : Int), 0)) (σ.μ.V (12, (o : Int), 0)) (au σ o).length = false → ∀ σ', Iv σ σ' o x → P σ' 0) :
 gj 11 σ ⟨who, x, s, 6, i, o, f, w, q, mk, tp, cd⟩ now P := by
 refine .step (e6 _ _ _ _ _ _ _ _ _ _ _ _ _ hx) ?_;refine .step (e7 _ _ _ _ _ _ _ _ _ _ _ _ _ hx h2) ?_;obtain ⟨W, hW⟩ : ∃ W, W = σ.μ.V (11, (o : Int), 0) := ⟨_, rfl⟩;have hv : aQ W 0 = some (aI W + 1 + 2305843009213693952) := U4 ⟨by rw [hW]; exact hr, by rw [hW]; exact h2, by rw [hW]; exact hc⟩
 cases hfu : ie (σ.μ.V (11, (o : Int), 0)) (σ.μ.V (12, (o : Int), 0)) (au σ o).length with
 | true =>
  refine .step (e8f _ _ _ _ _ _ _ _ _ _ _ _ _ hx hfu) ?_;refine .step (e15 _ _ _ _ _ _ _ _ _ _ _ _ _ hx (by show ¬ σ.μ.V (2, 0, 0) % 2 = 1; rw [hq]; omega)) ?_;refine .step (e16 _ _ _ _ _ _ _ _ _ _ _ _ _ hx h2) ?_;refine .step (e17 _ _ _ _ _ _ _ _ _ _ _ _ _ hx hfu) ?_;exact .last (e18 _ _ _ _ _ _ _ _ _ _ _ _ _ hx rfl) (hf hfu _ ⟨rfl, rfl, rfl⟩)
 | false =>
  by_cases h1 : aR (σ.μ.V (11, (o : Int), 0)) = 1
  ·refine .step (e8a _ _ _ _ _ _ _ _ _ _ _ _ _ hx hfu h1) ?_
   rw [← hW];refine .step (e9 _ _ _ _ _ _ _ _ _ _ _ _ _ hx hv hW.symm) ?_;have sv := mL (μ := ((σ.μ.acc who 5 (13, (o : Int), 0)).acc who 1 (11, (o : Int), 0)).acc who 1 (12, (o : Int), 0)) (who := who) (l := (11, (o : Int), 0)) (was := W) (now := aI W + 1 + 2305843009213693952) hW.symm;refine .mono (n := 2) (by omega) (VZ hx _ _ _ _ _ _ _ _ _ fun σ' c' V' O' => hn hfu σ' ⟨c', ?_, ?_, fun l a1 a2 a3 a4 => ?_, ?_⟩)
   ·refine Eq.trans (congrFun V' _) (Eq.trans (upd_ne ?_) ?_)
    ·simp
    refine Eq.trans (congrFun sv _) ?_;rw [jR, hW]
   ·subst hW; exact Eq.trans (congrFun V' _) jR
   ·subst hW
    refine Eq.trans (congrFun V' _) (Eq.trans (upd_ne a4) ?_);refine Eq.trans (congrFun sv _) ?_;exact upd_ne (l := (11, (o : Int), 0)) (x := l) a1
   ·subst hW; exact O'
  ·refine .step (e8r _ _ _ _ _ _ _ _ _ _ _ _ _ hx hfu h1) ?_
   rw [← hW];refine .step (e12 _ _ _ _ _ _ _ _ _ _ _ _ _ hx) ?_;refine .step (e13 _ _ _ _ _ _ _ _ _ _ _ _ _ hx hv (Eq.trans (congrFun (zw _ _ _ _) _) (Eq.trans (upd_ne (by simp)) hW.symm))) ?_;have sv := mL (μ := (((σ.μ.acc who 5 (13, (o : Int), 0)).acc who 1 (11, (o : Int), 0)).acc who 1 (12, (o : Int), 0)).cnt who (3, 0, 0) 4294967296) (who := who) (l := (11, (o : Int), 0)) (was := W) (now := aI W + 1 + 2305843009213693952) (Eq.trans (congrFun (zw _ _ _ _) _) (Eq.trans (upd_ne (by simp)) hW.symm));refine V0 hx _ _ _ _ _ _ _ _ _ fun σ' c' V' O' => hn hfu σ' ⟨c', ?_, ?_, fun l a1 a2 a3 a4 => ?_, ?_⟩
   ·refine Eq.trans (V' (11, (o : Int), 0) (by simp) (by simp)) (Eq.trans (upd_ne ?_) ?_)
    ·simp
    refine Eq.trans (congrFun sv _) ?_;rw [jR, hW]
   ·subst hW; exact Eq.trans (V' _ (by simp) (by simp)) jR
   ·subst hW
    refine Eq.trans (V' l a2 a3) (Eq.trans (upd_ne a4) ?_);refine Eq.trans (congrFun sv _) (Eq.trans (upd_ne a1) ?_);exact Eq.trans (congrFun (zw _ _ _ _) _) (upd_ne (fun e => a2 (by rw [e])))
   ·subst hW; exact O'
theorem Iv.of_sm {σ1 σ' : aL} {o : Nat} (a : Sm σ σ1) (h : Iv σ1 σ' o x) : Iv σ σ' o x := by
 obtain ⟨c, V, obs⟩ := a
 have e : ∀ w, oG σ1 o w = oG σ o w := fun w => by unfold oG au; rw [obs]
 have hs := h.sh;have hv := h.V;have ho := h.obs;rw [e, V] at hs hv ho;exact ⟨h.c.trans c, by rw [h.w, V], hs, fun l a1 a2 a3 a4 => by rw [hv l a1 a2 a3 a4], by rw [ho, obs]⟩
theorem GZ (p : Nat → Bool) : ∀ N : Nat, (∀ i, i < N → p i = false) ∨ ∃ j, j < N ∧ p j = true ∧ ∀ i, i < j → p i = false := by
 intro N
 induction N with
 | zero => exact .inl fun i h => by omega
 | succ N ih =>
  rcases ih with h | ⟨j, h1, h2, h3⟩
  ·cases e : p N with
   | true => exact .inr ⟨N, by omega, e, h⟩
   | false =>
    refine .inl fun i hi => ?_
    by_cases hN : i = N
    ·rw [hN]; exact e
    ·exact h i (by omega)
  ·exact .inr ⟨j, by omega, h2, h3⟩
abbrev f8 (σ : aL) (s flow : Int) (i : Nat) : Bool := fe (σ.μ.V (10, s, (i : Int))) flow
theorem UB (hx : x.op = 3) (n j : Nat) (w q : Nat) (mk : Int) (tp : Nat) (cd : Int) (o : Nat) : ∀ (d i : Nat) (f : Bool) (σ : aL) (now : Int), i + d = j → (j : Int) < σ.c.sl → (∀ i', i ≤ i' → i' < j → f8 σ s x.flow i' = false) →
 (∀ σ' now' f', Sm σ σ' → gj n σ' ⟨who, x, s, 4, j, o, f', w, q, mk, tp, cd⟩ now' P) → gj (n + d) σ ⟨who, x, s, 4, i, o, f, w, q, mk, tp, cd⟩ now P := by
 intro d
 induction d with
 | zero =>
  intro i f σ now hi hj hm k
  obtain rfl : i = j := by omega
  exact k σ now f Sm.rfl'
 | succ d ih =>
  intro i f σ now hi hj hm k;refine gj.step (n := n + d) (e4m _ _ _ _ _ _ _ _ _ _ _ _ _ hx (hm i (by omega) (by omega)) (by omega)) ?_;exact ih (i + 1) false _ _ (by omega) hj (fun i' h1 h2 => hm i' (by omega) h2) fun σ' now' f' a => k σ' now' f' (Sm.trans (σ1 := σ.mem (σ.μ.acc who 1 (10, s, (i : Int)))) ⟨rfl, rfl, rfl⟩ a)
abbrev dF (σ : aL) (s : Int) (j : Nat) : Nat := σ.μ.V (10, s, (j : Int)) % 4294967296
end
section
variable (who s : Int) (x : Cl) (i o : Nat) (f : Bool) (w q : Nat) (mk : Int) (tp : Nat) (cd : Int) (σ : aL) (now : Int) (hx : ¬ x.op = 3)
include hx
theorem r0e {e : Int} (h : hM x = some e) : bq σ ⟨who, x, s, 0, i, o, f, w, q, mk, tp, cd⟩ now = (σ.note now who e, ⟨who, x, s, 0, i, o, f, w, q, mk, tp, e⟩, true) := by
 rw [dN hx]; simp only [aw, h]
theorem r0 (h : hM x = none) (h0 : σ.μ.V (8, s, 0) = 0) : bq σ ⟨who, x, s, 0, i, o, f, w, q, mk, tp, cd⟩ now = (σ.mem (σ.μ.swp who (8, s, 0) 0 1), ⟨who, x, s, 3, i, o, f, w, q, mk, tp, cd⟩, false) := by
 rw [dN hx]; simp only [aw, h, eN]; rw [if_pos h0]
def AC (σ : aL) (s : Int) (i : Nat) (mk : Int) : Int := if σ.μ.V (10, s, (i : Int)) = 0 ∧ mk < 0 then (i : Int) else mk
theorem r3m (h : fe (σ.μ.V (10, s, (i : Int))) x.flow = false) (hl : ((i + 1 : Nat) : Int) < σ.c.sl) : bq σ ⟨who, x, s, 3, i, o, f, w, q, mk, tp, cd⟩ now = (σ.mem (σ.μ.acc who 1 (10, s, (i : Int))), ⟨who, x, s, 3, i + 1, o, false, w, q, AC σ s i mk, tp, cd⟩, false) := by
 have e : bQ σ ⟨who, x, s, 3, i + 1, o, false, w, q, AC σ s i mk, tp, cd⟩ = false := dQ (by show ¬ σ.c.sl ≤ ((i + 1 : Nat) : Int); omega);rw [dN hx]; simp only [aw, aB, h];show (if bQ σ ⟨who, x, s, 3, i + 1, o, false, w, q, AC σ s i mk, tp, cd⟩ = true then _ else (aS σ _, (⟨who, x, s, 3, i + 1, o, false, w, q, AC σ s i mk, tp, cd⟩ : Tk), false)) = _;rw [e]; rfl
theorem r3h (h : fe (σ.μ.V (10, s, (i : Int))) x.flow = true) (ho : x.op = 1) : bq σ ⟨who, x, s, 3, i, o, f, w, q, mk, tp, cd⟩ now = ((σ.mem (σ.μ.acc who 1 (10, s, (i : Int)))).note now who 6, ⟨who, x, s, 6, i, σ.μ.V (10, s, (i : Int)) % 4294967296, true, w, q, AC σ s i mk, tp, 6⟩, false) := by
 rw [dN hx]; simp only [aw, aB, h];rw [if_pos ho]; rfl
theorem c3h (h : fe (σ.μ.V (10, s, (i : Int))) x.flow = true) (ho : ¬ x.op = 1) : bq σ ⟨who, x, s, 3, i, o, f, w, q, mk, tp, cd⟩ now = (σ.mem (σ.μ.acc who 1 (10, s, (i : Int))), ⟨who, x, s, 4, i, σ.μ.V (10, s, (i : Int)) % 4294967296, true, w, q, AC σ s i mk, tp, cd⟩, false) := by
 rw [dN hx]; simp only [aw, aB, h];rw [if_neg ho]; rfl
theorem r3n (h : fe (σ.μ.V (10, s, (i : Int))) x.flow = false) (hl : σ.c.sl ≤ ((i + 1 : Nat) : Int)) (ho : x.op = 1) (hk : AC σ s i mk < 0) : bq σ ⟨who, x, s, 3, i, o, f, w, q, mk, tp, cd⟩ now = ((σ.mem (σ.μ.acc who 1 (10, s, (i : Int)))).note now who 7, ⟨who, x, s, 6, i + 1, o, false, w, q, AC σ s i mk, tp, 7⟩, false) := by
 have e : bQ σ ⟨who, x, s, 3, i + 1, o, false, w, q, AC σ s i mk, tp, cd⟩ = true := dI hl;rw [dN hx]; simp only [aw, aB, h];show (if bQ σ ⟨who, x, s, 3, i + 1, o, false, w, q, AC σ s i mk, tp, cd⟩ = true then (if x.op = 1 then (if AC σ s i mk < 0 then _ else _) else _) else _) = _;rw [if_pos e, if_pos ho, if_pos hk]; rfl
theorem r3f (h : fe (σ.μ.V (10, s, (i : Int))) x.flow = false) (hl : σ.c.sl ≤ ((i + 1 : Nat) : Int)) (ho : x.op = 1) (hk : ¬ AC σ s i mk < 0) : bq σ ⟨who, x, s, 3, i, o, f, w, q, mk, tp, cd⟩ now = (σ.mem (σ.μ.acc who 1 (10, s, (i : Int))), ⟨who, x, s, 4, i + 1, o, false, w, q, AC σ s i mk, tp, cd⟩, false) := by
 have e : bQ σ ⟨who, x, s, 3, i + 1, o, false, w, q, AC σ s i mk, tp, cd⟩ = true := dI hl;rw [dN hx]; simp only [aw, aB, h];show (if bQ σ ⟨who, x, s, 3, i + 1, o, false, w, q, AC σ s i mk, tp, cd⟩ = true then (if x.op = 1 then (if AC σ s i mk < 0 then _ else _) else _) else _) = _;rw [if_pos e, if_pos ho, if_neg hk]; rfl
theorem c3n (h : fe (σ.μ.V (10, s, (i : Int))) x.flow = false) (hl : σ.c.sl ≤ ((i + 1 : Nat) : Int)) (ho : ¬ x.op = 1) : bq σ ⟨who, x, s, 3, i, o, f, w, q, mk, tp, cd⟩ now = ((σ.mem (σ.μ.acc who 1 (10, s, (i : Int)))).note now who 5, ⟨who, x, s, 10, i + 1, o, false, w, q, AC σ s i mk, tp, 5⟩, false) := by
 have e : bQ σ ⟨who, x, s, 3, i + 1, o, false, w, q, AC σ s i mk, tp, cd⟩ = true := dI hl;rw [dN hx]; simp only [aw, aB, h];show (if bQ σ ⟨who, x, s, 3, i + 1, o, false, w, q, AC σ s i mk, tp, cd⟩ = true then (if x.op = 1 then _ else _) else _) = _;rw [if_pos e, if_neg ho]; rfl
theorem r4 (ho : x.op = 1) : bq σ ⟨who, x, s, 4, i, o, f, w, q, mk, tp, cd⟩ now = (σ.make who ⟨x.flow, x.b, max (σ.c.un / x.a.toNat) 1⟩, ⟨who, x, s, 5, i, σ.obs.length, f, w, q, mk, tp, cd⟩, false) := by
 rw [dN hx]; simp only [aw]; rw [if_pos ho]; simp only [uS]
theorem r5 (ho : x.op = 1) : bq σ ⟨who, x, s, 5, i, o, f, w, q, mk, tp, cd⟩ now = ((σ.mem ((σ.μ.acc who 2 (10, s, mk)).put (10, s, mk) (cq x.flow o))).note now who 0, ⟨who, x, s, 6, i, o, f, w, q, mk, tp, 0⟩, false) := by
 rw [dN hx]; simp only [aw]; rw [if_pos ho]; simp only [uS]
theorem r6 (ho : x.op = 1) : bq σ ⟨who, x, s, 6, i, o, f, w, q, mk, tp, cd⟩ now = (σ.mem ((σ.μ.acc who 2 (8, s, 0)).put (8, s, 0) 0), ⟨who, x, s, 6, i, o, f, w, q, mk, tp, cd⟩, true) := by
 rw [dN hx]; simp only [aw]; rw [if_pos ho]; simp only [uS]
theorem c4s (ho : ¬ x.op = 1) (h : aR (σ.μ.V (11, (o : Int), 0)) = 0) : bq σ ⟨who, x, s, 4, i, o, f, w, q, mk, tp, cd⟩ now = (σ.mem (σ.μ.acc who 1 (11, (o : Int), 0)), ⟨who, x, s, 8, i, o, f, σ.μ.V (11, (o : Int), 0), q, mk, tp, cd⟩, false) := by
 rw [dN hx]; simp only [aw]; rw [if_neg ho]; simp only [d6]; rw [if_pos h]
theorem c4b (ho : ¬ x.op = 1) (h : ¬ aR (σ.μ.V (11, (o : Int), 0)) = 0) : bq σ ⟨who, x, s, 4, i, o, f, w, q, mk, tp, cd⟩ now = (σ.mem (σ.μ.acc who 1 (11, (o : Int), 0)), ⟨who, x, s, 5, i, o, f, σ.μ.V (11, (o : Int), 0), q, mk, tp, cd⟩, false) := by
 rw [dN hx]; simp only [aw]; rw [if_neg ho]; simp only [d6]; rw [if_neg h]
theorem c5 (ho : ¬ x.op = 1) (h : ¬ σ.μ.V (2, 0, 0) % 2 = 1) : bq σ ⟨who, x, s, 5, i, o, f, w, q, mk, tp, cd⟩ now = (σ.mem (σ.μ.acc who 1 (2, 0, 0)), ⟨who, x, s, 6, i, o, f, w, σ.μ.V (2, 0, 0), mk, tp, cd⟩, false) := by
 rw [dN hx]; simp only [aw]; rw [if_neg ho]; simp only [d6]; rw [if_neg h]
theorem c6 (ho : ¬ x.op = 1) (h : ¬ aR (σ.μ.V (11, (o : Int), 0)) = 0) : bq σ ⟨who, x, s, 6, i, o, f, w, q, mk, tp, cd⟩ now = (σ.mem (σ.μ.acc who 1 (11, (o : Int), 0)), ⟨who, x, s, 7, i, o, f, σ.μ.V (11, (o : Int), 0), q, now, tp, cd⟩, false) := by
 rw [dN hx]; simp only [aw]; rw [if_neg ho]; simp only [d6]; rw [if_neg h]
theorem c7 (ho : ¬ x.op = 1) (h : σ.μ.V (2, 0, 0) = q) : bq σ ⟨who, x, s, 7, i, o, f, w, q, mk, tp, cd⟩ now = ((σ.mem (σ.μ.acc who 1 (2, 0, 0))).note mk who 8, ⟨who, x, s, 10, i, o, f, w, q, mk, tp, 8⟩, false) := by
 rw [dN hx]; simp only [aw]; rw [if_neg ho]; simp only [d6]; rw [if_pos h]
theorem c8 (ho : ¬ x.op = 1) {v : Nat} (hn : aQ w 2 = some v) (hw : σ.μ.V (11, (o : Int), 0) = w) : bq σ ⟨who, x, s, 8, i, o, f, w, q, mk, tp, cd⟩ now = ((σ.mem (σ.μ.swp who (11, (o : Int), 0) w v)).note now who 0, ⟨who, x, s, 9, i, o, f, w, q, mk, tp, 0⟩, false) := by
 have tu : dY σ.μ o w (aQ w 2) = true := by
  rw [hn]; show (true && decide (σ.μ.V (11, (o : Int), 0) = w)) = true; rw [dI hw]; rfl
 rw [dN hx]; simp only [aw]; rw [if_neg ho]; simp only [d6]; rw [if_pos tu, hn]
theorem c9 (ho : ¬ x.op = 1) : bq σ ⟨who, x, s, 9, i, o, f, w, q, mk, tp, cd⟩ now = (σ.mem ((σ.μ.acc who 2 (10, s, (i : Int))).put (10, s, (i : Int)) 0), ⟨who, x, s, 10, i, o, f, w, q, mk, tp, cd⟩, false) := by
 rw [dN hx]; simp only [aw]; rw [if_neg ho]; simp only [d6]
theorem ZF (ho : ¬ x.op = 1) : bq σ ⟨who, x, s, 10, i, o, f, w, q, mk, tp, cd⟩ now = (σ.mem ((σ.μ.acc who 2 (8, s, 0)).put (8, s, 0) 0), ⟨who, x, s, 10, i, o, f, w, q, mk, tp, cd⟩, true) := by
 rw [dN hx]; simp only [aw]; rw [if_neg ho]; simp only [d6]
end
def Ys (V : cE → Nat) (s : Int) (i : Nat) (mk : Int) : Prop := mk < 0 ∧ (∀ i', i' < i → V (10, s, ((i' : Nat) : Int)) ≠ 0) ∨ ∃ m : Nat, m < i ∧ mk = (m : Int) ∧ V (10, s, (m : Int)) = 0 ∧ ∀ i', i' < m → V (10, s, ((i' : Nat) : Int)) ≠ 0
theorem Ys.next {σ : aL} {s : Int} {i : Nat} {mk : Int} (h : Ys σ.μ.V s i mk) : Ys σ.μ.V s (i + 1) (AC σ s i mk) := by
 unfold AC
 rcases h with ⟨h1, h2⟩ | ⟨m, h1, h2, h3, h4⟩
 ·by_cases h0 : σ.μ.V (10, s, (i : Int)) = 0
  ·rw [if_pos ⟨h0, h1⟩]
   exact .inr ⟨i, by omega, rfl, h0, h2⟩
  ·rw [if_neg (fun h => h0 h.1)]
   refine .inl ⟨h1, fun i' hi => ?_⟩
   by_cases e : i' = i
   ·rw [e]; exact h0
   ·exact h2 i' (by omega)
 ·rw [if_neg (by omega)]
  exact .inr ⟨m, by omega, h2, h3, h4⟩
section
variable {who s : Int} {x : Cl} {σ : aL} {P : aL → Int → Prop}
theorem u2 (hx : ¬ x.op = 3) (n j : Nat) (w q : Nat) (tp : Nat) (cd : Int) (o : Nat) : ∀ (d i : Nat) (f : Bool) (mk : Int) (σ : aL) (now : Int), i + d = j → (j : Int) < σ.c.sl → (∀ i', i ≤ i' → i' < j → f8 σ s x.flow i' = false) → Ys σ.μ.V s i mk →
 (∀ σ' now' f' mk', Sm σ σ' → Ys σ'.μ.V s j mk' → gj n σ' ⟨who, x, s, 3, j, o, f', w, q, mk', tp, cd⟩ now' P) → gj (n + d) σ ⟨who, x, s, 3, i, o, f, w, q, mk, tp, cd⟩ now P := by
 intro d
 induction d with
 | zero =>
  intro i f mk σ now hi hj hm hk k
  obtain rfl : i = j := by omega
  exact k σ now f mk Sm.rfl' hk
 | succ d ih =>
  intro i f mk σ now hi hj hm hk k;refine gj.step (n := n + d) (r3m _ _ _ _ _ _ _ _ _ _ _ _ _ hx (hm i (by omega) (by omega)) (by omega)) ?_;exact ih (i + 1) false _ _ _ (by omega) hj (fun i' h1 h2 => hm i' (by omega) h2) hk.next fun σ' now' f' mk' a => k σ' now' f' mk' (Sm.trans (σ1 := σ.mem (σ.μ.acc who 1 (10, s, (i : Int)))) ⟨rfl, rfl, rfl⟩ a)
structure Newly (σ σ' : aL) (s : Int) (m : Nat) (x : Cl) : Prop where
 c : σ'.c = σ.c
 V : σ'.μ.V = upd σ.μ.V (10, s, (m : Int)) (cq x.flow σ.obs.length)
 obs : σ'.obs = σ.obs ++ [((⟨x.flow, x.b, max (σ.c.un / x.a.toNat) 1⟩ : Ob), List.replicate (dA x.b) w6)]
theorem U2 {V : cE → Nat} {s : Int} {l : cE} {v : Nat} (h8 : V (8, s, 0) = 0) (hl : l ≠ (8, s, 0)) : upd (upd (upd V (8, s, 0) 1) l v) (8, s, 0) 0 = upd V l v := by
 funext z
 show (if z = (8, s, 0) then 0 else if z = l then v else if z = (8, s, 0) then 1 else V z) = if z = l then v else V z
 by_cases e : z = (8, s, 0)
 ·rw [if_pos e, if_neg (fun h => hl (h.symm.trans e)), e, h8]
 ·rw [if_neg e, if_neg e]
theorem RD (hx : x.op = 1) (now : Int) (hc : bW σ.c = true) (h8 : σ.μ.V (8, s, 0) = 0)
 (hr : ∀ e, hM x = some e → ∀ σ', Sm σ σ' → P σ' e)
 (hh : hM x = none → ∀ j, j < σ.c.sl.toNat → f8 σ s x.flow j = true → (∀ i, i < j → f8 σ s x.flow i = false) → ∀ σ', Sm σ σ' → P σ' 6)
 (hf : hM x = none → (∀ i, i < σ.c.sl.toNat → f8 σ s x.flow i = false) → (∀ i, i < σ.c.sl.toNat → σ.μ.V (10, s, ((i : Nat) : Int)) ≠ 0) → ∀ σ', Sm σ σ' → P σ' 7)
 (hn : hM x = none → (∀ i, i < σ.c.sl.toNat → f8 σ s x.flow i = false) → ∀ m, m < σ.c.sl.toNat → σ.μ.V (10, s, ((m : Nat) : Int)) = 0 → (∀ i, i < m → σ.μ.V (10, s, ((i : Nat) : Int)) ≠ 0) → ∀ σ', Newly σ σ' s m x → P σ' 0) :
 gj (σ.c.sl.toNat + 11) σ ⟨who, x, s, 0, 0, 0, false, 0, 0, -1, 0, 0⟩ now P := by
 have hsl := bx.1 hc
 have hx3 : ¬ x.op = 3 := by omega
 obtain ⟨N, hN⟩ : ∃ N, N = σ.c.sl.toNat := ⟨_, rfl⟩;rw [← hN] at hh hf hn ⊢
 cases hx2 : hM x with
 | some e => exact .last (r0e _ _ _ _ _ _ _ _ _ _ _ _ _ hx3 hx2) (hr e hx2 _ ⟨rfl, rfl, rfl⟩)
 | none =>
  have sv : (σ.μ.swp who (8, s, 0) 0 1).V = upd σ.μ.V (8, s, 0) 1 := mL h8
  have hl : ∀ j : Nat, f8 (σ.mem (σ.μ.swp who (8, s, 0) 0 1)) s x.flow j = f8 σ s x.flow j := fun j => by
   show fe ((σ.μ.swp who (8, s, 0) 0 1).V (10, s, (j : Int))) x.flow = _;rw [sv, upd_ne (by simp)]
  have mk0 : Ys (σ.mem (σ.μ.swp who (8, s, 0) 0 1)).μ.V s 0 (-1) := .inl ⟨by omega, fun i' h => by omega⟩
  rcases GZ (f8 σ s x.flow) N with hmiss | ⟨j, hj, hjh, hb⟩
  ·refine .mono (n := (((1 + 1 + 1) + 1) + (N - 1)) + 1) (by omega) ?_
   refine .step (r0 _ _ _ _ _ _ _ _ _ _ _ _ _ hx3 hx2 h8) ?_;refine u2 hx3 _ (N - 1) _ _ _ _ _ (N - 1) 0 _ _ _ _ (by omega) (by show ((N - 1 : Nat) : Int) < σ.c.sl; omega) (fun i' _ h2 => by rw [hl]; exact hmiss i' (by omega)) mk0 fun σ2 now2 f2 mk2 a2 k2 => ?_;obtain ⟨c2, V2, O2⟩ := a2;have V2' : σ2.μ.V = upd σ.μ.V (8, s, 0) 1 := V2.trans sv
   have hm2 : fe (σ2.μ.V (10, s, ((N - 1 : Nat) : Int))) x.flow = false := by rw [V2', upd_ne (by simp)]; exact hmiss _ (by omega)
   have cl : σ2.c = σ.c := c2
   have hlast : σ2.c.sl ≤ ((N - 1 + 1 : Nat) : Int) := by rw [cl]; omega
   have k3 := k2.next;rw [show N - 1 + 1 = N from by omega] at k3
   have ve : ∀ i : Nat, σ2.μ.V (10, s, (i : Int)) = σ.μ.V (10, s, (i : Int)) := fun i => by rw [V2']; exact upd_ne (by simp)
   by_cases hk : AC σ2 s (N - 1) mk2 < 0
   ·refine .step (r3n _ _ _ _ _ _ _ _ _ _ _ _ _ hx3 hm2 hlast hx hk) ?_
    refine .last (r6 _ _ _ _ _ _ _ _ _ _ _ _ _ hx3 hx) (hf hx2 hmiss (fun i hi => ?_) _ ⟨cl, ?_, O2⟩)
    ·rcases k3 with ⟨_, k4⟩ | ⟨m, _, k4, _⟩
     ·rw [← ve]; exact k4 i hi
     ·omega
    ·show upd σ2.μ.V (8, s, 0) 0 = σ.μ.V
     rw [V2'];exact nN h8 1
   ·refine .step (r3f _ _ _ _ _ _ _ _ _ _ _ _ _ hx3 hm2 hlast hx hk) ?_
    refine .step (r4 _ _ _ _ _ _ _ _ _ _ _ _ _ hx3 hx) ?_;refine .step (r5 _ _ _ _ _ _ _ _ _ _ _ _ _ hx3 hx) ?_
    rcases k3 with ⟨k4, _⟩ | ⟨m, k5, k4, k6, k7⟩
    ·exact absurd k4 hk
    have O2' : σ2.obs = σ.obs := O2;refine .last (r6 _ _ _ _ _ _ _ _ _ _ _ _ _ hx3 hx) (hn hx2 hmiss m k5 (by rw [← ve]; exact k6) (fun i hi => by rw [← ve]; exact k7 i hi) _ ⟨cl, ?_, ?_⟩)
    ·show upd (upd σ2.μ.V (10, s, AC σ2 s (N - 1) mk2) (cq x.flow σ2.obs.length)) (8, s, 0) 0 = _
     rw [V2', k4, O2'];exact U2 h8 (by simp)
    ·show σ2.obs ++ [((⟨x.flow, x.b, max (σ2.c.un / x.a.toNat) 1⟩ : Ob), List.replicate (dA x.b) w6)] = _
     rw [O2', cl]
  ·refine .mono (n := ((1 + 1) + j) + 1) (by omega) ?_
   refine .step (r0 _ _ _ _ _ _ _ _ _ _ _ _ _ hx3 hx2 h8) ?_;refine u2 hx3 _ j _ _ _ _ _ j 0 _ _ _ _ (by omega) (by show (j : Int) < σ.c.sl; omega) (fun i' _ h2 => by rw [hl]; exact hb i' h2) mk0 fun σ2 now2 f2 mk2 a2 k2 => ?_;obtain ⟨c2, V2, O2⟩ := a2;have V2' : σ2.μ.V = upd σ.μ.V (8, s, 0) 1 := V2.trans sv
   have hm2 : fe (σ2.μ.V (10, s, (j : Int))) x.flow = true := by rw [V2', upd_ne (by simp)]; exact hjh
   refine .step (r3h _ _ _ _ _ _ _ _ _ _ _ _ _ hx3 hm2 hx) ?_;refine .last (r6 _ _ _ _ _ _ _ _ _ _ _ _ _ hx3 hx) (hh hx2 j hj hjh hb _ ⟨c2, ?_, O2⟩);show upd σ2.μ.V (8, s, 0) 0 = σ.μ.V;rw [V2'];exact nN h8 1
structure Closed (σ σ' : aL) (s : Int) (j : Nat) : Prop where
 c : σ'.c = σ.c
 V : σ'.μ.V = upd (upd σ.μ.V (11, ((dF σ s j : Nat) : Int), 0) (aI (σ.μ.V (11, ((dF σ s j : Nat) : Int), 0)) + 4611686018427387904)) (10, s, (j : Int)) 0
 obs : σ'.obs = σ.obs
theorem QB {V : cE → Nat} {s : Int} {l l2 : cE} {v v2 : Nat} (h8 : V (8, s, 0) = 0) (hl : l ≠ (8, s, 0)) (hl2 : l2 ≠ (8, s, 0)) : upd (upd (upd (upd V (8, s, 0) 1) l v) l2 v2) (8, s, 0) 0 = upd (upd V l v) l2 v2 := by
 funext z
 show (if z = (8, s, 0) then 0 else if z = l2 then v2 else if z = l then v else if z = (8, s, 0) then 1 else V z) = if z = l2 then v2 else if z = l then v else V z
 by_cases e : z = (8, s, 0)
 ·rw [if_pos e, if_neg (fun h => hl2 (h.symm.trans e)), if_neg (fun h => hl (h.symm.trans e)), e, h8]
 ·rw [if_neg e, if_neg e]
theorem YD (hx : ¬ x.op = 3) (hx1 : ¬ x.op = 1) (now : Int) (hc : bW σ.c = true) (hq : σ.μ.V (2, 0, 0) = 0) (h8 : σ.μ.V (8, s, 0) = 0)
 (hr : ∀ e, hM x = some e → ∀ σ', Sm σ σ' → P σ' e)
 (hm : hM x = none → (∀ i, i < σ.c.sl.toNat → f8 σ s x.flow i = false) → ∀ σ', Sm σ σ' → P σ' 5)
 (hb : hM x = none → ∀ j, j < σ.c.sl.toNat → f8 σ s x.flow j = true → (∀ i, i < j → f8 σ s x.flow i = false) → ¬ aR (σ.μ.V (11, (dF σ s j : Nat), 0)) = 0 → ∀ σ', Sm σ σ' → P σ' 8)
 (hn : hM x = none → ∀ j, j < σ.c.sl.toNat → f8 σ s x.flow j = true → (∀ i, i < j → f8 σ s x.flow i = false) → aR (σ.μ.V (11, (dF σ s j : Nat), 0)) = 0 → ∀ σ', Closed σ σ' s j → P σ' 0) :
 gj (σ.c.sl.toNat + 11) σ ⟨who, x, s, 0, 0, 0, false, 0, 0, -1, 0, 0⟩ now P := by
 have hsl := bx.1 hc;obtain ⟨N, hN⟩ : ∃ N, N = σ.c.sl.toNat := ⟨_, rfl⟩;rw [← hN] at hm hb hn ⊢
 cases hx2 : hM x with
 | some e => exact .last (r0e _ _ _ _ _ _ _ _ _ _ _ _ _ hx hx2) (hr e hx2 _ ⟨rfl, rfl, rfl⟩)
 | none =>
  have sv : (σ.μ.swp who (8, s, 0) 0 1).V = upd σ.μ.V (8, s, 0) 1 := mL h8
  have hl : ∀ j : Nat, f8 (σ.mem (σ.μ.swp who (8, s, 0) 0 1)) s x.flow j = f8 σ s x.flow j := fun j => by
   show fe ((σ.μ.swp who (8, s, 0) 0 1).V (10, s, (j : Int))) x.flow = _;rw [sv, upd_ne (by simp)]
  have mk0 : Ys (σ.mem (σ.μ.swp who (8, s, 0) 0 1)).μ.V s 0 (-1) := .inl ⟨by omega, fun i' h => by omega⟩
  rcases GZ (f8 σ s x.flow) N with hmiss | ⟨j, hj, hjh, hbf⟩
  ·refine .mono (n := ((1 + 1) + (N - 1)) + 1) (by omega) ?_
   refine .step (r0 _ _ _ _ _ _ _ _ _ _ _ _ _ hx hx2 h8) ?_;refine u2 hx _ (N - 1) _ _ _ _ _ (N - 1) 0 _ _ _ _ (by omega) (by show ((N - 1 : Nat) : Int) < σ.c.sl; omega) (fun i' _ h2 => by rw [hl]; exact hmiss i' (by omega)) mk0 fun σ2 now2 f2 mk2 a2 k2 => ?_;obtain ⟨c2, V2, O2⟩ := a2;have V2' : σ2.μ.V = upd σ.μ.V (8, s, 0) 1 := V2.trans sv
   have hm2 : fe (σ2.μ.V (10, s, ((N - 1 : Nat) : Int))) x.flow = false := by rw [V2', upd_ne (by simp)]; exact hmiss _ (by omega)
   have cl : σ2.c = σ.c := c2;refine .step (c3n _ _ _ _ _ _ _ _ _ _ _ _ _ hx hm2 (by rw [cl]; omega) hx1) ?_;refine .last (ZF _ _ _ _ _ _ _ _ _ _ _ _ _ hx hx1) (hm hx2 hmiss _ ⟨cl, ?_, O2⟩);show upd σ2.μ.V (8, s, 0) 0 = σ.μ.V;rw [V2'];exact nN h8 1
  ·refine .mono (n := (((((1 + 1) + 1) + 1) + 1) + 1 + j) + 1) (by omega) ?_
   refine .step (r0 _ _ _ _ _ _ _ _ _ _ _ _ _ hx hx2 h8) ?_;refine u2 hx _ j _ _ _ _ _ j 0 _ _ _ _ (by omega) (by show (j : Int) < σ.c.sl; omega) (fun i' _ h2 => by rw [hl]; exact hbf i' h2) mk0 fun σ2 now2 f2 mk2 a2 k2 => ?_;obtain ⟨c2, V2, O2⟩ := a2;have V2' : σ2.μ.V = upd σ.μ.V (8, s, 0) 1 := V2.trans sv
   have ev : σ2.μ.V (10, s, (j : Int)) = σ.μ.V (10, s, (j : Int)) := by rw [V2', upd_ne (by simp)]
   have hm2 : fe (σ2.μ.V (10, s, (j : Int))) x.flow = true := by rw [ev]; exact hjh
   refine .step (c3h _ _ _ _ _ _ _ _ _ _ _ _ _ hx hm2 hx1) ?_;rw [show σ2.μ.V (10, s, (j : Int)) % 4294967296 = dF σ s j from by rw [ev]]
   have ew : σ2.μ.V (11, ((dF σ s j : Nat) : Int), 0) = σ.μ.V (11, ((dF σ s j : Nat) : Int), 0) := by rw [V2', upd_ne (by simp)]
   by_cases hs0 : aR (σ.μ.V (11, (dF σ s j : Nat), 0)) = 0
   ·refine .step (c4s _ _ _ _ _ _ _ _ _ _ _ _ _ hx hx1 (by show aR (σ2.μ.V _) = 0; rw [ew]; exact hs0)) ?_
    obtain ⟨W, hW⟩ : ∃ W, W = σ.μ.V (11, ((dF σ s j : Nat) : Int), 0) := ⟨_, rfl⟩;have hv : aQ W 2 = some (aI W + 4611686018427387904) := U5 (by rw [hW]; exact hs0);have eW : σ2.μ.V (11, ((dF σ s j : Nat) : Int), 0) = W := ew.trans hW.symm;rw [show (σ2.mem (σ2.μ.acc who 1 (10, s, (j : Int)))).μ.V (11, ((dF σ s j : Nat) : Int), 0) = W from eW];refine .step (c8 _ _ _ _ _ _ _ _ _ _ _ _ _ hx hx1 hv eW) ?_;refine .step (c9 _ _ _ _ _ _ _ _ _ _ _ _ _ hx hx1) ?_;have sv2 := mL (μ := (σ2.μ.acc who 1 (10, s, (j : Int))).acc who 1 (11, ((dF σ s j : Nat) : Int), 0)) (who := who) (l := (11, ((dF σ s j : Nat) : Int), 0)) (was := W) (now := aI W + 4611686018427387904) eW;refine .last (ZF _ _ _ _ _ _ _ _ _ _ _ _ _ hx hx1) (hn hx2 j hj hjh hbf hs0 _ ⟨c2, ?_, O2⟩);show upd (upd (((σ2.μ.acc who 1 (10, s, (j : Int))).acc who 1 (11, ((dF σ s j : Nat) : Int), 0)).swp who (11, ((dF σ s j : Nat) : Int), 0) W (aI W + 4611686018427387904)).V (10, s, (j : Int)) 0) (8, s, 0) 0 = _;rw [sv2];show upd (upd (upd σ2.μ.V _ _) _ _) _ _ = _;rw [V2', QB h8 (by simp) (by simp), hW]
   ·refine .step (c4b _ _ _ _ _ _ _ _ _ _ _ _ _ hx hx1 (by show ¬ aR (σ2.μ.V _) = 0; rw [ew]; exact hs0)) ?_
    have eq0 : σ2.μ.V (2, 0, 0) = 0 := by rw [V2', upd_ne (by simp)]; exact hq
    refine .step (c5 _ _ _ _ _ _ _ _ _ _ _ _ _ hx hx1 (by show ¬ σ2.μ.V (2, 0, 0) % 2 = 1; rw [eq0]; omega)) ?_;refine .step (c6 _ _ _ _ _ _ _ _ _ _ _ _ _ hx hx1 (by show ¬ aR (σ2.μ.V _) = 0; rw [ew]; exact hs0)) ?_;refine .step (c7 _ _ _ _ _ _ _ _ _ _ _ _ _ hx hx1 rfl) ?_;refine .last (ZF _ _ _ _ _ _ _ _ _ _ _ _ _ hx hx1) (hb hx2 j hj hjh hbf hs0 _ ⟨c2, ?_, O2⟩);show upd σ2.μ.V (8, s, 0) 0 = σ.μ.V;rw [V2'];exact nN h8 1
end
structure QS (σ : aL) (k : Nat) : Prop where
 seq : σ.μ.V (2, 0, 0) = 0
 mx : ∀ s : Int, σ.μ.V (8, s, 0) = 0
 word : ∀ s i : Int, σ.μ.V (10, s, i) ≠ 0 → cQ (σ.μ.V (11, ((σ.μ.V (10, s, i) % 4294967296 : Nat) : Int), 0)) = true ∧ aR (σ.μ.V (11, ((σ.μ.V (10, s, i) % 4294967296 : Nat) : Int), 0)) ≠ 2 ∧ aI (σ.μ.V (11, ((σ.μ.V (10, s, i) % 4294967296 : Nat) : Int), 0)) ≤ k
 uniq : ∀ s i s' i' : Int, σ.μ.V (10, s, i) ≠ 0 → σ.μ.V (10, s', i') ≠ 0 → σ.μ.V (10, s, i) % 4294967296 = σ.μ.V (10, s', i') % 4294967296 → s = s' ∧ i = i'
 fresh : ∀ o : Nat, σ.obs.length ≤ o → σ.μ.V (11, (o : Int), 0) = 0
section
variable {σ σ' : aL} {k : Nat}
theorem QS.mono {k' : Nat} (h : QS σ k) (hk : k ≤ k') : QS σ k' := ⟨h.seq, h.mx, fun s i hv => ⟨(h.word s i hv).1, (h.word s i hv).2.1, fF (h.word s i hv).2.2 hk⟩, h.uniq, h.fresh⟩
theorem QS.begin (h : QS σ k) (who place : Int) : QS (σ.begin who place) k := ⟨h.seq, h.mx, h.word, h.uniq, h.fresh⟩
theorem EW {k : Int} {a b : Nat} (h : ((k, (a : Int), (0 : Int)) : cE) = (k, (b : Int), 0)) : a = b := by
 have h2 : (a : Int) = (b : Int) := congrArg (fun l : cE => l.2.1) h;omega
theorem Ns (op : Int) (e xb : Nat) : (FK op e xb).all Value.oneCell' = true := by
 by_cases ho : op = 3
 ·rw [UV ho]; rfl
 ·rw [UW ho]; rfl
theorem Vj {n : Nat} (hn : n < 2305843009213693951) : cQ (n + 1 + 2305843009213693952) = true ∧ aR (n + 1 + 2305843009213693952) ≠ 2 ∧ aI (n + 1 + 2305843009213693952) = n + 1 := by
 have h1 : (n + 1 + 2305843009213693952) / 2305843009213693952 = 1 := by omega
 have h2 : (n + 1 + 2305843009213693952) % 2305843009213693952 = n + 1 := by omega
 have hr : cQ (n + 1 + 2305843009213693952) = true := by rw [cQ, h1]; rfl
 refine ⟨hr, ?_, ?_⟩
 ·rw [aR, if_pos hr, h1]; decide
 ·rw [aI, if_pos hr, h2]
theorem QS.laid {o : Nat} {x : Cl} (h : QS σ k) (hk : k < 2305843009213693950) (ho : o < σ.obs.length) (hw : ∃ s i : Int, σ.μ.V (10, s, i) ≠ 0 ∧ σ.μ.V (10, s, i) % 4294967296 = o) (a : Iv σ σ' o x) : QS σ' (k + 1) := by
 obtain ⟨c, w, _, V, O⟩ := a;have v10 : ∀ s i : Int, σ'.μ.V (10, s, i) = σ.μ.V (10, s, i) := fun s i => V _ (by simp) (by simp) (by simp) (by simp)
 have hl : σ'.obs.length = σ.obs.length := by rw [O]; simp
 refine ⟨by rw [V _ (by simp) (by simp) (by simp) (by simp)]; exact h.seq, fun s => by rw [V _ (by simp) (by simp) (by simp) (by simp)]; exact h.mx s, fun s i hv => ?_, fun s i s' i' => by rw [v10, v10]; exact h.uniq s i s' i', fun z hz => ?_⟩
 ·rw [v10] at hv ⊢
  by_cases e : σ.μ.V (10, s, i) % 4294967296 = o
  ·rw [e, w]
   obtain ⟨q1, q2, q3⟩ := h.word s i hv;rw [e] at q3;obtain ⟨z1, z2, z3⟩ := Vj (n := aI (σ.μ.V (11, (o : Int), 0))) (by omega);exact ⟨z1, z2, by rw [z3]; omega⟩
  ·rw [V _ (fun q => e (EW q)) (by simp) (by simp) (by simp)]
   exact ⟨(h.word s i hv).1, (h.word s i hv).2.1, fF (h.word s i hv).2.2 (by omega)⟩
 ·rw [hl] at hz
  rw [V _ (fun q => by have := EW q; omega) (by simp) (by simp) (by simp)];exact h.fresh z hz
theorem QS.fill {s m f : Int} (h : QS σ k) (hs : ∀ s i, σ.μ.V (10, s, i) ≠ 0 → σ.μ.V (10, s, i) % 4294967296 < σ.obs.length) (hl : σ.obs.length < 4294967296) (V : σ'.μ.V = upd σ.μ.V (10, s, m) (cq f σ.obs.length)) (hlen : σ'.obs.length = σ.obs.length + 1) : QS σ' k := by
 have v11 : ∀ o : Int, σ'.μ.V (11, o, 0) = σ.μ.V (11, o, 0) := fun o => by rw [V]; exact upd_ne (by simp)
 have vm : σ'.μ.V (10, s, m) % 4294967296 = σ.obs.length := by rw [V, jR]; exact lA hl
 have vo : ∀ a b : Int, ¬ (a = s ∧ b = m) → σ'.μ.V (10, a, b) = σ.μ.V (10, a, b) := fun a b hab => by
  rw [V]; exact upd_ne (fun q => hab (by simpa using q))
 have f0 := h.fresh σ.obs.length (bK _);refine ⟨by rw [V]; exact (upd_ne (by simp)).trans h.seq, fun s' => by rw [V]; exact (upd_ne (by simp)).trans (h.mx s'), fun a b hv => ?_, fun a b a' b' hv hv' he => ?_, fun z hz => ?_⟩
 ·rw [v11]
  by_cases e : a = s ∧ b = m
  ·obtain ⟨rfl, rfl⟩ := e
   rw [vm, f0];exact ⟨rfl, by decide, Nat.zero_le _⟩
  ·rw [vo a b e] at hv ⊢
   exact h.word a b hv
 ·by_cases e : a = s ∧ b = m
  ·obtain ⟨rfl, rfl⟩ := e
   by_cases e' : a' = a ∧ b' = b
   ·exact ⟨e'.1.symm, e'.2.symm⟩
   ·rw [vm, vo a' b' e'] at he
    rw [vo a' b' e'] at hv';have := hs a' b' hv';omega
  ·by_cases e' : a' = s ∧ b' = m
   ·obtain ⟨rfl, rfl⟩ := e'
    rw [vm, vo a b e] at he;rw [vo a b e] at hv;have := hs a b hv;omega
   ·rw [vo a b e, vo a' b' e'] at he
    rw [vo a b e] at hv;rw [vo a' b' e'] at hv';exact h.uniq a b a' b' hv hv' he
 ·rw [v11]
  exact h.fresh z (by omega)
theorem QS.closed {s : Int} {j : Nat} (h : QS σ k) (hj : σ.μ.V (10, s, (j : Int)) ≠ 0) (hs : dF σ s j < σ.obs.length) (a : Closed σ σ' s j) : QS σ' k := by
 obtain ⟨c, V, O⟩ := a
 have vm : σ'.μ.V (10, s, (j : Int)) = 0 := by rw [V, jR]
 have vo : ∀ a b : Int, ¬ (a = s ∧ b = j) → σ'.μ.V (10, a, b) = σ.μ.V (10, a, b) := fun a b hab => by
  rw [V]; exact (upd_ne (fun q => hab (by simpa using q))).trans (upd_ne (by simp))
 have v11 : ∀ o : Nat, o ≠ dF σ s j → σ'.μ.V (11, (o : Int), 0) = σ.μ.V (11, (o : Int), 0) := fun o ho => by
  rw [V]; exact (upd_ne (by simp)).trans (upd_ne (fun q => ho (EW q)))
 have no : ∀ a b : Int, σ'.μ.V (10, a, b) ≠ 0 → ¬ (a = s ∧ b = j) := fun a b hv e => by
  obtain ⟨rfl, rfl⟩ := e;exact hv vm
 refine ⟨by rw [V]; exact (upd_ne (by simp)).trans ((upd_ne (by simp)).trans h.seq), fun s' => by rw [V]; exact (upd_ne (by simp)).trans ((upd_ne (by simp)).trans (h.mx s')), fun a b hv => ?_, fun a b a' b' hv hv' he => ?_, fun z hz => ?_⟩
 ·have e := no a b hv
  rw [vo a b e] at hv ⊢;rw [v11 _ (fun q => e (h.uniq a b s j hv hj q))];exact h.word a b hv
 ·have e := no a b hv
  have e' := no a' b' hv';rw [vo a b e, vo a' b' e'] at he;rw [vo a b e] at hv;rw [vo a' b' e'] at hv';exact h.uniq a b a' b' hv hv' he
 ·rw [O] at hz
  rw [v11 z (by omega)];exact h.fresh z hz
theorem Tj {v : Nat} {flow : Int} (h : fe v flow = true) : v ≠ 0 := (of_decide_eq_true h).1
end
section
variable (p x : Nat)
theorem Gb (now most : Int) (pb rb tb e xb : Nat) (op : Int) (x13 x14 : Value) (res : aL × Tk × Int) (hnow : 0 ≤ now ∧ now < 1000000) (hm : most < 1000) {R : SP} :
 ∀ (fuel k K : Nat) (rp : List Nat) (σ : aL) (t : Tk) (H : AH), (k : Int) + fuel = most → iA fuel σ t (now + k) = some res → SI σ K → vk σ t → t.x.op = op → K + 3 * fuel < 280000 →
  ae (blk pb (.cells false [vp p, vp x]) * (blk rb (.cells false [vi 0, .slice none 0 0, vi 0, vw 0]) * (blk tb (.cells false (FK op e xb)) * (aT e p rp t * (bf p rp σ * (zT xb x t * (aJ x σ * R))))))) H →
  wp (kT (vi now) (vi most) (vp pb) (vp rb) x13 x14 (vp tb) (vi (k : Int)) H) fun v' H' => ∃ rp' : List Nat, v' = .tuple #[.agg (dX res.2.1.code).toArray, vi res.2.2, vb true] ∧ ae (pu (rp <+: rp') * (bf p rp' res.1 * aJ x res.1) * R) H' := by
 intro fuel
 induction fuel with
 | zero => intro k K rp σ t H _ h; cases h
 | succ fuel ih =>
  intro k K rp σ t H hk ha S T ho hK h;subst ho;have K1 := oB (now + k) (by omega) S T;unfold iA at ha;refine ai (xF ..) ?_;refine aa (eO (by omega)) ?_;refine gs ?_;refine ai (xG ..) ?_;refine aV h ?_;refine aV h ?_;refine aa (bu (by omega) (by omega)) ?_;have law := wG p x rp e xb σ t (now + k) K S (by omega) T;obtain ⟨r, hr⟩ : ∃ r, r = bq σ t (now + k) := ⟨_, rfl⟩;rw [← hr] at law ha K1;refine ag h law fun rp' H2 h3 => ?_;rw [aj, ae.pu] at h3;obtain ⟨hpre, h3⟩ := h3;refine aa (v := .agg (dX (if r.2.2 = true then r.2.1.code else 0)).toArray) rfl ?_;refine aa (v := vb r.2.2) rfl ?_;refine aa (v := vb true) rfl ?_;refine bm h3 fun qb H3 h4 => ?_;refine eG h4 rfl rfl fun H4 h5 => ?_;refine gs ?_;rw [Bool.not_true];refine gs ?_;cases hd : r.2.2
  ·rw [hd] at ha
   rw [if_neg (by simp)] at ha;refine gs ?_;refine ai (xH ..) ?_;refine aa (bu (by omega) (by omega)) ?_;rw [show ((k : Nat) : Int) + 1 = ((k + 1 : Nat) : Int) from by omega];rw [Q7 hd, VE hd] at h5;refine KM ?_ (ih (k + 1) (K + 3) rp' _ _ H4 (by omega) (by rw [← ha]; congr 1; omega) K1.si (K1.ok hd) (by rw [K1.x]) (by omega) h5.to)
   rintro v' H' ⟨rp2, rfl, h6⟩
   refine ⟨rp2, rfl, ?_⟩;rw [aj, ae.pu] at h6 ⊢;exact ⟨List.IsPrefix.trans hpre h6.1, h6.2⟩
  ·rw [hd, if_pos rfl] at ha
   obtain rfl := hF ha;rw [hd, if_pos rfl] at h5;refine gs ?_;refine aV h5 ?_;refine aa (bu (by omega) (by omega)) ?_;refine aa (bu (by omega) (by omega)) ?_;refine eG h5 rfl rfl fun HA hA => ?_;refine aV hA ?_;refine ap ⟨rp', rfl, ?_⟩;rw [aj, ae.pu];exact ⟨hpre, hA.to⟩
theorem vr (rp : List Nat) (σ : aL) (K : Nat) (S : SI σ K) (who place : Int) (c : Cl) (now : Int) (fuel : Nat) (hnow : 0 ≤ now ∧ now < 1000000) (hm : fuel < 1000) (hK : K + 1 + 3 * fuel < 280000) (res : aL × Tk × Int)
 (ha : iA fuel (σ.begin who place) (Tk.newA σ.c who c) now = some res) :
 Sp kg [.agg [vp p, vp x].toArray, vi who, vi place, .agg (Cl.cells c).toArray, vi now, vi (fuel : Int)] (bf p rp σ * aJ x σ) (fun _ : List Nat => .tuple #[.agg (dX res.2.1.code).toArray, vi res.2.2, vb true]) (fun rp' => pu (rp <+: rp') * (bf p rp' res.1 * aJ x res.1)) := by
 have S1 := S.begin who place;refine bp (ET _ _ _ _ _ _) fun R H h => ?_;refine bg (l := [vp p, vp x]) h fun pb H1 h1 => ?_;refine bg h1 fun cb H2 h2 => ?_;refine bm h2 fun rb H3 h3 => ?_;refine aV h3 ?_;refine aV h3 ?_;refine ag h3 (Co p x rp σ S.c (by have := S.N; omega) who place c) fun g H4 h4 => ?_;obtain ⟨e, xb⟩ := g;dsimp only at h4 ⊢;refine bm h4 fun tb H5 h5 => ?_;refine eG (l := FK c.op e xb) (cs' := FK c.op e xb) h5 rfl (Ns _ _ _) fun H6 h6 => ?_;refine ai (xD ..) ?_;refine ai (xE ..) ?_;exact Gb p x now fuel pb rb tb e xb c.op (vi 0) (vb false) res hnow (by omega) (R := R) fuel 0 (K + 1) rp (σ.begin who place) (Tk.newA σ.c who c) H6 (by omega) (by rw [← ha]; congr 1; omega) S1 (vk.new (σ := σ.begin who place) S.c who c) (by rw [YU]) (by omega) h6.to
end
theorem vk.new' {σ : aL} (hc : bW σ.c = true) (who place : Int) (x : Cl) : vk (σ.begin who place) (Tk.newA σ.c who x) := vk.new (σ := σ.begin who place) hc who x
theorem QS.made (c : fM) (hc : bW c = true) : ∀ n, n ≤ 16 → QS (aL.made c n) 0 := by
 intro n
 induction n with
 | zero => exact fun _ => ⟨rfl, fun _ => rfl, fun s i h => absurd rfl h, fun s i s' i' h => absurd rfl h, fun _ _ => rfl⟩
 | succ n ih =>
  intro hn;have h := ih (by omega);have M := Hb c hc n (by omega);have hm := (JJ c n).2.2;unfold aL.made
  split
  ·exact h.fill M.si.slot (by omega) rfl (by simp [aL.lay, aL.make])
  ·exact h
section
variable (who s : Int) (x : Cl) (i o : Nat) (f : Bool) (w q : Nat) (mk : Int) (tp : Nat) (cd : Int) (σ : aL) (now : Int) (hx : x.op = 3)
include hx
theorem e7s (h : aR (σ.μ.V (11, (o : Int), 0)) = 2) : bq σ ⟨who, x, s, 7, i, o, f, w, q, mk, tp, cd⟩ now = (σ.mem (σ.μ.acc who 1 (11, (o : Int), 0)), ⟨who, x, s, 3, i, o, f, σ.μ.V (11, (o : Int), 0), q, mk, tp, cd⟩, false) := by
 rw [bY hx]; simp only [ah]; rw [if_pos h]
theorem e4h (h : fe (σ.μ.V (10, s, (i : Int))) x.flow = true) : bq σ ⟨who, x, s, 4, i, o, f, w, q, mk, tp, cd⟩ now = (σ.mem (σ.μ.acc who 1 (10, s, (i : Int))), ⟨who, x, s, 5, i + 1, σ.μ.V (10, s, (i : Int)) % 4294967296, true, w, q, mk, tp, cd⟩, false) := by
 rw [bY hx]; simp only [ah, aP, h]; rfl
theorem e5t : bq σ ⟨who, x, s, 5, i, o, true, w, q, mk, tp, cd⟩ now = (σ.mem ((σ.μ.acc who 2 (8, s, 0)).put (8, s, 0) 0), ⟨who, x, s, 6, i, o, true, w, q, mk, tp, cd⟩, false) := by
 rw [bY hx]; simp only [ah]; rfl
theorem aaO (h : σ.μ.V (11, (o : Int), 0) ≠ w) : bq σ ⟨who, x, s, 13, i, o, f, w, q, mk, tp, cd⟩ now = (σ.mem (σ.μ.turn who o w (aQ w 0)), ⟨who, x, s, 20, i, o, f, w, q, mk, tp, cd⟩, false) := by
 have e : dY σ.μ o w (aQ w 0) = false := by
  unfold dY;rw [dQ h, Bool.and_false]
 rw [bY hx]; simp only [ah]; rw [if_neg (by rw [e]; simp)]
theorem e20 : bq σ ⟨who, x, s, 20, i, o, f, w, q, mk, tp, cd⟩ now = (σ.mem (σ.μ.cnt who (3, 0, 0) 1), ⟨who, x, s, 7, i, o, f, w, q, mk, tp, cd⟩, false) := by
 rw [bY hx]; simp only [ah]
end
theorem US {μ : Mu} {who : Int} {l : cE} {was now : Nat} (h : μ.V l ≠ was) : (μ.swp who l was now).V = μ.V := by
 show (μ.swap who l was now).V = _;unfold Mu.swap;rw [if_neg h]
theorem QA {μ : Mu} {who : Int} {o w how : Nat} (h : μ.V (11, (o : Int), 0) ≠ w) : (μ.turn who o w (aQ w how)).V = μ.V := by
 cases aQ w how with
 | none => rfl
 | some n => exact US h
structure Sm3 (σ σ' : aL) : Prop where
 c : σ'.c = σ.c
 V : ∀ l : cE, l.1 ≠ 3 → σ'.μ.V l = σ.μ.V l
 obs : σ'.obs = σ.obs
section
variable {who s : Int} {x : Cl} {σ : aL} {P : aL → Int → Prop}
theorem I3 (hx : x.op = 3) (i o : Nat) (f : Bool) (w q : Nat) (mk : Int) (tp : Nat) (cd now : Int) (hc : bW σ.c = true) (h2 : aR (σ.μ.V (11, (o : Int), 0)) = 2) (h8 : σ.μ.V (8, s, 0) = 0) (hm : ∀ i, i < σ.c.sl.toNat → f8 σ s x.flow i = false)
 (k : ∀ σ', Sm σ σ' → P σ' 5) : gj 8 σ ⟨who, x, s, 7, i, o, f, w, q, mk, tp, cd⟩ now P := by
 have hsl := bx.1 hc;obtain ⟨N, hN⟩ : ∃ N, N = σ.c.sl.toNat := ⟨_, rfl⟩;rw [← hN] at hm;refine .mono (n := ((1 + 1) + (N - 1)) + 1 + 1) (by omega) ?_;refine .step (e7s _ _ _ _ _ _ _ _ _ _ _ _ _ hx h2) ?_;refine .step (e3 _ _ _ _ _ _ _ _ _ _ _ _ _ hx h8) ?_;have sv : ((σ.μ.acc who 1 (11, (o : Int), 0)).swp who (8, s, 0) 0 1).V = upd σ.μ.V (8, s, 0) 1 := mL (μ := σ.μ.acc who 1 (11, (o : Int), 0)) h8;refine UB hx _ (N - 1) _ _ _ _ _ _ (N - 1) 0 _ _ _ (by omega) (by show ((N - 1 : Nat) : Int) < σ.c.sl; omega) (fun i' _ h => ?_) fun σ4 now4 f4 a4 => ?_
 ·show fe (((σ.μ.acc who 1 (11, (o : Int), 0)).swp who (8, s, 0) 0 1).V (10, s, (i' : Int))) x.flow = false
  rw [sv, upd_ne (by simp)];exact hm i' (by omega)
 obtain ⟨c4, V4, O4⟩ := a4;have V4' : σ4.μ.V = upd σ.μ.V (8, s, 0) 1 := V4.trans sv;have c4' : σ4.c = σ.c := c4;refine .step (e4l _ _ _ _ _ _ _ _ _ _ _ _ _ hx (by rw [V4', upd_ne (by simp)]; exact hm _ (by omega)) (by rw [c4']; omega)) ?_;refine .last (e5 _ _ _ _ _ _ _ _ _ _ _ _ hx) (k _ ⟨c4', ?_, O4⟩);show upd σ4.μ.V (8, s, 0) 0 = σ.μ.V;rw [V4'];exact nN h8 1
theorem N9 (hx : x.op = 3) (i o : Nat) (f : Bool) (w q : Nat) (mk : Int) (tp : Nat) (cd now : Int) (h2 : aR (σ.μ.V (11, (o : Int), 0)) = 2) (h8 : σ.μ.V (8, s, 0) = 0) (hq : σ.μ.V (2, 0, 0) = 0) (hh : f8 σ s x.flow 0 = true)
 (w1 : cQ (σ.μ.V (11, (dF σ s 0 : Nat), 0)) = true) (w2 : aR (σ.μ.V (11, (dF σ s 0 : Nat), 0)) ≠ 2) (w3 : aI (σ.μ.V (11, (dF σ s 0 : Nat), 0)) < 2305843009213693951)
 (hf : ie (σ.μ.V (11, (dF σ s 0 : Nat), 0)) (σ.μ.V (12, (dF σ s 0 : Nat), 0)) (au σ (dF σ s 0)).length = false)
 (k : ∀ σ', Iv σ σ' (dF σ s 0) x → P σ' 0) : gj 15 σ ⟨who, x, s, 7, i, o, f, w, q, mk, tp, cd⟩ now P := by
 refine .step (e7s _ _ _ _ _ _ _ _ _ _ _ _ _ hx h2) ?_;refine .step (e3 _ _ _ _ _ _ _ _ _ _ _ _ _ hx h8) ?_;have sv : ((σ.μ.acc who 1 (11, (o : Int), 0)).swp who (8, s, 0) 0 1).V = upd σ.μ.V (8, s, 0) 1 := mL (μ := σ.μ.acc who 1 (11, (o : Int), 0)) h8;obtain ⟨σ3, h3⟩ : ∃ σ3, σ3 = (σ.mem (σ.μ.acc who 1 (11, (o : Int), 0))).mem ((σ.mem (σ.μ.acc who 1 (11, (o : Int), 0))).μ.swp who (8, s, 0) 0 1) := ⟨_, rfl⟩
 have V3 : σ3.μ.V = upd σ.μ.V (8, s, 0) 1 := by rw [h3]; exact sv
 have c3 : σ3.c = σ.c := by rw [h3]
 have O3 : σ3.obs = σ.obs := by rw [h3]
 rw [← h3]
 have ev : σ3.μ.V (10, s, ((0 : Nat) : Int)) = σ.μ.V (10, s, ((0 : Nat) : Int)) := by rw [V3, upd_ne (by simp)]
 refine .step (e4h _ _ _ _ _ _ _ _ _ _ _ _ _ hx (by rw [ev]; exact hh)) ?_;rw [show σ3.μ.V (10, s, ((0 : Nat) : Int)) % 4294967296 = dF σ s 0 from by rw [ev]];refine .step (e5t _ _ _ _ _ _ _ _ _ _ _ _ hx) ?_;obtain ⟨σ5, h5⟩ : ∃ σ5, σ5 = (σ3.mem (σ3.μ.acc who 1 (10, s, ((0 : Nat) : Int)))).mem ((((σ3.mem (σ3.μ.acc who 1 (10, s, ((0 : Nat) : Int)))).μ.acc who 2 (8, s, 0))).put (8, s, 0) 0) := ⟨_, rfl⟩;rw [← h5]
 have V5 : σ5.μ.V = σ.μ.V := by
  rw [h5];show upd σ3.μ.V (8, s, 0) 0 = _;rw [V3];exact nN h8 1
 have am : Sm σ σ5 := ⟨by rw [h5]; exact c3, V5, by rw [h5]; exact O3⟩
 have ec : au σ5 (dF σ s 0) = au σ (dF σ s 0) := by unfold au; rw [am.obs]
 exact I4 hx _ _ _ _ _ _ _ _ _ (by rw [V5]; exact w1) (by rw [V5]; exact w2) (by rw [V5]; exact w3) (by rw [V5]; exact hq)
  (fun g => by rw [V5, ec, hf] at g; cases g) (fun _ σ' a => k σ' (Iv.of_sm am a))
theorem GF (hx : x.op = 3) (n : Nat) (i o : Nat) (f : Bool) (w q : Nat) (mk : Int) (tp : Nat) (cd now : Int) (h : σ.μ.V (11, (o : Int), 0) ≠ w)
 (k : ∀ σ' now', Sm3 σ σ' → gj n σ' ⟨who, x, s, 7, i, o, f, w, q, mk, tp, cd⟩ now' P) : gj (n + 1 + 1 + 1) σ ⟨who, x, s, 12, i, o, f, w, q, mk, tp, cd⟩ now P := by
 refine .step (e12 _ _ _ _ _ _ _ _ _ _ _ _ _ hx) ?_;have h' : (σ.mem (σ.μ.cnt who (3, 0, 0) 4294967296)).μ.V (11, (o : Int), 0) ≠ w := fun e => h (Eq.trans (Eq.trans (congrFun (zw _ _ _ _) _) (upd_ne (by simp))).symm e);refine .step (aaO _ _ _ _ _ _ _ _ _ _ _ _ _ hx h') ?_;refine .step (e20 _ _ _ _ _ _ _ _ _ _ _ _ _ hx) (k _ _ ⟨rfl, fun l hl => ?_, rfl⟩);refine Eq.trans (congrFun (zw _ _ _ _) l) (Eq.trans (upd_ne (fun e => hl (by rw [e]))) ?_);refine Eq.trans (congrFun (QA h') l) ?_;exact Eq.trans (congrFun (zw _ _ _ _) l) (upd_ne (fun e => hl (by rw [e])))
end
abbrev pe (c : fM) : Int := ((1 : Int).tmod c.sh + c.sh).tmod c.sh
structure F1 (c : fM) (σ : aL) : Prop where
 cf : σ.c = c
 V : σ.μ.V = upd (fun _ => 0) (10, pe c, ((0 : Nat) : Int)) (cq 1 0)
 obs : ∃ ob, σ.obs = [(ob, [w6])]
structure F3 (c : fM) (σ : aL) : Prop where
 cf : σ.c = c
 V : ∀ l : cE, l.1 ≠ 3 → σ.μ.V l = upd (fun _ => 0) (11, ((0 : Nat) : Int), 0) 4611686018427387904 l
 obs : ∃ ob, σ.obs = [(ob, [w6])]
structure F4 (c : fM) (σ : aL) : Prop where
 cf : σ.c = c
 V : ∀ l : cE, l.1 ≠ 3 → σ.μ.V l = upd (upd (fun _ => 0) (11, ((0 : Nat) : Int), 0) 4611686018427387904) (10, pe c, ((0 : Nat) : Int)) (cq 1 1) l
 obs : ∃ ob ob2, σ.obs = [(ob, [w6]), (ob2, [w6])]
theorem YR (o : Nat) (h : o < 4294967296) : fe (cq 1 o) 1 = true := by
 unfold fe cq;apply dI;omega
theorem YC (c : fM) (hc : bW c = true) (wt : Int) (hw : 1 ≤ wt ∧ wt ≤ 100) : gj 30 ((aL.made c 0).begin 0 0) (Tk.newA c 0 ⟨1, 1, wt, 1⟩) 0 fun σ' code => code = 0 ∧ F1 c σ' := by
 have hsl := bx.1 hc
 have hr : hM ⟨1, 1, wt, 1⟩ = none := by
  unfold hM;rw [if_pos rfl, if_neg (by unfold ol; dsimp only; omega)];dsimp only;rw [if_neg (by omega), if_neg (by omega)]
 rw [show Tk.newA c 0 ⟨1, 1, wt, 1⟩ = Tk.newR c 0 ⟨1, 1, wt, 1⟩ from if_neg (by simp)];refine .mono (n := c.sl.toNat + 11) (by omega) ?_;refine RD (σ := (aL.made c 0).begin 0 0) rfl 0 hc rfl (fun e h => by rw [hr] at h; cases h) (fun _ j _ hj => ?_) (fun _ _ h => ?_) (fun _ _ m _ _ hm σ' a => ?_)
 ·exact absurd rfl (Tj hj)
 ·exact absurd rfl (h 0 (by show 0 < c.sl.toNat; omega))
 ·obtain rfl : m = 0 := by
   rcases Nat.eq_zero_or_pos m with h | h
   ·exact h
   ·exact absurd rfl (hm 0 h)
  exact ⟨rfl, a.c, a.V, _, a.obs⟩
def t5 (c : fM) (size : Int) : Nat → Tk
 | 0 => ⟨1, ⟨3, 1, size, 5⟩, pe c, 0, 0, 0, false, 0, 0, 0, 0, 0⟩
 | 1 => ⟨1, ⟨3, 1, size, 5⟩, pe c, 6, 1, 0, true, 0, 0, 0, 0, 0⟩
 | 2 => ⟨1, ⟨3, 1, size, 5⟩, pe c, 7, 1, 0, true, 0, 0, 0, 0, 0⟩
 | 3 => ⟨1, ⟨3, 1, size, 5⟩, pe c, 8, 1, 0, true, 0, 0, 0, 0, 0⟩
 | _ => ⟨1, ⟨3, 1, size, 5⟩, pe c, 12, 1, 0, true, 0, 0, 0, 0, 0⟩
theorem Xl (c : fM) (size : Int) (hz : 1 ≤ size ∧ size ≤ 100) {σ : aL} (F : F1 c σ) (j : Nat) (hj : j < 4) (now : Int) : ∃ σ', bq σ (t5 c size j) now = (σ', t5 c size (j + 1), false) ∧ F1 c σ' := by
 obtain ⟨fc, fV, ob, fO⟩ := F
 have v11 : σ.μ.V (11, ((0 : Nat) : Int), 0) = 0 := by rw [fV, upd_ne (by simp)]
 have v12 : σ.μ.V (12, ((0 : Nat) : Int), 0) = 0 := by rw [fV, upd_ne (by simp)]
 have v10 : σ.μ.V (10, pe c, ((0 : Nat) : Int)) = cq 1 0 := by rw [fV, jR]
 have hr : dM ⟨3, 1, size, 5⟩ = none := by
  unfold dM;dsimp only;rw [if_neg (by omega), if_neg (by omega)]
 have : j = 0 ∨ j = 1 ∨ j = 2 ∨ j = 3 := by omega
 rcases this with rfl | rfl | rfl | rfl
 ·refine ⟨σ.mem (σ.μ.acc 1 1 (10, pe c, ((0 : Nat) : Int))), (e0 _ _ _ _ _ _ _ _ _ _ _ _ _ rfl hr).trans ((e2h _ _ _ _ _ _ _ _ _ _ _ _ _ rfl (by rw [v10]; exact YR 0 (by omega))).trans ?_), ⟨fc, fV, ob, fO⟩⟩
  rw [v10, lA (by omega)]
  rfl
 ·exact ⟨_, e6 _ _ _ _ _ _ _ _ _ _ _ _ _ rfl, ⟨fc, fV, ob, fO⟩⟩
 ·refine ⟨σ.mem (σ.μ.acc 1 1 (11, ((0 : Nat) : Int), 0)), (e7 _ _ _ _ _ _ _ _ _ _ _ _ _ rfl (by rw [v11]; decide)).trans ?_, ⟨fc, fV, ob, fO⟩⟩
  rw [v11]
  rfl
 ·refine ⟨_, e8r _ _ _ _ _ _ _ _ _ _ _ _ _ rfl (by rw [v12]; unfold au; rw [fO]; rfl) (by decide), ⟨fc, fV, ob, fO⟩⟩
theorem V7 (c : fM) (hc : bW c = true) {σ : aL} (F : F1 c σ) (place now : Int) : gj 30 (σ.begin 0 place) (Tk.newA σ.c 0 ⟨2, 1, 0, 0⟩) now fun σ' code => code = 0 ∧ F3 c σ' := by
 obtain ⟨fc, fV, ob, fO⟩ := F;have hsl := bx.1 hc
 have v10 : σ.μ.V (10, pe c, ((0 : Nat) : Int)) = cq 1 0 := by rw [fV, jR]
 have hh : f8 σ (pe c) 1 0 = true := by show fe (σ.μ.V (10, pe c, ((0 : Nat) : Int))) 1 = true; rw [v10]; exact YR 0 (by omega)
 have ho : dF σ (pe c) 0 = 0 := by show σ.μ.V (10, pe c, ((0 : Nat) : Int)) % 4294967296 = 0; rw [v10]; exact lA (by omega)
 have hj0 : ∀ j, j < σ.c.sl.toNat → f8 σ (pe c) 1 j = true → (∀ i, i < j → f8 σ (pe c) 1 i = false) → j = 0 := fun j _ _ hb => by
  rcases Nat.eq_zero_or_pos j with h | h
  ·exact h
  ·have := hb 0 h; rw [hh] at this; cases this
 have v11 : σ.μ.V (11, ((0 : Nat) : Int), 0) = 0 := by rw [fV, upd_ne (by simp)]
 rw [show Tk.newA σ.c 0 ⟨2, 1, 0, 0⟩ = ⟨0, ⟨2, 1, 0, 0⟩, pe c, 0, 0, 0, false, 0, 0, -1, 0, 0⟩ from by rw [fc]; exact if_neg (by simp)];refine .mono (n := σ.c.sl.toNat + 11) (by rw [fc]; omega) ?_;refine YD (σ := σ.begin 0 place) (x := ⟨2, 1, 0, 0⟩) (by simp) (by simp) now (by show bW σ.c = true; rw [fc]; exact hc) (by show σ.μ.V _ = 0; rw [fV, upd_ne (by simp)]) (by show σ.μ.V _ = 0; rw [fV, upd_ne (by simp)]) (fun e h => ?_) (fun _ h => ?_) (fun _ j hj hjh hb hs => ?_) (fun _ j hj hjh hb _ σ' a => ?_)
 ·have : hM ⟨2, 1, 0, 0⟩ = none := by
   unfold hM;rw [if_neg (by simp), if_neg (by unfold ol; dsimp only; omega)]
  rw [this] at h; cases h
 ·have := h 0 (by show 0 < σ.c.sl.toNat; rw [fc]; omega)
  rw [show f8 (σ.begin 0 place) (pe c) 1 0 = f8 σ (pe c) 1 0 from rfl, hh] at this;cases this
 ·obtain rfl := hj0 j hj hjh hb
  exact absurd (by show aR (σ.μ.V (11, ((dF σ (pe c) 0 : Nat) : Int), 0)) = 0; rw [ho, v11]; decide) hs
 ·obtain rfl := hj0 j hj hjh hb
  obtain ⟨a1, a2, a3⟩ := a;have a2' : σ'.μ.V = upd (upd σ.μ.V (11, ((dF σ (pe c) 0 : Nat) : Int), 0) (aI (σ.μ.V (11, ((dF σ (pe c) 0 : Nat) : Int), 0)) + 4611686018427387904)) (10, pe c, ((0 : Nat) : Int)) 0 := a2;rw [ho, v11] at a2';refine ⟨rfl, a1.trans fc, fun l _ => ?_, ob, a3.trans fO⟩;rw [a2', fV];show (if l = (10, pe c, ((0 : Nat) : Int)) then 0 else if l = (11, ((0 : Nat) : Int), 0) then aI 0 + 4611686018427387904 else if l = (10, pe c, ((0 : Nat) : Int)) then cq 1 0 else 0) = if l = (11, ((0 : Nat) : Int), 0) then 4611686018427387904 else 0
  by_cases e : l = (10, pe c, ((0 : Nat) : Int))
  ·rw [if_pos e, if_neg (by rw [e]; simp)]
  ·rw [if_neg e, if_neg e]
   rfl
theorem V8 (c : fM) (hc : bW c = true) {σ : aL} (F : F3 c σ) (place now : Int) : gj 30 (σ.begin 0 place) (Tk.newA σ.c 0 ⟨1, 1, 1, 1⟩) now fun σ' code => code = 0 ∧ F4 c σ' := by
 obtain ⟨fc, fV, ob, fO⟩ := F;have hsl := bx.1 hc
 have v10 : ∀ i : Nat, σ.μ.V (10, pe c, (i : Int)) = 0 := fun i => by rw [fV _ (by simp), upd_ne (by simp)]
 have hr : hM ⟨1, 1, 1, 1⟩ = none := by decide
 rw [show Tk.newA σ.c 0 ⟨1, 1, 1, 1⟩ = ⟨0, ⟨1, 1, 1, 1⟩, pe c, 0, 0, 0, false, 0, 0, -1, 0, 0⟩ from by rw [fc]; exact if_neg (by simp)];refine .mono (n := σ.c.sl.toNat + 11) (by rw [fc]; omega) ?_;refine RD (σ := σ.begin 0 place) (x := ⟨1, 1, 1, 1⟩) rfl now (by show bW σ.c = true; rw [fc]; exact hc) (by show σ.μ.V _ = 0; rw [fV _ (by simp), upd_ne (by simp)]) (fun e h => by rw [hr] at h; cases h) (fun _ j _ hj => ?_) (fun _ _ h => ?_) (fun _ _ m _ _ hm σ' a => ?_)
 ·exact absurd (v10 j) (Tj hj)
 ·exact absurd (v10 0) (h 0 (by show 0 < σ.c.sl.toNat; rw [fc]; omega))
 ·obtain rfl : m = 0 := by
   rcases Nat.eq_zero_or_pos m with h | h
   ·exact h
   ·exact absurd (v10 0) (hm 0 h)
  obtain ⟨a1, a2, a3⟩ := a;have a2' : σ'.μ.V = upd σ.μ.V (10, pe c, ((0 : Nat) : Int)) (cq 1 σ.obs.length) := a2;have a3' : σ'.obs = σ.obs ++ [((⟨1, 1, max (σ.c.un / (1 : Int).toNat) 1⟩ : Ob), List.replicate (dA 1) w6)] := a3;rw [fO] at a2' a3';refine ⟨rfl, a1.trans fc, fun l hl => ?_, ob, _, a3'⟩;rw [a2'];show (if l = (10, pe c, ((0 : Nat) : Int)) then cq 1 1 else σ.μ.V l) = if l = (10, pe c, ((0 : Nat) : Int)) then cq 1 1 else _;rw [fV l hl]
def FW (again : Bool) (size : Int) (σ : aL) (code : Int) : Prop :=
 σ.μ.V (15, ((0 : Nat) : Int), ((0 : Nat) : Int)) = 0 ∧ (if again = true then code = 0 ∧ σ.obs.length = 2 ∧ σ.μ.V (15, ((1 : Nat) : Int), ((0 : Nat) : Int)) = 1 ∧ au σ 1 = [⟨1, size, 5⟩] else code = 5 ∧ σ.obs.length = 1)
theorem Cz {P : aL → Int → Prop} (c : fM) (size : Int) (j : Nat) (hj : 2 ≤ j ∧ j ≤ 4) {σ : aL} (hv : σ.μ.V (11, ((0 : Nat) : Int), 0) = 4611686018427387904) (h12 : σ.μ.V (12, ((0 : Nat) : Int), 0) = 0) (hl : (au σ 0).length = 1) (now : Int)
 (k : ∀ σ' (i : Nat) (w : Nat) now', Sm3 σ σ' → gj 15 σ' ⟨1, ⟨3, 1, size, 5⟩, pe c, 7, i, 0, true, w, 0, 0, 0, 0⟩ now' P) : gj 40 σ (t5 c size j) now P := by
 have : j = 2 ∨ j = 3 ∨ j = 4 := by omega
 rcases this with rfl | rfl | rfl
 ·exact .mono (n := 15) (by omega) (k σ 1 0 now ⟨rfl, fun _ _ => rfl, rfl⟩)
 ·refine .mono (n := 15 + 1 + 1 + 1 + 1) (by omega) ?_
  refine .step (e8r _ _ _ _ _ _ _ _ _ _ _ _ _ rfl (by rw [h12, hl]; rfl) (by decide)) ?_;refine GF (x := ⟨3, 1, size, 5⟩) rfl 15 _ _ _ _ _ _ _ _ _ (by show σ.μ.V _ ≠ 0; rw [hv]; omega) fun σ' now' a => k σ' _ _ now' ⟨a.c, a.V, a.obs⟩
 ·refine .mono (n := 15 + 1 + 1 + 1) (by omega) ?_
  exact GF (x := ⟨3, 1, size, 5⟩) rfl 15 _ _ _ _ _ _ _ _ _ (by rw [hv]; omega) fun σ' now' a => k σ' _ _ now' a
theorem V9 (c : fM) (hc : bW c = true) (size : Int) (j : Nat) (hj : 2 ≤ j ∧ j ≤ 4) {σ : aL} (F : F3 c σ) (now : Int) : gj 40 σ (t5 c size j) now (FW false size) := by
 obtain ⟨fc, fV, ob, fO⟩ := F;refine Cz c size j hj (by rw [fV _ (by simp), jR]) (by rw [fV _ (by simp), upd_ne (by simp)]) (by unfold au; rw [fO]; rfl) now fun σ' i w now' a => ?_;obtain ⟨a1, a2, a3⟩ := a;have fV' : ∀ l : cE, l.1 ≠ 3 → σ'.μ.V l = upd (fun _ => 0) (11, ((0 : Nat) : Int), 0) 4611686018427387904 l := fun l hl => (a2 l hl).trans (fV l hl);refine .mono (n := 8) (by omega) (I3 (σ := σ') rfl _ _ _ _ _ _ _ _ _ (by rw [a1, fc]; exact hc) (by rw [fV' _ (by simp), jR]; decide) (by rw [fV' _ (by simp), upd_ne (by simp)]) (fun i _ => ?_) fun σ2 b => ⟨?_, ?_⟩)
 ·show fe (σ'.μ.V _) 1 = false
  rw [fV' _ (by simp), upd_ne (by simp)]
  rfl
 ·rw [b.V, fV' _ (by simp), upd_ne (by simp)]
 ·rw [if_neg (by simp), b.obs, a3, fO]
  exact ⟨rfl, rfl⟩
theorem RE (c : fM) (size : Int) (j : Nat) (hj : 2 ≤ j ∧ j ≤ 4) {σ : aL} (F : F4 c σ) (now : Int) : gj 40 σ (t5 c size j) now (FW true size) := by
 obtain ⟨fc, fV, ob, ob2, fO⟩ := F;refine Cz c size j hj (by rw [fV _ (by simp), upd_ne (by simp), jR]) (by rw [fV _ (by simp), upd_ne (by simp), upd_ne (by simp)]) (by unfold au; rw [fO]; rfl) now fun σ' i w now' a => ?_;obtain ⟨a1, a2, a3⟩ := a;have fV' : ∀ l : cE, l.1 ≠ 3 → σ'.μ.V l = upd (upd (fun _ => 0) (11, ((0 : Nat) : Int), 0) 4611686018427387904) (10, pe c, ((0 : Nat) : Int)) (cq 1 1) l := fun l hl => (a2 l hl).trans (fV l hl)
 have v10 : σ'.μ.V (10, pe c, ((0 : Nat) : Int)) = cq 1 1 := by rw [fV' _ (by simp), jR]
 have ho : dF σ' (pe c) 0 = 1 := by show σ'.μ.V _ % 4294967296 = 1; rw [v10]; exact lA (by omega)
 have v11 : σ'.μ.V (11, ((dF σ' (pe c) 0 : Nat) : Int), 0) = 0 := by rw [ho, fV' _ (by simp), upd_ne (by simp), upd_ne (by simp)]
 have vc : au σ' 1 = [w6] := by unfold au; rw [a3, fO]; rfl
 refine N9 (σ := σ') (x := ⟨3, 1, size, 5⟩) rfl _ _ _ _ _ _ _ _ _ (by rw [fV' _ (by simp), upd_ne (by simp), jR]; decide) (by rw [fV' _ (by simp), upd_ne (by simp), upd_ne (by simp)]) (by rw [fV' _ (by simp), upd_ne (by simp), upd_ne (by simp)]) (by show fe (σ'.μ.V _) 1 = true; rw [v10]; exact YR 1 (by omega))
  (by rw [v11]; rfl) (by rw [v11]; decide) (by rw [v11]; decide) (by rw [v11, ho, fV' _ (by simp), upd_ne (by simp), upd_ne (by simp), vc]; rfl) fun σ2 b => ?_
 rw [ho] at b;rw [ho] at v11;obtain ⟨b1, b2, b3, b4, b5⟩ := b
 have ek : oG σ' 1 (σ'.μ.V (11, ((1 : Nat) : Int), 0)) = 0 := by unfold oG; rw [vc]; exact Nat.mod_one _
 rw [ek, v11] at b3;rw [ek] at b4 b5;refine ⟨?_, ?_⟩
 ·rw [b4 _ (by simp) (by simp) (by simp) (by simp), fV' _ (by simp), upd_ne (by simp), upd_ne (by simp)]
 ·rw [if_pos rfl]
  refine ⟨rfl, by rw [b5, a3, fO]; rfl, b3, ?_⟩;unfold au;rw [b5, a3, fO]
  rfl
theorem Z2 (c : fM) (size : Int) (j : Nat) : (t5 c size j).x = ⟨3, 1, size, 5⟩ := by
 unfold t5
 split <;> rfl
theorem Jz (x : Pk) : aq (.flat 3) .eql (.agg (Pk.cells x).toArray) (.agg (Pk.cells x).toArray) = some (vb true) := by
 show (oo (.flat 3) (.agg #[vi x.flow, vi x.len, vi x.mark]) (.agg #[vi x.flow, vi x.len, vi x.mark])).map (fun b => Value.bool b) = _;simp only [oo];rw [if_pos ⟨rfl, rfl⟩];simp [bI]
section
variable (p x : Nat)
theorem NO {rp : List Nat} {σ : aL} {K : Nat} (S : SI σ K) (hK : K < 200000) (again : Bool) (size code : Int) (O : FW again size σ code) {pb qb : Nat} {R : SP} {H : AH}
 (h : ae (blk pb (.cells false [vp p, vp x]) * (blk qb (.cells false (dX code)) * (bf p rp σ * R))) H) (want : Int) (hw : want = if again = true then 0 else 5) :
 wp (ld [.f 0] (vp qb) H fun v23 =>
 (aq .other .neq v23 (vi want)).bind fun v24 =>
 fT v24 false  [.f 0] (vp pb) H fun v25 =>
 (gE v24 false H (FF bS [v25, (vi 0)] H)).bind fun r26 =>
 (gB v24 false (aq .ptr .eql r26.1 (.pointer none))).bind fun v27 =>
 (aX v24 (vb true) v27).bind fun v28 =>
 fT v28 false  [.f 0] (vp pb) r26.2 fun v29 =>
 (gE v28 false r26.2 (FF bS [v29, (vi 0)] r26.2)).bind fun r30 =>
 (gE v28 false r30.2 (FF dw [r30.1, (vi 0), (vw 0)] r30.2)).bind fun r31 =>
 (aX v28 (vb true) r31.1).bind fun v32 =>
 ax v32
 (some ((vb false), r31.2))
 ((mD .not (vb again)).bind fun v33 =>
 ax v33
 (ld [.f 0] (vp pb) r31.2 fun v34 =>
 (FF fI [v34] r31.2).bind fun r35 =>
 (aq .other .eql r35.1 (vi 1)).bind fun v36 =>
 some (v36, r35.2))
 (ld [.f 0] (vp pb) r31.2 fun v37 =>
 (FF bS [v37, (vi 1)] r31.2).bind fun r38 =>
 (aq .ptr .neq r38.1 (.pointer none)).bind fun v39 =>
 (gV v39 true r38.1).bind fun v40 =>
 (gE v39 true r38.2 (FF dw [v40, (vi 0), (vw 0)] r38.2)).bind fun r41 =>
 (aX v39 r41.1 (vb false)).bind fun v42 =>
 (gV v42 true r38.1).bind fun v43 =>
 (gE v42 true r41.2 (FF iw [v43, (vi 0), (vw 0)] r41.2)).bind fun r44 =>
 (gV v42 true (vi size)).bind fun v45 =>
 (BN (yv v42) true (gC [(0, 1), (1, 1), (2, 1)] [(vi 0), (vi 0), (vi 0)] [(0, (vi 1)), (1, v45), (2, (vi 5))] some) (some undef)).bind fun v46 =>
 (gB v42 true (aq (.flat 3) .eql r44.1 v46)).bind fun v47 =>
 (aX v42 v47 (vb false)).bind fun v48 =>
 some (v48, r44.2)))) fun v' _ => v' = vb true := by
 have hobs : 0 < σ.obs.length := by
  have o2 := O.2;cases again
  ·rw [if_neg (by simp)] at o2; omega
  ·rw [if_pos rfl] at o2; omega
 have hcode : code = want := by
  have o2 := O.2;rw [hw];cases again
  ·rw [if_neg (by simp)] at o2 ⊢; exact o2.1
  ·rw [if_pos rfl] at o2 ⊢; exact o2.1
 subst hcode;have hN := S.N;refine ak h aK rfl ?_;refine aa (p7 rfl) ?_;refine gs ?_;refine ak h aK rfl ?_;refine gs ?_;obtain ⟨g, hrp, hg, h1⟩ := eE (p := p) (rp := rp) (σ := σ) (R := blk pb (.cells false [vp p, vp x])) (H := H) h.to
 have hg' : g.rp.length = σ.obs.length := by rw [hrp]; exact hg
 obtain ⟨b0, hb0⟩ : ∃ b0, g.rp[0]? = some b0 := ⟨_, cM (by omega)⟩;refine ag h1 (kj (p := p) (g := g) (σ := σ) hg' 0 b0 hobs hb0) fun _ H2 h2 => ?_;refine gs ?_;refine aa (sN _) ?_;refine gs ?_;refine ak h2 aK rfl ?_;refine gs ?_;refine ag h2 (kj (p := p) (g := g) (σ := σ) hg' 0 b0 hobs hb0) fun _ H3 h3 => ?_;refine gs ?_;refine ag h3 (gD (p := p) hg' hobs hb0 (Bh g.m 0 b0 (au σ 0) σ.μ 0 0 (by omega) (S.cells 0 hobs) (by omega))) fun _ H4 h4 => ?_;rw [Nat.zero_mod, O.1, show decide ((0 : Nat) = 0 + 1) = false from rfl];refine gs ?_;obtain ⟨σ1, hσ1⟩ : ∃ σ1, σ1 = σ.mem (σ.μ.acc 0 1 (15, ((0 : Nat) : Int), ((0 : Nat) : Int))) := ⟨_, rfl⟩;rw [Nat.zero_mod, ← hσ1] at h4
 have o1 : σ1.obs = σ.obs := by rw [hσ1]
 have V1 : σ1.μ.V = σ.μ.V := by rw [hσ1]
 have N1 : σ1.μ.N = σ.μ.N + 2 := by rw [hσ1]
 have hg1 : g.rp.length = σ1.obs.length := by rw [o1]; exact hg'
 cases again
 ·have o2 := O.2
  rw [if_neg (by simp)] at o2;rw [Bool.not_false];refine gs ?_;refine ak h4 aK rfl ?_;refine ag h4 (JV (p := p) (g := g) (σ := σ1) hg1) fun _ H5 h5 => ?_;refine aa (bw (by rw [o1, o2.2]; rfl)) ?_;exact ap rfl
 ·have o2 := O.2
  rw [if_pos rfl] at o2;obtain ⟨_, q2, q3, q4⟩ := o2;rw [Bool.not_true];refine gs ?_;obtain ⟨b1, hb1⟩ : ∃ b1, g.rp[1]? = some b1 := ⟨_, cM (by omega)⟩
  have ho1 : 1 < σ1.obs.length := by rw [o1]; omega
  have c1 : au σ1 1 = [⟨1, size, 5⟩] := by
   unfold au at q4 ⊢;rw [o1];exact q4
  refine ak h4 aK rfl ?_;refine ag h4 (kj (p := p) (g := g) (σ := σ1) hg1 1 b1 ho1 hb1) fun _ H5 h5 => ?_;refine aa (W0 _) ?_;refine gs ?_;refine ag h5 (gD (p := p) hg1 ho1 hb1 (Bh g.m 1 b1 (au σ1 1) σ1.μ 0 0 (by omega) (by rw [c1]; simp) (by omega))) fun _ H6 h6 => ?_;rw [Nat.zero_mod, V1, q3, show decide ((1 : Nat) = 0 + 1) = true from rfl];refine gs ?_;rw [Nat.zero_mod] at h6;obtain ⟨σ2, hσ2⟩ : ∃ σ2, σ2 = σ1.mem (σ1.μ.acc 0 1 (15, ((1 : Nat) : Int), ((0 : Nat) : Int))) := ⟨_, rfl⟩;rw [← hσ2] at h6
  have c2 : au σ2 1 = [⟨1, size, 5⟩] := by rw [hσ2]; exact c1
  have N2 : σ2.μ.N = σ1.μ.N + 2 := by rw [hσ2]
  have ho2 : 1 < σ2.obs.length := by rw [hσ2]; exact ho1
  have hg2 : g.rp.length = σ2.obs.length := by rw [hσ2]; exact hg1
  refine ag h6 (gD (p := p) hg2 ho2 hb1 (Uy g.m 1 b1 (au σ2 1) σ2.μ 0 0 (by rw [c2]; simp) (by omega))) fun _ H7 h7 => ?_
  have e : (au σ2 1)[0 % (au σ2 1).length]'(by rw [c2]; exact Nat.mod_lt _ (by simp)) = ⟨1, size, 5⟩ := by
   simp only [c2]
   rfl
  rw [e];refine gs ?_;refine aa (v := .agg (Pk.cells ⟨1, size, 5⟩).toArray) rfl ?_;refine gs ?_;refine aa (Jz _) ?_;refine gs ?_;exact ap rfl
theorem IA (again : Bool) (size want : Int) (hw : want = if again = true then 0 else 5) (pb tb e xb : Nat) (x10 : Value) (res : aL × Tk × Int) (O : FW again size res.1 res.2.1.code) {R : SP} :
 ∀ (fuel k K now : Nat) (rp : List Nat) (σ : aL) (t : Tk) (H : AH), k + fuel = 40 → iA fuel σ t (now : Int) = some res → SI σ K → vk σ t → t.x.op = 3 → K + 3 * fuel < 200000 → now + fuel < 100000 →
  ae (blk pb (.cells false [vp p, vp x]) * (blk tb (.cells false (FK 3 e xb)) * (aT e p rp t * (bf p rp σ * (zT xb x t * (aJ x σ * R)))))) H →
  wp (im (vi size) (vb again) x10 (vp pb) (vi (now : Int)) (vp tb) (vi want) (vi (k : Int)) H) fun v' _ => v' = vb true := by
 intro fuel
 induction fuel with
 | zero => intro k K now rp σ t H _ h; cases h
 | succ fuel ih =>
  intro k K now rp σ t H hk ha S T ho hK hn h;have K1 := oB (now : Int) (by omega) S T;unfold iA at ha;refine ai (su ..) ?_;refine aa (eO (by omega)) ?_;refine gs ?_;refine ai (sw ..) ?_;refine aV h ?_;refine aV h ?_;have law := wG p x rp e xb σ t (now : Int) K S (by omega) T;obtain ⟨r, hr⟩ : ∃ r, r = bq σ t (now : Int) := ⟨_, rfl⟩;rw [← hr] at law ha K1;rw [ho] at law;refine ag h law fun rp' H2 h3 => ?_;rw [aj, ae.pu] at h3;obtain ⟨hpre, h3⟩ := h3;refine aa (v := .agg (dX (if r.2.2 = true then r.2.1.code else 0)).toArray) rfl ?_;refine aa (v := vb r.2.2) rfl ?_;refine aa (v := vb true) rfl ?_;refine bm h3 fun qb H3 h4 => ?_;refine eG h4 rfl rfl fun H4 h5 => ?_;refine gs ?_;rw [Bool.not_true];refine gs ?_;refine aa (bu (by omega) (by omega)) ?_;rw [show ((now : Nat) : Int) + 1 = ((now + 1 : Nat) : Int) from by omega];cases hd : r.2.2
  ·rw [hd] at ha
   rw [if_neg (by simp)] at ha;refine gs ?_;refine ai (sx ..) ?_;refine aa (bu (by omega) (by omega)) ?_;rw [show ((k : Nat) : Int) + 1 = ((k + 1 : Nat) : Int) from by omega];rw [Q7 hd, VE hd] at h5;exact ih (k + 1) (K + 3) (now + 1) rp' _ _ H4 (by omega) (by rw [← ha]; congr 1) K1.si (K1.ok hd) (by rw [K1.x]; exact ho) (by omega) (by omega) h5.to
  ·rw [hd, if_pos rfl] at ha
   obtain rfl := hF ha;rw [hd, if_pos rfl] at h5;refine gs ?_;exact NO p x (rp := rp') (σ := r.1) (K := K + 3) K1.si (by omega) again size r.2.1.code O (R := emp) h5.to want hw
theorem F9 (again : Bool) (size want : Int) (hw : want = if again = true then 0 else 5) (c : fM) (j : Nat) (pb tb e xb : Nat) (x10 : Value) {R : SP} {K now : Nat} {rp : List Nat} {σ : aL} {H : AH}
 (E : gj 40 σ (t5 c size j) (now : Int) (FW again size)) (S : SI σ K) (T : vk σ (t5 c size j)) (hK : K < 10000) (hn : now < 10000)
 (h : ae (blk pb (.cells false [vp p, vp x]) * (blk tb (.cells false (FK 3 e xb)) * (aT e p rp (t5 c size j) * (bf p rp σ * (zT xb x (t5 c size j) * (aJ x σ * R)))))) H) :
 wp (il (vi size) (vb again) x10 (vp pb) (vi (now : Int)) (vp tb) (vi want) H) fun v' _ => v' = vb true := by
 obtain ⟨res, h1, h2⟩ := E;refine ai (sr ..) ?_;refine ai (ss ..) ?_;exact IA p x again size want hw pb tb e xb x10 res h2 40 0 K now rp σ (t5 c size j) H (by omega) h1 S T (by rw [Z2]) (by omega) (by omega) h
theorem F7 (again : Bool) (size : Int) (c : fM) (hc : bW c = true) (j : Nat) (hj : 2 ≤ j ∧ j ≤ 4) (pb qb tb e xb : Nat) (x10 : Value) {R : SP} {K now : Nat} {rp : List Nat} {σ : aL} {H : AH}
 (F : F1 c σ) (S : SI σ K) (T : vk σ (t5 c size j)) (hK : K < 1000) (hn : now < 1000)
 (h : ae (blk pb (.cells false [vp p, vp x]) * (blk qb (.cells false (dX 0)) * (blk tb (.cells false (FK 3 e xb)) * (aT e p rp (t5 c size j) * (bf p rp σ * (zT xb x (t5 c size j) * (aJ x σ * R))))))) H) :
 wp (kw (vi size) (vb again) x10 (vp pb) (vp qb) (vi (now : Int)) (vp tb) H) fun v' _ => v' = vb true := by
 obtain ⟨res, ha, hcode, F3'⟩ := V7 c hc F 1 (now : Int);obtain ⟨k1, k2, k3, k4⟩ := pi 30 _ _ _ (K + 1) res (S.begin 0 1) (vk.new' S.c 0 1 ⟨2, 1, 0, 0⟩) (by omega) ha;refine ai (so ..) ?_;refine aV h ?_;refine iU ?_;refine ag h (vr p x rp σ K S 0 1 ⟨2, 1, 0, 0⟩ (now : Int) 30 (by omega) (by omega) (by omega) res ha) fun rp' H2 h2 => ?_;rw [aj, ae.pu] at h2;obtain ⟨hpre, h2⟩ := h2;rw [hcode];refine aa (v := .agg (dX 0).toArray) rfl ?_;refine aa (v := vi res.2.2) rfl ?_;refine aa (v := vb true) rfl ?_;refine eG h2 rfl rfl fun H3 h3 => ?_;refine gs ?_;rw [Bool.not_true];refine gs ?_;refine ak h3 aK rfl ?_;refine gs ?_;refine aa (p7 rfl) ?_;refine gs ?_;obtain ⟨n2, hn2⟩ : ∃ n2 : Nat, res.2.2 = (n2 : Int) := ⟨res.2.2.toNat, by omega⟩;rw [hn2];have T2 : vk res.1 (t5 c size j) := T.mono k2 (by obtain ⟨_, e1⟩ := F.obs; obtain ⟨_, e3⟩ := F3'.obs; rw [e1, e3]; exact bK _);have h4 : ae (aT e p rp (t5 c size j) * (blk pb (.cells false [vp p, vp x]) * (blk qb (.cells false (dX 0)) * (blk tb (.cells false (FK 3 e xb)) * (bf p rp' res.1 * (zT xb x (t5 c size j) * (aJ x res.1 * R))))))) H3 := h3.to;have h5 := KW hpre h4;refine ai (sq ..) ?_;cases again
 ·refine gs ?_
  exact F9 p x false size 5 rfl c j pb tb e xb x10 (rp := rp') (V9 c hc size j hj F3' (n2 : Int)) k1 T2 (by omega) (by omega) (R := R) h5.to
 ·refine gs ?_
  obtain ⟨res2, ha2, hcode2, F4'⟩ := V8 c hc F3' 2 (n2 : Int);obtain ⟨l1, l2, l3, l4⟩ := pi 30 _ _ _ (K + 1 + 3 * 30 + 1) res2 (k1.begin 0 2) (vk.new' k1.c 0 2 ⟨1, 1, 1, 1⟩) (by omega) ha2;have h6 : ae (blk pb (.cells false [vp p, vp x]) * (blk qb (.cells false (dX 0)) * (blk tb (.cells false (FK 3 e xb)) * (aT e p rp' (t5 c size j) * (bf p rp' res.1 * (zT xb x (t5 c size j) * (aJ x res.1 * R))))))) H3 := h5.to;refine aV h6 ?_;refine iU ?_;refine ag h6 (vr p x rp' res.1 (K + 1 + 3 * 30) k1 0 2 ⟨1, 1, 1, 1⟩ (n2 : Int) 30 (by omega) (by omega) (by omega) res2 ha2) fun rp2 H7 h7 => ?_;rw [aj, ae.pu] at h7;obtain ⟨hpre2, h7⟩ := h7;rw [hcode2];refine aa (v := .agg (dX 0).toArray) rfl ?_;refine aa (v := vi res2.2.2) rfl ?_;refine aa (v := vb true) rfl ?_;refine eG h7 rfl rfl fun H8 h8 => ?_;refine gs ?_;rw [Bool.not_true];refine gs ?_;refine ak h8 aK rfl ?_;refine gs ?_;refine aa (p7 rfl) ?_;refine gs ?_;obtain ⟨n3, hn3⟩ : ∃ n3 : Nat, res2.2.2 = (n3 : Int) := ⟨res2.2.2.toNat, by omega⟩;rw [hn3];have T3 : vk res2.1 (t5 c size j) := T2.mono l2 (by obtain ⟨_, e1⟩ := F3'.obs; obtain ⟨_, _, e3⟩ := F4'.obs; rw [e1, e3]; simp);have h9 : ae (aT e p rp' (t5 c size j) * (blk pb (.cells false [vp p, vp x]) * (blk qb (.cells false (dX 0)) * (blk tb (.cells false (FK 3 e xb)) * (bf p rp2 res2.1 * (zT xb x (t5 c size j) * (aJ x res2.1 * R))))))) H8 := h8.to;have h10 := KW hpre2 h9;exact F9 p x true size 0 rfl c j pb tb e xb x10 (rp := rp2) (RE c size j hj F4' (n3 : Int)) l1 T3 (by omega) (by omega) (R := R) h10.to
theorem F8 (again : Bool) (size : Int) (hz : 1 ≤ size ∧ size ≤ 100) (c : fM) (hc : bW c = true) (st : Nat) (hst : 2 ≤ st ∧ st ≤ 4) (pb qb tb e xb : Nat) (x10 : Value) {R : SP} :
 ∀ (d j K now : Nat) (rp : List Nat) (σ : aL) (H : AH), j + d = st → F1 c σ → SI σ K → vk σ (t5 c size j) → K ≤ 500 + 3 * j → now ≤ 100 + j →
 ae (blk pb (.cells false [vp p, vp x]) * (blk qb (.cells false (dX 0)) * (blk tb (.cells false (FK 3 e xb)) * (aT e p rp (t5 c size j) * (bf p rp σ * (zT xb x (t5 c size j) * (aJ x σ * R))))))) H →
 wp (gG (vi size) (vi (st : Int)) (vb again) x10 (vp pb) (vp qb) (vi (now : Int)) (vp tb) (vi (j : Int)) H) fun v' _ => v' = vb true := by
 intro d
 induction d with
 | zero =>
  intro j K now rp σ H hj F S T hK hn h
  obtain rfl : j = st := by omega
  refine ai (kE ..) ?_;refine aa (db (by omega)) ?_;refine gs ?_;refine ai (o9 ..) ?_;exact F7 p x again size c hc j hst pb qb tb e xb x10 F S T (by omega) (by omega) h
 | succ d ih =>
  intro j K now rp σ H hj F S T hK hn h;have K1 := oB (now : Int) (by omega) S T;obtain ⟨σ', es, F'⟩ := Xl c size hz F j (by omega) (now : Int);have law := wG p x rp e xb σ (t5 c size j) (now : Int) K S (by omega) T;rw [es] at law K1;rw [show (t5 c size j).x.op = 3 from by rw [Z2]] at law;refine ai (kE ..) ?_;refine aa (eO (by omega)) ?_;refine gs ?_;refine ai (rm ..) ?_;refine aV h ?_;refine aV h ?_;refine ag h law fun rp' H2 h3 => ?_;rw [aj, ae.pu] at h3;obtain ⟨hpre, h3⟩ := h3;refine aa (v := .agg (dX 0).toArray) rfl ?_;refine aa (v := vb false) rfl ?_;refine aa (v := vb true) rfl ?_;refine bm h3 fun rb H3 h4 => ?_;refine eG h4 rfl rfl fun H4 h5 => ?_;refine gs ?_;rw [Bool.not_true];refine gs ?_;refine aa (bu (by omega) (by omega)) ?_;rw [show ((now : Nat) : Int) + 1 = ((now + 1 : Nat) : Int) from by omega];refine ai (rn ..) ?_;refine aa (bu (by omega) (by omega)) ?_;rw [show ((j : Nat) : Int) + 1 = ((j + 1 : Nat) : Int) from by omega];have h6 := h5;rw [Q7 (r := (σ', t5 c size (j + 1), false)) rfl, VE (r := (σ', t5 c size (j + 1), false)) rfl] at h6;exact ih (j + 1) (K + 3) (now + 1) rp' σ' H4 (by omega) F' K1.si (K1.ok rfl) (by omega) (by omega) h6.to
end
theorem Uo {H0 : AH} (hT : H0.get 0 = some (.cells true tabC)) (c : fM) (size weight steps : Int) (again : Bool) :
 ∃ H', FF i4 [.agg (fM.cells c).toArray, vi size, vi weight, vi steps, vb again] H0 = some (vb true, H') := by
 have key : wp (FF i4 [.agg (fM.cells c).toArray, vi size, vi weight, vi steps, vb again] H0) fun v' _ => v' = vb true := by
  haveI := Rb hT
  refine bj (fun r => xC _ _ _ _ _ H0) ?_;refine bg (l := fM.cells c) (PB H0) fun b1 H1 h1 => ?_;refine aV h1 ?_;refine ag h1 (To c 0 (by omega)) fun q H3 h3 => ?_;obtain ⟨p, x, c'⟩ := q;dsimp only at h3 ⊢;rw [aj, ae.pu] at h3;obtain ⟨hc, h3⟩ := h3;refine aa (v := .agg [vp p, vp x].toArray) rfl ?_;refine aa (v := vb true) rfl ?_;refine bm h3 fun pb H4 h4 => ?_;refine eG h4 rfl rfl fun H5 h5 => ?_;refine QC h5 fun H6 h6 => ?_;refine gs ?_;rw [Bool.not_true];refine gs ?_;rw [Bool.not_true];refine gs ?_;refine KI h6 (by omega) (by omega) fun H7 h7 => ?_;have m1 := mt (v := size) (n := 100) (by omega);refine aa (bu (by omega) (by omega)) ?_;refine KI h7 (by omega) (by omega) fun H8 h8 => ?_;have m2 := mt (v := weight) (n := 100) (by omega);refine aa (bu (by omega) (by omega)) ?_;refine KI h8 (by omega) (by omega) fun H9 h9 => ?_;have m3 := mt (v := steps) (n := 3) (by omega);refine aa (bu (by omega) (by omega)) ?_;obtain ⟨sz, hsz⟩ : ∃ sz, sz = 1 + um size 100 := ⟨_, rfl⟩;obtain ⟨wt, hwt⟩ : ∃ wt, wt = 1 + um weight 100 := ⟨_, rfl⟩;obtain ⟨st, hst⟩ : ∃ st : Nat, (st : Int) = 2 + um steps 3 := ⟨(2 + um steps 3).toNat, by omega⟩;rw [← hsz, ← hwt, ← hst];have M := Hb c' hc 0 (by omega);have M16 : SI (aL.made c' 0) 16 := M.si.mono (by omega);obtain ⟨rp, h10⟩ := TY (p := p) (σ := aL.made c' 0) (R := blk pb (.cells false [vp p, vp x]) * (aJ x (aL.made c' 0) * (blk b1 (.cells false (fM.cells c)) * fix H0))) (H := H9) h9.to;obtain ⟨res, ha, hcode, F⟩ := YC c' hc wt (by omega);obtain ⟨k1, k2, k3, k4⟩ := pi 30 _ _ _ (16 + 1) res (M16.begin 0 0) (vk.new' (σ := aL.made c' 0) hc 0 0 ⟨1, 1, wt, 1⟩) (by omega) ha;refine aV h10 ?_;refine iU ?_;refine ag h10 (vr p x rp (aL.made c' 0) 16 M16 0 0 ⟨1, 1, wt, 1⟩ 0 30 (by omega) (by omega) (by omega) res ha) fun rp1 H11 h11 => ?_;rw [aj, ae.pu] at h11;obtain ⟨_, h11⟩ := h11;rw [hcode];refine aa (v := .agg (dX 0).toArray) rfl ?_;refine aa (v := vi res.2.2) rfl ?_;refine aa (v := vb true) rfl ?_;refine bm h11 fun qb H12 h12 => ?_;refine eG h12 rfl rfl fun H13 h13 => ?_;refine gs ?_;rw [Bool.not_true];refine gs ?_;refine ak h13 aK rfl ?_;refine gs ?_;refine aa (p7 rfl) ?_;refine gs ?_;obtain ⟨n2, hn2⟩ : ∃ n2 : Nat, res.2.2 = (n2 : Int) := ⟨res.2.2.toNat, by omega⟩;rw [hn2];refine aV h13 ?_;refine iU ?_;refine ag h13 (Co p x rp1 res.1 k1.c (by have := k1.N; omega) 1 0 ⟨3, 1, sz, 5⟩) fun g H14 h14 => ?_;obtain ⟨e, xb⟩ := g;dsimp only at h14 ⊢;refine bm h14 fun tb H15 h15 => ?_;refine eG (l := FK 3 e xb) (cs' := FK 3 e xb) h15 rfl (Ns _ _ _) fun H16 h16 => ?_;refine ai (sn ..) ?_;refine ai (rk ..) ?_
  have et : Tk.newA res.1.c 1 ⟨3, 1, sz, 5⟩ = t5 c' sz 0 := by
   rw [F.cf];exact if_pos rfl
  rw [et] at h16;have T0 := vk.new' k1.c 1 0 ⟨3, 1, sz, 5⟩;rw [et] at T0;exact F8 p x again sz (by omega) c' hc st (by omega) pb qb tb e xb (vb false) (R := emp) st 0 (16 + 1 + 3 * 30 + 1) n2 rp1 (res.1.begin 1 0) H16 (by omega) ⟨F.cf, F.V, F.obs⟩ (k1.begin 1 0) T0 (by omega) (by omega) h16.to
 obtain ⟨v, H', e, rfl⟩ := key;exact ⟨H', e⟩
theorem regAgain_args {H0 : AH} (hT : H0.get 0 = some (.cells true tabC)) {xc : CfgTy.I} {cc : List Value} (hc : Abs H0 CfgTy xc cc) (size weight steps : Int) (again : Bool) :
 ∃ H', FF i4 [.agg cc.toArray, vi size, vi weight, vi steps, vb again] H0 = some (vb true, H') := by
 obtain ⟨c, rfl⟩ := VS hc;exact Uo hT c size weight steps again
end Go.Proofs.YtflbeghglllknaaGreatDoor.Gst
