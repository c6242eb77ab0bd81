/- Arguments by kind; what a statement asks, from the abstract run. -/
import Derived.Test.YthagelbepgcolaaGreatDoorMd
import Derived.DataReads
import Derived.ChangeArms
import Derived.ChangeSame
import Derived.Carry
import Derived.ProofKit
namespace Go.Proofs.YthagelbepgcolaaGreatDoor.Gst
open Go Go.RowKit Go.ChangeShapes
set_option linter.unusedSimpArgs false

/-- What was there is as it was. -/
def Keeps (H H' : AH) : Prop := H.size ≤ H'.size ∧ ∀ b, b < H.size → H'.get b = H.get b
theorem Keeps.refl (H : AH) : Keeps H H := ⟨Nat.le_refl _, fun _ _ => rfl⟩
theorem Keeps.trans {A B C : AH} (h : Keeps A B) (k : Keeps B C) : Keeps A C := ⟨Nat.le_trans h.1 k.1, fun b hb => by rw [k.2 b (by have := h.1; omega), h.2 b hb]⟩
theorem Keeps.push (H : AH) (o : AObj) : Keeps H (H.push o) := ⟨by rw [AH.size_push]; omega, fun b hb => AH.get_push_old hb⟩
theorem Keeps.get {H H' : AH} (h : Keeps H H') {b : Nat} {o : AObj} (hb : H.get b = some o) : H'.get b = some o := by rw [h.2 b (AH.lt_of_get hb)]; exact hb

/-! ### Kinds of plain data -/
inductive Ty where
  | int (k : IntKind)
  | bool
  | slice (t : Ty)
  | unit
  | pair (a b : Ty)
def Ty.w : Ty → Nat
  | .int _ | .bool | .slice _ => 1
  | .unit => 0
  | .pair a b => a.w + b.w
abbrev Ty.I : Ty → Type
  | .int _ => Int
  | .bool => Bool
  | .slice t => List t.I
  | .unit => Unit
  | .pair a b => a.I × b.I
/-- Cells, thing by thing. -/
inductive RowAbs {α : Type} (R : α → List Value → Prop) : List α → List Value → Prop
  | nil : RowAbs R [] []
  | cons {x : α} {l : List α} {c cs : List Value} (h : R x c) (k : RowAbs R l cs) : RowAbs R (x :: l) (c ++ cs)
def Abs (H : AH) : (t : Ty) → t.I → List Value → Prop
  | .int k, n, cs => cs = [.int k n] ∧ (Lit.int k n).wf = true
  | .bool, b, cs => cs = [.bool b]
  | .unit, _, cs => cs = []
  | .pair a b, x, cs => ∃ c1 c2, cs = c1 ++ c2 ∧ Abs H a x.1 c1 ∧ Abs H b x.2 c2
  | .slice t, l, cs => (l = [] ∧ cs = [.slice none 0 0]) ∨ (l = [] ∧ ∃ b, cs = [.slice (some ⟨b, 0, none⟩) 0 0]) ∨
      ∃ b row, H.get b = some (.cells true row) ∧ cs = [.slice (some ⟨b, 0, none⟩) l.length t.w] ∧ RowAbs (Abs H t) l row ∧ l.length ≤ maxLen
theorem RowAbs.mono {α : Type} {R S : α → List Value → Prop} (h : ∀ x c, R x c → S x c) {l : List α} {cs : List Value} (k : RowAbs R l cs) : RowAbs S l cs := by
  induction k with
  | nil => exact .nil
  | cons h1 _ ih => exact .cons (h _ _ h1) ih
theorem Abs.keep {H H' : AH} (k : Keeps H H') : ∀ (t : Ty) (x : t.I) (cs : List Value), Abs H t x cs → Abs H' t x cs := by
  intro t
  induction t with
  | int k => intro x cs h; exact h
  | bool => intro x cs h; exact h
  | unit => intro x cs h; exact h
  | pair a b iha ihb =>
    intro x cs h
    obtain ⟨c1, c2, e, h1, h2⟩ := h
    exact ⟨c1, c2, e, iha _ _ h1, ihb _ _ h2⟩
  | slice t ih =>
    intro x cs h
    rcases h with h | h | ⟨b, row, h1, h2, h3, h4⟩
    · exact .inl h
    · exact .inr (.inl h)
    · exact .inr (.inr ⟨b, row, k.get h1, h2, h3.mono ih, h4⟩)
theorem RowAbs.length {α : Type} {R : α → List Value → Prop} {n : Nat} (h : ∀ x c, R x c → c.length = n) {l : List α} {cs : List Value} (k : RowAbs R l cs) : cs.length = l.length * n := by
  induction k with
  | nil => simp
  | cons h1 _ ih => rw [List.length_append, h _ _ h1, ih, List.length_cons, Nat.add_mul]; omega
theorem Abs.length {H : AH} : ∀ (t : Ty) (x : t.I) (cs : List Value), Abs H t x cs → cs.length = t.w := by
  intro t
  induction t with
  | int k => intro x cs h; rw [h.1]; rfl
  | bool => intro x cs h; have h : cs = _ := h; rw [h]; rfl
  | unit => intro x cs h; have h : cs = _ := h; rw [h]; rfl
  | pair a b iha ihb =>
    intro x cs h
    obtain ⟨c1, c2, e, h1, h2⟩ := h
    rw [e, List.length_append, iha _ _ h1, ihb _ _ h2]; rfl
  | slice t ih =>
    intro x cs h
    rcases h with h | ⟨_, b, h⟩ | ⟨b, row, h1, h2, h3, h4⟩
    · rw [h.2]; rfl
    · rw [h]; rfl
    · rw [h2]; rfl

/-- No slice in it takes up more than the form's reach. -/
def Small : (t : Ty) → t.I → Prop
  | .int _, _ => True
  | .bool, _ => True
  | .unit, _ => True
  | .pair a b, x => Small a x.1 ∧ Small b x.2
  | .slice t, l => l.length ≤ reachBytes ∧ ∀ x ∈ l, Small t x
def wOK {Hd : Type} (P : Program) (t : TypeId) (d : DataW Hd) : Prop := ∀ n ∈ DataW.weights P t d, n ≤ reachBytes
theorem weightsAll_mem {Hd : Type} {P : Program} {e : TypeId} {d : DataW Hd} {n : Nat} : ∀ {l : List (DataW Hd)}, d ∈ l → n ∈ DataW.weights P e d → n ∈ DataW.weightsAll P e l := by
  intro l
  induction l with
  | nil => intro h; cases h
  | cons x l ih =>
    intro h hn
    rw [DataW.weightsAll, List.mem_append]
    rcases List.mem_cons.1 h with rfl | h
    · exact .inl hn
    · exact .inr (ih h hn)
theorem weightsEach_mem {Hd : Type} {P : Program} {n : Nat} : ∀ {ts : List TypeId} {ds : List (DataW Hd)} {i : Nat} {t : TypeId} {d : DataW Hd}, ts[i]? = some t → ds[i]? = some d → n ∈ DataW.weights P t d → n ∈ DataW.weightsEach P ts ds := by
  intro ts
  induction ts with
  | nil => intro ds i t d h; simp at h
  | cons t0 ts ih =>
    intro ds i t d h1 h2 hn
    cases ds with
    | nil => simp at h2
    | cons d0 ds =>
      rw [DataW.weightsEach, List.mem_append]
      cases i with
      | zero =>
        simp at h1 h2
        subst h1; subst h2
        exact .inl hn
      | succ i => exact .inr (ih (by simpa using h1) (by simpa using h2) hn)

/-- Is the type of this kind? And: are these the fields? -/
def chkT (P : Program) : Ty → (TypeId → Bool) × (List Field → Nat → Bool)
  | .int k => (fun t => match P.underlying t with | some (.int k') => k' == k && P.cellsOf t == 1 | _ => false, fun _ _ => false)
  | .bool => (fun t => match P.underlying t with | some .bool => P.cellsOf t == 1 | _ => false, fun _ _ => false)
  | .slice ty => (fun t => match P.underlying t with | some (.slice e) => (chkT P ty).1 e && P.cellsOf e == ty.w && decide (0 < ty.w ∧ 0 < P.bytesOf e) && P.cellsOf t == 1 | _ => false, fun _ _ => false)
  | .unit => (fun _ => false, fun fs _ => fs.isEmpty)
  | .pair a b =>
    let F : List Field → Nat → Bool := fun fs off => match fs with
      | f :: fs => f.offset == off && (chkT P a).1 f.type && P.cellsOf f.type == a.w && (chkT P b).2 fs (off + a.w)
      | [] => false
    (fun t => match P.underlying t with | some (.struct fs) => P.cellsOf t == a.w + b.w && F fs.toList 0 | _ => false, F)

section
variable {Hd : Type} {enc : TypeId × Value → Hd} {P : Program} {w : World} {held : Bool}

/-- One more row that is not written. -/
theorem Rel.pushRo {B : Nat} {w0 : World} {ρ : Ren} {H : AH} (h : Rel P w0 B ρ H w) {row : List Value} {c d sz : Nat} (hc : c < w.heap.size) (hcB : c < B) (hor : ORel P ρ d sz (.cells true row) w.heap[c]?) :
    Rel P w0 B (ρ.upd H.size (c, d, sz)) (H.push (.cells true row)) w := by
  have hnone : ρ H.size = none := by
    cases hn : ρ H.size with
    | none => rfl
    | some x => have := h.dom _ _ hn; omega
  have hle := Ren.upd_le (x := (c, d, sz)) hnone
  have key : ∀ b1 o1, (H.push (.cells true row)).get b1 = some o1 → (b1 = H.size ∧ o1 = .cells true row) ∨ (b1 < H.size ∧ H.get b1 = some o1) := by
    intro b1 o1 h1
    rw [AH.get_push] at h1
    by_cases hb1 : b1 = H.size
    · rw [if_pos hb1] at h1; exact .inl ⟨hb1, (Option.some.inj h1).symm⟩
    · rw [if_neg hb1] at h1; exact .inr ⟨AH.lt_of_get h1, h1⟩
  have old : ∀ {b1 c1 d1 sz1}, b1 < H.size → ρ.upd H.size (c, d, sz) b1 = some (c1, d1, sz1) → ρ b1 = some (c1, d1, sz1) := by
    intro b1 c1 d1 sz1 hb1 hx
    rwa [Ren.upd_ne (by omega)] at hx
  have new : ∀ {c1 d1 sz1}, ρ.upd H.size (c, d, sz) H.size = some (c1, d1, sz1) → c1 = c ∧ d1 = d ∧ sz1 = sz := by
    intro c1 d1 sz1 hx
    rw [Ren.upd_same] at hx
    cases hx
    exact ⟨rfl, rfl, rfl⟩
  refine ⟨h.base, h.below, ?_, ?_, ?_, ?_, ?_, ?_⟩
  · intro b1 x hx
    rw [AH.size_push]
    by_cases hb1 : b1 = H.size
    · omega
    · rw [Ren.upd_ne hb1] at hx; have := h.dom b1 x hx; omega
  · intro b1 c1 d1 sz1 hx
    by_cases hb1 : b1 = H.size
    · subst hb1
      obtain ⟨rfl, _, _⟩ := new hx
      exact hc
    · rw [Ren.upd_ne hb1] at hx; exact h.blk b1 c1 d1 sz1 hx
  · intro b1 c1 d1 sz1 o1 hx h1
    rcases key b1 o1 h1 with ⟨rfl, rfl⟩ | ⟨hb1, h1⟩
    · obtain ⟨rfl, rfl, rfl⟩ := new hx
      exact hor.mono hle
    · exact (h.obj b1 c1 d1 sz1 o1 (old hb1 hx) h1).mono hle
  · intro b1 c1 d1 sz1 o1 hx h1 hrw
    rcases key b1 o1 h1 with ⟨rfl, rfl⟩ | ⟨hb1, h1⟩
    · cases hrw
    · exact h.own b1 c1 d1 sz1 o1 (old hb1 hx) h1 hrw
  · intro b1 c1 d1 sz1 cs1 hx h1
    rcases key b1 _ h1 with ⟨rfl, _⟩ | ⟨hb1, h1⟩
    · obtain ⟨rfl, _, _⟩ := new hx
      exact hcB
    · exact h.ro b1 c1 d1 sz1 cs1 (old hb1 hx) h1
  · intro b1 b2 c1 d1 d2 sz1 sz2 o1 o2 hx1 hx2 h1 h2 hr1 hr2
    rcases key b1 o1 h1 with ⟨rfl, rfl⟩ | ⟨hb1, h1⟩
    · cases hr1
    · rcases key b2 o2 h2 with ⟨rfl, rfl⟩ | ⟨hb2, h2⟩
      · cases hr2
      · exact h.inj b1 b2 c1 d1 d2 sz1 sz2 o1 o2 (old hb1 hx1) (old hb2 hx2) h1 h2 hr1 hr2
theorem ren_upd_le' {B : Nat} {w0 : World} {ρ : Ren} {H : AH} (h : Rel P w0 B ρ H w) (x : Nat × Nat × Nat) : ∀ b y, ρ b = some y → ρ.upd H.size x b = some y :=
  Ren.upd_le (by
    cases hn : ρ H.size with
    | none => rfl
    | some x => have := h.dom _ _ hn; omega)

/-- What a reading gives. -/
def Got (P : Program) (w : World) (ρ : Ren) (H : AH) (ty : Ty) (cs : List Value) (ρ' : Ren) (H' : AH) : Prop :=
  ∃ x avs, Rel P w w.heap.size ρ' H' w ∧ (∀ b y, ρ b = some y → ρ' b = some y) ∧ Keeps H H' ∧ LRel P ρ' avs cs ∧ Abs H' ty x avs ∧ Small ty x

theorem trod_fuel {fuel : Nat} {t : TypeId} {cs : List Value} {x : DataW Hd × List MemPlace} (h : DataW.trod enc P w 0 (fun _ => true) held fuel t cs = some x) : ∃ n, fuel = n + 1 := by
  cases fuel with
  | zero => simp [DataW.trod] at h
  | succ n => exact ⟨n, rfl⟩

/-- The cells of a row, one thing behind the other. -/
theorem row_abs {ty : Ty} {e : TypeId} {n : Nat} (ih : ∀ (cs : List Value) (x : DataW Hd × List MemPlace) (ρ : Ren) (H : AH), Rel P w w.heap.size ρ H w → DataW.trod enc P w 0 (fun _ => true) held n e cs = some x → wOK P e x.1 → ∃ ρ' H', Got P w ρ H ty cs ρ' H')
    (a : Addr) : ∀ (m i : Nat) (ρ : Ren) (H : AH), Rel P w w.heap.size ρ H w → (∀ j, i ≤ j → j < i + m → ∃ y, (w.cells? 0 (a.add (j * ty.w)) ty.w).bind (DataW.trod enc P w 0 (fun _ => true) held n e) = some y ∧ wOK P e y.1) →
      ∃ ρ' H' l row cc, Rel P w w.heap.size ρ' H' w ∧ (∀ b y, ρ b = some y → ρ' b = some y) ∧ Keeps H H' ∧ l.length = m ∧ RowAbs (Abs H' ty) l row ∧ LRel P ρ' row cc ∧ (∀ k, k < m * ty.w → w.cell? (a.add (i * ty.w + k)) = cc[k]?) ∧ cc.length = m * ty.w ∧ ∀ x ∈ l, Small ty x := by
  intro m
  induction m with
  | zero =>
    intro i ρ H hR _
    exact ⟨ρ, H, [], [], [], hR, fun _ _ h => h, Keeps.refl H, rfl, .nil, LRel.nil, fun k hk => by omega, by simp, fun x hx => by cases hx⟩
  | succ m ihm =>
    intro i ρ H hR hel
    obtain ⟨y, hy, hwy⟩ := hel i (Nat.le_refl _) (by omega)
    obtain ⟨cs, hcs, hy⟩ := Option.bind_eq_some_iff.1 hy
    obtain ⟨ρ1, H1, x, avs, hR1, hle1, hk1, hl1, ha1, hs1⟩ := ih cs y ρ H hR hy hwy
    obtain ⟨ρ2, H2, l, row, cc, hR2, hle2, hk2, hlen, hrow, hl2, hcell, hcl, hs2⟩ := ihm (i + 1) ρ1 H1 hR1 (fun j h1 h2 => hel j (by omega) (by omega))
    obtain ⟨_, hcsl, hcsg⟩ := World.cells?_some hcs
    refine ⟨ρ2, H2, x :: l, avs ++ row, cs ++ cc, hR2, fun b y h => hle2 b y (hle1 b y h), hk1.trans hk2, by simp [hlen], .cons (Abs.keep hk2 ty x avs ha1) hrow, (hl1.mono hle2).append hl2, ?_, ?_, ?_⟩
    · intro k hk
      have hmul : (m + 1) * ty.w = ty.w + m * ty.w := by rw [Nat.add_mul]; omega
      have hmul2 : (i + 1) * ty.w = i * ty.w + ty.w := by rw [Nat.add_mul]; omega
      by_cases hkw : k < ty.w
      · rw [List.getElem?_append_left (by omega), ← hcsg k hkw]
        congr 1
        unfold Addr.add
        repeat' split
        all_goals first | rfl | omega | (simp; done) | (simp; omega)
      · rw [List.getElem?_append_right (by omega), hcsl, ← hcell (k - ty.w) (by omega), hmul2]
        congr 2
        omega
    · rw [List.length_append, hcsl, hcl, Nat.add_mul]; omega
    · intro z hz
      rcases List.mem_cons.1 hz with rfl | hz
      · exact hs1
      · exact hs2 z hz

theorem trod_abs : ∀ (ty : Ty),
    (∀ (t : TypeId), (chkT P ty).1 t = true → ∀ (fuel : Nat) (cs : List Value) (x : DataW Hd × List MemPlace) (ρ : Ren) (H : AH), Rel P w w.heap.size ρ H w → DataW.trod enc P w 0 (fun _ => true) held fuel t cs = some x → wOK P t x.1 → ∃ ρ' H', Got P w ρ H ty cs ρ' H') ∧
    (∀ (fs : List Field) (off : Nat), (chkT P ty).2 fs off = true → ∀ (fuel : Nat) (cs : List Value) (ρ : Ren) (H : AH), Rel P w w.heap.size ρ H w → cs.length = off + ty.w →
      (∀ f ∈ fs, ∃ y, DataW.trod enc P w 0 (fun _ => true) held fuel f.type ((cs.drop f.offset).take (P.cellsOf f.type)) = some y ∧ wOK P f.type y.1) → ∃ ρ' H', Got P w ρ H ty (cs.drop off) ρ' H') := by
  intro ty
  induction ty with
  | int k =>
    refine ⟨?_, fun fs off h => by cases h⟩
    intro t ht fuel cs x ρ H hR h hwx
    obtain ⟨n, rfl⟩ := trod_fuel h
    simp only [chkT] at ht
    split at ht
    · rename_i k' hu
      simp only [Bool.and_eq_true, beq_iff_eq] at ht
      obtain ⟨rfl, _⟩ := ht
      obtain ⟨n, rfl, _, hw⟩ := DataW.trod_int hu h
      exact ⟨ρ, H, n, [.int k' n], hR, fun _ _ h => h, Keeps.refl H, LRel.of_all rfl, ⟨rfl, hw⟩, trivial⟩
    · cases ht
  | bool =>
    refine ⟨?_, fun fs off h => by cases h⟩
    intro t ht fuel cs x ρ H hR h hwx
    obtain ⟨n, rfl⟩ := trod_fuel h
    simp only [chkT] at ht
    split at ht
    · rename_i hu
      obtain ⟨b, rfl, _⟩ := DataW.trod_bool hu h
      exact ⟨ρ, H, b, [.bool b], hR, fun _ _ h => h, Keeps.refl H, LRel.of_all rfl, rfl, trivial⟩
    · cases ht
  | unit =>
    refine ⟨fun t h => by (cases h), ?_⟩
    intro fs off hfs fuel cs ρ H hR hl h
    refine ⟨ρ, H, (), [], hR, fun _ _ h => h, Keeps.refl H, ?_, rfl, trivial⟩
    have : cs.drop off = [] := List.drop_eq_nil_of_le (by simp [Ty.w] at hl; omega)
    rw [this]; exact LRel.nil
  | slice ty ih =>
    refine ⟨?_, fun fs off h => by cases h⟩
    intro t ht fuel cs x ρ H hR h hwx
    simp only [chkT] at ht
    split at ht
    · rename_i e hu
      simp only [Bool.and_eq_true, beq_iff_eq, decide_eq_true_eq] at ht
      obtain ⟨⟨⟨ht, he⟩, hw, hby⟩, _⟩ := ht
      rcases DataW.trod_slice hu h with ⟨rfl, _⟩ | ⟨a, len, cap, elems, rest, n, rfl, rfl, hx, _, hlc, hcm, hlen, hel, hsp, _⟩
      · exact ⟨ρ, H, [], [.slice none 0 0], hR, fun _ _ h => h, Keeps.refl H, LRel.of_all rfl, .inl ⟨rfl, rfl⟩, Nat.zero_le _, fun x hx => by cases hx⟩
      · have hwt : DataW.weights P t x.1 = (elems.length + rest.length) * P.bytesOf e :: (DataW.weightsAll P e (elems.map (·.1)) ++ DataW.weightsAll P e (rest.map (·.1))) := by
          rw [hx]
          unfold DataW.weights
          rw [hu]
          simp
        have hreach : len ≤ reachBytes := by
          have h1 := hwx _ (by rw [hwt]; exact List.mem_cons_self)
          have h2 : len + rest.length ≤ (elems.length + rest.length) * P.bytesOf e := by
            rw [hlen]
            exact Nat.le_mul_of_pos_right _ hby
          omega
        have hwe : ∀ (y : DataW Hd × List MemPlace), (y ∈ elems ∨ y ∈ rest) → wOK P e y.1 := by
          intro y hy n hn
          refine hwx n ?_
          rw [hwt, List.mem_cons, List.mem_append]
          rcases hy with hy | hy
          · exact .inr (.inl (weightsAll_mem (List.mem_map.2 ⟨y, hy, rfl⟩) hn))
          · exact .inr (.inr (weightsAll_mem (List.mem_map.2 ⟨y, hy, rfl⟩) hn))
        rw [he] at hel hsp
        by_cases hc0 : cap = 0
        · subst hc0
          obtain rfl : len = 0 := by omega
          exact ⟨ρ, H, [], [.slice (some ⟨0, 0, none⟩) 0 0], hR, fun _ _ h => h, Keeps.refl H, LRel.cons .empty LRel.nil, .inr (.inl ⟨rfl, 0, rfl⟩), Nat.zero_le _, fun x hx => by cases hx⟩
        · have all : ∀ j, 0 ≤ j → j < 0 + cap → ∃ y, (w.cells? 0 (a.add (j * ty.w)) ty.w).bind (DataW.trod enc P w 0 (fun _ => true) held n e) = some y ∧ wOK P e y.1 := by
            intro j _ hj
            by_cases hjl : j < len
            · rw [hel j hjl]
              exact ⟨elems[j]'(by omega), List.getElem?_eq_getElem (by omega), hwe _ (.inl (List.getElem_mem _))⟩
            · obtain ⟨hr1, hr2⟩ := hsp rfl
              have := hr2 (j - len) (by omega)
              rw [show len + (j - len) = j from by omega] at this
              rw [this]
              exact ⟨rest[j - len]'(by omega), List.getElem?_eq_getElem (by omega), hwe _ (.inr (List.getElem_mem _))⟩
          -- all cells of its room are there
          obtain ⟨_, _, _, _, cca, _, _, _, _, _, _, hca, hcal, _⟩ := row_abs (fun cs x ρ H => ih.1 e ht n cs x ρ H) a cap 0 ρ H hR all
          obtain ⟨ρ1, H1, l, row, cc, hR1, hle1, hk1, hll, hrow, hl1, hcell, hcl, hsm⟩ := row_abs (fun cs x ρ H => ih.1 e ht n cs x ρ H) a len 0 ρ H hR (fun j h1 h2 => all j h1 (by omega))
          have hpos : 0 < cap * ty.w := Nat.mul_pos (by omega) hw
          have h0 := hca 0 hpos
          have hsome : ∃ v, cca[0]? = some v := ⟨cca[0]'(by omega), List.getElem?_eq_getElem (by omega)⟩
          obtain ⟨v0, hv0⟩ := hsome
          rw [hv0] at h0
          have hadd0 : a.add (0 * ty.w + 0) = a := by simp [Addr.add]
          rw [hadd0] at h0
          unfold World.cell? at h0
          split at h0
          · rename_i c el fz hblk
            split at h0
            · cases h0
            · rename_i hspot
              obtain ⟨ab, ao, as'⟩ := a
              have : as' = none := by cases as' with | none => rfl | some _ => simp at hspot
              subst this
              have cellsAt : ∀ k, k < cap * ty.w → c[ao + k]? = cca[k]? := by
                intro k hk
                have := hca k hk
                rw [show 0 * ty.w + k = k from by omega, Addr.add_lit] at this
                unfold World.cell? at this
                simp only [hblk, Option.isSome_none] at this
                simpa using this
              have hfit : ao + cap * ty.w ≤ c.size := by
                have := cellsAt (cap * ty.w - 1) (by omega)
                rw [List.getElem?_eq_getElem (by omega)] at this
                have := (Array.getElem?_eq_some_iff.1 this).1
                omega
              have hsub : len * ty.w ≤ cap * ty.w := Nat.mul_le_mul_right _ hlc
              have hrl : row.length = len * ty.w := by rw [hl1.1, hcl]
              have hccs : (c.toList.drop ao).take row.length = cc := by
                apply List.ext_getElem?
                intro k
                rw [hrl, List.getElem?_take]
                by_cases hk : k < len * ty.w
                · rw [if_pos hk, List.getElem?_drop]
                  have h1 := hcell k hk
                  rw [show 0 * ty.w + k = k from by omega, Addr.add_lit] at h1
                  unfold World.cell? at h1
                  simp only [hblk, Option.isSome_none] at h1
                  rw [← h1]
                  simp
                · rw [if_neg hk, List.getElem?_eq_none (by omega)]
              have hblk' : w.heap[ab]? = some (.cells c el fz) := hblk
              have hab : ab < w.heap.size := (Array.getElem?_eq_some_iff.1 hblk').1
              have hp := hR1.pushRo (row := row) (c := ab) (d := ao) (sz := c.size) hab hab ⟨c, el, fz, hblk', rfl, by omega, (fun h => by cases h), by rw [hccs]; exact hl1⟩
              have hkp := Keeps.push H1 (.cells true row)
              refine ⟨_, _, l, [.slice (some ⟨H1.size, 0, none⟩) l.length ty.w], hp, fun b y h => ren_upd_le' hR1 _ b y (hle1 b y h), hk1.trans hkp, LRel.cons ?_ LRel.nil, .inr (.inr ⟨H1.size, row, AH.get_push_new _ _, rfl, hrow.mono (Abs.keep hkp ty), by omega⟩), by rw [hll]; exact hreach, hsm⟩
              rw [hll]
              have := VRel.slice (P := P) (ρ := ρ1.upd H1.size (ab, ao, c.size)) (b := H1.size) (o := 0) (n := len) (e := ty.w) (c := ab) (d := ao) (sz := c.size) (k := cap) (Ren.upd_same ..) (by omega) hlc hw
              simpa using this
          · cases h0
    · cases ht
  | pair a b iha ihb =>
    have fields : ∀ (fs : List Field) (off : Nat), (chkT P (.pair a b)).2 fs off = true → ∀ (fuel : Nat) (cs : List Value) (ρ : Ren) (H : AH), Rel P w w.heap.size ρ H w → cs.length = off + (a.w + b.w) →
      (∀ f ∈ fs, ∃ y, DataW.trod enc P w 0 (fun _ => true) held fuel f.type ((cs.drop f.offset).take (P.cellsOf f.type)) = some y ∧ wOK P f.type y.1) → ∃ ρ' H', Got P w ρ H (.pair a b) (cs.drop off) ρ' H' := by
      intro fs off hfs fuel cs ρ H hR hl h
      simp only [chkT] at hfs
      cases fs with
      | nil => cases hfs
      | cons f fs =>
        simp only [Bool.and_eq_true, beq_iff_eq] at hfs
        obtain ⟨⟨⟨h1, h2⟩, h3⟩, h4⟩ := hfs
        obtain ⟨y, hy, hwy⟩ := h f (by simp)
        rw [h1, h3] at hy
        obtain ⟨ρ1, H1, x1, a1, hR1, hle1, hk1, hl1, ha1, hs1⟩ := iha.1 f.type h2 fuel _ y ρ H hR hy hwy
        obtain ⟨ρ2, H2, x2, a2, hR2, hle2, hk2, hl2, ha2, hs2⟩ := ihb.2 fs (off + a.w) h4 fuel cs ρ1 H1 hR1 (by omega) (fun g hg => h g (by simp [hg]))
        refine ⟨ρ2, H2, (x1, x2), a1 ++ a2, hR2, fun b y h => hle2 b y (hle1 b y h), hk1.trans hk2, ?_, ⟨a1, a2, rfl, Abs.keep hk2 a x1 a1 ha1, ha2⟩, hs1, hs2⟩
        have e : cs.drop off = (cs.drop off).take a.w ++ cs.drop (off + a.w) := by
          rw [← List.drop_drop]
          exact (List.take_append_drop a.w (cs.drop off)).symm
        rw [e]
        exact (hl1.mono hle2).append hl2
    refine ⟨?_, fields⟩
    intro t ht fuel cs x ρ H hR h hwx
    obtain ⟨n, rfl⟩ := trod_fuel h
    have ht' := ht
    simp only [chkT] at ht
    split at ht
    · rename_i fs hu
      simp only [Bool.and_eq_true, beq_iff_eq] at ht
      obtain ⟨xs, n', _, hxe, hlen, hxl, hxs⟩ := DataW.trod_struct hu h
      have := fields fs.toList 0 ht.2 n' cs ρ H hR (by rw [hlen, ht.1]; simp) (fun f hf => by
        obtain ⟨i, hi, rfl⟩ := List.mem_iff_getElem.1 hf
        have := hxs i fs.toList[i] (by simp)
        rw [this]
        have hix : i < xs.length := by rw [hxl]; simpa using hi
        refine ⟨xs[i]'hix, List.getElem?_eq_getElem _, fun n hn => hwx n ?_⟩
        rw [hxe]
        unfold DataW.weights
        rw [hu]
        exact weightsEach_mem (i := i) (by rw [List.getElem?_map, List.getElem?_eq_getElem hi]; rfl) (by rw [List.getElem?_map, List.getElem?_eq_getElem hix]; rfl) hn)
      simpa using this
    · cases ht
end
end Go.Proofs.YthagelbepgcolaaGreatDoor.Gst
/- From the abstract run of a law to what its statement asks. -/
namespace Go.Proofs.YthagelbepgcolaaGreatDoor.Gst
open Go Go.RowKit Go.ChangeShapes
set_option linter.unusedSimpArgs false

def valOf : Ty → List Value → Value
  | .pair _ _, cs => .agg cs.toArray
  | .unit, cs => .agg cs.toArray
  | _, cs => cs.headD undef
abbrev Args : List Ty → Type
  | [] => Unit
  | t :: ts => t.I × Args ts
def AbsArgs (H : AH) : (ts : List Ty) → Args ts → List Value → Prop
  | [], _, vs => vs = []
  | t :: ts, x, vs => ∃ cs rest, vs = valOf t cs :: rest ∧ Abs H t x.1 cs ∧ AbsArgs H ts x.2 rest
theorem AbsArgs.keep {H H' : AH} (k : Keeps H H') : ∀ (ts : List Ty) (x : Args ts) (vs : List Value), AbsArgs H ts x vs → AbsArgs H' ts x vs := by
  intro ts
  induction ts with
  | nil => intro x vs h; exact h
  | cons t ts ih =>
    intro x vs h
    obtain ⟨cs, rest, e, h1, h2⟩ := h
    exact ⟨cs, rest, e, Abs.keep k t _ _ h1, ih _ _ h2⟩
def SmallArgs : (ts : List Ty) → Args ts → Prop
  | [], _ => True
  | t :: ts, x => Small t x.1 ∧ SmallArgs ts x.2
def chkArgs (P : Program) : List Ty → List TypeId → Bool
  | [], [] => true
  | ty :: tys, t :: ts => (chkT P ty).1 t && P.readableRec t && decide (t < P.types.size) && chkArgs P tys ts
  | _, _ => false

section
variable {Hd : Type} {enc : TypeId × Value → Hd} {P : Program} {w : World} {held : Bool}

theorem arg_abs {ty : Ty} {t : TypeId} (ht : (chkT P ty).1 t = true) {v : Value} {d : DataW Hd} {ps : List MemPlace} {r : Reach} {b0 : Nat} (hval : Value.okWide P w r b0 t v) (h : DataW.Trod enc P w 0 (fun _ => true) held t v d ps) (hwd : wOK P t d)
    {ρ : Ren} {H : AH} (hR : Rel P w w.heap.size ρ H w) : ∃ ρ' H' x avs, Rel P w w.heap.size ρ' H' w ∧ (∀ b y, ρ b = some y → ρ' b = some y) ∧ Keeps H H' ∧ VRel P ρ' (valOf ty avs) v ∧ Abs H' ty x avs ∧ Small ty x := by
  obtain ⟨fuel, h⟩ := h
  obtain ⟨ρ', H', x, avs, h1, h2, h3, h4, h5, h6⟩ := (trod_abs (enc := enc) (P := P) (w := w) (held := held) ty).1 t ht fuel _ _ ρ H hR h hwd
  refine ⟨ρ', H', x, avs, h1, h2, h3, ?_, h5, h6⟩
  have hlen := Abs.length ty x avs h5
  have one : ∀ (hw : ty.w = 1) (hva : ∀ cs, v ≠ .agg cs), VRel P ρ' (avs.headD undef) v := by
    intro hw hva
    have hc : v.cells.toList = [v] := by
      cases v <;> first | rfl | exact absurd rfl (hva _)
    rw [hc] at h4
    match avs, hlen with
    | [a], _ => exact h4.2 0 a v rfl rfl
    | [], hl => rw [hw] at hl; cases hl
    | a :: b :: l, hl => rw [hw] at hl; simp at hl
  cases ty with
  | int k =>
    refine one rfl (fun cs e => ?_)
    subst e
    simp only [chkT] at ht
    split at ht
    · rename_i hu
      unfold Value.okWide at hval
      rw [hu] at hval
      unfold Cell.okWide at hval
      rw [hu] at hval
      unfold Cell.ok at hval
      rw [hu] at hval
      exact hval
    · cases ht
  | bool =>
    refine one rfl (fun cs e => ?_)
    subst e
    simp only [chkT] at ht
    split at ht
    · rename_i hu
      unfold Value.okWide at hval
      rw [hu] at hval
      unfold Cell.okWide at hval
      rw [hu] at hval
      unfold Cell.ok at hval
      rw [hu] at hval
      exact hval
    · cases ht
  | slice e =>
    refine one rfl (fun cs e => ?_)
    subst e
    simp only [chkT] at ht
    split at ht
    · rename_i hu
      unfold Value.okWide at hval
      rw [hu] at hval
      unfold Cell.okWide at hval
      rw [hu] at hval
      unfold Cell.ok at hval
      rw [hu] at hval
      exact hval
    · cases ht
  | unit => simp only [chkT] at ht; cases ht
  | pair a b =>
    simp only [chkT] at ht
    split at ht
    · rename_i fs hu
      unfold Value.okWide at hval
      rw [hu] at hval
      obtain ⟨cs, rfl, _⟩ := hval
      have h4 : LRel P ρ' avs cs.toList := h4
      exact .agg (by simpa using h4.1) (fun i x y hx hy => h4.2 i x y (by simpa using hx) (by simpa using hy))
    · cases ht

theorem args_abs : ∀ (tys : List Ty) (ts : List TypeId) (vs : List Value) (ds : List (DataW Hd)) (ps : List MemPlace), chkArgs P tys ts = true → (∀ (j : Nat) t v, ts[j]? = some t → vs[j]? = some v → ∃ r b0, Value.okWide P w r b0 t v) →
    DataW.TrodAll enc P w 0 (fun _ => true) held ts vs ds ps → (∀ n ∈ DataW.weightsEach P ts ds, n ≤ reachBytes) → ∀ (ρ : Ren) (H : AH), Rel P w w.heap.size ρ H w →
    ∃ ρ' H' x avs, Rel P w w.heap.size ρ' H' w ∧ (∀ b y, ρ b = some y → ρ' b = some y) ∧ Keeps H H' ∧ LRel P ρ' avs vs ∧ AbsArgs H' tys x avs ∧ SmallArgs tys x := by
  intro tys
  induction tys with
  | nil =>
    intro ts vs ds ps hc hval h hwd ρ H hR
    cases ts with
    | cons t ts => cases hc
    | nil =>
      obtain ⟨rfl, _, _⟩ := trodAll_nil h
      exact ⟨ρ, H, (), [], hR, fun _ _ h => h, Keeps.refl H, LRel.nil, rfl, trivial⟩
  | cons ty tys ih =>
    intro ts vs ds ps hc hval h hwd ρ H hR
    cases ts with
    | nil => cases hc
    | cons t ts =>
      simp only [chkArgs, Bool.and_eq_true] at hc
      obtain ⟨⟨⟨hc1, _⟩, _⟩, hc2⟩ := hc
      obtain ⟨v, vs', d, ds', p, q, rfl, rfl, rfl, hd, hrest⟩ := trodAll_cons h
      obtain ⟨r, b0, hv0⟩ := hval 0 t v rfl rfl
      obtain ⟨ρ1, H1, x1, a1, hR1, hle1, hk1, hv1, ha1, hs1⟩ := arg_abs hc1 hv0 hd (fun n hn => hwd n (by rw [DataW.weightsEach]; exact List.mem_append_left _ hn)) hR
      obtain ⟨ρ2, H2, x2, a2, hR2, hle2, hk2, hl2, ha2, hs2⟩ := ih ts vs' ds' q hc2 (fun j t v h1 h2 => hval (j + 1) t v (by simpa using h1) (by simpa using h2)) hrest (fun n hn => hwd n (by rw [DataW.weightsEach]; exact List.mem_append_right _ hn)) ρ1 H1 hR1
      exact ⟨ρ2, H2, (x1, x2), valOf ty a1 :: a2, hR2, fun b y h => hle2 b y (hle1 b y h), hk1.trans hk2, LRel.cons (hv1.mono hle2) hl2, ⟨a1, a2, rfl, Abs.keep hk2 ty x1 a1 ha1, ha2⟩, hs1, hs2⟩

theorem args_stay (hl : laidOutB P = true) {W' : World} (hb : Below w.heap.size w W') : ∀ (tys : List Ty) (ts : List TypeId) (vs : List Value) (ds : List (DataW Hd)) (ps : List MemPlace), chkArgs P tys ts = true → (∀ x ∈ ps, x.block < w.heap.size) →
    DataW.TrodAll enc P w 0 (fun _ => true) true ts vs ds ps → DataW.TrodAll enc P W' 0 (fun b => decide (b < w.heap.size)) true ts vs ds ps := by
  intro tys
  induction tys with
  | nil =>
    intro ts vs ds ps hc hlt h
    cases ts with
    | cons t ts => cases hc
    | nil =>
      obtain ⟨rfl, rfl, rfl⟩ := trodAll_nil h
      exact trodAll_mk0
  | cons ty tys ih =>
    intro ts vs ds ps hc hlt h
    cases ts with
    | nil => cases hc
    | cons t ts =>
      simp only [chkArgs, Bool.and_eq_true, decide_eq_true_eq] at hc
      obtain ⟨⟨⟨_, hc1⟩, hc3⟩, hc2⟩ := hc
      obtain ⟨v, vs', d, ds', p, q, rfl, rfl, rfl, hd, hrest⟩ := trodAll_cons h
      exact ⟨p, q, Below.trod hl hc1 hc3 hd hb (fun x hx => hlt x (by simp [hx])), ih ts vs' ds' q hc2 (fun x hx => hlt x (by simp [hx])) hrest, rfl⟩

/-- What a law's statement asks, by its abstract run. -/
theorem law_post (hm : P.follows .mixedOrders = true) (hl : laidOutB P = true) {G : List Nat} {f : Nat} {fn : Func} {s : ChangeSpec} {tys : List Ty} (hc : chkArgs P tys fn.params.toList = true)
    {tb : TypeId} (hres : fn.resultTypes = #[tb]) (hb : P.underlying tb = some .bool) (hvars : s.vars = [])
    {args : Array Value} {ds gs : List (DataW Hd)} {before : List MemPlace} (hval : ∀ (j : Nat) t v, fn.params[j]? = some t → args[j]? = some v → ∃ r b0, Value.okWide P w r b0 t v)
    (hW : DataW.Whole enc P fn.params.toList s.vars false w args.toList ds gs before) (hspec : s.fn Hd (ds ++ gs) = { results := [.lit (.bool true)], args := ds })
    {ρ0 : Ren} {H0 : AH} (hR : Rel P w w.heap.size ρ0 H0 w) (hG : GlobRel ρ0 G)
    (hwt : (DataW.weightsEach P fn.params.toList ds).all (· ≤ reachBytes) = true)
    (run : ∀ (x : Args tys) (avs : List Value) (H : AH), Keeps H0 H → AbsArgs H tys x avs → SmallArgs tys x → ∃ H', aF P G f avs H = some (.bool true, H')) :
    Calls P f args w fun e w' => ∃ v, e = .returned v ∧ s.post enc P fn false true false false w args v w' := by
  have hW' := hW
  obtain ⟨p, q, hA, hV, rfl, hfz, hnd⟩ := hW
  rw [hvars] at hV
  obtain ⟨rfl, rfl⟩ := trodVars_none hV
  obtain ⟨ρ1, H1, x, avs, hR1, hle1, hk1, hl1, ha1, hs1⟩ := args_abs tys fn.params.toList args.toList ds p hc (fun j t v h1 h2 => hval j t v (by simpa using h1) (by simpa using h2)) hA (fun n hn => by simpa using List.all_eq_true.1 hwt n hn) ρ0 H0 hR
  obtain ⟨H', hrun⟩ := run x avs H1 hk1 ha1 hs1
  have hG1 : GlobRel ρ1 G := fun g hg => let ⟨sz, h⟩ := hG g hg; ⟨sz, hle1 _ _ h⟩
  have hcall := ((aF_ok (P := P) (G := G) hm).1 f avs H1 _ H' hrun).2 w w.heap.size ρ1 w args.toList hR1 hG1 hl1
  rw [show args.toList.toArray = args from by simp] at hcall
  refine hcall.mono fun e w' ⟨v', ρ', he, hv, hext, hR'⟩ => ?_
  have hv : v' = .bool true := by
    cases hv with
    | lit h => rfl
  subst hv
  subst he
  have hlt : ∀ y ∈ p, y.block < w.heap.size := fun y hy => by
    have := hW'.lt y (by simp [hy])
    simpa using this
  refine ⟨_, rfl, ds, [], p ++ [], [], p, [], hW', ?_, ?_, ?_, ?_, fun h => by cases h⟩
  · rw [hspec, hres]
    exact ⟨[], [], shut_bool hb true, trodAll_mk0, rfl⟩
  · rw [hspec]
    exact args_stay hl hR'.below tys _ _ _ _ hc hlt hA
  · rw [hvars, hspec]
    rfl
  · exact hR'.below.frame _
end

/-- Where nothing stands: no variable is asked. -/
theorem rel_none (P : Program) (w : World) : Rel P w w.heap.size (fun _ => none) ⟨[]⟩ w where
  base := Nat.le_refl _
  below := Below.refl _ _
  dom := fun b x h => by cases h
  blk := fun b c d sz h => by cases h
  obj := fun b c d sz o h => by cases h
  own := fun b c d sz o h => by cases h
  ro := fun b c d sz cs h => by cases h
  inj := fun b b' c d d' sz sz' o o' h => by cases h
theorem glob_none (ρ : Ren) : GlobRel ρ [] := fun g h => by cases h
end Go.Proofs.YthagelbepgcolaaGreatDoor.Gst
