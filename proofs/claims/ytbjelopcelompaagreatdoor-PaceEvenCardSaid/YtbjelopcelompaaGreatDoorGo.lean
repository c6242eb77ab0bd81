/- New blocks; operations look at their operands alone; which operation is forced ahead of which. -/
import Derived.Test.YtbjelopcelompaaGreatDoorGn
namespace Go.Proofs.YtbjelopcelompaaGreatDoor.Gst
open Go Go.RowKit
set_option linter.unusedSimpArgs false
section
variable {P : Program} {w0 : World} {B : Nat} {ρ : Ren} {H : AH} {w : World} {G : List Nat} {call : CallF}

/-- A new block: what it holds hangs on the operands alone. -/
theorem alloc_spec {A : List Value} {a : Act} (hA : ActRel P ρ A a) (hG : GlobRel ρ G) {o : Oper} (hok : o.op.operands.toList.all (okX G) = true) (hk : opK o.op = 1) {v : Value} {H' : AH} (h : aOp P call (aEv A) o H = some (v, H')) :
    ∃ c : AObj, c.rw = true ∧ H' = H.push c ∧ ∀ w : World, ∃ ob sz v', (execOp a.eval o).run P w = .ok (.value v') (w.alloc ob) ∧ ORel P ρ 0 sz c (some ob) ∧
      ∀ ρ' : Ren, ρ' H.size = some (w.heap.size, 0, sz) → VRel P ρ' v v' := by
  obtain ⟨dst, op, type, pos, after, guard⟩ := o
  simp only at hok hk
  have ev : ∀ x, x ∈ op.operands.toList → VRel P ρ (aEv A x) (a.eval x) := fun x hx => ev_rel hA hG (List.all_eq_true.1 hok x hx)
  have cells : ∀ {cs cs' : List Value} {el : TypeId}, LRel P ρ cs cs' → ORel P ρ 0 cs'.length (.cells false cs) (some (.cells cs'.toArray el)) := by
    intro cs cs' el hl
    exact ⟨_, el, (0, 0), rfl, by simp, by rw [hl.1]; omega, fun _ => rfl, by rw [hl.1]; simpa using hl⟩
  cases op <;> simp [opK] at hk <;> simp only [aOp] at h <;> simp only [execOp]
  case alloc t =>
    obtain ⟨z, hz, e⟩ := Option.map_eq_some_iff.1 h
    cases e
    obtain ⟨i, hi, hzi, hlit, _⟩ := zeroOf_info hz
    refine ⟨_, rfl, rfl, fun w => ⟨.cells z.cells.toList.toArray t, _, .pointer (some ⟨w.heap.size, 0, none⟩), val_run ?_, cells (LRel.of_all hlit), fun ρ' hρ => .ptr (d := 0) (o := 0) hρ⟩⟩
    simp [Instr.alloc, zeroOf_run hz, newVar, newRow]
  case box t x =>
    cases h
    refine ⟨_, rfl, rfl, fun w => ⟨.cells (a.eval x).cells.toList.toArray t, _, .pointer (some ⟨w.heap.size, 0, none⟩), val_run ?_, cells (ev x (by simp [Op.operands])).cells, fun ρ' hρ => .ptr (d := 0) (o := 0) hρ⟩⟩
    simp [Instr.box, newVar, newRow]
  case makeMap t r =>
    cases r with
    | some r => simp at h
    | none =>
      simp only at h
      cases h
      refine ⟨_, rfl, rfl, fun w => ⟨.map #[] 0, 0, .map (some w.heap.size), val_run ?_, ⟨#[], rfl, rfl, fun _ _ _ h => by simp at h⟩, fun ρ' hρ => .map hρ⟩⟩
      simp [Instr.makeMap]
  case buildSlice t len parts =>
    have hx : ∀ x ∈ parts.toList.map (·.2), VRel P ρ (aEv A x) (a.eval x) := fun x hx => ev x (by simpa [Op.operands] using hx)
    obtain ⟨el, hel, h⟩ := Option.bind_eq_some_iff.1 h
    obtain ⟨e, he, h⟩ := Option.bind_eq_some_iff.1 h
    obtain ⟨z, hz, h⟩ := Option.bind_eq_some_iff.1 h
    split at h
    · rename_i hc
      obtain ⟨cs, hcs, e2⟩ := Option.map_eq_some_iff.1 h
      cases e2
      obtain ⟨h0, hze, hbig⟩ := hc
      obtain ⟨i, hi, hzi, hlit, _⟩ := zeroOf_info hz
      obtain ⟨out', ho, hr⟩ := fill_rel _ hcs (lit_flat hlit len) (parts_rel parts hx)
      have hzf := zeros_flat z.cells len (by omega)
      rw [hze] at hzf
      have hza : ((Array.range (len * e)).map fun x => z.cells[x % e]!) = ((List.replicate len z.cells.toList).flatten).toArray := by rw [← hzf]
      have hlo : out'.length = len * e := by
        have hfl : ∀ {parts : List (Nat × Value)} {cells out : List Value}, pFill (fun i => some (i * e, e)) cells parts = some out → out.length = cells.length := by
          intro parts
          induction parts with
          | nil => intro cells out h; simp [pFill] at h; rw [h]
          | cons p parts ih =>
            intro cells out h
            obtain ⟨i, v⟩ := p
            simp only [pFill, Option.bind_some] at h
            split at h
            · rename_i hc
              rw [ih h, splice_length]
              simp; omega
            · cases h
        rw [← hr.1, hfl hcs]
        simp [hze]
      have hnb : ¬ (len * e > 2 ^ 24) := by omega
      refine ⟨_, rfl, rfl, fun w => ⟨.cells out'.toArray el, _, .slice (some ⟨w.heap.size, 0, none⟩) len len, val_run ?_, cells hr, fun ρ' hρ => .slice (d := 0) (o := 0) hρ (by rw [hlo]; omega) (Nat.le_refl _) h0⟩⟩
      by_cases hl0 : len = 0
      · subst hl0
        rw [Nat.zero_mul] at hnb
        have hr0 : (Array.range 0) = (#[] : Array Nat) := rfl
        have ho0 : (List.replicate 0 z.cells.toList).flatten.toArray = (#[] : Array Value) := rfl
        rw [ho0] at ho
        simp only [Instr.buildSlice, Sem.run_bind, run_underlying (elem_some hel), Result.andThen_ok, szOf_run he, Sem.run_ite, Nat.zero_mul, hnb, if_false, Sem.run_pure, if_true, hr0, Array.map_empty, ho, newRow, run_newObj, Nat.zero_add]
        rfl
      have hne : ¬ (len * e = 0) := by
        intro h
        rcases Nat.mul_eq_zero.1 h with h | h <;> omega
      simp only [Instr.buildSlice, Sem.run_bind, run_underlying (elem_some hel), Result.andThen_ok, szOf_run he, Sem.run_ite, hnb, if_false, Sem.run_pure, hne, zeroOf_run hz, hze, hza, ho, newRow, run_newObj, Nat.zero_add]
      rfl
    · cases h
  case makeSlice t l c =>
    obtain ⟨el, hel, h⟩ := Option.bind_eq_some_iff.1 h
    obtain ⟨e, he, h⟩ := Option.bind_eq_some_iff.1 h
    obtain ⟨by', hby, h⟩ := Option.bind_eq_some_iff.1 h
    obtain ⟨z, hz, h⟩ := Option.bind_eq_some_iff.1 h
    have hl := ev l (by simp [Op.operands])
    have hc := ev c (by simp [Op.operands])
    cases hlv : aEv A l <;> rw [hlv] at h <;> simp only [pMake] at h <;> try (cases h; done)
    cases hcv : aEv A c <;> rw [hcv] at h <;> simp only at h <;> try (cases h; done)
    rename_i k1 l0 k2 c0
    rw [hlv] at hl
    rw [hcv] at hc
    split at h
    · rename_i hcond
      obtain ⟨h0, rfl, hbig, hroom, hpos, hzl⟩ := hcond
      cases h
      rw [hl.int_inv, hc.int_inv]
      obtain ⟨i, hi, hzi, hlit, _⟩ := zeroOf_info hz
      have hie := size_some he hi
      have hib := bytes_some hby hi
      unfold room at hbig hroom
      have hln : l0 = (l0.toNat : Int) := by omega
      have hbytes : (i.bytes : Int) * l0 ≤ 281474976710656 := by
        rw [hib, hln, ← Int.natCast_mul]
        have : by' * l0.toNat ≤ 140737488355328 := by rw [Nat.mul_comm]; exact hbig
        omega
      have hzs : z.cells.size = e := by simpa using hzl
      have hm : madeCells z.cells (l0.toNat * i.size) = ((List.replicate l0.toNat z.cells.toList).flatten).toArray := by
        have hzf := zeros_flat z.cells l0.toNat (by omega)
        rw [hzs] at hzf
        unfold madeCells
        rw [hie, ← hzf, hzs]
      refine ⟨_, rfl, rfl, fun w => ⟨.cells ((List.replicate l0.toNat z.cells.toList).flatten).toArray el, _, .slice (some ⟨w.heap.size, 0, none⟩) l0.toNat l0.toNat, val_run ?_, cells (lit_flat hlit l0.toNat), fun ρ' hρ => .slice (d := 0) (o := 0) hρ (by simp [hzs]) (Nat.le_refl _) hpos⟩⟩
      have hrun := run_make (P := P) w t el i z (elem_some hel) hi hzi k1 k2 l0 l0 h0 (Int.le_refl _) hbytes (by omega)
      rw [hm] at hrun
      exact hrun
    · cases h
  case call c =>
    obtain ⟨callee, args, ats⟩ := c
    cases callee <;> simp at hk
    rename_i b
    cases b <;> simp at hk

/-- An operation looks at its operands alone. -/
theorem aOp_congr {ev ev' : Operand → Value} {o : Oper} (h : ∀ x ∈ o.op.operands.toList, ev x = ev' x) (H : AH) : aOp P call ev o H = aOp P call ev' o H := by
  obtain ⟨dst, op, type, pos, after, guard⟩ := o
  simp only at h
  have pairs : ∀ ps : Array (Nat × Operand), (∀ x ∈ ps.toList.map (·.2), ev x = ev' x) → (ps.toList.map fun p => (p.1, ev p.2)) = ps.toList.map fun p => (p.1, ev' p.2) := by
    intro ps hp
    apply List.map_congr_left
    intro p hm
    rw [hp p.2 (List.mem_map.2 ⟨p, hm, rfl⟩)]
  cases op <;> simp only [aOp] <;> simp only [Op.operands] at h
  case build t ps => simp only [pairs ps (fun x hx => h x (by simpa using hx))]
  case buildSlice t n ps => simp only [pairs ps (fun x hx => h x (by simpa using hx))]
  case makeFunc fn first captured =>
    rw [Array.map_congr_left (xs := first) (f := ev) (g := ev') fun x hx => h x (by simp; exact .inl hx), Array.map_congr_left (xs := captured) (f := ev) (g := ev') fun x hx => h x (by simp; exact .inr hx)]
  case call c =>
    have hargs : c.args.toList.map ev = c.args.toList.map ev' := List.map_congr_left fun x hx => h x (by simp only [Call.operands, Array.toList_append, List.mem_append]; exact .inr hx)
    cases hc : c.callee with
    | value f => simp only [hargs, h f (by simp [Call.operands, hc])]
    | invoke r m => rfl
    | builtin b => simp only [hargs]
  case makeMap t r => cases r <;> rfl
  case slice t x lo hi mx =>
    have hx := h x (by simp)
    cases lo <;> cases hi <;> cases mx <;> simp_all
  all_goals (first | rfl | (simp_all; done))

theorem aRd_congr {ev ev' : Operand → Value} {op : Op} (h : ∀ x ∈ op.operands.toList, ev x = ev' x) (H : AH) : aRd P ev op H = aRd P ev' op H := by
  cases op <;> simp only [aRd] <;> simp only [Op.operands] at h
  case load t a => rw [h a (by simp)]
  case lookup t m k ok => rw [h m (by simp), h k (by simp)]
  case call c =>
    have hargs : c.args.toList.map ev = c.args.toList.map ev' := List.map_congr_left fun x hx => h x (by simp only [Call.operands, Array.toList_append, List.mem_append]; exact .inr hx)
    rw [hargs]
theorem rdBlk_congr {ev ev' : Operand → Value} {op : Op} (h : ∀ x ∈ op.operands.toList, ev x = ev' x) : rdBlk ev op = rdBlk ev' op := by
  cases op <;> simp only [rdBlk] <;> simp only [Op.operands] at h
  case load t a => rw [h a (by simp)]
  case lookup t m k ok => rw [h m (by simp)]
  case call c =>
    have hargs : c.args.toList.map ev = c.args.toList.map ev' := List.map_congr_left fun x hx => h x (by simp only [Call.operands, Array.toList_append, List.mem_append]; exact .inr hx)
    rw [hargs]

/-- A call's heap does not shrink. -/
def CallMono (call : CallF) : Prop := ∀ f args H v H', call f args H = some (v, H') → H.size ≤ H'.size

theorem aOp_mono (hm : CallMono call) {ev : Operand → Value} {o : Oper} {H H' : AH} {v : Value} (h : aOp P call ev o H = some (v, H')) : H.size ≤ H'.size := by
  have key : ∀ {x : Option Value} {H H' : AH} {v : Value}, x.map (·, H) = some (v, H') → H.size ≤ H'.size := by
    intro x H H' v hx
    obtain ⟨y, hy, e⟩ := Option.map_eq_some_iff.1 hx
    cases e
    exact Nat.le_refl _
  by_cases hk : opK o.op = 0
  · rw [(aOp_pure hk h).1]; exact Nat.le_refl _
  by_cases hk2 : opK o.op = 2
  · rw [aOp_rd hk2] at h; exact key h
  obtain ⟨dst, op, type, pos, after, guard⟩ := o
  simp only at hk hk2
  cases op <;> simp [opK] at hk hk2 <;> simp only [aOp] at h <;> try (cases h; done)
  case alloc t => obtain ⟨z, hz, e⟩ := Option.map_eq_some_iff.1 h; cases e; rw [AH.size_push]; omega
  case box t x => cases h; rw [AH.size_push]; omega
  case makeMap t r =>
    cases r with
    | some r => simp at h
    | none => simp only at h; cases h; rw [AH.size_push]; omega
  case buildSlice t n ps =>
    obtain ⟨el, hel, h⟩ := Option.bind_eq_some_iff.1 h
    obtain ⟨e, he, h⟩ := Option.bind_eq_some_iff.1 h
    obtain ⟨z, hz, h⟩ := Option.bind_eq_some_iff.1 h
    split at h
    · obtain ⟨cs, hcs, e2⟩ := Option.map_eq_some_iff.1 h
      cases e2
      rw [AH.size_push]; omega
    · cases h
  case makeSlice t l c =>
    obtain ⟨el, hel, h⟩ := Option.bind_eq_some_iff.1 h
    obtain ⟨e, he, h⟩ := Option.bind_eq_some_iff.1 h
    obtain ⟨by', hby, h⟩ := Option.bind_eq_some_iff.1 h
    obtain ⟨z, hz, h⟩ := Option.bind_eq_some_iff.1 h
    unfold pMake at h
    split at h
    · split at h
      · cases h; rw [AH.size_push]; omega
      · cases h
    · cases h
  case store t x y =>
    obtain ⟨n, hn, h⟩ := Option.bind_eq_some_iff.1 h
    obtain ⟨H2, hH, e⟩ := Option.map_eq_some_iff.1 h
    cases e
    unfold pSt at hH
    obtain ⟨a, ha, hH⟩ := Option.bind_eq_some_iff.1 hH
    split at hH
    · split at hH
      · cases hH; rw [AH.size_set]; exact Nat.le_refl _
      · cases hH
    · cases hH
  case mapUpdate t m k x =>
    obtain ⟨kt, hkt, h⟩ := Option.bind_eq_some_iff.1 h
    obtain ⟨cl, hcl, h⟩ := Option.bind_eq_some_iff.1 h
    obtain ⟨H2, hH, e⟩ := Option.map_eq_some_iff.1 h
    cases e
    unfold pUpdate at hH
    split at hH
    · split at hH
      · split at hH
        · obtain ⟨r, hr, e⟩ := Option.map_eq_some_iff.1 hH
          cases r with
          | none => subst e; rw [AH.size_set]; exact Nat.le_refl _
          | some p => subst e; rw [AH.size_set]; exact Nat.le_refl _
        · cases hH
      · cases hH
    · cases hH
  case call c =>
    obtain ⟨callee, args, ats⟩ := c
    simp only at h
    cases callee with
    | value f =>
      simp only at h
      obtain ⟨fa, hfa, h⟩ := Option.bind_eq_some_iff.1 h
      exact hm _ _ _ _ _ h
    | invoke r m => simp at h
    | builtin b =>
      simp only at h
      unfold aBuiltin at h
      split at h
      · simp at hk2
      · simp at hk
      · simp at hk
      · obtain ⟨t0, ht0, h⟩ := Option.bind_eq_some_iff.1 h
        obtain ⟨el, hel, h⟩ := Option.bind_eq_some_iff.1 h
        obtain ⟨e, he, h⟩ := Option.bind_eq_some_iff.1 h
        obtain ⟨by', hby, h⟩ := Option.bind_eq_some_iff.1 h
        obtain ⟨z, hz, h⟩ := Option.bind_eq_some_iff.1 h
        split at h
        · unfold pApp at h
          obtain ⟨r, hr, h⟩ := Option.bind_eq_some_iff.1 h
          split at h
          · split at h
            · split at h
              · split at h
                · cases h; exact Nat.le_refl _
                · split at h
                  · cases h; rw [AH.size_push]; omega
                  · cases h
              · cases h
            · split at h
              · cases h; exact Nat.le_refl _
              · split at h
                · split at h
                  · cases h; rw [AH.size_push]; omega
                  · cases h
                · split at h
                  · split at h
                    · cases h; rw [AH.size_push, AH.size_set]; omega
                    · cases h
                  · cases h
            · cases h
          · cases h
        · cases h
      · obtain ⟨t0, ht0, h⟩ := Option.bind_eq_some_iff.1 h
        obtain ⟨kt, hkt, h⟩ := Option.bind_eq_some_iff.1 h
        obtain ⟨cl, hcl, h⟩ := Option.bind_eq_some_iff.1 h
        obtain ⟨H2, hH, e⟩ := Option.map_eq_some_iff.1 h
        cases e
        unfold pDelete at hH
        split at hH
        · split at hH
          · split at hH
            · obtain ⟨r, hr, e⟩ := Option.map_eq_some_iff.1 hH
              cases r with
              | none => subst e; rw [AH.size_set]; exact Nat.le_refl _
              | some p => subst e; rw [AH.size_set]; exact Nat.le_refl _
            · cases hH
          · cases hH
        · cases hH
      · cases h
end

/-! ### Which operation is forced ahead of which -/
def maskOf (acc : List Nat) (o : Oper) : Nat := o.after.toList.foldl (fun s e => if Region.binds .any e && decide (e.on < acc.length) then s ||| (2 ^ e.on ||| acc.getD e.on 0) else s) 0
def masksOf (ops : List Oper) : List Nat := ops.foldl (fun acc o => acc ++ [maskOf acc o]) []
def fb (ms : List Nat) (i j : Nat) : Bool := (ms.getD j 0).testBit i

theorem maskOf_bit {acc : List Nat} {o : Oper} {i : Nat} (h : (maskOf acc o).testBit i = true) : ∃ e ∈ o.after, Region.binds .any e = true ∧ e.on < acc.length ∧ (i = e.on ∨ (acc.getD e.on 0).testBit i = true) := by
  have key : ∀ (l : List Edge) (s : Nat), (l.foldl (fun s e => if Region.binds .any e && decide (e.on < acc.length) then s ||| (2 ^ e.on ||| acc.getD e.on 0) else s) s).testBit i = true →
      s.testBit i = true ∨ ∃ e ∈ l, Region.binds .any e = true ∧ e.on < acc.length ∧ (i = e.on ∨ (acc.getD e.on 0).testBit i = true) := by
    intro l
    induction l with
    | nil => intro s h; exact .inl h
    | cons e l ih =>
      intro s h
      rw [List.foldl_cons] at h
      rcases ih _ h with h1 | ⟨e', he', hh⟩
      · split at h1
        · rename_i hc
          simp only [Bool.and_eq_true, decide_eq_true_eq] at hc
          rw [Nat.testBit_or, Nat.testBit_or, Nat.testBit_two_pow] at h1
          simp only [Bool.or_eq_true, decide_eq_true_eq] at h1
          rcases h1 with h1 | h1 | h1
          · exact .inl h1
          · exact .inr ⟨e, by simp, hc.1, hc.2, .inl h1.symm⟩
          · exact .inr ⟨e, by simp, hc.1, hc.2, .inr h1⟩
        · exact .inl h1
      · exact .inr ⟨e', by simp [he'], hh⟩
  rcases key o.after.toList 0 h with h | ⟨e, he, hh⟩
  · simp at h
  · exact ⟨e, by simpa using he, hh⟩

theorem rev_ind {α : Type} {p : List α → Prop} (h0 : p []) (h1 : ∀ l a, p l → p (l ++ [a])) (l : List α) : p l := by
  have key : ∀ m : List α, p m.reverse := by
    intro m
    induction m with
    | nil => exact h0
    | cons a m ih => rw [List.reverse_cons]; exact h1 _ _ ih
  have := key l.reverse
  rwa [List.reverse_reverse] at this

theorem masks_snoc (l : List Oper) (o : Oper) : masksOf (l ++ [o]) = masksOf l ++ [maskOf (masksOf l) o] := by
  unfold masksOf; rw [List.foldl_append]; rfl
theorem masks_length : ∀ l : List Oper, (masksOf l).length = l.length := by
  refine rev_ind rfl (fun l o ih => ?_)
  rw [masks_snoc]; simp [ih]

theorem masks_at : ∀ (l : List Oper) (j : Nat) (o : Oper), l[j]? = some o → (masksOf l).getD j 0 = maskOf (masksOf (l.take j)) o := by
  refine rev_ind (fun j o h => by simp at h) (fun l o' ih => ?_)
  · intro j o h
    rw [masks_snoc]
    by_cases hj : j < l.length
    · rw [List.getElem?_append_left hj] at h
      have e1 : (masksOf l ++ [maskOf (masksOf l) o']).getD j 0 = (masksOf l).getD j 0 := by
        rw [List.getD_eq_getElem?_getD, List.getElem?_append_left (by rw [masks_length]; exact hj), ← List.getD_eq_getElem?_getD]
      rw [e1, ih j o h, List.take_append_of_le_length (by omega)]
    · have hl : j = l.length := by
        have := (List.getElem?_eq_some_iff.1 h).1
        simp at this; omega
      subst hl
      simp at h
      subst h
      rw [List.getD_eq_getElem?_getD, List.getElem?_append_right (by rw [masks_length]; exact Nat.le_refl _), masks_length]
      simp

theorem masks_take_getD (l : List Oper) (j k : Nat) (hk : k < j) (hj : j ≤ l.length) : (masksOf (l.take j)).getD k 0 = (masksOf l).getD k 0 := by
  have h1 : k < l.length := by omega
  have h2 : (l.take j)[k]? = some l[k] := by rw [List.getElem?_take, if_pos hk, List.getElem?_eq_getElem h1]
  rw [masks_at (l.take j) k _ h2, masks_at l k l[k] (List.getElem?_eq_getElem h1), List.take_take]
  congr 2
  congr 1
  omega

/-- What is forced ahead of what may come up has come up. -/
theorem fb_closed {ops : Array Oper} {L : Nat → Bool} (hcl : ∀ k o, ops[k]? = some o → L k = true → ∀ e ∈ o.after, Region.binds .any e = true → L e.on = true) :
    ∀ (j : Nat) (o : Oper), ops[j]? = some o → (∀ e ∈ o.after, Region.binds .any e = true → L e.on = true) → ∀ i, fb (masksOf ops.toList) i j = true → L i = true := by
  intro j
  induction j using Nat.strongRecOn with
  | _ j ih =>
    intro o ho hready i hfb
    unfold fb at hfb
    have ho' : ops.toList[j]? = some o := by simpa using ho
    have hj : j < ops.toList.length := (List.getElem?_eq_some_iff.1 ho').1
    rw [masks_at ops.toList j o ho'] at hfb
    obtain ⟨e, he, hb, hlt, hi⟩ := maskOf_bit hfb
    rw [masks_length, List.length_take] at hlt
    have hej : e.on < j := by omega
    have hL := hready e he hb
    rcases hi with rfl | hi
    · exact hL
    · rw [masks_take_getD _ j e.on hej (by omega)] at hi
      have hok : e.on < ops.size := by simp at hj; omega
      exact ih e.on hej ops[e.on] (by simp [hok]) (hcl e.on _ (by simp [hok]) hL) i hi
end Go.Proofs.YtbjelopcelompaaGreatDoor.Gst
