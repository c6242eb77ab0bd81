/- Operations that read and write memory: by the tree, and by the abstract heap. -/
import Derived.Test.YtbjelopcelompaaGreatDoorVd
namespace Go.Proofs.YtbjelopcelompaaGreatDoor.Gst
open Go Go.RowKit
set_option linter.unusedSimpArgs false
set_option linter.unusedVariables false

section
variable {g d : Nat}
theorem sh_splice (cs : List Value) (o : Nat) (xs : List Value) : splice (shL g d cs) o (shL g d xs) = shL g d (splice cs o xs) := by
  simp [splice, shL, List.map_take, List.map_drop]
theorem sh_pFill (places : Nat → Option (Nat × Nat)) : ∀ (parts : List (Nat × Value)) (zero : List Value), pFill places (shL g d zero) (parts.map fun p => (p.1, (shV g d) p.2)) = (pFill places zero parts).map (shL g d) := by
  intro parts
  induction parts with
  | nil => intro zero; rfl
  | cons p parts ih =>
    intro zero
    obtain ⟨i, v⟩ := p
    simp only [List.map_cons, pFill]
    cases places i with
    | none => rfl
    | some q =>
      simp only [Option.bind_some]
      rw [sh_cells, Array.size_map, Array.toList_map, show (shL g d zero).length = zero.length from List.length_map _]
      split
      · rw [show List.map (shV g d) v.cells.toList = shL g d v.cells.toList from rfl, sh_splice]; exact ih _
      · rfl
theorem sh_pSlice (e : Nat) (x : Value) (lo hi : Option Value) : pSlice e ((shV g d) x) (lo.map (shV g d)) (hi.map (shV g d)) = (pSlice e x lo hi).map (shV g d) := by
  cases x with
  | slice a n e' =>
    have key : ∀ L R : Option Int, (L.bind fun l => R.bind fun h =>
      if 0 ≤ l ∧ l ≤ h ∧ h ≤ n then
        match a.map (shA g d) with
        | none => if n = 0 ∧ e' = 0 then some (.slice none 0 0) else none
        | some ⟨b, o, none⟩ => if e' = e ∧ 0 < e then some (.slice (some ⟨b, o + l.toNat * e, none⟩) (h.toNat - l.toNat) e) else none
        | _ => none
      else none : Option Value) = (L.bind fun l => R.bind fun h =>
      if 0 ≤ l ∧ l ≤ h ∧ h ≤ n then
        match a with
        | none => if n = 0 ∧ e' = 0 then some (.slice none 0 0) else none
        | some ⟨b, o, none⟩ => if e' = e ∧ 0 < e then some (.slice (some ⟨b, o + l.toNat * e, none⟩) (h.toNat - l.toNat) e) else none
        | _ => none
      else none : Option Value).map (shV g d) := by
      intro L R
      cases L with
      | none => rfl
      | some l =>
        cases R with
        | none => rfl
        | some r =>
          simp only [Option.bind_some]
          split
          · cases a with
            | none => simp only [Option.map_none]; split <;> simp
            | some a =>
              obtain ⟨b, o, sp⟩ := a
              cases sp with
              | none => simp only [Option.map_some, shA]; split <;> simp [shA]
              | some sp => simp [shA]
          · rfl
    cases lo with
    | none =>
      cases hi with
      | none => simp only [sh_slice, pSlice, Option.map_none]; exact key (some 0) (some n)
      | some h => simp only [sh_slice, pSlice, Option.map_some, sh_pInt?]; exact key (some 0) (pInt? h)
    | some l =>
      cases hi with
      | none => simp only [sh_slice, pSlice, Option.map_some, sh_pInt?]; exact key (pInt? l) (some n)
      | some h => simp only [sh_slice, pSlice, Option.map_some, sh_pInt?]; exact key (pInt? l) (pInt? h)
  | _ => simp [pSlice]
theorem sh_pSlice0 {x hi mx v : Value} (h : pSlice0 x hi mx = some v) : pSlice0 ((shV g d) x) ((shV g d) hi) ((shV g d) mx) = some ((shV g d) v) := by
  unfold pSlice0 at h
  split at h
  · cases h; simp [pSlice0]
  · cases h; simp [pSlice0, shA]
  · cases h
theorem sh_isInt (v : Value) : isIntV ((shV g d) v) = isIntV v := by cases v <;> simp [isIntV]
theorem sh_keyOK (cl : KCls) (k : Value) : keyOK cl ((shV g d) k) = keyOK cl k := by
  cases cl <;> cases k <;> simp [keyOK]
  rename_i n cs
  congr 2
  funext v; exact sh_isInt v
theorem sh_keyEq (cl : KCls) (a b : Value) : keyEq cl ((shV g d) a) ((shV g d) b) = keyEq cl a b := by
  cases cl with
  | flat n =>
    cases a <;> cases b <;> simp [keyEq]
    rename_i x y
    rw [show eqCells (List.map (shV g d) x.toList) (List.map (shV g d) y.toList) = eqCells x.toList y.toList from sh_eqCells _ _]
  | int => cases a <;> cases b <;> simp [keyEq]
  | string => cases a <;> cases b <;> simp [keyEq]
theorem sh_findKey (cl : KCls) (k : Value) : ∀ (es : List MapEntry) (i : Nat), findKey' cl ((shV g d) k) (es.map (shE g d)) i = (findKey' cl k es i).map fun r => r.map fun p => (p.1, (shV g d) p.2) := by
  intro es
  induction es with
  | nil => intro i; rfl
  | cons e es ih =>
    intro i
    simp only [List.map_cons, findKey', shE, sh_keyEq]
    cases keyEq cl k e.key with
    | none => rfl
    | some b =>
      simp only [Option.bind_some]
      cases b with
      | true => simp
      | false => simp only [Bool.false_eq_true, if_false]; exact ih _
theorem sh_pCallee (v : Value) (args : List Value) : pCallee ((shV g d) v) (shL g d args) = (pCallee v args).map fun r => (r.1, shL g d r.2) := by
  cases v with
  | func fn f c => cases fn <;> simp [pCallee, shL]
  | _ => simp [pCallee]
end

/-! ### Operations on the tree -/
def eCells (E : EH) (b : Nat) : Option (List Value) :=
  match E.get b with
  | some (.cells _ cs) => some cs
  | _ => none
def eLd1 (v : Value) (E : EH) : Option Value := (pAt v).bind fun a => (eCells E a.1).bind fun cs => cs[a.2]?
def eLdN (n : Nat) (v : Value) (E : EH) : Option Value :=
  (pAt v).bind fun a => (eCells E a.1).bind fun cs => if a.2 + n ≤ cs.length then some (.agg ((cs.drop a.2).take n).toArray) else none
def eSt (n : Nat) (v x : Value) (E : EH) : Option EH :=
  (pAt v).bind fun a => match E.get a.1 with
    | some (.cells false cs) => if x.cells.size = n ∧ a.2 + n ≤ cs.length ∧ x.cells.toList.all Value.oneCell' = true then E.set a.1 (.cells false (splice cs a.2 x.cells.toList)) else none
    | _ => none
def eNew (cs : List Value) (E : EH) : Option (Value × EH) := (E.push (.cells false cs)).map fun E' => (.pointer (some ⟨E.n, 0, none⟩), E')
def eRowP (n e : Nat) (cs : List Value) (E : EH) : Option (Value × EH) := (E.push (.cells false cs)).map fun E' => (.slice (some ⟨E.n, 0, none⟩) n e, E')
def eLenM (v : Value) (E : EH) : Option Value :=
  match v with
  | .map none => some (.int .i64 0)
  | .map (some b) => match E.get b with
    | some (.map es _) => some (.int .i64 es.length)
    | _ => none
  | _ => none
def eRow (e : Nat) (x : Value) (E : EH) : Option (Nat × List Value) :=
  match x with
  | .slice none n _ => if n = 0 then some (0, []) else none
  | .slice (some ⟨b, o, none⟩) m _ => if m = 0 then some (0, []) else (eCells E b).bind fun cs => if o + m * e ≤ cs.length then some (m, (cs.drop o).take (m * e)) else none
  | _ => none
def eApp (e bytes : Nat) (s x : Value) (E : EH) : Option (Value × EH) :=
  (eRow e x E).bind fun r =>
    if r.2.all Value.oneCell' = true ∧ 0 < e then
      match s with
      | .slice none n k => if n = 0 ∧ k = 0 then (if r.1 = 0 then some (.slice none 0 0, E) else if r.1 * bytes ≤ room ∧ r.1 ≤ room then eRowP r.1 e r.2 E else none) else none
      | .slice (some ⟨b, o, none⟩) n e' =>
        if r.1 = 0 then some (s, E)
        else if e' = 0 then (if n = 0 ∧ r.1 * bytes ≤ room ∧ r.1 ≤ room then eRowP r.1 e r.2 E else none)
        else match E.get b with
          | some (.cells false cs) =>
            if e' = e ∧ o + n * e ≤ cs.length ∧ (n + r.1) * bytes ≤ room ∧ n + r.1 ≤ room then (E.set b .dead).bind fun E1 => eRowP (n + r.1) e ((cs.drop o).take (n * e) ++ r.2) E1 else none
          | _ => none
      | _ => none
    else none
def eMake (zero : List Value) (e bytes : Nat) (len cap : Value) (E : EH) : Option (Value × EH) :=
  match len, cap with
  | .int _ l, .int _ c => if 0 ≤ l ∧ l = c ∧ l.toNat * bytes ≤ room ∧ l.toNat ≤ room ∧ 0 < e ∧ zero.length = e then
      eRowP l.toNat e (List.replicate l.toNat zero).flatten E else none
  | _, _ => none
def eMapOf (v : Value) (E : EH) : Option (List MapEntry × Nat) :=
  match v with
  | .map none => some ([], 0)
  | .map (some b) => match E.get b with
    | some (.map es c) => some (es, c)
    | _ => none
  | _ => none
def eLookup (fl : KCls) (zero : Value) (m k : Value) (ok : Bool) (E : EH) : Option Value :=
  if keyOK fl k = true then (eMapOf m E).bind fun es => (findKey' fl k es.1 0).map fun r => match r with
    | some (_, v) => if ok then .tuple #[v, .bool true] else v
    | none => if ok then .tuple #[zero, .bool false] else zero
  else none
def eUpdate (fl : KCls) (m k x : Value) (E : EH) : Option EH :=
  if keyOK fl k = true then match m with
  | .map (some b) => match E.get b with
    | some (.map es c) => (findKey' fl k es 0).bind fun r => match r with
      | some (i, _) => E.set b (.map (es.modify i fun e => { e with key := k, val := x }) c)
      | none => E.set b (.map (es ++ [{ key := k, val := x, born := c }]) (c + 1))
    | _ => none
  | _ => none
  else none
def eDelete (fl : KCls) (m k : Value) (E : EH) : Option EH :=
  if keyOK fl k = true then match m with
  | .map (some b) => match E.get b with
    | some (.map es c) => (findKey' fl k es 0).bind fun r => match r with
      | some (i, _) => E.set b (.map (es.eraseIdx i) c)
      | none => E.set b (.map es c)
    | _ => none
  | _ => none
  else none

/-- The tree's outcome, and the heap's. -/
def Did (g d : Nat) (F : List AObj) (x : Option (Value × EH)) (y : Option (Value × AH)) : Prop := ∀ v E', x = some (v, E') → ∃ H', y = some (shV g d v, H') ∧ HR g d F E' H'
def DidH (g d : Nat) (F : List AObj) (x : Option EH) (y : Option AH) : Prop := ∀ E', x = some E' → ∃ H', y = some H' ∧ HR g d F E' H'

section
variable {g d : Nat} {F : List AObj} {E E' : EH} {H : AH}
theorem HR.cells (h : HR g d F E H) (b : Nat) : pCells H (shB g d b) = (eCells E b).map (shL g d) := by
  unfold pCells eCells
  rw [h.get b]
  cases E.get b with
  | none => rfl
  | some o => cases o <;> rfl
theorem HR.ld1 (h : HR g d F E H) (v : Value) : pLd1 ((shV g d) v) H = (eLd1 v E).map (shV g d) := by
  unfold pLd1 eLd1
  rw [sh_pAt]
  cases pAt v with
  | none => rfl
  | some a =>
    simp only [Option.map_some, Option.bind_some, h.cells]
    cases eCells E a.1 <;> simp [shL]
theorem HR.ldN (h : HR g d F E H) (n : Nat) (v : Value) : pLdN n ((shV g d) v) H = (eLdN n v E).map (shV g d) := by
  unfold pLdN eLdN
  rw [sh_pAt]
  cases pAt v with
  | none => rfl
  | some a =>
    simp only [Option.map_some, Option.bind_some, h.cells]
    cases eCells E a.1 with
    | none => rfl
    | some cs =>
      simp only [Option.map_some, Option.bind_some, shL, List.length_map]
      split
      · simp [List.map_take, List.map_drop]
      · rfl
theorem HR.st (h : HR g d F E H) (n : Nat) (v x : Value) : DidH g d F (eSt n v x E) (pSt n ((shV g d) v) ((shV g d) x) H) := by
  intro E' he
  unfold eSt at he
  unfold pSt
  rw [sh_pAt]
  obtain ⟨a, ha, he⟩ := Option.bind_eq_some_iff.1 he
  rw [ha]
  simp only [Option.map_some, Option.bind_some, h.get]
  split at he
  · rename_i cs hcs
    split at he
    · rename_i hc
      rw [hcs]
      simp only [Option.map_some, shO]
      rw [sh_cells, Array.size_map, Array.toList_map, show (shL g d cs).length = cs.length from List.length_map _, show (List.map (shV g d) x.cells.toList).all Value.oneCell' = x.cells.toList.all Value.oneCell' from sh_ones _, if_pos hc,
        show splice (shL g d cs) a.2 (List.map (shV g d) x.cells.toList) = shL g d (splice cs a.2 x.cells.toList) from sh_splice _ _ _]
      exact ⟨_, rfl, h.set (h.lt hcs) he⟩
    · cases he
  · cases he
theorem HR.new' (h : HR g d F E H) (cs : List Value) : Did g d F (eNew cs E) (some (pNew (shL g d cs) H)) := by
  intro v E' he
  obtain ⟨E1, h1, e⟩ := Option.map_eq_some_iff.1 he
  cases e
  exact ⟨H.push (shO g d (.cells false cs)), by simp [pNew, h.new, shA, shO], h.push h1⟩
theorem HR.rowP (h : HR g d F E H) (n e : Nat) (cs : List Value) : Did g d F (eRowP n e cs E) (some (.slice (some ⟨H.size, 0, none⟩) n e, H.push (.cells false (shL g d cs)))) := by
  intro v E' he
  obtain ⟨E1, h1, e⟩ := Option.map_eq_some_iff.1 he
  cases e
  exact ⟨H.push (shO g d (.cells false cs)), by simp [h.new, shA, shO], h.push h1⟩
theorem HR.lenM (h : HR g d F E H) (v : Value) : pLenM ((shV g d) v) H = (eLenM v E).map (shV g d) := by
  cases v with
  | map r =>
    cases r with
    | none => simp [pLenM, eLenM]
    | some b =>
      simp only [sh_map, Option.map_some, pLenM, eLenM, h.get]
      cases E.get b with
      | none => rfl
      | some o => cases o <;> simp [shO]
  | _ => simp [pLenM, eLenM]
theorem HR.row (h : HR g d F E H) (e : Nat) (x : Value) : pRow e ((shV g d) x) H = (eRow e x E).map fun r => (r.1, shL g d r.2) := by
  cases x with
  | slice a n k =>
    cases a with
    | none => simp only [sh_slice, Option.map_none, pRow, eRow]; split <;> rfl
    | some a =>
      obtain ⟨b, o, sp⟩ := a
      cases sp with
      | some sp => simp [pRow, eRow, shA]
      | none =>
        simp only [sh_slice, Option.map_some, shA, pRow, eRow, h.cells]
        split
        · rfl
        · cases eCells E b with
          | none => rfl
          | some cs =>
            simp only [Option.map_some, Option.bind_some, shL, List.length_map]
            split
            · simp [List.map_take, List.map_drop]
            · rfl
  | _ => simp [pRow, eRow]
theorem HR.mapOf (h : HR g d F E H) (v : Value) : pMapOf ((shV g d) v) H = (eMapOf v E).map fun r => (r.1.map (shE g d), r.2) := by
  cases v with
  | map r =>
    cases r with
    | none => simp [pMapOf, eMapOf]
    | some b =>
      simp only [sh_map, Option.map_some, pMapOf, eMapOf, h.get]
      cases E.get b with
      | none => rfl
      | some o => cases o <;> simp [shO]
  | _ => simp [pMapOf, eMapOf]
theorem HR.lookup (h : HR g d F E H) (fl : KCls) {zero : Value} (hz : (shV g d) zero = zero) (m k : Value) (ok : Bool) : pLookup fl zero ((shV g d) m) ((shV g d) k) ok H = (eLookup fl zero m k ok E).map (shV g d) := by
  unfold pLookup eLookup
  rw [sh_keyOK]
  split
  · rw [h.mapOf]
    cases eMapOf m E with
    | none => rfl
    | some es =>
      simp only [Option.map_some, Option.bind_some, sh_findKey]
      cases findKey' fl k es.1 0 with
      | none => rfl
      | some r =>
        cases r with
        | none => cases ok <;> simp [hz]
        | some p => cases ok <;> simp
  · rfl
theorem HR.update (h : HR g d F E H) (fl : KCls) (m k x : Value) : DidH g d F (eUpdate fl m k x E) (pUpdate fl ((shV g d) m) ((shV g d) k) ((shV g d) x) H) := by
  intro E' he
  unfold eUpdate at he
  split at he
  · rename_i hk
    split at he
    · rename_i b
      split at he
      · rename_i es c hb
        obtain ⟨r, hr, he⟩ := Option.bind_eq_some_iff.1 he
        have hg : H.get (shB g d b) = some (.map (es.map (shE g d)) c) := by rw [h.get, hb]; rfl
        have hf := sh_findKey (g := g) (d := d) fl k es 0
        rw [hr] at hf
        simp only [sh_map, Option.map_some, pUpdate, sh_keyOK, hk, if_true, hg]
        cases r with
        | some p =>
          have hf : findKey' fl ((shV g d) k) (es.map (shE g d)) 0 = some (some (p.1, (shV g d) p.2)) := hf
          rw [hf]
          refine ⟨_, rfl, ?_⟩
          have := h.set (h.lt hb) he
          simp only [shO] at this
          show HR g d F E' (H.set (shB g d b) (.map ((es.map (shE g d)).modify p.1 fun e => { e with key := (shV g d) k, val := (shV g d) x }) c))
          rw [show (es.map (shE g d)).modify p.1 (fun e => { e with key := (shV g d) k, val := (shV g d) x }) = (es.modify p.1 fun e => { e with key := k, val := x }).map (shE g d) from ?_]
          · exact this
          · apply List.ext_getElem?
            intro i
            simp only [List.getElem?_modify, List.getElem?_map]
            cases es[i]? with
            | none => rfl
            | some e => simp only [Option.map_some, Option.map_map]; split <;> rfl
        | none =>
          have hf : findKey' fl ((shV g d) k) (es.map (shE g d)) 0 = some none := hf
          rw [hf]
          refine ⟨_, rfl, ?_⟩
          have := h.set (h.lt hb) he
          simp only [shO, List.map_append, List.map_cons, List.map_nil, shE] at this
          exact this
      · cases he
    · cases he
  · cases he
theorem HR.delete (h : HR g d F E H) (fl : KCls) (m k : Value) : DidH g d F (eDelete fl m k E) (pDelete fl ((shV g d) m) ((shV g d) k) H) := by
  intro E' he
  unfold eDelete at he
  split at he
  · rename_i hk
    split at he
    · rename_i b
      split at he
      · rename_i es c hb
        obtain ⟨r, hr, he⟩ := Option.bind_eq_some_iff.1 he
        have hg : H.get (shB g d b) = some (.map (es.map (shE g d)) c) := by rw [h.get, hb]; rfl
        have hf := sh_findKey (g := g) (d := d) fl k es 0
        rw [hr] at hf
        simp only [sh_map, Option.map_some, pDelete, sh_keyOK, hk, if_true, hg]
        cases r with
        | some p =>
          have hf : findKey' fl ((shV g d) k) (es.map (shE g d)) 0 = some (some (p.1, (shV g d) p.2)) := hf
          rw [hf]
          refine ⟨_, rfl, ?_⟩
          have := h.set (h.lt hb) he
          simp only [shO] at this
          show HR g d F E' (H.set (shB g d b) (.map ((es.map (shE g d)).eraseIdx p.1) c))
          rw [show (es.map (shE g d)).eraseIdx p.1 = (es.eraseIdx p.1).map (shE g d) from by simp [List.eraseIdx_eq_take_drop_succ, List.map_take, List.map_drop]]
          exact this
        | none =>
          have hf : findKey' fl ((shV g d) k) (es.map (shE g d)) 0 = some none := hf
          rw [hf]
          exact ⟨_, rfl, h.set (h.lt hb) he⟩
      · cases he
    · cases he
  · cases he
theorem HR.make (h : HR g d F E H) {zero : List Value} (hz : shL g d zero = zero) (e by' : Nat) (len cap : Value) : Did g d F (eMake zero e by' len cap E) (pMake zero e by' ((shV g d) len) ((shV g d) cap) H) := by
  intro v E' he
  unfold eMake at he
  split at he
  · split at he
    · rename_i k1 l k2 c hc
      obtain ⟨H', h1, h2⟩ := h.rowP _ _ _ v E' he
      refine ⟨H', ?_, h2⟩
      simp only [sh_int, pMake]
      rw [if_pos hc, ← h1]
      congr 4
      rw [shL, List.map_flatten, List.map_replicate, show List.map (shV g d) zero = zero from hz]
    · cases he
  · cases he
theorem HR.app (h : HR g d F E H) (e by' : Nat) (x y : Value) : Did g d F (eApp e by' x y E) (pApp e by' ((shV g d) x) ((shV g d) y) H) := by
  intro v E' he
  unfold eApp at he
  unfold pApp
  rw [h.row]
  obtain ⟨r, hr, he⟩ := Option.bind_eq_some_iff.1 he
  rw [hr]
  simp only [Option.map_some, Option.bind_some]
  rw [show (shL g d r.2).all Value.oneCell' = r.2.all Value.oneCell' from sh_ones _]
  split at he
  · rename_i hc
    rw [if_pos hc]
    split at he
    · rename_i n k
      simp only [sh_slice, Option.map_none]
      split at he
      · rename_i h0
        rw [if_pos h0]
        split at he
        · rename_i h1
          rw [if_pos h1]; cases he; exact ⟨H, by simp, h⟩
        · rename_i h1
          rw [if_neg h1]
          split at he
          · rename_i h2
            rw [if_pos h2]
            exact h.rowP _ _ _ v E' he
          · cases he
      · cases he
    · rename_i _ b o n e' _
      simp only [sh_slice, Option.map_some, shA]
      split at he
      · rename_i h1
        rw [if_pos h1]; cases he; exact ⟨H, by simp [shA], h⟩
      · rename_i h1
        rw [if_neg h1]
        split at he
        · rename_i h2
          rw [if_pos h2]
          split at he
          · rename_i h3
            rw [if_pos h3]
            exact h.rowP _ _ _ v E' he
          · cases he
        · rename_i h2
          rw [if_neg h2]
          split at he
          · rename_i cs hb
            have hg : H.get (shB g d b) = some (.cells false (shL g d cs)) := by rw [h.get, hb]; rfl
            rw [hg]
            simp only
            rw [show (shL g d cs).length = cs.length from List.length_map _]
            split at he
            · rename_i h3
              rw [if_pos h3]
              obtain ⟨E1, h4, he⟩ := Option.bind_eq_some_iff.1 he
              have hs := h.set (h.lt hb) h4
              obtain ⟨H', h5, h6⟩ := hs.rowP _ _ _ v E' he
              refine ⟨H', ?_, h6⟩
              rw [← h5, AH.size_set]
              simp [shO, shL, List.map_take, List.map_drop]
            · cases he
          · cases he
    · cases he
  · cases he
end
end Go.Proofs.YtbjelopcelompaaGreatDoor.Gst
