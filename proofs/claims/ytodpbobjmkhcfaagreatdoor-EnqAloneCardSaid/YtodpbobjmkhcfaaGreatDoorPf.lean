/- Several texts in one. -/
import Derived.Test.YtodpbobjmkhcfaaGreatDoorPe
namespace Go.Proofs.YtodpbobjmkhcfaaGreatDoor.Gst
open Go Go.RowKit
set_option linter.unusedSimpArgs false
set_option linter.unusedVariables false
set_option maxHeartbeats 4000000
set_option maxRecDepth 100000
set_option synthInstance.maxSize 2000
set_option synthInstance.maxHeartbeats 400000
section
variable {g d : Nat}
theorem sh_splice (cs : List Value) (o : Nat) (xs : List Value) : splice (shL g d cs) o (shL g d xs) = shL g d (splice cs o xs) := by
  simp [splice, shL, List.map_take, List.map_drop]
theorem sh_pFill (places : Nat → Option (Nat × Nat)) : ∀ (parts : List (Nat × Value)) (zero : List Value), pFill places (shL g d zero) (parts.map fun p => (p.1, (shV g d) p.2)) = (pFill places zero parts).map (shL g d) := by
  intro parts
  induction parts with
  | nil => intro zero; rfl
  | cons p parts ih =>
    intro zero
    obtain ⟨i, v⟩ := p
    simp only [List.map_cons, pFill]
    cases places i with
    | none => rfl
    | some q =>
      simp only [Option.bind_some]
      rw [sh_cells, Array.size_map, Array.toList_map, show (shL g d zero).length = zero.length from List.length_map _]
      split
      · rw [show List.map (shV g d) v.cells.toList = shL g d v.cells.toList from rfl, sh_splice]; exact ih _
      · rfl
theorem sh_pSlice (e : Nat) (x : Value) (lo hi : Option Value) : pSlice e ((shV g d) x) (lo.map (shV g d)) (hi.map (shV g d)) = (pSlice e x lo hi).map (shV g d) := by
  cases x with
  | slice a n e' =>
    have key : ∀ L R : Option Int, (L.bind fun l => R.bind fun h =>
      if 0 ≤ l ∧ l ≤ h ∧ h ≤ n then
        match a.map (shA g d) with
        | none => if n = 0 ∧ e' = 0 then some (.slice none 0 0) else none
        | some ⟨b, o, none⟩ => if e' = e ∧ 0 < e then some (.slice (some ⟨b, o + l.toNat * e, none⟩) (h.toNat - l.toNat) e) else none
        | _ => none
      else none : Option Value) = (L.bind fun l => R.bind fun h =>
      if 0 ≤ l ∧ l ≤ h ∧ h ≤ n then
        match a with
        | none => if n = 0 ∧ e' = 0 then some (.slice none 0 0) else none
        | some ⟨b, o, none⟩ => if e' = e ∧ 0 < e then some (.slice (some ⟨b, o + l.toNat * e, none⟩) (h.toNat - l.toNat) e) else none
        | _ => none
      else none : Option Value).map (shV g d) := by
      intro L R
      cases L with
      | none => rfl
      | some l =>
        cases R with
        | none => rfl
        | some r =>
          simp only [Option.bind_some]
          split
          · cases a with
            | none => simp only [Option.map_none]; split <;> simp
            | some a =>
              obtain ⟨b, o, sp⟩ := a
              cases sp with
              | none => simp only [Option.map_some, shA]; split <;> simp [shA]
              | some sp => simp [shA]
          · rfl
    cases lo with
    | none =>
      cases hi with
      | none => simp only [sh_slice, pSlice, Option.map_none]; exact key (some 0) (some n)
      | some h => simp only [sh_slice, pSlice, Option.map_some, sh_pInt?]; exact key (some 0) (pInt? h)
    | some l =>
      cases hi with
      | none => simp only [sh_slice, pSlice, Option.map_some, sh_pInt?]; exact key (pInt? l) (some n)
      | some h => simp only [sh_slice, pSlice, Option.map_some, sh_pInt?]; exact key (pInt? l) (pInt? h)
  | _ => simp [pSlice]
theorem sh_pSlice0 {x hi mx v : Value} (h : pSlice0 x hi mx = some v) : pSlice0 ((shV g d) x) ((shV g d) hi) ((shV g d) mx) = some ((shV g d) v) := by
  unfold pSlice0 at h
  split at h
  · cases h; simp [pSlice0]
  · cases h; simp [pSlice0, shA]
  · cases h
theorem sh_isInt (v : Value) : isIntV ((shV g d) v) = isIntV v := by cases v <;> simp [isIntV]
theorem sh_keyOK (cl : KCls) (k : Value) : keyOK cl ((shV g d) k) = keyOK cl k := by
  cases cl <;> cases k <;> simp [keyOK]
  rename_i n cs
  congr 2
  funext v; exact sh_isInt v
theorem sh_keyEq (cl : KCls) (a b : Value) : keyEq cl ((shV g d) a) ((shV g d) b) = keyEq cl a b := by
  cases cl with
  | flat n =>
    cases a <;> cases b <;> simp [keyEq]
    rename_i x y
    rw [show eqCells (List.map (shV g d) x.toList) (List.map (shV g d) y.toList) = eqCells x.toList y.toList from sh_eqCells _ _]
  | int => cases a <;> cases b <;> simp [keyEq]
  | string => cases a <;> cases b <;> simp [keyEq]
theorem sh_findKey (cl : KCls) (k : Value) : ∀ (es : List MapEntry) (i : Nat), findKey' cl ((shV g d) k) (es.map (shE g d)) i = (findKey' cl k es i).map fun r => r.map fun p => (p.1, (shV g d) p.2) := by
  intro es
  induction es with
  | nil => intro i; rfl
  | cons e es ih =>
    intro i
    simp only [List.map_cons, findKey', shE, sh_keyEq]
    cases keyEq cl k e.key with
    | none => rfl
    | some b =>
      simp only [Option.bind_some]
      cases b with
      | true => simp
      | false => simp only [Bool.false_eq_true, if_false]; exact ih _
theorem sh_pCallee (v : Value) (args : List Value) : pCallee ((shV g d) v) (shL g d args) = (pCallee v args).map fun r => (r.1, shL g d r.2) := by
  cases v with
  | func fn f c => cases fn <;> simp [pCallee, shL]
  | _ => simp [pCallee]
end
def eCells (E : EH) (b : Nat) : Option (List Value) :=
  match E.get b with
  | some (.cells _ cs) => some cs
  | _ => none
def eLd1 (v : Value) (E : EH) : Option Value := (pAt v).bind fun a => (eCells E a.1).bind fun cs => cs[a.2]?
def eLdN (n : Nat) (v : Value) (E : EH) : Option Value :=
  (pAt v).bind fun a => (eCells E a.1).bind fun cs => if a.2 + n ≤ cs.length then some (.agg ((cs.drop a.2).take n).toArray) else none
def eSt (n : Nat) (v x : Value) (E : EH) : Option EH :=
  (pAt v).bind fun a => match E.get a.1 with
    | some (.cells false cs) => if x.cells.size = n ∧ a.2 + n ≤ cs.length ∧ x.cells.toList.all Value.oneCell' = true then E.set a.1 (.cells false (splice cs a.2 x.cells.toList)) else none
    | _ => none
def eNew (cs : List Value) (E : EH) : Option (Value × EH) := (E.push (.cells false cs)).map fun E' => (.pointer (some ⟨E.n, 0, none⟩), E')
def eRowP (n e : Nat) (cs : List Value) (E : EH) : Option (Value × EH) := (E.push (.cells false cs)).map fun E' => (.slice (some ⟨E.n, 0, none⟩) n e, E')
def eLenM (v : Value) (E : EH) : Option Value :=
  match v with
  | .map none => some (.int .i64 0)
  | .map (some b) => match E.get b with
    | some (.map es _) => some (.int .i64 es.length)
    | _ => none
  | _ => none
def eRow (e : Nat) (x : Value) (E : EH) : Option (Nat × List Value) :=
  match x with
  | .slice none n _ => if n = 0 then some (0, []) else none
  | .slice (some ⟨b, o, none⟩) m _ => if m = 0 then some (0, []) else (eCells E b).bind fun cs => if o + m * e ≤ cs.length then some (m, (cs.drop o).take (m * e)) else none
  | _ => none
def eApp (e bytes : Nat) (s x : Value) (E : EH) : Option (Value × EH) :=
  (eRow e x E).bind fun r =>
    if r.2.all Value.oneCell' = true ∧ 0 < e then
      match s with
      | .slice none n k => if n = 0 ∧ k = 0 then (if r.1 = 0 then some (.slice none 0 0, E) else if r.1 * bytes ≤ room ∧ r.1 ≤ room then eRowP r.1 e r.2 E else none) else none
      | .slice (some ⟨b, o, none⟩) n e' =>
        if r.1 = 0 then some (s, E)
        else if e' = 0 then (if n = 0 ∧ r.1 * bytes ≤ room ∧ r.1 ≤ room then eRowP r.1 e r.2 E else none)
        else match E.get b with
          | some (.cells false cs) =>
            if e' = e ∧ o + n * e ≤ cs.length ∧ (n + r.1) * bytes ≤ room ∧ n + r.1 ≤ room then (E.set b .dead).bind fun E1 => eRowP (n + r.1) e ((cs.drop o).take (n * e) ++ r.2) E1 else none
          | _ => none
      | _ => none
    else none
def eMake (zero : List Value) (e bytes : Nat) (len cap : Value) (E : EH) : Option (Value × EH) :=
  match len, cap with
  | .int _ l, .int _ c => if 0 ≤ l ∧ l = c ∧ l.toNat * bytes ≤ room ∧ l.toNat ≤ room ∧ 0 < e ∧ zero.length = e then
      eRowP l.toNat e (List.replicate l.toNat zero).flatten E else none
  | _, _ => none
def eMapOf (v : Value) (E : EH) : Option (List MapEntry × Nat) :=
  match v with
  | .map none => some ([], 0)
  | .map (some b) => match E.get b with
    | some (.map es c) => some (es, c)
    | _ => none
  | _ => none
def eLookup (fl : KCls) (zero : Value) (m k : Value) (ok : Bool) (E : EH) : Option Value :=
  if keyOK fl k = true then (eMapOf m E).bind fun es => (findKey' fl k es.1 0).map fun r => match r with
    | some (_, v) => if ok then .tuple #[v, .bool true] else v
    | none => if ok then .tuple #[zero, .bool false] else zero
  else none
def eUpdate (fl : KCls) (m k x : Value) (E : EH) : Option EH :=
  if keyOK fl k = true then match m with
  | .map (some b) => match E.get b with
    | some (.map es c) => (findKey' fl k es 0).bind fun r => match r with
      | some (i, _) => E.set b (.map (es.modify i fun e => { e with key := k, val := x }) c)
      | none => E.set b (.map (es ++ [{ key := k, val := x, born := c }]) (c + 1))
    | _ => none
  | _ => none
  else none
def eDelete (fl : KCls) (m k : Value) (E : EH) : Option EH :=
  if keyOK fl k = true then match m with
  | .map (some b) => match E.get b with
    | some (.map es c) => (findKey' fl k es 0).bind fun r => match r with
      | some (i, _) => E.set b (.map (es.eraseIdx i) c)
      | none => E.set b (.map es c)
    | _ => none
  | _ => none
  else none
def Did (g d : Nat) (F : List AObj) (x : Option (Value × EH)) (y : Option (Value × AH)) : Prop := ∀ v E', x = some (v, E') → ∃ H', y = some (shV g d v, H') ∧ HR g d F E' H'
def DidH (g d : Nat) (F : List AObj) (x : Option EH) (y : Option AH) : Prop := ∀ E', x = some E' → ∃ H', y = some H' ∧ HR g d F E' H'
section
variable {g d : Nat} {F : List AObj} {E E' : EH} {H : AH}
theorem HR.cells (h : HR g d F E H) (b : Nat) : pCells H (shB g d b) = (eCells E b).map (shL g d) := by
  unfold pCells eCells
  rw [h.get b]
  cases E.get b with
  | none => rfl
  | some o => cases o <;> rfl
theorem HR.ld1 (h : HR g d F E H) (v : Value) : pLd1 ((shV g d) v) H = (eLd1 v E).map (shV g d) := by
  unfold pLd1 eLd1
  rw [sh_pAt]
  cases pAt v with
  | none => rfl
  | some a =>
    simp only [Option.map_some, Option.bind_some, h.cells]
    cases eCells E a.1 <;> simp [shL]
theorem HR.ldN (h : HR g d F E H) (n : Nat) (v : Value) : pLdN n ((shV g d) v) H = (eLdN n v E).map (shV g d) := by
  unfold pLdN eLdN
  rw [sh_pAt]
  cases pAt v with
  | none => rfl
  | some a =>
    simp only [Option.map_some, Option.bind_some, h.cells]
    cases eCells E a.1 with
    | none => rfl
    | some cs =>
      simp only [Option.map_some, Option.bind_some, shL, List.length_map]
      split
      · simp [List.map_take, List.map_drop]
      · rfl
theorem HR.st (h : HR g d F E H) (n : Nat) (v x : Value) : DidH g d F (eSt n v x E) (pSt n ((shV g d) v) ((shV g d) x) H) := by
  intro E' he
  unfold eSt at he
  unfold pSt
  rw [sh_pAt]
  obtain ⟨a, ha, he⟩ := Option.bind_eq_some_iff.1 he
  rw [ha]
  simp only [Option.map_some, Option.bind_some, h.get]
  split at he
  · rename_i cs hcs
    split at he
    · rename_i hc
      rw [hcs]
      simp only [Option.map_some, shO]
      rw [sh_cells, Array.size_map, Array.toList_map, show (shL g d cs).length = cs.length from List.length_map _, show (List.map (shV g d) x.cells.toList).all Value.oneCell' = x.cells.toList.all Value.oneCell' from sh_ones _, if_pos hc,
        show splice (shL g d cs) a.2 (List.map (shV g d) x.cells.toList) = shL g d (splice cs a.2 x.cells.toList) from sh_splice _ _ _]
      exact ⟨_, rfl, h.set (h.lt hcs) he⟩
    · cases he
  · cases he
theorem HR.new' (h : HR g d F E H) (cs : List Value) : Did g d F (eNew cs E) (some (pNew (shL g d cs) H)) := by
  intro v E' he
  obtain ⟨E1, h1, e⟩ := Option.map_eq_some_iff.1 he
  cases e
  exact ⟨H.push (shO g d (.cells false cs)), by simp [pNew, h.new, shA, shO], h.push h1⟩
theorem HR.rowP (h : HR g d F E H) (n e : Nat) (cs : List Value) : Did g d F (eRowP n e cs E) (some (.slice (some ⟨H.size, 0, none⟩) n e, H.push (.cells false (shL g d cs)))) := by
  intro v E' he
  obtain ⟨E1, h1, e⟩ := Option.map_eq_some_iff.1 he
  cases e
  exact ⟨H.push (shO g d (.cells false cs)), by simp [h.new, shA, shO], h.push h1⟩
theorem HR.lenM (h : HR g d F E H) (v : Value) : pLenM ((shV g d) v) H = (eLenM v E).map (shV g d) := by
  cases v with
  | map r =>
    cases r with
    | none => simp [pLenM, eLenM]
    | some b =>
      simp only [sh_map, Option.map_some, pLenM, eLenM, h.get]
      cases E.get b with
      | none => rfl
      | some o => cases o <;> simp [shO]
  | _ => simp [pLenM, eLenM]
theorem HR.row (h : HR g d F E H) (e : Nat) (x : Value) : pRow e ((shV g d) x) H = (eRow e x E).map fun r => (r.1, shL g d r.2) := by
  cases x with
  | slice a n k =>
    cases a with
    | none => simp only [sh_slice, Option.map_none, pRow, eRow]; split <;> rfl
    | some a =>
      obtain ⟨b, o, sp⟩ := a
      cases sp with
      | some sp => simp [pRow, eRow, shA]
      | none =>
        simp only [sh_slice, Option.map_some, shA, pRow, eRow, h.cells]
        split
        · rfl
        · cases eCells E b with
          | none => rfl
          | some cs =>
            simp only [Option.map_some, Option.bind_some, shL, List.length_map]
            split
            · simp [List.map_take, List.map_drop]
            · rfl
  | _ => simp [pRow, eRow]
theorem HR.mapOf (h : HR g d F E H) (v : Value) : pMapOf ((shV g d) v) H = (eMapOf v E).map fun r => (r.1.map (shE g d), r.2) := by
  cases v with
  | map r =>
    cases r with
    | none => simp [pMapOf, eMapOf]
    | some b =>
      simp only [sh_map, Option.map_some, pMapOf, eMapOf, h.get]
      cases E.get b with
      | none => rfl
      | some o => cases o <;> simp [shO]
  | _ => simp [pMapOf, eMapOf]
theorem HR.lookup (h : HR g d F E H) (fl : KCls) {zero : Value} (hz : (shV g d) zero = zero) (m k : Value) (ok : Bool) : pLookup fl zero ((shV g d) m) ((shV g d) k) ok H = (eLookup fl zero m k ok E).map (shV g d) := by
  unfold pLookup eLookup
  rw [sh_keyOK]
  split
  · rw [h.mapOf]
    cases eMapOf m E with
    | none => rfl
    | some es =>
      simp only [Option.map_some, Option.bind_some, sh_findKey]
      cases findKey' fl k es.1 0 with
      | none => rfl
      | some r =>
        cases r with
        | none => cases ok <;> simp [hz]
        | some p => cases ok <;> simp
  · rfl
theorem HR.update (h : HR g d F E H) (fl : KCls) (m k x : Value) : DidH g d F (eUpdate fl m k x E) (pUpdate fl ((shV g d) m) ((shV g d) k) ((shV g d) x) H) := by
  intro E' he
  unfold eUpdate at he
  split at he
  · rename_i hk
    split at he
    · rename_i b
      split at he
      · rename_i es c hb
        obtain ⟨r, hr, he⟩ := Option.bind_eq_some_iff.1 he
        have hg : H.get (shB g d b) = some (.map (es.map (shE g d)) c) := by rw [h.get, hb]; rfl
        have hf := sh_findKey (g := g) (d := d) fl k es 0
        rw [hr] at hf
        simp only [sh_map, Option.map_some, pUpdate, sh_keyOK, hk, if_true, hg]
        cases r with
        | some p =>
          have hf : findKey' fl ((shV g d) k) (es.map (shE g d)) 0 = some (some (p.1, (shV g d) p.2)) := hf
          rw [hf]
          refine ⟨_, rfl, ?_⟩
          have := h.set (h.lt hb) he
          simp only [shO] at this
          show HR g d F E' (H.set (shB g d b) (.map ((es.map (shE g d)).modify p.1 fun e => { e with key := (shV g d) k, val := (shV g d) x }) c))
          rw [show (es.map (shE g d)).modify p.1 (fun e => { e with key := (shV g d) k, val := (shV g d) x }) = (es.modify p.1 fun e => { e with key := k, val := x }).map (shE g d) from ?_]
          · exact this
          · apply List.ext_getElem?
            intro i
            simp only [List.getElem?_modify, List.getElem?_map]
            cases es[i]? with
            | none => rfl
            | some e => simp only [Option.map_some, Option.map_map]; split <;> rfl
        | none =>
          have hf : findKey' fl ((shV g d) k) (es.map (shE g d)) 0 = some none := hf
          rw [hf]
          refine ⟨_, rfl, ?_⟩
          have := h.set (h.lt hb) he
          simp only [shO, List.map_append, List.map_cons, List.map_nil, shE] at this
          exact this
      · cases he
    · cases he
  · cases he
theorem HR.delete (h : HR g d F E H) (fl : KCls) (m k : Value) : DidH g d F (eDelete fl m k E) (pDelete fl ((shV g d) m) ((shV g d) k) H) := by
  intro E' he
  unfold eDelete at he
  split at he
  · rename_i hk
    split at he
    · rename_i b
      split at he
      · rename_i es c hb
        obtain ⟨r, hr, he⟩ := Option.bind_eq_some_iff.1 he
        have hg : H.get (shB g d b) = some (.map (es.map (shE g d)) c) := by rw [h.get, hb]; rfl
        have hf := sh_findKey (g := g) (d := d) fl k es 0
        rw [hr] at hf
        simp only [sh_map, Option.map_some, pDelete, sh_keyOK, hk, if_true, hg]
        cases r with
        | some p =>
          have hf : findKey' fl ((shV g d) k) (es.map (shE g d)) 0 = some (some (p.1, (shV g d) p.2)) := hf
          rw [hf]
          refine ⟨_, rfl, ?_⟩
          have := h.set (h.lt hb) he
          simp only [shO] at this
          show HR g d F E' (H.set (shB g d b) (.map ((es.map (shE g d)).eraseIdx p.1) c))
          rw [show (es.map (shE g d)).eraseIdx p.1 = (es.eraseIdx p.1).map (shE g d) from by simp [List.eraseIdx_eq_take_drop_succ, List.map_take, List.map_drop]]
          exact this
        | none =>
          have hf : findKey' fl ((shV g d) k) (es.map (shE g d)) 0 = some none := hf
          rw [hf]
          exact ⟨_, rfl, h.set (h.lt hb) he⟩
      · cases he
    · cases he
  · cases he
theorem HR.make (h : HR g d F E H) {zero : List Value} (hz : shL g d zero = zero) (e by' : Nat) (len cap : Value) : Did g d F (eMake zero e by' len cap E) (pMake zero e by' ((shV g d) len) ((shV g d) cap) H) := by
  intro v E' he
  unfold eMake at he
  split at he
  · split at he
    · rename_i k1 l k2 c hc
      obtain ⟨H', h1, h2⟩ := h.rowP _ _ _ v E' he
      refine ⟨H', ?_, h2⟩
      simp only [sh_int, pMake]
      rw [if_pos hc, ← h1]
      congr 4
      rw [shL, List.map_flatten, List.map_replicate, show List.map (shV g d) zero = zero from hz]
    · cases he
  · cases he
theorem HR.app (h : HR g d F E H) (e by' : Nat) (x y : Value) : Did g d F (eApp e by' x y E) (pApp e by' ((shV g d) x) ((shV g d) y) H) := by
  intro v E' he
  unfold eApp at he
  unfold pApp
  rw [h.row]
  obtain ⟨r, hr, he⟩ := Option.bind_eq_some_iff.1 he
  rw [hr]
  simp only [Option.map_some, Option.bind_some]
  rw [show (shL g d r.2).all Value.oneCell' = r.2.all Value.oneCell' from sh_ones _]
  split at he
  · rename_i hc
    rw [if_pos hc]
    split at he
    · rename_i n k
      simp only [sh_slice, Option.map_none]
      split at he
      · rename_i h0
        rw [if_pos h0]
        split at he
        · rename_i h1
          rw [if_pos h1]; cases he; exact ⟨H, by simp, h⟩
        · rename_i h1
          rw [if_neg h1]
          split at he
          · rename_i h2
            rw [if_pos h2]
            exact h.rowP _ _ _ v E' he
          · cases he
      · cases he
    · rename_i _ b o n e' _
      simp only [sh_slice, Option.map_some, shA]
      split at he
      · rename_i h1
        rw [if_pos h1]; cases he; exact ⟨H, by simp [shA], h⟩
      · rename_i h1
        rw [if_neg h1]
        split at he
        · rename_i h2
          rw [if_pos h2]
          split at he
          · rename_i h3
            rw [if_pos h3]
            exact h.rowP _ _ _ v E' he
          · cases he
        · rename_i h2
          rw [if_neg h2]
          split at he
          · rename_i cs hb
            have hg : H.get (shB g d b) = some (.cells false (shL g d cs)) := by rw [h.get, hb]; rfl
            rw [hg]
            simp only
            rw [show (shL g d cs).length = cs.length from List.length_map _]
            split at he
            · rename_i h3
              rw [if_pos h3]
              obtain ⟨E1, h4, he⟩ := Option.bind_eq_some_iff.1 he
              have hs := h.set (h.lt hb) h4
              obtain ⟨H', h5, h6⟩ := hs.rowP _ _ _ v E' he
              refine ⟨H', ?_, h6⟩
              rw [← h5, AH.size_set]
              simp [shO, shL, List.map_take, List.map_drop]
            · cases he
          · cases he
    · cases he
  · cases he
end
abbrev TF := Nat → List Value → EH → Option (Value × EH)
def tBuiltin (P : Program) (b : Builtin) (argTypes : Array TypeId) (args : List Value) (E : EH) : Option (Value × EH) :=
  match b, args with
  | .len, [x] => match (argTypes[0]?).bind fun t => P.underlying t with
    | some (.slice _) => match x with | .slice _ _ _ => (pLen x).map (·, E) | _ => none
    | some .string => match x with | .string _ => (pLen x).map (·, E) | _ => none
    | some (.map _ _) => (eLenM x E).map (·, E)
    | _ => none
  | .max, args => (pMax args).map (·, E)
  | .min, args => (pMin args).map (·, E)
  | .append, [s, x] => (argTypes[0]?).bind fun t => (elemOf' P t).bind fun el => (szOf P el).bind fun e => (bytesOf' P el).bind fun by' => (zeroOf P el).bind fun z =>
      if z.cells.size = e ∧ (argTypes[1]?).bind (fun u => elemOf' P u) = some el then eApp e by' s x E else none
  | .delete, [m, k] => (argTypes[0]?).bind fun t => (mapTypes P t).bind fun kt => (flatKey P kt.1).bind fun fl => (eDelete fl m k E).map fun E' => (.tuple #[], E')
  | _, _ => none
def tRd (P : Program) (ev : Operand → Value) (op : Op) (E : EH) : Option Value :=
  match op with
  | .load t a => (aggOf P t).bind fun g => match g with
    | some n => eLdN n (ev a) E
    | none => eLd1 (ev a) E
  | .lookup t m k ok => (mapTypes P t).bind fun kt => (flatKey P kt.1).bind fun fl => (zeroOf P kt.2).bind fun z => eLookup fl z (ev m) (ev k) ok E
  | .call c => match c.args.toList.map ev with
    | [x] => match (c.argTypes[0]?).bind fun t => P.underlying t with
      | some (.slice _) => match x with | .slice _ _ _ => pLen x | _ => none
      | some .string => match x with | .string _ => pLen x | _ => none
      | some (.map _ _) => eLenM x E
      | _ => none
    | _ => none
  | _ => none
def tOp (P : Program) (call : TF) (ev : Operand → Value) (o : Oper) (E : EH) : Option (Value × EH) :=
  match o.op with
  | .move x => some (ev x, E)
  | .assign x => some (ev x, E)
  | .pick c a b => (pPick (ev c) (ev a) (ev b)).map (·, E)
  | .alloc t => (zeroOf P t).bind fun z => eNew z.cells.toList E
  | .box _ x => eNew (ev x).cells.toList E
  | .build t parts => match P.underlying t with
    | some (.struct fs) => (zeroOf P t).bind fun z => (placesOf P fs.toList).bind fun ps => (pFill (ps[·]?) z.cells.toList (parts.toList.map fun p => (p.1, ev p.2))).map fun cs => (.agg cs.toArray, E)
    | some (.array _ el) => (zeroOf P t).bind fun z => (szOf P el).bind fun e => (pFill (fun i => some (i * e, e)) z.cells.toList (parts.toList.map fun p => (p.1, ev p.2))).map fun cs => (.agg cs.toArray, E)
    | _ => none
  | .buildSlice t len parts => (elemOf' P t).bind fun el => (szOf P el).bind fun e => (zeroOf P el).bind fun z =>
      if 0 < e ∧ z.cells.size = e ∧ len * e ≤ 2 ^ 24 then
        (pFill (fun i => some (i * e, e)) (List.replicate len z.cells.toList).flatten (parts.toList.map fun p => (p.1, ev p.2))).bind fun cs => eRowP len e cs E
      else none
  | .load t a => (aggOf P t).bind fun g => match g with
    | some n => (eLdN n (ev a) E).map (·, E)
    | none => (eLd1 (ev a) E).map (·, E)
  | .store t a x => (szOf P t).bind fun n => (eSt n (ev a) (ev x) E).map fun E' => (undef, E')
  | .nilCheck x => (pNil (ev x)).map (·, E)
  | .binOp op t x y _ => (pBin (clsOf P t) op (ev x) (ev y)).map (·, E)
  | .unOp op _ x => (pUn op (ev x)).map (·, E)
  | .convert src dst x => match P.underlying src with
    | some _ => (pConv (kindOf P dst) (ev x)).map (·, E)
    | none => none
  | .makeFunc fn first captured => some (.func fn (first.map ev) (captured.map ev), E)
  | .makeMap _ none => (E.push (.map [] 0)).map fun E' => (.map (some E.n), E')
  | .makeSlice t l c => (elemOf' P t).bind fun el => (szOf P el).bind fun e => (bytesOf' P el).bind fun by' => (zeroOf P el).bind fun z => eMake z.cells.toList e by' (ev l) (ev c) E
  | .slice t x lo hi none => (elemOf' P t).bind fun el => (szOf P el).bind fun e => (pSlice e (ev x) (lo.map ev) (hi.map ev)).map (·, E)
  | .slice t x none (some hi) (some mx) => (elemOf' P t).bind fun el => (szOf P el).bind fun _ => (pSlice0 (ev x) (ev hi) (ev mx)).map (·, E)
  | .fieldAddr s x f => (fieldOf P s f).bind fun f => (szOf P f.type).bind fun n => if n = 0 then none else (pFld f.offset (ev x)).map (·, E)
  | .field s x f => (fieldOf P s f).bind fun f => (aggOf P f.type).bind fun n => (pPart n f.offset (ev x)).map (·, E)
  | .indexAddr t x i => match P.underlying t with
    | some (.slice el) => (szOf P el).bind fun e => (pIdx e (ev x) (ev i)).map (·, E)
    | some (.array len el) => (szOf P el).bind fun e => (pIdxA len e (ev x) (ev i)).map (·, E)
    | _ => none
  | .index t x i => match P.underlying t with
    | some (.array len el) => (szOf P el).bind fun e => (aggOf P el).bind fun n => (pIndexV len n e (ev x) (ev i)).map (·, E)
    | some .string => (pIndexS (ev x) (ev i)).map (·, E)
    | _ => none
  | .lookup t m k ok => (mapTypes P t).bind fun kt => (flatKey P kt.1).bind fun fl => (zeroOf P kt.2).bind fun z => (eLookup fl z (ev m) (ev k) ok E).map (·, E)
  | .mapUpdate t m k x => (mapTypes P t).bind fun kt => (flatKey P kt.1).bind fun fl => (eUpdate fl (ev m) (ev k) (ev x) E).map fun E' => (undef, E')
  | .extract t i => (pExtract (ev t) i).map (·, E)
  | .call c => match c.callee with
    | .builtin b => tBuiltin P b c.argTypes (c.args.toList.map ev) E
    | .value f => (pCallee (ev f) (c.args.toList.map ev)).bind fun fa => call fa.1 fa.2 E
    | _ => none
  | _ => none
section
variable {P : Program} {g d : Nat} {F : List AObj} {E E' : EH} {H : AH}
theorem zeroOf_sh {t : TypeId} {z : Value} (h : zeroOf P t = some z) : (shV g d) z = z ∧ shL g d z.cells.toList = z.cells.toList := by
  obtain ⟨i, _, _, h1, h2⟩ := zeroOf_info h
  exact ⟨sh_const h2, sh_lits h1⟩
theorem Did.val (h : HR g d F E H) {x y : Option Value} (e : y = x.map (shV g d)) : Did g d F (x.map (·, E)) (y.map (·, H)) := by
  intro v E' hx
  obtain ⟨z, hz, e1⟩ := Option.map_eq_some_iff.1 hx
  cases e1
  rw [e, hz]
  exact ⟨H, rfl, h⟩
theorem Did.bind {α : Type} {o : Option α} {f : α → Option (Value × EH)} {f' : α → Option (Value × AH)} (h : ∀ a, o = some a → Did g d F (f a) (f' a)) : Did g d F (o.bind f) (o.bind f') := by
  intro v E' hx
  obtain ⟨a, ha, hx⟩ := Option.bind_eq_some_iff.1 hx
  rw [ha]
  exact h a ha v E' hx
theorem Did.no {y : Option (Value × AH)} : Did g d F none y := fun v E' h => by cases h
theorem Did.ite {c : Prop} [Decidable c] {x : Option (Value × EH)} {y : Option (Value × AH)} (h : c → Did g d F x y) : Did g d F (if c then x else none) (if c then y else none) := by
  intro v E' hx
  split at hx
  · rename_i hc; rw [if_pos hc]; exact h hc v E' hx
  · cases hx
theorem Did.heap {x : Option EH} {y : Option AH} (v : Value) (hv : (shV g d) v = v) (h : DidH g d F x y) : Did g d F (x.map fun E' => (v, E')) (y.map fun H' => (v, H')) := by
  intro v' E' hx
  obtain ⟨E1, h1, e⟩ := Option.map_eq_some_iff.1 hx
  cases e
  obtain ⟨H', h2, h3⟩ := h E' h1
  exact ⟨H', by rw [h2, hv]; rfl, h3⟩
theorem ev_map {ev ev' : Operand → Value} {l : List Operand} (h : ∀ x ∈ l, ev' x = (shV g d) (ev x)) : l.map ev' = shL g d (l.map ev) := by
  rw [shL, List.map_map]
  exact List.map_congr_left h
theorem builtin_did (h : HR g d F E H) (b : Builtin) (ats : Array TypeId) (args : List Value) : Did g d F (tBuiltin P b ats args E) (aBuiltin P b ats (shL g d args) H) := by
  intro v E' hx
  unfold tBuiltin at hx
  split at hx
  · rename_i x
    simp only [shL, List.map_cons, List.map_nil, aBuiltin]
    split at hx
    · rename_i hu
      rw [hu]
      simp only
      split at hx
      · simp only [sh_slice]
        exact Did.val h (by rw [← sh_slice, sh_pLen]) v E' hx
      · cases hx
    · rename_i hu
      rw [hu]
      simp only
      split at hx
      · simp only [sh_string]
        exact Did.val h (by simp [pLen]) v E' hx
      · cases hx
    · rename_i hu
      rw [hu]
      exact Did.val h (h.lenM _) v E' hx
    · cases hx
  · exact Did.val h (sh_pMax _) v E' hx
  · exact Did.val h (sh_pMin _) v E' hx
  · simp only [shL, List.map_cons, List.map_nil, aBuiltin]
    exact Did.bind (fun t _ => Did.bind fun el _ => Did.bind fun e _ => Did.bind fun by' _ => Did.bind fun z _ => Did.ite fun _ => h.app _ _ _ _) v E' hx
  · simp only [shL, List.map_cons, List.map_nil, aBuiltin]
    exact Did.bind (fun t _ => Did.bind fun kt _ => Did.bind fun fl _ => Did.heap _ (by simp) (h.delete _ _ _)) v E' hx
  · cases hx
theorem rd_sh (h : HR g d F E H) {ev ev' : Operand → Value} {op : Op} (hev : ∀ x, x ∈ op.operands.toList → ev' x = (shV g d) (ev x)) : aRd P ev' op H = (tRd P ev op E).map (shV g d) := by
  cases op with
  | load t a =>
    simp only [aRd, tRd]
    rw [hev a (by simp [Op.operands])]
    cases aggOf P t with
    | none => rfl
    | some n => cases n with
      | none => exact h.ld1 _
      | some n => exact h.ldN _ _
  | lookup t m k ok =>
    simp only [aRd, tRd]
    rw [hev m (by simp [Op.operands]), hev k (by simp [Op.operands])]
    cases mapTypes P t with
    | none => rfl
    | some kt =>
      simp only [Option.bind_some]
      cases flatKey P kt.1 with
      | none => rfl
      | some fl =>
        simp only [Option.bind_some]
        cases hz : zeroOf P kt.2 with
        | none => rfl
        | some z => exact h.lookup fl (zeroOf_sh hz).1 _ _ _
  | call c =>
    have ha : c.args.toList.map ev' = shL g d (c.args.toList.map ev) := ev_map fun x hx => hev x (by simp only [Op.operands, Call.operands, Array.toList_append, List.mem_append]; exact .inr hx)
    simp only [aRd, tRd]
    rw [ha]
    generalize c.args.toList.map ev = l
    match l with
    | [] => rfl
    | [x] =>
      simp only [shL, List.map_cons, List.map_nil]
      generalize (c.argTypes[0]?).bind (fun t => P.underlying t) = u
      cases u with
      | none => rfl
      | some u => cases u <;> first | rfl | exact h.lenM _ | (cases x <;> simp [pLen])
    | x :: y :: l => rfl
  | _ => rfl
def CallDid (g d : Nat) (F : List AObj) (c : TF) (c' : CallF) : Prop := ∀ (E : EH) (H : AH) f args, HR g d F E H → Did g d F (c f args E) (c' f (shL g d args) H)
theorem op_did (h : HR g d F E H) {c : TF} {c' : CallF} (hc : CallDid g d F c c') {ev ev' : Operand → Value} {o : Oper} (hev : ∀ x, x ∈ o.op.operands.toList → ev' x = (shV g d) (ev x)) :
    Did g d F (tOp P c ev o E) (aOp P c' ev' o H) := by
  obtain ⟨dst, op, type, pos, after, guard⟩ := o
  simp only at hev
  have fill : ∀ (parts : Array (Nat × Operand)), (∀ x, x ∈ (parts.toList.map (·.2)) → ev' x = (shV g d) (ev x)) → (parts.toList.map fun p => (p.1, ev' p.2)) = (parts.toList.map fun p => (p.1, ev p.2)).map fun p => (p.1, (shV g d) p.2) := by
    intro parts hp
    rw [List.map_map]
    refine List.map_congr_left fun p hpm => ?_
    simp only [Function.comp]
    rw [hp p.2 (List.mem_map_of_mem hpm)]
  have arr : ∀ (l : Array Operand), (∀ x ∈ l.toList, ev' x = (shV g d) (ev x)) → l.map ev' = (l.map ev).map (shV g d) := by
    intro l hl
    apply Array.toList_inj.1
    rw [Array.toList_map, Array.toList_map, Array.toList_map]
    exact ev_map hl
  cases op
  case move x => intro v E' hx; simp only [tOp] at hx; cases hx; exact ⟨H, by simp only [aOp]; rw [hev x (by simp [Op.operands])], h⟩
  case assign x => intro v E' hx; simp only [tOp] at hx; cases hx; exact ⟨H, by simp only [aOp]; rw [hev x (by simp [Op.operands])], h⟩
  case pick k a b =>
    simp only [tOp, aOp]
    rw [hev k (by simp [Op.operands]), hev a (by simp [Op.operands]), hev b (by simp [Op.operands])]
    exact Did.val h (sh_pPick _ _ _)
  case alloc t =>
    intro v E' hx
    simp only [tOp] at hx
    simp only [aOp]
    obtain ⟨z, hz, hx⟩ := Option.bind_eq_some_iff.1 hx
    rw [hz]
    have := h.new' _ v E' hx
    rw [(zeroOf_sh hz).2] at this
    exact this
  case box t x =>
    simp only [tOp, aOp]
    rw [hev x (by simp [Op.operands]), sh_cellsL]
    exact h.new' _
  case build t parts =>
    have hp := fill parts fun x hx => hev x (by simpa [Op.operands] using hx)
    intro v E' hx
    simp only [tOp] at hx
    simp only [aOp]
    rw [hp]
    split at hx
    · rename_i fs hu
      rw [hu]
      simp only
      obtain ⟨z, hz, hx⟩ := Option.bind_eq_some_iff.1 hx
      obtain ⟨ps, hps, hx⟩ := Option.bind_eq_some_iff.1 hx
      obtain ⟨cs, hcs, e⟩ := Option.map_eq_some_iff.1 hx
      cases e
      have hf := sh_pFill (g := g) (d := d) (ps[·]?) (parts.toList.map fun p => (p.1, ev p.2)) z.cells.toList
      rw [(zeroOf_sh hz).2, hcs] at hf
      rw [hz, hps]
      simp only [Option.bind_some]
      rw [hf]
      exact ⟨H, by simp, h⟩
    · rename_i el hu
      rw [hu]
      simp only
      obtain ⟨z, hz, hx⟩ := Option.bind_eq_some_iff.1 hx
      obtain ⟨e, he, hx⟩ := Option.bind_eq_some_iff.1 hx
      obtain ⟨cs, hcs, e⟩ := Option.map_eq_some_iff.1 hx
      cases e
      have hf := sh_pFill (g := g) (d := d) (fun i => some (i * e, e)) (parts.toList.map fun p => (p.1, ev p.2)) z.cells.toList
      rw [(zeroOf_sh hz).2, hcs] at hf
      rw [hz, he]
      simp only [Option.bind_some]
      rw [hf]
      exact ⟨H, by simp, h⟩
    · cases hx
  case buildSlice t len parts =>
    have hp := fill parts fun x hx => hev x (by simpa [Op.operands] using hx)
    simp only [tOp, aOp]
    rw [hp]
    refine Did.bind fun el _ => Did.bind fun e _ => Did.bind fun z hz => Did.ite fun _ => ?_
    intro v E' hx
    obtain ⟨cs, hcs, hx⟩ := Option.bind_eq_some_iff.1 hx
    have hf := sh_pFill (g := g) (d := d) (fun i => some (i * e, e)) (parts.toList.map fun p => (p.1, ev p.2)) (List.replicate len z.cells.toList).flatten
    rw [hcs, show shL g d (List.replicate len z.cells.toList).flatten = (List.replicate len z.cells.toList).flatten from by
      rw [shL, List.map_flatten, List.map_replicate, show List.map (shV g d) z.cells.toList = z.cells.toList from (zeroOf_sh hz).2]] at hf
    rw [hf]
    exact h.rowP _ _ _ v E' hx
  case load t a =>
    simp only [tOp, aOp]
    rw [hev a (by simp [Op.operands])]
    refine Did.bind fun n _ => ?_
    cases n with
    | none => exact Did.val h (h.ld1 _)
    | some n => exact Did.val h (h.ldN _ _)
  case store t a x =>
    simp only [tOp, aOp]
    rw [hev a (by simp [Op.operands]), hev x (by simp [Op.operands])]
    exact Did.bind fun n _ => Did.heap _ sh_undef (h.st _ _ _)
  case nilCheck x =>
    simp only [tOp, aOp]
    rw [hev x (by simp [Op.operands])]
    exact Did.val h (sh_pNil _)
  case binOp op t x y z =>
    simp only [tOp, aOp]
    rw [hev x (by simp [Op.operands]), hev y (by simp [Op.operands])]
    exact Did.val h (sh_pBin _ _ _ _)
  case unOp op t x =>
    simp only [tOp, aOp]
    rw [hev x (by simp [Op.operands])]
    exact Did.val h (sh_pUn _ _)
  case convert src dst x =>
    simp only [tOp, aOp]
    rw [hev x (by simp [Op.operands])]
    split
    · rename_i hu; rw [hu]; exact Did.val h (sh_pConv _ _)
    · exact Did.no
  case makeFunc fn first captured =>
    simp only [tOp, aOp]
    rw [arr first fun x hx => hev x (by simp only [Op.operands, Array.toList_append, List.mem_append]; exact .inl hx), arr captured fun x hx => hev x (by simp only [Op.operands, Array.toList_append, List.mem_append]; exact .inr hx)]
    intro v E' hx; cases hx; exact ⟨H, by simp, h⟩
  case makeMap t r =>
    cases r with
    | none =>
      intro v E' hx
      simp only [tOp] at hx
      simp only [aOp]
      obtain ⟨E1, h1, e⟩ := Option.map_eq_some_iff.1 hx
      cases e
      exact ⟨H.push (shO g d (.map [] 0)), by simp [h.new, shO], h.push h1⟩
    | some r => exact Did.no
  case makeSlice t l k =>
    simp only [tOp, aOp]
    rw [hev l (by simp [Op.operands]), hev k (by simp [Op.operands])]
    exact Did.bind fun el _ => Did.bind fun e _ => Did.bind fun by' _ => Did.bind fun z hz => h.make (zeroOf_sh hz).2 _ _ _ _
  case slice t x lo hi mx =>
    have hx := hev x (by simp [Op.operands])
    have ho : ∀ (q : Option Operand), (∀ y ∈ q.toArray.toList, ev' y = (shV g d) (ev y)) → q.map ev' = (q.map ev).map (shV g d) := by
      intro q hq
      cases q with
      | none => rfl
      | some y => simp [hq y (by simp)]
    have hlo : lo.map ev' = (lo.map ev).map (shV g d) := ho lo fun y hy => hev y (by simp only [Op.operands, Array.toList_append, List.mem_append]; exact .inl (.inl (.inr hy)))
    have hhi : hi.map ev' = (hi.map ev).map (shV g d) := ho hi fun y hy => hev y (by simp only [Op.operands, Array.toList_append, List.mem_append]; exact .inl (.inr hy))
    have hmx : mx.map ev' = (mx.map ev).map (shV g d) := ho mx fun y hy => hev y (by simp only [Op.operands, Array.toList_append, List.mem_append]; exact .inr hy)
    cases mx with
    | none =>
      simp only [tOp, aOp]
      rw [hx, hlo, hhi]
      exact Did.bind fun el _ => Did.bind fun e _ => Did.val h (sh_pSlice _ _ _ _)
    | some mx =>
      cases lo with
      | some lo => cases hi <;> exact Did.no
      | none =>
        cases hi with
        | none => exact Did.no
        | some hi =>
          simp only [Option.map_some, Option.some.injEq] at hhi hmx
          simp only [tOp, aOp]
          rw [hx, hhi, hmx]
          refine Did.bind fun el _ => Did.bind fun e _ => ?_
          intro v E' hv
          obtain ⟨z, hz, e⟩ := Option.map_eq_some_iff.1 hv
          cases e
          rw [sh_pSlice0 hz]
          exact ⟨H, rfl, h⟩
  case fieldAddr st x f =>
    simp only [tOp, aOp]
    rw [hev x (by simp [Op.operands])]
    refine Did.bind fun f _ => Did.bind fun n _ => ?_
    split
    · exact Did.no
    · exact Did.val h (sh_pFld _ _)
  case field st x f =>
    simp only [tOp, aOp]
    rw [hev x (by simp [Op.operands])]
    exact Did.bind fun f _ => Did.bind fun n _ => Did.val h (sh_pPart _ _ _)
  case indexAddr t x i =>
    simp only [tOp, aOp]
    rw [hev x (by simp [Op.operands]), hev i (by simp [Op.operands])]
    split
    · rename_i hu; rw [hu]; exact Did.bind fun e _ => Did.val h (sh_pIdx _ _ _)
    · rename_i hu; rw [hu]; exact Did.bind fun e _ => Did.val h (sh_pIdxA _ _ _ _)
    · exact Did.no
  case index t x i =>
    simp only [tOp, aOp]
    rw [hev x (by simp [Op.operands]), hev i (by simp [Op.operands])]
    split
    · rename_i hu; rw [hu]; exact Did.bind fun e _ => Did.bind fun n _ => Did.val h (sh_pIndexV _ _ _ _ _)
    · rename_i hu; rw [hu]; exact Did.val h (sh_pIndexS _ _)
    · exact Did.no
  case lookup t m k ok =>
    simp only [tOp, aOp]
    rw [hev m (by simp [Op.operands]), hev k (by simp [Op.operands])]
    exact Did.bind fun kt _ => Did.bind fun fl _ => Did.bind fun z hz => Did.val h (h.lookup fl (zeroOf_sh hz).1 _ _ _)
  case mapUpdate t m k x =>
    simp only [tOp, aOp]
    rw [hev m (by simp [Op.operands]), hev k (by simp [Op.operands]), hev x (by simp [Op.operands])]
    exact Did.bind fun kt _ => Did.bind fun fl _ => Did.heap _ sh_undef (h.update _ _ _ _)
  case extract t i =>
    simp only [tOp, aOp]
    rw [hev t (by simp [Op.operands])]
    exact Did.val h (sh_pExtract _ _)
  case call k =>
    obtain ⟨callee, args, ats⟩ := k
    have ha : args.toList.map ev' = shL g d (args.toList.map ev) := ev_map fun x hx => hev x (by simp only [Op.operands, Call.operands, Array.toList_append, List.mem_append]; exact .inr hx)
    cases callee with
    | builtin b =>
      simp only [tOp, aOp]
      rw [ha]
      exact builtin_did h _ _ _
    | value f =>
      simp only [tOp, aOp]
      rw [ha, hev f (by simp [Op.operands, Call.operands])]
      intro v E' hx
      obtain ⟨q, hq, hx⟩ := Option.bind_eq_some_iff.1 hx
      rw [sh_pCallee, hq]
      exact hc E H _ _ h v E' hx
    | invoke r m => exact Did.no
  all_goals exact Did.no
end
def tEv (T : Tr Value) : Operand → Value
  | .tmp t => match T.get t with
    | some v => v
    | none => undef
  | .const v => v
  | .global g => .pointer (some ⟨g, 0, none⟩)
  | .func f => .func (.func f) #[] #[]
def tPut (m : Nat) (T : Tr Value) (dst : Option Tmp) (v : Value) : Option (Tr Value) :=
  match dst with
  | some j => match Nat.blt j m with
    | true => Tr.set v 24 T j
    | false => none
  | none => some T
def tYield (ops : Array Oper) (T : Tr Value) (j : Nat) : Option Bool :=
  match (ops[j]?).bind (·.dst) with
  | some t => match T.get t with
    | some (.bool b) => some b
    | _ => none
  | none => none
def tStep (P : Program) (G : List Nat) (call : TF) (ops : Array Oper) (m : Nat) (o : Oper) (T : Tr Value) (E : EH) : Option (Tr Value × EH) :=
  match o.op.operands.toList.all (okX G) with
  | true => match Region.wanted o (tYield ops T) with
    | true => (tOp P call (tEv T) o E).bind fun r => (tPut m T o.dst r.1).map fun T' => (T', r.2)
    | false => (tPut m T o.dst undef).map fun T' => (T', E)
  | false => none
def tOps (P : Program) (G : List Nat) (call : TF) (ops : Array Oper) (m : Nat) : List Oper → Tr Value → EH → List (Tr Value × EH) → Option (List (Tr Value × EH) × Tr Value × EH)
  | [], T, E, hist => some (hist ++ [(T, E)], T, E)
  | o :: rest, T, E, hist => (tStep P G call ops m o T E).bind fun r => tOps P G call ops m rest r.1 r.2 (hist ++ [(T, E)])
def tLook (P : Program) (G : List Nat) (hist : List (Tr Value × EH)) (ops : Array Oper) (p : Nat × Nat) : Bool :=
  match ops[p.1]?, hist[p.1]?, hist[if p.2 < p.1 then p.2 else p.2 + 1]? with
  | some o, some s, some s' => o.op.operands.toList.all (okX G) && eqO (tRd P (tEv s.1) o.op s'.2) (tRd P (tEv s.1) o.op s.2)
  | _, _, _ => false
def tRegion (P : Program) (G : List Nat) (call : TF) (ops : Array Oper) (m : Nat) (draw : Bool) (T : Tr Value) (E : EH) : Option (Tr Value × EH) :=
  match draw with
  | true => match regOK ops.toList with
    | true => (tOps P G call ops m ops.toList T E []).bind fun r => match (lookPairs ops.toList).all (tLook P G r.1 ops) with
      | true => some r.2
      | false => none
    | false => none
  | false => (tOps P G call ops m ops.toList T E []).map (·.2)
abbrev TR := AE × Tr Value × EH
def tIter (f : Tr Value → EH → Option TR) : Nat → Tr Value → EH → Option TR
  | 0, _, _ => none
  | n + 1, T, E => (f T E).bind fun r => match r.1 with
    | .normal => tIter f n r.2.1 r.2.2
    | _ => some r
def tCode (P : Program) (G : List Nat) (call : TF) (N m : Nat) : Code → Tr Value → EH → Option TR
  | .skip, T, E => some (.normal, T, E)
  | .label _, T, E => some (.normal, T, E)
  | .region _ ops draw, T, E => (tRegion P G call ops m draw T E).map fun s => (.normal, s.1, s.2)
  | .seq x y, T, E => (tCode P G call N m x T E).bind fun r => match r.1 with
    | .normal => tCode P G call N m y r.2.1 r.2.2
    | _ => some r
  | .cond c x y, T, E => match okX G c with
    | true => match tEv T c with
      | .bool true => tCode P G call N m x T E
      | .bool false => tCode P G call N m y T E
      | _ => none
    | false => none
  | .block id x, T, E => (tCode P G call N m x T E).map fun r => match r.1 with
    | .exit i => if i = id then (.normal, r.2.1, r.2.2) else r
    | _ => r
  | .loop x, T, E => tIter (tCode P G call N m x) N T E
  | .exit id, T, E => some (.exit id, T, E)
  | .ret, T, E => some (.ret, T, E)
  | _, _, _ => none
def tGet (T : Tr Value) (t : Nat) : Value := match T.get t with
  | some v => v
  | none => undef
def tResult (P : Program) (T : Tr Value) (E : EH) : ResultVar → Option Value
  | .tmp t => some (tGet T t)
  | .cell a t => (aggOf P t).bind fun g => match g with
    | some n => eLdN n (tGet T a) E
    | none => eLd1 (tGet T a) E
def tMany (P : Program) (T : Tr Value) (E : EH) : List ResultVar → Option (List Value)
  | [] => some []
  | r :: rs => (tResult P T E r).bind fun v => (tMany P T E rs).bind fun vs => some (v :: vs)
def tFin (P : Program) (rs : List ResultVar) (r : TR) : Option (Value × EH) :=
  match r.1 with
  | .exit _ => none
  | _ => (tMany P r.2.1 r.2.2 rs).map fun vs => (match vs with
    | [v] => v
    | vs => .tuple vs.toArray, r.2.2)
def tInit : List Value → Nat → Tr Value → Option (Tr Value)
  | [], _, T => some T
  | v :: vs, i, T => (Tr.set v 24 T i).bind fun T' => tInit vs (i + 1) T'
def tDefer (P : Program) (G : List Nat) (call : TF) (N n : Nat) (rs : List ResultVar) (s : DSh) (T : Tr Value) (E : EH) : Option (Value × EH) :=
  (tCode P G call N n s.c1 T E).bind fun r => match r.1 with
    | .normal => match Nat.blt s.t n with
      | true => (tStep P G call s.ops2 n s.om r.2.1 r.2.2).bind fun q => (tOps P G call s.ops3 n s.ops3.toList q.1 q.2 []).bind fun z => tFin P rs (.normal, z.2.1, z.2.2)
      | false => none
    | _ => none
def tCall (P : Program) (G D : List Nat) (N : Nat) : Nat → TF
  | 0 => fun _ _ _ => none
  | k + 1 => fun f args E => match P.funcs[f]? with
    | some fn => if fn.name = "runtime.NumGoroutine" then none else match fn.body with
      | some c => match Nat.ble args.length fn.ntmps with
        | true => (tInit args 0 .lf).bind fun T => match dshape c with
          | none => (tCode P G (tCall P G D N k) N fn.ntmps c T E).bind (tFin P fn.results.toList)
          | some s => match D.contains s.k with
            | true => tDefer P G (tCall P G D N k) N fn.ntmps fn.results.toList s T E
            | false => none
        | false => none
      | none => none
    | none => none
section
variable {P : Program} {G : List Nat} {g d m N : Nat} {F : List AObj}
structure ER (g d m : Nat) (T : Tr Value) (A : List Value) : Prop where
  len : A.length = m
  get : ∀ t, A[t]?.getD undef = shV g d (tGet T t)
theorem tGet_set {v : Value} {T T' : Tr Value} {j : Nat} (h : Tr.set v 24 T j = some T') (t : Nat) : tGet T' t = if t = j then v else tGet T t := by
  unfold tGet
  rw [Tr.get_set 24 h t]
  by_cases e : t = j
  · rw [if_pos e, if_pos e]
  · rw [if_neg e, if_neg e]
theorem ER.put {T T' : Tr Value} {A : List Value} (h : ER g d m T A) {dst : Option Tmp} {v : Value} (hp : tPut m T dst v = some T') : ER g d m T' (aPut A dst ((shV g d) v)) := by
  unfold tPut at hp
  cases dst with
  | none => cases hp; exact h
  | some j =>
    simp only at hp
    split at hp
    · rename_i hb
      have hj : j < m := Nat.le_of_ble_eq_true hb
      refine ⟨by simp [aPut, h.len], fun t => ?_⟩
      rw [tGet_set hp]
      simp only [aPut]
      rw [List.getElem?_set]
      by_cases e : t = j
      · rw [if_pos e, if_pos e.symm, if_pos (by rw [h.len]; omega)]; rfl
      · rw [if_neg e, if_neg (fun x => e x.symm)]; exact h.get t
    · cases hp
theorem ER.ev {T : Tr Value} {A : List Value} (h : ER g d m T A) (hG : ∀ b ∈ G, b < g) {x : Operand} (hx : okX G x = true) : aEv A x = (shV g d) (tEv T x) := by
  cases x with
  | tmp t => exact h.get t
  | const v => exact (sh_const hx).symm
  | global b =>
    simp only [okX, List.contains_iff_mem] at hx
    simp [aEv, tEv, shA, shB, hG b hx]
  | func f => simp [aEv, tEv]
theorem ER.yield {T : Tr Value} {A : List Value} (h : ER g d m T A) (ops : Array Oper) : aYield ops A = tYield ops T := by
  funext j
  unfold aYield tYield
  cases (ops[j]?).bind (·.dst) with
  | none => rfl
  | some t =>
    simp only [Option.bind_some]
    have hg := h.get t
    unfold tGet at hg
    cases hT : T.get t with
    | none =>
      rw [hT] at hg
      simp only [sh_undef] at hg
      cases hA : A[t]? with
      | none => rfl
      | some v => rw [hA] at hg; simp only [Option.getD_some] at hg; subst hg; rfl
    | some v =>
      rw [hT] at hg
      simp only at hg
      cases hA : A[t]? with
      | none => rw [hA] at hg; simp only [Option.getD_none] at hg; cases v <;> simp [undef] at hg ⊢
      | some w => rw [hA] at hg; simp only [Option.getD_some] at hg; subst hg; cases v <;> simp
structure St (g d m : Nat) (F : List AObj) (x : Tr Value × EH) (y : List Value × AH) : Prop where
  er : ER g d m x.1 y.1
  hr : HR g d F x.2 y.2
theorem step_did {c : TF} {c' : CallF} (hG : ∀ b ∈ G, b < g) (hc : CallDid g d F c c') {ops : Array Oper} {o : Oper} {T : Tr Value} {E : EH} {A : List Value} {H : AH} {r} (hS : St g d m F (T, E) (A, H)) (h : tStep P G c ops m o T E = some r) :
    ∃ r', aStep P G c' ops o A H = some r' ∧ St g d m F r r' := by
  unfold tStep at h
  unfold aStep
  split at h
  · rename_i hok
    rw [if_pos hok]
    have hev : ∀ x, x ∈ o.op.operands.toList → aEv A x = (shV g d) (tEv T x) := fun x hx => hS.er.ev hG (List.all_eq_true.1 hok x hx)
    rw [hS.er.yield]
    split at h
    · rename_i hw
      rw [if_pos hw]
      obtain ⟨⟨v, E1⟩, h1, h⟩ := Option.bind_eq_some_iff.1 h
      obtain ⟨T', h2, e⟩ := Option.map_eq_some_iff.1 h
      cases e
      obtain ⟨H', h3, h4⟩ := op_did hS.hr hc hev v E1 h1
      rw [h3]
      exact ⟨_, rfl, hS.er.put h2, h4⟩
    · rename_i hw
      rw [if_neg (by rw [hw]; simp)]
      obtain ⟨T', h2, e⟩ := Option.map_eq_some_iff.1 h
      cases e
      refine ⟨_, rfl, ?_, hS.hr⟩
      have := hS.er.put h2
      rwa [sh_undef] at this
  · cases h
theorem ops_did {c : TF} {c' : CallF} (hG : ∀ b ∈ G, b < g) (hc : CallDid g d F c c') {ops : Array Oper} : ∀ (l : List Oper) {T : Tr Value} {E : EH} {A : List Value} {H : AH} {hist r}, St g d m F (T, E) (A, H) → tOps P G c ops m l T E hist = some r →
    (∃ r', aOps P G c' ops l A H = some r' ∧ St g d m F r.2 r') ∧ ∃ t, r.1 = hist ++ t ∧ t.length = l.length + 1 ∧ ∀ i, i ≤ l.length → ∃ x y, t[i]? = some x ∧ aOps P G c' ops (l.take i) A H = some y ∧ St g d m F x y := by
  intro l
  induction l with
  | nil =>
    intro T E A H hist r hS h
    simp only [tOps] at h; cases h
    refine ⟨⟨_, rfl, hS⟩, [(T, E)], rfl, rfl, ?_⟩
    intro i hi
    have : i = 0 := by simpa using hi
    subst this
    exact ⟨_, _, rfl, rfl, hS⟩
  | cons o l ih =>
    intro T E A H hist r hS h
    simp only [tOps] at h
    obtain ⟨q, hq, h⟩ := Option.bind_eq_some_iff.1 h
    obtain ⟨⟨A1, H1⟩, h1, hS1⟩ := step_did hG hc hS hq
    obtain ⟨T1, E1⟩ := q
    obtain ⟨⟨r', h2, hS2⟩, t, e, hl, ht⟩ := ih hS1 h
    refine ⟨⟨r', by simp only [aOps, h1, Option.bind_some]; exact h2, hS2⟩, (T, E) :: t, by rw [e]; simp, by simp [hl], ?_⟩
    intro i hi
    cases i with
    | zero => exact ⟨_, _, rfl, rfl, hS⟩
    | succ i =>
      obtain ⟨x, y, hx, hy, hxy⟩ := ht i (by simpa using hi)
      exact ⟨x, y, by simpa using hx, by simp only [List.take_succ_cons, aOps, h1, Option.bind_some]; exact hy, hxy⟩
theorem region_did {c : TF} {c' : CallF} (hG : ∀ b ∈ G, b < g) (hc : CallDid g d F c c') {ops : Array Oper} {draw : Bool} {T : Tr Value} {E : EH} {A : List Value} {H : AH} {r} (hS : St g d m F (T, E) (A, H)) (h : tRegion P G c ops m draw T E = some r) :
    ∃ r', aRegion P G c' ops draw A H = some r' ∧ St g d m F r r' := by
  cases draw with
  | false =>
    simp only [tRegion, aRegion] at h ⊢
    obtain ⟨q, hq, e⟩ := Option.map_eq_some_iff.1 h
    subst e
    exact (ops_did hG hc _ hS hq).1
  | true =>
    simp only [tRegion, aRegion] at h ⊢
    split at h
    · rename_i hreg
      obtain ⟨q, hq, h⟩ := Option.bind_eq_some_iff.1 h
      split at h
      · rename_i hall
        cases h
        obtain ⟨⟨r', h1, h2⟩, t, e, hl, ht⟩ := ops_did hG hc _ hS hq
        refine ⟨r', ?_, h2⟩
        unfold aDraw
        rw [hreg]
        simp only
        cases hp : lookPairs ops.toList with
        | nil => exact h1
        | cons p ps =>
          simp only
          rw [chk_true ?_]
          · exact h1
          · rw [← hp]
            intro p hpm o ho
            have hx := List.all_eq_true.1 hall p hpm
            unfold tLook at hx
            rw [ho] at hx
            simp only [List.nil_append] at e
            have st : ∀ i x, q.1[i]? = some x → St g d m F x (stA P G c' ops A H i) := by
              intro i x hs
              have hi : i < t.length := by rw [e] at hs; exact (List.getElem?_eq_some_iff.1 hs).1
              obtain ⟨x', y, hx', hy, hxy⟩ := ht i (by omega)
              rw [e, hx'] at hs
              cases hs
              unfold stA
              rw [hy]
              exact hxy
            split at hx
            · rename_i o' x1 x2 ho' hs hs'
              cases ho'
              simp only [Bool.and_eq_true] at hx
              have hev : ∀ x, x ∈ o.op.operands.toList → aEv (stA P G c' ops A H p.1).1 x = (shV g d) (tEv x1.1 x) := fun x hxm => (st _ _ hs).er.ev hG (List.all_eq_true.1 hx.1 x hxm)
              rw [rd_sh (st _ _ hs').hr hev, rd_sh (st _ _ hs).hr hev, eqO_sound hx.2]
            · cases hx
      · cases h
    · cases h
structure Ar (g d m : Nat) (F : List AObj) (x : TR) (y : AR) : Prop where
  e : x.1 = y.1
  st : St g d m F x.2 y.2
theorem code_did {c : TF} {c' : CallF} (hG : ∀ b ∈ G, b < g) (hc : CallDid g d F c c') : ∀ (k : Code) {T : Tr Value} {E : EH} {A : List Value} {H : AH} {r : TR}, St g d m F (T, E) (A, H) → tCode P G c N m k T E = some r →
    ∃ r', aCode P G c' k A H = some r' ∧ Ar g d m F r r' := by
  intro k
  induction k with
  | region id ops draw =>
    intro T E A H r hS hr
    simp only [tCode, aCode] at hr ⊢
    obtain ⟨q, hq, e⟩ := Option.map_eq_some_iff.1 hr
    obtain ⟨r', h1, h2⟩ := region_did hG hc hS hq
    subst e
    rw [h1]
    exact ⟨_, rfl, rfl, h2⟩
  | seq x y ihx ihy =>
    intro T E A H r hS hr
    simp only [tCode, aCode] at hr ⊢
    obtain ⟨⟨e, T1, E1⟩, hx, hr⟩ := Option.bind_eq_some_iff.1 hr
    obtain ⟨⟨e', A1, H1⟩, h1, h2⟩ := ihx hS hx
    have he : e = e' := h2.e
    subst he
    rw [h1]
    simp only [Option.bind_some]
    cases e with
    | normal => exact ihy h2.st hr
    | exit i => cases hr; exact ⟨_, rfl, h2⟩
    | ret => cases hr; exact ⟨_, rfl, h2⟩
  | cond b x y ihx ihy =>
    intro T E A H r hS hr
    simp only [tCode, aCode] at hr ⊢
    split at hr
    · rename_i hok
      rw [hS.er.ev hG hok]
      split at hr
      · rename_i e; rw [e]; simp only [sh_bool]; exact ihx hS hr
      · rename_i e; rw [e]; simp only [sh_bool]; exact ihy hS hr
      · cases hr
    · cases hr
  | block id x ih =>
    intro T E A H r hS hr
    simp only [tCode, aCode] at hr ⊢
    obtain ⟨⟨e, T1, E1⟩, hx, hr⟩ := Option.map_eq_some_iff.1 hr
    obtain ⟨⟨e', A1, H1⟩, h1, h2⟩ := ih hS hx
    have he : e = e' := h2.e
    subst he
    rw [h1]
    subst hr
    cases e with
    | normal => exact ⟨_, rfl, h2⟩
    | exit i =>
      simp only [Option.map_some]
      by_cases hi : i = id
      · rw [if_pos hi, if_pos hi]; exact ⟨_, rfl, rfl, h2.st⟩
      · rw [if_neg hi, if_neg hi]; exact ⟨_, rfl, h2⟩
    | ret => exact ⟨_, rfl, h2⟩
  | loop x ih =>
    intro T E A H r hS hr
    simp only [tCode, aCode] at hr ⊢
    suffices key : ∀ n T E A H, St g d m F (T, E) (A, H) → tIter (tCode P G c N m x) n T E = some r → ∃ r', aIter (aCode P G c' x) n A H = some r' ∧ Ar g d m F r r' from by
      obtain ⟨r', h1, h2⟩ := key N T E A H hS hr
      exact ⟨r', aLoop_iff.2 ⟨N, h1⟩, h2⟩
    clear hr hS
    intro n
    induction n with
    | zero => intro T E A H hS hr; cases hr
    | succ n ihn =>
      intro T E A H hS hr
      simp only [tIter, aIter] at hr ⊢
      obtain ⟨⟨e, T1, E1⟩, hx, hr⟩ := Option.bind_eq_some_iff.1 hr
      obtain ⟨⟨e', A1, H1⟩, h1, h2⟩ := ih hS hx
      have he : e = e' := h2.e
      subst he
      rw [h1]
      simp only [Option.bind_some]
      cases e with
      | normal => exact ihn _ _ _ _ h2.st hr
      | exit i => cases hr; exact ⟨_, rfl, h2⟩
      | ret => cases hr; exact ⟨_, rfl, h2⟩
  | skip => intro T E A H r hS hr; simp only [tCode] at hr; cases hr; exact ⟨_, rfl, rfl, hS⟩
  | label l => intro T E A H r hS hr; simp only [tCode] at hr; cases hr; exact ⟨_, rfl, rfl, hS⟩
  | exit i => intro T E A H r hS hr; simp only [tCode] at hr; cases hr; exact ⟨_, rfl, rfl, hS⟩
  | ret => intro T E A H r hS hr; simp only [tCode] at hr; cases hr; exact ⟨_, rfl, rfl, hS⟩
  | _ => intro T E A H r hS hr; cases hr
theorem result_did {T : Tr Value} {E : EH} {A : List Value} {H : AH} (hS : St g d m F (T, E) (A, H)) (r : ResultVar) : aResult P A H r = (tResult P T E r).map (shV g d) := by
  cases r with
  | tmp t => simp only [aResult, tResult, Option.map_some]; rw [hS.er.get t]
  | cell a t =>
    simp only [aResult, tResult]
    rw [hS.er.get a]
    cases aggOf P t with
    | none => rfl
    | some n => cases n with
      | none => exact hS.hr.ld1 _
      | some n => exact hS.hr.ldN _ _
theorem many_did {T : Tr Value} {E : EH} {A : List Value} {H : AH} (hS : St g d m F (T, E) (A, H)) : ∀ rs : List ResultVar, aMany P A H rs = (tMany P T E rs).map (shL g d) := by
  intro rs
  induction rs with
  | nil => rfl
  | cons r rs ih =>
    simp only [aMany, tMany]
    rw [result_did hS, ih]
    cases tResult P T E r with
    | none => rfl
    | some v => cases tMany P T E rs <;> rfl
theorem fin_did {rs : List ResultVar} {x : TR} {y : AR} (h : Ar g d m F x y) : Did g d F (tFin P rs x) (aFin P rs y) := by
  intro v E' hx
  obtain ⟨e, T, E⟩ := x
  obtain ⟨e', A, H⟩ := y
  have he : e = e' := h.e
  subst he
  have hS := h.st
  have hm := many_did (P := P) hS rs
  have key : ∀ vs, tMany P T E rs = some vs → aResults P A H rs = some ((shV g d) (match vs with | [v] => v | vs => .tuple vs.toArray)) := by
    intro vs hvs
    unfold aResults
    rw [hm, hvs]
    simp only [Option.map_some]
    congr 1
    match vs with
    | [] => simp [shL]
    | [v] => rfl
    | v :: w :: vs => simp [shL]
  cases e with
  | exit i => cases hx
  | normal =>
    simp only [tFin, aFin] at hx ⊢
    obtain ⟨vs, hvs, e⟩ := Option.map_eq_some_iff.1 hx
    cases e
    rw [key vs hvs]
    exact ⟨H, rfl, hS.hr⟩
  | ret =>
    simp only [tFin, aFin] at hx ⊢
    obtain ⟨vs, hvs, e⟩ := Option.map_eq_some_iff.1 hx
    cases e
    rw [key vs hvs]
    exact ⟨H, rfl, hS.hr⟩
theorem init_get : ∀ (vs : List Value) (i : Nat) (T : Tr Value) {T' : Tr Value}, tInit vs i T = some T' → ∀ t, tGet T' t = if i ≤ t ∧ t < i + vs.length then (vs[t - i]?).getD undef else tGet T t := by
  intro vs
  induction vs with
  | nil => intro i T T' h t; simp only [tInit] at h; cases h; rw [if_neg (by simp only [List.length_nil]; omega)]
  | cons v vs ih =>
    intro i T T' h t
    simp only [tInit] at h
    obtain ⟨T1, h1, h⟩ := Option.bind_eq_some_iff.1 h
    rw [ih _ _ h t, tGet_set h1]
    by_cases e1 : i + 1 ≤ t ∧ t < i + 1 + vs.length
    · rw [if_pos e1, if_pos (by simp; omega)]
      rw [show t - i = (t - (i + 1)) + 1 from by omega, List.getElem?_cons_succ]
    · rw [if_neg e1]
      by_cases e2 : t = i
      · subst e2; rw [if_pos rfl, if_pos (by simp)]; simp
      · rw [if_neg e2, if_neg (by simp; omega)]
theorem call_did {D : List Nat} (hG : ∀ b ∈ G, b < g) (hD : ∀ k ∈ D, Harmless P k) : ∀ k, CallDid g d F (tCall P G D N k) (aCall P G k) := by
  intro k
  induction k with
  | zero => intro E H f args hR v E' h; cases h
  | succ k ih =>
    intro E H f args hR v E' h
    rw [tCall] at h
    rw [aCall]
    simp only [] at h ⊢
    cases hf : P.funcs[f]? with
    | none => rw [hf] at h; cases h
    | some fn =>
      rw [hf] at h
      simp only at h ⊢
      split at h
      · cases h
      · rename_i hn
        rw [if_neg hn]
        cases hb : fn.body with
        | none => rw [hb] at h; cases h
        | some c =>
          rw [hb] at h
          simp only at h ⊢
          split at h
          · rename_i hle
            have hle := Nat.le_of_ble_eq_true hle
            obtain ⟨T, hT, h⟩ := Option.bind_eq_some_iff.1 h
            have hS : St g d fn.ntmps F (T, E) (shL g d args ++ List.replicate (fn.ntmps - (shL g d args).length) undef, H) := by
              refine ⟨⟨by simp; omega, fun t => ?_⟩, hR⟩
              rw [init_get _ _ _ hT]
              simp only [shL, List.getElem?_append, List.length_map, List.getElem?_map, List.getElem?_replicate]
              by_cases e : t < args.length
              · rw [if_pos (show 0 ≤ t ∧ t < 0 + args.length from by omega), if_pos e]
                simp [List.getElem?_eq_getElem e]
              · rw [if_neg (show ¬ (0 ≤ t ∧ t < 0 + args.length) from by omega), if_neg e]
                have : tGet .lf t = undef := rfl
                rw [this, sh_undef]
                split <;> rfl
            cases hd : dshape c with
            | none =>
              rw [hd] at h
              obtain ⟨r, hr, h⟩ := Option.bind_eq_some_iff.1 h
              obtain ⟨r', h1, h2⟩ := code_did hG ih c hS hr
              simp only
              unfold aBody
              rw [h1]
              exact fin_did h2 v E' h
            | some q =>
              rw [hd] at h
              simp only at h ⊢
              split at h
              · rename_i hin
                rw [chk_true (hD _ (by simpa using hin))]
                unfold tDefer at h
                unfold aDefer
                obtain ⟨⟨e1, T1, E1⟩, hr, h⟩ := Option.bind_eq_some_iff.1 h
                obtain ⟨⟨e2, A1, H1⟩, h1, h2⟩ := code_did hG ih q.c1 hS hr
                have he : e1 = e2 := h2.e
                subst he
                rw [h1]
                simp only [Option.bind_some]
                cases e1 with
                | exit i => cases h
                | ret => cases h
                | normal =>
                  simp only at h ⊢
                  split at h
                  · rename_i hlt
                    have hlt : q.t < fn.ntmps := Nat.le_of_ble_eq_true hlt
                    have hlen : A1.length = fn.ntmps := h2.st.er.len
                    rw [if_neg (by omega)]
                    obtain ⟨⟨T2, E2⟩, h3, h⟩ := Option.bind_eq_some_iff.1 h
                    obtain ⟨⟨A2, H2⟩, h4, h5⟩ := step_did hG ih h2.st h3
                    obtain ⟨z, h6, h⟩ := Option.bind_eq_some_iff.1 h
                    obtain ⟨⟨⟨A3, H3⟩, h7, h8⟩, _⟩ := ops_did hG ih _ h5 h6
                    rw [h4]
                    simp only [Option.bind_some]
                    rw [h7]
                    exact fin_did (x := (.normal, z.2.1, z.2.2)) (y := (.normal, A3, H3)) ⟨rfl, h8⟩ v E' h
                  · cases h
              · cases h
          · cases h
end
def okRun (tab : List Value) : Option (Value × EH) → Bool
  | some (.bool true, E) => match E.get 0 with
    | some (.cells true cs) => eqVs (eqV 0) cs tab
    | _ => false
  | _ => false
def tabE (tab : List Value) : EH := ⟨1, .nd (some (.cells true tab)) .lf .lf⟩
theorem closed_law {P : Program} {D : List Nat} {N k f : Nat} {tab : List Value} (hD : ∀ k ∈ D, Harmless P k) (hl : tab.all litV = true) (h : okRun tab (tCall P [0] D N k f [] (tabE tab)) = true)
    {H : AH} (hH : H.get 0 = some (.cells true tab)) : ∃ H', aF P [0] f [] H = some (.bool true, H') ∧ H.size ≤ H'.size ∧ ∀ i, i < H.size → H'.get i = H.get i := by
  obtain ⟨objs⟩ := H
  cases objs with
  | nil => cases hH
  | cons o F =>
    have ho : o = .cells true tab := by simpa [AH.get] using hH
    subst ho
    have hR : HR 1 F.length F (tabE tab) ⟨.cells true tab :: F⟩ := by
      refine ⟨rfl, Nat.le_refl _, by simp [AH.size, tabE, Nat.add_comm], fun b => ?_, fun b hb => ?_, fun b h1 h2 => ?_⟩
      · cases b with
        | zero =>
          have : shB 1 F.length 0 = 0 := rfl
          rw [this]
          show some _ = some (AObj.cells true (shL 1 F.length tab))
          rw [sh_lits hl]
        | succ b =>
          have e : shB 1 F.length (b + 1) = b + 1 + F.length := by simp [shB]
          have e2 : (tabE tab).get (b + 1) = none := by
            simp only [EH.get, tabE, Tr.get]; split <;> rfl
          rw [e, e2]
          exact AH.get_none (by simp [AH.size]; omega)
      · have : 1 ≤ b := hb
        obtain ⟨b, rfl⟩ : ∃ c, b = c + 1 := ⟨b - 1, by omega⟩
        simp only [EH.get, tabE, Tr.get]; split <;> rfl
      · obtain ⟨b, rfl⟩ : ∃ c, b = c + 1 := ⟨b - 1, by omega⟩
        simp [AH.get]
    unfold okRun at h
    split at h
    · rename_i E' hE
      obtain ⟨H', h1, h2⟩ := call_did (F := F) (N := N) (P := P) (by simp) hD k (tabE tab) _ f [] hR _ _ hE
      refine ⟨H', ?_, ?_, fun i hi => ?_⟩
      · have := aCall_F k _ _ _ _ h1
        simpa using this
      · rw [h2.size]
        have := h2.le
        simp [AH.size]; omega
      · split at h
        · rename_i cs hcs
          have he : cs = tab := eqVs_sound (eqV_sound 0) _ _ h
          subst he
          cases i with
          | zero =>
            have := h2.get 0
            rw [show shB 1 F.length 0 = 0 from rfl, hcs] at this
            rw [this]
            show some (AObj.cells true (shL 1 F.length cs)) = _
            rw [sh_lits hl]; rfl
          | succ i =>
            have hi : i < F.length := by simpa [AH.size] using hi
            rw [h2.fr (i + 1) (by omega) (by omega)]
            simp [AH.get]
        · cases h
    · cases h
section
variable {P : Program} {w : World} {ev : Operand → Value} {d : Option Tmp} {x : Operand} {v a b : Value} {y : TypeId} {p : String} {e : Array Edge} {gd : Option (Nat × Bool)}
end
def tabC : List Value := [0,1,56,2,57,49,28,3,61,58,42,50,38,29,17,4,62,47,59,36,45,43,51,22,53,39,33,30,24,18,12,5,63,55,48,27,60,41,37,16,46,35,44,21,52,32,23,11,54,26,40,15,34,20,31,10,25,14,19,9,13,8,7,6].map fun n => .int .u8 n
theorem awake_run : okRun tabC (tCall Tryz.prog [0] [] 100000 60 10 [] (tabE tabC)) = true := by decide +kernel
theorem Holds.keeps {P : SP} {H H' : AH} (h : Holds P H) (k : ∀ i, i < H.size → H'.get i = H.get i) : Holds P H' := by
 obtain ⟨x, hx, hg⟩ := h
 exact ⟨x, hx, fun i o hi => by
  have := hg i o hi
  rw [k i (AH.lt_of_get this)]; exact this⟩
theorem args_tab {H0 : AH} (hT : H0.get 0 = some (.cells true tabC)) : Hs (fix H0) 0 (.cells true tabC) := ⟨fun h => (Fx.refl H0).fx h 0 _ hT⟩
abbrev ITy : Ty := .int .i64
abbrev CfgTy : Ty := .pair ITy (.pair ITy (.pair ITy (.pair ITy (.pair (.int .u64) .unit))))
abbrev ClTy : Ty := .pair ITy (.pair ITy (.pair ITy (.pair ITy .unit)))
def toCl (x : ClTy.I) : Cl := ⟨x.1, x.2.1, x.2.2.1, x.2.2.2.1⟩
theorem cl_abs {H : AH} {x : ClTy.I} {cs : List Value} (h : Abs H ClTy x cs) : cs = Cl.cells (toCl x) := by
 obtain ⟨c1, c2, rfl, h1, c3, c4, rfl, h2, c5, c6, rfl, h3, c7, c8, rfl, h4, h5⟩ := h
 have h5 : c8 = [] := h5
 rw [h1.1, h2.1, h3.1, h4.1, h5]
 rfl
theorem cfg_abs {H : AH} {x : CfgTy.I} {cs : List Value} (h : Abs H CfgTy x cs) : ∃ c : Cfg, cs = Cfg.cells c := by
 obtain ⟨c1, c2, rfl, h1, c3, c4, rfl, h2, c5, c6, rfl, h3, c7, c8, rfl, h4, c9, c10, rfl, h5, h6⟩ := h
 have h6 : c10 = [] := h6
 obtain ⟨e5, hw⟩ := h5
 have : 0 ≤ x.2.2.2.2.1 ∧ x.2.2.2.2.1 ≤ 18446744073709551615 := by simpa [Lit.wf, IntKind.has, IntKind.min, IntKind.max, IntKind.bits, IntKind.signed] using hw
 refine ⟨⟨x.1, x.2.1, x.2.2.1, x.2.2.2.1, x.2.2.2.2.1.toNat⟩, ?_⟩
 rw [h1.1, h2.1, h3.1, h4.1, e5, h6]
 show _ = [vi x.1, vi x.2.1, vi x.2.2.1, vi x.2.2.2.1, .int .u64 ((x.2.2.2.2.1.toNat : Nat) : Int)]
 rw [Int.toNat_of_nonneg this.1]
 rfl
theorem args_calls {H0 : AH} {v : Value} {l : List ClTy.I} (h : Abs H0 (.slice ClTy) l [v]) : Rd (fix H0) v 4 Cl.cells (l.map toCl) := by
 have E : Enc (fun x : ClTy.I => Cl.cells (toCl x)) ClTy.w := ⟨fun _ => rfl, fun _ => rfl, by decide⟩
 have r := Rd.arg (t := ClTy) (enc := fun x => Cl.cells (toCl x)) (E := E) (fun x c hx => cl_abs hx) h
 refine ⟨fun {H} hh => ?_⟩
 have := r.rd hh
 rw [List.flatMap_map, List.length_map]
 exact this
theorem w_awake23 {P : SP} {H : AH} {k : Value × AH → OV} {Q : Value → AH → Prop} (h : Holds P H) [i : Hs P 0 (.cells true tabC)] (hk : ∀ H', Holds P H' → wp (k (vb true, H')) Q) : wp ((FF n_l23_awake [] H).bind k) Q := by
 obtain ⟨H', e, _, hg⟩ := closed_law (D := []) (fun j hj => by cases hj) (by decide) awake_run (i.get h)
 have e' : FF n_l23_awake [] H = some (vb true, H') := e
 rw [e']
 exact hk H' (h.keeps hg)
section
variable {p xx b b2 : Nat} {σ : Sta} {R : SP}
end
structure New (σ : Sta) (k : Nat) : Prop where
 si : SI σ k
 js : ∀ l, l.1 ≠ 10 → σ.μ.V l = 0
theorem slotN_mod {flow : Int} {obj : Nat} (h : obj < 4294967296) : slotN flow obj % 4294967296 = obj := by
 unfold slotN
 omega
theorem New.lay {σ : Sta} {k : Nat} (h : New σ k) (ho : σ.obs.length < 90) (f w most : Int) (hf : 0 ≤ f ∧ f < 1000) : New (σ.lay f w most) (k + 4) := by
 obtain ⟨⟨c, N, E, pts, V, obs, cells, slot, head⟩, js⟩ := h
 obtain ⟨q1, q2, q3⟩ := mostOf_in most
 have hsl : slotN f σ.obs.length < 18446744073709551616 := by unfold slotN; omega
 have hlen : (σ.lay f w most).obs.length = σ.obs.length + 1 := by simp [Sta.lay, Sta.make]
 refine ⟨⟨c, by simp [Sta.lay, Sta.make]; omega, by simp [Sta.lay, Sta.make]; omega, by simp [Sta.lay, Sta.make]; omega, fun l => ?_, by rw [hlen]; omega, fun o ho2 => ?_, fun s i => ?_, fun o => ?_⟩, fun l hl => ?_⟩
 ·show (if l = (10, f.tmod σ.c.sh, f.tdiv σ.c.sh) then slotN f σ.obs.length else σ.μ.V l) < _
  split
  ·exact hsl
  ·exact V l
 ·rw [hlen] at ho2
  unfold cellsOf'
  show 1 ≤ ((((σ.obs ++ [_])[o]?).map _).getD []).length ∧ ((((σ.obs ++ [_])[o]?).map _).getD []).length < 1000
  by_cases e : o < σ.obs.length
  ·rw [List.getElem?_append_left e]
   exact cells o e
  ·rw [show o = σ.obs.length from by omega, List.getElem?_append_right (Nat.le_refl _), Nat.sub_self]
   show 1 ≤ (List.replicate (mostOf most) pk0).length ∧ (List.replicate (mostOf most) pk0).length < 1000
   rw [List.length_replicate]
   omega
 ·rw [hlen]
  show (if (10, s, i) = ((10 : Int), f.tmod σ.c.sh, f.tdiv σ.c.sh) then slotN f σ.obs.length else σ.μ.V (10, s, i)) ≠ 0 → (if (10, s, i) = ((10 : Int), f.tmod σ.c.sh, f.tdiv σ.c.sh) then slotN f σ.obs.length else σ.μ.V (10, s, i)) % 4294967296 < _
  split
  ·intro _
   rw [slotN_mod (by omega)]
   omega
  ·intro hv
   have := slot s i hv
   omega
 ·show (if ((12 : Int), (o : Int), (0 : Int)) = (10, f.tmod σ.c.sh, f.tdiv σ.c.sh) then slotN f σ.obs.length else σ.μ.V (12, o, 0)) ≤ _
  rw [if_neg (by simp)]
  have := head o
  omega
 ·show (if l = (10, f.tmod σ.c.sh, f.tdiv σ.c.sh) then slotN f σ.obs.length else σ.μ.V l) = 0
  rw [if_neg (fun e => hl (by rw [e]))]
  exact js l hl
theorem made_new (c : Cfg) (hc : rightB c = true) : ∀ n, n ≤ 16 → New (Sta.made c n) (4 * n) := by
 intro n
 induction n with
 | zero =>
  intro _
  exact ⟨⟨hc, Nat.le_refl _, Nat.le_refl _, Nat.le_refl _, fun _ => (by show (0 : Nat) < _; omega), (by show (0 : Nat) ≤ _; omega), fun o ho => (by cases ho), fun s i h => absurd rfl h, fun o => Nat.le_refl _⟩, fun _ _ => rfl⟩
 | succ n ih =>
  intro hn
  have h := ih (by omega)
  have hm := (made_c c n).2.2
  unfold Sta.made
  split
  ·exact h.lay (by omega) _ _ _ (by omega)
  ·exact ⟨h.si.mono (by omega), h.js⟩
theorem New.alone {σ : Sta} {k : Nat} (h : New σ k) : JS σ k := by
 refine ⟨fun o => ?_, h.js _ (by simp), fun s => h.js _ (by simp)⟩
 rw [h.js (11, o, 0) (by simp)]
 refine ⟨rfl, by decide, ?_⟩
 show 0 ≤ k
 omega
theorem JS.begin {σ : Sta} {k : Nat} (h : JS σ k) (who place : Int) : JS (σ.begin who place) (k + 1) := ⟨h.words.mono (by omega), h.seq, h.mx⟩
theorem enqAlone {H0 : AH} (hT : H0.get 0 = some (.cells true tabC)) (c : Cfg) (s : Value) (L : List Cl) [hR : Rd (fix H0) s 4 Cl.cells L] :
  ∃ H', FF n_lEA [.agg (Cfg.cells c).toArray, s] H0 = some (vb true, H') := by
 have key : wp (FF n_lEA [.agg (Cfg.cells c).toArray, s] H0) fun v' _ => v' = vb true := by
  haveI := args_tab hT
  refine wp_of (fun r => lEA_of _ _ H0) ?_
  refine w_newC (l := Cfg.cells c) (fix_holds H0) fun b1 H1 h1 => ?_
  refine w_LdN h1 ?_
  refine w_call h1 (l23_made c 4 (by omega)) fun q H3 h3 => ?_
  obtain ⟨p, x, c'⟩ := q
  dsimp only at h3 ⊢
  rw [sep_assoc, Holds.pu] at h3
  obtain ⟨hc, h3⟩ := h3
  refine w_bind (v := .agg [vp p, vp x].toArray) rfl ?_
  refine w_bind (v := vb true) rfl ?_
  refine w_new h3 fun pb H4 h4 => ?_
  refine w_St h4 rfl rfl fun H5 h5 => ?_
  refine w_awake23 h5 fun H6 h6 => ?_
  with_reducible repeat refine gg ?_
  rw [Bool.not_true]
  with_reducible repeat refine gg ?_
  rw [Bool.not_true]
  with_reducible repeat refine gg ?_
  refine wp_eq (lEA_k0_eq ..) ?_
  refine wp_eq (lEA_k4_eq ..) ?_
  obtain ⟨rp, h7⟩ := partsP_R (p := p) (σ := Sta.made c' 4) (R := blk pb (.cells false [vp p, vp x]) * (partsX x (Sta.made c' 4) * (blk b1 (.cells false (Cfg.cells c)) * fix H0))) (H := H6) h6.to
  have loop : ∀ (d i K : Nat) (now : Int) (σ : Sta) (H : AH), i + d = min L.length 30 → SI σ K → JS σ K → K ≤ 16 + 130 * i → 0 ≤ now → now ≤ 40 * i → Holds (partsR p rp σ * (blk pb (.cells false [vp p, vp x]) * (partsX x σ * (blk b1 (.cells false (Cfg.cells c)) * fix H0)))) H →
    wp (lEA_k6 s (vb false) (vp pb) (vi now) (vi (i : Int)) H) fun v' _ => v' = vb true := by
   intro d
   induction d with
   | zero =>
    intro i K now σ H hi S J hK h0 hn h
    refine wp_eq (lEA_k6_eq ..) ?_
    refine w_rlen (s := s) (l := L) h ?_
    have fin : wp (lEA_e5_0 (vb false) (vp pb) H) fun v' _ => v' = vb true := by
     refine wp_eq (lEA_e5_0_eq ..) ?_
     refine wp_eq (lEA_k1_eq ..) ?_
     refine w_LdN h ?_
     refine w_call h (pair_same p x rp σ (by have := S.E; omega) (by have := S.pts; omega)) fun _ H8 h8 => ?_
     exact w_ret rfl
    by_cases hl : i < L.length
    ·refine w_bind (lss_t (by omega)) ?_
     with_reducible repeat refine gg ?_
     refine w_bind (lss_f (by omega)) ?_
     with_reducible repeat refine gg ?_
     exact fin
    ·refine w_bind (lss_f (by omega)) ?_
     with_reducible repeat refine gg ?_
     exact fin
   | succ d ih =>
    intro i K now σ H hi S J hK h0 hn h
    have hil : i < L.length := by omega
    refine wp_eq (lEA_k6_eq ..) ?_
    refine w_rlen (s := s) (l := L) h ?_
    refine w_bind (lss_t (by omega)) ?_
    with_reducible repeat refine gg ?_
    refine w_bind (lss_t (by omega)) ?_
    with_reducible repeat refine gg ?_
    refine wp_eq (lEA_k7_eq ..) ?_
    refine w_rldN (s := s) (l := L) h hil ?_
    refine w_call h (play_call L[i]) fun y H8 h8 => ?_
    refine w_new h8 fun cb H9 h9 => ?_
    refine w_St h9 rfl rfl fun H10 h10 => ?_
    refine w_st h10 end_f0 rfl rfl fun H11 h11 => ?_
    refine w_LdN h11 ?_
    refine w_bind (rem_ii (by omega)) ?_
    refine w_LdN h11 ?_
    have T0 : TOk (σ.begin ((i : Int).tmod 3) i) (Tk.new σ.c ((i : Int).tmod 3) ⟨3, y.flow, y.a, y.b⟩) := TOk.new (σ := σ.begin ((i : Int).tmod 3) i) S.c _ _
    obtain ⟨res, ha, hJ⟩ := alone_ends 40 (σ.begin ((i : Int).tmod 3) i) (Tk.new σ.c ((i : Int).tmod 3) ⟨3, y.flow, y.a, y.b⟩) now (K + 1) (S.begin _ _) T0 (JA.new (σ := σ.begin ((i : Int).tmod 3) i) (J.begin _ _) _ _) (by show 39 < 40; omega) (by omega)
    obtain ⟨k1, k2, k3, k4⟩ := alone_kept 40 _ _ now (K + 1) res (S.begin _ _) T0 ha
    refine w_call h11 (pair_alone p x rp σ K S ((i : Int).tmod 3) i ⟨3, y.flow, y.a, y.b⟩ now 40 (by omega) (by omega) (by omega) res ha) fun _ H12 h12 => ?_
    refine w_bind (v := .agg (retC res.2.1.code).toArray) rfl ?_
    refine w_bind (v := vi res.2.2) rfl ?_
    refine w_bind (v := vb true) rfl ?_
    with_reducible repeat refine gg ?_
    rw [Bool.not_true]
    with_reducible repeat refine gg ?_
    refine wp_eq (lEA_k8_eq ..) ?_
    refine w_bind (bin_add_i (by omega) (by omega)) ?_
    exact ih (i + 1) (K + 1 + 3 * 40) res.2.2 res.1 H12 (by omega) k1 hJ (by omega) (by omega) (by omega) h12.to
  have M := made_new c' hc 4 (by omega)
  exact loop (min L.length 30) 0 16 0 (Sta.made c' 4) H6 (by omega) M.si M.alone (by omega) (by omega) (by omega) h7
 obtain ⟨v, H', e, rfl⟩ := key
 exact ⟨H', e⟩
theorem enqAlone_args {H0 : AH} (hT : H0.get 0 = some (.cells true tabC)) {xc : CfgTy.I} {cc : List Value} (hc : Abs H0 CfgTy xc cc) {l : List ClTy.I} {v : Value} (hl : Abs H0 (.slice ClTy) l [v]) :
  ∃ H', FF n_lEA [.agg cc.toArray, v] H0 = some (vb true, H') := by
 obtain ⟨c, rfl⟩ := cfg_abs hc
 haveI := args_calls hl
 exact enqAlone hT c v (l.map toCl)
end Go.Proofs.YtodpbobjmkhcfaaGreatDoor.Gst
