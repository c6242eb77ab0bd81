/- Operations that touch no memory, one by one. -/
import Derived.Test.YtbjelopcelompaaGreatDoorGd
namespace Go.Proofs.YtbjelopcelompaaGreatDoor.Gst
open Go Go.RowKit
set_option linter.unusedSimpArgs false
section
variable {P : Program} {ρ : Ren}

theorem flatStep_ge {sub : List Field → Option Nat} : ∀ {fs : List Field} {n m : Nat}, flatStep P sub n fs = some m → n ≤ m := by
  intro fs
  induction fs with
  | nil => intro n m h; simp [flatStep] at h; omega
  | cons f fs ih =>
    intro n m h
    simp only [flatStep] at h
    split at h
    · split at h
      · have := ih h; omega
      · split at h
        · split at h
          · have := ih h; omega
          · cases h
        · cases h
      · cases h
    · cases h
theorem eqCells_app : ∀ {a a' b b' : List Value} {r : Bool}, a.length = a'.length → eqCells (a ++ b) (a' ++ b') = some r → ∃ r1 r2, eqCells a a' = some r1 ∧ eqCells b b' = some r2 ∧ r = (r1 && r2) := by
  intro a
  induction a with
  | nil =>
    intro a' b b' r hl h
    have : a' = [] := List.eq_nil_of_length_eq_zero hl.symm
    subst this
    exact ⟨true, r, rfl, h, by simp⟩
  | cons x a ih =>
    intro a' b b' r hl h
    cases a' with
    | nil => simp at hl
    | cons y a' =>
      simp only [List.cons_append] at h
      cases x <;> cases y <;> simp only [eqCells] at h <;> try (cases h; done)
      rename_i k1 u k2 v
      split at h
      · rename_i hk
        obtain ⟨r', hr', hr⟩ := Option.map_eq_some_iff.1 h
        obtain ⟨r1, r2, h1, h2, h3⟩ := ih (by simpa using hl) hr'
        refine ⟨u == v && r1, r2, ?_, h2, ?_⟩
        · simp only [eqCells, if_pos hk, h1, Option.map_some]
        · rw [← hr, h3, Bool.and_assoc]
      · cases h
theorem drop_parts (X : Array Value) {n k : Nat} (h : n + k ≤ X.size) : X.toList.drop n = (X.extract n (n + k)).toList ++ X.toList.drop (n + k) := by
  rw [Array.toList_extract, List.extract_eq_take_drop, show n + k - n = k from by omega, ← List.drop_drop]
  exact (List.take_append_drop k (X.toList.drop n)).symm
theorem flatStep_eq {sub : List Field → Option Nat} {D : Nat} {w : World} (hsub : ∀ (gs : List Field) (k : Nat) (X Y : Array Value) (r : Bool), sub gs = some k → X.size = k → Y.size = k → eqCells X.toList Y.toList = some r → (Op.eqFields D X Y gs).run P w = .ok r w) (X Y : Array Value) :
    ∀ {fs : List Field} {n m : Nat} {r : Bool}, flatStep P sub n fs = some m → X.size = m → Y.size = m →
    eqCells (X.toList.drop n) (Y.toList.drop n) = some r → (Op.eqFields (D + 1) X Y fs).run P w = .ok r w := by
  intro fs
  induction fs with
  | nil =>
    intro n m r h hX hY he
    simp [flatStep] at h
    rw [List.drop_eq_nil_of_le (by simp; omega), List.drop_eq_nil_of_le (by simp; omega)] at he
    simp [eqCells] at he
    simp [Op.eqFields, ← he]
  | cons f fs ih =>
    intro n m r h hX hY he
    simp only [flatStep] at h
    split at h
    · rename_i hf
      split at h
      · rename_i k hk
        have hlen := flatStep_ge h
        have hnX : n < X.toList.length := by simp; omega
        have hnY : n < Y.toList.length := by simp; omega
        rw [List.drop_eq_getElem_cons hnX, List.drop_eq_getElem_cons hnY] at he
        generalize hx : X.toList[n] = x at he
        generalize hy : Y.toList[n] = y at he
        cases x <;> cases y <;> simp only [eqCells] at he <;> try (cases he; done)
        rename_i k1 a k2 b
        split at he
        · rename_i hkk
          subst hkk
          obtain ⟨r', hr', hr⟩ := Option.map_eq_some_iff.1 he
          have ih' := ih h hX hY hr'
          have hXn : X[n]? = some (.int k1 a) := by rw [← Array.getElem?_toList, List.getElem?_eq_getElem hnX, hx]
          have hYn : Y[n]? = some (.int k1 b) := by rw [← Array.getElem?_toList, List.getElem?_eq_getElem hnY, hy]
          have hag : (isAgg f.type).run P w = .ok false w := by simp [isAgg, run_underlying hk]
          simp only [Op.eqFields, hf.1, ne_eq, not_false_eq_true, if_true, part, Sem.run_bind, hag, Result.andThen_ok, Sem.run_ite, Bool.false_eq_true, if_false, hf.2, hXn, hYn, Sem.run_pure, run_equalIn_int w D f.type k1 k a b hk]
          cases hab : (a == b)
          · simp [hab] at hr; simp [← hr]
          · simp [hab] at hr; simpa [hr] using ih'
        · cases he
      · rename_i gs hk
        split at h
        · rename_i k hs
          split at h
          · rename_i hc
            have hlen := flatStep_ge h
            rw [drop_parts X (n := n) (k := k) (by omega), drop_parts Y (n := n) (k := k) (by omega)] at he
            have sX : (X.extract n (n + k)).size = k := by rw [Array.size_extract]; omega
            have sY : (Y.extract n (n + k)).size = k := by rw [Array.size_extract]; omega
            obtain ⟨r1, r2, h1, h2, h3⟩ := eqCells_app (by simp only [Array.length_toList, sX, sY]) he
            have ih' := ih h hX hY h2
            have hq := hsub gs.toList k _ _ r1 hs sX sY h1
            have hag : (isAgg f.type).run P w = .ok true w := by simp [isAgg, run_underlying hk]
            have hsz := szOf_run hc.1 w
            have hfs : P.fieldsOf f.type = gs := by simp [Program.fieldsOf, hk]
            have hst := run_equalIn_struct w D f.type (X.extract n (n + k)) (Y.extract n (n + k)) (by rw [hfs]; exact hk) hc.2
            rw [hfs, hq] at hst
            simp only [Op.eqFields, hf.1, ne_eq, not_false_eq_true, if_true, part, Sem.run_bind, hag, Result.andThen_ok, Sem.run_ite, hf.2, hsz, Sem.run_pure, hst]
            cases r1
            · simp at h3; simp [h3]
            · simp at h3; simpa [h3] using ih'
          · cases h
        · cases h
      · cases h
    · cases h
theorem flat_eq (w : World) : ∀ (e d : Nat) (X Y : Array Value) {fs : List Field} {n m : Nat} {r : Bool}, flatFields P e n fs = some m → X.size = m → Y.size = m →
    eqCells (X.toList.drop n) (Y.toList.drop n) = some r → (Op.eqFields (d + e + 1) X Y fs).run P w = .ok r w := by
  intro e
  induction e with
  | zero => intro d X Y fs n m r h hX hY he; exact flatStep_eq (D := d) (fun gs k X Y r h => by cases h) X Y h hX hY he
  | succ e ih => intro d X Y fs n m r h hX hY he; exact flatStep_eq (D := d + e + 1) (fun gs k X Y r h hX hY he => ih d X Y h hX hY (by simpa using he)) X Y h hX hY he

theorem flatOf_eq {t : TypeId} {n : Nat} (h : flatOf P t = some n) {X Y : Array Value} (hX : X.size = n) (hY : Y.size = n) {r : Bool} (he : eqCells X.toList Y.toList = some r) (w : World) :
    (Op.equalIn 10000 t (.agg X) (.agg Y)).run P w = .ok r w ∧ P.eqGuardType P.depth t = false := by
  unfold flatOf at h
  cases hu : P.underlying t with
  | none => simp [hu] at h
  | some dsc =>
    cases dsc <;> simp only [hu] at h <;> try (cases h; done)
    rename_i fs
    split at h
    · rename_i hc
      refine ⟨?_, hc.2⟩
      have hfs : P.fieldsOf t = fs := by simp [Program.fieldsOf, hu]
      rw [run_equalIn_struct w 9999 t X Y (by rw [hfs]; exact hu) hc.1, hfs]
      exact flat_eq w 2 9996 X Y h hX hY (by simpa using he)
    · cases h

theorem array_of_list {xs : Array Value} {l : List Value} (h : xs.toList = l) : xs = l.toArray := by rw [← h]

theorem eqIn_bool (d : Nat) {t : TypeId} (hu : P.underlying t = some .bool) (a b : Bool) (w : World) : (Op.equalIn (d + 1) t (.bool a) (.bool b)).run P w = .ok (a == b) w := run_equalIn_bool w d t a b hu
theorem eqIn_ptr (d : Nat) {t el : TypeId} (hu : P.underlying t = some (.pointer el)) (a : Option Addr) (w : World) : (Op.equalIn (d + 1) t (.pointer a) (.pointer none)).run P w = .ok a.isNone w := by
  cases a <;> simp [Op.equalIn, run_underlying hu]
theorem eqIn_ptr' (d : Nat) {t el : TypeId} (hu : P.underlying t = some (.pointer el)) (a : Addr) (w : World) : (Op.equalIn (d + 1) t (.pointer none) (.pointer (some a))).run P w = .ok false w := by
  simp [Op.equalIn, run_underlying hu]
theorem eqIn_slice (d : Nat) {t el : TypeId} (hu : P.underlying t = some (.slice el)) (a : Option Addr) (n k m l : Nat) (w : World) : (Op.equalIn (d + 1) t (.slice a n k) (.slice none m l)).run P w = .ok a.isNone w := by
  cases a <;> simp [Op.equalIn, run_underlying hu]
theorem eqIn_slice' (d : Nat) {t el : TypeId} (hu : P.underlying t = some (.slice el)) (a : Addr) (n k m l : Nat) (w : World) : (Op.equalIn (d + 1) t (.slice none n k) (.slice (some a) m l)).run P w = .ok false w := by
  simp [Op.equalIn, run_underlying hu]
theorem eqIn_map (d : Nat) {t kt el : TypeId} (hu : P.underlying t = some (.map kt el)) (a : Option Nat) (w : World) : (Op.equalIn (d + 1) t (.map a) (.map none)).run P w = .ok a.isNone w := by
  cases a <;> simp [Op.equalIn, run_underlying hu]
theorem eqIn_map' (d : Nat) {t kt el : TypeId} (hu : P.underlying t = some (.map kt el)) (a : Nat) (w : World) : (Op.equalIn (d + 1) t (.map none) (.map (some a))).run P w = .ok false w := by
  simp [Op.equalIn, run_underlying hu]
theorem eqIn_func (d : Nat) {t : TypeId} {ps rs : Array TypeId} {va : Bool} (hu : P.underlying t = some (.func ps rs va)) (f : Fn) (a c : Array Value) (w : World) :
    (Op.equalIn (d + 1) t (.func f a c) .nilFunc).run P w = .ok false w ∧ (Op.equalIn (d + 1) t .nilFunc (.func f a c)).run P w = .ok false w ∧ (Op.equalIn (d + 1) t .nilFunc .nilFunc).run P w = .ok true w := by
  refine ⟨?_, ?_, ?_⟩ <;> simp [Op.equalIn, run_underlying hu]

/-- What '==' comes to where it is no whole number's nor a string's. -/
theorem eql_of {t : TypeId} {x y : Value} {r : Bool} {w : World} (X Y : Operand) (op : BinOp) (hop : op = .eql ∨ op = .neq) (hg : (eqGuard op t X Y x y).run P w = .ok () w)
    (hi : ∀ k a, x ≠ .int k a) (hf : ∀ k a, x ≠ .float k a) (hc : ∀ k a b, x ≠ .complex k a b) (hs : ∀ a, x ≠ .string a) (he : (Op.equalIn 10000 t x y).run P w = .ok r w) :
    (do eqGuard op t X Y x y; binOp op t x y : Sem Value).run P w = .ok (.bool (if op = .eql then r else !r)) w := by
  have he' : (Op.equal t x y).run P w = .ok r w := he
  simp only [Sem.run_bind, hg, Result.andThen_ok]
  rcases hop with rfl | rfl
  · have e : binOp .eql t x y = (do pure (.bool (← Op.equal t x y)) : Sem Value) := by
      cases x <;> first | rfl | exact absurd rfl (hi _ _) | exact absurd rfl (hf _ _) | exact absurd rfl (hc _ _ _) | exact absurd rfl (hs _)
    rw [e]; simp [he']
  · have e : binOp .neq t x y = (do pure (.bool (!(← Op.equal t x y))) : Sem Value) := by
      cases x <;> first | rfl | exact absurd rfl (hi _ _) | exact absurd rfl (hf _ _) | exact absurd rfl (hc _ _ _) | exact absurd rfl (hs _)
    rw [e]; simp [he']

theorem pEq_run {t : TypeId} {x y x' y' : Value} {r : Bool} (h : pEq (clsOf P t) x y = some r) (hx : VRel P ρ x x') (hy : VRel P ρ y y') (X Y : Operand) (w : World) (op : BinOp) (hop : op = .eql ∨ op = .neq) :
    (do eqGuard op t X Y x' y'; binOp op t x' y' : Sem Value).run P w = .ok (.bool (if op = .eql then r else !r)) w := by
  unfold clsOf at h
  cases hu : P.underlying t with
  | none => simp [hu, pEq] at h
  | some d =>
    cases d <;> simp only [hu] at h <;> try (simp [pEq] at h; done)
    case bool =>
      cases x <;> cases y <;> simp [pEq] at h
      rw [hx.bool_inv, hy.bool_inv]
      exact eql_of X Y op hop (by rw [eqGuard_at_bool]; rfl) (by simp) (by simp) (by simp) (by simp) (by rw [eqIn_bool 9999 hu, h])
    case pointer el =>
      cases x <;> cases y <;> simp only [pEq] at h <;> try (cases h; done)
      rename_i a b
      obtain ⟨a', rfl, ha⟩ := hx.pointer_inv
      obtain ⟨b', rfl, hb⟩ := hy.pointer_inv
      refine eql_of X Y op hop (by rw [eqGuard_at_pointer]; rfl) (by simp) (by simp) (by simp) (by simp) ?_
      cases b with
      | none =>
        have hb' : b' = none := by cases b' <;> simp_all
        subst hb'
        rw [eqIn_ptr 9999 hu, ha]
        cases a <;> simp [pEq] at h <;> simp [h]
      | some b =>
        cases a with
        | some a => simp [pEq] at h
        | none =>
          have ha' : a' = none := by cases a' <;> simp_all
          subst ha'
          cases b' with
          | none => simp at hb
          | some b' => simp [pEq] at h; rw [eqIn_ptr' 9999 hu, ← h]
    case slice el =>
      cases x <;> cases y <;> simp only [pEq] at h <;> try (cases h; done)
      rename_i a n1 k1 b n2 k2
      obtain ⟨a', _, rfl, ha⟩ := hx.anyslice_inv
      obtain ⟨b', _, rfl, hb⟩ := hy.anyslice_inv
      refine eql_of X Y op hop (by rw [eqGuard_at_slice]; rfl) (by simp) (by simp) (by simp) (by simp) ?_
      cases b with
      | none =>
        have hb' : b' = none := by cases b' <;> simp_all
        subst hb'
        rw [eqIn_slice 9999 hu, ha]
        cases a <;> simp [pEq] at h <;> simp [h]
      | some b =>
        cases a with
        | some a => simp [pEq] at h
        | none =>
          have ha' : a' = none := by cases a' <;> simp_all
          subst ha'
          cases b' with
          | none => simp at hb
          | some b' => simp [pEq] at h; rw [eqIn_slice' 9999 hu, ← h]
    case map kt el =>
      cases x <;> cases y <;> simp only [pEq] at h <;> try (cases h; done)
      rename_i a b
      obtain ⟨a', rfl, ha⟩ := hx.anymap_inv
      obtain ⟨b', rfl, hb⟩ := hy.anymap_inv
      refine eql_of X Y op hop (by rw [eqGuard_at_map]; rfl) (by simp) (by simp) (by simp) (by simp) ?_
      cases b with
      | none =>
        have hb' : b' = none := by cases b' <;> simp_all
        subst hb'
        rw [eqIn_map 9999 hu, ha]
        cases a <;> simp [pEq] at h <;> simp [h]
      | some b =>
        cases a with
        | some a => simp [pEq] at h
        | none =>
          have ha' : a' = none := by cases a' <;> simp_all
          subst ha'
          cases b' with
          | none => simp at hb
          | some b' => simp [pEq] at h; rw [eqIn_map' 9999 hu, ← h]
    case func ps rs va =>
      cases x <;> cases y <;> simp [pEq] at h
      · obtain ⟨f', c', rfl, _⟩ := hx.func_inv
        rw [hy.nilFunc_inv]
        exact eql_of X Y op hop (by rw [eqGuard_at_func]; rfl) (by simp) (by simp) (by simp) (by simp) (by rw [(eqIn_func 9999 hu _ f' c' w).1, h])
      · obtain ⟨f', c', rfl, _⟩ := hy.func_inv
        rw [hx.nilFunc_inv]
        exact eql_of X Y op hop (by rw [eqGuard_at_nilFunc]; rfl) (by simp) (by simp) (by simp) (by simp) (by rw [(eqIn_func 9999 hu _ f' c' w).2.1, h])
      · rw [hx.nilFunc_inv, hy.nilFunc_inv]
        exact eql_of X Y op hop (by rw [eqGuard_at_nilFunc]; rfl) (by simp) (by simp) (by simp) (by simp) (by rw [(eqIn_func 9999 hu (.func 0) #[] #[] w).2.2, h])
    case struct fs =>
      cases hf : flatOf P t with
      | none => simp [hf, pEq] at h
      | some n =>
        simp only [hf] at h
        cases x <;> cases y <;> simp only [pEq] at h <;> try (cases h; done)
        rename_i xs ys
        split at h
        · rename_i hsz
          obtain ⟨xs', rfl, hxs, hxe⟩ := hx.agg_inv
          obtain ⟨ys', rfl, hys, hye⟩ := hy.agg_inv
          have hlx : LRel P ρ xs.toList xs'.toList := ⟨by simpa using hxs, fun i a b ha hb => hxe i a b (by simpa using ha) (by simpa using hb)⟩
          have hly : LRel P ρ ys.toList ys'.toList := ⟨by simpa using hys, fun i a b ha hb => hye i a b (by simpa using ha) (by simpa using hb)⟩
          obtain ⟨e1, e2⟩ := eqCells_rel h hlx hly
          have e1 := Array.toList_inj.1 e1
          have e2 := Array.toList_inj.1 e2
          subst e1; subst e2
          obtain ⟨hq, hg⟩ := flatOf_eq hf hsz.1 hsz.2 h w
          exact eql_of X Y op hop (run_eqGuard_agg (P := P) w op t X Y xs' ys' hg) (by simp) (by simp) (by simp) (by simp) hq
        · cases h

theorem pBin_run {t : TypeId} {op : BinOp} {x y x' y' v : Value} (h : pBin (clsOf P t) op x y = some v) (hx : VRel P ρ x x') (hy : VRel P ρ y y') (X Y : Operand) (w : World) :
    (do eqGuard op t X Y x' y'; binOp op t x' y' : Sem Value).run P w = .ok v w ∧ litV v = true := by
  by_cases hi : ∃ k a k' b, x = .int k a ∧ y = .int k' b
  · obtain ⟨k, a, k', b, rfl, rfl⟩ := hi
    rw [hx.int_inv, hy.int_inv, eqGuard_at_int]
    simp only [pBin] at h
    have lit : ∀ {op' : BinOp}, pInt op' k a b = some v → litV v = true := by
      intro op' hp
      cases op' <;> simp only [pInt] at hp <;> first | (cases hp; rfl) | (split at hp <;> first | (cases hp; done) | (cases hp; rfl)) | (cases hp; done)
    have lits : ∀ {op' : BinOp}, pShift op' k a b = some v → litV v = true := by
      intro op' hp
      unfold pShift at hp
      split at hp
      · cases hp
      · cases op' <;> simp only at hp <;> first | (cases hp; done) | (cases hp; rfl)
    cases op <;> simp only at h <;> first
      | (refine ⟨?_, lits h⟩; have := pShift_run (P := P) (yk := k') h w; simpa [binOp] using this)
      | (split at h
         · rename_i hk; subst hk; exact ⟨by simpa using pInt_run (P := P) h t w (by simp) (by simp), lit h⟩
         · cases h)
  · by_cases hs : ∃ a b, x = .string a ∧ y = .string b
    · obtain ⟨a, b, rfl, rfl⟩ := hs
      rw [hx.string_inv, hy.string_inv, eqGuard_at_string]
      simp only [pBin] at h
      cases op <;> simp only [pStr] at h <;> first | (cases h; done) | (cases h; refine ⟨?_, rfl⟩; simp [binOp, Op.stringOp, beq_toListBytes])
    · have h' : pEqOp (clsOf P t) op x y = some v := by
        cases x <;> cases y <;> first | (exfalso; exact hi ⟨_, _, _, _, rfl, rfl⟩) | (exfalso; exact hs ⟨_, _, rfl, rfl⟩) | (simp only [pBin] at h; exact h)
      cases op <;> simp only [pEqOp] at h' <;> try (cases h'; done)
      · obtain ⟨r, hr, rfl⟩ := Option.map_eq_some_iff.1 h'
        exact ⟨by simpa using pEq_run hr hx hy X Y w .eql (.inl rfl), rfl⟩
      · obtain ⟨r, hr, rfl⟩ := Option.map_eq_some_iff.1 h'
        exact ⟨by simpa using pEq_run hr hx hy X Y w .neq (.inr rfl), rfl⟩

theorem pUn_run {op : UnOp} {x x' v : Value} (h : pUn op x = some v) (hx : VRel P ρ x x') (w : World) : (Op.unary op x').run P w = .ok v w ∧ litV v = true := by
  cases op <;> cases x <;> simp only [pUn] at h <;> try (cases h; done)
  · cases h; rw [hx.int_inv]; exact ⟨by simp [Op.unary, Op.intArith], rfl⟩
  · cases h; rw [hx.int_inv]; exact ⟨by simp [Op.unary, Op.intBits, Go.bits], rfl⟩
  · cases h; rw [hx.bool_inv]; exact ⟨by simp [Op.unary], rfl⟩
end
end Go.Proofs.YtbjelopcelompaaGreatDoor.Gst
