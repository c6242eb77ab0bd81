/- Maps. -/
import Derived.Test.YtbjelopcelompaaGreatDoorGh
namespace Go.Proofs.YtbjelopcelompaaGreatDoor.Gst
open Go Go.RowKit
set_option linter.unusedSimpArgs false
section
variable {P : Program} {w0 : World} {B : Nat} {ρ : Ren} {H : AH} {w : World}

def EsRel (P : Program) (ρ : Ren) (es es' : List MapEntry) : Prop := es'.length = es.length ∧ ∀ (i : Nat) (e e' : MapEntry), es[i]? = some e → es'[i]? = some e' → ERel P ρ e e'
theorem EsRel.tail {e e' : MapEntry} {es es' : List MapEntry} (h : EsRel P ρ (e :: es) (e' :: es')) : ERel P ρ e e' ∧ EsRel P ρ es es' :=
  ⟨h.2 0 e e' rfl rfl, by simpa using h.1, fun i a a' ha ha' => h.2 (i + 1) a a' (by simpa using ha) (by simpa using ha')⟩

def FoundRel (P : Program) (ρ : Ren) : Option (Nat × Value) → Option (Nat × Value) → Prop
  | none, none => True
  | some (i, v), some (i', v') => i = i' ∧ VRel P ρ v v'
  | _, _ => False

theorem beq_bytes {a b : ByteArray} (h : (a == b) = true) : a = b := by
  rw [beq_toListBytes] at h
  have h2 : a.toList = b.toList := by simpa using h
  rw [ByteArray.toList_eq, ByteArray.toList_eq] at h2
  obtain ⟨⟨x⟩⟩ := a
  obtain ⟨⟨y⟩⟩ := b
  simp only at h2
  rw [h2]

theorem eqCells_eq : ∀ {l m : List Value}, eqCells l m = some true → l = m := by
  intro l
  induction l with
  | nil => intro m hm; cases m with
    | nil => rfl
    | cons => simp [eqCells] at hm
  | cons x l ih =>
    intro m hm
    cases m with
    | nil => cases x <;> simp [eqCells] at hm
    | cons y m =>
      cases x <;> cases y <;> simp only [eqCells] at hm <;> try (cases hm; done)
      split at hm
      · rename_i hk
        obtain ⟨r', hr', hb⟩ := Option.map_eq_some_iff.1 hm
        simp only [Bool.and_eq_true, beq_iff_eq] at hb
        obtain ⟨hab, rfl⟩ := hb
        rw [ih hr', hk, hab]
      · cases hm

theorem keyOK_rel {cl : KCls} {k k' : Value} (h : keyOK cl k = true) (hk : VRel P ρ k k') : k' = k := by
  cases cl <;> cases k <;> simp only [keyOK] at h <;> try (cases h; done)
  · exact hk.int_inv
  · exact hk.string_inv
  · rename_i n xs
    simp only [Bool.and_eq_true, beq_iff_eq] at h
    obtain ⟨ys, rfl, hs, he⟩ := hk.agg_inv
    congr 1
    apply Array.ext' 
    apply List.ext_getElem?
    intro i
    by_cases hi : i < xs.size
    · have hi' : i < ys.size := by omega
      have h1 : isIntV xs[i] = true := List.all_eq_true.1 h.2 _ (by simp)
      have h2 := he i xs[i] ys[i] (by simp [hi]) (by simp [hi'])
      simp only [Array.getElem?_toList, Array.getElem?_eq_getElem hi, Array.getElem?_eq_getElem hi']
      generalize xs[i] = x at h1 h2
      cases x <;> simp [isIntV] at h1
      rw [h2.int_inv]
    · rw [List.getElem?_eq_none (by simp; omega), List.getElem?_eq_none (by simp; omega)]

theorem keyEq_inv {cl : KCls} {a b b' : Value} {r : Bool} (h : keyEq cl a b = some r) (hb : VRel P ρ b b') : b' = b ∧ (r = true → a = b) := by
  cases cl <;> cases a <;> cases b <;> simp only [keyEq] at h <;> try (cases h; done)
  · split at h
    · rename_i hk
      subst hk
      refine ⟨hb.int_inv, fun hr => ?_⟩
      subst hr
      simpa using h
    · cases h
  · refine ⟨hb.string_inv, fun hr => ?_⟩
    subst hr
    rw [beq_bytes (Option.some.inj h)]
  · rename_i xs ys
    split at h
    · obtain ⟨ys', rfl, h3, h4⟩ := hb.agg_inv
      have hly : LRel P ρ ys.toList ys'.toList := ⟨by simpa using h3, fun i a b ha hb => h4 i a b (by simpa using ha) (by simpa using hb)⟩
      have hall : LRel P ρ xs.toList xs.toList := by
        refine LRel.of_all ?_
        have : ∀ {l m : List Value} {r : Bool}, eqCells l m = some r → l.all litV = true := by
          intro l
          induction l with
          | nil => intro m r _; rfl
          | cons x l ih =>
            intro m r hm
            cases m with
            | nil => cases x <;> simp [eqCells] at hm
            | cons y m =>
              cases x <;> cases y <;> simp only [eqCells] at hm <;> try (cases hm; done)
              split at hm
              · obtain ⟨r', hr', _⟩ := Option.map_eq_some_iff.1 hm
                simp only [List.all_cons, ih hr', Bool.and_true]; rfl
              · cases hm
        exact this h
      obtain ⟨_, e2⟩ := eqCells_rel h hall hly
      have e2 := Array.toList_inj.1 e2
      subst e2
      refine ⟨rfl, fun hr => ?_⟩
      subst hr
      rw [Array.toList_inj.1 (eqCells_eq h)]
    · cases h

theorem find_int {kk : IntKind} {k : Value} : ∀ {es es' : List MapEntry} {i : Nat} {r : Option (Nat × Value)}, findKey' .int k es i = some r → EsRel P ρ es es' →
    ∃ r', Instr.findNow (.int kk) k es' i = some r' ∧ FoundRel P ρ r r' := by
  intro es
  induction es with
  | nil =>
    intro es' i r h hes
    cases es' with
    | cons => have := hes.1; simp at this
    | nil => simp [findKey'] at h; subst h; exact ⟨none, rfl, trivial⟩
  | cons e es ih =>
    intro es' i r h hes
    cases es' with
    | nil => have := hes.1; simp at this
    | cons e' es' =>
      obtain ⟨he, hes⟩ := hes.tail
      simp only [findKey'] at h
      have h2 := Option.bind_eq_some_iff.1 h
      clear h
      obtain ⟨b, hb, h⟩ := h2
      have hk := (keyEq_inv hb he.1).1
      cases hek : e.key <;> rw [hek] at hb <;> cases k <;> simp only [keyEq] at hb <;> try (cases hb; done)
      rename_i k' y k a
      rw [hek] at hk
      split at hb
      · rename_i hkk
        subst hkk
        cases hb
        simp only [Instr.findNow, hk, Instr.sameNow, if_true]
        cases hay : (a == y)
        · rw [hay] at h; simp only [Bool.false_eq_true, if_false] at h; exact ih h hes
        · rw [hay] at h; simp only [if_true] at h; cases h; exact ⟨_, rfl, rfl, he.2.1⟩
      · cases hb

theorem find_string {k : Value} : ∀ {es es' : List MapEntry} {i : Nat} {r : Option (Nat × Value)}, findKey' .string k es i = some r → EsRel P ρ es es' →
    ∃ r', Instr.findNow .string k es' i = some r' ∧ FoundRel P ρ r r' := by
  intro es
  induction es with
  | nil =>
    intro es' i r h hes
    cases es' with
    | cons => have := hes.1; simp at this
    | nil => simp [findKey'] at h; subst h; exact ⟨none, rfl, trivial⟩
  | cons e es ih =>
    intro es' i r h hes
    cases es' with
    | nil => have := hes.1; simp at this
    | cons e' es' =>
      obtain ⟨he, hes⟩ := hes.tail
      simp only [findKey'] at h
      have h2 := Option.bind_eq_some_iff.1 h
      clear h
      obtain ⟨b, hb, h⟩ := h2
      have hk := (keyEq_inv hb he.1).1
      cases hek : e.key <;> rw [hek] at hb <;> cases k <;> simp only [keyEq] at hb <;> try (cases hb; done)
      rename_i y a
      rw [hek] at hk
      cases hb
      simp only [Instr.findNow, hk, Instr.sameNow]
      cases hay : (a == y)
      · rw [hay] at h; simp only [Bool.false_eq_true, if_false] at h; exact ih h hes
      · rw [hay] at h; simp only [if_true] at h; cases h; exact ⟨_, rfl, rfl, he.2.1⟩

theorem find_flat {kt : TypeId} {n : Nat} (hf : flatOf P kt = some n) {X : Array Value} : ∀ {es es' : List MapEntry} {i : Nat} {r : Option (Nat × Value)}, findKey' (.flat n) (.agg X) es i = some r →
    EsRel P ρ es es' → ∃ r', (Instr.findAsking kt (.agg X) es' i).run P w = .ok r' w ∧ FoundRel P ρ r r' := by
  intro es
  induction es with
  | nil =>
    intro es' i r h hes
    cases es' with
    | cons => have := hes.1; simp at this
    | nil => simp [findKey'] at h; subst h; exact ⟨none, rfl, trivial⟩
  | cons e es ih =>
    intro es' i r h hes
    cases es' with
    | nil => have := hes.1; simp at this
    | cons e' es' =>
      obtain ⟨he, hes⟩ := hes.tail
      simp only [findKey'] at h
      have h2 := Option.bind_eq_some_iff.1 h
      clear h
      obtain ⟨b, hb, h⟩ := h2
      have hk := (keyEq_inv hb he.1).1
      cases hek : e.key <;> rw [hek] at hb <;> simp only [keyEq] at hb <;> try (cases hb; done)
      rename_i Y
      rw [hek] at hk
      split at hb
      · rename_i hsz
        have hq : (Op.equal kt (.agg X) (.agg Y)).run P w = .ok b w := (flatOf_eq hf hsz.1 hsz.2 hb w).1
        simp only [Instr.findAsking, hk, Sem.run_bind, hq, Result.andThen_ok]
        cases b with
        | true => simp only [if_true] at h; cases h; exact ⟨some (i, e'.val), by simp, rfl, he.2.1⟩
        | false => simp only [Bool.false_eq_true, if_false] at h; simpa using ih h hes
      · cases hb

theorem findNow_struct {fs : Array Field} {X : Array Value} {es : List MapEntry} : Instr.findNow (.struct fs) (.agg X) es 0 = none ∨ (es = [] ∧ Instr.findNow (.struct fs) (.agg X) es 0 = some none) := by
  cases es with
  | nil => exact .inr ⟨rfl, rfl⟩
  | cons e es => left; simp [Instr.findNow, Instr.sameNow]

theorem find_run {kt : TypeId} {cl : KCls} (hcl : flatKey P kt = some cl) {k : Value} (hok : keyOK cl k = true) {es es' : List MapEntry} {r : Option (Nat × Value)} (h : findKey' cl k es 0 = some r) (hes : EsRel P ρ es es') :
    ∃ r', (Instr.findKey kt k es').run P w = .ok r' w ∧ FoundRel P ρ r r' := by
  unfold flatKey at hcl
  cases hu : P.underlying kt with
  | none => simp [hu] at hcl
  | some d =>
    cases d <;> simp only [hu] at hcl <;> try (cases hcl; done)
    case int kk =>
      cases hcl
      obtain ⟨r', h1, h2⟩ := find_int (kk := kk) h hes
      exact ⟨r', by simp [Instr.findKey, run_underlying hu, h1], h2⟩
    case string =>
      cases hcl
      obtain ⟨r', h1, h2⟩ := find_string h hes
      exact ⟨r', by simp [Instr.findKey, run_underlying hu, h1], h2⟩
    case struct fs =>
      obtain ⟨n, hf, rfl⟩ := Option.map_eq_some_iff.1 hcl
      cases k <;> simp only [keyOK] at hok <;> try (cases hok; done)
      rename_i X
      obtain ⟨r', h1, h2⟩ := find_flat (w := w) hf h hes
      refine ⟨r', ?_, h2⟩
      rcases findNow_struct (fs := fs) (X := X) (es := es') with h3 | ⟨rfl, h3⟩
      · simp [Instr.findKey, run_underlying hu, h3, h1]
      · simp only [Instr.findKey, Sem.run_bind, run_underlying hu, Result.andThen_ok, h3]
        simpa [Instr.findAsking] using h1

theorem ck_int (b : Bool) (d : Nat) {t : TypeId} {k : IntKind} (hu : P.underlying t = some (.int k)) (v : Value) (w : World) : (Instr.checkKey b (d + 1) t v).run P w = .ok () w := by
  cases v <;> simp [Instr.checkKey, run_underlying hu]
theorem ck_string (b : Bool) (d : Nat) {t : TypeId} (hu : P.underlying t = some .string) (v : Value) (w : World) : (Instr.checkKey b (d + 1) t v).run P w = .ok () w := by
  cases v <;> simp [Instr.checkKey, run_underlying hu]

/-- The fields of a key, one by one. -/
def ckLoop (b : Bool) (D : Nat) (X : Array Value) (l : List Field) : Sem Unit := do
  for f in l do
    if f.name ≠ "_" then Instr.checkKey b D f.type (← part f.type X f.offset)
theorem ck_loop (b : Bool) (D : Nat) {t : TypeId} {gs : Array Field} (hu : P.underlying t = some (.struct gs)) (X : Array Value) (w : World) : (Instr.checkKey b (D + 1) t (.agg X)).run P w = (ckLoop b D X gs.toList).run P w := by
  rw [Instr.checkKey]
  simp only [Sem.run_bind, run_underlying hu, Result.andThen_ok]
  rw [← Array.forIn_toList]
  unfold ckLoop
  simp only [Sem.run_bind]
theorem flatStep_ck (b : Bool) {sub : List Field → Option Nat} {D : Nat} {w : World} (hsub : ∀ (gs : List Field) (k : Nat) (X : Array Value), sub gs = some k → X.size = k → (ckLoop b D X gs).run P w = .ok () w) (X : Array Value) :
    ∀ {l : List Field} {i m : Nat}, flatStep P sub i l = some m → X.size = m → (ckLoop b (D + 1) X l).run P w = .ok () w := by
  intro l
  induction l with
  | nil => intro i m _ _; simp [ckLoop]
  | cons f l ih =>
    intro i m hm hXm
    simp only [flatStep] at hm
    split at hm
    · rename_i hc
      split at hm
      · rename_i k hk
        have hge := flatStep_ge hm
        have hi : X[i]? = some X[i] := by simp
        have hag : (isAgg f.type).run P w = .ok false w := by simp [isAgg, run_underlying hk]
        have hpart : (part f.type X f.offset).run P w = .ok X[i] w := by simp [part, hag, hc.2, hi]
        have ih' := ih hm hXm
        unfold ckLoop at ih' ⊢
        simp only [Sem.run_bind] at ih'
        simp only [List.forIn_cons, hc.1, ne_eq, not_false_eq_true, if_true, Sem.run_bind, hpart, Result.andThen_ok, ck_int b D hk, Sem.run_pure]
        exact ih'
      · rename_i gs hk
        split at hm
        · rename_i k hs
          split at hm
          · rename_i hcc
            have hge := flatStep_ge hm
            have hag : (isAgg f.type).run P w = .ok true w := by simp [isAgg, run_underlying hk]
            have hsz := szOf_run hcc.1 w
            have hpart : (part f.type X f.offset).run P w = .ok (.agg (X.extract i (i + k))) w := by simp [part, hag, hc.2, hsz]
            have hsub' := hsub gs.toList k (X.extract i (i + k)) hs (by rw [Array.size_extract]; omega)
            rw [← ck_loop b D hk] at hsub'
            have ih' := ih hm hXm
            unfold ckLoop at ih' ⊢
            simp only [Sem.run_bind] at ih'
            simp only [List.forIn_cons, hc.1, ne_eq, not_false_eq_true, if_true, Sem.run_bind, hpart, Result.andThen_ok, hsub', Sem.run_pure]
            exact ih'
          · cases hm
        · cases hm
      · cases hm
    · cases hm
theorem ck_flat (b : Bool) (w : World) : ∀ (e d : Nat) (X : Array Value) {l : List Field} {i m : Nat}, flatFields P e i l = some m → X.size = m → (ckLoop b (d + e + 1) X l).run P w = .ok () w := by
  intro e
  induction e with
  | zero => intro d X l i m h hX; exact flatStep_ck b (D := d) (fun gs k X h => by cases h) X h hX
  | succ e ih => intro d X l i m h hX; exact flatStep_ck b (D := d + e + 1) (fun gs k X h hX => ih d X h hX) X h hX

theorem check_run {kt : TypeId} {cl : KCls} (hcl : flatKey P kt = some cl) {k : Value} (hok : keyOK cl k = true) (b : Bool) (w : World) : (Instr.checkKey b 10000 kt k).run P w = .ok () w := by
  unfold flatKey at hcl
  cases hu : P.underlying kt with
  | none => simp [hu] at hcl
  | some d =>
    cases d <;> simp only [hu] at hcl <;> try (cases hcl; done)
    case int kk => exact ck_int b 9999 hu k w
    case string => exact ck_string b 9999 hu k w
    case struct fs =>
      obtain ⟨n, hf, rfl⟩ := Option.map_eq_some_iff.1 hcl
      cases k <;> simp only [keyOK] at hok <;> try (cases hok; done)
      rename_i X
      simp only [Bool.and_eq_true, beq_iff_eq] at hok
      unfold flatOf at hf
      simp only [hu] at hf
      split at hf
      · rw [show (10000 : Nat) = 9999 + 1 from rfl, ck_loop b 9999 hu]
        exact ck_flat b w 2 9996 X hf hok.1
      · cases hf
end
end Go.Proofs.YtbjelopcelompaaGreatDoor.Gst
