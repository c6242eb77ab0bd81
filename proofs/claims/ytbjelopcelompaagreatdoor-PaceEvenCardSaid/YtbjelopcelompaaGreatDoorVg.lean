/- Code and calls by the tree: what they come to there, they come to by the abstract run, in any heap that bears the same first blocks. -/
import Derived.Test.YtbjelopcelompaaGreatDoorVf
namespace Go.Proofs.YtbjelopcelompaaGreatDoor.Gst
open Go Go.RowKit
set_option linter.unusedSimpArgs false
set_option linter.unusedVariables false

def tEv (T : Tr Value) : Operand → Value
  | .tmp t => match T.get t with
    | some v => v
    | none => undef
  | .const v => v
  | .global g => .pointer (some ⟨g, 0, none⟩)
  | .func f => .func (.func f) #[] #[]
def tPut (m : Nat) (T : Tr Value) (dst : Option Tmp) (v : Value) : Option (Tr Value) :=
  match dst with
  | some j => match Nat.blt j m with
    | true => Tr.set v 24 T j
    | false => none
  | none => some T
def tYield (ops : Array Oper) (T : Tr Value) (j : Nat) : Option Bool :=
  match (ops[j]?).bind (·.dst) with
  | some t => match T.get t with
    | some (.bool b) => some b
    | _ => none
  | none => none
def tStep (P : Program) (G : List Nat) (call : TF) (ops : Array Oper) (m : Nat) (o : Oper) (T : Tr Value) (E : EH) : Option (Tr Value × EH) :=
  match o.op.operands.toList.all (okX G) with
  | true => match Region.wanted o (tYield ops T) with
    | true => (tOp P call (tEv T) o E).bind fun r => (tPut m T o.dst r.1).map fun T' => (T', r.2)
    | false => (tPut m T o.dst undef).map fun T' => (T', E)
  | false => none
def tOps (P : Program) (G : List Nat) (call : TF) (ops : Array Oper) (m : Nat) : List Oper → Tr Value → EH → List (Tr Value × EH) → Option (List (Tr Value × EH) × Tr Value × EH)
  | [], T, E, hist => some (hist ++ [(T, E)], T, E)
  | o :: rest, T, E, hist => (tStep P G call ops m o T E).bind fun r => tOps P G call ops m rest r.1 r.2 (hist ++ [(T, E)])
def tLook (P : Program) (G : List Nat) (hist : List (Tr Value × EH)) (ops : Array Oper) (p : Nat × Nat) : Bool :=
  match ops[p.1]?, hist[p.1]?, hist[if p.2 < p.1 then p.2 else p.2 + 1]? with
  | some o, some s, some s' => o.op.operands.toList.all (okX G) && eqO (tRd P (tEv s.1) o.op s'.2) (tRd P (tEv s.1) o.op s.2)
  | _, _, _ => false
def tRegion (P : Program) (G : List Nat) (call : TF) (ops : Array Oper) (m : Nat) (draw : Bool) (T : Tr Value) (E : EH) : Option (Tr Value × EH) :=
  match draw with
  | true => match regOK ops.toList with
    | true => (tOps P G call ops m ops.toList T E []).bind fun r => match (lookPairs ops.toList).all (tLook P G r.1 ops) with
      | true => some r.2
      | false => none
    | false => none
  | false => (tOps P G call ops m ops.toList T E []).map (·.2)
abbrev TR := AE × Tr Value × EH
def tIter (f : Tr Value → EH → Option TR) : Nat → Tr Value → EH → Option TR
  | 0, _, _ => none
  | n + 1, T, E => (f T E).bind fun r => match r.1 with
    | .normal => tIter f n r.2.1 r.2.2
    | _ => some r
def tCode (P : Program) (G : List Nat) (call : TF) (N m : Nat) : Code → Tr Value → EH → Option TR
  | .skip, T, E => some (.normal, T, E)
  | .label _, T, E => some (.normal, T, E)
  | .region _ ops draw, T, E => (tRegion P G call ops m draw T E).map fun s => (.normal, s.1, s.2)
  | .seq x y, T, E => (tCode P G call N m x T E).bind fun r => match r.1 with
    | .normal => tCode P G call N m y r.2.1 r.2.2
    | _ => some r
  | .cond c x y, T, E => match okX G c with
    | true => match tEv T c with
      | .bool true => tCode P G call N m x T E
      | .bool false => tCode P G call N m y T E
      | _ => none
    | false => none
  | .block id x, T, E => (tCode P G call N m x T E).map fun r => match r.1 with
    | .exit i => if i = id then (.normal, r.2.1, r.2.2) else r
    | _ => r
  | .loop x, T, E => tIter (tCode P G call N m x) N T E
  | .exit id, T, E => some (.exit id, T, E)
  | .ret, T, E => some (.ret, T, E)
  | _, _, _ => none
def tGet (T : Tr Value) (t : Nat) : Value := match T.get t with
  | some v => v
  | none => undef
def tResult (P : Program) (T : Tr Value) (E : EH) : ResultVar → Option Value
  | .tmp t => some (tGet T t)
  | .cell a t => (aggOf P t).bind fun g => match g with
    | some n => eLdN n (tGet T a) E
    | none => eLd1 (tGet T a) E
def tMany (P : Program) (T : Tr Value) (E : EH) : List ResultVar → Option (List Value)
  | [] => some []
  | r :: rs => (tResult P T E r).bind fun v => (tMany P T E rs).bind fun vs => some (v :: vs)
def tFin (P : Program) (rs : List ResultVar) (r : TR) : Option (Value × EH) :=
  match r.1 with
  | .exit _ => none
  | _ => (tMany P r.2.1 r.2.2 rs).map fun vs => (match vs with
    | [v] => v
    | vs => .tuple vs.toArray, r.2.2)
def tInit : List Value → Nat → Tr Value → Option (Tr Value)
  | [], _, T => some T
  | v :: vs, i, T => (Tr.set v 24 T i).bind fun T' => tInit vs (i + 1) T'
def tDefer (P : Program) (G : List Nat) (call : TF) (N n : Nat) (rs : List ResultVar) (s : DSh) (T : Tr Value) (E : EH) : Option (Value × EH) :=
  (tCode P G call N n s.c1 T E).bind fun r => match r.1 with
    | .normal => match Nat.blt s.t n with
      | true => (tStep P G call s.ops2 n s.om r.2.1 r.2.2).bind fun q => (tOps P G call s.ops3 n s.ops3.toList q.1 q.2 []).bind fun z => tFin P rs (.normal, z.2.1, z.2.2)
      | false => none
    | _ => none
/-- D: closures that do nothing where nothing panics. -/
def tCall (P : Program) (G D : List Nat) (N : Nat) : Nat → TF
  | 0 => fun _ _ _ => none
  | k + 1 => fun f args E => match P.funcs[f]? with
    | some fn => if fn.name = "runtime.NumGoroutine" then none else match fn.body with
      | some c => match Nat.ble args.length fn.ntmps with
        | true => (tInit args 0 .lf).bind fun T => match dshape c with
          | none => (tCode P G (tCall P G D N k) N fn.ntmps c T E).bind (tFin P fn.results.toList)
          | some s => match D.contains s.k with
            | true => tDefer P G (tCall P G D N k) N fn.ntmps fn.results.toList s T E
            | false => none
        | false => none
      | none => none
    | none => none

section
variable {P : Program} {G : List Nat} {g d m N : Nat} {F : List AObj}
structure ER (g d m : Nat) (T : Tr Value) (A : List Value) : Prop where
  len : A.length = m
  get : ∀ t, A[t]?.getD undef = shV g d (tGet T t)
theorem tGet_set {v : Value} {T T' : Tr Value} {j : Nat} (h : Tr.set v 24 T j = some T') (t : Nat) : tGet T' t = if t = j then v else tGet T t := by
  unfold tGet
  rw [Tr.get_set 24 h t]
  by_cases e : t = j
  · rw [if_pos e, if_pos e]
  · rw [if_neg e, if_neg e]
theorem ER.put {T T' : Tr Value} {A : List Value} (h : ER g d m T A) {dst : Option Tmp} {v : Value} (hp : tPut m T dst v = some T') : ER g d m T' (aPut A dst ((shV g d) v)) := by
  unfold tPut at hp
  cases dst with
  | none => cases hp; exact h
  | some j =>
    simp only at hp
    split at hp
    · rename_i hb
      have hj : j < m := Nat.le_of_ble_eq_true hb
      refine ⟨by simp [aPut, h.len], fun t => ?_⟩
      rw [tGet_set hp]
      simp only [aPut]
      rw [List.getElem?_set]
      by_cases e : t = j
      · rw [if_pos e, if_pos e.symm, if_pos (by rw [h.len]; omega)]; rfl
      · rw [if_neg e, if_neg (fun x => e x.symm)]; exact h.get t
    · cases hp
theorem ER.ev {T : Tr Value} {A : List Value} (h : ER g d m T A) (hG : ∀ b ∈ G, b < g) {x : Operand} (hx : okX G x = true) : aEv A x = (shV g d) (tEv T x) := by
  cases x with
  | tmp t => exact h.get t
  | const v => exact (sh_const hx).symm
  | global b =>
    simp only [okX, List.contains_iff_mem] at hx
    simp [aEv, tEv, shA, shB, hG b hx]
  | func f => simp [aEv, tEv]
theorem ER.yield {T : Tr Value} {A : List Value} (h : ER g d m T A) (ops : Array Oper) : aYield ops A = tYield ops T := by
  funext j
  unfold aYield tYield
  cases (ops[j]?).bind (·.dst) with
  | none => rfl
  | some t =>
    simp only [Option.bind_some]
    have hg := h.get t
    unfold tGet at hg
    cases hT : T.get t with
    | none =>
      rw [hT] at hg
      simp only [sh_undef] at hg
      cases hA : A[t]? with
      | none => rfl
      | some v => rw [hA] at hg; simp only [Option.getD_some] at hg; subst hg; rfl
    | some v =>
      rw [hT] at hg
      simp only at hg
      cases hA : A[t]? with
      | none => rw [hA] at hg; simp only [Option.getD_none] at hg; cases v <;> simp [undef] at hg ⊢
      | some w => rw [hA] at hg; simp only [Option.getD_some] at hg; subst hg; cases v <;> simp

structure St (g d m : Nat) (F : List AObj) (x : Tr Value × EH) (y : List Value × AH) : Prop where
  er : ER g d m x.1 y.1
  hr : HR g d F x.2 y.2
theorem step_did {c : TF} {c' : CallF} (hG : ∀ b ∈ G, b < g) (hc : CallDid g d F c c') {ops : Array Oper} {o : Oper} {T : Tr Value} {E : EH} {A : List Value} {H : AH} {r} (hS : St g d m F (T, E) (A, H)) (h : tStep P G c ops m o T E = some r) :
    ∃ r', aStep P G c' ops o A H = some r' ∧ St g d m F r r' := by
  unfold tStep at h
  unfold aStep
  split at h
  · rename_i hok
    rw [if_pos hok]
    have hev : ∀ x, x ∈ o.op.operands.toList → aEv A x = (shV g d) (tEv T x) := fun x hx => hS.er.ev hG (List.all_eq_true.1 hok x hx)
    rw [hS.er.yield]
    split at h
    · rename_i hw
      rw [if_pos hw]
      obtain ⟨⟨v, E1⟩, h1, h⟩ := Option.bind_eq_some_iff.1 h
      obtain ⟨T', h2, e⟩ := Option.map_eq_some_iff.1 h
      cases e
      obtain ⟨H', h3, h4⟩ := op_did hS.hr hc hev v E1 h1
      rw [h3]
      exact ⟨_, rfl, hS.er.put h2, h4⟩
    · rename_i hw
      rw [if_neg (by rw [hw]; simp)]
      obtain ⟨T', h2, e⟩ := Option.map_eq_some_iff.1 h
      cases e
      refine ⟨_, rfl, ?_, hS.hr⟩
      have := hS.er.put h2
      rwa [sh_undef] at this
  · cases h
theorem ops_did {c : TF} {c' : CallF} (hG : ∀ b ∈ G, b < g) (hc : CallDid g d F c c') {ops : Array Oper} : ∀ (l : List Oper) {T : Tr Value} {E : EH} {A : List Value} {H : AH} {hist r}, St g d m F (T, E) (A, H) → tOps P G c ops m l T E hist = some r →
    (∃ r', aOps P G c' ops l A H = some r' ∧ St g d m F r.2 r') ∧ ∃ t, r.1 = hist ++ t ∧ t.length = l.length + 1 ∧ ∀ i, i ≤ l.length → ∃ x y, t[i]? = some x ∧ aOps P G c' ops (l.take i) A H = some y ∧ St g d m F x y := by
  intro l
  induction l with
  | nil =>
    intro T E A H hist r hS h
    simp only [tOps] at h; cases h
    refine ⟨⟨_, rfl, hS⟩, [(T, E)], rfl, rfl, ?_⟩
    intro i hi
    have : i = 0 := by simpa using hi
    subst this
    exact ⟨_, _, rfl, rfl, hS⟩
  | cons o l ih =>
    intro T E A H hist r hS h
    simp only [tOps] at h
    obtain ⟨q, hq, h⟩ := Option.bind_eq_some_iff.1 h
    obtain ⟨⟨A1, H1⟩, h1, hS1⟩ := step_did hG hc hS hq
    obtain ⟨T1, E1⟩ := q
    obtain ⟨⟨r', h2, hS2⟩, t, e, hl, ht⟩ := ih hS1 h
    refine ⟨⟨r', by simp only [aOps, h1, Option.bind_some]; exact h2, hS2⟩, (T, E) :: t, by rw [e]; simp, by simp [hl], ?_⟩
    intro i hi
    cases i with
    | zero => exact ⟨_, _, rfl, rfl, hS⟩
    | succ i =>
      obtain ⟨x, y, hx, hy, hxy⟩ := ht i (by simpa using hi)
      exact ⟨x, y, by simpa using hx, by simp only [List.take_succ_cons, aOps, h1, Option.bind_some]; exact hy, hxy⟩
theorem region_did {c : TF} {c' : CallF} (hG : ∀ b ∈ G, b < g) (hc : CallDid g d F c c') {ops : Array Oper} {draw : Bool} {T : Tr Value} {E : EH} {A : List Value} {H : AH} {r} (hS : St g d m F (T, E) (A, H)) (h : tRegion P G c ops m draw T E = some r) :
    ∃ r', aRegion P G c' ops draw A H = some r' ∧ St g d m F r r' := by
  cases draw with
  | false =>
    simp only [tRegion, aRegion] at h ⊢
    obtain ⟨q, hq, e⟩ := Option.map_eq_some_iff.1 h
    subst e
    exact (ops_did hG hc _ hS hq).1
  | true =>
    simp only [tRegion, aRegion] at h ⊢
    split at h
    · rename_i hreg
      obtain ⟨q, hq, h⟩ := Option.bind_eq_some_iff.1 h
      split at h
      · rename_i hall
        cases h
        obtain ⟨⟨r', h1, h2⟩, t, e, hl, ht⟩ := ops_did hG hc _ hS hq
        refine ⟨r', ?_, h2⟩
        unfold aDraw
        rw [hreg]
        simp only
        cases hp : lookPairs ops.toList with
        | nil => exact h1
        | cons p ps =>
          simp only
          rw [chk_true ?_]
          · exact h1
          · rw [← hp]
            intro p hpm o ho
            have hx := List.all_eq_true.1 hall p hpm
            unfold tLook at hx
            rw [ho] at hx
            simp only [List.nil_append] at e
            have st : ∀ i x, q.1[i]? = some x → St g d m F x (stA P G c' ops A H i) := by
              intro i x hs
              have hi : i < t.length := by rw [e] at hs; exact (List.getElem?_eq_some_iff.1 hs).1
              obtain ⟨x', y, hx', hy, hxy⟩ := ht i (by omega)
              rw [e, hx'] at hs
              cases hs
              unfold stA
              rw [hy]
              exact hxy
            split at hx
            · rename_i o' x1 x2 ho' hs hs'
              cases ho'
              simp only [Bool.and_eq_true] at hx
              have hev : ∀ x, x ∈ o.op.operands.toList → aEv (stA P G c' ops A H p.1).1 x = (shV g d) (tEv x1.1 x) := fun x hxm => (st _ _ hs).er.ev hG (List.all_eq_true.1 hx.1 x hxm)
              rw [rd_sh (st _ _ hs').hr hev, rd_sh (st _ _ hs).hr hev, eqO_sound hx.2]
            · cases hx
      · cases h
    · cases h
structure Ar (g d m : Nat) (F : List AObj) (x : TR) (y : AR) : Prop where
  e : x.1 = y.1
  st : St g d m F x.2 y.2
theorem code_did {c : TF} {c' : CallF} (hG : ∀ b ∈ G, b < g) (hc : CallDid g d F c c') : ∀ (k : Code) {T : Tr Value} {E : EH} {A : List Value} {H : AH} {r : TR}, St g d m F (T, E) (A, H) → tCode P G c N m k T E = some r →
    ∃ r', aCode P G c' k A H = some r' ∧ Ar g d m F r r' := by
  intro k
  induction k with
  | region id ops draw =>
    intro T E A H r hS hr
    simp only [tCode, aCode] at hr ⊢
    obtain ⟨q, hq, e⟩ := Option.map_eq_some_iff.1 hr
    obtain ⟨r', h1, h2⟩ := region_did hG hc hS hq
    subst e
    rw [h1]
    exact ⟨_, rfl, rfl, h2⟩
  | seq x y ihx ihy =>
    intro T E A H r hS hr
    simp only [tCode, aCode] at hr ⊢
    obtain ⟨⟨e, T1, E1⟩, hx, hr⟩ := Option.bind_eq_some_iff.1 hr
    obtain ⟨⟨e', A1, H1⟩, h1, h2⟩ := ihx hS hx
    have he : e = e' := h2.e
    subst he
    rw [h1]
    simp only [Option.bind_some]
    cases e with
    | normal => exact ihy h2.st hr
    | exit i => cases hr; exact ⟨_, rfl, h2⟩
    | ret => cases hr; exact ⟨_, rfl, h2⟩
  | cond b x y ihx ihy =>
    intro T E A H r hS hr
    simp only [tCode, aCode] at hr ⊢
    split at hr
    · rename_i hok
      rw [hS.er.ev hG hok]
      split at hr
      · rename_i e; rw [e]; simp only [sh_bool]; exact ihx hS hr
      · rename_i e; rw [e]; simp only [sh_bool]; exact ihy hS hr
      · cases hr
    · cases hr
  | block id x ih =>
    intro T E A H r hS hr
    simp only [tCode, aCode] at hr ⊢
    obtain ⟨⟨e, T1, E1⟩, hx, hr⟩ := Option.map_eq_some_iff.1 hr
    obtain ⟨⟨e', A1, H1⟩, h1, h2⟩ := ih hS hx
    have he : e = e' := h2.e
    subst he
    rw [h1]
    subst hr
    cases e with
    | normal => exact ⟨_, rfl, h2⟩
    | exit i =>
      simp only [Option.map_some]
      by_cases hi : i = id
      · rw [if_pos hi, if_pos hi]; exact ⟨_, rfl, rfl, h2.st⟩
      · rw [if_neg hi, if_neg hi]; exact ⟨_, rfl, h2⟩
    | ret => exact ⟨_, rfl, h2⟩
  | loop x ih =>
    intro T E A H r hS hr
    simp only [tCode, aCode] at hr ⊢
    suffices key : ∀ n T E A H, St g d m F (T, E) (A, H) → tIter (tCode P G c N m x) n T E = some r → ∃ r', aIter (aCode P G c' x) n A H = some r' ∧ Ar g d m F r r' from by
      obtain ⟨r', h1, h2⟩ := key N T E A H hS hr
      exact ⟨r', aLoop_iff.2 ⟨N, h1⟩, h2⟩
    clear hr hS
    intro n
    induction n with
    | zero => intro T E A H hS hr; cases hr
    | succ n ihn =>
      intro T E A H hS hr
      simp only [tIter, aIter] at hr ⊢
      obtain ⟨⟨e, T1, E1⟩, hx, hr⟩ := Option.bind_eq_some_iff.1 hr
      obtain ⟨⟨e', A1, H1⟩, h1, h2⟩ := ih hS hx
      have he : e = e' := h2.e
      subst he
      rw [h1]
      simp only [Option.bind_some]
      cases e with
      | normal => exact ihn _ _ _ _ h2.st hr
      | exit i => cases hr; exact ⟨_, rfl, h2⟩
      | ret => cases hr; exact ⟨_, rfl, h2⟩
  | skip => intro T E A H r hS hr; simp only [tCode] at hr; cases hr; exact ⟨_, rfl, rfl, hS⟩
  | label l => intro T E A H r hS hr; simp only [tCode] at hr; cases hr; exact ⟨_, rfl, rfl, hS⟩
  | exit i => intro T E A H r hS hr; simp only [tCode] at hr; cases hr; exact ⟨_, rfl, rfl, hS⟩
  | ret => intro T E A H r hS hr; simp only [tCode] at hr; cases hr; exact ⟨_, rfl, rfl, hS⟩
  | _ => intro T E A H r hS hr; cases hr
theorem result_did {T : Tr Value} {E : EH} {A : List Value} {H : AH} (hS : St g d m F (T, E) (A, H)) (r : ResultVar) : aResult P A H r = (tResult P T E r).map (shV g d) := by
  cases r with
  | tmp t => simp only [aResult, tResult, Option.map_some]; rw [hS.er.get t]
  | cell a t =>
    simp only [aResult, tResult]
    rw [hS.er.get a]
    cases aggOf P t with
    | none => rfl
    | some n => cases n with
      | none => exact hS.hr.ld1 _
      | some n => exact hS.hr.ldN _ _
theorem many_did {T : Tr Value} {E : EH} {A : List Value} {H : AH} (hS : St g d m F (T, E) (A, H)) : ∀ rs : List ResultVar, aMany P A H rs = (tMany P T E rs).map (shL g d) := by
  intro rs
  induction rs with
  | nil => rfl
  | cons r rs ih =>
    simp only [aMany, tMany]
    rw [result_did hS, ih]
    cases tResult P T E r with
    | none => rfl
    | some v => cases tMany P T E rs <;> rfl
theorem fin_did {rs : List ResultVar} {x : TR} {y : AR} (h : Ar g d m F x y) : Did g d F (tFin P rs x) (aFin P rs y) := by
  intro v E' hx
  obtain ⟨e, T, E⟩ := x
  obtain ⟨e', A, H⟩ := y
  have he : e = e' := h.e
  subst he
  have hS := h.st
  have hm := many_did (P := P) hS rs
  have key : ∀ vs, tMany P T E rs = some vs → aResults P A H rs = some ((shV g d) (match vs with | [v] => v | vs => .tuple vs.toArray)) := by
    intro vs hvs
    unfold aResults
    rw [hm, hvs]
    simp only [Option.map_some]
    congr 1
    match vs with
    | [] => simp [shL]
    | [v] => rfl
    | v :: w :: vs => simp [shL]
  cases e with
  | exit i => cases hx
  | normal =>
    simp only [tFin, aFin] at hx ⊢
    obtain ⟨vs, hvs, e⟩ := Option.map_eq_some_iff.1 hx
    cases e
    rw [key vs hvs]
    exact ⟨H, rfl, hS.hr⟩
  | ret =>
    simp only [tFin, aFin] at hx ⊢
    obtain ⟨vs, hvs, e⟩ := Option.map_eq_some_iff.1 hx
    cases e
    rw [key vs hvs]
    exact ⟨H, rfl, hS.hr⟩
theorem init_get : ∀ (vs : List Value) (i : Nat) (T : Tr Value) {T' : Tr Value}, tInit vs i T = some T' → ∀ t, tGet T' t = if i ≤ t ∧ t < i + vs.length then (vs[t - i]?).getD undef else tGet T t := by
  intro vs
  induction vs with
  | nil => intro i T T' h t; simp only [tInit] at h; cases h; rw [if_neg (by simp only [List.length_nil]; omega)]
  | cons v vs ih =>
    intro i T T' h t
    simp only [tInit] at h
    obtain ⟨T1, h1, h⟩ := Option.bind_eq_some_iff.1 h
    rw [ih _ _ h t, tGet_set h1]
    by_cases e1 : i + 1 ≤ t ∧ t < i + 1 + vs.length
    · rw [if_pos e1, if_pos (by simp; omega)]
      rw [show t - i = (t - (i + 1)) + 1 from by omega, List.getElem?_cons_succ]
    · rw [if_neg e1]
      by_cases e2 : t = i
      · subst e2; rw [if_pos rfl, if_pos (by simp)]; simp
      · rw [if_neg e2, if_neg (by simp; omega)]
theorem call_did {D : List Nat} (hG : ∀ b ∈ G, b < g) (hD : ∀ k ∈ D, Harmless P k) : ∀ k, CallDid g d F (tCall P G D N k) (aCall P G k) := by
  intro k
  induction k with
  | zero => intro E H f args hR v E' h; cases h
  | succ k ih =>
    intro E H f args hR v E' h
    rw [tCall] at h
    rw [aCall]
    simp only [] at h ⊢
    cases hf : P.funcs[f]? with
    | none => rw [hf] at h; cases h
    | some fn =>
      rw [hf] at h
      simp only at h ⊢
      split at h
      · cases h
      · rename_i hn
        rw [if_neg hn]
        cases hb : fn.body with
        | none => rw [hb] at h; cases h
        | some c =>
          rw [hb] at h
          simp only at h ⊢
          split at h
          · rename_i hle
            have hle := Nat.le_of_ble_eq_true hle
            obtain ⟨T, hT, h⟩ := Option.bind_eq_some_iff.1 h
            have hS : St g d fn.ntmps F (T, E) (shL g d args ++ List.replicate (fn.ntmps - (shL g d args).length) undef, H) := by
              refine ⟨⟨by simp; omega, fun t => ?_⟩, hR⟩
              rw [init_get _ _ _ hT]
              simp only [shL, List.getElem?_append, List.length_map, List.getElem?_map, List.getElem?_replicate]
              by_cases e : t < args.length
              · rw [if_pos (show 0 ≤ t ∧ t < 0 + args.length from by omega), if_pos e]
                simp [List.getElem?_eq_getElem e]
              · rw [if_neg (show ¬ (0 ≤ t ∧ t < 0 + args.length) from by omega), if_neg e]
                have : tGet .lf t = undef := rfl
                rw [this, sh_undef]
                split <;> rfl
            cases hd : dshape c with
            | none =>
              rw [hd] at h
              obtain ⟨r, hr, h⟩ := Option.bind_eq_some_iff.1 h
              obtain ⟨r', h1, h2⟩ := code_did hG ih c hS hr
              simp only
              unfold aBody
              rw [h1]
              exact fin_did h2 v E' h
            | some q =>
              rw [hd] at h
              simp only at h ⊢
              split at h
              · rename_i hin
                rw [chk_true (hD _ (by simpa using hin))]
                unfold tDefer at h
                unfold aDefer
                obtain ⟨⟨e1, T1, E1⟩, hr, h⟩ := Option.bind_eq_some_iff.1 h
                obtain ⟨⟨e2, A1, H1⟩, h1, h2⟩ := code_did hG ih q.c1 hS hr
                have he : e1 = e2 := h2.e
                subst he
                rw [h1]
                simp only [Option.bind_some]
                cases e1 with
                | exit i => cases h
                | ret => cases h
                | normal =>
                  simp only at h ⊢
                  split at h
                  · rename_i hlt
                    have hlt : q.t < fn.ntmps := Nat.le_of_ble_eq_true hlt
                    have hlen : A1.length = fn.ntmps := h2.st.er.len
                    rw [if_neg (by omega)]
                    obtain ⟨⟨T2, E2⟩, h3, h⟩ := Option.bind_eq_some_iff.1 h
                    obtain ⟨⟨A2, H2⟩, h4, h5⟩ := step_did hG ih h2.st h3
                    obtain ⟨z, h6, h⟩ := Option.bind_eq_some_iff.1 h
                    obtain ⟨⟨⟨A3, H3⟩, h7, h8⟩, _⟩ := ops_did hG ih _ h5 h6
                    rw [h4]
                    simp only [Option.bind_some]
                    rw [h7]
                    exact fin_did (x := (.normal, z.2.1, z.2.2)) (y := (.normal, A3, H3)) ⟨rfl, h8⟩ v E' h
                  · cases h
              · cases h
          · cases h

/-! ### A closed call -/
/-- The tree of a heap. -/
def treeOf : List AObj → Nat → Tr AObj → Option (Tr AObj)
  | [], _, t => some t
  | o :: os, i, t => (Tr.set o 24 t i).bind fun t' => treeOf os (i + 1) t'
end
end Go.Proofs.YtbjelopcelompaaGreatDoor.Gst
