/- Kinds of operations; which of them wait for which; the trace of a region. -/
import Derived.Test.YtbjelopcelompaaGreatDoorGm
namespace Go.Proofs.YtbjelopcelompaaGreatDoor.Gst
open Go Go.RowKit
set_option linter.unusedSimpArgs false

/-- 0: it touches no memory · 1: a new block · 2: it reads · 3: all else. -/
def opK : Op → Nat
  | .move _ | .assign _ | .pick .. | .build .. | .nilCheck _ | .binOp .. | .unOp .. | .convert .. | .makeFunc .. | .slice .. | .fieldAddr .. | .field .. | .indexAddr .. | .index .. | .extract .. => 0
  | .alloc _ | .box .. | .buildSlice .. | .makeMap .. | .makeSlice .. => 1
  | .load .. | .lookup .. => 2
  | .call c => match c.callee with
    | .builtin .max | .builtin .min => 0
    | .builtin .len => 2
    | _ => 3
  | _ => 3

/-- What a reading operation reads. -/
def aRd (P : Program) (ev : Operand → Value) (op : Op) (H : AH) : Option Value :=
  match op with
  | .load t a => (aggOf P t).bind fun g => match g with
    | some n => pLdN n (ev a) H
    | none => pLd1 (ev a) H
  | .lookup t m k ok => (mapTypes P t).bind fun kt => (flatKey P kt.1).bind fun fl => (zeroOf P kt.2).bind fun z => pLookup fl z (ev m) (ev k) ok H
  | .call c => match c.args.toList.map ev with
    | [x] => match (c.argTypes[0]?).bind fun t => P.underlying t with
      | some (.slice _) => match x with | .slice _ _ _ => pLen x | _ => none
      | some .string => match x with | .string _ => pLen x | _ => none
      | some (.map _ _) => pLenM x H
      | _ => none
    | _ => none
  | _ => none

/-- The block that it reads. -/
def rdBlk (ev : Operand → Value) (op : Op) : Option Nat :=
  match op with
  | .load _ a => (pAt (ev a)).map (·.1)
  | .lookup _ m _ _ => match ev m with | .map r => r | _ => none
  | .call c => match c.args.toList.map ev with
    | [.map r] => r
    | _ => none
  | _ => none

section
variable {P : Program} {w0 : World} {B : Nat} {ρ : Ren} {H : AH} {w : World} {G : List Nat} {call : CallF}

theorem aOp_rd {ev : Operand → Value} {o : Oper} (hk : opK o.op = 2) (H : AH) : aOp P call ev o H = (aRd P ev o.op H).map (·, H) := by
  obtain ⟨dst, op, type, pos, after, guard⟩ := o
  simp only at hk ⊢
  cases op <;> simp [opK] at hk
  case load t a =>
    simp only [aOp, aRd]
    cases aggOf P t with
    | none => rfl
    | some g => cases g <;> rfl
  case lookup t m k ok =>
    simp only [aOp, aRd]
    cases mapTypes P t with
    | none => rfl
    | some kt =>
      simp only [Option.bind_some]
      cases flatKey P kt.1 with
      | none => rfl
      | some fl =>
        simp only [Option.bind_some]
        cases zeroOf P kt.2 with
        | none => rfl
        | some z => rfl
  case call c =>
    obtain ⟨callee, args, ats⟩ := c
    cases callee <;> simp at hk
    rename_i b
    cases b <;> simp at hk
    simp only [aOp, aRd]
    generalize args.toList.map ev = xs
    unfold aBuiltin
    match xs with
    | [] => rfl
    | [x] =>
      simp only
      cases hb : (ats[0]?).bind fun t => P.underlying t with
      | none => rfl
      | some d => cases d <;> simp only <;> first | rfl | (cases x <;> rfl)
    | x :: y :: zs => rfl

theorem rd_same {ev : Operand → Value} {op : Op} {H1 H2 : AH} (h : ∀ b, rdBlk ev op = some b → H2.get b = H1.get b) : aRd P ev op H2 = aRd P ev op H1 := by
  cases op <;> simp only [aRd]
  case load t a =>
    have e : ∀ b o, pAt (ev a) = some (b, o) → pCells H2 b = pCells H1 b := by
      intro b o hb
      unfold pCells
      rw [h b (by simp [rdBlk, hb])]
    have e1 : pLd1 (ev a) H2 = pLd1 (ev a) H1 := by
      unfold pLd1
      cases hp : pAt (ev a) with
      | none => rfl
      | some x => simp only [Option.bind_some]; rw [e x.1 x.2 hp]
    have e2 : ∀ n, pLdN n (ev a) H2 = pLdN n (ev a) H1 := by
      intro n
      unfold pLdN
      cases hp : pAt (ev a) with
      | none => rfl
      | some x => simp only [Option.bind_some]; rw [e x.1 x.2 hp]
    simp only [e1, e2]
  case lookup t m k ok =>
    have e : pMapOf (ev m) H2 = pMapOf (ev m) H1 := by
      unfold pMapOf
      cases hm : ev m with
      | map r =>
        cases r with
        | none => rfl
        | some b => simp only; rw [h b (by simp [rdBlk, hm])]
      | _ => rfl
    simp only [pLookup, e]
  case call c =>
    have hb : ∀ b, c.args.toList.map ev = [.map (some b)] → H2.get b = H1.get b := fun b hx => h b (by simp only [rdBlk]; rw [hx])
    generalize c.args.toList.map ev = xs at hb
    match xs with
    | [] => rfl
    | [x] =>
      simp only
      have e : pLenM x H2 = pLenM x H1 := by
        unfold pLenM
        cases x with
        | map r =>
          cases r with
          | none => rfl
          | some b => simp only; rw [hb b rfl]
        | _ => rfl
      rw [e]
    | x :: y :: zs => rfl

theorem rd_blk_lt {ev : Operand → Value} {op : Op} {v : Value} (h : aRd P ev op H = some v) {b : Nat} (hb : rdBlk ev op = some b) : b < H.size := by
  cases op <;> simp only [aRd, rdBlk] at h hb <;> try (cases hb; done)
  case load t a =>
    obtain ⟨⟨b', o⟩, hp, e⟩ := Option.map_eq_some_iff.1 hb
    simp only at e
    subst e
    obtain ⟨g, _, h⟩ := Option.bind_eq_some_iff.1 h
    cases g with
    | none =>
      simp only [pLd1, hp, Option.bind_some] at h
      obtain ⟨cs, hc, _⟩ := Option.bind_eq_some_iff.1 h
      obtain ⟨ro, hg⟩ := pCells_some hc
      exact AH.lt_of_get hg
    | some n =>
      simp only [pLdN, hp, Option.bind_some] at h
      obtain ⟨cs, hc, _⟩ := Option.bind_eq_some_iff.1 h
      obtain ⟨ro, hg⟩ := pCells_some hc
      exact AH.lt_of_get hg
  case lookup t m k ok =>
    cases hm : ev m <;> rw [hm] at hb <;> try (cases hb; done)
    simp only at hb
    subst hb
    obtain ⟨kt, _, h⟩ := Option.bind_eq_some_iff.1 h
    obtain ⟨fl, _, h⟩ := Option.bind_eq_some_iff.1 h
    obtain ⟨z, _, h⟩ := Option.bind_eq_some_iff.1 h
    unfold pLookup at h
    split at h
    · obtain ⟨es, hes, _⟩ := Option.bind_eq_some_iff.1 h
      rw [hm] at hes
      simp only [pMapOf] at hes
      split at hes
      · rename_i hg; exact AH.lt_of_get hg
      · cases hes
    · cases h
  case call c =>
    generalize c.args.toList.map ev = xs at h hb
    match xs, h, hb with
    | [x], h, hb =>
      cases x <;> simp only at hb <;> try (cases hb; done)
      subst hb
      simp only at h
      cases hd : (c.argTypes[0]?).bind fun t => P.underlying t with
      | none => simp [hd] at h
      | some d =>
        cases d <;> simp only [hd] at h <;> try (cases h; done)
        simp only [pLenM] at h
        split at h
        · rename_i hg; exact AH.lt_of_get hg
        · cases h
    | [], h, hb => cases h
    | x :: y :: zs, h, hb => cases h

theorem rd_mapped {ev ev' : Operand → Value} {op : Op} (hx : ∀ x ∈ op.operands.toList, VRel P ρ (ev x) (ev' x)) {b : Nat} (hb : rdBlk ev op = some b) : ρ b ≠ none := by
  cases op <;> simp only [rdBlk] at hb <;> try (cases hb; done)
  case load t a =>
    obtain ⟨⟨b', o⟩, hp, e⟩ := Option.map_eq_some_iff.1 hb
    simp only at e
    subst e
    have hv := hx a (by simp [Op.operands])
    rw [pAt_some hp] at hv
    obtain ⟨c, d, sz, h, _⟩ := hv.ptr_inv
    rw [h]; simp
  case lookup t m k ok =>
    have hv := hx m (by simp [Op.operands])
    cases hm : ev m <;> rw [hm] at hb <;> try (cases hb; done)
    simp only at hb
    subst hb
    rw [hm] at hv
    obtain ⟨c, d, sz, h, _⟩ := hv.map_inv
    rw [h]; simp
  case call c =>
    have hv : LRel P ρ (c.args.toList.map ev) (c.args.map ev').toList := map_rel (fun x hxx => hx x (by simp only [Op.operands, Call.operands, Array.toList_append, List.mem_append]; exact .inr hxx))
    generalize c.args.toList.map ev = xs at hb hv
    match xs, hb, hv with
    | [x], hb, hv =>
      cases x <;> simp only at hb <;> try (cases hb; done)
      subst hb
      obtain ⟨x', _, hx'⟩ := one_rel hv rfl
      obtain ⟨c, d, sz, h, _⟩ := hx'.map_inv
      rw [h]; simp
    | [], hb, hv => cases hb
    | x :: y :: zs, hb, hv => cases x <;> cases hb

/-- An operation that touches no memory. -/
theorem aOp_pure {ev : Operand → Value} {o : Oper} (hk : opK o.op = 0) {v : Value} {H' : AH} (h : aOp P call ev o H = some (v, H')) : H' = H ∧ ∀ H2, aOp P call ev o H2 = some (v, H2) := by
  have key : ∀ {x : Option Value} {H H' : AH} {v : Value}, x.map (·, H) = some (v, H') → H' = H ∧ x = some v := by
    intro x H H' v hx
    obtain ⟨y, hy, e⟩ := Option.map_eq_some_iff.1 hx
    cases e
    exact ⟨rfl, hy⟩
  obtain ⟨dst, op, type, pos, after, guard⟩ := o
  simp only at hk
  cases op <;> simp [opK] at hk <;> simp only [aOp] at h ⊢
  case move x => cases h; exact ⟨rfl, fun _ => rfl⟩
  case assign x => cases h; exact ⟨rfl, fun _ => rfl⟩
  case pick => obtain ⟨e, hx⟩ := key h; exact ⟨e, fun _ => by rw [hx]; rfl⟩
  case nilCheck => obtain ⟨e, hx⟩ := key h; exact ⟨e, fun _ => by rw [hx]; rfl⟩
  case binOp => obtain ⟨e, hx⟩ := key h; exact ⟨e, fun _ => by rw [hx]; rfl⟩
  case unOp => obtain ⟨e, hx⟩ := key h; exact ⟨e, fun _ => by rw [hx]; rfl⟩
  case extract => obtain ⟨e, hx⟩ := key h; exact ⟨e, fun _ => by rw [hx]; rfl⟩
  case makeFunc => cases h; exact ⟨rfl, fun _ => rfl⟩
  case convert src dst x =>
    cases hu : P.underlying src with
    | none => simp [hu] at h
    | some d => simp only [hu] at h; obtain ⟨e, hx⟩ := key h; exact ⟨e, fun _ => by simp [hx]⟩
  case build t parts =>
    cases hu : P.underlying t with
    | none => simp [hu] at h
    | some d =>
      cases d <;> simp only [hu] at h ⊢ <;> try (cases h; done)
      · obtain ⟨z, hz, h⟩ := Option.bind_eq_some_iff.1 h
        obtain ⟨e, he, h⟩ := Option.bind_eq_some_iff.1 h
        obtain ⟨y, hy, e2⟩ := Option.map_eq_some_iff.1 h
        cases e2
        exact ⟨rfl, fun _ => by simp [hz, he, hy]⟩
      · obtain ⟨z, hz, h⟩ := Option.bind_eq_some_iff.1 h
        obtain ⟨e, he, h⟩ := Option.bind_eq_some_iff.1 h
        obtain ⟨y, hy, e2⟩ := Option.map_eq_some_iff.1 h
        cases e2
        exact ⟨rfl, fun _ => by simp [hz, he, hy]⟩
  case slice t x lo hi mx =>
    cases mx with
    | none =>
      simp only at h ⊢
      obtain ⟨z, hz, h⟩ := Option.bind_eq_some_iff.1 h
      obtain ⟨e, he, h⟩ := Option.bind_eq_some_iff.1 h
      obtain ⟨e2, hx⟩ := key h
      exact ⟨e2, fun _ => by simp [hz, he, hx]⟩
    | some m =>
      cases lo with
      | some l => cases hi <;> simp at h
      | none =>
        cases hi with
        | none => simp at h
        | some hi =>
          simp only at h ⊢
          obtain ⟨z, hz, h⟩ := Option.bind_eq_some_iff.1 h
          obtain ⟨e, he, h⟩ := Option.bind_eq_some_iff.1 h
          obtain ⟨e2, hx⟩ := key h
          exact ⟨e2, fun _ => by simp [hz, he, hx]⟩
  case fieldAddr s x f =>
    obtain ⟨z, hz, h⟩ := Option.bind_eq_some_iff.1 h
    obtain ⟨n, hn, h⟩ := Option.bind_eq_some_iff.1 h
    split at h
    · cases h
    · rename_i h0
      obtain ⟨e2, hx⟩ := key h
      exact ⟨e2, fun _ => by simp [hz, hn, h0, hx]⟩
  case field s x f =>
    obtain ⟨z, hz, h⟩ := Option.bind_eq_some_iff.1 h
    obtain ⟨n, hn, h⟩ := Option.bind_eq_some_iff.1 h
    obtain ⟨e2, hx⟩ := key h
    exact ⟨e2, fun _ => by simp [hz, hn, hx]⟩
  case indexAddr t x i =>
    cases hu : P.underlying t with
    | none => simp [hu] at h
    | some d =>
      cases d <;> simp only [hu] at h ⊢ <;> try (cases h; done)
      · obtain ⟨n, hn, h⟩ := Option.bind_eq_some_iff.1 h
        obtain ⟨e2, hx⟩ := key h
        exact ⟨e2, fun _ => by simp [hn, hx]⟩
      · obtain ⟨n, hn, h⟩ := Option.bind_eq_some_iff.1 h
        obtain ⟨e2, hx⟩ := key h
        exact ⟨e2, fun _ => by simp [hn, hx]⟩
  case index t x i =>
    cases hu : P.underlying t with
    | none => simp [hu] at h
    | some d =>
      cases d <;> simp only [hu] at h ⊢ <;> try (cases h; done)
      · obtain ⟨e2, hx⟩ := key h
        exact ⟨e2, fun _ => by simp [hx]⟩
      · obtain ⟨n, hn, h⟩ := Option.bind_eq_some_iff.1 h
        obtain ⟨m, hm, h⟩ := Option.bind_eq_some_iff.1 h
        obtain ⟨e2, hx⟩ := key h
        exact ⟨e2, fun _ => by simp [hn, hm, hx]⟩
  case call c =>
    obtain ⟨callee, args, ats⟩ := c
    cases callee <;> simp at hk
    rename_i b
    cases b <;> simp at hk
    · simp only at h ⊢
      generalize args.toList.map ev = xs at h ⊢
      unfold aBuiltin at h ⊢
      obtain ⟨e, hx⟩ := key h
      exact ⟨e, fun _ => by simp [hx]⟩
    · simp only at h ⊢
      generalize args.toList.map ev = xs at h ⊢
      unfold aBuiltin at h ⊢
      obtain ⟨e, hx⟩ := key h
      exact ⟨e, fun _ => by simp [hx]⟩
end
end Go.Proofs.YtbjelopcelompaaGreatDoor.Gst
