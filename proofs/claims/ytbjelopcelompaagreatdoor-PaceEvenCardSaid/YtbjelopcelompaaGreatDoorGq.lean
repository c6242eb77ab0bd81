/- Operations that only look; what an operation comes to, without the slots; values whose blocks are old ones. -/
import Derived.Test.YtbjelopcelompaaGreatDoorGp
namespace Go.Proofs.YtbjelopcelompaaGreatDoor.Gst
open Go Go.RowKit
set_option linter.unusedSimpArgs false
section
variable {P : Program} {w0 : World} {B : Nat} {ρ : Ren} {H : AH} {w : World} {G : List Nat} {call : CallF}

def POut (P : Program) (ρ : Ren) (w : World) (r : Result Next) (v : Value) : Prop := ∃ v', r = .ok (.value v') w ∧ VRel P ρ v v'
theorem POut.mk {r : Result Next} {v v' : Value} (hr : r = .ok (.value v') w) (hv : VRel P ρ v v') : POut P ρ w r v := ⟨v', hr, hv⟩

theorem builtin_pure (hR : Rel P w0 B ρ H w) {b : Builtin} {ts : Array TypeId} {t : TypeId} {cs : Array Bool} {xs : List Value} {ys : Array Value} (hl : LRel P ρ xs ys.toList) (hb : b = .len ∨ b = .max ∨ b = .min) {v : Value} {H' : AH} (h : aBuiltin P b ts xs H = some (v, H')) :
    POut P ρ w ((builtin b ts t cs ys).run P w) v := by
  unfold aBuiltin at h
  split at h
  · -- len
    rename_i x
    obtain ⟨x', rfl, hx⟩ := one_rel hl rfl
    cases hts : ts[0]? with
    | none => simp [hts] at h
    | some t0 =>
      simp only [hts, Option.bind_some] at h
      cases hu : P.underlying t0 with
      | none => simp [hu] at h
      | some d =>
        cases d <;> simp only [hu] at h <;> try (cases h; done)
        case string =>
          cases x <;> simp only at h <;> try (cases h; done)
          obtain ⟨y, hy, e⟩ := Option.map_eq_some_iff.1 h
          cases e
          simp [pLen] at hy
          subst hy
          rw [hx.string_inv]
          exact POut.mk (by simp [builtin, Builtin.len_, hts, run_underlying hu, goInt]) (.lit rfl)
        case slice el =>
          cases x <;> simp only at h <;> try (cases h; done)
          obtain ⟨y, hy, e⟩ := Option.map_eq_some_iff.1 h
          cases e
          simp [pLen] at hy
          subst hy
          obtain ⟨a', k', rfl, _⟩ := hx.anyslice_inv
          exact POut.mk (by simp [builtin, Builtin.len_, hts, run_underlying hu, goInt]) (.lit rfl)
        case map k el =>
          obtain ⟨y, hy, e⟩ := Option.map_eq_some_iff.1 h
          cases e
          cases x <;> simp only [pLenM] at hy <;> try (cases hy; done)
          rename_i r
          cases r with
          | none =>
            simp only at hy
            cases hy
            rw [hx.nilmap_inv]
            exact POut.mk (by simp [builtin, Builtin.len_, hts, run_underlying hu, goInt]) (.lit rfl)
          | some b =>
            simp only at hy
            split at hy
            · rename_i es c hg
              cases hy
              obtain ⟨c', d, sz, hb, rfl⟩ := hx.map_inv
              obtain ⟨es', hw, hrel⟩ := hR.map hb hg
              have hsz : es'.size = es.length := by simpa using hrel.1
              exact POut.mk (by simp [builtin, Builtin.len_, hts, run_underlying hu, run_getObj_map hw, goInt, hsz]) (.lit rfl)
            · cases hy
  · obtain ⟨y, hy, e⟩ := Option.map_eq_some_iff.1 h
    cases e
    obtain ⟨hr, hv⟩ := max_out (w := w) hl hy ts t
    exact POut.mk (by simp only [builtin]; exact val_run hr) (.lit hv)
  · obtain ⟨y, hy, e⟩ := Option.map_eq_some_iff.1 h
    cases e
    obtain ⟨hr, hv⟩ := min_out (w := w) hl hy ts t
    exact POut.mk (by simp only [builtin]; exact val_run hr) (.lit hv)
  · rcases hb with hb | hb | hb <;> cases hb
  · rcases hb with hb | hb | hb <;> cases hb
  · cases h

theorem pure_out {call : CallF} {A : List Value} {a : Act} (hA : ActRel P ρ A a) (hG : GlobRel ρ G) (hR : Rel P w0 B ρ H w) {o : Oper} (hok : o.op.operands.toList.all (okX G) = true)
    (hk : opK o.op = 0 ∨ opK o.op = 2) {v : Value} {H' : AH} (h : aOp P call (aEv A) o H = some (v, H')) : POut P ρ w ((execOp a.eval o).run P w) v := by
  obtain ⟨dst, op, type, pos, after, guard⟩ := o
  simp only at hok hk
  have ev : ∀ x, x ∈ op.operands.toList → VRel P ρ (aEv A x) (a.eval x) := fun x hx => ev_rel hA hG (List.all_eq_true.1 hok x hx)
  cases op <;> try (simp [opK] at hk; done)
  all_goals simp only [aOp] at h
  all_goals simp only [execOp]
  case move x => cases h; exact POut.mk rfl (ev x (by simp [Op.operands]))
  case assign x => cases h; exact POut.mk rfl (ev x (by simp [Op.operands]))
  case pick c x y =>
    obtain ⟨z, hz, e⟩ := Option.map_eq_some_iff.1 h
    cases e
    have hc := ev c (by simp [Op.operands])
    cases hcv : aEv A c <;> rw [hcv] at hz <;> simp only [pPick] at hz <;> try (cases hz; done)
    rename_i t
    cases hz
    rw [hcv] at hc
    rw [hc.bool_inv]
    cases t
    · exact POut.mk (by simp [asBool]) (ev y (by simp [Op.operands]))
    · exact POut.mk (by simp [asBool]) (ev x (by simp [Op.operands]))
  case build t parts =>
    have hx : ∀ x ∈ parts.toList.map (·.2), VRel P ρ (aEv A x) (a.eval x) := fun x hx => ev x (by simpa [Op.operands] using hx)
    cases hu : P.underlying t with
    | none => simp [hu] at h
    | some d =>
      cases d <;> simp only [hu] at h <;> try (cases h; done)
      case struct fs =>
        obtain ⟨z, hz, h⟩ := Option.bind_eq_some_iff.1 h
        obtain ⟨ps, hps, h⟩ := Option.bind_eq_some_iff.1 h
        obtain ⟨cs, hcs, e⟩ := Option.map_eq_some_iff.1 h
        cases e
        obtain ⟨v', hr, hv⟩ := build_out (w := w) hx hz hu hps hcs
        exact POut.mk (val_run hr) hv
      case array n el =>
        obtain ⟨z, hz, h⟩ := Option.bind_eq_some_iff.1 h
        obtain ⟨e, he, h⟩ := Option.bind_eq_some_iff.1 h
        obtain ⟨cs, hcs, e⟩ := Option.map_eq_some_iff.1 h
        cases e
        obtain ⟨v', hr, hv⟩ := buildArr_out (w := w) hx hz hu he hcs
        exact POut.mk (val_run hr) hv
  case load t x =>
    have hx := ev x (by simp [Op.operands])
    obtain ⟨g, hg, h⟩ := Option.bind_eq_some_iff.1 h
    cases g with
    | none =>
      obtain ⟨y, hy, e⟩ := Option.map_eq_some_iff.1 h
      cases e
      obtain ⟨a', y', ha, hr, hv⟩ := load1 hR hy hx
      exact POut.mk (val_run (by simp [Instr.loadAt, ha, Instr.sureAddr, loadVar, aggOf_none hg]; simpa using hr)) hv
    | some n =>
      obtain ⟨y, hy, e⟩ := Option.map_eq_some_iff.1 h
      cases e
      obtain ⟨a', ys, ha, hr, hv⟩ := loadN hR hy hx
      obtain ⟨hag, hsz⟩ := aggOf_some hg w
      exact POut.mk (val_run (by simp [Instr.loadAt, ha, Instr.sureAddr, loadVar, hag, szOf_run hsz, hr])) hv
  case nilCheck x =>
    have hx := ev x (by simp [Op.operands])
    obtain ⟨y, hy, e⟩ := Option.map_eq_some_iff.1 h
    cases e
    obtain ⟨rfl, hr⟩ := pNil_run hy hx
    have e2 : (nilSem (a.eval x)).run P w = .ok (.value (a.eval x)) w := by rw [hr]; rfl
    exact POut.mk e2 hx
  case binOp op t x y yt =>
    obtain ⟨z, hz, e⟩ := Option.map_eq_some_iff.1 h
    cases e
    obtain ⟨hr, hl⟩ := pBin_run hz (ev x (by simp [Op.operands])) (ev y (by simp [Op.operands])) x y w
    exact POut.mk (val_run hr) (.lit hl)
  case unOp op t x =>
    obtain ⟨z, hz, e⟩ := Option.map_eq_some_iff.1 h
    cases e
    obtain ⟨hr, hl⟩ := pUn_run hz (ev x (by simp [Op.operands])) w
    exact POut.mk (val_run hr) (.lit hl)
  case convert src dst x =>
    cases hu : P.underlying src with
    | none => simp [hu] at h
    | some d =>
      simp only [hu] at h
      obtain ⟨z, hz, e⟩ := Option.map_eq_some_iff.1 h
      cases e
      have hx := ev x (by simp [Op.operands])
      cases hk : kindOf P dst with
      | none => simp [hk, pConv] at hz
      | some k =>
        cases hxv : aEv A x <;> rw [hk, hxv] at hz <;> simp only [pConv] at hz <;> try (cases hz; done)
        rename_i k0 n
        cases hz
        rw [hxv] at hx
        rw [hx.int_inv]
        have hud := kind_some hk
        have hkd : P.intKind dst = k := by simp [Program.intKind, hud]
        have hr := run_convert_int (P := P) w src dst k0 n (by simp [hu]) (by rw [hkd]; exact hud)
        rw [hkd] at hr
        exact POut.mk (val_run hr) (.lit rfl)
  case makeFunc fn first captured =>
    cases h
    refine POut.mk (val_run (by simp [Instr.makeFunc]; rfl)) ?_
    refine .func (by simp) (fun i x y hx hy => ?_) (by simp) (fun i x y hx hy => ?_)
    · simp only [Array.getElem?_map, Option.map_eq_some_iff] at hx hy
      obtain ⟨p, hp, rfl⟩ := hx
      obtain ⟨q, hq, rfl⟩ := hy
      rw [hp] at hq; cases hq
      exact ev p (by simp only [Op.operands, Array.toList_append, List.mem_append]; exact .inl (by simpa using Array.mem_of_getElem? hp))
    · simp only [Array.getElem?_map, Option.map_eq_some_iff] at hx hy
      obtain ⟨p, hp, rfl⟩ := hx
      obtain ⟨q, hq, rfl⟩ := hy
      rw [hp] at hq; cases hq
      exact ev p (by simp only [Op.operands, Array.toList_append, List.mem_append]; exact .inr (by simpa using Array.mem_of_getElem? hp))
  case slice t x lo hi mx =>
    cases mx with
    | none =>
      simp only at h
      obtain ⟨el, hel, h⟩ := Option.bind_eq_some_iff.1 h
      obtain ⟨e, he, h⟩ := Option.bind_eq_some_iff.1 h
      obtain ⟨z, hz, e2⟩ := Option.map_eq_some_iff.1 h
      cases e2
      have hx := ev x (by simp [Op.operands])
      obtain ⟨v', hr, hv⟩ := slice_run (w := w) (lo' := lo.map a.eval) (hi' := hi.map a.eval) (elem_some hel) he hz hx
        (by cases lo with
            | none => exact .inl ⟨rfl, rfl⟩
            | some l => exact .inr ⟨_, _, rfl, rfl, ev l (by simp [Op.operands])⟩)
        (by cases hi with
            | none => exact .inl ⟨rfl, rfl⟩
            | some l => exact .inr ⟨_, _, rfl, rfl, ev l (by simp [Op.operands])⟩)
      exact POut.mk (val_run hr) hv
    | some mx =>
      cases lo with
      | some lo => cases hi <;> simp at h
      | none =>
        cases hi with
        | none => simp at h
        | some hi =>
          simp only at h
          obtain ⟨el, hel, h⟩ := Option.bind_eq_some_iff.1 h
          obtain ⟨e, he, h⟩ := Option.bind_eq_some_iff.1 h
          obtain ⟨z, hz, e2⟩ := Option.map_eq_some_iff.1 h
          cases e2
          obtain ⟨v', hr, hv⟩ := slice0_run (w := w) (elem_some hel) he hz (ev x (by simp [Op.operands])) (ev hi (by simp [Op.operands])) (ev mx (by simp [Op.operands]))
          exact POut.mk (val_run hr) hv
  case fieldAddr s x f =>
    obtain ⟨fd, hf, h⟩ := Option.bind_eq_some_iff.1 h
    obtain ⟨n, hn, h⟩ := Option.bind_eq_some_iff.1 h
    split at h
    · cases h
    · rename_i h0
      obtain ⟨z, hz, e2⟩ := Option.map_eq_some_iff.1 h
      cases e2
      obtain ⟨fs, hu, hfs⟩ := field_some hf
      obtain ⟨v', hr, hv⟩ := fld_run (w := w) hu hfs hn h0 rfl hz (ev x (by simp [Op.operands]))
      exact POut.mk (val_run hr) hv
  case field s x f =>
    obtain ⟨fd, hf, h⟩ := Option.bind_eq_some_iff.1 h
    obtain ⟨n, hn, h⟩ := Option.bind_eq_some_iff.1 h
    obtain ⟨z, hz, e2⟩ := Option.map_eq_some_iff.1 h
    cases e2
    obtain ⟨fs, hu, hfs⟩ := field_some hf
    have hx := ev x (by simp [Op.operands])
    cases hxv : aEv A x <;> rw [hxv] at hz <;> try (simp [pPart] at hz; done)
    rename_i xs
    rw [hxv] at hx
    obtain ⟨ys, v', hys, hr, hv⟩ := part_run (w := w) hn hz hx
    refine POut.mk (val_run ?_) hv
    simp [Instr.field, run_underlying hu, hfs, hys, asAgg, hr]
  case indexAddr t x i =>
    cases hu : P.underlying t with
    | none => simp [hu] at h
    | some d =>
      cases d <;> simp only [hu] at h <;> try (cases h; done)
      case slice el =>
        obtain ⟨e, he, h⟩ := Option.bind_eq_some_iff.1 h
        obtain ⟨z, hz, e2⟩ := Option.map_eq_some_iff.1 h
        cases e2
        obtain ⟨v', hr, hv⟩ := idx_run (w := w) hu he hz (ev x (by simp [Op.operands])) (ev i (by simp [Op.operands]))
        exact POut.mk (val_run hr) hv
      case array n el =>
        obtain ⟨e, he, h⟩ := Option.bind_eq_some_iff.1 h
        obtain ⟨z, hz, e2⟩ := Option.map_eq_some_iff.1 h
        cases e2
        obtain ⟨v', hr, hv⟩ := idxA_run (w := w) hu he hz (ev x (by simp [Op.operands])) (ev i (by simp [Op.operands]))
        exact POut.mk (val_run hr) hv
  case index t x i =>
    cases hu : P.underlying t with
    | none => simp [hu] at h
    | some d =>
      cases d <;> simp only [hu] at h <;> try (cases h; done)
      case string =>
        obtain ⟨z, hz, e2⟩ := Option.map_eq_some_iff.1 h
        cases e2
        obtain ⟨v', hr, hv⟩ := indexS_run (w := w) hu hz (ev x (by simp [Op.operands])) (ev i (by simp [Op.operands]))
        exact POut.mk (val_run hr) hv
      case array n el =>
        obtain ⟨e, he, h⟩ := Option.bind_eq_some_iff.1 h
        obtain ⟨nn, hnn, h⟩ := Option.bind_eq_some_iff.1 h
        obtain ⟨z, hz, e2⟩ := Option.map_eq_some_iff.1 h
        cases e2
        obtain ⟨v', hr, hv⟩ := indexV_run (w := w) hu he hnn hz (ev x (by simp [Op.operands])) (ev i (by simp [Op.operands]))
        exact POut.mk (val_run hr) hv
  case lookup t m k ok =>
    obtain ⟨⟨kt, et⟩, hkt, h⟩ := Option.bind_eq_some_iff.1 h
    obtain ⟨cl, hcl, h⟩ := Option.bind_eq_some_iff.1 h
    obtain ⟨z, hz, h⟩ := Option.bind_eq_some_iff.1 h
    obtain ⟨y, hy, e2⟩ := Option.map_eq_some_iff.1 h
    cases e2
    obtain ⟨v', hr, hv⟩ := lookup_out hR hkt hcl hz hy (ev m (by simp [Op.operands])) (ev k (by simp [Op.operands]))
    exact POut.mk (val_run hr) hv
  case extract t i =>
    obtain ⟨z, hz, e2⟩ := Option.map_eq_some_iff.1 h
    cases e2
    have hx := ev t (by simp [Op.operands])
    cases hxv : aEv A t <;> rw [hxv] at hz <;> simp only [pExtract] at hz <;> try (cases hz; done)
    rename_i vs
    rw [hxv] at hx
    obtain ⟨ys, hys, hs, he⟩ := hx.tuple_inv
    have hi : i < vs.size := (Array.getElem?_eq_some_iff.1 hz).1
    have hi' : i < ys.size := by omega
    exact POut.mk (val_run (by simp [Instr.extract, hys, hi']; rfl)) (he i _ _ hz (by simp [hi']))
  case call c =>
    obtain ⟨callee, args, ats⟩ := c
    cases callee with
    | value f => simp [opK] at hk
    | invoke r m => simp at h
    | builtin b =>
      simp only at h
      have hl : LRel P ρ (args.toList.map (aEv A)) (args.map a.eval).toList := map_rel (fun x hx => ev x (by simp only [Op.operands, Call.operands, Array.toList_append, List.mem_append]; exact .inr hx))
      simp only [resolve, Sem.run_bind, Sem.run_pure, Result.andThen_ok, invoke]
      refine builtin_pure hR hl ?_ h
      cases b <;> first | (simp [opK] at hk; done) | simp

/-- What an operation comes to: a value (or none), or what the call that it makes comes to. -/
def OpOut (P : Program) (o : Oper) (ev : Operand → Value) (w : World) (R : Value → World → Prop) : Prop :=
  match (execOp ev o).run P w with
  | .ok (.value v) w' => R v w'
  | .ok .skip w' => R undef w'
  | .ok (.enter f args) w' => Calls P f args w' fun e w'' => ∃ v, e = .returned v ∧ R v w''
  | _ => False

theorem OpOut.wp {o : Oper} {a : Act} {R : Value → World → Prop} {next : Act → World → Prop} {Q : Exit → Act → World → Prop} (h : OpOut P o a.eval w R) (hn : ∀ v w', R v w' → next (a.put o.dst v) w') : o.wp P a w next Q := by
  unfold OpOut at h
  unfold Oper.wp
  split at h
  · rename_i v w' hr; rw [hr, Oper.upon_value]; exact hn _ _ h
  · rename_i w' hr; rw [hr, Oper.upon_skip]; exact hn _ _ h
  · rename_i f args w' hr
    rw [hr, Oper.upon_enter]
    refine h.mono ?_
    rintro e w'' ⟨v, rfl, hR⟩
    exact hn _ _ hR
  · exact h.elim

theorem OpOut.mono {o : Oper} {ev : Operand → Value} {R R' : Value → World → Prop} (h : OpOut P o ev w R) (hm : ∀ v w', R v w' → R' v w') : OpOut P o ev w R' := by
  unfold OpOut at h ⊢
  split at h
  · exact hm _ _ h
  · exact hm _ _ h
  · refine Calls.mono h ?_
    rintro e w'' ⟨v, rfl, hR⟩
    exact ⟨v, rfl, hm _ _ hR⟩
  · exact h.elim

theorem OpOut.some {o : Oper} {ev : Operand → Value} {R : Value → World → Prop} (h : OpOut P o ev w R) : ∃ v w', R v w' := by
  unfold OpOut at h
  split at h
  · exact ⟨_, _, h⟩
  · exact ⟨_, _, h⟩
  · obtain ⟨e, w', fr, ⟨v, _, hR⟩, _⟩ := h []
    exact ⟨v, w', hR⟩
  · exact h.elim

theorem OpOut.congr {o : Oper} {ev ev' : Operand → Value} {R : Value → World → Prop} (h : OpOut P o ev w R) (e : execOp ev o = execOp ev' o) : OpOut P o ev' w R := by
  unfold OpOut at h ⊢
  rwa [← e]

theorem op_reach (hcall : CallOK P G call) {A : List Value} {a : Act} (hA : ActRel P ρ A a) (hG : GlobRel ρ G) (hR : Rel P w0 B ρ H w) {o : Oper} (hok : o.op.operands.toList.all (okX G) = true)
    {v : Value} {H' : AH} (h : aOp P call (aEv A) o H = some (v, H')) : OpOut P o a.eval w fun v' w' => ∃ ρ', VRel P ρ' v v' ∧ Ext ρ H w ρ' H' w' ∧ Rel P w0 B ρ' H' w' := by
  by_cases hc : ∃ c f, o.op = .call c ∧ c.callee = .value f
  · obtain ⟨c, f, ho, hcf⟩ := hc
    obtain ⟨dst, op, type, pos, after, guard⟩ := o
    simp only at ho
    subst ho
    obtain ⟨callee, args, ats⟩ := c
    simp only at hcf
    subst hcf
    have ev : ∀ x, x ∈ (Op.call { callee := .value f, args := args, argTypes := ats }).operands.toList → VRel P ρ (aEv A x) (a.eval x) := fun x hx => ev_rel hA hG (List.all_eq_true.1 hok x hx)
    simp only [aOp] at h
    obtain ⟨⟨g, xs⟩, hfa, h⟩ := Option.bind_eq_some_iff.1 h
    simp only at h
    have hl : LRel P ρ (args.toList.map (aEv A)) (args.map a.eval).toList := map_rel (fun x hx => ev x (by simp only [Op.operands, Call.operands, Array.toList_append, List.mem_append]; exact .inr hx))
    obtain ⟨first, captured, hf, hx⟩ := callee_rel hfa (ev f (by simp [Op.operands, Call.operands])) hl
    obtain ⟨⟨fn, hfn, hbody, hname⟩, hcalls⟩ := hcall g xs H v H' h
    have hcl := hcalls w0 B ρ w _ hR hG hx
    have hrun : (execOp a.eval { dst := dst, op := .call { callee := .value f, args := args, argTypes := ats }, type := type, pos := pos, after := after, guard := guard }).run P w =
        .ok (.enter g (first ++ args.map a.eval ++ captured)) w := by
      have hbn : ¬ (fn.body = none) := by intro hb; rw [hb] at hbody; cases hbody
      simp [execOp, resolve, hf, Deferred.ofValue, invoke, callFunc, hfn, hname, hbn]
    unfold OpOut
    rw [hrun]
    have e : (first.toList ++ (args.map a.eval).toList ++ captured.toList).toArray = first ++ args.map a.eval ++ captured := by
      apply Array.ext'; simp
    rw [e] at hcl
    refine hcl.mono ?_
    rintro e w' ⟨v', ρ', rfl, hv, hE, hR'⟩
    exact ⟨v', rfl, ρ', hv, hE, hR'⟩
  · obtain ⟨v', w', ρ', hr | ⟨hr, rfl⟩, hv, he, hR'⟩ := op_out hA hG hR hok (fun c f ho hcf => hc ⟨c, f, ho, hcf⟩) h
    · unfold OpOut; rw [hr]; exact ⟨ρ', hv, he, hR'⟩
    · unfold OpOut; rw [hr]; exact ⟨ρ', hv, he, hR'⟩

/-! ### Values whose blocks lie below a number -/
def WF (P : Program) (m : Nat) (v : Value) : Prop := ∃ ρ1 v1, (∀ b x, ρ1 b = some x → b < m) ∧ VRel P ρ1 v v1

theorem WF.under {m : Nat} {v v' : Value} (h : WF P m v) (k : VRel P ρ v v') : VRel P (ρ.below m) v v' := by
  obtain ⟨ρ1, v1, hm, h⟩ := h
  have up : ∀ {b x y}, ρ1 b = some x → ρ b = some y → ρ.below m b = some y := fun h1 h2 => by rw [Ren.below_lt (hm _ _ h1)]; exact h2
  induction h generalizing v' with
  | lit hl =>
    cases k with
    | lit h => exact .lit h
    | agg hs he => simp [litV] at hl
    | tuple hs he => simp [litV] at hl
    | iface h => simp [litV] at hl
    | func _ _ _ _ => simp [litV] at hl
    | ptr _ => simp [litV] at hl
    | slice _ _ _ _ => simp [litV] at hl
    | slice0 _ => simp [litV] at hl
    | empty => simp [litV] at hl
    | map _ => simp [litV] at hl
  | ptr h => cases k with
    | lit h => simp [litV] at h
    | ptr h2 => exact .ptr (up h h2)
  | slice h hk hn he => cases k with
    | lit h => simp [litV] at h
    | slice h2 a b c => exact .slice (up h h2) a b c
    | slice0 h2 => exact .slice0 (up h h2)
    | empty => exact .empty
  | slice0 h => cases k with
    | lit h => simp [litV] at h
    | slice h2 a b c => exact .slice (up h h2) a b c
    | slice0 h2 => exact .slice0 (up h h2)
    | empty => exact .empty
  | empty => cases k with
    | lit h => simp [litV] at h
    | slice h2 a b c => omega
    | slice0 h2 => exact .empty
    | empty => exact .empty
  | map h => cases k with
    | lit h => simp [litV] at h
    | map h2 => exact .map (up h h2)
  | func hf _ hc _ ih1 ih2 => cases k with
    | lit h => simp [litV] at h
    | func hf' h1 hc' h2 =>
      refine .func hf' (fun i x y hx hy => ?_) hc' (fun i x y hx hy => ?_)
      · have hi := (Array.getElem?_eq_some_iff.1 hx).1
        exact ih1 i x _ hx (Array.getElem?_eq_getElem (by omega)) (h1 i x y hx hy)
      · have hi := (Array.getElem?_eq_some_iff.1 hx).1
        exact ih2 i x _ hx (Array.getElem?_eq_getElem (by omega)) (h2 i x y hx hy)
  | iface _ ih => cases k with
    | lit h => simp [litV] at h
    | iface h => exact .iface (ih h)
  | agg hs _ ih => cases k with
    | lit h => simp [litV] at h
    | agg hs' h1 =>
      refine .agg hs' (fun i x y hx hy => ?_)
      have hi := (Array.getElem?_eq_some_iff.1 hx).1
      exact ih i x _ hx (Array.getElem?_eq_getElem (by omega)) (h1 i x y hx hy)
  | tuple hs _ ih => cases k with
    | lit h => simp [litV] at h
    | tuple hs' h1 =>
      refine .tuple hs' (fun i x y hx hy => ?_)
      have hi := (Array.getElem?_eq_some_iff.1 hx).1
      exact ih i x _ hx (Array.getElem?_eq_getElem (by omega)) (h1 i x y hx hy)

/-! ### Slots that are looked at -/
def maskA (S : Nat → Bool) (A : List Value) : List Value := A.mapIdx fun i v => if S i then v else undef

theorem maskA_get (S : Nat → Bool) (A : List Value) (t : Nat) : (maskA S A)[t]? = (A[t]?).map fun v => if S t then v else undef := by
  simp [maskA]

theorem mask_rel {S : Nat → Bool} {A : List Value} {a : Act} {ρ' : Ren} (hA : ActRel P ρ A a) (hS : ∀ t x y, S t = true → A[t]? = some x → VRel P ρ x y → VRel P ρ' x y) :
    ActRel P ρ' (maskA S A) { tmps := (maskA S a.tmps.toList).toArray, defers := [] } := by
  refine ⟨⟨by simp [maskA, hA.tmps.1], fun t x y hx hy => ?_⟩, rfl⟩
  rw [maskA_get] at hx
  rw [List.toList_toArray, maskA_get] at hy
  obtain ⟨x0, hx0, rfl⟩ := Option.map_eq_some_iff.1 hx
  obtain ⟨y0, hy0, rfl⟩ := Option.map_eq_some_iff.1 hy
  by_cases h : S t = true
  · rw [if_pos h, if_pos h]; exact hS t x0 y0 h hx0 (hA.tmps.2 t x0 y0 hx0 hy0)
  · rw [if_neg h, if_neg h]; exact VRel.undef

def seesT (op : Op) (t : Nat) : Bool := op.operands.toList.any fun x => match x with | .tmp u => u == t | _ => false

theorem seesT_of {op : Op} {t : Nat} (h : Operand.tmp t ∈ op.operands.toList) : seesT op t = true := by
  unfold seesT
  rw [List.any_eq_true]
  exact ⟨_, h, by simp⟩
theorem mem_of_seesT {op : Op} {t : Nat} (h : seesT op t = true) : Operand.tmp t ∈ op.operands.toList := by
  unfold seesT at h
  obtain ⟨x, hx, h⟩ := List.any_eq_true.1 h
  cases x <;> simp at h
  subst h; exact hx

theorem mask_ev {op : Op} {A : List Value} {x : Operand} (hx : x ∈ op.operands.toList) : aEv (maskA (seesT op) A) x = aEv A x := by
  cases x with
  | tmp t =>
    simp only [aEv, maskA_get, seesT_of hx, if_true]
    cases A[t]? <;> rfl
  | _ => rfl
theorem mask_eval {op : Op} {a : Act} {d : List Deferred} {x : Operand} (hx : x ∈ op.operands.toList) : ({ tmps := (maskA (seesT op) a.tmps.toList).toArray, defers := d } : Act).eval x = a.eval x := by
  cases x with
  | tmp t =>
    simp only [Act.eval, Array.getD_eq_getD_getElem?, List.getElem?_toArray, maskA_get, seesT_of hx, if_true, Array.getElem?_toList]
    cases a.tmps[t]? <;> rfl
  | _ => rfl
end
end Go.Proofs.YtbjelopcelompaaGreatDoor.Gst
