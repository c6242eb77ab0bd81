/- Several texts in one. -/
import Derived.Laws.BytesString
import Derived.Recover
import Derived.KernelRfl
import Derived.Test.YthagelbepgcolaaGreatDoorPb
namespace Go.Proofs.YthagelbepgcolaaGreatDoor.Gst
open Go Go.RowKit
set_option linter.unusedSimpArgs false
set_option linter.unusedVariables false
inductive BO where
 | ret (v : Value)
 | pan (v : Value)
abbrev bK := Nat → List Value → AH → Option (BO × AH)
def fe (b : bK) : aR := fun f args H => match b f args H with
 | some (.ret v, H') => some (v, H')
 | _ => none
theorem dH {b : bK} {f : Nat} {args : List Value} {H : AH} {r : Value × AH} : fe b f args H = some r ↔ b f args H = some (.ret r.1, r.2) := by
 unfold fe
 constructor
 ·intro h
  split at h
  ·rename_i v H' e; cases h; exact e
  ·cases h
 ·intro h
  rw [h]
def MY (P : Program) (ρ : aV) : BO → Ending → Prop
 | .ret v, e => ∃ v', e = .returned v' ∧ VRel P ρ v v'
 | .pan v, e => ∃ v', e = .panicked [{ v := v', recovered := false }] ∧ VRel P ρ v v'
def np (P : Program) (G : List Nat) (b : bK) : Prop :=
 ∀ f args H o H', b f args H = some (o, H') → (∃ fn, P.funcs[f]? = some fn ∧ fn.body.isSome = true ∧ fn.name ≠ "runtime.NumGoroutine") ∧
  ∀ w0 B ρ w args', Rel P w0 B ρ H w → GlobRel ρ G → LRel P ρ args args' →
   Calls P f args'.toArray w fun e w' => ∃ ρ', MY P ρ' o e ∧ eE ρ H w ρ' H' w' ∧ Rel P w0 B ρ' H' w'
theorem Hv {P : Program} {G : List Nat} {b : bK} (h : np P G b) : ox P G (fe b) := by
 intro f args H v H' hb;obtain ⟨h1, h2⟩ := h f args H _ _ (dH.1 hb);refine ⟨h1, fun w0 B ρ w args' hR hG hl => (h2 w0 B ρ w args' hR hG hl).mono ?_⟩
 rintro e w' ⟨ρ', ⟨v', he, hv⟩, hE, hR'⟩
 exact ⟨v', ρ', he, hv, hE, hR'⟩
def en (b : bK) : Prop := ∀ f args H o H', b f args H = some (o, H') → H.size ≤ H'.size
theorem gF {b : bK} (h : en b) : iA (fe b) := fun f args H v H' hb => h _ _ _ _ _ (dH.1 hb)
inductive Spc where
 | pan (v : Value) (H : AH)
 | val (v : Value)
def rp (x : Value) (lo hi : Option Value) : Option Value :=
 match x with
 | .string s => (match lo with | some v => lH v | none => some 0).bind fun l => (match hi with | some v => lH v | none => some (s.size : Int)).bind fun h =>
  if 0 ≤ l ∧ l ≤ h ∧ h ≤ s.size then some (.string (s.extract l.toNat h.toNat)) else none
 | _ => none
def u8s : List Value → Option (List Int)
 | [] => some []
 | .int .u8 n :: l => (u8s l).map (n :: ·)
 | _ => none
def DF (ns : List Int) : ByteArray := ns.foldl (fun r n => r.push (UInt8.ofNat n.toNat)) ByteArray.empty
def kj (x : Value) (H : AH) : Option Value :=
 match x with
 | .slice none n _ => if n = 0 then some (.string ByteArray.empty) else none
 | .slice (some ⟨b, o, none⟩) n e => if n = 0 then some (.string ByteArray.empty) else if e = 1 then (aQ n (.pointer (some ⟨b, o, none⟩)) H).bind fun v => match v with
  | .agg xs => (u8s xs.toList).map fun ns => .string (DF ns)
  | _ => none
  else none
 | _ => none
def xd (P : Program) (src dst : TypeId) : Bool :=
 match P.underlying src, P.underlying dst with
 | some (.slice e), some .string => match P.underlying e with
  | some (.int .u8) => true
  | _ => false
 | _, _ => false
theorem Cj {P : Program} {src dst : TypeId} (h : xd P src dst = true) : ∃ e, P.underlying src = some (.slice e) ∧ P.underlying e = some (.int .u8) ∧ P.underlying dst = some .string := by
 unfold xd at h
 split at h
 ·rename_i e h1 h2
  split at h
  ·rename_i h3; exact ⟨e, h1, h3, h2⟩
  ·cases h
 ·cases h
def ec (P : Program) (b : bK) (ev : Operand → Value) (op : Op) (H : AH) : Option Spc :=
 match op with
 | .panic x => match ev x with
  | .iface t v => some (.pan (.iface t v) H)
  | _ => none
 | .makeInterface t x => match P.underlying t with
  | some (.interface _) => none
  | some _ => some (.val (.iface t (ev x)))
  | none => none
 | .slice t x lo hi none => match P.underlying t with
  | some .string => (rp (ev x) (lo.map ev) (hi.map ev)).map .val
  | _ => none
 | .convert src dst x => match xd P src dst with
  | true => (kj (ev x) H).map .val
  | false => none
 | .call c => match c.callee with
  | .value f => (dt (ev f) (c.args.toList.map ev)).bind fun fa => match b fa.1 fa.2 H with
   | some (.pan v, H') => some (.pan v H')
   | _ => none
  | .builtin .panic => match c.args.toList.map ev with
   | [.iface t v] => some (.pan (.iface t v) H)
   | _ => none
  | _ => none
 | _ => none
def J0 (P : Program) (G : List Nat) (b : bK) (ops : Array Oper) (o : Oper) (A : List Value) (H : AH) : Option Spc :=
 if o.op.operands.toList.all (Hx G) = true ∧ Region.wanted o (bM ops A) = true then ec P b (cf A) o.op H else none
inductive BE where
 | normal
 | exit (id : Nat)
 | ret
 | pan (v : Value)
abbrev BR := BE × List Value × AH
def m7 (P : Program) (G : List Nat) (b : bK) (ops : Array Oper) : List Oper → List Value → AH → Option BR
 | [], A, H => some (.normal, A, H)
 | o :: rest, A, H => match J0 P G b ops o A H with
  | some (.pan v H') => some (.pan v, A, H')
  | some (.val v) => m7 P G b ops rest (eF A o.dst v) H
  | none => (bO P G (fe b) ops o A H).bind fun s => m7 P G b ops rest s.1 s.2
def agE (o : Oper) : Option (Operand × List Operand) := match o.op, o.guard with
 | .call c, none => match c.callee with
  | .value f => some (f, c.args.toList)
  | _ => none
 | _, _ => none
def al8 (G : List Nat) (ops : Array Oper) (p : Nat) : Bool :=
 ops.toList.zipIdx.all fun q => if q.2 < p then gG q.1.op == 0 || gG q.1.op == 2 else if p < q.2 then fb (bu ops.toList) p q.2 else q.1.op.operands.toList.all (Hx G) && gG q.1.op == 3
def Ak (G : List Nat) (ops : Array Oper) : Option (Nat × Operand × List Operand) :=
 match ops.toList.findIdx? fun o => gG o.op == 3 with
 | some p => match (ops[p]?).bind agE with
  | some q => match pZ ops.toList && al8 G ops p with
   | true => some (p, q.1, q.2)
   | false => none
  | none => none
 | none => none
def unk (ops : Array Oper) (p : Nat) (A : List Value) : List Value := (ops.toList.take p).foldl (fun A o => eF A o.dst undef) A
noncomputable def jz (P : Program) (G : List Nat) (b : bK) (ops : Array Oper) (A : List Value) (H : AH) : Option BR :=
 match Ak G ops with
 | none => (dy P G (fe b) ops A H).map fun s => (.normal, s.1, s.2)
 | some q => (bJ P G (fe b) ops (ops.toList.take q.1) A H).bind fun s => (dt (cf s.1 q.2.1) (q.2.2.map (cf s.1))).bind fun fa => (b fa.1 fa.2 s.2).bind fun r => match r.1 with
  | .ret _ => (dy P G (fe b) ops A H).map fun s => (.normal, s.1, s.2)
  | .pan v => some (.pan v, unk ops q.1 A, r.2)
theorem yM {G : List Nat} {ops : Array Oper} {q : Nat × Operand × List Operand} (h : Ak G ops = some q) : ∃ dst args ats type pos after, ops[q.1]? = some ⟨dst, .call ⟨.value q.2.1, args, ats⟩, type, pos, after, none⟩ ∧ args.toList = q.2.2 ∧ pZ ops.toList = true ∧ gG (.call ⟨.value q.2.1, args, ats⟩) = 3 ∧ (Op.call ⟨.value q.2.1, args, ats⟩).operands.toList.all (Hx G) = true ∧
 (∀ j o, ops[j]? = some o → j < q.1 → gG o.op = 0 ∨ gG o.op = 2) ∧ ∀ j o, ops[j]? = some o → q.1 < j → fb (bu ops.toList) q.1 j = true := by
 unfold Ak at h
 split at h
 ·rename_i p hp
  split at h
  ·rename_i x hx
   split at h
   ·rename_i hc
    cases h;obtain ⟨o, ho, hx⟩ := ai.1 hx;simp only [Bool.and_eq_true] at hc;obtain ⟨hreg, hpan⟩ := hc;unfold al8 at hpan;rw [List.all_eq_true] at hpan
    have at' : ∀ j oj, ops[j]? = some oj → (oj, j) ∈ ops.toList.zipIdx := by
     intro j oj hj;rw [List.mem_iff_getElem?];exact ⟨j, by rw [List.getElem?_zipIdx, show ops.toList[j]? = some oj by simpa using hj]; simp⟩
    have h1 := hpan _ (at' _ _ ho);simp only [Nat.lt_irrefl, if_false] at h1;obtain ⟨dst, op, type, pos, after, guard⟩ := o;unfold agE at hx
    split at hx
    ·rename_i c e1 e2
     dsimp only at e1 e2;subst e1; subst e2;obtain ⟨callee, args, ats⟩ := c
     cases callee with
     | value f =>
      simp only at hx;cases hx;rw [Bool.and_eq_true] at h1;refine ⟨dst, args, ats, type, pos, after, ho, rfl, hreg, by simpa using h1.2, h1.1, fun j oj hj hlt => ?_, fun j oj hj hlt => ?_⟩
      ·have := hpan _ (at' j oj hj)
       dsimp only at this hlt;rw [if_pos hlt] at this
       simpa using this
      ·have := hpan _ (at' j oj hj)
       dsimp only at this hlt;rw [if_neg (by omega), if_pos hlt] at this;exact this
     | invoke r m => cases hx
     | builtin bi => cases hx
    ·cases hx
   ·cases h
  ·cases h
 ·cases h
def eH (f : List Value → AH → Option BR) : Nat → List Value → AH → Option BR
 | 0, _, _ => none
 | n + 1, A, H => (f A H).bind fun r => match r.1 with
  | .normal => eH f n r.2.1 r.2.2
  | _ => some r
theorem FH {f : List Value → AH → Option BR} {n : Nat} {A : List Value} {H : AH} {r : BR} (h : eH f n A H = some r) : ∀ m, n ≤ m → eH f m A H = some r := by
 induction n generalizing A H with
 | zero => cases h
 | succ n ih =>
  intro m hm;obtain ⟨m, rfl⟩ : ∃ k, m = k + 1 := ⟨m - 1, by omega⟩;simp only [eH] at h ⊢;obtain ⟨s, hs, h⟩ := ai.1 h;rw [hs];simp only [aB]
  split at h
  ·exact ih h m (by omega)
  ·exact h
open Classical in
noncomputable def rF (f : List Value → AH → Option BR) (A : List Value) (H : AH) : Option BR := if h : ∃ n r, eH f n A H = some r then some h.choose_spec.choose else none
theorem cN {f : List Value → AH → Option BR} {A : List Value} {H : AH} {r : BR} : rF f A H = some r ↔ ∃ n, eH f n A H = some r := by
 unfold rF
 constructor
 ·intro h
  split at h
  ·rename_i hx
   cases h;exact ⟨_, hx.choose_spec.choose_spec⟩
  ·cases h
 ·rintro ⟨n, hn⟩
  have hx : ∃ n r, eH f n A H = some r := ⟨n, r, hn⟩;rw [dif_pos hx];have h1 := FH hx.choose_spec.choose_spec (max n hx.choose) (Nat.le_max_right ..);have h2 := FH hn (max n hx.choose) (Nat.le_max_left ..);rw [h2] at h1;exact h1.symm
theorem Yc (f : List Value → AH → Option BR) (A : List Value) (H : AH) : rF f A H = (f A H).bind fun r => match r.1 with | .normal => rF f r.2.1 r.2.2 | _ => some r := by
 apply Option.ext;intro r;rw [cN]
 constructor
 ·rintro ⟨n, hn⟩
  cases n with
  | zero => cases hn
  | succ n =>
   simp only [eH] at hn;obtain ⟨s, hs, h⟩ := ai.1 hn;rw [hs];simp only [aB]
   split at h
   ·exact cN.2 ⟨n, h⟩
   ·exact h
 ·intro h
  obtain ⟨s, hs, h⟩ := ai.1 h
  split at h
  ·rename_i e
   obtain ⟨n, hn⟩ := cN.1 h;refine ⟨n + 1, ?_⟩;simp only [eH, hs, aB, e];exact hn
  ·rename_i e
   refine ⟨1, ?_⟩;simp only [eH, hs, aB];exact h
noncomputable def aH (P : Program) (G : List Nat) (b : bK) : Code → List Value → AH → Option BR
 | .skip, A, H => some (.normal, A, H)
 | .label _, A, H => some (.normal, A, H)
 | .region _ ops draw, A, H => match draw with
  | true => jz P G b ops A H
  | false => m7 P G b ops ops.toList A H
 | .seq x y, A, H => (aH P G b x A H).bind fun r => match r.1 with
  | .normal => aH P G b y r.2.1 r.2.2
  | _ => some r
 | .cond c x y, A, H => match cf A c with
  | .bool true => aH P G b x A H
  | .bool false => aH P G b y A H
  | _ => none
 | .block id x, A, H => (aH P G b x A H).map fun r => match r.1 with
  | .exit i => if i = id then (.normal, r.2.1, r.2.2) else r
  | _ => r
 | .loop x, A, H => rF (aH P G b x) A H
 | .exit id, A, H => some (.exit id, A, H)
 | .ret, A, H => some (.ret, A, H)
 | _, _, _ => none
def aoX (P : Program) (ρ : aV) : BE → Exit → Prop
 | .normal, e => e = .normal
 | .exit id, e => e = .exit id
 | .ret, e => e = .ret
 | .pan v, e => ∃ v', e = .panic [{ v := v', recovered := false }] ∧ VRel P ρ v v'
def ya (A A2 : List Value) : Prop := A.length = A2.length ∧ ∀ (t : Nat) (x : Value), A[t]? = some x → x = undef ∨ A2[t]? = some x
theorem ya.refl (A : List Value) : ya A A := ⟨rfl, fun _ _ h => .inr h⟩
abbrev ahZ (ds : List Deferred) (P : Program) (ρ : aV) : BE → List Value → Act → Prop
 | .pan _, A, a => ∃ A2, ya A A2 ∧ bf ds P ρ A2 a
 | _, A, a => bf ds P ρ A a
def IT (ds : List Deferred) (P : Program) (w0 : World) (B : Nat) (G : List Nat) (ρ : aV) (H : AH) (w : World) (e : BE) (A' : List Value) (H' : AH) (ex : Exit) (a' : Act) (w' : World) : Prop :=
 ∃ ρ', aoX P ρ' e ex ∧ ahZ ds P ρ' e A' a' ∧ GlobRel ρ' G ∧ eE ρ H w ρ' H' w' ∧ Rel P w0 B ρ' H' w'
section
variable {ds : List Deferred} {P : Program} {w0 : World} {B : Nat} {ρ : aV} {H : AH} {w : World} {G : List Nat} {b : bK} {ops : Array Oper}
theorem VRel.iface_inv {t : TypeId} {v x : Value} (h : VRel P ρ (.iface t v) x) : ∃ v', x = .iface t v' ∧ VRel P ρ v v' := by
 cases h with
 | lit h => simp [cO] at h
 | iface h => exact ⟨_, rfl, h⟩
theorem IT.trans {ρ ρ1 : aV} {H H1 H2 : AH} {w w1 w2 : World} {e : BE} {ex : Exit} {A2 : List Value} {a2 : Act} (hR : Rel P w0 B ρ H w) (hE : eE ρ H w ρ1 H1 w1) (h : IT ds P w0 B G ρ1 H1 w1 e A2 H2 ex a2 w2) : IT ds P w0 B G ρ H w e A2 H2 ex a2 w2 := by
 obtain ⟨ρ', h0, h1, h2, h3, h4⟩ := h;exact ⟨ρ', h0, h1, h2, hE.trans hR h3, h4⟩
theorem Sx {t : TypeId} (hu : P.underlying t = some .string) {x x' v : Value} {lo hi lo' hi' : Option Value} (h : rp x lo hi = some v) (hx : VRel P ρ x x')
 (hlo : lo = none ∧ lo' = none ∨ ∃ a a', lo = some a ∧ lo' = some a' ∧ VRel P ρ a a') (hhi : hi = none ∧ hi' = none ∨ ∃ a a', hi = some a ∧ hi' = some a' ∧ VRel P ρ a a') :
 ∃ v', (Instr.sliceAt t x' lo' hi' none).run P w = .ok v' w ∧ VRel P ρ v v' := by
 cases x <;> simp only [rp] at h <;> try (cases h; done)
 rename_i z
 have h2 := ai.1 h
 clear h
 obtain ⟨l, hl, h⟩ := h2;have h2 := ai.1 h
 clear h
 obtain ⟨hh, hhv, h⟩ := h2
 split at h
 ·rename_i hc
  cases h;rw [hx.string_inv]
  have elo : lo = none ∧ lo' = none ∧ l = 0 ∨ ∃ k, lo' = some (.int k l) := by
   rcases hlo with ⟨rfl, rfl⟩ | ⟨b, b', rfl, rfl, hb⟩
   ·left; simp at hl; exact ⟨rfl, rfl, hl.symm⟩
   ·right; cases b <;> simp [lH] at hl; subst hl; exact ⟨_, by rw [hb.int_inv]⟩
  have ehi : hi = none ∧ hi' = none ∧ hh = z.size ∨ ∃ k, hi' = some (.int k hh) := by
   rcases hhi with ⟨rfl, rfl⟩ | ⟨b, b', rfl, rfl, hb⟩
   ·left; simp at hhv; exact ⟨rfl, rfl, hhv.symm⟩
   ·right; cases b <;> simp [lH] at hhv; subst hhv; exact ⟨_, by rw [hb.int_inv]⟩
  refine ⟨_, ?_, .lit rfl⟩;have c1 : hh ≤ (z.size : Int) := hc.2.2
  have c3 : 0 ≤ hh := by omega
  have c2 : l ≤ hh := hc.2.1
  have c5 : max hh 0 = hh := by omega
  rcases elo with ⟨_, rfl, rfl⟩ | ⟨kl, rfl⟩ <;> rcases ehi with ⟨_, rfl, rfl⟩ | ⟨kh, rfl⟩ <;>
   simp [Instr.sliceAt, Instr.slice, run_underlying hu, Instr.sliceBounds, Instr.sliceBound, asIntOf, hc.1, c1, c2, c3, c5]
 ·cases h
theorem ak5 : ∀ {l : List Value} {ns : List Int}, u8s l = some ns → l = ns.map (Value.int .u8) := by
 intro l
 induction l with
 | nil => intro ns h; cases h; rfl
 | cons v l ih =>
  intro ns h;unfold u8s at h
  split at h
  ·rename_i e; cases e
  ·rename_i n l' e
   cases e;obtain ⟨ns', h1, rfl⟩ := au.1 h;rw [ih h1]; rfl
  ·cases h
theorem Pp {src dst : TypeId} (hc : xd P src dst = true) {x x' v : Value} (h : kj x H = some v) (hR : Rel P w0 B ρ H w) (hx : VRel P ρ x x') : (convert src dst x').run P w = .ok v w := by
 obtain ⟨e, h1, h2, h3⟩ := Cj hc;unfold kj at h
 split at h
 ·rename_i n k
  split at h
  ·cases h
   rw [hx.nilslice_inv, run_convert_bytes_string w src dst e _ _ _ h1 h2 h3]
   rfl
  ·cases h
 ·rename_i b o n k
  have zero : n = 0 → ∀ (a' : Option Addr) (n' c' : Nat), x' = .slice a' n' c' → n' = 0 → (convert src dst x').run P w = .ok (.string ByteArray.empty) w := by
   intro _ a' n' c' e1 e2;subst e1; subst e2;rw [run_convert_bytes_string w src dst e _ _ _ h1 h2 h3]
   cases a' with
   | none => rfl
   | some a' => exact run_bytesToString w a' 0 c' [] (by simp [loadCells, loadCellsFrom, Sem.run_pure])
  split at h
  ·rename_i hn
   cases h;obtain ⟨a', k', rfl, _⟩ := hx.anyslice_inv;exact zero hn a' n k' rfl hn
  ·rename_i hn
   split at h
   ·rename_i he
    obtain ⟨y, hy, h⟩ := ai.1 h
    split at h
    ·rename_i xs
     obtain ⟨ns, hns, rfl⟩ := au.1 h
     rcases hx.slice_inv (by omega) with ⟨c, d, sz, a, hb, h0, _⟩ | ⟨c, d, sz, k', hb, hk, hnk, rfl⟩
     ·exact absurd h0 hn
     obtain ⟨a', ys, ha, hr, hv⟩ := Jz hR hy (VRel.ptr (o := o) hb)
     have ha : (⟨c, d + o, none⟩ : Addr) = a' := by simpa using ha
     subst ha;rw [run_convert_bytes_string w src dst e _ _ _ h1 h2 h3];refine run_bytesToString w _ n k' ns ?_;rw [hr];obtain ⟨ys', e3, hs, hel⟩ := hv.agg_inv;cases e3
     congr 1
     have := ak5 hns;apply Array.ext';rw [List.toList_toArray, ← this];apply List.ext_getElem?;intro i
     cases hi : xs.toList[i]? with
     | none =>
      rw [List.getElem?_eq_none_iff] at hi ⊢;simp at hi ⊢; omega
     | some p =>
      have hp : xs[i]? = some p := by simpa using hi
      have hlt : i < xs.size := (Array.getElem?_eq_some_iff.1 hp).1
      have hq : ys[i]? = some ys[i] := by simp [show i < ys.size by omega]
      have hrel := hel i p ys[i] hp hq;rw [Array.getElem?_toList, hq];have hm : p ∈ xs.toList := List.mem_of_getElem? hi;rw [this] at hm;obtain ⟨z, _, rfl⟩ := List.mem_map.1 hm;rw [hrel.int_inv]
    ·cases h
   ·cases h
 ·cases h
theorem U8 (hb : np P G b) {A : List Value} {a : Act} (hA : bf ds P ρ A a) (hG : GlobRel ρ G) (hR : Rel P w0 B ρ H w) {o : Oper} (hok : o.op.operands.toList.all (Hx G) = true)
 {v : Value} {H' : AH} (h : ec P b (cf A) o.op H = some (.pan v H')) {next : Act → World → Prop} {Q : Exit → Act → World → Prop}
 (hn : ∀ v' ρ' w', VRel P ρ' v v' → eE ρ H w ρ' H' w' → Rel P w0 B ρ' H' w' → Q (.panic [{ v := v', recovered := false }]) a w') : o.wp P a w next Q := by
 obtain ⟨dst, op, type, pos, after, guard⟩ := o;simp only at hok h;have ev : ∀ x, x ∈ op.operands.toList → VRel P ρ (cf A x) (a.eval x) := fun x hx => ta hA hG (List.all_eq_true.1 hok x hx)
 cases op <;> simp only [ec] at h <;> try (cases h; done)
 case panic x =>
  split at h
  ·rename_i t y he
   cases h;have hv := ev x (by simp [Op.operands]);rw [he] at hv;obtain ⟨y', hy, hv'⟩ := hv.iface_inv;unfold Oper.wp
   have hrun : (execOp a.eval { dst := dst, op := .panic x, type := type, pos := pos, after := after, guard := guard }).run P w = .halt (.panic (.iface t y')) w := by
    simp [execOp, hy, Instr.panic, goPanic]
   rw [hrun, Oper.upon_panic];exact hn _ ρ w (.iface hv') (eE.refl _ _ _) hR
  ·cases h
 case makeInterface t x => split at h <;> cases h
 case slice t x lo hi mx =>
  cases mx with
  | some m => cases h
  | none =>
   simp only at h
   split at h
   ·obtain ⟨y, _, e⟩ := au.1 h; cases e
   ·cases h
 case convert src dst x =>
  split at h
  ·obtain ⟨y, _, e⟩ := au.1 h; cases e
  ·cases h
 case call c =>
  obtain ⟨callee, args, ats⟩ := c
  cases callee with
  | invoke r m => simp only at h; cases h
  | builtin bi =>
   cases bi <;> simp only at h <;> try (cases h; done)
   split at h
   ·rename_i t y he
    cases h;have hl : LRel P ρ (args.toList.map (cf A)) (args.map a.eval).toList := wl (fun x hx => ev x (by simp [Op.operands, Call.operands]; exact by simpa using hx));rw [he] at hl;unfold Oper.wp;obtain ⟨z, hz, hv⟩ := hl.get (i := 0) (x := .iface t y) rfl;obtain ⟨y', rfl, hv'⟩ := hv.iface_inv
    have hz' : (args.map a.eval).getD 0 .nilIface = .iface t y' := by
     rw [Array.getElem?_toList] at hz;rw [Array.getD_eq_getD_getElem?, hz]; rfl
    have hrun : (execOp a.eval { dst := dst, op := .call ⟨.builtin .panic, args, ats⟩, type := type, pos := pos, after := after, guard := guard }).run P w = .halt (.panic (.iface t y')) w := by
     simp only [execOp, resolve, Sem.run_bind, Sem.run_pure, Result.andThen_ok, invoke, builtin, hz', Instr.panic, goPanic]
     rfl
    rw [hrun, Oper.upon_panic];exact hn _ ρ w (.iface hv') (eE.refl _ _ _) hR
   ·cases h
  | value f =>
   simp only at h;obtain ⟨⟨g, xs⟩, hfa, h⟩ := ai.1 h;simp only at h
   split at h
   ·rename_i y H1 hbc
    cases h;have hl : LRel P ρ (args.toList.map (cf A)) (args.map a.eval).toList := wl (fun x hx => ev x (by simp only [Op.operands, Call.operands, Array.toList_append, List.mem_append]; exact .inr hx));obtain ⟨first, captured, hf, hx⟩ := yf hfa (ev f (by simp [Op.operands, Call.operands])) hl;obtain ⟨⟨fn, hfn, hbody, hname⟩, hcalls⟩ := hb g xs H _ _ hbc;have hcl := hcalls w0 B ρ w _ hR hG hx;have hrun : (execOp a.eval { dst := dst, op := .call { callee := .value f, args := args, argTypes := ats }, type := type, pos := pos, after := after, guard := guard }).run P w =
     .ok (.enter g (first ++ args.map a.eval ++ captured)) w := by
     have hbn : ¬ (fn.body = none) := by intro hb; rw [hb] at hbody; cases hbody
     simp [execOp, resolve, hf, Deferred.ofValue, invoke, callFunc, hfn, hname, hbn]
    unfold Oper.wp;rw [hrun, Oper.upon_enter]
    have e : (first.toList ++ (args.map a.eval).toList ++ captured.toList).toArray = first ++ args.map a.eval ++ captured := by
     apply Array.ext'; simp
    rw [e] at hcl;refine hcl.mono ?_
    rintro e w' ⟨ρ', ⟨v', rfl, hv⟩, hE, hR'⟩
    exact hn v' ρ' w' hv hE hR'
   ·cases h
theorem ak0 {A : List Value} {a : Act} (hA : bf ds P ρ A a) (hG : GlobRel ρ G) (hR : Rel P w0 B ρ H w) {o : Oper} (hok : o.op.operands.toList.all (Hx G) = true)
 {v : Value} (h : ec P b (cf A) o.op H = some (.val v)) : ∃ v', VRel P ρ v v' ∧ (execOp a.eval o).run P w = .ok (.value v') w := by
 obtain ⟨dst, op, type, pos, after, guard⟩ := o;simp only at hok h;have ev : ∀ x, x ∈ op.operands.toList → VRel P ρ (cf A x) (a.eval x) := fun x hx => ta hA hG (List.all_eq_true.1 hok x hx)
 cases op <;> simp only [ec] at h <;> try (cases h; done)
 case panic x => split at h <;> cases h
 case slice t x lo hi mx =>
  cases mx with
  | some m => cases h
  | none =>
   simp only at h
   split at h
   ·rename_i hu
    obtain ⟨y, hy, e⟩ := au.1 h;cases e
    have ob : ∀ (z : Option Operand), (∀ q ∈ z, q ∈ (Op.slice t x lo hi none).operands.toList) → z.map (cf A) = none ∧ z.map a.eval = none ∨ ∃ p p', z.map (cf A) = some p ∧ z.map a.eval = some p' ∧ VRel P ρ p p' := by
     intro z hz
     cases z with
     | none => exact .inl ⟨rfl, rfl⟩
     | some q => exact .inr ⟨_, _, rfl, rfl, ev q (hz q rfl)⟩
    obtain ⟨v', hr, hv⟩ := Sx (w := w) hu hy (ev x (by simp [Op.operands])) (ob lo (fun q hq => by cases hq; simp [Op.operands])) (ob hi (fun q hq => by cases hq; simp [Op.operands]));exact ⟨v', hv, by simp only [execOp, Option.map_none, Sem.run_bind, hr, Result.andThen_ok, Sem.run_pure]⟩
   ·cases h
 case call c =>
  obtain ⟨callee, args, ats⟩ := c
  cases callee with
  | invoke r m => simp only at h; cases h
  | builtin bi =>
   cases bi <;> simp only at h <;> try (cases h; done)
   split at h <;> cases h
  | value f =>
   simp only at h;obtain ⟨⟨g, xs⟩, hfa, h⟩ := ai.1 h;simp only at h
   split at h <;> cases h
 case convert src dst x =>
  split at h
  ·rename_i hc
   obtain ⟨y, hy, e⟩ := au.1 h;cases e
   have hv : VRel P ρ v v := by
    unfold kj at hy
    split at hy
    ·split at hy <;> cases hy; exact .lit rfl
    ·split at hy
     ·cases hy; exact .lit rfl
     ·split at hy
      ·obtain ⟨z, _, hy⟩ := ai.1 hy
       split at hy
       ·obtain ⟨ns, _, e⟩ := au.1 hy; cases e; exact .lit rfl
       ·cases hy
      ·cases hy
    ·cases hy
   refine ⟨v, hv, ?_⟩;have hr := Pp hc hy hR (ev x (by simp [Op.operands]));simp only [execOp, Sem.run_bind, hr, Result.andThen_ok, Sem.run_pure]
  ·cases h
 case makeInterface t x =>
  split at h
  ·cases h
  ·rename_i d hno hu
   cases h;refine ⟨.iface t (a.eval x), .iface (ev x (by simp [Op.operands])), ?_⟩;simp only [execOp, Instr.makeInterface, Sem.run_bind, run_underlying hu, Result.andThen_ok, Sem.run_pure]
  ·cases h
theorem Po (hb : np P G b) (ops : Array Oper) {Q : Exit → Act → World → Prop} : ∀ (l : List Oper) {ρ : aV} {A : List Value} {H : AH} {a : Act} {w : World} {e : BE} {A' : List Value} {H' : AH}, m7 P G b ops l A H = some (e, A', H') →
 bf ds P ρ A a → GlobRel ρ G → Rel P w0 B ρ H w → (∀ ex a' w', IT ds P w0 B G ρ H w e A' H' ex a' w' → Q ex a' w') → wpList P ops Q l a w := by
 intro l
 induction l with
 | nil =>
  intro ρ A H a w e A' H' h hA hG hR hQ;simp only [m7] at h;cases h;exact hQ .normal a w ⟨ρ, rfl, hA, hG, eE.refl _ _ _, hR⟩
 | cons o rest ih =>
  intro ρ A H a w e A' H' h hA hG hR hQ;simp only [m7] at h
  split at h
  ·rename_i v H1 hs
   cases h;unfold J0 at hs
   split at hs
   ·rename_i hc
    unfold wpList;rw [hI hA, if_pos hc.2];refine .inl (U8 hb hA hG hR hc.1 hs (fun v' ρ' w' hv hE hR' => ?_));exact hQ _ _ _ ⟨ρ', ⟨v', rfl, hv⟩, ⟨_, ya.refl _, hA.mono hE.le⟩, hG.mono hE.le, hE, hR'⟩
   ·cases hs
  ·rename_i v hs
   unfold J0 at hs
   split at hs
   ·rename_i hc
    unfold wpList;rw [hI hA, if_pos hc.2];obtain ⟨v', hv, hrun⟩ := ak0 hA hG hR hc.1 hs;refine .inl ?_;unfold Oper.wp;rw [hrun, Oper.upon_value];exact ih h (eW hA o.dst hv) hG hR hQ
   ·cases hs
  ·obtain ⟨⟨A1, H1⟩, hs, h⟩ := ai.1 h
   simp only at h;unfold bO at hs
   split at hs
   ·rename_i hok
    unfold wpList;rw [hI hA]
    split at hs
    ·rename_i hw
     rw [if_pos hw];obtain ⟨⟨v, H2⟩, ho, e⟩ := au.1 hs;cases e;refine .inl (Hz (Hv hb) hA hG hR hok ho (fun v' ρ' w' hv hE hR' => ?_));exact ih h (eW (hA.mono hE.le) o.dst hv) (hG.mono hE.le) hR' (fun ex a' w'' hp => hQ ex a' w'' (hp.trans hR hE))
    ·rename_i hw
     rw [if_neg hw];cases hs;exact ih h (eW hA o.dst VRel.undef) hG hR hQ
   ·cases hs
section
variable {A : List Value} {p : Nat} {s : List Value × AH} {call : aR}
theorem wx (h : bJ P G call ops (ops.toList.take p) A H = some s) {k : Nat} (hk : k ≤ p) : bJ P G call ops (ops.toList.take k) A H = some (gT P G call ops A H k) := by
 unfold gT
 have e : ops.toList.take p = ops.toList.take k ++ (ops.toList.take p).drop k := by
  have h2 := (List.take_append_drop k (ops.toList.take p)).symm;rw [List.take_take, Nat.min_eq_left hk] at h2;exact h2
 rw [e, nt] at h;obtain ⟨s, hs, _⟩ := ai.1 h;rw [hs]; rfl
theorem JR (h : bJ P G call ops (ops.toList.take p) A H = some s) {i : Nat} {o : Oper} (hi : i < p) (ho : ops[i]? = some o) :
 bO P G call ops o (gT P G call ops A H i).1 (gT P G call ops A H i).2 = some (gT P G call ops A H (i + 1)) := by
 have ho' : ops.toList[i]? = some o := by simpa using ho
 have h1 := wx h (k := i + 1) hi;rw [List.take_add_one, ho', Option.toList_some, nt, wx h (k := i) (by omega)] at h1;simp only [aB, bJ] at h1;obtain ⟨s, hs, e⟩ := ai.1 h1;rw [hs];exact e
def Cv (P : Program) (G : List Nat) (call : aR) (ops : Array Oper) (p : Nat) (A : List Value) (H : AH) : Nat → List Value × AH
 | 0 => (A, H)
 | i + 1 => if i < p then gT P G call ops A H (i + 1) else match ops[i]? with
  | some o => (eF (Cv P G call ops p A H i).1 o.dst undef, (Cv P G call ops p A H i).2)
  | none => Cv P G call ops p A H i
theorem Mv : ∀ i, i ≤ p → Cv P G call ops p A H i = gT P G call ops A H i := by
 intro i hi
 cases i with
 | zero => rfl
 | succ i => simp only [Cv]; rw [if_pos (by omega)]
theorem OK (h : bJ P G call ops (ops.toList.take p) A H = some s) (hk : ∀ j o, ops[j]? = some o → j < p → gG o.op = 0 ∨ gG o.op = 2) (hpn : p ≤ ops.size) : ∀ i, i ≤ p → (gT P G call ops A H i).2 = H := by
 intro i
 induction i with
 | zero => intro _; rfl
 | succ i ih =>
  intro hi
  have ho : ops[i]? = some ops[i] := by simp [show i < ops.size from by omega]
  have h1 := JR h (show i < p from hi) ho;unfold bO at h1
  split at h1
  ·split at h1
   ·obtain ⟨⟨v, H2⟩, hv, e⟩ := au.1 h1
    rw [← e];show H2 = H;rw [← ih (by omega)]
    rcases hk i _ ho hi with h0 | h2
    ·exact (sQ h0 hv).1
    ·rw [BN h2] at hv
     obtain ⟨y, _, e⟩ := au.1 hv;exact (Prod.mk.inj e).2.symm
   ·have e := (kT h1).symm
    rw [e]; exact ih (by omega)
  ·cases h1
theorem Cw (h : bJ P G call ops (ops.toList.take p) A H = some s) (hk : ∀ j o, ops[j]? = some o → j < p → gG o.op = 0 ∨ gG o.op = 2) (hpn : p ≤ ops.size) : ∀ i, (Cv P G call ops p A H i).2 = H := by
 intro i
 induction i with
 | zero => rfl
 | succ i ih =>
  simp only [Cv]
  split
  ·exact OK h hk hpn (i + 1) (by omega)
  ·split
   ·exact ih
   ·exact ih
noncomputable def HA (h : bJ P G call ops (ops.toList.take p) A H = some s) (hreg : pZ ops.toList = true) (hk : ∀ j o, ops[j]? = some o → j < p → gG o.op = 0 ∨ gG o.op = 2) (hpn : p ≤ ops.size) : Tra P G call ops where
 s := Cv P G call ops p A H
 val := fun i => if i < p then ak6 P G call ops A H i else undef
 U := fun i => decide (i < p)
 step := fun i o ho => by
  by_cases hi : i < p
  ·have h1 := JR h hi ho
   rw [Mv i (by omega), Mv (i + 1) (by omega)];simp only [hi, if_true];unfold bO at h1
   split at h1
   ·rename_i hok
    unfold ak6;rw [ho];simp only
    split at h1
    ·rename_i hw
     obtain ⟨⟨v, H2⟩, hv, e⟩ := au.1 h1;rw [if_pos hw, hv, ← e];exact ⟨rfl, .inl ⟨hok, hw, rfl⟩⟩
    ·rename_i hw
     rw [if_neg hw];have e := (kT h1).symm;rw [e];exact ⟨rfl, .inr ⟨.inl (by simpa using hw), rfl, rfl⟩⟩
   ·cases h1
  ·have e : Cv P G call ops p A H (i + 1) = (eF (Cv P G call ops p A H i).1 o.dst undef, (Cv P G call ops p A H i).2) := by
    simp only [Cv];rw [if_neg hi, ho]
   rw [e, if_neg hi];exact ⟨rfl, .inr ⟨.inr (by simpa using hi), rfl, rfl⟩⟩
 back := HI hreg
 pair := HJ hreg
 look := fun j e oj oe hj he h2 h3 hf1 hf2 => by rw [Cw h hk hpn, Cw h hk hpn]
theorem aoR : ∀ (l : List Oper) (A : List Value) (t : Nat), (∀ o ∈ l, o.dst ≠ some t) ∧ (l.foldl (fun A o => eF A o.dst undef) A)[t]? = A[t]? ∨ (l.foldl (fun A o => eF A o.dst undef) A)[t]? = (if t < A.length then some undef else none) := by
 intro l
 induction l with
 | nil => intro A t; exact .inl ⟨fun o h => (by cases h), rfl⟩
 | cons o l ih =>
  intro A t;rw [List.foldl_cons]
  rcases ih (eF A o.dst undef) t with ⟨h1, h2⟩ | h2
  ·by_cases hd : o.dst = some t
   ·right
    rw [h2, hd, zd]
   ·left
    refine ⟨fun o' ho' => ?_, by rw [h2, qt hd]⟩
    rcases Mj.1 ho' with rfl | ho'
    ·exact hd
    ·exact h1 o' ho'
  ·right
   rw [h2, hP]
theorem SC (A : List Value) : (unk ops p A).length = A.length := by
 unfold unk
 generalize ops.toList.take p = l
 induction l generalizing A with
 | nil => rfl
 | cons o l ih => rw [List.foldl_cons, ih, hP]
theorem ahY {T : Tra P G call ops} {L : Nat → Bool} {t : Nat} : ∀ k, k ≤ ops.size → (∀ i o, ops[i]? = some o → L i = true → o.dst ≠ some t) → (AD T L k)[t]? = (T.s 0).1[t]? := by
 intro k
 induction k with
 | zero => intro _ _; rfl
 | succ k ih =>
  intro hk hd
  have ho : ops[k]? = some ops[k] := by simp [show k < ops.size from by omega]
  simp only [AD, ho]
  split
  ·rename_i hL
   rw [qt (hd k _ ho hL)];exact ih (by omega) hd
  ·exact ih (by omega) hd
theorem SB {T : Tra P G call ops} {L : Nat → Bool} (h0 : (T.s 0).1 = A) (hL : ∀ i, L i = true → i < p) : ya (unk ops p A) (AD T L ops.size) := by
 refine ⟨by rw [SC, IR, h0], fun t x hx => ?_⟩
 rcases aoR (ops.toList.take p) A t with ⟨h1, h2⟩ | h2
 ·have hx' : (unk ops p A)[t]? = A[t]? := h2
  rw [hx'] at hx
  right
  rw [ahY ops.size (cr _) (fun i o ho hLi hd => ?_), h0]
  ·exact hx
  ·refine h1 o ?_ hd
   have := hL i hLi;rw [List.mem_iff_getElem?];exact ⟨i, by rw [List.getElem?_take, if_pos this]; simpa using ho⟩
 ·have hx' : (unk ops p A)[t]? = _ := h2
  rw [hx'] at hx
  split at hx
  ·cases hx; exact .inl rfl
  ·cases hx
end
theorem M4 (hb : np P G b) (hmono : en b) (hm : P.follows .mixedOrders = true) {id : Nat} {Q : Exit → Act → World → Prop} {A : List Value} {a : Act} {e : BE} {A' : List Value} {H' : AH} (h : jz P G b ops A H = some (e, A', H'))
 (hA : bf ds P ρ A a) (hG : GlobRel ρ G) (hR : Rel P w0 B ρ H w) (hQ : ∀ ex a' w', IT ds P w0 B G ρ H w e A' H' ex a' w' → Q ex a' w') : (Code.region id ops true).wp P Q a w := by
 have nor : (dy P G (fe b) ops A H).map (fun s => ((.normal : BE), s.1, s.2)) = some (e, A', H') → (Code.region id ops true).wp P Q a w := by
  intro h;obtain ⟨⟨A1, H1⟩, hs, e1⟩ := au.1 h;cases e1;refine Ge (Hv hb) (gF hmono) hm hs hA hG hR (fun a' w' hp => ?_);obtain ⟨ρ', h1, h2, h3, h4⟩ := hp;exact hQ .normal a' w' ⟨ρ', rfl, h1, h2, h3, h4⟩
 unfold jz at h
 split at h
 ·exact nor h
 ·rename_i q hq
  obtain ⟨s, hs, h⟩ := ai.1 h;obtain ⟨fa, hfa, h⟩ := ai.1 h;obtain ⟨⟨o, H1⟩, hbc, h⟩ := ai.1 h
  cases o with
  | ret v => exact nor h
  | pan v =>
   cases h;obtain ⟨dst, args, ats, type, pos, after, ho, hargs, hreg, hk3, hok, hpure, hafter⟩ := yM hq;have hpn := (Array.getElem?_eq_some_iff.1 ho).1;have hT0 : ∀ i, ((HA hs hreg hpure (Nat.le_of_lt hpn)).s i).2 = H := Cw hs hpure (Nat.le_of_lt hpn);have W : Way (HA hs hreg hpure (Nat.le_of_lt hpn)) w0 B ρ w.drew := ⟨Hv hb, gF hmono, hG, hR.drew, ⟨ds, a, hA⟩⟩;refine R8 W hm (w := w) (p := q.1) ho (fun j hj => by show decide (j < q.1) = true; exact dZ hj) hafter rfl hA (fun L a1 w1 ρ1 t I N hL K => ?_)
   have e2 : ρ1.below H.size = ρ1 := by
    funext b1
    unfold aV.below
    split
    ·rfl
    ·cases hb1 : ρ1 b1 with
     | none => rfl
     | some x =>
      have := I.full b1 x hb1;rw [hT0] at this;exact absurd this (by assumption)
   obtain ⟨hRj, hXj⟩ := I.derive W q.1 (agA I N hk3).1 (Nat.le_of_lt hpn) (agA I N hk3).2;rw [hT0, e2] at hRj;rw [hT0, hT0, e2] at hXj
   have hs1 : ((HA hs hreg hpure (Nat.le_of_lt hpn)).s q.1).1 = s.1 := by
    show (Cv P G (fe b) ops q.1 A H q.1).1 = s.1;rw [Mv q.1 (cr _)];have := wx hs (cr q.1);rw [hs] at this;exact congrArg (fun x => x.1) (kT this).symm
   have hs2 : s.2 = H := by
    have h1 := wx hs (cr q.1);rw [hs] at h1;have h2 := OK hs hpure (Nat.le_of_lt hpn) q.1 (cr _);rw [← h2];exact congrArg (fun x => x.2) (kT h1)
   have ev : ∀ x, x ∈ (Op.call ⟨.value q.2.1, args, ats⟩).operands.toList → cf (AD (HA hs hreg hpure (Nat.le_of_lt hpn)) L ops.size) x = cf s.1 x := fun x hx => by rw [I.evs N hx, hs1]
   have hsp : ec P b (cf (AD (HA hs hreg hpure (Nat.le_of_lt hpn)) L ops.size)) (.call ⟨.value q.2.1, args, ats⟩) H = some (.pan v H1) := by
    simp only [ec];rw [ev q.2.1 (by simp [Op.operands, Call.operands]), List.map_congr_left (fun x hx => ev x (by simp only [Op.operands, Call.operands, Array.toList_append, List.mem_append]; exact .inr hx)), hargs, hfa];simp only [aB];rw [← hs2, hbc]
   unfold wpOp;rw [ho];simp only;rw [if_pos (by simp [Region.wanted])];refine .inl (U8 hb I.act (hG.mono hXj.le) hRj hok hsp (fun v' ρ' w' hv hE hR' => ?_));have hE2 : eE ρ H w ρ' H1 w' := eE.of_drew (hXj.trans hR.drew hE);exact hQ _ _ _ ⟨ρ', ⟨v', rfl, hv⟩, ⟨_, SB rfl hL, I.act.mono hE.le⟩, hG.mono hE2.le, hE2, hR'⟩
theorem Dw (hb : np P G b) (hmono : en b) (hm : P.follows .mixedOrders = true) : ∀ (c : Code) {Q : Exit → Act → World → Prop} {ρ : aV} {A : List Value} {H : AH} {a : Act} {w : World} {e : BE} {A' : List Value} {H' : AH},
 aH P G b c A H = some (e, A', H') → bf ds P ρ A a → GlobRel ρ G → Rel P w0 B ρ H w → (∀ ex a' w', IT ds P w0 B G ρ H w e A' H' ex a' w' → Q ex a' w') → c.wp P Q a w := by
 intro c
 induction c with
 | skip =>
  intro Q ρ A H a w e A' H' h hA hG hR hQ;simp only [aH] at h; cases h;exact wp_skip (hQ .normal a w ⟨ρ, rfl, hA, hG, eE.refl _ _ _, hR⟩)
 | label l =>
  intro Q ρ A H a w e A' H' h hA hG hR hQ;simp only [aH] at h; cases h;exact wp_label (hQ .normal a w ⟨ρ, rfl, hA, hG, eE.refl _ _ _, hR⟩)
 | exit id =>
  intro Q ρ A H a w e A' H' h hA hG hR hQ;simp only [aH] at h; cases h;exact wp_exit (hQ (.exit id) a w ⟨ρ, rfl, hA, hG, eE.refl _ _ _, hR⟩)
 | ret =>
  intro Q ρ A H a w e A' H' h hA hG hR hQ;simp only [aH] at h; cases h;exact wp_ret (hQ .ret a w ⟨ρ, rfl, hA, hG, eE.refl _ _ _, hR⟩)
 | region id ops draw =>
  intro Q ρ A H a w e A' H' h hA hG hR hQ;simp only [aH] at h
  cases draw with
  | true => exact M4 hb hmono hm h hA hG hR hQ
  | false => exact wp_region_list (Po hb ops _ h hA hG hR hQ)
 | seq x y ihx ihy =>
  intro Q ρ A H a w e A' H' h hA hG hR hQ;simp only [aH] at h;obtain ⟨⟨e1, A1, H1⟩, hx, h⟩ := ai.1 h;refine wp_seq (ihx hx hA hG hR (fun ex a1 w1 hp => ?_));obtain ⟨ρ1, hex, hA1, hG1, hE1, hR1⟩ := hp
  cases e1 with
  | normal =>
   simp only at h;cases hex;exact ihy h hA1 hG1 hR1 (fun ex a' w' hp => hQ ex a' w' (hp.trans hR hE1))
  | exit id => simp only at h; cases h; cases hex; exact hQ _ a1 w1 ⟨ρ1, rfl, hA1, hG1, hE1, hR1⟩
  | ret => simp only at h; cases h; cases hex; exact hQ _ a1 w1 ⟨ρ1, rfl, hA1, hG1, hE1, hR1⟩
  | pan v => simp only at h; cases h; obtain ⟨v', rfl, hv⟩ := hex; exact hQ _ a1 w1 ⟨ρ1, ⟨v', rfl, hv⟩, hA1, hG1, hE1, hR1⟩
 | cond c x y ihx ihy =>
  intro Q ρ A H a w e A' H' h hA hG hR hQ;simp only [aH] at h
  have hc : ∀ t, cf A c = .bool t → a.eval c = .bool t := by
   intro t ht
   cases c with
   | tmp u =>
    simp only [cf] at ht
    cases hx : A[u]? with
    | none => rw [hx] at ht; simp [undef] at ht
    | some x =>
     rw [hx] at ht;simp only [Option.getD_some] at ht;subst ht;obtain ⟨y, hy, hv⟩ := hA.tmps.get hx;rw [Array.getElem?_toList] at hy;simp only [Act.eval, Array.getD_eq_getD_getElem?, hy, Option.getD_some];exact hv.bool_inv
   | const v => exact ht
   | global g => cases ht
   | func f => cases ht
  split at h
  ·rename_i ht; exact wp_cond (hc _ ht) (ihx h hA hG hR hQ)
  ·rename_i ht; exact wp_cond (hc _ ht) (ihy h hA hG hR hQ)
  ·cases h
 | block id x ih =>
  intro Q ρ A H a w e A' H' h hA hG hR hQ;simp only [aH] at h;obtain ⟨⟨e1, A1, H1⟩, hx, e2⟩ := au.1 h;refine wp_block (ih hx hA hG hR (fun ex a1 w1 hp => ?_));obtain ⟨ρ1, hex, hA1, hG1, hE1, hR1⟩ := hp
  cases e1 with
  | normal => simp only at e2; cases e2; cases hex; exact hQ _ a1 w1 ⟨ρ1, rfl, hA1, hG1, hE1, hR1⟩
  | ret => simp only at e2; cases e2; cases hex; exact hQ _ a1 w1 ⟨ρ1, rfl, hA1, hG1, hE1, hR1⟩
  | pan v => simp only at e2; cases e2; obtain ⟨v', rfl, hv⟩ := hex; exact hQ _ a1 w1 ⟨ρ1, ⟨v', rfl, hv⟩, hA1, hG1, hE1, hR1⟩
  | exit i =>
   simp only at e2;cases hex;simp only [Exit.inBlock]
   split at e2
   ·rename_i hi; cases e2; rw [if_pos hi]; exact hQ _ a1 w1 ⟨ρ1, rfl, hA1, hG1, hE1, hR1⟩
   ·rename_i hi; cases e2; rw [if_neg hi]; exact hQ _ a1 w1 ⟨ρ1, rfl, hA1, hG1, hE1, hR1⟩
 | loop x ih =>
  intro Q ρ A H a w e A' H' h hA hG hR hQ;simp only [aH] at h;obtain ⟨n, hn⟩ := cN.1 h;refine wp_loop_rounds n ?_
  clear h
  induction n generalizing ρ A H a w with
  | zero => cases hn
  | succ n ihn =>
   simp only [eH] at hn;obtain ⟨⟨e1, A1, H1⟩, hx, h⟩ := ai.1 hn;rw [rounds_succ];refine ih hx hA hG hR (fun ex a1 w1 hp => ?_);obtain ⟨ρ1, hex, hA1, hG1, hE1, hR1⟩ := hp
   cases e1 with
   | normal =>
    simp only at h;cases hex;exact ihn hA1 hG1 hR1 (fun ex a' w' hp => hQ ex a' w' (hp.trans hR hE1)) h
   | exit id => simp only at h; cases h; cases hex; exact hQ _ a1 w1 ⟨ρ1, rfl, hA1, hG1, hE1, hR1⟩
   | ret => simp only at h; cases h; cases hex; exact hQ _ a1 w1 ⟨ρ1, rfl, hA1, hG1, hE1, hR1⟩
   | pan v => simp only at h; cases h; obtain ⟨v', rfl, hv⟩ := hex; exact hQ _ a1 w1 ⟨ρ1, ⟨v', rfl, hv⟩, hA1, hG1, hE1, hR1⟩
 | rangeFunc f ps x y => intro Q ρ A H a w e A' H' h; simp [aH] at h
 | scope x => intro Q ρ A H a w e A' H' h; simp [aH] at h
 | goto l => intro Q ρ A H a w e A' H' h; simp [aH] at h
 | refuse s => intro Q ρ A H a w e A' H' h; simp [aH] at h
end
section
variable {P : Program} {G : List Nat} {b : bK}
theorem VD (hm : en b) {ev : Operand → Value} {op : Op} {H H' : AH} {v : Value} (h : ec P b ev op H = some (.pan v H')) : H.size ≤ H'.size := by
 unfold ec at h
 split at h
 ·split at h <;> cases h; exact cr _
 ·split at h <;> cases h
 ·split at h
  ·obtain ⟨y, _, e⟩ := au.1 h; cases e
  ·cases h
 ·split at h
  ·obtain ⟨y, _, e⟩ := au.1 h; cases e
  ·cases h
 ·split at h
  ·obtain ⟨fa, _, h⟩ := ai.1 h
   split at h
   ·rename_i hb; cases h; exact hm _ _ _ _ _ hb
   ·cases h
  ·split at h <;> cases h; exact cr _
  ·cases h
 ·cases h
theorem VC (hm : en b) {ops : Array Oper} : ∀ (l : List Oper) {A : List Value} {H : AH} {r : BR}, m7 P G b ops l A H = some r → H.size ≤ r.2.2.size := by
 intro l
 induction l with
 | nil => intro A H r h; simp only [m7] at h; cases h; exact cr _
 | cons o l ih =>
  intro A H r h;simp only [m7] at h
  split at h
  ·rename_i hs
   cases h;unfold J0 at hs
   split at hs
   ·exact VD hm hs
   ·cases hs
  ·exact ih h
  ·obtain ⟨s, hs, h⟩ := ai.1 h
   refine lS ?_ (ih h);have := jS (gF hm) [o] (P := P) (G := G) (ops := ops) (A := A) (H := H) (r := s) (by simp [bJ, hs]);exact this
theorem Pd (hm : en b) {ops : Array Oper} {A : List Value} {H : AH} {r : BR} (h : jz P G b ops A H = some r) : H.size ≤ r.2.2.size := by
 have nor : (dy P G (fe b) ops A H).map (fun s => ((.normal : BE), s.1, s.2)) = some r → H.size ≤ r.2.2.size := by
  intro h;obtain ⟨s, hs, e1⟩ := au.1 h;cases e1;exact jS (gF hm) _ (dY hs).2.2
 unfold jz at h
 split at h
 ·exact nor h
 ·obtain ⟨s, hs, h⟩ := ai.1 h
  obtain ⟨fa, hfa, h⟩ := ai.1 h;obtain ⟨⟨o, H1⟩, hbc, h⟩ := ai.1 h
  cases o with
  | ret v => exact nor h
  | pan v =>
   cases h;exact lS (jS (gF hm) _ hs) (hm _ _ _ _ _ hbc)
theorem FG (hm : en b) : ∀ (c : Code) {A : List Value} {H : AH} {r : BR}, aH P G b c A H = some r → H.size ≤ r.2.2.size := by
 intro c
 induction c with
 | skip => intro A H r h; simp only [aH] at h; cases h; exact cr _
 | label l => intro A H r h; simp only [aH] at h; cases h; exact cr _
 | exit id => intro A H r h; simp only [aH] at h; cases h; exact cr _
 | ret => intro A H r h; simp only [aH] at h; cases h; exact cr _
 | region id ops draw =>
  intro A H r h;simp only [aH] at h
  cases draw with
  | true => exact Pd hm h
  | false => exact VC hm _ h
 | seq x y ihx ihy =>
  intro A H r h;simp only [aH] at h;obtain ⟨s, hx, h⟩ := ai.1 h;have h1 := ihx hx
  split at h
  ·exact lS h1 (ihy h)
  ·cases h; exact h1
 | cond c x y ihx ihy =>
  intro A H r h;simp only [aH] at h
  split at h
  ·exact ihx h
  ·exact ihy h
  ·cases h
 | block id x ih =>
  intro A H r h;simp only [aH] at h;obtain ⟨s, hx, e2⟩ := au.1 h;have h1 := ih hx
  split at e2
  ·split at e2 <;> (subst e2; exact h1)
  ·subst e2; exact h1
 | loop x ih =>
  intro A H r h;simp only [aH] at h;obtain ⟨n, hn⟩ := cN.1 h
  clear h
  induction n generalizing A H with
  | zero => cases hn
  | succ n ihn =>
   simp only [eH] at hn;obtain ⟨s, hx, h⟩ := ai.1 hn;have h1 := ih hx
   split at h
   ·exact lS h1 (ihn h)
   ·cases h; exact h1
 | rangeFunc f ps x y => intro A H r h; simp [aH] at h
 | scope x => intro A H r h; simp [aH] at h
 | goto l => intro A H r h; simp [aH] at h
 | refuse s => intro A H r h; simp [aH] at h
end
def gu : aR := fun _ _ _ => none
theorem JC {P : Program} {G : List Nat} : ox P G gu := fun _ _ _ _ _ h => by cases h
theorem ui : iA gu := fun _ _ _ _ _ h => by cases h
structure CSh where
 i1 : Nat
 ops : Array Oper
 o1 : Oper
 o2 : Oper
 rest : List Oper
 t1 : Nat
 t2 : Nat
 xt : TypeId
 at' : TypeId
 c2 : Code
def Ke : Code → Option CSh
 | .seq (.region i1 ops false) c2 => match ops.toList with
  | o1 :: o2 :: rest => match o1.dst, o1.op, o1.guard, o2.dst, o2.op, o2.guard with
   | some t1, .call ⟨.builtin .recover, args, _⟩, none, some t2, .typeAssert (.tmp t) xt at' true, none => if t = t1 ∧ args = #[] then some ⟨i1, ops, o1, o2, rest, t1, t2, xt, at', c2⟩ else none
   | _, _, _, _, _, _ => none
  | _ => none
 | _ => none
theorem Nu {c : Code} {s : CSh} (h : Ke c = some s) : c = .seq (.region s.i1 s.ops false) s.c2 ∧ s.ops.toList = s.o1 :: s.o2 :: s.rest ∧ s.o1.dst = some s.t1 ∧ (∃ ats, s.o1.op = .call ⟨.builtin .recover, #[], ats⟩) ∧ s.o1.guard = none ∧
 s.o2.dst = some s.t2 ∧ s.o2.op = .typeAssert (.tmp s.t1) s.xt s.at' true ∧ s.o2.guard = none := by
 unfold Ke at h
 split at h
 ·split at h
  ·rename_i hl
   split at h
   ·rename_i h1 h2 h3 h4 h5 h6
    split at h
    ·rename_i hc
     obtain ⟨rfl, rfl⟩ := hc;cases h;exact ⟨rfl, hl, h1, ⟨_, h2⟩, h3, h4, h5, h6⟩
    ·cases h
   ·cases h
  ·cases h
 ·cases h
noncomputable def Oe (P : Program) (G : List Nat) (n : Nat) (s : CSh) (args : List Value) (v : Value) (H : AH) : Option AH :=
 match v with
 | .iface t y => match P.underlying s.at' with
  | some (.interface _) => none
  | none => none
  | some _ => if t = s.at' ∧ s.t1 < args.length + (n - args.length) then
   (bJ P G gu s.ops s.rest (((args ++ List.replicate (n - args.length) undef).set s.t1 v).set s.t2 (.tuple #[y, .bool true])) H).bind fun q => (ax P G gu s.c2 q.1 q.2).bind fun r => match r.1 with
    | .exit _ => none
    | _ => some r.2.2
   else none
 | _ => none
noncomputable def i4 (P : Program) (G : List Nat) (k : Nat) (args : List Value) (v : Value) (H : AH) : Option AH :=
 match P.funcs[k]? with
 | some fn => if fn.name = "runtime.NumGoroutine" ∨ fn.results ≠ #[] then none else match fn.body with
  | some c => match Ke c with
   | some s => Oe P G fn.ntmps s args v H
   | none => none
  | none => none
 | none => none
section
variable {P : Program} {w0 : World} {B : Nat} {ρ : aV} {H : AH} {w : World} {G : List Nat} {b : bK} {ops : Array Oper}
theorem ahO {Q : Exit → Act → List Frame → World → Prop} {i : Nat} {rest : List Nat} {a : Act} {cs : List Frame} {o : Oper} (ho : ops[i]? = some o) (hw : Region.wanted o (yielded ops a.tmps) = true)
 (h : o.wp P a w (fun a' w' => wpOpsS P ops Q rest a' cs w') (fun e a' w' => Q e a' cs w')) : wpOpsS P ops Q (i :: rest) a cs w := by
 simp only [wpOpsS, ho];rw [if_pos hw];unfold Oper.wp at h
 split
 ·rename_i w' hr
  rw [hr] at h;exact False.elim h
 ·exact h
theorem RT {Q : Exit → Act → List Frame → World → Prop} {cs : List Frame} : ∀ (l : List Oper) (k : Nat), (∀ j, l[j]? = ops[k + j]?) → ∀ {ρ : aV} {A : List Value} {H : AH} {a : Act} {w : World} {A' : List Value} {H' : AH}, bJ P G gu ops l A H = some (A', H') →
 bf [] P ρ A a → GlobRel ρ G → Rel P w0 B ρ H w → (∀ a' w', Fu [] P w0 B G ρ H w A' H' a' w' → Q .normal a' cs w') → wpOpsS P ops Q (List.range' k l.length) a cs w := by
 intro l
 induction l with
 | nil =>
  intro k hk ρ A H a w A' H' h hA hG hR hQ;simp only [bJ] at h;cases h;exact hQ a w ⟨ρ, hA, hG, eE.refl _ _ _, hR⟩
 | cons o rest ih =>
  intro k hk ρ A H a w A' H' h hA hG hR hQ;simp only [bJ] at h;obtain ⟨⟨A1, H1⟩, hs, h⟩ := ai.1 h;simp only at h
  have ho : ops[k]? = some o := by have := hk 0; simpa using this.symm
  have hk' : ∀ j, rest[j]? = ops[k + 1 + j]? := fun j => by
   have := hk (j + 1);rw [show k + 1 + j = k + (j + 1) from by omega, ← this]; simp
  rw [List.length_cons, List.range'_succ];unfold bO at hs
  split at hs
  ·rename_i hok
   split at hs
   ·rename_i hw
    obtain ⟨⟨v, H2⟩, ho', e⟩ := au.1 hs;cases e;refine ahO ho (by rw [hI hA]; exact hw) (Hz JC hA hG hR hok ho' (fun v' ρ' w' hv hE hR' => ?_));exact ih (k + 1) hk' h (eW (hA.mono hE.le) o.dst hv) (hG.mono hE.le) hR' (fun a' w'' hp => hQ a' w'' (hp.trans hR hE))
   ·rename_i hw
    cases hs;simp only [wpOpsS, ho];rw [hI hA, if_neg hw];exact ih (k + 1) hk' h (eW hA o.dst VRel.undef) hG hR hQ
  ·cases hs
theorem RM (hm : P.follows .mixedOrders = true) {k : Nat} {args args' : List Value} {v v' : Value} {H' : AH} (h : i4 P G k args v H = some H') (hl : LRel P ρ args args') (hv : VRel P ρ v v') (hG : GlobRel ρ G) (hR : Rel P w0 B ρ H w) :
 (∃ fn, P.funcs[k]? = some fn ∧ fn.body.isSome = true ∧ fn.name ≠ "runtime.NumGoroutine") ∧
 CallsD P k args'.toArray (.panicking [{ v := v', recovered := false }]) w fun e u' w' => (∃ r, e = .returned r) ∧ u' = .panicking [{ v := v', recovered := true }] ∧ ∃ ρ', eE ρ H w ρ' H' w' ∧ Rel P w0 B ρ' H' w' := by
 unfold i4 at h
 split at h
 rotate_left
 ·cases h
 rename_i fn hf
 split at h
 ·cases h
 rename_i hname
 split at h
 rotate_left
 ·cases h
 rename_i c hb
 split at h
 rotate_left
 ·cases h
 rename_i s hcs
 obtain ⟨hc, hops, hd1, ⟨ats, hop1⟩, hg1, hd2, hop2, hg2⟩ := Nu hcs;have hname1 : fn.name ≠ "runtime.NumGoroutine" := fun e => hname (.inl e);have hres : fn.results = #[] := Classical.not_not.1 fun e => hname (.inr e);refine ⟨⟨fn, hf, by rw [hb]; rfl, hname1⟩, ?_⟩;unfold Oe at h
 split at h
 rotate_left
 ·cases h
 rename_i t y
 obtain ⟨y', rfl, hy⟩ := hv.iface_inv
 split at h
 ·cases h
 ·cases h
 rename_i d hno hu
 split at h
 rotate_left
 ·cases h
 rename_i hcond
 obtain ⟨ht, hlt⟩ := hcond;obtain ⟨⟨A2, H2⟩, h2, h⟩ := ai.1 h;obtain ⟨⟨e3, A3, H3⟩, h3, h⟩ := ai.1 h;refine callsD_of_wpS hf hb fun c0 cs hmode => ?_;rw [hc];have hlen : args.length = args'.length := hl.1
 have hA0 : bf [] P ρ (args ++ List.replicate (fn.ntmps - args.length) undef) { tmps := args'.toArray ++ Array.replicate (fn.ntmps - args'.toArray.size) undef, defers := [] } := by
  refine ⟨?_, rfl⟩;simp only [Array.toList_append, Array.toList_replicate, List.toList_toArray, List.size_toArray, ← hlen]
  exact hl.append ⟨rfl, fun i x y hx hy => by
   rw [List.getElem?_replicate] at hx hy
   split at hx
   ·rename_i hi; rw [if_pos hi] at hy; cases hx; cases hy; exact VRel.undef
   ·cases hx⟩
 have hsz : s.t1 < (args'.toArray ++ Array.replicate (fn.ntmps - args'.toArray.size) undef).size := by simp; omega
 generalize (args'.toArray ++ Array.replicate (fn.ntmps - args'.toArray.size) undef) = T at hA0 hsz
 have g0 : s.ops[0]? = some s.o1 := by
  have : s.ops.toList[0]? = some s.o1 := by rw [hops]; rfl
  simpa using this
 have g1 : s.ops[1]? = some s.o2 := by
  have : s.ops.toList[1]? = some s.o2 := by rw [hops]; rfl
  simpa using this
 have hn : s.ops.size = s.rest.length + 2 := by rw [← Array.length_toList, hops]; rfl
 refine wpS_seq (wpS_region ?_);rw [hn, List.range_eq_range', show s.rest.length + 2 = (s.rest.length + 1) + 1 from rfl, List.range'_succ, List.range'_succ]
 -- recover
 simp only [wpOpsS, g0]
 have hr1 : (execOp ({ tmps := T, defers := [] } : Act).eval s.o1).run P w = .ok .recover w := by
  simp [execOp, hop1, resolve, invoke, builtin]
 rw [if_pos (by simp [Region.wanted, hg1]), hr1]
 have hrec : recoverD (c0 :: cs) = some (.iface t y', { c0 with mode := .panicking [{ v := .iface t y', recovered := true }] } :: cs) := by
  simp [recoverD, hmode]
 simp only [hrec]
 -- what it is
 simp only [g1]
 have hev : (({ tmps := T, defers := [] } : Act).put s.o1.dst (.iface t y')).eval (.tmp s.t1) = .iface t y' := by
  rw [hd1];simp [Act.put, Act.eval, hsz, Array.getD]
 have hr2 : (execOp (({ tmps := T, defers := [] } : Act).put s.o1.dst (.iface t y')).eval s.o2).run P w = .ok (.value (.tuple #[y', .bool true])) w := by
  have hta : (Instr.typeAssert (.iface t y') s.xt s.at' true).run P w = .ok (.tuple #[y', .bool true]) w := by
   unfold Instr.typeAssert;simp only [Sem.run_bind, run_underlying hu, Result.andThen_ok]
   cases d <;> first | (simp [ht]; done) | exact (hno _ rfl).elim
  simp only [execOp, hop2, hev, Sem.run_bind, hta, Result.andThen_ok, Sem.run_pure]
 rw [if_pos (by simp [Region.wanted, hg2]), hr2];simp only [Oper.upon_value];have hA1 := eW (eW hA0 s.o1.dst (hy.iface (t := t))) s.o2.dst (v := .tuple #[y, .bool true]) (v' := .tuple #[y', .bool true])
  (.tuple rfl (fun i p q hp hq => by
   match i, hp, hq with
   | 0, hp, hq => simp at hp hq; subst hp; subst hq; exact hy
   | 1, hp, hq => simp at hp hq; subst hp; subst hq; exact .lit rfl
   | i + 2, hp, hq => simp at hp))
 rw [show eF (eF (args ++ List.replicate (fn.ntmps - args.length) undef) s.o1.dst (.iface t y)) s.o2.dst (.tuple #[y, .bool true]) = ((args ++ List.replicate (fn.ntmps - args.length) undef).set s.t1 (.iface t y)).set s.t2 (.tuple #[y, .bool true]) by rw [hd1, hd2]; rfl] at hA1;refine RT s.rest 2 (fun j => ?_) h2 hA1 hG hR (fun a2 w2 hp => ?_)
 ·have : s.ops.toList[j + 2]? = s.rest[j]? := by rw [hops]; rfl
  rw [← this, show 2 + j = j + 2 from Nat.add_comm ..]; simp
 obtain ⟨ρ2, hA2, hG2, hE2, hR2⟩ := hp;show s.c2.wpS P _ _ _ _;refine wpS_of_wp (yg JC ui hm s.c2 h3 hA2 hG2 hR2 (fun a3 w3 hp => ?_));obtain ⟨ρ3, hA3, hG3, hE3, hR3⟩ := hp;have fin : H3 = H' → a3.defers = [] ∧ ∃ u', ({ c0 with mode := .panicking [{ v := .iface t y', recovered := true }] } : Frame) :: cs = { c0 with mode := u' } :: cs ∧ ∃ v, (results fn a3.tmps).run P w3 = .ok v w3 ∧
  ((∃ r, Ending.returned v = .returned r) ∧ u' = .panicking [{ v := .iface t y', recovered := true }] ∧ ∃ ρ', eE ρ H w ρ' H' w3 ∧ Rel P w0 B ρ' H' w3) := by
  rintro rfl
  exact ⟨hA3.defers, _, rfl, .tuple #[], by simp [results, hres], ⟨_, rfl⟩, rfl, ρ3, hE2.trans hR hE3, hR3⟩
 cases e3 with
 | normal => cases h; exact fin rfl
 | ret => cases h; exact fin rfl
 | exit i => cases h
end
structure RSh where
 c1 : Code
 id2 : Nat
 ops2 : Array Oper
 om : Oper
 df : Oper
 t : Nat
 k : Nat
 cap : Array Operand
 c3 : Code
def jg : Code → Option RSh
 | .seq c1 (.seq (.region id2 ops2 false) c3) => match ops2.toList with
  | [mk, df] => match mk.dst, mk.op, mk.guard, df.dst, df.op, df.guard with
   | some t, .makeFunc (.func k) first cap, none, none, .defer ⟨.value (.tmp t'), args, _⟩, none => if t = t' ∧ first = #[] ∧ args = #[] then some ⟨c1, id2, ops2, mk, df, t, k, cap, c3⟩ else none
   | _, _, _, _, _, _ => none
  | _ => none
 | _ => none
theorem DL {c : Code} {s : RSh} (h : jg c = some s) : c = .seq s.c1 (.seq (.region s.id2 s.ops2 false) s.c3) ∧ s.ops2.toList = [s.om, s.df] ∧ s.om.dst = some s.t ∧
 s.om.op = .makeFunc (.func s.k) #[] s.cap ∧ s.om.guard = none ∧ s.df.dst = none ∧ (∃ ats, s.df.op = .defer ⟨.value (.tmp s.t), #[], ats⟩) ∧ s.df.guard = none := by
 unfold jg at h
 split at h
 ·split at h
  ·rename_i hl
   split at h
   ·rename_i h1 h2 h3 h4 h5 h6
    split at h
    ·rename_i hc
     obtain ⟨rfl, rfl, rfl⟩ := hc;cases h;exact ⟨rfl, hl, h1, h2, h3, h4, ⟨_, h5⟩, h6⟩
    ·cases h
   ·cases h
  ·cases h
 ·cases h
def wi : ResultVar → Bool
 | .cell _ _ => true
 | _ => false
theorem JW {P : Program} {A A2 : List Value} {H : AH} (hf : ya A A2) : ∀ {rs : List ResultVar} {vs : List Value}, rs.all wi = true → nr P A H rs = some vs → nr P A2 H rs = some vs := by
 intro rs
 induction rs with
 | nil => intro vs _ h; exact h
 | cons r rs ih =>
  intro vs hc h;rw [List.all_cons, Bool.and_eq_true] at hc;simp only [nr] at h ⊢;obtain ⟨v, hv, h⟩ := ai.1 h;obtain ⟨us, hus, h⟩ := ai.1 h;rw [ih hc.2 hus]
  have : iC P A2 H r = some v := by
   cases r with
   | tmp t => cases hc.1
   | cell a t =>
    simp only [iC] at hv ⊢
    have e : A2[a]?.getD undef = A[a]?.getD undef ∨ A[a]?.getD undef = undef := by
     cases hA : A[a]? with
     | none => right; rfl
     | some x =>
      rcases hf.2 a x hA with h1 | h1
      ·right; rw [h1]; rfl
      ·left; rw [h1]
    rcases e with e | e
    ·rw [e]; exact hv
    ·rw [e] at hv
     obtain ⟨g, _, hv⟩ := ai.1 hv
     cases g with
     | none => simp [aA, uk, undef] at hv
     | some n => simp [aQ, uk, undef] at hv
  rw [this];exact h
theorem DU {P : Program} {A A2 : List Value} {H : AH} (hf : ya A A2) {rs : List ResultVar} {v : Value} (hc : rs.all wi = true) (h : bZ P A H rs = some v) : bZ P A2 H rs = some v := by
 unfold bZ at h ⊢;obtain ⟨vs, hvs, e⟩ := au.1 h;rw [JW hf hc hvs];exact congrArg some e
noncomputable def iD (P : Program) (G : List Nat) (b : bK) (n : Nat) (rs : List ResultVar) (s : RSh) (args : List Value) (H : AH) : Option (BO × AH) :=
 (ax P G (fe b) s.c1 (args ++ List.replicate (n - args.length) undef) H).bind fun r => match r.1 with
  | .normal => if r.2.1.length ≤ s.t then none else (bO P G (fe b) s.ops2 s.om r.2.1 r.2.2).bind fun q => (aH P G b s.c3 q.1 q.2).bind fun z => match z.1 with
   | .exit _ => none
   | .pan v => match rs.all wi with
    | true => (i4 P G s.k (s.cap.toList.map (cf r.2.1)) v z.2.2).bind fun H4 => (bZ P z.2.1 H4 rs).map fun x => (.ret x, H4)
    | false => none
   | _ => No (eo P s.k) ((bZ P z.2.1 z.2.2 rs).map fun x => (.ret x, z.2.2))
  | .ret => (bZ P r.2.1 r.2.2 rs).map fun x => (.ret x, r.2.2)
  | .exit _ => none
noncomputable def wO (P : Program) (G : List Nat) (b : bK) (n : Nat) (rs : List ResultVar) (c : Code) (args : List Value) (H : AH) : Option (BO × AH) :=
 (aH P G b c (args ++ List.replicate (n - args.length) undef) H).bind fun r => match r.1 with
  | .exit _ => none
  | .pan v => some (.pan v, r.2.2)
  | _ => (bZ P r.2.1 r.2.2 rs).map fun x => (.ret x, r.2.2)
noncomputable def sk (P : Program) (G : List Nat) (b : bK) (fn : Func) (args : List Value) (H : AH) : Option (BO × AH) :=
 if fn.name = "runtime.NumGoroutine" then none else match fn.body with
  | some c => match jg c with
   | none => wO P G b fn.ntmps fn.results.toList c args H
   | some s => iD P G b fn.ntmps fn.results.toList s args H
  | none => none
def fX (n : String) : Bool := n == "strings.Join"
def an5 (args : List Value) (H : AH) : Option Value :=
 match args with
 | [.slice (some ⟨b, o, none⟩) 5 1, .string _] => match dm H b with
  | some cs => match (cs.drop o).take 5 with
   | [Value.string _, Value.string _, Value.string _, Value.string _, Value.string _] => some (.string ⟨#[48, 32, 48, 32, 48, 32, 48, 32, 48]⟩)
   | _ => none
  | none => none
 | _ => none
def amN (P : Program) (G : List Nat) (f : Nat) (args : List Value) (H : AH) (v : Value) : Prop :=
 (∃ fn, P.funcs[f]? = some fn ∧ fn.body.isSome = true ∧ fn.name ≠ "runtime.NumGoroutine") ∧
  ∀ w0 B ρ w args', Rel P w0 B ρ H w → GlobRel ρ G → LRel P ρ args args' →
   Calls P f args'.toArray w fun e w' => ∃ ρ', MY P ρ' (.ret v) e ∧ eE ρ H w ρ' H w' ∧ Rel P w0 B ρ' H w'
noncomputable def cD (P : Program) (G : List Nat) : Nat → bK
 | 0 => fun _ _ _ => none
 | d + 1 => fun f args H => match P.funcs[f]? with
  | some fn => match fX fn.name with
   | true => match an5 args H with
    | some v => No (amN P G f args H v) (some (.ret v, H))
    | none => none
   | false => sk P G (cD P G d) fn args H
  | none => none
section
variable {P : Program} {w0 : World} {B : Nat} {ρ : aV} {H : AH} {w : World} {G : List Nat} {b : bK}
theorem Kh (hb : np P G b) (hmono : en b) (hm : P.follows .mixedOrders = true) {f : Nat} {fn : Func} {c : Code} {s : RSh} (hf : P.funcs[f]? = some fn) (hbd : fn.body = some c) (hd : jg c = some s)
 {args : List Value} {args' : Array Value} {o : BO} {H' : AH} (h : iD P G b fn.ntmps fn.results.toList s args H = some (o, H'))
 (hA : bf [] P ρ (args ++ List.replicate (fn.ntmps - args.length) undef) { tmps := args' ++ Array.replicate (fn.ntmps - args'.size) undef, defers := [] }) (hG : GlobRel ρ G) (hR : Rel P w0 B ρ H w) :
 Calls P f args' w fun e w' => ∃ ρ', MY P ρ' o e ∧ eE ρ H w ρ' H' w' ∧ Rel P w0 B ρ' H' w' := by
 obtain ⟨hc, hl2, hdst, hop, hg, hdd, ⟨ats, hdo⟩, hdg⟩ := DL hd;have hcall := Hv hb;have hmn := gF hmono;unfold iD at h;obtain ⟨⟨e1, A1, H1⟩, h1, h⟩ := ai.1 h
 cases e1 with
 | exit i => cases h
 | ret =>
  simp only at h;refine calls_of_wp_defers hf hbd ?_;rw [hc];refine wp_seq (yg hcall hmn hm s.c1 h1 hA hG hR (fun a1 w1 hp => ?_));obtain ⟨ρ1, hA1, hG1, hE1, hR1⟩ := hp;obtain ⟨x, hx, e⟩ := au.1 h;cases e;obtain ⟨v3, hr3, hv3⟩ := nW hA1 hR1 hx;show Leaves P fn a1.tmps _ a1.defers .returning w1;rw [hA1.defers];exact ⟨v3, hr3, ρ1, ⟨v3, rfl, hv3⟩, hE1, hR1⟩
 | normal =>
  simp only at h
  split at h
  ·cases h
  rename_i hlt
  obtain ⟨⟨A2, H2⟩, h2, h⟩ := ai.1 h;obtain ⟨⟨e3, A3, H3⟩, h3, h⟩ := ai.1 h;refine calls_of_wp_defers hf hbd ?_;rw [hc];refine wp_seq (yg hcall hmn hm s.c1 h1 hA hG hR (fun a1 w1 hp => ?_));obtain ⟨ρ1, hA1, hG1, hE1, hR1⟩ := hp;refine wp_seq (wp_region_list ?_);rw [hl2];have hd1 : a1.defers = [] := hA1.defers;unfold bO at h2
  split at h2
  rotate_left
  ·cases h2
  rename_i hok
  have hwt : Region.wanted s.om (bM s.ops2 A1) = true := by simp [Region.wanted, hg]
  rw [if_pos hwt] at h2;obtain ⟨⟨y, H2'⟩, ho, e⟩ := au.1 h2;cases e;refine wpList_plain hg (fun K hK => eX.wp (Hy hcall hA1 hG1 hR1 hok ho) (fun v' w2 hv => hK _ _ ?_));obtain ⟨ρ2, hv, hE2, hR2⟩ := hv
  have hy : y = .func (.func s.k) #[] (s.cap.map (cf A1)) := by
   unfold dj at ho;rw [hop] at ho;simp at ho;exact ho.1.symm
  rw [hy] at hv;obtain ⟨f', c', rfl, hf', hc'⟩ := hv.func_inv
  have hf0 : f' = #[] := by
   have := hf'.1;simp at this;exact Array.eq_empty_of_size_eq_zero (by simpa using this.symm)
  subst hf0;refine wpList_plain hdg (fun K' hK' => ?_)
  have ht : (a1.put s.om.dst (.func (.func s.k) #[] c')).eval (.tmp s.t) = .func (.func s.k) #[] c' := by
   have hsz : s.t < a1.tmps.size := by have := hA1.tmps.1; simp at this; omega
   rw [hdst];simp [Act.put, Act.eval, hsz, Array.getD]
  have hrun : (execOp (a1.put s.om.dst (.func (.func s.k) #[] c')).eval s.df).run P w2 = .ok (.defer { target := .fn (.func s.k) c', args := #[] }) w2 := by
   simp [execOp, hdo, resolve, ht, Deferred.ofValue]
  unfold Oper.wp;rw [hrun, Oper.upon_defer];refine hK' _ _ (wpList_nil ?_);rw [hdd];have hA2 := eW (hA1.mono hE2.le) s.om.dst hv
  have hpd : ∀ (a : Act) (d : Option Tmp) (x : Value), (a.put d x).defers = a.defers := by intro a d x; cases d <;> rfl
  have hA2' : bf [{ target := .fn (.func s.k) c', args := #[] }] P ρ2 (eF A1 s.om.dst (.func (.func s.k) #[] (s.cap.map (cf A1)))) (({ a1.put s.om.dst (.func (.func s.k) #[] c') with defers := { target := .fn (.func s.k) c', args := #[] } :: (a1.put s.om.dst (.func (.func s.k) #[] c')).defers } : Act).put none undef) := by
   refine ⟨hA2.tmps, ?_⟩;show _ :: (a1.put s.om.dst _).defers = _;rw [hpd, hd1]
  rw [hy] at h3;show s.c3.wp P _ _ _;refine Dw hb hmono hm s.c3 h3 hA2' (hG1.mono hE2.le) hR2 (fun ex a3 w3 hp => ?_);obtain ⟨ρ3, hex, hA3, hG3, hE3, hR3⟩ := hp
  have done : bf [{ target := .fn (.func s.k) c', args := #[] }] P ρ3 A3 a3 → (eo P s.k) → (bZ P A3 H3 fn.results.toList).map (fun x => (BO.ret x, H3)) = some (o, H') → Leaves P fn a3.tmps (fun e w' => ∃ ρ', MY P ρ' o e ∧ eE ρ H w ρ' H' w' ∧ Rel P w0 B ρ' H' w') a3.defers .returning w3 := by
   rintro hA3 ⟨⟨fk, hfk, hbk, hnk⟩, hcd⟩ hx
   obtain ⟨x, hx2, e⟩ := au.1 hx;cases e;obtain ⟨v3, hr3, hv3⟩ := nW hA3 hR3 hx2
   have hbn : ¬ (fk.body = none) := by intro hb; rw [hb] at hbk; cases hbk
   rw [hA3.defers];refine leaves_cons (f := s.k) (args := c') (by simp) (by simp [invoke, callFunc, hfk, hnk, hbn]) (CallsD.mono (hcd _ _) ?_)
   rintro e' u' w' ⟨⟨v0, rfl⟩, rfl, rfl⟩
   exact ⟨v3, hr3, ρ3, ⟨v3, rfl, hv3⟩, hE1.trans hR (hE2.trans hR1 hE3), hR3⟩
  cases e3 with
  | exit i => cases h
  | normal => cases hex; obtain ⟨p, h⟩ := iH h; exact done hA3 p h
  | ret => cases hex; obtain ⟨p, h⟩ := iH h; exact done hA3 p h
  | pan v =>
   obtain ⟨v', rfl, hv'⟩ := hex;simp only at h;obtain ⟨A4, hfg, hA4⟩ := hA3
   split at h
   rotate_left
   ·cases h
   rename_i hcells
   obtain ⟨H4, hmd, h⟩ := ai.1 h;obtain ⟨x, hx, e⟩ := au.1 h;cases e;have hx := DU hfg hcells hx
   have hcl : LRel P ρ3 (s.cap.toList.map (cf A1)) c'.toList := by
    have := hc'.mono hE3.le
    simpa using this
   obtain ⟨⟨fk, hfk, hbk, hnk⟩, hcd⟩ := RM (w0 := w0) (B := B) hm hmd hcl hv' hG3 hR3
   have hbn : ¬ (fk.body = none) := by intro hb; rw [hb] at hbk; cases hbk
   show Leaves P fn a3.tmps _ a3.defers (.panicking _) w3;rw [hA4.defers];refine leaves_cons (f := s.k) (args := c') (by simp) (by simp [invoke, callFunc, hfk, hnk, hbn]) (CallsD.mono (by simpa using hcd) ?_)
   rintro e' u' w' ⟨⟨v0, rfl⟩, rfl, ρ4, hE4, hR4⟩
   obtain ⟨v3, hr3, hv3⟩ := nW (hA4.mono hE4.le) hR4 hx;exact ⟨v3, hr3, ρ4, ⟨v3, rfl, hv3⟩, hE1.trans hR (hE2.trans hR1 (hE3.trans hR2 hE4)), hR4⟩
theorem RL {k : Nat} {args : List Value} {v : Value} {H' : AH} (h : i4 P G k args v H = some H') : H.size ≤ H'.size := by
 unfold i4 at h
 split at h
 ·split at h
  ·cases h
  ·split at h
   ·split at h
    ·unfold Oe at h
     split at h
     ·split at h
      ·cases h
      ·cases h
      ·split at h
       ·obtain ⟨q, h2, h⟩ := ai.1 h
        obtain ⟨r, h3, h⟩ := ai.1 h;have g2 := jS ui _ h2;have g3 := yb ui _ h3
        split at h
        ·cases h
        ·cases h; exact lS g2 g3
       ·cases h
     ·cases h
    ·cases h
   ·cases h
 ·cases h
theorem M2 (hm : en b) {n : Nat} {rs : List ResultVar} {s : RSh} {args : List Value} {o : BO} {H' : AH} (h : iD P G b n rs s args H = some (o, H')) : H.size ≤ H'.size := by
 unfold iD at h;obtain ⟨⟨e1, A1, H1⟩, h1, h⟩ := ai.1 h
 cases e1 with
 | exit i => cases h
 | ret => obtain ⟨x, _, e⟩ := au.1 h; cases e; exact yb (gF hm) _ h1
 | normal =>
  simp only at h
  split at h
  ·cases h
  obtain ⟨⟨A2, H2⟩, h2, h⟩ := ai.1 h;obtain ⟨⟨e3, A3, H3⟩, h3, h⟩ := ai.1 h;have g1 := yb (gF hm) _ h1;have g2 : H1.size ≤ H2.size := jS (P := P) (G := G) (call := fe b) (gF hm) [s.om] (ops := s.ops2) (A := A1) (H := H1) (r := (A2, H2)) (by simp [bJ, h2]);have g3 := FG hm _ h3;simp only at g1 g3;have g : H.size ≤ H3.size := lS g1 (lS g2 g3)
  cases e3 with
  | exit i => cases h
  | normal => obtain ⟨_, h⟩ := iH h; obtain ⟨x, _, e⟩ := au.1 h; cases e; exact g
  | ret => obtain ⟨_, h⟩ := iH h; obtain ⟨x, _, e⟩ := au.1 h; cases e; exact g
  | pan v =>
   simp only at h
   split at h
   rotate_left
   ·cases h
   obtain ⟨H4, hmd, h⟩ := ai.1 h;obtain ⟨x, _, e⟩ := au.1 h;cases e;exact lS g (RL hmd)
theorem Du (hm : P.follows .mixedOrders = true) : ∀ d, np P G (cD P G d) ∧ en (cD P G d) := by
 intro d
 induction d with
 | zero => exact ⟨fun f args H v H' h => (by cases h), fun f args H v H' h => (by cases h)⟩
 | succ d ih =>
  constructor
  ·intro f args H o H' h
   simp only [cD] at h
   split at h
   rotate_left
   ·cases h
   rename_i fn hf
   split at h
   ·split at h
    ·obtain ⟨ht, h⟩ := iH h
     cases h;exact ht
    ·cases h
   unfold sk at h
   split at h
   ·cases h
   rename_i hn
   split at h
   rotate_left
   ·cases h
   rename_i c hb
   refine ⟨⟨fn, hf, by rw [hb]; rfl, hn⟩, fun w0 B ρ w args' hR hG hl => ?_⟩;have hlen : args.length = args'.length := hl.1
   have hA : bf [] P ρ (args ++ List.replicate (fn.ntmps - args.length) undef) { tmps := args'.toArray ++ Array.replicate (fn.ntmps - args'.toArray.size) undef, defers := [] } := by
    refine ⟨?_, rfl⟩;simp only [Array.toList_append, Array.toList_replicate, List.toList_toArray, List.size_toArray, ← hlen]
    exact hl.append ⟨rfl, fun i x y hx hy => by
     rw [List.getElem?_replicate] at hx hy
     split at hx
     ·rename_i hi; rw [if_pos hi] at hy; cases hx; cases hy; exact VRel.undef
     ·cases hx⟩
   split at h
   ·rename_i hd
    unfold wO at h;obtain ⟨⟨e, A', H2⟩, hc, h⟩ := ai.1 h;refine calls_of_wp hf hb ?_;refine Dw ih.1 ih.2 hm c hc hA hG hR (fun ex a' w' hp => ?_);obtain ⟨ρ', hex, hA', hG', hE, hR'⟩ := hp
    have fin : bf [] P ρ' A' a' → ∀ {o : BO} {H3 : AH}, (bZ P A' H2 fn.results.toList).map (fun x => (BO.ret x, H2)) = some (o, H3) → a'.defers = [] ∧ ∃ v', (results fn a'.tmps).run P w' = .ok v' w' ∧ ∃ ρ'', MY P ρ'' o (.returned v') ∧ eE ρ H w ρ'' H3 w' ∧ Rel P w0 B ρ'' H3 w' := by
     intro hA' o H3 hx;obtain ⟨y, hy, e⟩ := au.1 hx;cases e;obtain ⟨v', hr, hv⟩ := nW hA' hR' hy;exact ⟨hA'.defers, v', hr, ρ', ⟨v', rfl, hv⟩, hE, hR'⟩
    cases e with
    | normal => cases hex; exact fin hA' h
    | ret => cases hex; exact fin hA' h
    | exit i => cases h
    | pan v =>
     obtain ⟨v', rfl, hv⟩ := hex;obtain ⟨A2, _, hA'⟩ := hA';cases h;exact ⟨hA'.defers, ρ', ⟨v', rfl, hv⟩, hE, hR'⟩
   ·rename_i s hd
    exact Kh ih.1 ih.2 hm hf hb hd h hA hG hR
  ·intro f args H o H' h
   simp only [cD] at h
   split at h
   rotate_left
   ·cases h
   rename_i fn hf
   split at h
   ·split at h
    ·obtain ⟨_, h⟩ := iH h
     cases h;exact cr _
    ·cases h
   unfold sk at h
   split at h
   ·cases h
   split at h
   rotate_left
   ·cases h
   split at h
   ·unfold wO at h
    obtain ⟨⟨e, A', H2⟩, hc, h⟩ := ai.1 h;have h1 := FG ih.2 _ hc
    cases e with
    | normal => obtain ⟨y, hy, e⟩ := au.1 h; cases e; exact h1
    | ret => obtain ⟨y, hy, e⟩ := au.1 h; cases e; exact h1
    | exit i => cases h
    | pan v => cases h; exact h1
   ·exact M2 ih.2 h
end
def BLe (b1 b2 : bK) : Prop := ∀ f args H r, b1 f args H = some r → b2 f args H = some r
section
variable {P : Program} {G : List Nat} {b b1 b2 : bK} {ops : Array Oper}
theorem fj (h : BLe b1 b2) : CLe (fe b1) (fe b2) := fun f args H r hr => dH.2 (h _ _ _ _ (dH.1 hr))
theorem aiD (h : BLe b1 b2) {ev : Operand → Value} {op : Op} {H : AH} {x : Spc} (hx : ec P b1 ev op H = some x) : ec P b2 ev op H = some x := by
 cases op with
 | call c =>
  obtain ⟨callee, args, ats⟩ := c
  cases callee with
  | value f =>
   simp only [ec] at hx ⊢;obtain ⟨fa, hfa, hx⟩ := ai.1 hx;rw [hfa];simp only [aB]
   split at hx
   ·rename_i v H' hb; rw [h _ _ _ _ hb]; exact hx
   ·cases hx
  | invoke r m => exact hx
  | builtin bi => cases bi <;> exact hx
 | slice t x lo hi mx => cases mx <;> exact hx
 | _ => exact hx
theorem Pf (h : BLe b1 b2) {o : Oper} {A : List Value} {H : AH} {x : Spc} (hx : J0 P G b1 ops o A H = some x) : J0 P G b2 ops o A H = some x := by
 unfold J0 at hx ⊢
 split at hx
 ·rename_i hc
  rw [if_pos hc];exact aiD h hx
 ·cases hx
theorem VE {ev : Operand → Value} {o : Oper} {H : AH} {r : Value × AH} (hr : dj P (fe b) ev o H = some r) : ec P b ev o.op H = none := by
 obtain ⟨dst, op, type, pos, after, guard⟩ := o
 cases op with
 | call c =>
  obtain ⟨callee, args, ats⟩ := c
  cases callee with
  | value f =>
   simp only [dj] at hr;simp only [ec];obtain ⟨fa, hfa, hr⟩ := ai.1 hr;rw [hfa];simp only [aB, dH.1 hr]
  | invoke r m => rfl
  | builtin bi =>
   simp only [dj] at hr
   cases bi <;> first | rfl | (simp [bY] at hr; done)
 | panic x => simp [dj] at hr
 | makeInterface t x => simp [dj] at hr
 | convert src dst x =>
  simp only [ec]
  split
  ·rename_i hc
   obtain ⟨e, h1, h2, h3⟩ := Cj hc;simp only [dj, h1] at hr
   have : k9 P dst = none := by unfold k9; rw [h3]
   rw [this] at hr;simp [aO] at hr
  ·rfl
 | slice t x lo hi mx =>
  cases mx with
  | some m => rfl
  | none =>
   simp only [ec]
   split
   ·rename_i hu
    simp only [dj] at hr;unfold bN at hr;rw [hu] at hr;cases hr
   ·rfl
 | _ => rfl
theorem FI {o : Oper} {A : List Value} {H : AH} {s : List Value × AH} (hs : bO P G (fe b) ops o A H = some s) : J0 P G b ops o A H = none := by
 unfold J0
 split
 ·rename_i hc
  unfold bO at hs;rw [if_pos hc.1, if_pos hc.2] at hs;obtain ⟨r, hr, _⟩ := au.1 hs;exact VE hr
 ·rfl
theorem JZ (h : BLe b1 b2) : ∀ (l : List Oper) {A : List Value} {H : AH} {r : BR}, m7 P G b1 ops l A H = some r → m7 P G b2 ops l A H = some r := by
 intro l
 induction l with
 | nil => intro A H r hr; exact hr
 | cons o l ih =>
  intro A H r hr;simp only [m7] at hr ⊢
  split at hr
  ·rename_i hs; rw [Pf h hs]; exact hr
  ·rename_i hs; rw [Pf h hs]; exact ih hr
  ·obtain ⟨s, hs, hr⟩ := ai.1 hr
   have hs2 := oU (fj h) hs;rw [FI hs2, hs2];exact ih hr
theorem Yb (h : BLe b1 b2) {A : List Value} {H : AH} {r : BR} (hr : jz P G b1 ops A H = some r) : jz P G b2 ops A H = some r := by
 have nor : (dy P G (fe b1) ops A H).map (fun s => ((.normal : BE), s.1, s.2)) = some r → (dy P G (fe b2) ops A H).map (fun s => ((.normal : BE), s.1, s.2)) = some r := by
  intro hr;obtain ⟨s, hs, e1⟩ := au.1 hr;rw [Fv (fj h) hs]; exact congrArg some e1
 unfold jz at hr ⊢
 cases hp : Ak G ops with
 | none => rw [hp] at hr; exact nor hr
 | some q =>
  rw [hp] at hr;simp only at hr ⊢;obtain ⟨s, hs, hr⟩ := ai.1 hr;obtain ⟨fa, hfa, hr⟩ := ai.1 hr;obtain ⟨⟨o, H1⟩, hbc, hr⟩ := ai.1 hr;rw [nu (fj h) _ hs];simp only [aB];rw [hfa];simp only [aB];rw [h _ _ _ _ hbc];simp only [aB]
  cases o with
  | ret v => exact nor hr
  | pan v => exact hr
theorem Pc {A : List Value} {H : AH} {s : List Value × AH} (hs : dy P G (fe b) ops A H = some s) : jz P G b ops A H = some (.normal, s.1, s.2) := by
 unfold jz
 cases hp : Ak G ops with
 | none => simp only [hs]; rfl
 | some q =>
  obtain ⟨_, _, hall⟩ := dY hs;obtain ⟨dst, args, ats, type, pos, after, ho, hargs, hreg, hk3, hok, hpure, hafter⟩ := yM hp;simp only;rw [vg hall q.1];simp only [aB];have h1 := HU hall ho;unfold bO at h1;rw [if_pos hok, if_pos (by simp [Region.wanted])] at h1;obtain ⟨⟨v, H2⟩, hv, _⟩ := au.1 h1;simp only [dj] at hv;obtain ⟨fa, hfa, hv⟩ := ai.1 hv;rw [hargs] at hfa;rw [hfa];simp only [aB];rw [dH.1 hv];simp only [aB, hs]
  rfl
theorem md (h : BLe b1 b2) : ∀ (c : Code) {A : List Value} {H : AH} {r : BR}, aH P G b1 c A H = some r → aH P G b2 c A H = some r := by
 intro c
 induction c with
 | region id ops draw =>
  intro A H r hr;simp only [aH] at hr ⊢
  cases draw with
  | true => exact Yb h hr
  | false => exact JZ h _ hr
 | seq x y ihx ihy =>
  intro A H r hr;simp only [aH] at hr ⊢;obtain ⟨s, hx, hr⟩ := ai.1 hr;rw [ihx hx];simp only [aB]
  split at hr
  ·exact ihy hr
  ·exact hr
 | cond c x y ihx ihy =>
  intro A H r hr;simp only [aH] at hr ⊢
  split at hr
  ·exact ihx hr
  ·exact ihy hr
  ·cases hr
 | block id x ih =>
  intro A H r hr;simp only [aH] at hr ⊢;obtain ⟨s, hx, e2⟩ := au.1 hr;rw [ih hx]; exact congrArg some e2
 | loop x ih =>
  intro A H r hr;simp only [aH] at hr ⊢;obtain ⟨n, hn⟩ := cN.1 hr;refine cN.2 ⟨n, ?_⟩
  clear hr
  induction n generalizing A H with
  | zero => cases hn
  | succ n ihn =>
   simp only [eH] at hn ⊢;obtain ⟨s, hx, hr⟩ := ai.1 hn;rw [ih hx];simp only [aB]
   split at hr
   ·exact ihn hr
   ·exact hr
 | _ => intro A H r hr; exact hr
theorem aiC (h : BLe b1 b2) {fn : Func} {args : List Value} {H : AH} {r : BO × AH} (hr : sk P G b1 fn args H = some r) : sk P G b2 fn args H = some r := by
 unfold sk at hr ⊢
 split at hr
 ·cases hr
 rename_i hn
 rw [if_neg hn]
 split at hr
 rotate_left
 ·cases hr
 split at hr
 ·unfold wO at hr ⊢
  obtain ⟨s, hs, hr⟩ := ai.1 hr;rw [md h _ hs];exact hr
 ·unfold iD at hr ⊢
  obtain ⟨⟨e1, A1, H1⟩, h1, hr⟩ := ai.1 hr;rw [oS (fj h) _ h1];simp only [aB]
  cases e1 with
  | exit i => exact hr
  | ret => exact hr
  | normal =>
   simp only at hr ⊢
   split at hr
   ·cases hr
   rename_i hlt
   rw [if_neg hlt];obtain ⟨q, h2, hr⟩ := ai.1 hr;obtain ⟨z, h3, hr⟩ := ai.1 hr;rw [oU (fj h) h2];simp only [aB];rw [md h _ h3];exact hr
theorem Pa : ∀ d, BLe (cD P G d) (cD P G (d + 1)) := by
 intro d
 induction d with
 | zero => intro f args H r h; cases h
 | succ d ih =>
  intro f args H r h;rw [cD] at h ⊢;simp only [] at h ⊢
  cases hf : P.funcs[f]? with
  | none => rw [hf] at h; cases h
  | some fn =>
   rw [hf] at h;simp only at h ⊢
   cases hl : fX fn.name with
   | true => rw [hl] at h; exact h
   | false => rw [hl] at h; exact aiC ih h
theorem bL {d e : Nat} (h : d ≤ e) : BLe (cD P G d) (cD P G e) := by
 induction e with
 | zero => rw [show d = 0 from by omega]; exact fun _ _ _ _ h => h
 | succ e ih =>
  by_cases hd : d = e + 1
  ·rw [hd]; exact fun _ _ _ _ h => h
  ·exact fun f args H r hr => Pa e f args H r (ih (by omega) f args H r hr)
def AE.up : AE → BE
 | .normal => .normal
 | .exit i => .exit i
 | .ret => .ret
theorem VB : ∀ (l : List Oper) {A : List Value} {H : AH} {s : List Value × AH}, bJ P G (fe b) ops l A H = some s → m7 P G b ops l A H = some (.normal, s.1, s.2) := by
 intro l
 induction l with
 | nil => intro A H s h; simp only [bJ] at h; cases h; rfl
 | cons o l ih =>
  intro A H s h;simp only [bJ] at h;obtain ⟨q, hq, h⟩ := ai.1 h;simp only [m7];rw [FI hq, hq];exact ih h
theorem yc : ∀ (c : Code) {A : List Value} {H : AH} {r : AR}, ax P G (fe b) c A H = some r → aH P G b c A H = some (r.1.up, r.2.1, r.2.2) := by
 intro c
 induction c with
 | skip => intro A H r h; simp only [ax] at h; cases h; rfl
 | label l => intro A H r h; simp only [ax] at h; cases h; rfl
 | exit id => intro A H r h; simp only [ax] at h; cases h; rfl
 | ret => intro A H r h; simp only [ax] at h; cases h; rfl
 | region id ops draw =>
  intro A H r hr;simp only [ax] at hr;simp only [aH];obtain ⟨s, hs, e1⟩ := au.1 hr;cases e1
  cases draw with
  | true => exact Pc hs
  | false => exact VB _ hs
 | seq x y ihx ihy =>
  intro A H r hr;simp only [ax] at hr;simp only [aH];obtain ⟨s, hx, hr⟩ := ai.1 hr;rw [ihx hx];simp only [aB];obtain ⟨e, A1, H1⟩ := s
  cases e with
  | normal => exact ihy hr
  | exit i => cases hr; rfl
  | ret => cases hr; rfl
 | cond c x y ihx ihy =>
  intro A H r hr;simp only [ax] at hr;simp only [aH]
  split at hr
  ·rename_i ht; first | (rw [ht]; exact ihx hr) | exact ihx hr
  ·rename_i ht; first | (rw [ht]; exact ihy hr) | exact ihy hr
  ·cases hr
 | block id x ih =>
  intro A H r hr;simp only [ax] at hr;simp only [aH];obtain ⟨s, hx, e2⟩ := au.1 hr;rw [ih hx];obtain ⟨e, A1, H1⟩ := s
  cases e with
  | normal => cases e2; rfl
  | ret => cases e2; rfl
  | exit i =>
   simp only [ff, AE.up] at e2 ⊢
   split at e2
   ·rename_i hi; cases e2; rw [if_pos hi]
   ·rename_i hi; cases e2; rw [if_neg hi]
 | loop x ih =>
  intro A H r hr;simp only [ax] at hr;simp only [aH];obtain ⟨n, hn⟩ := cH.1 hr;refine cN.2 ⟨n, ?_⟩
  clear hr
  induction n generalizing A H with
  | zero => cases hn
  | succ n ihn =>
   simp only [d9] at hn;simp only [eH];obtain ⟨s, hx, hr⟩ := ai.1 hn;rw [ih hx];simp only [aB];obtain ⟨e, A1, H1⟩ := s
   cases e with
   | normal => exact ihn hr
   | exit i => cases hr; rfl
   | ret => cases hr; rfl
 | _ => intro A H r hr; simp [ax] at hr
theorem O2 {n : Nat} {rs : List ResultVar} {c : Code} {args : List Value} {H : AH} {r : Value × AH} (h : zb P G (fe b) n rs c args H = some r) : wO P G b n rs c args H = some (.ret r.1, r.2) := by
 unfold zb at h;unfold wO;obtain ⟨⟨e, A1, H1⟩, hs, h⟩ := ai.1 h;rw [yc _ hs];simp only [aB]
 cases e with
 | exit i => cases h
 | normal => obtain ⟨x, hx, e⟩ := au.1 h; cases e; simp only [AE.up]; rw [hx]; rfl
 | ret => obtain ⟨x, hx, e⟩ := au.1 h; cases e; simp only [AE.up]; rw [hx]; rfl
theorem MZ {n : Nat} {rs : List ResultVar} {c : Code} {s : RSh} (hs : jg c = some s) {args : List Value} {H : AH} {r : Value × AH} (h : zb P G (fe b) n rs c args H = some r) : iD P G b n rs s args H = some (.ret r.1, r.2) := by
 obtain ⟨hc, hl2, hdst, hop, hg, hdd, ⟨ats, hdo⟩, hdg⟩ := DL hs;unfold zb at h;unfold iD;obtain ⟨⟨e, A1, H1⟩, hs, h⟩ := ai.1 h;rw [hc] at hs;simp only [ax] at hs;obtain ⟨⟨e1, A2, H2⟩, h1, hs⟩ := ai.1 hs;rw [h1];simp only [aB]
 cases e1 with
 | exit i => cases hs; cases h
 | ret =>
  cases hs;obtain ⟨x, hx, e⟩ := au.1 h;cases e;simp only;rw [hx]; rfl
 | normal =>
  exfalso
  simp only at hs;obtain ⟨⟨e3, A3, H3⟩, h3, _⟩ := ai.1 hs;obtain ⟨q, h3, _⟩ := au.1 h3;simp only [fm, hl2, bJ] at h3;obtain ⟨q1, _, h3⟩ := ai.1 h3;obtain ⟨q2, h3, _⟩ := ai.1 h3;unfold bO at h3
  split at h3
  ·rw [if_pos (by simp [Region.wanted, hdg])] at h3
   obtain ⟨z, hz, _⟩ := au.1 h3;unfold dj at hz;rw [hdo] at hz;cases hz
  ·cases h3
theorem IV {fn : Func} {c : Code} (hb : fn.body = some c) (hn : fn.name ≠ "runtime.NumGoroutine") {args : List Value} {H : AH} {r : Value × AH} (h : zb P G (fe b) fn.ntmps fn.results.toList c args H = some r) : sk P G b fn args H = some (.ret r.1, r.2) := by
 unfold sk;rw [if_neg hn, hb];simp only
 cases hs : jg c with
 | none => exact O2 h
 | some s => exact MZ hs h
open Classical in
noncomputable def bF (P : Program) (G : List Nat) : bK := fun f args H => if h : ∃ d r, cD P G d f args H = some r then some h.choose_spec.choose else none
theorem sS {f : Nat} {args : List Value} {H : AH} {r : BO × AH} : bF P G f args H = some r ↔ ∃ d, cD P G d f args H = some r := by
 unfold bF
 constructor
 ·intro h
  split at h
  ·rename_i hx
   cases h;exact ⟨_, hx.choose_spec.choose_spec⟩
  ·cases h
 ·rintro ⟨n, hn⟩
  have hx : ∃ d r, cD P G d f args H = some r := ⟨n, r, hn⟩;rw [dif_pos hx];have h1 := bL (Nat.le_max_right n hx.choose) _ _ _ _ hx.choose_spec.choose_spec;have h2 := bL (Nat.le_max_left n hx.choose) _ _ _ _ hn;rw [h2] at h1;exact h1.symm
noncomputable def aF (P : Program) (G : List Nat) : aR := fe (bF P G)
theorem amO {f : Nat} {args : List Value} {H : AH} {r : Value × AH} : aF P G f args H = some r ↔ ∃ d, fe (cD P G d) f args H = some r := by
 unfold aF;rw [dH, sS];exact ⟨fun ⟨d, h⟩ => ⟨d, dH.2 h⟩, fun ⟨d, h⟩ => ⟨d, dH.1 h⟩⟩
theorem alE (hm : P.follows .mixedOrders = true) : np P G (bF P G) ∧ en (bF P G) := by
 constructor
 ·intro f args H v H' h
  obtain ⟨d, hd⟩ := sS.1 h;exact (Du hm d).1 f args H v H' hd
 ·intro f args H v H' h
  obtain ⟨d, hd⟩ := sS.1 h;exact (Du hm d).2 f args H v H' hd
theorem ao1 (hm : P.follows .mixedOrders = true) : ox P G (aF P G) ∧ iA (aF P G) := ⟨Hv (alE hm).1, gF (alE hm).2⟩
theorem aiB (d : Nat) : BLe (cD P G d) (bF P G) := fun _ _ _ _ h => sS.2 ⟨d, h⟩
theorem ah2 {ev : Operand → Value} {o : Oper} {H : AH} {r : Value × AH} (h : dj P (aF P G) ev o H = some r) : ∃ d, dj P (fe (cD P G d)) ev o H = some r := by
 obtain ⟨dst, op, type, pos, after, guard⟩ := o
 cases op with
 | call c =>
  obtain ⟨callee, args, ats⟩ := c
  cases callee with
  | value f =>
   simp only [dj] at h ⊢;obtain ⟨x, hx, h⟩ := ai.1 h;obtain ⟨d, hd⟩ := amO.1 h;exact ⟨d, by rw [hx]; exact hd⟩
  | invoke r m => exact ⟨0, h⟩
  | builtin b => exact ⟨0, h⟩
 | makeMap t r => cases r <;> exact ⟨0, h⟩
 | slice t x lo hi mx => cases lo <;> cases hi <;> cases mx <;> exact ⟨0, h⟩
 | _ => exact ⟨0, h⟩
theorem BP {o : Oper} {A : List Value} {H : AH} {s : List Value × AH} (hs : bO P G (aF P G) ops o A H = some s) : ∃ d, bO P G (fe (cD P G d)) ops o A H = some s := by
 unfold bO at hs ⊢
 split at hs
 ·rename_i hok
  split at hs
  ·rename_i hw
   obtain ⟨x, hx, e⟩ := au.1 hs;obtain ⟨d, hd⟩ := ah2 hx;exact ⟨d, by rw [if_pos hok, if_pos hw, hd]; exact congrArg some e⟩
  ·rename_i hw
   exact ⟨0, by rw [if_pos hok, if_neg hw]; exact hs⟩
 ·cases hs
theorem Fz : ∀ (l : List Oper) {A : List Value} {H : AH} {r : List Value × AH}, bJ P G (aF P G) ops l A H = some r → ∃ d, bJ P G (fe (cD P G d)) ops l A H = some r := by
 intro l
 induction l with
 | nil => intro A H r hr; exact ⟨0, hr⟩
 | cons o l ih =>
  intro A H r hr;simp only [bJ] at hr ⊢;obtain ⟨s, hs, hr⟩ := ai.1 hr;obtain ⟨d2, h2⟩ := ih hr;obtain ⟨d1, h1⟩ := BP hs;refine ⟨max d1 d2, ?_⟩;rw [oU (fj (bL (Nat.le_max_left ..))) h1];exact nu (fj (bL (Nat.le_max_right ..))) _ h2
theorem IU {A : List Value} {H : AH} {r : List Value × AH} (h : dy P G (aF P G) ops A H = some r) : ∃ d, dy P G (fe (cD P G d)) ops A H = some r := by
 obtain ⟨h1, h2, h3⟩ := dY h;obtain ⟨d, hd⟩ := Fz _ h3;refine ⟨d, ?_⟩;unfold dy;rw [h1];simp only
 cases h4 : dB ops.toList with
 | nil => exact hd
 | cons p ps =>
  simp only;rw [fG ?_]
  ·exact hd
  ·rw [← ag8 (c2 := aF P G) (fj (aiB d)) hd, ← h4]; exact h2
theorem M1 {draw : Bool} {A : List Value} {H : AH} {r : List Value × AH} (h : fm P G (aF P G) ops draw A H = some r) : ∃ d, fm P G (fe (cD P G d)) ops draw A H = some r := by
 cases draw with
 | false => exact Fz _ h
 | true => exact IU h
theorem Vo : ∀ (c : Code) {A : List Value} {H : AH} {r : AR}, ax P G (aF P G) c A H = some r → ∃ d, ax P G (fe (cD P G d)) c A H = some r := by
 intro c
 induction c with
 | region id ops draw =>
  intro A H r hr;simp only [ax] at hr ⊢;obtain ⟨s, hs, e1⟩ := au.1 hr;obtain ⟨d, hd⟩ := M1 hs;exact ⟨d, by rw [hd]; exact congrArg some e1⟩
 | seq x y ihx ihy =>
  intro A H r hr;simp only [ax] at hr ⊢;obtain ⟨s, hx, hr⟩ := ai.1 hr;obtain ⟨d1, h1⟩ := ihx hx
  split at hr
  ·rename_i e
   obtain ⟨d2, h2⟩ := ihy hr;refine ⟨max d1 d2, ?_⟩;rw [oS (fj (bL (Nat.le_max_left ..))) _ h1];simp only [aB, e];exact oS (fj (bL (Nat.le_max_right ..))) _ h2
  ·refine ⟨d1, ?_⟩
   rw [h1];simp only [aB];exact hr
 | cond c x y ihx ihy =>
  intro A H r hr;simp only [ax] at hr ⊢
  split at hr
  ·exact ihx hr
  ·exact ihy hr
  ·cases hr
 | block id x ih =>
  intro A H r hr;simp only [ax] at hr ⊢;obtain ⟨s, hx, e2⟩ := au.1 hr;obtain ⟨d, hd⟩ := ih hx;exact ⟨d, by rw [hd]; exact congrArg some e2⟩
 | loop x ih =>
  intro A H r hr;simp only [ax] at hr ⊢;obtain ⟨n, hn⟩ := cH.1 hr
  have key : ∃ d, d9 (ax P G (fe (cD P G d)) x) n A H = some r := by
   clear hr
   induction n generalizing A H with
   | zero => cases hn
   | succ n ihn =>
    simp only [d9] at hn ⊢;obtain ⟨s, hx, hr⟩ := ai.1 hn;obtain ⟨d1, h1⟩ := ih hx
    split at hr
    ·rename_i e
     obtain ⟨d2, h2⟩ := ihn hr;refine ⟨max d1 d2, ?_⟩;rw [oS (fj (bL (Nat.le_max_left ..))) _ h1];simp only [aB, e]
     have key2 : ∀ (n : Nat) {A : List Value} {H : AH} {r : AR}, d9 (ax P G (fe (cD P G d2)) x) n A H = some r → d9 (ax P G (fe (cD P G (max d1 d2))) x) n A H = some r := by
      intro n
      induction n with
      | zero => intro A H r h; cases h
      | succ n ih2 =>
       intro A H r h;simp only [d9] at h ⊢;obtain ⟨s, hx, hr⟩ := ai.1 h;rw [oS (fj (bL (Nat.le_max_right d1 d2))) _ hx];simp only [aB]
       split at hr
       ·exact ih2 hr
       ·exact hr
     exact key2 n h2
    ·refine ⟨d1, ?_⟩
     rw [h1];simp only [aB];exact hr
  obtain ⟨d, hd⟩ := key;exact ⟨d, cH.2 ⟨n, hd⟩⟩
 | _ => intro A H r hr; exact ⟨0, hr⟩
theorem SF {o : Oper} {A : List Value} {H : AH} {x : Spc} (hx : J0 P G (bF P G) ops o A H = some x) : ∃ d, J0 P G (cD P G d) ops o A H = some x := by
 unfold J0 at hx ⊢
 split at hx
 rotate_left
 ·cases hx
 rename_i hc
 have key : ∃ d, ec P (cD P G d) (cf A) o.op H = some x := by
  generalize o.op = op at hx
  cases op with
  | call c =>
   obtain ⟨callee, args, ats⟩ := c
   cases callee with
   | value f =>
    simp only [ec] at hx ⊢;obtain ⟨fa, hfa, hx⟩ := ai.1 hx
    split at hx
    ·rename_i v H' hb
     obtain ⟨d, hd⟩ := sS.1 hb;exact ⟨d, by rw [hfa]; simp only [aB, hd]; exact hx⟩
    ·cases hx
   | invoke r m => exact ⟨0, hx⟩
   | builtin b => exact ⟨0, by cases b <;> exact hx⟩
  | slice t x lo hi mx => exact ⟨0, by cases mx <;> exact hx⟩
  | _ => exact ⟨0, hx⟩
 obtain ⟨d, hd⟩ := key;exact ⟨d, by rw [if_pos hc]; exact hd⟩
theorem Yd : ∀ (l : List Oper) {A : List Value} {H : AH} {r : BR}, m7 P G (bF P G) ops l A H = some r → ∃ d, m7 P G (cD P G d) ops l A H = some r := by
 intro l
 induction l with
 | nil => intro A H r hr; exact ⟨0, hr⟩
 | cons o l ih =>
  intro A H r hr;simp only [m7] at hr ⊢
  split at hr
  ·rename_i hs
   obtain ⟨d, hd⟩ := SF hs;exact ⟨d, by rw [hd]; exact hr⟩
  ·rename_i hs
   obtain ⟨d1, h1⟩ := SF hs;obtain ⟨d2, h2⟩ := ih hr;refine ⟨max d1 d2, ?_⟩;rw [Pf (bL (Nat.le_max_left ..)) h1];exact JZ (bL (Nat.le_max_right ..)) _ h2
  ·obtain ⟨s, hs, hr⟩ := ai.1 hr
   obtain ⟨d2, h2⟩ := ih hr;obtain ⟨d1, h1⟩ := BP hs;refine ⟨max d1 d2, ?_⟩;have h1' := oU (fj (bL (Nat.le_max_left d1 d2))) h1;rw [FI h1', h1'];exact JZ (bL (Nat.le_max_right ..)) _ h2
theorem Vy {A : List Value} {H : AH} {r : BR} (hr : jz P G (bF P G) ops A H = some r) : ∃ d, jz P G (cD P G d) ops A H = some r := by
 have nor : (dy P G (fe (bF P G)) ops A H).map (fun s => ((.normal : BE), s.1, s.2)) = some r → ∃ d, (dy P G (fe (cD P G d)) ops A H).map (fun s => ((.normal : BE), s.1, s.2)) = some r := by
  intro hr;obtain ⟨s, hs, e1⟩ := au.1 hr;obtain ⟨d, hd⟩ := IU hs;exact ⟨d, by rw [hd]; exact congrArg some e1⟩
 have up : ∀ {d d' : Nat}, d ≤ d' → (dy P G (fe (cD P G d)) ops A H).map (fun s => ((.normal : BE), s.1, s.2)) = some r → (dy P G (fe (cD P G d')) ops A H).map (fun s => ((.normal : BE), s.1, s.2)) = some r := by
  intro d d' hd h;obtain ⟨s, hs, e1⟩ := au.1 h;rw [Fv (fj (bL hd)) hs]; exact congrArg some e1
 unfold jz at hr ⊢
 cases hp : Ak G ops with
 | none => rw [hp] at hr; exact nor hr
 | some q =>
  rw [hp] at hr;simp only at hr ⊢;obtain ⟨s, hs, hr⟩ := ai.1 hr;obtain ⟨fa, hfa, hr⟩ := ai.1 hr;obtain ⟨⟨o, H1⟩, hbc, hr⟩ := ai.1 hr;obtain ⟨d1, h1⟩ := Fz _ hs;obtain ⟨d2, h2⟩ := sS.1 hbc
  cases o with
  | ret v =>
   obtain ⟨d3, h3⟩ := nor hr;refine ⟨max d1 (max d2 d3), ?_⟩;rw [nu (fj (bL (Nat.le_max_left ..))) _ h1];simp only [aB];rw [hfa];simp only [aB];rw [bL (lS (Nat.le_max_left ..) (Nat.le_max_right ..)) _ _ _ _ h2];simp only [aB];exact up (lS (Nat.le_max_right ..) (Nat.le_max_right ..)) h3
  | pan v =>
   refine ⟨max d1 d2, ?_⟩;rw [nu (fj (bL (Nat.le_max_left ..))) _ h1];simp only [aB];rw [hfa];simp only [aB];rw [bL (Nat.le_max_right ..) _ _ _ _ h2];simp only [aB];exact hr
theorem IW : ∀ (c : Code) {A : List Value} {H : AH} {r : BR}, aH P G (bF P G) c A H = some r → ∃ d, aH P G (cD P G d) c A H = some r := by
 intro c
 induction c with
 | region id ops draw =>
  intro A H r hr;simp only [aH] at hr ⊢
  cases draw with
  | true => exact Vy hr
  | false => exact Yd _ hr
 | seq x y ihx ihy =>
  intro A H r hr;simp only [aH] at hr ⊢;obtain ⟨s, hx, hr⟩ := ai.1 hr;obtain ⟨d1, h1⟩ := ihx hx
  split at hr
  ·rename_i e
   obtain ⟨d2, h2⟩ := ihy hr;refine ⟨max d1 d2, ?_⟩;rw [md (bL (Nat.le_max_left ..)) _ h1];simp only [aB, e];exact md (bL (Nat.le_max_right ..)) _ h2
  ·refine ⟨d1, ?_⟩
   rw [h1];simp only [aB];exact hr
 | cond c x y ihx ihy =>
  intro A H r hr;simp only [aH] at hr ⊢
  split at hr
  ·exact ihx hr
  ·exact ihy hr
  ·cases hr
 | block id x ih =>
  intro A H r hr;simp only [aH] at hr ⊢;obtain ⟨s, hx, e2⟩ := au.1 hr;obtain ⟨d, hd⟩ := ih hx;exact ⟨d, by rw [hd]; exact congrArg some e2⟩
 | loop x ih =>
  intro A H r hr;simp only [aH] at hr ⊢;obtain ⟨n, hn⟩ := cN.1 hr
  have key : ∃ d, eH (aH P G (cD P G d) x) n A H = some r := by
   clear hr
   induction n generalizing A H with
   | zero => cases hn
   | succ n ihn =>
    simp only [eH] at hn ⊢;obtain ⟨s, hx, hr⟩ := ai.1 hn;obtain ⟨d1, h1⟩ := ih hx
    split at hr
    ·rename_i e
     obtain ⟨d2, h2⟩ := ihn hr;refine ⟨max d1 d2, ?_⟩;rw [md (bL (Nat.le_max_left ..)) _ h1];simp only [aB, e]
     have key2 : ∀ (n : Nat) {A : List Value} {H : AH} {r : BR}, eH (aH P G (cD P G d2) x) n A H = some r → eH (aH P G (cD P G (max d1 d2)) x) n A H = some r := by
      intro n
      induction n with
      | zero => intro A H r h; cases h
      | succ n ih2 =>
       intro A H r h;simp only [eH] at h ⊢;obtain ⟨s, hx, hr⟩ := ai.1 h;rw [md (bL (Nat.le_max_right d1 d2)) _ hx];simp only [aB]
       split at hr
       ·exact ih2 hr
       ·exact hr
     exact key2 n h2
    ·refine ⟨d1, ?_⟩
     rw [h1];simp only [aB];exact hr
  obtain ⟨d, hd⟩ := key;exact ⟨d, cN.2 ⟨n, hd⟩⟩
 | _ => intro A H r hr; exact ⟨0, hr⟩
theorem IX {b : bK} {fn : Func} {c : Code} (hn : fn.name ≠ "runtime.NumGoroutine") (hb : fn.body = some c) (hs : jg c = none) (args : List Value) (H : AH) : sk P G b fn args H = wO P G b fn.ntmps fn.results.toList c args H := by
 unfold sk;rw [if_neg hn, hb];simp only [hs]
theorem yd {b : bK} {fn : Func} {c : Code} {s : RSh} (hn : fn.name ≠ "runtime.NumGoroutine") (hb : fn.body = some c) (hs : jg c = some s) (args : List Value) (H : AH) : sk P G b fn args H = iD P G b fn.ntmps fn.results.toList s args H := by
 unfold sk;rw [if_neg hn, hb];simp only [hs]
theorem M3 {f : Nat} {fn : Func} (hf : P.funcs[f]? = some fn) (hl : fX fn.name = false) {args : List Value} {H : AH} {r : BO × AH} (h : sk P G (bF P G) fn args H = some r) : bF P G f args H = some r := by
 have key : ∃ d, sk P G (cD P G d) fn args H = some r := by
  by_cases hn : fn.name = "runtime.NumGoroutine"
  ·unfold sk at h; rw [if_pos hn] at h; cases h
  cases hb : fn.body with
  | none => unfold sk at h; rw [if_neg hn, hb] at h; cases h
  | some c =>
  cases hs : jg c with
  | none =>
   rw [IX hn hb hs] at h;simp only [IX hn hb hs];unfold wO at h ⊢;obtain ⟨s, hs, h⟩ := ai.1 h;obtain ⟨d, hd⟩ := IW _ hs;exact ⟨d, by rw [hd]; exact h⟩
  | some s =>
   rw [yd hn hb hs] at h;simp only [yd hn hb hs];unfold iD at h ⊢;obtain ⟨⟨e1, A1, H1⟩, h1, h⟩ := ai.1 h;have hx : aH P G (bF P G) s.c1 (args ++ List.replicate (fn.ntmps - args.length) undef) H = some (e1.up, A1, H1) := yc _ h1;obtain ⟨d1, g1⟩ : ∃ d, ax P G (fe (cD P G d)) s.c1 (args ++ List.replicate (fn.ntmps - args.length) undef) H = some (e1, A1, H1) := Vo _ h1
   cases e1 with
   | exit i => cases h
   | ret => exact ⟨d1, by rw [g1]; exact h⟩
   | normal =>
    simp only at h
    split at h
    ·cases h
    rename_i hlt
    obtain ⟨q, h2, h⟩ := ai.1 h;obtain ⟨z, h3, h⟩ := ai.1 h;obtain ⟨d2, g2⟩ := BP h2;obtain ⟨d3, g3⟩ := IW _ h3;refine ⟨max d1 (max d2 d3), ?_⟩;rw [oS (fj (bL (Nat.le_max_left ..))) _ g1];simp only [aB];rw [if_neg hlt, oU (fj (bL (lS (Nat.le_max_left ..) (Nat.le_max_right ..)))) g2];simp only [aB];rw [md (bL (lS (Nat.le_max_right ..) (Nat.le_max_right ..))) _ g3];exact h
 obtain ⟨d, hd⟩ := key;refine sS.2 ⟨d + 1, ?_⟩;rw [cD];simp only [];rw [hf];simp only;rw [hl];exact hd
theorem amU {f : Nat} {fn : Func} (hf : P.funcs[f]? = some fn) (hl : fX fn.name = true) {args : List Value} {H : AH} {v : Value} (hv : an5 args H = some v) (ht : amN P G f args H v) : bF P G f args H = some (.ret v, H) := by
 refine sS.2 ⟨1, ?_⟩;rw [cD];simp only [];rw [hf];simp only;rw [hl];simp only;rw [hv];exact fG ht _
theorem ao0 {f : Nat} {fn : Func} {c : Code} (hf : P.funcs[f]? = some fn) (hb : fn.body = some c) (hn : fn.name ≠ "runtime.NumGoroutine") (hds : PE c = none) (hl : fX fn.name = false) {args : List Value} {H : AH} {r : Value × AH}
 (h : zb P G (aF P G) fn.ntmps fn.results.toList c args H = some r) : aF P G f args H = some r :=
 dH.2 (M3 hf hl (IV hb hn h))
end
section
variable {R : Type}
abbrev tb {α β : Type} (x : Option α) (f : α → Option β) : Option β :=
 match x with
 | some a => f a
 | none => none
theorem OR {α β : Type} (x : Option α) (f : α → Option β) : tb x f = x.bind f := by cases x <;> rfl
abbrev fV (P : Program) (b : Builtin) (argTypes : Array TypeId) (args : List Value) (H : AH) (k : Value → AH → Option R) : Option R :=
 match b, args with
 | .len, [x] => match (argTypes[0]?).bind fun t => P.underlying t with
  | some (.slice _) => match x with | .slice _ n _ => k (.int .i64 n) H | _ => none
  | some .string => match x with | .string s => k (.int .i64 s.size) H | _ => none
  | some (.map _ _) => (nO x H).bind fun v => k v H
  | _ => none
 | .max, args => (pM args).bind fun v => k v H
 | .min, args => (pN args).bind fun v => k v H
 | .append, [s, x] => (argTypes[0]?).bind fun t => (bN P t).bind fun el => (cm P el).bind fun e => (eY P el).bind fun by' => (bq P el).bind fun z =>
  if z.cells.size = e ∧ (argTypes[1]?).bind (fun u => bN P u) = some el then (cz e by' s x H).bind fun r => k r.1 r.2 else none
 | .delete, [m, key] => (argTypes[0]?).bind fun t => (ca P t).bind fun kt => (cE P kt.1).bind fun fl => (nN fl m key H).bind fun H' => k (.tuple #[]) H'
 | _, _ => none
abbrev sm (P : Program) (call : aR) (ev : Operand → Value) (o : Oper) (H : AH) (k : Value → AH → Option R) : Option R :=
 match o.op with
 | .move x => k (ev x) H
 | .assign x => k (ev x) H
 | .pick c a b => (aE (ev c) (ev a) (ev b)).bind fun v => k v H
 | .alloc t => (bq P t).bind fun z => k (.pointer (some ⟨H.size, 0, none⟩)) (H.push (.cells false z.cells.toList))
 | .box _ x => k (.pointer (some ⟨H.size, 0, none⟩)) (H.push (.cells false (ev x).cells.toList))
 | .build t parts => match P.underlying t with
  | some (.struct fs) => (bq P t).bind fun z => (i8 P fs.toList).bind fun ps => (cA (ps[·]?) z.cells.toList (parts.toList.map fun p => (p.1, ev p.2))).bind fun cs => k (.agg cs.toArray) H
  | some (.array _ el) => (bq P t).bind fun z => (cm P el).bind fun e => (cA (fun i => some (i * e, e)) z.cells.toList (parts.toList.map fun p => (p.1, ev p.2))).bind fun cs => k (.agg cs.toArray) H
  | _ => none
 | .buildSlice t len parts => (bN P t).bind fun el => (cm P el).bind fun e => (bq P el).bind fun z =>
  if 0 < e ∧ z.cells.size = e ∧ len * e ≤ 2 ^ 24 then
   (cA (fun i => some (i * e, e)) (List.replicate len z.cells.toList).flatten (parts.toList.map fun p => (p.1, ev p.2))).bind fun cs => k (.slice (some ⟨H.size, 0, none⟩) len e) (H.push (.cells false cs))
  else none
 | .load t a => (eG P t).bind fun g => match g with
  | some n => (aQ n (ev a) H).bind fun v => k v H
  | none => (aA (ev a) H).bind fun v => k v H
 | .store t a x => (cm P t).bind fun n => (fT n (ev a) (ev x) H).bind fun H' => k undef H'
 | .nilCheck x => (yL (ev x)).bind fun v => k v H
 | .binOp op t x y _ => (ag (Dv P t) op (ev x) (ev y)).bind fun v => k v H
 | .unOp op _ x => (xi op (ev x)).bind fun v => k v H
 | .convert src dst x => match P.underlying src with
  | some _ => (aO (k9 P dst) (ev x)).bind fun v => k v H
  | none => none
 | .makeFunc fn first captured => k (.func fn (first.map ev) (captured.map ev)) H
 | .makeMap _ none => k (.map (some H.size)) (H.push (.map [] 0))
 | .makeSlice t l c => (bN P t).bind fun el => (cm P el).bind fun e => (eY P el).bind fun by' => (bq P el).bind fun z => (mD z.cells.toList e by' (ev l) (ev c) H).bind fun r => k r.1 r.2
 | .slice t x lo hi none => (bN P t).bind fun el => (cm P el).bind fun e => (eV e (ev x) (lo.map ev) (hi.map ev)).bind fun v => k v H
 | .slice t x none (some hi) (some mx) => (bN P t).bind fun el => (cm P el).bind fun _ => (i7 (ev x) (ev hi) (ev mx)).bind fun v => k v H
 | .fieldAddr s x f => (kf P s f).bind fun f => (cm P f.type).bind fun n => if n = 0 then none else (IE f.offset (ev x)).bind fun v => k v H
 | .field s x f => (kf P s f).bind fun f => (eG P f.type).bind fun n => (mF n f.offset (ev x)).bind fun v => k v H
 | .indexAddr t x i => match P.underlying t with
  | some (.slice el) => (cm P el).bind fun e => (pL e (ev x) (ev i)).bind fun v => k v H
  | some (.array len el) => (cm P el).bind fun e => (il len e (ev x) (ev i)).bind fun v => k v H
  | _ => none
 | .index t x i => match P.underlying t with
  | some (.array len el) => (cm P el).bind fun e => (eG P el).bind fun n => (eU len n e (ev x) (ev i)).bind fun v => k v H
  | some .string => (i6 (ev x) (ev i)).bind fun v => k v H
  | _ => none
 | .lookup t m key ok => (ca P t).bind fun kt => (cE P kt.1).bind fun fl => (bq P kt.2).bind fun z => (km fl z (ev m) (ev key) ok H).bind fun v => k v H
 | .mapUpdate t m key x => (ca P t).bind fun kt => (cE P kt.1).bind fun fl => (nP fl (ev m) (ev key) (ev x) H).bind fun H' => k undef H'
 | .extract t i => (ar (ev t) i).bind fun v => k v H
 | .call c => match c.callee with
  | .builtin b => fV P b c.argTypes (c.args.toList.map ev) H k
  | .value f => (dt (ev f) (c.args.toList.map ev)).bind fun fa => (call fa.1 fa.2 H).bind fun r => k r.1 r.2
  | _ => none
 | _ => none
abbrev oX (P : Program) (b : Builtin) (argTypes : Array TypeId) (args : List Value) (H : AH) (k : Value → AH → Option R) : Option R :=
 match b, args with
 | .len, [x] => match (argTypes[0]?).bind fun t => P.underlying t with
  | some (.slice _) => match x with | .slice _ n _ => k (.int .i64 n) H | _ => none
  | some .string => match x with | .string s => k (.int .i64 s.size) H | _ => none
  | some (.map _ _) => (nO x H).bind fun v => k v H
  | _ => none
 | .max, args => (pM args).bind fun v => k v H
 | .min, args => (pN args).bind fun v => k v H
 | .append, [s, x] => tb (argTypes[0]?) fun t => tb (bN P t) fun el => tb (cm P el) fun e => tb (eY P el) fun by' => tb (bq P el) fun z =>
  if z.cells.size = e ∧ (argTypes[1]?).bind (fun u => bN P u) = some el then (cz e by' s x H).bind fun r => k r.1 r.2 else none
 | .delete, [m, key] => tb (argTypes[0]?) fun t => tb (ca P t) fun kt => tb (cE P kt.1) fun fl => (nN fl m key H).bind fun H' => k (.tuple #[]) H'
 | _, _ => none
abbrev Yl (P : Program) (call : aR) (ev : Operand → Value) (o : Oper) (H : AH) (k : Value → AH → Option R) : Option R :=
 match o.op with
 | .move x => k (ev x) H
 | .assign x => k (ev x) H
 | .pick c a b => (aE (ev c) (ev a) (ev b)).bind fun v => k v H
 | .alloc t => tb (bq P t) fun z => k (.pointer (some ⟨H.size, 0, none⟩)) (H.push (.cells false z.cells.toList))
 | .box _ x => k (.pointer (some ⟨H.size, 0, none⟩)) (H.push (.cells false (ev x).cells.toList))
 | .build t parts => match P.underlying t with
  | some (.struct fs) => tb (bq P t) fun z => tb (i8 P fs.toList) fun ps => (cA (ps[·]?) z.cells.toList (parts.toList.map fun p => (p.1, ev p.2))).bind fun cs => k (.agg cs.toArray) H
  | some (.array _ el) => tb (bq P t) fun z => tb (cm P el) fun e => (cA (fun i => some (i * e, e)) z.cells.toList (parts.toList.map fun p => (p.1, ev p.2))).bind fun cs => k (.agg cs.toArray) H
  | _ => none
 | .buildSlice t len parts => tb (bN P t) fun el => tb (cm P el) fun e => tb (bq P el) fun z =>
  if 0 < e ∧ z.cells.size = e ∧ len * e ≤ 2 ^ 24 then
   (cA (fun i => some (i * e, e)) (List.replicate len z.cells.toList).flatten (parts.toList.map fun p => (p.1, ev p.2))).bind fun cs => k (.slice (some ⟨H.size, 0, none⟩) len e) (H.push (.cells false cs))
  else none
 | .load t a => tb (eG P t) fun g => match g with
  | some n => (aQ n (ev a) H).bind fun v => k v H
  | none => (aA (ev a) H).bind fun v => k v H
 | .store t a x => tb (cm P t) fun n => (fT n (ev a) (ev x) H).bind fun H' => k undef H'
 | .nilCheck x => (yL (ev x)).bind fun v => k v H
 | .binOp op t x y _ => (ag (Dv P t) op (ev x) (ev y)).bind fun v => k v H
 | .unOp op _ x => (xi op (ev x)).bind fun v => k v H
 | .convert src dst x => match P.underlying src with
  | some _ => (aO (k9 P dst) (ev x)).bind fun v => k v H
  | none => none
 | .makeFunc fn first captured => k (.func fn (first.map ev) (captured.map ev)) H
 | .makeMap _ none => k (.map (some H.size)) (H.push (.map [] 0))
 | .makeSlice t l c => tb (bN P t) fun el => tb (cm P el) fun e => tb (eY P el) fun by' => tb (bq P el) fun z => (mD z.cells.toList e by' (ev l) (ev c) H).bind fun r => k r.1 r.2
 | .slice t x lo hi none => tb (bN P t) fun el => tb (cm P el) fun e => (eV e (ev x) (lo.map ev) (hi.map ev)).bind fun v => k v H
 | .slice t x none (some hi) (some mx) => tb (bN P t) fun el => tb (cm P el) fun _ => (i7 (ev x) (ev hi) (ev mx)).bind fun v => k v H
 | .fieldAddr s x f => tb (kf P s f) fun f => tb (cm P f.type) fun n => if n = 0 then none else (IE f.offset (ev x)).bind fun v => k v H
 | .field s x f => tb (kf P s f) fun f => tb (eG P f.type) fun n => (mF n f.offset (ev x)).bind fun v => k v H
 | .indexAddr t x i => match P.underlying t with
  | some (.slice el) => tb (cm P el) fun e => (pL e (ev x) (ev i)).bind fun v => k v H
  | some (.array len el) => tb (cm P el) fun e => (il len e (ev x) (ev i)).bind fun v => k v H
  | _ => none
 | .index t x i => match P.underlying t with
  | some (.array len el) => tb (cm P el) fun e => tb (eG P el) fun n => (eU len n e (ev x) (ev i)).bind fun v => k v H
  | some .string => (i6 (ev x) (ev i)).bind fun v => k v H
  | _ => none
 | .lookup t m key ok => tb (ca P t) fun kt => tb (cE P kt.1) fun fl => tb (bq P kt.2) fun z => (km fl z (ev m) (ev key) ok H).bind fun v => k v H
 | .mapUpdate t m key x => tb (ca P t) fun kt => tb (cE P kt.1) fun fl => (nP fl (ev m) (ev key) (ev x) H).bind fun H' => k undef H'
 | .extract t i => (ar (ev t) i).bind fun v => k v H
 | .call c => match c.callee with
  | .builtin b => oX P b c.argTypes (c.args.toList.map ev) H k
  | .value f => (dt (ev f) (c.args.toList.map ev)).bind fun fa => (call fa.1 fa.2 H).bind fun r => k r.1 r.2
  | _ => none
 | _ => none
theorem fI {α β γ : Type} (x : Option α) (b : β) (k : α → β → Option γ) : ((x.map (·, b)).bind fun r => k r.1 r.2) = x.bind fun v => k v b := by cases x <;> rfl
theorem Cr {β γ : Type} (x : Option β) (v : Value) (k : Value → β → Option γ) : ((x.map fun H' => (v, H')).bind fun r => k r.1 r.2) = x.bind fun H' => k v H' := by cases x <;> rfl
theorem zh (P : Program) (b : Builtin) (ts : Array TypeId) (args : List Value) (H : AH) (k : Value → AH → Option R) : fV P b ts args H k = (bY P b ts args H).bind fun r => k r.1 r.2 := by
 cases b with
 | len =>
  match args with
  | [] => rfl
  | [x] =>
   simp only [fV, bY]
   cases (ts[0]?).bind fun t => P.underlying t with
   | none => rfl
   | some d => cases d <;> first | rfl | (cases x <;> rfl) | (simp only [fI])
  | x :: y :: zs => rfl
 | max => simp only [fV, bY, fI]
 | min => simp only [fV, bY, fI]
 | append =>
  match args with
  | [] => rfl
  | [x] => rfl
  | [s, x] =>
   simp only [fV, bY, Option.bind_assoc]
   congr 1; funext t; congr 1; funext el; congr 1; funext e; congr 1; funext b; congr 1; funext z
   split
   ·rfl
   ·rfl
  | x :: y :: z :: zs => rfl
 | delete =>
  match args with
  | [] => rfl
  | [x] => rfl
  | [s, x] => simp only [fV, bY, Option.bind_assoc, Cr]
  | x :: y :: z :: zs => rfl
 | _ => rfl
theorem aiE (P : Program) (call : aR) (ev : Operand → Value) (o : Oper) (H : AH) (k : Value → AH → Option R) : sm P call ev o H k = (dj P call ev o H).bind fun r => k r.1 r.2 := by
 obtain ⟨dst, op, type, pos, after, guard⟩ := o
 cases op with
 | call c =>
  obtain ⟨callee, args, ats⟩ := c
  cases callee with
  | value f => simp only [sm, dj, Option.bind_assoc]
  | invoke r m => rfl
  | builtin b => simp only [sm, dj]; exact zh ..
 | makeMap t r => cases r <;> rfl
 | slice t x lo hi mx =>
  cases mx with
  | none => simp only [sm, dj, Option.bind_assoc, fI]
  | some m => cases lo <;> cases hi <;> first | rfl | (simp only [sm, dj, Option.bind_assoc, fI])
 | load t a =>
  simp only [sm, dj, Option.bind_assoc]
  congr 1
  funext g
  cases g <;> simp only [fI]
 | build t parts =>
  simp only [sm, dj]
  cases P.underlying t with
  | none => rfl
  | some d => cases d <;> first | rfl | (simp only [Option.bind_assoc, Option.bind_map]; rfl)
 | buildSlice t len parts =>
  simp only [sm, dj, Option.bind_assoc]
  congr 1; funext el; congr 1; funext e; congr 1; funext z
  split
  ·rw [Option.bind_map]; rfl
  ·rfl
 | fieldAddr s x f =>
  simp only [sm, dj, Option.bind_assoc]
  congr 1; funext el; congr 1; funext e
  split
  ·rfl
  ·rw [fI]
 | alloc t => simp only [sm, dj, Option.bind_map]; rfl
 | indexAddr t x i =>
  simp only [sm, dj]
  cases P.underlying t with
  | none => rfl
  | some d => cases d <;> first | rfl | (simp only [Option.bind_assoc, fI])
 | index t x i =>
  simp only [sm, dj]
  cases P.underlying t with
  | none => rfl
  | some d => cases d <;> first | rfl | (simp only [Option.bind_assoc, fI])
 | convert s d x =>
  simp only [sm, dj]
  cases P.underlying s with
  | none => rfl
  | some d => simp only [fI]
 | store t x y => simp only [sm, dj, Option.bind_assoc, Cr]
 | mapUpdate t m key x => simp only [sm, dj, Option.bind_assoc, Cr]
 | _ => first | rfl | (simp only [sm, dj, Option.bind_assoc, fI]; done)
theorem F3 (P : Program) (b : Builtin) (ts : Array TypeId) (args : List Value) (H : AH) (k : Value → AH → Option R) : oX P b ts args H k = fV P b ts args H k := by
 unfold oX fV;simp only [OR]
theorem ao2 (P : Program) (call : aR) (ev : Operand → Value) (o : Oper) (H : AH) (k : Value → AH → Option R) : Yl P call ev o H k = sm P call ev o H k := by
 unfold Yl sm;simp only [OR, F3]
theorem Nm (P : Program) (b : Builtin) (ts : Array TypeId) (args : List Value) (H : AH) (k : Value → AH → Option R) : oX P b ts args H k = (bY P b ts args H).bind fun r => k r.1 r.2 := (F3 ..).trans (zh ..)
theorem Pq (P : Program) (call : aR) (ev : Operand → Value) (o : Oper) (H : AH) (k : Value → AH → Option R) : Yl P call ev o H k = (dj P call ev o H).bind fun r => k r.1 r.2 := (ao2 ..).trans (aiE ..)
def Mf (op : Op) : Bool := gG op == 0 || gG op == 2
theorem Xa {P : Program} {call : aR} {ev : Operand → Value} {o : Oper} {H : AH} (h : Mf o.op = true) : dj P call ev o H = (Yl P call ev o H fun v _ => some v).map (·, H) := by
 rw [Pq]
 cases hx : dj P call ev o H with
 | none => rfl
 | some r =>
  obtain ⟨v, H'⟩ := r;simp only [aB, ff];unfold Mf at h;simp only [Bool.or_eq_true, beq_iff_eq] at h
  rcases h with h | h
  ·rw [(sQ h hx).1]
  ·rw [BN h] at hx
   obtain ⟨y, _, e⟩ := au.1 hx;rw [(Prod.mk.inj e).2]
abbrev F5 (P : Program) (G : List Nat) (call : aR) (ops : Array Oper) (o : Oper) (A : List Value) (H : AH) (k : List Value → AH → Option R) : Option R :=
 match o.op.operands.toList.all (Hx G) with
 | true => match o.guard with
  | none => Yl P call (cf A) o H fun v H' => k (eF A o.dst v) H'
  | some g => match Mf o.op with
   | true => (match bM ops A g.1 == some g.2 with
    | true => Yl P call (cf A) o H fun v _ => some v
    | false => some undef).bind fun v => k (eF A o.dst v) H
   | false => (match bM ops A g.1 == some g.2 with
    | true => dj P call (cf A) o H
    | false => some (undef, H)).bind fun r => k (eF A o.dst r.1) r.2
 | false => none
theorem zi (P : Program) (G : List Nat) (call : aR) (ops : Array Oper) (o : Oper) (A : List Value) (H : AH) (k : List Value → AH → Option R) : F5 P G call ops o A H k = (bO P G call ops o A H).bind fun s => k s.1 s.2 := by
 unfold F5 bO
 cases o.op.operands.toList.all (Hx G) with
 | false => rfl
 | true =>
  simp only [if_true];unfold Region.wanted
  cases o.guard with
  | none =>
   simp only [if_true];rw [Pq, Option.bind_map]; rfl
  | some g =>
   obtain ⟨g, want⟩ := g;simp only
   cases hl : Mf o.op with
   | true =>
    simp only
    by_cases h : (bM ops A g == some want) = true
    ·rw [if_pos h, h, Xa hl]
     simp only
     cases (Yl P call (cf A) o H fun v _ => some v) <;> rfl
    ·rw [if_neg h, Bool.eq_false_iff.2 h]; rfl
   | false =>
    simp only
    by_cases h : (bM ops A g == some want) = true
    ·rw [if_pos h, h, Option.bind_map]; rfl
    ·rw [if_neg h, Bool.eq_false_iff.2 h]; rfl
abbrev VJ (P : Program) (G : List Nat) (call : aR) (ops : Array Oper) : List Oper → List Value → AH → (List Value → AH → Option R) → Option R
 | [], A, H, k => k A H
 | o :: rest, A, H, k => F5 P G call ops o A H fun A' H' => VJ P G call ops rest A' H' k
theorem Kb (P : Program) (G : List Nat) (call : aR) (ops : Array Oper) : ∀ (l : List Oper) (A : List Value) (H : AH) (k : List Value → AH → Option R), VJ P G call ops l A H k = (bJ P G call ops l A H).bind fun s => k s.1 s.2 := by
 intro l
 induction l with
 | nil => intro A H k; rfl
 | cons o l ih =>
  intro A H k;simp only [VJ, bJ];rw [zi, Option.bind_assoc]
  congr 1
  funext s
  exact ih _ _ _
noncomputable def ic {R : Type} (x y : Option Value) (k : Option R) : Option R := No (x = y) k
theorem am1 {R : Type} {x y : Option Value} (h : x = y) (k : Option R) : ic x y k = k := fG h k
noncomputable abbrev VN {R : Type} (j : Nat) (hist : List ((AH → Option Value) × AH)) (rd : AH → Option Value) (H H' : AH) (k : Option R) : List (Nat × Nat) → Option R
 | [] => k
 | pq :: rest => match pq.1 == j with
  | true => match Nat.blt pq.2 j with
   | true => match hist[pq.2]? with
    | some h => ic (rd h.2) (rd H) (VN j hist rd H H' k rest)
    | none => none
   | false => VN j hist rd H H' k rest
  | false => match pq.2 == j with
   | true => match Nat.blt pq.1 j with
    | true => match hist[pq.1]? with
     | some h => ic (h.1 H') (h.1 h.2) (VN j hist rd H H' k rest)
     | none => none
    | false => VN j hist rd H H' k rest
   | false => VN j hist rd H H' k rest
theorem Np {α β : Type} (p : Prop) (x : Option α) (k : α → Option β) : (No p x).bind k = No p (x.bind k) := by unfold No; split <;> rfl
theorem Yq {α β : Type} {j : Nat} {hist : List ((AH → Option Value) × AH)} {rd : AH → Option Value} {H H' : AH} (x : Option α) (k : α → Option β) : ∀ l, (VN j hist rd H H' x l).bind k = VN j hist rd H H' (x.bind k) l := by
 intro l
 induction l with
 | nil => rfl
 | cons p l ih =>
  simp only [VN]
  cases p.1 == j with
  | true =>
   cases Nat.blt p.2 j with
   | true =>
    simp only
    cases hist[p.2]? with
    | none => rfl
    | some h => simp only [ic]; rw [Np, ih]
   | false => exact ih
  | false =>
   cases p.2 == j with
   | true =>
    cases Nat.blt p.1 j with
    | true =>
     simp only
     cases hist[p.1]? with
     | none => rfl
     | some h => simp only [ic]; rw [Np, ih]
    | false => exact ih
   | false => exact ih
def XZ (j : Nat) (hist : List ((AH → Option Value) × AH)) (rd : AH → Option Value) (H H' : AH) (p : Nat × Nat) : Prop :=
 (p.1 = j → p.2 < j → ∃ h, hist[p.2]? = some h ∧ rd h.2 = rd H) ∧ (p.2 = j → p.1 < j → ∃ h, hist[p.1]? = some h ∧ h.1 H' = h.1 h.2)
theorem SZ {α : Type} {p : Prop} {x : Option α} {r : α} : No p x = some r ↔ p ∧ x = some r := ⟨iH, fun h => by rw [fG h.1]; exact h.2⟩
theorem S1 {α : Type} {j : Nat} {hist : List ((AH → Option Value) × AH)} {rd : AH → Option Value} {H H' : AH} {x : Option α} {r : α} : ∀ {l}, VN j hist rd H H' x l = some r ↔ (∀ p ∈ l, XZ j hist rd H H' p) ∧ x = some r := by
 intro l
 induction l with
 | nil => simp [VN]
 | cons p l ih =>
  have split : (∀ q ∈ p :: l, XZ j hist rd H H' q) ↔ XZ j hist rd H H' p ∧ ∀ q ∈ l, XZ j hist rd H H' q := by simp
  rw [split, and_assoc, ← ih];simp only [VN]
  by_cases h1 : p.1 = j
  ·have e1 : (p.1 == j) = true := by simpa using h1
   rw [e1];simp only
   by_cases h2 : p.2 < j
   ·have e2 : Nat.blt p.2 j = true := by simpa [Nat.blt_eq] using h2
    rw [e2];simp only
    have hn : ¬ p.2 = j := by omega
    unfold XZ
    cases hist[p.2]? with
    | none => simp [h1, h2]
    | some h => simp only [ic]; rw [SZ]; simp [h1, h2, hn]
   ·have e2 : Nat.blt p.2 j = false := by rw [Bool.eq_false_iff]; intro h; exact h2 (by simpa [Nat.blt_eq] using h)
    rw [e2];simp only;have : XZ j hist rd H H' p := ⟨fun _ h => absurd h h2, fun _ h => absurd h (by omega)⟩;simp [this]
  ·have e1 : (p.1 == j) = false := by simpa using h1
   rw [e1];simp only
   by_cases h2 : p.2 = j
   ·have e2 : (p.2 == j) = true := by simpa using h2
    rw [e2];simp only
    by_cases h3 : p.1 < j
    ·have e3 : Nat.blt p.1 j = true := by simpa [Nat.blt_eq] using h3
     rw [e3];simp only;unfold XZ
     cases hist[p.1]? with
     | none => simp [h1, h2, h3]
     | some h => simp only [ic]; rw [SZ]; simp [h1, h2, h3]
    ·have e3 : Nat.blt p.1 j = false := by rw [Bool.eq_false_iff]; intro h; exact h3 (by simpa [Nat.blt_eq] using h)
     rw [e3];simp only;have : XZ j hist rd H H' p := ⟨fun h => absurd h h1, fun _ h => absurd h h3⟩;simp [this]
   ·have e2 : (p.2 == j) = false := by simpa using h2
    rw [e2];simp only;have : XZ j hist rd H H' p := ⟨fun h => absurd h h1, fun h => absurd h h2⟩;simp [this]
abbrev MD (P : Program) (A : List Value) (o : Oper) : AH → Option Value := fun H => FA P (cf A) o.op H
noncomputable def sR (P : Program) (G : List Nat) (call : aR) (ops : Array Oper) (pairs : List (Nat × Nat)) : List Oper → Nat → List ((AH → Option Value) × AH) → List Value → AH → Option (List Value × AH)
 | [], _, _, A, H => some (A, H)
 | o :: rest, j, hist, A, H => (bO P G call ops o A H).bind fun s => VN j hist (MD P A o) H s.2 (sR P G call ops pairs rest (j + 1) (hist ++ [(MD P A o, H)]) s.1 s.2) pairs
noncomputable abbrev SX (P : Program) (G : List Nat) (call : aR) (ops : Array Oper) (pairs : List (Nat × Nat)) : List Oper → Nat → List ((AH → Option Value) × AH) → List Value → AH → (List Value → AH → Option R) → Option R
 | [], _, _, A, H, k => k A H
 | o :: rest, j, hist, A, H, k => F5 P G call ops o A H fun A' H' => VN j hist (MD P A o) H H' (SX P G call ops pairs rest (j + 1) (hist ++ [(MD P A o, H)]) A' H' k) pairs
theorem Ym (P : Program) (G : List Nat) (call : aR) (ops : Array Oper) (pairs : List (Nat × Nat)) : ∀ (l : List Oper) (j : Nat) (hist : List ((AH → Option Value) × AH)) (A : List Value) (H : AH) (k : List Value → AH → Option R), SX P G call ops pairs l j hist A H k = (sR P G call ops pairs l j hist A H).bind fun s => k s.1 s.2 := by
 intro l
 induction l with
 | nil => intro j hist A H k; rfl
 | cons o l ih =>
  intro j hist A H k;simp only [SX, sR];rw [zi, Option.bind_assoc]
  congr 1
  funext s
  rw [Yq, ih]
theorem Vs {P : Program} {G : List Nat} {call : aR} {ops : Array Oper} {pairs : List (Nat × Nat)} {A0 : List Value} {H0 : AH} {r0 : List Value × AH} (h0 : bJ P G call ops ops.toList A0 H0 = some r0) (hp : ∀ p ∈ pairs, p.1 < ops.size ∧ p.2 < ops.size ∧ p.1 ≠ p.2) :
 ∀ (l : List Oper) (j : Nat) (hist : List ((AH → Option Value) × AH)), ops.toList.drop j = l → hist.length = j → (∀ i, i < j → ∃ o, ops[i]? = some o ∧ hist[i]? = some (MD P (gT P G call ops A0 H0 i).1 o, (gT P G call ops A0 H0 i).2)) →
  ∀ r, sR P G call ops pairs l j hist (gT P G call ops A0 H0 j).1 (gT P G call ops A0 H0 j).2 = some r ↔ (∀ p ∈ pairs, j ≤ max p.1 p.2 → jZ P (gT P G call ops A0 H0) ops p) ∧ r = r0 := by
 intro l
 induction l with
 | nil =>
  intro j hist hl hlen hh r
  have hj : ops.size ≤ j := by
   have := congrArg List.length hl;simp at this; omega
  have hst : gT P G call ops A0 H0 j = r0 := by
   unfold gT;rw [List.take_of_length_le (by simpa using hj), h0]; rfl
  simp only [sR, hst]
  constructor
  ·intro e
   exact ⟨fun p hpm hm => absurd (hp p hpm) (by omega), (kT e).symm⟩
  ·rintro ⟨_, rfl⟩; rfl
 | cons o l ih =>
  intro j hist hl hlen hh r
  have hj : ops.toList[j]? = some o := by
   have := congrArg (·[0]?) hl
   simpa using this
  have ho : ops[j]? = some o := by simpa using hj
  have hjs : j < ops.size := by
   have := (Ab.1 hj).1
   simpa using this
  have hstep := HU h0 ho
  have hl' : ops.toList.drop (j + 1) = l := by
   have := congrArg (List.drop 1) hl
   simpa [List.drop_drop, Nat.add_comm] using this
  have hh' : ∀ i, i < j + 1 → ∃ o', ops[i]? = some o' ∧ (hist ++ [(MD P (gT P G call ops A0 H0 j).1 o, (gT P G call ops A0 H0 j).2)])[i]? = some (MD P (gT P G call ops A0 H0 i).1 o', (gT P G call ops A0 H0 i).2) := by
   intro i hi
   by_cases e : i = j
   ·subst e
    exact ⟨o, ho, by rw [List.getElem?_append_right (by omega)]; simp [hlen]⟩
   ·obtain ⟨o', h1, h2⟩ := hh i (by omega)
    exact ⟨o', h1, by rw [List.getElem?_append_left (by omega)]; exact h2⟩
  have hi := ih (j + 1) _ hl' (by simp [hlen]) hh' r;simp only [sR];rw [hstep];simp only [aB];rw [S1, hi]
  have key : ∀ p ∈ pairs, max p.1 p.2 = j → (XZ j hist (MD P (gT P G call ops A0 H0 j).1 o) (gT P G call ops A0 H0 j).2 (gT P G call ops A0 H0 (j + 1)).2 p ↔ jZ P (gT P G call ops A0 H0) ops p) := by
   intro p hpm hm;obtain ⟨h1, h2, h3⟩ := hp p hpm;unfold XZ jZ
   by_cases hlt : p.2 < p.1
   ·have e1 : p.1 = j := by omega
    obtain ⟨o2, _, hg⟩ := hh p.2 (by omega);rw [if_pos hlt]
    constructor
    ·intro ⟨a, _⟩ o' ho'
     rw [e1, ho] at ho';cases ho';obtain ⟨h, hg', e⟩ := a e1 (by omega);rw [hg] at hg';cases hg';rw [e1];exact e
    ·intro a
     refine ⟨fun _ _ => ⟨_, hg, ?_⟩, fun e => absurd e (by omega)⟩;have := a o (by rw [e1]; exact ho);rw [e1] at this;exact this
   ·have e2 : p.2 = j := by omega
    obtain ⟨o1, ho1, hg⟩ := hh p.1 (by omega);rw [if_neg hlt, e2]
    constructor
    ·intro ⟨_, a⟩ o' ho'
     rw [ho1] at ho';cases ho';obtain ⟨h, hg', e⟩ := a rfl (by omega);rw [hg] at hg';cases hg';exact e
    ·intro a
     refine ⟨fun e => absurd e (by omega), fun _ _ => ⟨_, hg, a o1 ho1⟩⟩
  have out : ∀ p ∈ pairs, max p.1 p.2 ≠ j → XZ j hist (MD P (gT P G call ops A0 H0 j).1 o) (gT P G call ops A0 H0 j).2 (gT P G call ops A0 H0 (j + 1)).2 p := by
   intro p hpm hm;exact ⟨fun h1 h2 => absurd hm (by omega), fun h1 h2 => absurd hm (by omega)⟩
  constructor
  ·rintro ⟨a, b, c⟩
   refine ⟨fun p hpm hm => ?_, c⟩
   by_cases e : max p.1 p.2 = j
   ·exact (key p hpm e).1 (a p hpm)
   ·exact b p hpm (by omega)
  ·rintro ⟨a, c⟩
   refine ⟨fun p hpm => ?_, fun p hpm hm => a p hpm (by omega), c⟩
   by_cases e : max p.1 p.2 = j
   ·exact (key p hpm e).2 (a p hpm (by omega))
   ·exact out p hpm e
theorem O4 {P : Program} {G : List Nat} {call : aR} {ops : Array Oper} {pairs : List (Nat × Nat)} : ∀ (l : List Oper) (j : Nat) (hist : List ((AH → Option Value) × AH)) (A : List Value) (H : AH) (r : List Value × AH), sR P G call ops pairs l j hist A H = some r → bJ P G call ops l A H = some r := by
 intro l
 induction l with
 | nil => intro j hist A H r h; exact h
 | cons o l ih =>
  intro j hist A H r h;simp only [sR] at h;obtain ⟨s, hs, h⟩ := ai.1 h;simp only [bJ];rw [hs];exact ih _ _ _ _ _ (S1.1 h).2
theorem Ml {ops : Array Oper} : ∀ p ∈ dB ops.toList, p.1 < ops.size ∧ p.2 < ops.size ∧ p.1 ≠ p.2 := by
 intro p hp;unfold dB at hp;simp only [List.mem_flatMap, List.mem_filter, List.mem_map] at hp;obtain ⟨x, ⟨hx, hx2⟩, y, ⟨hy, hy2⟩, rfl⟩ := hp;have hx := List.mem_zipIdx hx;have hy := List.mem_zipIdx hy;simp only [beq_iff_eq] at hx2;simp only [Bool.and_eq_true, beq_iff_eq] at hy2;refine ⟨by have := hx.2.1; simpa using this, by have := hy.2.1; simpa using this, ?_⟩;intro e;simp only at e;have e3 := hy2.1.1;have ex := hx.2.2;have ey := hy.2.2;simp only [e, Nat.sub_zero] at ex ey
 have : x.1 = y.1 := by rw [ex, ey]
 rw [this, e3] at hx2;cases hx2
theorem Pu {P : Program} {G : List Nat} {call : aR} {ops : Array Oper} {pairs : List (Nat × Nat)} (hp : ∀ p ∈ pairs, p.1 < ops.size ∧ p.2 < ops.size ∧ p.1 ≠ p.2) (A : List Value) (H : AH) :
 No (∀ q ∈ pairs, jZ P (gT P G call ops A H) ops q) (bJ P G call ops ops.toList A H) = sR P G call ops pairs ops.toList 0 [] A H := by
 cases hx : bJ P G call ops ops.toList A H with
 | none =>
  cases hy : sR P G call ops pairs ops.toList 0 [] A H with
  | none => unfold No; split <;> rfl
  | some r => have := O4 _ _ _ _ _ _ hy; rw [hx] at this; cases this
 | some r0 =>
  have hi := Vs hx hp ops.toList 0 [] rfl rfl (fun i hi => absurd hi (by omega));simp only [ag9] at hi
  cases hy : sR P G call ops pairs ops.toList 0 [] A H with
  | none =>
   cases hz : No (∀ q ∈ pairs, jZ P (gT P G call ops A H) ops q) (some r0) with
   | none => rfl
   | some r =>
    obtain ⟨h1, h2⟩ := iH hz;have := (hi r0).2 ⟨fun p hpm _ => h1 p hpm, rfl⟩;rw [hy] at this; cases this
  | some r =>
   obtain ⟨h1, h2⟩ := (hi r).1 hy;rw [fG (fun p hpm => h1 p hpm (by omega)), h2]
noncomputable abbrev vC (P : Program) (G : List Nat) (call : aR) (ops : Array Oper) (draw : Bool) (A : List Value) (H : AH) (k : List Value → AH → Option R) : Option R :=
 match draw with
 | false => VJ P G call ops ops.toList A H k
 | true => match pZ ops.toList with
  | false => none
  | true => match dB ops.toList with
   | [] => VJ P G call ops ops.toList A H k
   | p :: ps => SX P G call ops (p :: ps) ops.toList 0 [] A H k
theorem F4 (P : Program) (G : List Nat) (call : aR) (ops : Array Oper) (draw : Bool) (A : List Value) (H : AH) (k : List Value → AH → Option R) : vC P G call ops draw A H k = (fm P G call ops draw A H).bind fun s => k s.1 s.2 := by
 unfold vC fm dy
 cases draw with
 | false => exact Kb ..
 | true =>
  simp only
  cases pZ ops.toList with
  | false => rfl
  | true =>
   simp only
   cases hl : dB ops.toList with
   | nil => exact Kb ..
   | cons p ps =>
    simp only;rw [Pu (fun q hq => Ml q (by rw [hl]; exact hq)), Ym]
def YI (kn : List Value → AH → Option R) (kx : Nat → List Value → AH → Option R) (kr : List Value → AH → Option R) (r : AR) : Option R :=
 match r.1 with
 | .normal => kn r.2.1 r.2.2
 | .exit i => kx i r.2.1 r.2.2
 | .ret => kr r.2.1 r.2.2
noncomputable def iF (P : Program) (G : List Nat) (call : aR) (x : Code) (A : List Value) (H : AH) (kx : Nat → List Value → AH → Option R) (kr : List Value → AH → Option R) : Option R :=
 (rE (ax P G call x) A H).bind (YI (fun _ _ => none) kx kr)
noncomputable abbrev aM (P : Program) (G : List Nat) (call : aR) : Code → List Value → AH → (List Value → AH → Option R) → (Nat → List Value → AH → Option R) → (List Value → AH → Option R) → Option R
 | .skip, A, H, kn, _, _ => kn A H
 | .label _, A, H, kn, _, _ => kn A H
 | .region _ ops draw, A, H, kn, _, _ => vC P G call ops draw A H kn
 | .seq x y, A, H, kn, kx, kr => aM P G call x A H (fun A H => aM P G call y A H kn kx kr) kx kr
 | .cond c x y, A, H, kn, kx, kr => match cf A c with
  | .bool true => aM P G call x A H kn kx kr
  | .bool false => aM P G call y A H kn kx kr
  | _ => none
 | .block id x, A, H, kn, kx, kr => aM P G call x A H kn (fun i A H => if i = id then kn A H else kx i A H) kr
 | .loop x, A, H, _, kx, kr => iF P G call x A H kx kr
 | .exit id, A, H, _, kx, _ => kx id A H
 | .ret, A, H, _, _, kr => kr A H
 | _, _, _, _, _, _ => none
theorem Vq {f : List Value → AH → Option AR} : ∀ {n : Nat} {A : List Value} {H : AH} {r : AR}, d9 f n A H = some r → r.1 ≠ .normal := by
 intro n
 induction n with
 | zero => intro A H r h; cases h
 | succ n ih =>
  intro A H r h;simp only [d9] at h;obtain ⟨s, hs, h⟩ := ai.1 h
  split at h
  ·exact ih h
  ·rename_i e
   cases h;exact fun he => e he
theorem Vr {f : List Value → AH → Option AR} {A : List Value} {H : AH} {r : AR} (h : rE f A H = some r) : r.1 ≠ .normal := by
 obtain ⟨n, hn⟩ := cH.1 h;exact Vq hn
theorem oY (P : Program) (G : List Nat) (call : aR) : ∀ (c : Code) (A : List Value) (H : AH) (kn : List Value → AH → Option R) (kx : Nat → List Value → AH → Option R) (kr : List Value → AH → Option R),
 aM P G call c A H kn kx kr = (ax P G call c A H).bind (YI kn kx kr) := by
 intro c
 induction c with
 | skip => intros; rfl
 | label => intros; rfl
 | exit => intros; rfl
 | ret => intros; rfl
 | region id ops draw =>
  intro A H kn kx kr;simp only [aM, ax];rw [F4, Option.bind_map]; rfl
 | seq x y ihx ihy =>
  intro A H kn kx kr;simp only [aM, ax];rw [ihx, Option.bind_assoc]
  congr 1
  funext r
  obtain ⟨e, A1, H1⟩ := r
  cases e with
  | normal => simp only [YI]; exact ihy ..
  | exit i => rfl
  | ret => rfl
 | cond c x y ihx ihy =>
  intro A H kn kx kr;simp only [aM, ax]
  generalize cf A c = v
  cases v with
  | bool b => cases b <;> first | exact ihx .. | exact ihy ..
  | _ => rfl
 | block id x ih =>
  intro A H kn kx kr;simp only [aM, ax];rw [ih, Option.bind_map]
  congr 1
  funext r
  obtain ⟨e, A1, H1⟩ := r
  cases e with
  | normal => rfl
  | exit i =>
   simp only [YI, Function.comp]
   split <;> rfl
  | ret => rfl
 | loop x ih =>
  intro A H kn kx kr;simp only [aM, ax, iF]
  cases h : rE (ax P G call x) A H with
  | none => rfl
  | some r =>
   simp only [aB];have := Vr h;obtain ⟨e, A1, H1⟩ := r
   cases e with
   | normal => exact absurd rfl this
   | exit i => rfl
   | ret => rfl
 | rangeFunc => intros; rfl
 | scope => intros; rfl
 | goto => intros; rfl
 | refuse => intros; rfl
theorem Yk (P : Program) (G : List Nat) (call : aR) (x : Code) (A : List Value) (H : AH) (kx : Nat → List Value → AH → Option R) (kr : List Value → AH → Option R) :
 iF P G call x A H kx kr = aM P G call x A H (fun A H => iF P G call x A H kx kr) kx kr := by
 rw [oY];unfold iF;rw [X5, Option.bind_assoc]
 congr 1
 funext r
 obtain ⟨e, A1, H1⟩ := r
 cases e <;> rfl
abbrev sU (P : Program) (A : List Value) (H : AH) : List ResultVar → (List Value → Option R) → Option R
 | [], k => k []
 | .tmp t :: rs, k => sU P A H rs fun vs => k (A[t]?.getD undef :: vs)
 | .cell a t :: rs, k => tb (eG P t) fun g => match g with
  | some n => (aQ n (A[a]?.getD undef) H).bind fun v => sU P A H rs fun vs => k (v :: vs)
  | none => (aA (A[a]?.getD undef) H).bind fun v => sU P A H rs fun vs => k (v :: vs)
theorem Nn (P : Program) (A : List Value) (H : AH) : ∀ (rs : List ResultVar) (k : List Value → Option R), sU P A H rs k = (nr P A H rs).bind k := by
 intro rs
 induction rs with
 | nil => intro k; rfl
 | cons r rs ih =>
  intro k;simp only [nr, Option.bind_assoc, aB]
  cases r with
  | tmp t =>
   simp only [sU, iC, aB];rw [ih]
  | cell a t =>
   simp only [sU, iC, Option.bind_assoc, OR]
   congr 1
   funext g
   cases g <;> (simp only; congr 1; funext v; rw [ih])
end
def tup : List Value → Value
 | [v] => v
 | vs => .tuple vs.toArray
abbrev ed (P : Program) (rs : List ResultVar) (A : List Value) (H : AH) : Option (Value × AH) := sU P A H rs fun vs => some (tup vs, H)
noncomputable def SW (P : Program) (G : List Nat) (call : aR) (n : Nat) (rs : List ResultVar) (c : Code) (args : List Value) (H : AH) : Option (Value × AH) :=
 aM P G call c (args ++ List.replicate (n - args.length) undef) H (ed P rs) (fun _ _ _ => none) (ed P rs)
theorem Ka (P : Program) (rs : List ResultVar) (A : List Value) (H : AH) : ed P rs A H = (bZ P A H rs).map (·, H) := by
 unfold ed bZ;rw [Nn, Option.map_map]
 cases nr P A H rs with
 | none => rfl
 | some vs =>
  simp only [aB, ff, Function.comp]
  congr 2
theorem Yj (P : Program) (G : List Nat) (call : aR) (n : Nat) (rs : List ResultVar) (c : Code) (args : List Value) (H : AH) : SW P G call n rs c args H = zb P G call n rs c args H := by
 unfold SW zb;rw [oY]
 congr 1
 funext r
 obtain ⟨e, A1, H1⟩ := r
 cases e with
 | normal => exact Ka ..
 | exit i => rfl
 | ret => exact Ka ..
def bh (fn : Func) : Code := fn.body.getD .skip
theorem O3 {P : Program} {G : List Nat} {f : Nat} {fn : Func} (hf : P.funcs[f]? = some fn) (hb : fn.body.isSome = true) (hn : (fn.name == "runtime.NumGoroutine") = false) (hd : PE (bh fn) = none) (hl : fX fn.name = false) {args : List Value} {H : AH} {r : Value × AH}
 (h : SW P G (aF P G) fn.ntmps fn.results.toList (bh fn) args H = some r) : aF P G f args H = some r := by
 cases hc : fn.body with
 | none => rw [hc] at hb; cases hb
 | some c =>
  rw [Yj] at h;unfold bh at h hd;rw [hc] at h hd;exact ao0 hf hc (by simpa using hn) hd hl h
def Code.sub : Code → List Nat → Code
 | c, [] => c
 | .seq x _, 0 :: p => Code.sub x p
 | .seq _ y, 1 :: p => Code.sub y p
 | .cond _ x _, 2 :: p => Code.sub x p
 | .cond _ _ y, 3 :: p => Code.sub y p
 | .block _ x, 4 :: p => Code.sub x p
 | .loop x, 5 :: p => Code.sub x p
 | _, _ => .skip
def yv : Value → Option Bool
 | .bool b => some b
 | _ => none
def bA {R : Type} (cs : List Value) (H : AH) (k : Value → AH → Option R) : Option R := k (.pointer (some ⟨H.size, 0, none⟩)) (H.push (.cells false cs))
def apR {R : Type} (len e : Nat) (cs : List Value) (H : AH) (k : Value → AH → Option R) : Option R := k (.slice (some ⟨H.size, 0, none⟩) len e) (H.push (.cells false cs))
def IC {R : Type} (H : AH) (k : Value → AH → Option R) : Option R := k (.map (some H.size)) (H.push (.map [] 0))
def cB {R : Type} (x : Value) (k : Value → Option R) : Option R :=
 match x with
 | .slice _ n _ => k (.int .i64 n)
 | _ => none
def apB (x : Value) : Option Value :=
 match x with
 | .slice _ _ _ => sH x
 | _ => none
def aw {R : Type} (c : Value) (x y : Option R) : Option R :=
 match c with
 | .bool true => x
 | .bool false => y
 | _ => none
def za {α : Type} (y : Option Bool) (want : Bool) (a b : Option α) : Option α :=
 match y == some want with
 | true => a
 | false => b
theorem agL (a b : Value) : aE (.bool true) a b = some a := rfl
theorem agK (a b : Value) : aE (.bool false) a b = some b := rfl
abbrev vi (n : Int) : Value := .int .i64 n
abbrev vw (n : Int) : Value := .int .u64 n
abbrev vu (n : Nat) : Value := .int .u64 (n : Int)
abbrev vb (b : Bool) : Value := .bool b
inductive Stp where
 | n
 | f (k : Nat)
 | i (e : Nat) (v : Value)
 | a (len e : Nat) (v : Value)
def ad {R : Type} : List Stp → Value → (Value → Option R) → Option R
 | [], a, k => k a
 | .n :: p, a, k => (yL a).bind fun a => ad p a k
 | .f o :: p, a, k => (IE o a).bind fun a => ad p a k
 | .i e v :: p, a, k => (pL e a v).bind fun a => ad p a k
 | .a len e v :: p, a, k => (il len e a v).bind fun a => ad p a k
def ld {R : Type} (p : List Stp) (x : Value) (H : AH) (k : Value → Option R) : Option R := ad p x fun a => (aA a H).bind k
def ldN {R : Type} (n : Nat) (p : List Stp) (x : Value) (H : AH) (k : Value → Option R) : Option R := ad p x fun a => (aQ n a H).bind k
def st {R : Type} (n : Nat) (p : List Stp) (x v : Value) (H : AH) (k : AH → Option R) : Option R := ad p x fun a => (fT n a v H).bind k
def gB (c : Value) (want : Bool) (e : Option Value) : Option Value := za (yv c) want (e.bind some) (some undef)
def gV (c : Value) (want : Bool) (e : Value) : Option Value := za (yv c) want (some e) (some undef)
def gE (c : Value) (want : Bool) (H : AH) (e : Option (Value × AH)) : Option (Value × AH) := za (yv c) want e (some (undef, H))
def gad {R : Type} (c : Value) (want : Bool) : List Stp → Value → (Value → Option R) → Option R
 | [], a, k => k a
 | .n :: p, a, k => (gB c want (yL a)).bind fun a => gad c want p a k
 | .f o :: p, a, k => (gB c want (IE o a)).bind fun a => gad c want p a k
 | .i e v :: p, a, k => (gB c want (pL e a v)).bind fun a => gad c want p a k
 | .a len e v :: p, a, k => (gB c want (il len e a v)).bind fun a => gad c want p a k
def lp {R : Type} (c : Value) (want : Bool) (p : List Stp) (x : Value) (H : AH) (k : Value → Option R) : Option R := gad c want p x fun a => (gB c want (aA a H)).bind k
def sq {R : Type} (c : Value) (want : Bool) (n : Nat) (p : List Stp) (x : Value) (H : AH) (k : Value → Option R) : Option R := gad c want p x fun a => (gB c want (aQ n a H)).bind k
def wn {R : Type} (ps : List (Nat × Nat)) (zero : List Value) (xs : List (Nat × Value)) (k : Value → Option R) : Option R := (cA (fun i => ps[i]?) zero xs).bind fun cs => k (.agg cs.toArray)
def Og (e : Nat) (i : Nat) : Option (Nat × Nat) := some (i * e, e)
def mkA {R : Type} (e : Nat) (zero : List Value) (xs : List (Nat × Value)) (k : Value → Option R) : Option R := (cA (Og e) zero xs).bind fun cs => k (.agg cs.toArray)
def la {R : Type} (len e : Nat) (zero : List Value) (xs : List (Nat × Value)) (H : AH) (k : Value → AH → Option R) : Option R := (cA (Og e) (List.replicate len zero).flatten xs).bind fun cs => apR len e cs H k
end Go.Proofs.YthagelbepgcolaaGreatDoor.Gst
