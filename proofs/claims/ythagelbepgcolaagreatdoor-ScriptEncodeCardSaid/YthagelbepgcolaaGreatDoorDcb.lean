/- A plan and picks as bytes, on whole numbers; bytes in memory. -/
import Derived.Test.YthagelbepgcolaaGreatDoorDca
import Derived.Test.YthagelbepgcolaaGreatDoorDpe
namespace Go.Proofs.YthagelbepgcolaaGreatDoor.Gst
open Go Go.RowKit
set_option linter.unusedSimpArgs false
set_option linter.unusedVariables false

abbrev encB (n : Nat) : List Value := [.int .u8 (n : Int)]
instance : Enc encB 1 := ⟨fun _ => rfl, fun _ => rfl, by omega⟩
theorem conv_u8 {w : Nat} : pConv (some .u8) (vu w) = some (.int .u8 ((w % 256 : Nat) : Int)) := by
  simp [pConv, IntKind.wrap, IntKind.bits, IntKind.signed]
theorem or_tab : ∀ i : Fin 256, Go.bits .or .u8 (i.val : Int) 128 = ((i.val % 128 + 128 : Nat) : Int) := by decide +kernel
theorem or128 {cl : TCls} {n : Nat} (h : n < 256) : pBin cl .or (.int .u8 (n : Int)) (.int .u8 128) = some (.int .u8 ((n % 128 + 128 : Nat) : Int)) := by
  simp only [pBin, pInt, if_true, or_tab ⟨n, h⟩]
theorem shr7 {cl : TCls} {n : Nat} {k : IntKind} : pBin cl .shr (vu n) (.int k 7) = some (vu (n / 128)) := bin_shr_u (n := 7) (by omega)

def cfN (c : Cfg) : CfN := ⟨c.sh.toNat, c.sl.toNat, c.wk.toNat, c.wd.toNat, c.un⟩
def clN (x : Cl) : ClN := ⟨x.op.toNat, x.flow.toNat, x.a.toNat, x.b.toNat⟩
def scN (c : Cfg) (ll : List (List Cl)) (pk : List Int) : ScN := ⟨cfN c, ll.map (·.map clN), pk.map Int.toNat⟩
def okI (n : Int) : Bool := decide (0 ≤ n ∧ n ≤ 2147483647)
def okCl (x : Cl) : Bool := okI x.op && okI x.flow && okI x.a && okI x.b
def okP (n : Int) : Bool := decide (0 ≤ n ∧ n ≤ 63)
def okS (c : Cfg) (ll : List (List Cl)) (pk : List Int) : Bool := (mayB c ll && decide (pk.length ≤ 4000)) && (ll.all (·.all okCl) && pk.all okP)

theorem encN_len5 {n : Nat} (h : n < 34359738368) : (encN n).length ≤ 5 := by
  rw [encN]; split
  · simp
  rw [encN]; split
  · simp
  rw [encN]; split
  · simp
  rw [encN]; split
  · simp
  rw [encN]; split
  · simp
  omega
theorem encN_len9 {n : Nat} (h : n < 9223372036854775808) : (encN n).length ≤ 9 := by
  rw [encN]; split
  · simp
  rw [encN]; split
  · simp
  rw [encN]; split
  · simp
  rw [encN]; split
  · simp
  simp only [List.length_cons]
  have := encN_len5 (n := n / 128 / 128 / 128 / 128) (by omega)
  omega
theorem encN_len1 {n : Nat} (h : n < 128) : (encN n).length = 1 := by rw [encN_small h]; rfl
theorem encN_len10 {n : Nat} (h : n < 18446744073709551616) : (encN n).length ≤ 10 := by
  rw [encN]; split
  · simp
  simp only [List.length_cons]
  have := encN_len9 (n := n / 128) (by omega)
  omega
end Go.Proofs.YthagelbepgcolaaGreatDoor.Gst
