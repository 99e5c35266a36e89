/- What this seat's walks share: numbers by sevens of bits. -/
import Derived.Test.YticidhkilfkgbaaV4
import Derived.Test.YticidhkilfkgbaaTy
namespace Go.Proofs.Yticidhkilfkgbaa
set_option linter.unusedSimpArgs false
set_option linter.unusedVariables false
open Go Go.Abs

def SL : TypeId → List (Nat × Nat) := fun _ => []
theorem slx (t : TypeId) : SL t = [] := rfl
theorem hmix : Try.prog.follows .mixedOrders = true := by kernel_rfl

/-- what leb.U answers from a place on: l are the bytes from there -/
def uRd (bits : Int) : List Int → Nat → Int → Int → Int × Int × Int
  | [], _, _, _ => (0, 0, 5)
  | x :: l, done, n, at_ =>
    if (bits - done < 7 ∧ (x % 128) / 2 ^ (bits - done).toNat ≠ 0) ∨ (bits - done ≤ 7 ∧ x ≥ 128) then (0, 0, 6)
    else if x < 128 then (n + x % 128 * 2 ^ done, at_ + 1, 0) else uRd bits l (done + 7) (n + x % 128 * 2 ^ done) (at_ + 1)
def uSpec (xs : List Int) (at_ bits : Int) : Int × Int × Int :=
  if bits < 1 ∨ bits > 64 ∨ at_ < 0 ∨ at_ > xs.length then (0, 0, 1) else uRd bits (xs.drop at_.toNat) 0 0 at_
/-- the number that seven bits are, with a sign -/
def sx (x : Int) : Int := if x % 128 ≥ 64 then x % 128 - 128 else x % 128
/-- the number that m bits are, with a sign -/
def sext (m : Nat) (v : Int) : Int := if v < 2 ^ (m - 1) then v else v - 2 ^ m
/-- what leb.S answers from a place on -/
def sRd (bits : Int) : List Int → Nat → Int → Int → Int × Int × Int
  | [], _, _, _ => (0, 0, 5)
  | x :: l, done, n, at_ =>
    if bits - done ≤ 7 ∧ ((sx x / 2 ^ (bits - done - 1).toNat ≠ 0 ∧ sx x / 2 ^ (bits - done - 1).toNat ≠ -1) ∨ x ≥ 128) then (0, 0, 6)
    else if x < 128 then (sext (done + 7) (n + x % 128 * 2 ^ done), at_ + 1, 0) else sRd bits l (done + 7) (n + x % 128 * 2 ^ done) (at_ + 1)
def sSpec (xs : List Int) (at_ bits : Int) : Int × Int × Int :=
  if bits < 1 ∨ bits > 64 ∨ at_ < 0 ∨ at_ > xs.length then (0, 0, 1) else sRd bits (xs.drop at_.toNat) 0 0 at_
def byte (x : Int) : Prop := 0 ≤ x ∧ x ≤ 255
def bytes (l : List Int) : Prop := ∀ x ∈ l, byte x
theorem pow_lt_mul {v low : Int} {s m : Nat} (hv0 : 0 ≤ v) (hv : v < 2 ^ s) (hl0 : 0 ≤ low) (hl : low < 2 ^ m) : 0 ≤ v + low * 2 ^ s ∧ v + low * 2 ^ s < 2 ^ (s + m) := by
  have hp : (0 : Int) < 2 ^ s := Int.pow_pos (by decide)
  have h1 : 0 ≤ low * 2 ^ s := Int.mul_nonneg hl0 (by omega)
  have h2 : (low + 1) * 2 ^ s ≤ 2 ^ m * 2 ^ s := Int.mul_le_mul_of_nonneg_right (by omega) (by omega)
  rw [Int.add_mul, Int.one_mul] at h2
  rw [Int.pow_add, Int.mul_comm (2 ^ s)]
  omega
theorem low_lt {bits : Int} {k : Nat} {low : Int} (hkb : 7 * (k : Int) < bits) (h0 : 0 ≤ low) (h1 : low < 128) (hl : bits - 7 * k < 7 → low / 2 ^ (bits - 7 * k).toNat = 0) : low < 2 ^ (min 7 (bits - 7 * k).toNat) := by
  by_cases h : bits - 7 * k < 7
  · have := hl h
    rw [Nat.min_eq_right (by omega)]
    have hp : (0 : Int) < 2 ^ (bits - 7 * k).toNat := Int.pow_pos (by decide)
    have h2 := Int.lt_ediv_add_one_mul_self low hp
    rw [this] at h2
    omega
  · rw [Nat.min_eq_left (by omega)]; exact h1
theorem step_or {bits : Int} {k : Nat} {v low : Int} (hb : bits ≤ 64) (hkb : 7 * (k : Int) < bits) (hv0 : 0 ≤ v) (hv : v < 2 ^ (7 * k)) (h0 : 0 ≤ low) (h1 : low < 128) (hl : bits - 7 * k < 7 → low / 2 ^ (bits - 7 * k).toNat = 0) :
    bitsOp .or .u64 v (IntKind.u64.wrap (low * 2 ^ (7 * k))) = v + low * 2 ^ (7 * k) ∧ 0 ≤ v + low * 2 ^ (7 * k) ∧ v + low * 2 ^ (7 * k) < 2 ^ (7 * k + 7) := by
  have hlt := low_lt hkb h0 h1 hl
  have h2 := pow_lt_mul hv0 hv h0 hlt
  have hp : (0 : Int) < 2 ^ (7 * k) := Int.pow_pos (by decide)
  have hn : 0 ≤ low * 2 ^ (7 * k) := Int.mul_nonneg h0 (by omega)
  have h3 : (2 : Int) ^ (7 * k + min 7 (bits - 7 * k).toNat) ≤ 2 ^ 64 := by exact_mod_cast Nat.pow_le_pow_right (by decide) (by omega)
  have h4 : (2 : Int) ^ (7 * k + min 7 (bits - 7 * k).toNat) ≤ 2 ^ (7 * k + 7) := by exact_mod_cast Nat.pow_le_pow_right (by decide) (by omega)
  rw [wrap_in (k := .u64) rfl hn (by show _ < (2 : Int) ^ 64; omega)]
  refine ⟨or_add (k := .u64) (7 * k) hv0 hv h0 (by show _ < (2 : Int) ^ 64; omega) (.inl rfl), h2.1, by omega⟩
theorem sx_n : ∀ n : Fin 256, (IntKind.i8.wrap (IntKind.u8.wrap ((n.val : Int) * 2 ^ min (Int.toNat 1) IntKind.u8.bits))).fdiv (2 ^ min (Int.toNat 1) IntKind.i8.bits) = sx (n.val : Int) := by decide +kernel
theorem sx_of {x : Int} (h : byte x) : (IntKind.i8.wrap (IntKind.u8.wrap (x * 2 ^ min (Int.toNat 1) IntKind.u8.bits))).fdiv (2 ^ min (Int.toNat 1) IntKind.i8.bits) = sx x := by
  obtain ⟨h0, h1⟩ := h
  have := sx_n ⟨x.toNat, by omega⟩
  simp only [Int.toNat_of_nonneg h0] at this
  exact this
theorem shr8 (y n : Int) (h : n ≤ 8) : y.fdiv (2 ^ min n.toNat IntKind.i8.bits) = y / 2 ^ n.toNat := by
  rw [Nat.min_eq_left (by show _ ≤ 8; omega)]
  exact Int.fdiv_eq_ediv_of_nonneg _ (Int.le_of_lt (Int.pow_pos (by decide)))
theorem getD_mem {l : List Int} {k : Nat} (h : k < l.length) : l.getD k 0 ∈ l := by
  rw [List.getD_eq_getElem?_getD, List.getElem?_eq_getElem h]; exact List.getElem_mem h
theorem drop_getD {l : List Int} {k : Nat} (h : k < l.length) : l.drop k = l.getD k 0 :: l.drop (k + 1) := by
  rw [List.drop_eq_getElem_cons h]; simp [List.getD, h]
end Go.Proofs.Yticidhkilfkgbaa
