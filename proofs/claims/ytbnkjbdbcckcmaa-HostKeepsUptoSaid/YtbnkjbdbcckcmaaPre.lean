/- What this seat's walks share: bytes, halves, lanes. -/
import Derived.Test.YtbnkjbdbcckcmaaV5
import Derived.Test.YtbnkjbdbcckcmaaTy
namespace Go.Proofs.Ytbnkjbdbcckcmaa
set_option linter.unusedSimpArgs false
set_option linter.unusedVariables false
open Go Go.Abs

def SL : TypeId → List (Nat × Nat) := fun t => if t = 64 then [(1, 2)] else if t = 36 then [(0, 2)] else if t = 27 then [(0, 1)] else if t = 22 then [(0, 1)] else if t = 29 then [(0, 1), (1, 1)] else if t = 71 then [(0, 1), (2, 2)] else []
theorem SLS : SL 3 = [] ∧ SL 5 = [] ∧ SL 22 = [(0, 1)] ∧ SL 25 = [] ∧ SL 27 = [(0, 1)] ∧ SL 29 = [(0, 1), (1, 1)] ∧ SL 34 = [] ∧ SL 35 = [] ∧ SL 36 = [(0, 2)] ∧ SL 39 = [] ∧ SL 42 = [] ∧ SL 51 = [] ∧ SL 52 = [] ∧ SL 54 = [] ∧ SL 56 = [] ∧ SL 64 = [(1, 2)] ∧ SL 71 = [(0, 1), (2, 2)] ∧ SL 75 = [] ∧ SL 77 = [] := ⟨rfl, rfl, rfl, rfl, rfl, rfl, rfl, rfl, rfl, rfl, rfl, rfl, rfl, rfl, rfl, rfl, rfl, rfl, rfl⟩
theorem hmix : Try.prog.follows .mixedOrders = true := by kernel_rfl

def byte (x : Int) : Prop := 0 ≤ x ∧ x ≤ 255
def bytes (l : List Int) : Prop := ∀ x ∈ l, byte x
theorem getD_mem {l : List Int} {k : Nat} (h : k < l.length) : l.getD k 0 ∈ l := by
  rw [List.getD_eq_getElem?_getD, List.getElem?_eq_getElem h]; exact List.getElem_mem h
theorem bytes_at {l : List Int} (h : bytes l) {k : Nat} (hk : k < l.length) : byte (l.getD k 0) := h _ (getD_mem hk)
theorem bytes_take {l : List Int} (h : bytes l) (n : Nat) : bytes (l.take n) := fun x hx => h x (List.mem_of_mem_take hx)
theorem bytes_drop {l : List Int} (h : bytes l) (n : Nat) : bytes (l.drop n) := fun x hx => h x (List.mem_of_mem_drop hx)
/-- bytes, the lowest first -/
def le : List Int → Int
  | [] => 0
  | x :: l => x + 256 * le l
def toB : Nat → Int → List Int
  | 0, _ => []
  | n + 1, x => x % 256 :: toB n (x / 256)
theorem toB_len (n : Nat) (x : Int) : (toB n x).length = n := by
  induction n generalizing x with
  | zero => rfl
  | succ n ih => simp [toB, ih]
theorem toB_bytes (n : Nat) (x : Int) : bytes (toB n x) := by
  induction n generalizing x with
  | zero => intro y hy; cases hy
  | succ n ih =>
    intro y hy
    rcases List.mem_cons.1 hy with rfl | hy
    · exact ⟨by omega, by omega⟩
    · exact ih _ y hy
theorem pow8 (n : Nat) : (2 : Int) ^ (8 * (n + 1)) = 256 * 2 ^ (8 * n) := by
  rw [show 8 * (n + 1) = 8 * n + 8 from by omega, Int.pow_add, Int.mul_comm]; rfl
theorem le_append (a b : List Int) : le (a ++ b) = le a + 2 ^ (8 * a.length) * le b := by
  induction a with
  | nil => simp [le]
  | cons x a ih =>
    rw [List.cons_append, le, ih, List.length_cons, pow8, le, Int.mul_add, Int.mul_assoc]; omega
theorem le_bound {l : List Int} (h : bytes l) : 0 ≤ le l ∧ le l < 2 ^ (8 * l.length) := by
  induction l with
  | nil => exact ⟨Int.le_refl _, by decide⟩
  | cons x l ih =>
    have h1 := ih (fun y hy => h y (List.mem_cons_of_mem _ hy))
    have h2 := h x (List.mem_cons_self ..)
    rw [List.length_cons, pow8, le]
    unfold byte at h2
    omega
theorem toB_le {l : List Int} (h : bytes l) : toB l.length (le l) = l := by
  induction l with
  | nil => rfl
  | cons x l ih =>
    have h1 := ih (fun y hy => h y (List.mem_cons_of_mem _ hy))
    have h2 := h x (List.mem_cons_self ..)
    unfold byte at h2
    rw [List.length_cons, le, toB, show (x + 256 * le l) % 256 = x from by omega, show (x + 256 * le l) / 256 = le l from by omega, h1]
theorem le_toB (n : Nat) (x : Int) : le (toB n x) = x % 2 ^ (8 * n) := by
  induction n generalizing x with
  | zero => simp [toB, le, Int.emod_one]
  | succ n ih =>
    rw [toB, le, ih, pow8]
    have hp : (0 : Int) < 2 ^ (8 * n) := Int.pow_pos (by decide)
    generalize (2 : Int) ^ (8 * n) = P at *
    have h1 := Int.emod_def x (256 * P)
    have h2 := Int.emod_def (x / 256) P
    have h3 : x / (256 * P) = x / 256 / P := (Int.ediv_ediv_of_nonneg (by decide)).symm
    rw [h1, h2, h3, Int.mul_sub, Int.mul_assoc]; omega
theorem toB_getD (n : Nat) (x : Int) (i : Nat) (h : i < n) : (toB n x).getD i 0 = x / 2 ^ (8 * i) % 256 := by
  induction n generalizing x i with
  | zero => omega
  | succ n ih =>
    cases i with
    | zero => simp [toB]
    | succ i =>
      rw [toB, List.getD_cons_succ, ih _ _ (by omega), pow8, Int.ediv_ediv_of_nonneg (by decide)]
theorem toB_take (n m : Nat) (x : Int) (h : m ≤ n) : (toB n x).take m = toB m x := by
  induction m generalizing n x with
  | zero => rfl
  | succ m ih =>
    obtain ⟨n, rfl⟩ : ∃ k, n = k + 1 := ⟨n - 1, by omega⟩
    rw [toB, List.take_succ_cons, ih _ _ (by omega), toB]
theorem toB_drop (n m : Nat) (x : Int) : (toB (m + n) x).drop m = toB n (x / 2 ^ (8 * m)) := by
  induction m generalizing x with
  | zero => simp
  | succ m ih =>
    rw [show m + 1 + n = (m + n) + 1 from by omega, toB, List.drop_succ_cons, ih, pow8, Int.ediv_ediv_of_nonneg (by decide)]
theorem take_succ_getD {l : List Int} {k : Nat} (h : k < l.length) : l.take (k + 1) = l.take k ++ [l.getD k 0] := by
  rw [List.take_succ_eq_append_getElem h]; simp [List.getD, h]
theorem le_take {l : List Int} {k : Nat} (h : k < l.length) : le (l.take (k + 1)) = le (l.take k) + l.getD k 0 * 2 ^ (8 * k) := by
  rw [take_succ_getD h, le_append, List.length_take, Nat.min_eq_left (by omega)]
  simp [le, Int.mul_comm]

def lanes (w : Int) : Nat := if w = 8 then 16 else if w = 16 then 8 else if w = 32 then 4 else if w = 64 then 2 else 0
/-- bytes of a lane -/
def wb (w : Int) : Nat := (w / 8).toNat
theorem lanes_pos {w : Int} (h : lanes w ≠ 0) : (w = 8 ∨ w = 16 ∨ w = 32 ∨ w = 64) := by
  unfold lanes at h; split at h <;> (try (split at h)) <;> (try (split at h)) <;> (try (split at h)) <;> simp_all
theorem lanes_wb {w : Int} (h : lanes w ≠ 0) : lanes w * wb w = 16 ∧ w = 8 * (wb w : Int) ∧ 1 ≤ wb w ∧ wb w ≤ 8 := by
  rcases lanes_pos h with rfl | rfl | rfl | rfl <;> decide
def get (v : List Int) (w i : Int) : Int := if 0 ≤ i ∧ i < lanes w then le ((v.drop (i.toNat * wb w)).take (wb w)) else 0
/-- the number that w bits are, with a sign -/
def sgn (w x : Int) : Int := if x % 2 ^ w.toNat < 2 ^ (w.toNat - 1) then x % 2 ^ w.toNat else x % 2 ^ w.toNat - 2 ^ w.toNat
def signed (v : List Int) (w i : Int) : Int := if lanes w = 0 then 0 else sgn w (get v w i)
/-- a list with others in the place of some -/
def splice (l : List Int) (o : Nat) (m : List Int) : List Int := l.take o ++ m ++ l.drop (o + m.length)
def set (v : List Int) (w i x : Int) : List Int := if 0 ≤ i ∧ i < lanes w then splice v (i.toNat * wb w) (toB (wb w) x) else v
def zero16 : List Int := [0, 0, 0, 0, 0, 0, 0, 0, 0, 0, 0, 0, 0, 0, 0, 0]
/-- lanes set from the first on -/
def sets (w : Int) : List Int → Nat → List Int → List Int
  | v, _, [] => v
  | v, i, x :: xs => sets w (set v w i x) (i + 1) xs
def of (w : Int) (xs : List Int) : List Int := sets w zero16 0 (xs.take (lanes w))
def all (v : List Int) (w : Int) : List Int := (List.range (lanes w)).map fun i => get v w (i : Nat)
def lo (v : List Int) : Int := le (v.take 8)
def hi (v : List Int) : Int := le (v.drop 8)
def join (l h : Int) : List Int := toB 8 l ++ toB 8 h
def need (t : Int) : Nat := if t = 127 ∨ t = 126 then 1 else if t = 123 then 2 else 0
theorem wbe {w : Int} (h : lanes w ≠ 0) : IntKind.i64.wrap (Int.tdiv w 8) = wb w := by
  rcases lanes_pos h with rfl | rfl | rfl | rfl <;> decide +kernel
theorem lane_in {w : Int} {i : Nat} (h : i < lanes w) : lanes w ≠ 0 ∧ i * wb w + wb w ≤ 16 := by
  have h0 : lanes w ≠ 0 := by omega
  obtain ⟨h1, _, _, _⟩ := lanes_wb h0
  refine ⟨h0, ?_⟩
  have : (i + 1) * wb w ≤ lanes w * wb w := Nat.mul_le_mul_right _ h
  rw [Nat.add_mul, Nat.one_mul] at this; omega
theorem toB_succ (n : Nat) (x : Int) : toB (n + 1) x = toB n x ++ [x / 2 ^ (8 * n) % 256] := by
  induction n generalizing x with
  | zero => simp [toB]
  | succ n ih =>
    rw [toB, ih, toB, List.cons_append, pow8, Int.ediv_ediv_of_nonneg (by decide)]
theorem splice_len {l : List Int} {o : Nat} {m : List Int} (h : o + m.length ≤ l.length) : (splice l o m).length = l.length := by
  simp only [splice, List.length_append, List.length_take, List.length_drop]; omega
theorem splice_set {l : List Int} {o : Nat} {m : List Int} (b : Int) (h : o + m.length < l.length) : setI (splice l o m) (o + m.length) b = splice l o (m ++ [b]) := by
  have e1 : (l.take o).length = o := by rw [List.length_take]; omega
  have e2 : (splice l o m).take (o + m.length) = l.take o ++ m := by
    unfold splice
    rw [List.take_append_of_le_length (by rw [List.length_append, e1]; omega), List.take_of_length_le (by rw [List.length_append, e1]; omega)]
  have e3 : (splice l o m).drop (o + m.length + 1) = l.drop (o + (m ++ [b]).length) := by
    unfold splice
    rw [List.drop_append, List.drop_of_length_le (by rw [List.length_append, e1]; omega), List.length_append, e1, List.nil_append, List.drop_drop, List.length_append]
    congr 1
    simp; omega
  unfold setI
  rw [e2, e3]
  simp [splice]
theorem splice_nil (l : List Int) (o : Nat) : splice l o [] = l := by simp [splice]
theorem bytes_app {a b : List Int} (ha : bytes a) (hb : bytes b) : bytes (a ++ b) := by
  intro x hx; rcases List.mem_append.1 hx with h | h
  · exact ha x h
  · exact hb x h
theorem splice_bytes {l m : List Int} (o : Nat) (hl : bytes l) (hm : bytes m) : bytes (splice l o m) :=
  bytes_app (bytes_app (bytes_take hl _) hm) (bytes_drop hl _)
theorem set_ok {v : List Int} (w i x : Int) (hl : v.length = 16) (hb : bytes v) : (set v w i x).length = 16 ∧ bytes (set v w i x) := by
  unfold set
  split
  · rename_i h
    obtain ⟨i0, rfl⟩ : ∃ i0 : Nat, i = i0 := ⟨i.toNat, by omega⟩
    have := lane_in (w := w) (i := i0) (by omega)
    refine ⟨?_, splice_bytes _ hb (toB_bytes _ _)⟩
    rw [splice_len (by rw [toB_len, Int.toNat_natCast]; omega), hl]
  · exact ⟨hl, hb⟩
theorem sets_snoc (w : Int) (v : List Int) (i : Nat) (l : List Int) (x : Int) : sets w v i (l ++ [x]) = set (sets w v i l) w ((i + l.length : Nat) : Int) x := by
  induction l generalizing v i with
  | nil => simp [sets]
  | cons y l ih => rw [List.cons_append, sets, ih, sets, List.length_cons]; congr 1; congr 1; omega
theorem sets_ok (w : Int) (l : List Int) (v : List Int) (i : Nat) (hl : v.length = 16) (hb : bytes v) : (sets w v i l).length = 16 ∧ bytes (sets w v i l) := by
  induction l generalizing v i with
  | nil => exact ⟨hl, hb⟩
  | cons x l ih => exact ih _ _ (set_ok w i x hl hb).1 (set_ok w i x hl hb).2
theorem zero_ok : zero16.length = 16 ∧ bytes zero16 := ⟨rfl, by intro x hx; simp [zero16] at hx; subst hx; exact ⟨by decide, by decide⟩⟩
theorem get_bound {v : List Int} (w i : Int) (hb : bytes v) : 0 ≤ get v w i ∧ get v w i < 2 ^ 64 := by
  unfold get
  split
  · rename_i h
    have h0 : lanes w ≠ 0 := by omega
    obtain ⟨_, _, _, h8⟩ := lanes_wb h0
    have := le_bound (bytes_take (bytes_drop hb (i.toNat * wb w)) (wb w))
    have h2 : (2 : Int) ^ (8 * (List.take (wb w) (List.drop (i.toNat * wb w) v)).length) ≤ 2 ^ 64 := by
      exact_mod_cast Nat.pow_le_pow_right (by decide) (by have := List.length_take_le (wb w) (List.drop (i.toNat * wb w) v); omega)
    omega
  · exact ⟨by decide, by decide⟩
theorem nums_all (k : IntKind) (l : List Int) : (nums k l).all flatC = true := by simp [nums, flatC]
theorem drop16 {k : IntKind} {l : List Int} (h : l.length = 16) : List.drop 16 (nums k l) = [] := List.drop_of_length_le (by rw [nums_length]; omega)
theorem dz : List.drop 16 (nums .u8 zero16) = [] := rfl
theorem take16 {l : List Int} (h : l.length = 16) : List.take 16 l = l := List.take_of_length_le (by omega)
end Go.Proofs.Ytbnkjbdbcckcmaa
