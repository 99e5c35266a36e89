/- What is put in is taken out: in plain. -/
import Derived.Test.YtgmhfbdmigfgbaaV5
import Derived.Test.YtgmhfbdmigfgbaaLow
import Derived.Test.YtgmhfbdmigfgbaaExt
namespace Go.Proofs.Ytgmhfbdmigfgbaa
set_option linter.unusedSimpArgs false
set_option linter.unusedVariables false
open Go Go.Abs

theorem splice_take {l m : List Int} {o : Nat} (h : o + m.length ≤ l.length) : ((splice l o m).drop o).take m.length = m := by
  have e1 : (l.take o).length = o := by rw [List.length_take]; omega
  unfold splice
  rw [List.append_assoc, List.drop_append, List.drop_of_length_le (by omega), e1, Nat.sub_self, List.nil_append, List.drop_zero, List.take_append_of_le_length (Nat.le_refl _), List.take_length]
theorem splice_before {l m : List Int} {o p n : Nat} (h : o + m.length ≤ l.length) (hp : p + n ≤ o) : ((splice l o m).drop p).take n = (l.drop p).take n := by
  have e1 : (l.take o).length = o := by rw [List.length_take]; omega
  unfold splice
  rw [List.append_assoc, List.drop_append, List.take_append_of_le_length (by rw [List.length_drop, e1]; omega), List.drop_take, List.take_take, Nat.min_eq_left (by omega)]
theorem splice_after {l m : List Int} {o p n : Nat} (h : o + m.length ≤ l.length) (hp : o + m.length ≤ p) : ((splice l o m).drop p).take n = (l.drop p).take n := by
  have e1 : (l.take o).length = o := by rw [List.length_take]; omega
  unfold splice
  rw [List.drop_append, List.drop_of_length_le (by rw [List.length_append, e1]; exact hp), List.nil_append, List.length_append, e1, List.drop_drop]
  congr 2; omega
theorem lane_pow {w : Int} (h : lanes w ≠ 0) : (2 : Int) ^ (8 * wb w) = 2 ^ w.toNat := by
  rcases lanes_pos h with rfl | rfl | rfl | rfl <;> rfl
theorem get_set {v : List Int} {w x : Int} {i k : Nat} (hl : v.length = 16) (hi : i < lanes w) (hk : k < lanes w) : get (set v w i x) w k = if k = i then x % 2 ^ w.toNat else get v w k := by
  obtain ⟨h0, h1⟩ := lane_in hi
  obtain ⟨_, h2⟩ := lane_in hk
  have hb : i * wb w + (toB (wb w) x).length ≤ v.length := by rw [toB_len, hl]; exact h1
  have es : set v w i x = splice v (i * wb w) (toB (wb w) x) := by unfold set; rw [if_pos (by omega), Int.toNat_natCast]
  have eg : ∀ u, get u w k = le ((u.drop (k * wb w)).take (wb w)) := fun u => by unfold get; rw [if_pos (by omega), Int.toNat_natCast]
  rw [eg, eg, es]
  by_cases hki : k = i
  · subst hki
    rw [if_pos rfl]
    have := splice_take hb
    rw [toB_len] at this
    rw [this, le_toB, lane_pow h0]
  · rw [if_neg hki]
    congr 1
    by_cases hlt : k < i
    · have : (k + 1) * wb w ≤ i * wb w := Nat.mul_le_mul_right _ hlt
      rw [Nat.add_mul, Nat.one_mul] at this
      exact splice_before hb this
    · have : (i + 1) * wb w ≤ k * wb w := Nat.mul_le_mul_right _ (by omega)
      rw [Nat.add_mul, Nat.one_mul] at this
      exact splice_after hb (by rw [toB_len]; exact this)
theorem signed_set {v : List Int} {w x : Int} {i k : Nat} (hl : v.length = 16) (hi : i < lanes w) (hk : k < lanes w) : signed (set v w i x) w k = sgn w (if k = i then x % 2 ^ w.toNat else get v w k) := by
  unfold signed; rw [if_neg (by omega), get_set hl hi hk]
theorem cut_law {w x : Int} (hw : lanes w ≠ 0) (h0 : 0 ≤ x) (h1 : x < 2 ^ 64) :
    (IntKind.u64.wrap (x * 2 ^ min (64 - w).toNat IntKind.u64.bits)).fdiv (2 ^ min (64 - w).toNat IntKind.u64.bits) = x % 2 ^ w.toNat := by
  have h1' : x < 18446744073709551616 := h1
  rcases lanes_pos hw with rfl | rfl | rfl | rfl
  · rw [show min ((64 - 8 : Int).toNat) IntKind.u64.bits = 56 from rfl, Int.fdiv_eq_ediv_of_nonneg _ (by decide), show (8 : Int).toNat = 8 from rfl]
    simp only [IntKind.wrap_u64, Int.reducePow]
    omega
  · rw [show min ((64 - 16 : Int).toNat) IntKind.u64.bits = 48 from rfl, Int.fdiv_eq_ediv_of_nonneg _ (by decide), show (16 : Int).toNat = 16 from rfl]
    simp only [IntKind.wrap_u64, Int.reducePow]
    omega
  · rw [show min ((64 - 32 : Int).toNat) IntKind.u64.bits = 32 from rfl, Int.fdiv_eq_ediv_of_nonneg _ (by decide), show (32 : Int).toNat = 32 from rfl]
    simp only [IntKind.wrap_u64, Int.reducePow]
    omega
  · rw [show min ((64 - 64 : Int).toNat) IntKind.u64.bits = 0 from rfl, Int.fdiv_eq_ediv_of_nonneg _ (by decide), show (64 : Int).toNat = 64 from rfl]
    simp only [IntKind.wrap_u64, Int.reducePow]
    omega

theorem umod (I : Int) {n : Nat} (h0 : n ≠ 0) (h : n ≤ 16) : ∃ i : Nat, i < n ∧ IntKind.i64.wrap (Int.tmod (IntKind.u64.wrap I) ((n : Nat) : Int)) = i := by
  have h1 : 0 ≤ IntKind.u64.wrap I := by rw [IntKind.wrap_u64]; omega
  have h2 : (0 : Int) < n := by omega
  rw [Int.tmod_eq_emod_of_nonneg h1]
  have h3 := Int.emod_nonneg (IntKind.u64.wrap I) (show (n : Int) ≠ 0 by omega)
  have h4 := Int.emod_lt_of_pos (IntKind.u64.wrap I) h2
  refine ⟨(IntKind.u64.wrap I % n).toNat, by omega, ?_⟩
  rw [wrap64_id _ (by omega) (by omega)]; omega
/-- a lane's number put into the first lanes -/
def putsI (w x : Int) (v : List Int) : Nat → List Int
  | 0 => v
  | k + 1 => set (putsI w x v k) w k x
theorem putsI_ok (w x : Int) {v : List Int} (hl : v.length = 16) (hb : bytes v) (k : Nat) : (putsI w x v k).length = 16 ∧ bytes (putsI w x v k) := by
  induction k with
  | zero => exact ⟨hl, hb⟩
  | succ k ih => exact set_ok w k x ih.1 ih.2
theorem set_list {v : List Int} {w x : Int} {i : Nat} (hi : i < lanes w) : set v w i x = splice v (i * wb w) (toB (wb w) x) := by
  unfold set; rw [if_pos (by omega), Int.toNat_natCast]
/-- when all lanes are put in, nothing of what stood there is left -/
theorem putsI_split (w x : Int) {v : List Int} (hl : v.length = 16) (hb : bytes v) {k : Nat} (hk : k ≤ lanes w) : putsI w x v k = (putsI w x zero16 k).take (k * wb w) ++ v.drop (k * wb w) := by
  induction k with
  | zero => simp [putsI]
  | succ k ih =>
    obtain ⟨h0, h1⟩ := lane_in (w := w) (i := k) (by omega)
    have hz := putsI_ok w x zero_ok.1 zero_ok.2 k
    have e0 := ih (by omega)
    have e4 : ((putsI w x zero16 k).take (k * wb w)).length = k * wb w := by rw [List.length_take]; omega
    have e5 : ((putsI w x zero16 k).take (k * wb w) ++ toB (wb w) x).length = k * wb w + wb w := by rw [List.length_append, e4, toB_len]
    have l1 : ((putsI w x zero16 k).take (k * wb w) ++ v.drop (k * wb w)).take (k * wb w) = (putsI w x zero16 k).take (k * wb w) := by
      rw [List.take_append_of_le_length (Nat.le_of_eq e4.symm), List.take_of_length_le (Nat.le_of_eq e4)]
    have l2 : ((putsI w x zero16 k).take (k * wb w) ++ v.drop (k * wb w)).drop (k * wb w + wb w) = v.drop (k * wb w + wb w) := by
      rw [List.drop_append, List.drop_of_length_le (by omega), List.nil_append, e4, List.drop_drop]
      congr 1; omega
    have l3 : ((putsI w x zero16 k).take (k * wb w) ++ toB (wb w) x ++ (putsI w x zero16 k).drop (k * wb w + wb w)).take (k * wb w + wb w) = (putsI w x zero16 k).take (k * wb w) ++ toB (wb w) x := by
      rw [List.take_append_of_le_length (Nat.le_of_eq e5.symm), List.take_of_length_le (Nat.le_of_eq e5)]
    rw [putsI, putsI, set_list (by omega), set_list (by omega), e0]
    unfold splice
    rw [toB_len, Nat.add_mul, Nat.one_mul, l1, l2, l3]
theorem sets_puts (w x : Int) (k : Nat) : sets w zero16 0 (List.replicate k x) = putsI w x zero16 k := by
  induction k with
  | zero => rfl
  | succ k ih => rw [sets_rep, ih, putsI]
theorem puts_spl (w x : Int) {v : List Int} (hl : v.length = 16) (hb : bytes v) (hw : w = 8 ∨ w = 16 ∨ w = 32 ∨ w = 64) : putsI w x v (lanes w) = spl w x := by
  have h0 : lanes w ≠ 0 := by rcases hw with rfl | rfl | rfl | rfl <;> decide
  have h16 := (lanes_wb h0).1
  rw [putsI_split w x hl hb (Nat.le_refl _), h16, List.drop_of_length_le (by omega), List.append_nil, List.take_of_length_le (by have := (putsI_ok w x zero_ok.1 zero_ok.2 (lanes w)).1; omega), ← sets_puts, spl_sets w x hw]
theorem numS_len (f : Int) : (numS f).length = 16 := by simp [numS]
theorem numS_bytes (f : Int) : bytes (numS f) := by
  intro y hy
  obtain ⟨k, _, rfl⟩ := List.mem_map.1 hy
  exact ⟨by omega, by omega⟩
theorem list16 {α : Type} (d : α) {l : List α} (h : l.length = 16) : l = (List.range 16).map fun k => l.getD k d := by
  apply List.ext_getElem
  · simp [h]
  · intro i h1 h2
    simp [List.getD_eq_getElem?_getD, List.getElem?_eq_getElem h1]
/-- the first ones of a row turned -/
def mapP (f : Int → Int) (v : List Int) (k : Nat) : List Int := (v.take k).map f ++ v.drop k
theorem mapP_len (f : Int → Int) (v : List Int) (k : Nat) : (mapP f v k).length = v.length := by simp [mapP]; omega
theorem mapP_zero (f : Int → Int) (v : List Int) : mapP f v 0 = v := by simp [mapP]
theorem mapP_at (f : Int → Int) {v : List Int} {k : Nat} (hk : k < v.length) : (mapP f v k).getD k 0 = v.getD k 0 := by
  have e : ((v.take k).map f).length = k := by simp; omega
  simp only [mapP, List.getD_eq_getElem?_getD]
  rw [List.getElem?_append_right (by omega), e, Nat.sub_self, List.getElem?_drop, Nat.add_zero]
theorem mapP_set (f : Int → Int) {v : List Int} {k : Nat} (hk : k < v.length) {x : Int} (hx : x = f (v.getD k 0)) : setI (mapP f v k) k x = mapP f v (k + 1) := by
  have e : ((v.take k).map f).length = k := by simp; omega
  subst hx
  unfold setI mapP
  rw [List.take_append_of_le_length (by omega), List.take_of_length_le (by omega), List.drop_append, List.drop_of_length_le (by omega), List.nil_append, e, List.drop_drop, take_succ_getD hk, List.map_append]
  simp only [List.map_cons, List.map_nil]
  congr 2; omega
theorem mapP_same (f : Int → Int) {v : List Int} {k : Nat} (hk : k < v.length) (hx : f (v.getD k 0) = v.getD k 0) : mapP f v (k + 1) = mapP f v k := by
  unfold mapP
  rw [take_succ_getD hk, List.map_append, List.append_assoc]
  congr 1
  rw [show [v.getD k 0].map f = [v.getD k 0] from by rw [List.map_cons, List.map_nil, hx]]
  rw [List.drop_eq_getElem_cons hk]
  rw [List.getD_eq_getElem?_getD, List.getElem?_eq_getElem hk]; rfl
theorem mapP_all (f : Int → Int) {v : List Int} {n : Nat} (h : v.length = n) : mapP f v n = v.map f := by
  unfold mapP; rw [List.take_of_length_le (by omega), List.drop_of_length_le (by omega), List.append_nil]
theorem mapP_bytes (f : Int → Int) (hf : ∀ x, byte (f x)) {v : List Int} (hv : bytes v) (k : Nat) : bytes (mapP f v k) := by
  refine bytes_app ?_ (bytes_drop hv k)
  intro y hy
  obtain ⟨x, _, rfl⟩ := List.mem_map.1 hy
  exact hf x
end Go.Proofs.Ytgmhfbdmigfgbaa
