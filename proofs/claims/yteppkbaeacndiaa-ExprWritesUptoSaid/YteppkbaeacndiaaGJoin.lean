/- bytes by sevens and bit by bit: the same. -/
import Derived.Test.YteppkbaeacndiaaGCB
import Derived.Test.YteppkbaeacndiaaGRS
import Derived.Test.YteppkbaeacndiaaDP
import Derived.Test.YteppkbaeacndiaaDB
set_option linter.unusedSimpArgs false
set_option linter.unusedVariables false
namespace Go.Proofs.Yteppkbaeacndiaa
set_option maxRecDepth 20000
open Go Go.Abs
theorem val7n : ∀ n : Fin 256, val (bits7 (n.val : Int)) = (n.val : Int) % 128 := by decide +kernel
theorem val7 {x : Int} (h : byte x) : val (bits7 x) = x % 128 := by
  obtain ⟨h0, h1⟩ := h
  have := val7n ⟨x.toNat, by omega⟩
  simp only [Int.toNat_of_nonneg h0] at this; exact this
theorem hi7n : ∀ n : Fin 256, ∀ d : Fin 8, ((n.val : Int) % 128 / 2 ^ d.val ≠ 0 ↔ ∃ i : Fin 7, d.val <= i.val /\ bitn (n.val : Int) (i.val : Int) = 1) := by decide +kernel
theorem hi7 {x : Int} (h : byte x) {d : Nat} (hd : d < 8) : (x % 128 / 2 ^ d ≠ 0) ↔ ∃ i, i < 7 /\ d <= i /\ bitn x (i : Int) = 1 := by
  obtain ⟨h0, h1⟩ := h
  have := hi7n ⟨x.toNat, by omega⟩ ⟨d, hd⟩
  simp only [Int.toNat_of_nonneg h0] at this
  rw [this]
  exact ⟨fun ⟨i, a, b⟩ => ⟨i.val, i.isLt, a, b⟩, fun ⟨i, h, a, b⟩ => ⟨⟨i, h⟩, a, b⟩⟩
theorem sg7n : ∀ n : Fin 256, ∀ d : Fin 7, ((sx (n.val : Int) / 2 ^ d.val ≠ 0 /\ sx (n.val : Int) / 2 ^ d.val ≠ -1) ↔ ∃ i : Fin 7, d.val < i.val /\ bitn (n.val : Int) (i.val : Int) ≠ bitn (n.val : Int) (d.val : Int)) := by decide +kernel
theorem sg7 {x : Int} (h : byte x) {d : Nat} (hd : d < 7) : (sx x / 2 ^ d ≠ 0 /\ sx x / 2 ^ d ≠ -1) ↔ ∃ i, i < 7 /\ d < i /\ bitn x (i : Int) ≠ bitn x (d : Int) := by
  obtain ⟨h0, h1⟩ := h
  have := sg7n ⟨x.toNat, by omega⟩ ⟨d, hd⟩
  simp only [Int.toNat_of_nonneg h0] at this
  rw [this]
  exact ⟨fun ⟨i, a, b⟩ => ⟨i.val, i.isLt, a, b⟩, fun ⟨i, h, a, b⟩ => ⟨⟨i, h⟩, a, b⟩⟩
theorem val_l7 {l : List Int} {x : Int} {k : Nat} (h : byte x) (hl : l.length = 7 * k) : val (l ++ bits7 x) = val l + x % 128 * 2 ^ (7 * k) := by
  rw [val_append, val7 h, hl, Int.mul_comm (2 ^ _)]
theorem badU {bits : Int} {k : Nat} {x : Int} {l : List Int} (h : byte x) (hk : 7 * (k : Int) < bits) :
    ((∃ i, i < 7 /\ badAt false bits k x l i) \/ (7 * ((k : Int) + 1) >= bits /\ x >= 128)) ↔ ((bits - ((7 * k : Nat) : Int) < 7 /\ (x % 128) / 2 ^ (bits - ((7 * k : Nat) : Int)).toNat ≠ 0) \/ (bits - ((7 * k : Nat) : Int) <= 7 /\ x >= 128)) := by
  constructor
  · rintro (⟨i, hi, hb, _, h2⟩ | ⟨h1, h2⟩)
    · exact .inl ⟨by omega, (hi7 h (by omega)).2 ⟨i, hi, by omega, h2 rfl⟩⟩
    · exact .inr ⟨by omega, h2⟩
  · rintro (⟨h1, h2⟩ | ⟨h1, h2⟩)
    · obtain ⟨i, hi, hd, hb⟩ := (hi7 h (by omega)).1 h2
      exact .inl ⟨i, hi, by omega, fun h => Bool.noConfusion h, fun _ => hb⟩
    · exact .inr ⟨by omega, h2⟩
theorem badS {bits : Int} {k : Nat} {x : Int} {l : List Int} (h : byte x) (hl : l.length = 7 * k) (hk : 7 * (k : Int) < bits) :
    ((∃ i, i < 7 /\ badAt true bits k x l i) \/ (7 * ((k : Int) + 1) >= bits /\ x >= 128)) ↔ (bits - ((7 * k : Nat) : Int) <= 7 /\ ((sx x / 2 ^ (bits - ((7 * k : Nat) : Int) - 1).toNat ≠ 0 /\ sx x / 2 ^ (bits - ((7 * k : Nat) : Int) - 1).toNat ≠ -1) \/ x >= 128)) := by
  have hg : bits - ((7 * k : Nat) : Int) <= 7 -> (l ++ bits7 x).getD (bits - 1).toNat 0 = bitn x (((bits - ((7 * k : Nat) : Int) - 1).toNat : Nat) : Int) := fun h7 => by
    rw [List.getD_eq_getElem?_getD, List.getElem?_append_right (by omega), <- List.getD_eq_getElem?_getD, bits7_at _ _ (by omega)]
    congr 1; omega
  constructor
  · rintro (⟨i, hi, hb, h2, _⟩ | ⟨h1, h2⟩)
    · refine ⟨by omega, .inl ((sg7 h (by omega)).2 ⟨i, hi, by omega, ?_⟩)⟩
      rw [<- hg (by omega)]; exact h2 rfl
    · exact ⟨by omega, .inr h2⟩
  · rintro ⟨h1, h2 | h2⟩
    · obtain ⟨i, hi, hd, hb⟩ := (sg7 h (by omega)).1 h2
      exact .inl ⟨i, hi, by omega, fun _ => by rw [hg h1]; exact hb, fun h => Bool.noConfusion h⟩
    · exact .inr ⟨by omega, h2⟩
theorem take70 {l : List Int} {x : Int} (hl : l.length = 63) (m : List Int) : ((l ++ bits7 x) ++ m).take 64 = l ++ [bitn x 0] := by
  rw [List.append_assoc, List.take_append, hl, List.take_of_length_le (by omega)]; rfl
theorem u_ind (bits : Int) (h64 : bits <= 64) : ∀ (xs : List Int) (k : Nat) (l : List Int) (at_ : Int), bytes xs -> bits01 l -> l.length = 7 * k -> 7 * (k : Int) < bits ->
    uRd bits xs (7 * k) (val l) at_ = (val ((rRd false bits xs k l at_).1.take 64), (rRd false bits xs k l at_).2.1, (rRd false bits xs k l at_).2.2)
  | [], _, _, _, _, _, _, _ => rfl
  | x :: t, k, l, at_, hb, h01, hl, hk => by
    have hx := hb x (List.mem_cons_self ..)
    have hv := val_l7 hx hl
    rw [uRd, rRd]
    have hbad := badU (l := l) hx hk
    by_cases c : (bits - ((7 * k : Nat) : Int) < 7 /\ (x % 128) / 2 ^ (bits - ((7 * k : Nat) : Int)).toNat ≠ 0) \/ (bits - ((7 * k : Nat) : Int) <= 7 /\ x >= 128)
    · rw [if_pos c, if_pos (hbad.2 c)]; rfl
    · rw [if_neg c, if_neg (fun h => c (hbad.1 h))]
      by_cases h128 : x < 128
      · rw [if_pos h128, if_pos h128, <- hv]
        have : val ((l ++ bits7 x).take 64) = val (l ++ bits7 x) := by
          by_cases h8 : k <= 8
          · rw [List.take_of_length_le (by rw [List.length_append, bits7_len]; omega)]
          · obtain rfl : k = 9 := by omega
            obtain rfl : bits = 64 := by omega
            have ht := take70 (x := x) (by omega) (l := l) []
            rw [List.append_nil] at ht
            have hz : x % 128 / 2 ^ 1 = 0 := Classical.byContradiction fun h => c (.inl ⟨by decide, h⟩)
            have hx0 := hx.1
            have hb0 : bitn x 0 = x % 128 := by
              show x / 2 ^ 0 % 2 = _
              simp only [Int.pow_zero, Int.ediv_one, Int.reducePow] at hz ⊢; omega
            rw [ht, hv, val_append, hl, hb0]
            simp only [val, Int.mul_zero, Int.add_zero]
            rw [Int.mul_comm]
        simp only [this]
      · rw [if_neg h128, if_neg h128, <- hv]
        exact u_ind bits h64 t (k + 1) (l ++ bits7 x) (at_ + 1) (fun y hy => hb y (List.mem_cons_of_mem _ hy)) (bits01_append h01 (bits7_01 x)) (by rw [List.length_append, bits7_len]; omega) (by
          apply Classical.byContradiction; intro h; exact c (.inr ⟨by omega, by omega⟩))
theorem u_eq (xs : List Int) (hb : bytes xs) (at_ bits : Int) : uSpec xs at_ bits = (val ((rSpec false xs at_ bits).1.take 64), (rSpec false xs at_ bits).2.1, (rSpec false xs at_ bits).2.2) := by
  rw [uSpec, rSpec]
  split
  · rfl
  · exact u_ind bits (by omega) _ 0 [] at_ (fun x hx => hb x (List.mem_of_mem_drop hx)) (fun b hb => by cases hb) rfl (by omega)
theorem val_rep (n : Nat) (t : Int) : val (List.replicate n t) = t * (2 ^ n - 1) := by
  induction n with
  | zero => simp [val]
  | succ n ih =>
    have e : t * (2 ^ n * 2 - 1) = t * 2 ^ n * 2 - t := by rw [Int.mul_sub, Int.mul_one, <- Int.mul_assoc]
    rw [List.replicate_succ, val, ih, Int.pow_succ, e, Int.mul_sub, Int.mul_one]
    generalize t * 2 ^ n = y
    omega
theorem sval {l : List Int} {x bits : Int} {k : Nat} (h64 : bits <= 64) (hk : 7 * (k : Int) < bits) (hx : byte x) (h01 : bits01 l) (hl : l.length = 7 * k)
    (c : ¬(bits - ((7 * k : Nat) : Int) <= 7 /\ ((sx x / 2 ^ (bits - ((7 * k : Nat) : Int) - 1).toNat ≠ 0 /\ sx x / 2 ^ (bits - ((7 * k : Nat) : Int) - 1).toNat ≠ -1) \/ x >= 128))) :
    sext (7 * k + 7) (val l + x % 128 * 2 ^ (7 * k)) = IntKind.i64.wrap (val (ext64 (l ++ bits7 x) 64)) := by
  have hvl := val_bound h01
  rw [hl] at hvl
  have hx0 := hx.1
  by_cases h8 : k <= 8
  · have hlen : (l ++ bits7 x).length = 7 * k + 7 := by rw [List.length_append, bits7_len, hl]
    have htop : (l ++ bits7 x).getD ((l ++ bits7 x).length - 1) 0 = bitn x 6 := by
      rw [hlen, List.getD_eq_getElem?_getD, List.getElem?_append_right (by omega), show 7 * k + 7 - 1 - l.length = 6 from by omega]; rfl
    have he : ext64 (l ++ bits7 x) 64 = (l ++ bits7 x) ++ List.replicate (64 - (7 * k + 7)) (bitn x 6) := by
      rw [ext64, htop, List.take_append, hlen, List.take_of_length_le (by omega), List.take_replicate]
      congr 2; omega
    rw [he, val_append, val_l7 hx hl, hlen, val_rep]
    have hb6 : bitn x 6 = x % 128 / 64 := by
      show x / 2 ^ 6 % 2 = _
      simp only [Int.reducePow]; omega
    rw [hb6]
    generalize val l = v at *
    have hy0 : 0 <= x % 128 := by omega
    have hy1 : x % 128 < 128 := by omega
    generalize x % 128 = y at *
    clear c hx htop he hlen hb6 hl h01
    have : k = 0 \/ k = 1 \/ k = 2 \/ k = 3 \/ k = 4 \/ k = 5 \/ k = 6 \/ k = 7 \/ k = 8 := by omega
    rcases this with rfl | rfl | rfl | rfl | rfl | rfl | rfl | rfl | rfl <;>
      (simp only [Nat.reduceMul, Nat.reduceAdd, Nat.reduceSub, Int.reducePow, Int.reduceSub] at hvl ⊢
       rw [wrap64_of (by omega) (by omega)]
       simp only [sext, Nat.reduceSub, Int.reducePow]
       split <;> split <;> omega)
  · obtain ⟨rfl, hlow⟩ := sx_low (x := x) h64 hk h8 (fun h7 => by
      apply Classical.byContradiction; intro hn
      exact c ⟨by omega, .inl ⟨fun h => hn (.inl h), fun h => hn (.inr h)⟩⟩)
    rw [ext64, take70 (by omega), val_append, hl]
    simp only [val, Int.mul_zero, Int.add_zero, Nat.reduceMul, Nat.reduceAdd, Int.reducePow] at hvl ⊢
    have hb0 : bitn x 0 = x % 2 := by
      show x / 2 ^ 0 % 2 = _
      simp only [Int.pow_zero, Int.ediv_one]
    rw [hb0, wrap64_of (by omega) (by omega)]
    simp only [sext, Nat.reduceSub, Int.reducePow]
    rcases hlow with hlow | hlow <;> rw [hlow] <;> split <;> split <;> omega
theorem s_ind (bits : Int) (h64 : bits <= 64) : ∀ (xs : List Int) (k : Nat) (l : List Int) (at_ : Int), bytes xs -> bits01 l -> l.length = 7 * k -> 7 * (k : Int) < bits ->
    sRd bits xs (7 * k) (val l) at_ = if (rRd true bits xs k l at_).2.2 = 0 then (IntKind.i64.wrap (val (ext64 (rRd true bits xs k l at_).1 64)), (rRd true bits xs k l at_).2.1, 0) else (0, 0, (rRd true bits xs k l at_).2.2)
  | [], _, _, _, _, _, _, _ => rfl
  | x :: t, k, l, at_, hb, h01, hl, hk => by
    have hx := hb x (List.mem_cons_self ..)
    have hv := val_l7 hx hl
    rw [sRd, rRd]
    have hbad := badS hx hl hk
    by_cases c : bits - ((7 * k : Nat) : Int) <= 7 /\ ((sx x / 2 ^ (bits - ((7 * k : Nat) : Int) - 1).toNat ≠ 0 /\ sx x / 2 ^ (bits - ((7 * k : Nat) : Int) - 1).toNat ≠ -1) \/ x >= 128)
    · rw [if_pos c, if_pos (hbad.2 c)]; rfl
    · rw [if_neg c, if_neg (fun h => c (hbad.1 h))]
      by_cases h128 : x < 128
      · rw [if_pos h128, if_pos h128, sval h64 hk hx h01 hl c]; rfl
      · rw [if_neg h128, if_neg h128, <- hv]
        exact s_ind bits h64 t (k + 1) (l ++ bits7 x) (at_ + 1) (fun y hy => hb y (List.mem_cons_of_mem _ hy)) (bits01_append h01 (bits7_01 x)) (by rw [List.length_append, bits7_len]; omega) (by
          apply Classical.byContradiction; intro h; exact c ⟨by omega, .inr (by omega)⟩)
theorem s_eq (xs : List Int) (hb : bytes xs) (at_ bits : Int) : sSpec xs at_ bits = if (rSpec true xs at_ bits).2.2 = 0 then (IntKind.i64.wrap (val (ext64 (rSpec true xs at_ bits).1 64)), (rSpec true xs at_ bits).2.1, 0) else (0, 0, (rSpec true xs at_ bits).2.2) := by
  rw [sSpec, rSpec]
  split
  · rfl
  · exact s_ind bits (by omega) _ 0 [] at_ (fun x hx => hb x (List.mem_of_mem_drop hx)) (fun b hb => by cases hb) rfl (by omega)
theorem ru_at (xs : List Int) (hb : bytes xs) (hlen : xs.length <= 1000000000000000) (at_ bits : Int) :
    AC Try.prog 57 [.view xs.length 1 (nums .u8 xs), .int .i64 at_, .int .i64 bits] (fun r m => r = .tup [.int .u64 (uSpec xs at_ bits).1, .int .i64 (uSpec xs at_ bits).2.1, .int .i64 (uSpec xs at_ bits).2.2] /\ m = []) := by
  rw [u_eq xs hb]; exact ru_ok xs hb hlen at_ bits
theorem rs_at (xs : List Int) (hb : bytes xs) (hlen : xs.length <= 1000000000000000) (at_ bits : Int) :
    AC Try.prog 39 [.view xs.length 1 (nums .u8 xs), .int .i64 at_, .int .i64 bits] (fun r m => r = .tup [.int .i64 (sSpec xs at_ bits).1, .int .i64 (sSpec xs at_ bits).2.1, .int .i64 (sSpec xs at_ bits).2.2] /\ m = []) := by
  have := rs_ok xs hb hlen at_ bits
  rw [s_eq xs hb]
  by_cases h : (rSpec true xs at_ bits).2.2 = 0
  · rw [if_pos h] at this ⊢; exact this
  · rw [if_neg h] at this ⊢; exact this
end Go.Proofs.Yteppkbaeacndiaa
namespace Go.Proofs.Yteppkbaeacndiaa
set_option maxRecDepth 20000
open Go Go.Abs
theorem uRd_put (bits : Int) (rest : List Int) (n k : Nat) (v at_ : Int) (hk : 7 * (k : Int) < bits) :
    uRd bits (putU n ++ rest) (7 * k) v at_ = if n < 2 ^ (bits - 7 * k).toNat then (v + n * 2 ^ (7 * k), at_ + (putU n).length, 0) else (0, 0, 6) := by
  induction n using Nat.strongRecOn generalizing k v at_ with
  | ind n ih =>
    have hc : ((7 * k : Nat) : Int) = 7 * (k : Int) := by omega
    by_cases hn : n < 128
    · rw [putU_small hn]
      simp only [List.cons_append, List.nil_append, uRd, hc, List.length_cons, List.length_nil]
      have e1 : (n : Int) % 128 = n := by omega
      rw [e1]
      by_cases h7 : bits - 7 * k < 7
      · by_cases hlt : n < 2 ^ (bits - 7 * k).toNat
        · have hz : (n : Int) / 2 ^ (bits - 7 * (k : Int)).toNat = 0 := Int.ediv_eq_zero_of_lt (by omega) (by exact_mod_cast hlt)
          rw [if_neg (by rintro (⟨_, h⟩ | ⟨_, h⟩); exact h hz; omega), if_pos (by omega), if_pos hlt]; simp
        · have hz : (n : Int) / 2 ^ (bits - 7 * (k : Int)).toNat ≠ 0 := by
            intro h
            have hp : (0 : Int) < 2 ^ (bits - 7 * (k : Int)).toNat := Int.pow_pos (by decide)
            have h2 := Int.lt_ediv_add_one_mul_self (n : Int) hp
            rw [h] at h2
            exact hlt (by have : (n : Int) < 2 ^ (bits - 7 * (k : Int)).toNat := by omega
                          exact_mod_cast this)
          rw [if_pos (.inl ⟨h7, hz⟩), if_neg hlt]
      · have hlt : n < 2 ^ (bits - 7 * k).toNat := Nat.lt_of_lt_of_le hn (Nat.pow_le_pow_right (n := 2) (i := 7) (by decide) (by omega))
        rw [if_neg (by rintro (⟨h, _⟩ | ⟨_, h⟩) <;> omega), if_pos (by omega), if_pos hlt]; simp
    · rw [putU_big hn]
      simp only [List.cons_append, uRd, hc, List.length_cons]
      have e1 : ((n : Int) % 128 + 128) % 128 = n % 128 := by omega
      rw [e1]
      by_cases h7 : bits - 7 * k <= 7
      · have hlt : ¬n < 2 ^ (bits - 7 * k).toNat := by
          have : 2 ^ (bits - 7 * (k : Int)).toNat <= 2 ^ 7 := Nat.pow_le_pow_right (by decide) (by omega)
          omega
        rw [if_pos (.inr ⟨h7, by omega⟩), if_neg hlt]
      · rw [if_neg (by rintro (⟨h, _⟩ | ⟨h, _⟩) <;> omega), if_neg (by omega)]
        have := ih (n / 128) (by omega) (k + 1) (v + (n : Int) % 128 * 2 ^ (7 * k)) (at_ + 1) (by omega)
        rw [show 7 * (k + 1) = 7 * k + 7 from by omega] at this
        rw [this]
        have ew : (bits - 7 * (k : Int)).toNat = (bits - 7 * ((k + 1 : Nat) : Int)).toNat + 7 := by omega
        rw [ew]
        have ei : (n / 128 < 2 ^ (bits - 7 * ((k + 1 : Nat) : Int)).toNat) ↔ n < 2 ^ ((bits - 7 * ((k + 1 : Nat) : Int)).toNat + 7) := by
          rw [Nat.pow_add]
          generalize 2 ^ (bits - 7 * ((k + 1 : Nat) : Int)).toNat = P
          simp only [Nat.reducePow]; omega
        by_cases hlt : n < 2 ^ ((bits - 7 * ((k + 1 : Nat) : Int)).toNat + 7)
        · rw [if_pos hlt, if_pos (ei.2 hlt)]
          refine Prod.ext ?_ (Prod.ext ?_ rfl)
          · simp only
            rw [Int.pow_add]
            have hd : (n : Int) = n % 128 + 128 * ((n / 128 : Nat) : Int) := by omega
            generalize (2 : Int) ^ (7 * k) = P
            generalize ((n / 128 : Nat) : Int) = q at *
            generalize (n : Int) % 128 = r at *
            rw [hd, Int.add_mul, Int.add_assoc]
            congr 2
            rw [show (2 : Int) ^ 7 = 128 from rfl, Int.mul_comm P, <- Int.mul_assoc, Int.mul_comm q]
          · simp only; omega
        · rw [if_neg hlt, if_neg (fun h => hlt (ei.1 h))]
theorem sRd_put (bits : Int) (rest : List Int) (n : Int) (k : Nat) (v at_ : Int) (hk : 7 * (k : Int) < bits) (h64 : bits <= 64) (hv0 : 0 <= v) (hv : v < 2 ^ (7 * k)) :
    sRd bits (putS n ++ rest) (7 * k) v at_ = if -2 ^ (bits - 7 * k - 1).toNat <= n /\ n < 2 ^ (bits - 7 * k - 1).toNat then (v + n * 2 ^ (7 * k), at_ + (putS n).length, 0) else (0, 0, 6) := by
  induction hN : n.natAbs using Nat.strongRecOn generalizing n k v at_ with
  | ind N ih =>
    have hc : ((7 * k : Nat) : Int) = 7 * (k : Int) := by omega
    by_cases hs : -64 <= n /\ n <= 63
    · rw [putS_small hs]
      simp only [List.cons_append, List.nil_append, sRd, hc, List.length_cons, List.length_nil]
      have e1 : n % 128 % 128 = n % 128 := by omega
      have e2 : sx (n % 128) = n := by unfold sx; split <;> omega
      have e3 : sext (7 * k + 7) (v + n % 128 * 2 ^ (7 * k)) = v + n * 2 ^ (7 * k) := by
        unfold sext
        rw [show 7 * k + 7 - 1 = 7 * k + 6 from by omega, Int.pow_add, Int.pow_add]
        generalize (2 : Int) ^ (7 * k) = P at *
        have h1 : n * P <= 63 * P := Int.mul_le_mul_of_nonneg_right hs.2 (by omega)
        have h2 : -64 * P <= n * P := Int.mul_le_mul_of_nonneg_right hs.1 (by omega)
        by_cases hneg : 0 <= n
        · rw [show n % 128 = n from by omega, if_pos (by omega)]
        · rw [show n % 128 = n + 128 from by omega, Int.add_mul, if_neg (by omega)]; omega
      rw [e1, e2, e3]
      have hp : (0 : Int) < 2 ^ (bits - 7 * (k : Int) - 1).toNat := Int.pow_pos (by decide)
      by_cases h7 : bits - 7 * k <= 7
      · by_cases hr : -2 ^ (bits - 7 * (k : Int) - 1).toNat <= n /\ n < 2 ^ (bits - 7 * (k : Int) - 1).toNat
        · have hz : n / 2 ^ (bits - 7 * (k : Int) - 1).toNat = 0 \/ n / 2 ^ (bits - 7 * (k : Int) - 1).toNat = -1 := by
            by_cases h0 : 0 <= n
            · left; exact Int.ediv_eq_zero_of_lt h0 hr.2
            · right
              have h1 := Int.lt_ediv_add_one_mul_self n hp
              have h2 := Int.ediv_mul_le n (b := 2 ^ (bits - 7 * (k : Int) - 1).toNat) (by omega)
              generalize (2 : Int) ^ (bits - 7 * (k : Int) - 1).toNat = P at *
              generalize n / P = q at *
              have h3 : q < 0 := Classical.byContradiction fun h => by
                have := Int.mul_nonneg (by omega : 0 <= q) (by omega : 0 <= P); omega
              have h4 : -2 < q := Classical.byContradiction fun h => by
                have := Int.mul_le_mul_of_nonneg_right (by omega : q + 1 <= -1) (by omega : 0 <= P); omega
              omega
          rw [if_neg (by rintro ⟨_, ⟨a, b⟩ | h⟩; exact hz.elim a b; omega), if_pos (by omega), if_pos hr]; simp
        · have hz : n / 2 ^ (bits - 7 * (k : Int) - 1).toNat ≠ 0 /\ n / 2 ^ (bits - 7 * (k : Int) - 1).toNat ≠ -1 := by
            have h1 := Int.lt_ediv_add_one_mul_self n hp
            have h2 := Int.ediv_mul_le n (b := 2 ^ (bits - 7 * (k : Int) - 1).toNat) (by omega)
            constructor <;> intro h <;> rw [h] at h1 h2 <;> omega
          rw [if_pos ⟨h7, .inl hz⟩, if_neg hr]
      · have hr : -2 ^ (bits - 7 * (k : Int) - 1).toNat <= n /\ n < 2 ^ (bits - 7 * (k : Int) - 1).toNat := by
          have : (2 : Int) ^ 6 <= 2 ^ (bits - 7 * (k : Int) - 1).toNat := by exact_mod_cast Nat.pow_le_pow_right (n := 2) (i := 6) (by decide) (by omega)
          omega
        rw [if_neg (by rintro ⟨h, _⟩; omega), if_pos (by omega), if_pos hr]; simp
    · rw [putS_big hs]
      simp only [List.cons_append, sRd, hc, List.length_cons]
      have e1 : (n % 128 + 128) % 128 = n % 128 := by omega
      rw [e1]
      by_cases h7 : bits - 7 * k <= 7
      · have hr : ¬(-2 ^ (bits - 7 * (k : Int) - 1).toNat <= n /\ n < 2 ^ (bits - 7 * (k : Int) - 1).toNat) := by
          have : (2 : Int) ^ (bits - 7 * (k : Int) - 1).toNat <= 2 ^ 6 := by exact_mod_cast Nat.pow_le_pow_right (n := 2) (by decide) (by omega)
          omega
        rw [if_pos ⟨h7, .inr (by omega)⟩, if_neg hr]
      · rw [if_neg (by rintro ⟨h, _⟩; omega), if_neg (by omega)]
        have hb := pow_lt_mul hv0 hv (by omega : 0 <= n % 128) (m := 7) (by omega)
        have := ih (n / 128).natAbs (by omega) (n / 128) (k + 1) (v + n % 128 * 2 ^ (7 * k)) (at_ + 1) (by omega) hb.1 (by rw [show 7 * (k + 1) = 7 * k + 7 from by omega]; exact hb.2) rfl
        rw [show 7 * (k + 1) = 7 * k + 7 from by omega] at this
        rw [this]
        have ew : (bits - 7 * (k : Int) - 1).toNat = (bits - 7 * ((k + 1 : Nat) : Int) - 1).toNat + 7 := by omega
        rw [ew]
        have ei : (-2 ^ (bits - 7 * ((k + 1 : Nat) : Int) - 1).toNat <= n / 128 /\ n / 128 < 2 ^ (bits - 7 * ((k + 1 : Nat) : Int) - 1).toNat) ↔ (-2 ^ ((bits - 7 * ((k + 1 : Nat) : Int) - 1).toNat + 7) <= n /\ n < 2 ^ ((bits - 7 * ((k + 1 : Nat) : Int) - 1).toNat + 7)) := by
          rw [Int.pow_add]
          generalize (2 : Int) ^ (bits - 7 * ((k + 1 : Nat) : Int) - 1).toNat = P
          simp only [Int.reducePow]; omega
        by_cases hlt : (-2 ^ ((bits - 7 * ((k + 1 : Nat) : Int) - 1).toNat + 7) <= n /\ n < 2 ^ ((bits - 7 * ((k + 1 : Nat) : Int) - 1).toNat + 7))
        · rw [if_pos hlt, if_pos (ei.2 hlt)]
          refine Prod.ext ?_ (Prod.ext ?_ rfl)
          · simp only
            rw [Int.pow_add]
            have hd : n = n % 128 + 128 * (n / 128) := by omega
            generalize (2 : Int) ^ (7 * k) = P
            generalize n / 128 = q at *
            generalize n % 128 = r at *
            rw [hd, Int.add_mul, Int.add_assoc]
            congr 2
            rw [show (2 : Int) ^ 7 = 128 from rfl, Int.mul_comm P, <- Int.mul_assoc, Int.mul_comm q]
          · simp only; omega
        · rw [if_neg hlt, if_neg (fun h => hlt (ei.1 h))]
end Go.Proofs.Yteppkbaeacndiaa
namespace Go.Proofs.Yteppkbaeacndiaa
set_option maxRecDepth 20000
open Go Go.Abs
theorem bytes_at {l : List Int} (h : bytes l) {k : Nat} (hk : k < l.length) : byte (l.getD k 0) := h _ (getD_mem hk)
theorem bytes_take {l : List Int} (h : bytes l) (n : Nat) : bytes (l.take n) := fun x hx => h x (List.mem_of_mem_take hx)
theorem bytes_drop {l : List Int} (h : bytes l) (n : Nat) : bytes (l.drop n) := fun x hx => h x (List.mem_of_mem_drop hx)
def le : List Int -> Int
  | [] => 0
  | x :: l => x + 256 * le l
def toB : Nat -> Int -> List Int
  | 0, _ => []
  | n + 1, x => x % 256 :: toB n (x / 256)
theorem toB_len (n : Nat) (x : Int) : (toB n x).length = n := by
  induction n generalizing x with
  | zero => rfl
  | succ n ih => simp [toB, ih]
theorem toB_bytes (n : Nat) (x : Int) : bytes (toB n x) := by
  induction n generalizing x with
  | zero => intro y hy; cases hy
  | succ n ih =>
    intro y hy
    rcases List.mem_cons.1 hy with rfl | hy
    · exact ⟨by omega, by omega⟩
    · exact ih _ y hy
theorem pow8 (n : Nat) : (2 : Int) ^ (8 * (n + 1)) = 256 * 2 ^ (8 * n) := by
  rw [show 8 * (n + 1) = 8 * n + 8 from by omega, Int.pow_add, Int.mul_comm]; rfl
theorem le_append (a b : List Int) : le (a ++ b) = le a + 2 ^ (8 * a.length) * le b := by
  induction a with
  | nil => simp [le]
  | cons x a ih =>
    rw [List.cons_append, le, ih, List.length_cons, pow8, le, Int.mul_add, Int.mul_assoc]; omega
theorem le_bound {l : List Int} (h : bytes l) : 0 <= le l /\ le l < 2 ^ (8 * l.length) := by
  induction l with
  | nil => exact ⟨Int.le_refl _, by decide⟩
  | cons x l ih =>
    have h1 := ih (fun y hy => h y (List.mem_cons_of_mem _ hy))
    have h2 := h x (List.mem_cons_self ..)
    rw [List.length_cons, pow8, le]
    unfold byte at h2
    omega
theorem le_toB (n : Nat) (x : Int) : le (toB n x) = x % 2 ^ (8 * n) := by
  induction n generalizing x with
  | zero => simp [toB, le, Int.emod_one]
  | succ n ih =>
    rw [toB, le, ih, pow8]
    have hp : (0 : Int) < 2 ^ (8 * n) := Int.pow_pos (by decide)
    generalize (2 : Int) ^ (8 * n) = P at *
    have h1 := Int.emod_def x (256 * P)
    have h2 := Int.emod_def (x / 256) P
    have h3 : x / (256 * P) = x / 256 / P := (Int.ediv_ediv_of_nonneg (by decide)).symm
    rw [h1, h2, h3, Int.mul_sub, Int.mul_assoc]; omega
theorem le_take {l : List Int} {k : Nat} (h : k < l.length) : le (l.take (k + 1)) = le (l.take k) + l.getD k 0 * 2 ^ (8 * k) := by
  rw [take_succ_getD h, le_append, List.length_take, Nat.min_eq_left (by omega)]
  simp [le, Int.mul_comm]
def lanes (w : Int) : Nat := if w = 8 then 16 else if w = 16 then 8 else if w = 32 then 4 else if w = 64 then 2 else 0
def wb (w : Int) : Nat := (w / 8).toNat
theorem lanes_pos {w : Int} (h : lanes w ≠ 0) : (w = 8 \/ w = 16 \/ w = 32 \/ w = 64) := by
  unfold lanes at h; split at h <;> (try (split at h)) <;> (try (split at h)) <;> (try (split at h)) <;> simp_all
theorem lanes_wb {w : Int} (h : lanes w ≠ 0) : lanes w * wb w = 16 /\ w = 8 * (wb w : Int) /\ 1 <= wb w /\ wb w <= 8 := by
  rcases lanes_pos h with rfl | rfl | rfl | rfl <;> decide
def get (v : List Int) (w i : Int) : Int := if 0 <= i /\ i < lanes w then le ((v.drop (i.toNat * wb w)).take (wb w)) else 0
def sgn (w x : Int) : Int := if x % 2 ^ w.toNat < 2 ^ (w.toNat - 1) then x % 2 ^ w.toNat else x % 2 ^ w.toNat - 2 ^ w.toNat
def signed (v : List Int) (w i : Int) : Int := if lanes w = 0 then 0 else sgn w (get v w i)
def splice (l : List Int) (o : Nat) (m : List Int) : List Int := l.take o ++ m ++ l.drop (o + m.length)
def set (v : List Int) (w i x : Int) : List Int := if 0 <= i /\ i < lanes w then splice v (i.toNat * wb w) (toB (wb w) x) else v
def zero16 : List Int := [0, 0, 0, 0, 0, 0, 0, 0, 0, 0, 0, 0, 0, 0, 0, 0]
def sets (w : Int) : List Int -> Nat -> List Int -> List Int
  | v, _, [] => v
  | v, i, x :: xs => sets w (set v w i x) (i + 1) xs
def of (w : Int) (xs : List Int) : List Int := sets w zero16 0 (xs.take (lanes w))
def all (v : List Int) (w : Int) : List Int := (List.range (lanes w)).map fun i => get v w (i : Nat)
def lo (v : List Int) : Int := le (v.take 8)
def hi (v : List Int) : Int := le (v.drop 8)
def join (l h : Int) : List Int := toB 8 l ++ toB 8 h
def need (t : Int) : Nat := if t = 127 \/ t = 126 then 1 else if t = 123 then 2 else 0
theorem wbe {w : Int} (h : lanes w ≠ 0) : IntKind.i64.wrap (Int.tdiv w 8) = wb w := by
  rcases lanes_pos h with rfl | rfl | rfl | rfl <;> decide +kernel
theorem lane_in {w : Int} {i : Nat} (h : i < lanes w) : lanes w ≠ 0 /\ i * wb w + wb w <= 16 := by
  have h0 : lanes w ≠ 0 := by omega
  obtain ⟨h1, _, _, _⟩ := lanes_wb h0
  refine ⟨h0, ?_⟩
  have : (i + 1) * wb w <= lanes w * wb w := Nat.mul_le_mul_right _ h
  rw [Nat.add_mul, Nat.one_mul] at this; omega
theorem toB_succ (n : Nat) (x : Int) : toB (n + 1) x = toB n x ++ [x / 2 ^ (8 * n) % 256] := by
  induction n generalizing x with
  | zero => simp [toB]
  | succ n ih =>
    rw [toB, ih, toB, List.cons_append, pow8, Int.ediv_ediv_of_nonneg (by decide)]
theorem splice_len {l : List Int} {o : Nat} {m : List Int} (h : o + m.length <= l.length) : (splice l o m).length = l.length := by
  simp only [splice, List.length_append, List.length_take, List.length_drop]; omega
theorem splice_set {l : List Int} {o : Nat} {m : List Int} (b : Int) (h : o + m.length < l.length) : setI (splice l o m) (o + m.length) b = splice l o (m ++ [b]) := by
  have e1 : (l.take o).length = o := by rw [List.length_take]; omega
  have e2 : (splice l o m).take (o + m.length) = l.take o ++ m := by
    unfold splice
    rw [List.take_append_of_le_length (by rw [List.length_append, e1]; omega), List.take_of_length_le (by rw [List.length_append, e1]; omega)]
  have e3 : (splice l o m).drop (o + m.length + 1) = l.drop (o + (m ++ [b]).length) := by
    unfold splice
    rw [List.drop_append, List.drop_of_length_le (by rw [List.length_append, e1]; omega), List.length_append, e1, List.nil_append, List.drop_drop, List.length_append]
    congr 1
    simp; omega
  unfold setI
  rw [e2, e3]
  simp [splice]
theorem splice_nil (l : List Int) (o : Nat) : splice l o [] = l := by simp [splice]
theorem bytes_app {a b : List Int} (ha : bytes a) (hb : bytes b) : bytes (a ++ b) := by
  intro x hx; rcases List.mem_append.1 hx with h | h
  · exact ha x h
  · exact hb x h
theorem splice_bytes {l m : List Int} (o : Nat) (hl : bytes l) (hm : bytes m) : bytes (splice l o m) :=
  bytes_app (bytes_app (bytes_take hl _) hm) (bytes_drop hl _)
theorem set_ok {v : List Int} (w i x : Int) (hl : v.length = 16) (hb : bytes v) : (set v w i x).length = 16 /\ bytes (set v w i x) := by
  unfold set
  split
  · rename_i h
    obtain ⟨i0, rfl⟩ : ∃ i0 : Nat, i = i0 := ⟨i.toNat, by omega⟩
    have := lane_in (w := w) (i := i0) (by omega)
    refine ⟨?_, splice_bytes _ hb (toB_bytes _ _)⟩
    rw [splice_len (by rw [toB_len, Int.toNat_natCast]; omega), hl]
  · exact ⟨hl, hb⟩
theorem zero_ok : zero16.length = 16 /\ bytes zero16 := ⟨rfl, by intro x hx; simp [zero16] at hx; subst hx; exact ⟨by decide, by decide⟩⟩
theorem drop16 {k : IntKind} {l : List Int} (h : l.length = 16) : List.drop 16 (nums k l) = [] := List.drop_of_length_le (by rw [nums_length]; omega)
theorem dz : List.drop 16 (nums .u8 zero16) = [] := rfl
theorem take16 {l : List Int} (h : l.length = 16) : List.take 16 l = l := List.take_of_length_le (by omega)
end Go.Proofs.Yteppkbaeacndiaa
namespace Go.Proofs.Yteppkbaeacndiaa
open Go Go.Abs
attribute [local irreducible] AW AWL AC FW CW CWr IntKind.wrap
theorem K1Tabs.sd {p : Prop} (h : p := by first | exact sd2365ef) : p := h
open K1Tabs in
set_option maxRecDepth 8000 in
set_option maxHeartbeats 6400000 in
theorem scalars_own : AC Try.prog 52 [] (fun r m => r = .ref 0 0 42 5 /\ m = [(0, rowC scalarsR)]) := by
  refine AC.enter Try.func52 rfl (Nat.le_of_ble_eq_true rfl) ?_
  simp only [Try.f52]
  have nx : True := trivial
  refine' st53db83
  all_goals first | exact ⟨trivial, trivial⟩ | exact ⟨rfl, trivial⟩ | exact ⟨rfl, rfl⟩ | exact ⟨trivial, rfl⟩ | (exfalso; omega) | trace_state
theorem scalars_ok : AC Try.prog 52 [] (fun r m => r = .view 42 5 (rowC scalarsR) /\ m = []) := scalars_own.look ((rowC_len _).trans rfl)
open K1Tabs in
set_option maxRecDepth 8000 in
set_option maxHeartbeats 6400000 in
theorem vectors_own : AC Try.prog 53 [] (fun r m => r = .ref 0 0 66 5 /\ m = [(0, rowC vectorsR)]) := by
  refine AC.enter Try.func53 rfl (Nat.le_of_ble_eq_true rfl) ?_
  simp only [Try.f53]
  have nx : True := trivial
  refine' st53db83
  all_goals first | exact ⟨trivial, trivial⟩ | exact ⟨rfl, trivial⟩ | exact ⟨rfl, rfl⟩ | exact ⟨trivial, rfl⟩ | (exfalso; omega) | trace_state
theorem vectors_ok : AC Try.prog 53 [] (fun r m => r = .view 66 5 (rowC vectorsR) /\ m = []) := vectors_own.look ((rowC_len _).trans rfl)
open K1Tabs in
set_option maxRecDepth 100000 in
set_option maxHeartbeats 6400000 in
theorem table_own : AC Try.prog 33 [] (fun r m => r = .ref 0 0 108 1 /\ m = [(0, strC tableR)]) := by
  refine AC.enter Try.func33 rfl (Nat.le_of_ble_eq_true rfl) ?_
  simp only [Try.f33]
  have nx : True := trivial
  refine' st53db83
  all_goals first | exact ⟨trivial, trivial⟩ | exact ⟨rfl, trivial⟩ | exact ⟨rfl, rfl⟩ | exact ⟨trivial, rfl⟩ | (exfalso; omega) | trace_state
theorem table_ok : AC Try.prog 33 [] (fun r m => r = .view 108 1 (strC tableR) /\ m = []) := table_own.look ((strC_len _).trans rfl)
end Go.Proofs.Yteppkbaeacndiaa
namespace Go.Proofs.Yteppkbaeacndiaa
open Go Go.Abs
attribute [local irreducible] AW AWL AC FW CW CWr IntKind.wrap
def O5 (op : Int) (R : List Row) (n : Nat) (i : Int) : St := { n := 72, slots := [(0, .int .i64 op), (2, .ptr 2 0), (3, .bool false), (16, .view n 5 (rowC R)), (17, .int .i64 n), (18, .int .i64 i)], mem := [(2, ⟨false, [.int .i64 0, .int .i64 0, .bool false, .ref 3003 0 0 1, .ref 3004 0 0 1]⟩), (3003, ⟨true, []⟩), (3004, ⟨true, []⟩)] }
def O11 (fm lm : Int) (pl : Bool) (B : List Int) (n : Nat) (k : Int) (o : Bool) (I U : List Int) : St := { n := 72, slots := [(2, .ptr 2 0), (3, .bool false), (7, .ptr 7 0), (8, .bool o), (42, .ref 42 0 n 1), (43, .int .i64 n), (44, .int .i64 k)], mem := [(2, ⟨false, [.int .i64 0, .int .i64 0, .bool false, .ref 3003 0 0 1, .ref 3004 0 0 1]⟩), (3003, ⟨true, []⟩), (3004, ⟨true, []⟩), (7, ⟨false, [.int .i64 fm, .int .i64 lm, .bool pl, .ref 8003 0 I.length 1, .ref 8004 0 U.length 1]⟩), (8003, ⟨true, nums .i64 I⟩), (8004, ⟨true, nums .i64 U⟩), (42, ⟨true, nums .u8 B⟩)] }
theorem rows_small : (allR.all fun r => decide (r.2.2.2.2.length <= 5)) = true := by decide +kernel
theorem K1Of.sd {p : Prop} (h : p := by first | exact sd863d30) : p := h
open K1Of in
set_option maxRecDepth 8000 in
set_option maxHeartbeats 6400000 in
theorem of_ok (op : Int) : AC Try.prog 28 [.int .i64 op]
    (fun r m => r = .tup [infoV (ofS op).1, .bool (ofS op).2] /\ m = [(3003, nums .i64 (ofS op).1.2.2.2.1), (3004, nums .i64 (ofS op).1.2.2.2.2)]) := by
  have hpa := part_all op
  refine AC.enter Try.func28 rfl (Nat.le_of_ble_eq_true rfl) ?_
  simp only [Try.f28]
  obtain ⟨R, hR⟩ : ∃ R, partR op = R := ⟨_, rfl⟩
  rw [hR] at hpa
  obtain ⟨n, hn⟩ : ∃ n, R.length = n := ⟨_, rfl⟩
  have hnl : n <= 66 := by
    rw [<- hn, <- hR]; unfold partR; split
    · exact Nat.le_refl 66
    · show 42 <= 66; decide
  have hsm : ∀ k, k < n -> (R.getD k nRow).2.2.2.2.length <= 5 := by
    intro k hk
    have hm : R.getD k nRow ∈ allR := by
      have h1 : R.getD k nRow ∈ R := by rw [show R.getD k nRow = R[k]'(by omega) from by simp [List.getD, show k < R.length by omega]]; exact List.getElem_mem _
      rw [<- hR] at h1 ⊢
      unfold partR at h1 ⊢; unfold allR
      split at h1
      · rename_i h; rw [if_pos h]; exact List.mem_append_right _ h1
      · rename_i h; rw [if_neg h]; exact List.mem_append_left _ h1
    exact of_decide_eq_true (List.all_eq_true.1 rows_small _ hm)
  by_cases hop : op >= 64768
  case' pos =>
    have hRv : R = vectorsR := by rw [<- hR]; exact if_pos hop
    have hnn : n = 66 := by rw [<- hn, hRv]; rfl
    have nx : True := trivial
    refine' sta02aac
  case' neg =>
    have hRv : R = scalarsR := by rw [<- hR]; exact if_neg hop
    have hnn : n = 42 := by rw [<- hn, hRv]; rfl
    have nx : True := trivial
    refine' sta02aac
  all_goals (
    refine AW.loop [0, 2, 3, 16, 17, 18] [2, 3003, 3004] (fun m st => ∃ (i : Nat), st = O5 op R n i /\ i <= n /\ m = n - i /\ ∀ j, j < i -> op < (R.getD j nRow).1 \/ op > (R.getD j nRow).2.1) ?_ ?_
    · exact ⟨_, 0, by rw [hRv, hnn]; rfl, Nat.zero_le _, rfl, fun j hj => absurd hj (Nat.not_lt_zero _)⟩
    rintro m st ⟨i, rfl, hi, rfl, hall⟩
    have e5 : IntKind.i64.wrap ((i : Int) + 1) = ((i + 1 : Nat) : Int) := wrap64_id _ (by omega) (by omega)
    by_cases hin : i < n
    · have hld := row_load (l := R) (k := i) (by omega)
      have hroom := row_room (l := R) (k := i) (by omega)
      have hsml := hsm i hin
      by_cases hno : op < (R.getD i nRow).1 \/ op > (R.getD i nRow).2.1
      · have hall2 : ∀ j, j < i + 1 -> op < (R.getD j nRow).1 \/ op > (R.getD j nRow).2.1 := fun j hj => by
          by_cases e : j < i
          · exact hall j e
          · obtain rfl : j = i := by omega
            exact hno
        generalize R.getD i nRow = r at hld hno
        obtain ⟨r0, r1, fm, lm, g⟩ := r
        simp only [row1] at hno hld
        have nx : type_of% @e5 /\ type_of% @hld /\ True := ⟨@e5, ⟨@hld, trivial⟩⟩
        refine' sta02aac
        all_goals try simp (disch := omega) only [NSX, Nat.reduceBEq, Nat.reduceAdd, Nat.reduceMul, Int.reduceToNat, Nat.reduceSub, TY, List.set_cons_zero, List.set_cons_succ, SLS, nums_length, byts_V, byts_len, O5, O11, e5]
        all_goals first
          | exact ⟨n - (i + 1), by omega, i + 1, rfl, by omega, rfl, hall2⟩
          | (exfalso; omega) | trace_state
      · have hf := findR_at (op := op) (l := R) (k := i) (by omega) hall hno
        rw [hpa] at hf
        have hof : ofS op = (infoOf (R.getD i nRow), true) := by unfold ofS; rw [hf]
        generalize R.getD i nRow = r at hld hno hof hsml
        obtain ⟨r0, r1, fm, lm, g⟩ := r
        simp only [row1] at hno hld hsml
        have hno1 : ¬ op < r0 := fun h => hno (.inl h)
        have hno2 : ¬ r1 < op := fun h => hno (.inr h)
        have nx : type_of% @hld /\ True := ⟨@hld, trivial⟩
        refine' sta02aac
        refine AW.loop [2, 3, 7, 8, 42, 43, 44] [2, 3003, 3004, 7, 8003, 8004, 42] (fun m st => ∃ k : Nat, st = O11 fm lm (!g == []) (byts g) g.length k (sigS ((byts g).take k)).1 (sigS ((byts g).take k)).2.1 (sigS ((byts g).take k)).2.2 /\ k <= g.length /\ m = g.length - k) ?_ ?_
        · exact ⟨_, 0, rfl, Nat.zero_le _, rfl⟩
        rintro m st ⟨k, rfl, hk, rfl⟩
        have e6 : IntKind.i64.wrap ((k : Int) + 1) = ((k + 1 : Nat) : Int) := wrap64_id _ (by omega) (by omega)
        have hbl := byts_len g
        have hsl := sigS_len ((byts g).take k)
        rw [List.length_take] at hsl
        by_cases hkg : k < g.length
        · have hst := take_succ_getD (l := byts g) (k := k) (by omega)
          have hss := sigS_snoc ((byts g).take k) ((byts g).getD k 0)
          rw [<- hst] at hss
          have hby : 0 <= (byts g).getD k 0 /\ (byts g).getD k 0 <= 255 := by
            rw [byts_at]; have := (g.getD k 0).toNat_lt; omega
          obtain ⟨c, hcc⟩ : ∃ c, (byts g).getD k 0 = c := ⟨_, rfl⟩
          rw [hcc] at hss hby
          generalize sigS ((byts g).take k) = z at hss hsl
          obtain ⟨o, I, U⟩ := z
          simp only at hss hsl
          have s58 : c = 58 -> sigS ((byts g).take (k + 1)) = (true, I, U) := fun h => by rw [hss, sig1, if_pos h]
          have sT : c ≠ 58 -> o = true -> sigS ((byts g).take (k + 1)) = (true, I, U ++ [tyOf c]) := fun h h2 => by subst h2; rw [hss, sig1, if_neg h]; rfl
          have sF : c ≠ 58 -> o = false -> sigS ((byts g).take (k + 1)) = (false, I ++ [tyOf c], U) := fun h h2 => by subst h2; rw [hss, sig1, if_neg h]; rfl
          have t1 : c = 108 -> tyOf c = 126 := fun h => if_pos h
          have t2 : c ≠ 108 -> c = 118 -> tyOf c = 123 := fun h h2 => by unfold tyOf; rw [if_neg h, if_pos h2]
          have t3 : c ≠ 108 -> c ≠ 118 -> tyOf c = 127 := fun h h2 => by unfold tyOf; rw [if_neg h, if_neg h2]
          have nx : type_of% @e6 /\ type_of% @hcc /\ True := ⟨@e6, ⟨@hcc, trivial⟩⟩
          refine' sta02aac
          all_goals try simp (disch := omega) only [NSX, Nat.reduceBEq, Nat.reduceAdd, Nat.reduceMul, Int.reduceToNat, Nat.reduceSub, TY, List.set_cons_zero, List.set_cons_succ, SLS, nums_length, byts_V, byts_len, O5, O11, e6]
          all_goals first
            | exact ⟨g.length - (k + 1), by omega, k + 1, by rw [s58 (by omega)], by omega, rfl⟩
            | exact ⟨g.length - (k + 1), by omega, k + 1, by have ho : o = true := (by assumption); subst ho; rw [sT (by omega) rfl, t1 (by omega), List.length_append, List.length_singleton], by omega, rfl⟩
            | exact ⟨g.length - (k + 1), by omega, k + 1, by have ho : o = false := (by assumption); subst ho; rw [sF (by omega) rfl, t1 (by omega), List.length_append, List.length_singleton], by omega, rfl⟩
            | exact ⟨g.length - (k + 1), by omega, k + 1, by have ho : o = true := (by assumption); subst ho; rw [sT (by omega) rfl, t2 (by omega) (by omega), List.length_append, List.length_singleton], by omega, rfl⟩
            | exact ⟨g.length - (k + 1), by omega, k + 1, by have ho : o = false := (by assumption); subst ho; rw [sF (by omega) rfl, t2 (by omega) (by omega), List.length_append, List.length_singleton], by omega, rfl⟩
            | exact ⟨g.length - (k + 1), by omega, k + 1, by have ho : o = true := (by assumption); subst ho; rw [sT (by omega) rfl, t3 (by omega) (by omega), List.length_append, List.length_singleton], by omega, rfl⟩
            | exact ⟨g.length - (k + 1), by omega, k + 1, by have ho : o = false := (by assumption); subst ho; rw [sF (by omega) rfl, t3 (by omega) (by omega), List.length_append, List.length_singleton], by omega, rfl⟩
            | trace_state
        · obtain rfl : k = g.length := by omega
          rw [<- hbl, List.take_length]
          have nx : True := trivial
          refine' sta02aac
          all_goals first | exact ⟨trivial, trivial⟩ | exact ⟨rfl, trivial⟩ | exact ⟨rfl, rfl⟩ | exact ⟨trivial, rfl⟩ | (rw [hof]; exact ⟨by cases g <;> rfl, rfl⟩) | (exfalso; omega) | trace_state
    · obtain rfl : i = n := by omega
      have hf := findR_none (op := op) (l := R) (fun j hj => hall j (by omega))
      rw [hpa] at hf
      have hof : ofS op = (noInfo, false) := by unfold ofS; rw [hf]
      have nx : True := trivial
      refine' sta02aac
      all_goals first | exact ⟨trivial, trivial⟩ | exact ⟨rfl, trivial⟩ | exact ⟨rfl, rfl⟩ | exact ⟨trivial, rfl⟩ | (rw [hof]; exact ⟨rfl, rfl⟩) | (exfalso; omega) | trace_state
      )
end Go.Proofs.Yteppkbaeacndiaa
namespace Go.Proofs.Yteppkbaeacndiaa
set_option maxRecDepth 20000
open Go Go.Abs
attribute [local irreducible] AW AWL AC FW CW CWr IntKind.wrap
theorem byStr (h : 9 < Try.prog.types.size) : (Try.prog.types[9]'h).bytes = 16 := by kernel_rfl
theorem strC_snoc (l : List (List UInt8)) (x : List UInt8) : strC l ++ [V.str x] = strC (l ++ [x]) := by simp [strC]
def wst (s : List UInt8) : Nat -> List (List UInt8) × Nat
  | 0 => ([], 0)
  | i + 1 => match wst s i with
    | (l, f) => if i = s.length \/ (s.getD i 0).toNat = 32 then (l ++ [(s.drop f).take (i - f)], i + 1) else (l, f)
theorem wst_yes {s : List UInt8} {i : Nat} (h : i = s.length \/ (s.getD i 0).toNat = 32) : wst s (i + 1) = ((wst s i).1 ++ [(s.drop (wst s i).2).take (i - (wst s i).2)], i + 1) := by
  rw [wst]; cases wst s i; exact if_pos h
theorem wst_no {s : List UInt8} {i : Nat} (h : ¬(i = s.length \/ (s.getD i 0).toNat = 32)) : wst s (i + 1) = wst s i := by
  rw [wst]; cases wst s i; exact if_neg h
def wordsS (s : List UInt8) : List (List UInt8) := (wst s (s.length + 1)).1
theorem wst_le (s : List UInt8) (i : Nat) : (wst s i).2 <= i /\ (wst s i).1.length <= i := by
  induction i with
  | zero => exact ⟨Nat.le_refl _, Nat.le_refl _⟩
  | succ i ih =>
    by_cases h : i = s.length \/ (s.getD i 0).toNat = 32
    · rw [wst_yes h]; simp; omega
    · rw [wst_no h]; omega
def W4 (s : List UInt8) (L : List (List UInt8)) (f i : Int) : St := { n := 32, slots := [(0, .str s), (2, .ref 2 0 0 1), (3, .ref 3 0 L.length 1), (4, .int .i64 f), (5, .int .i64 i)], mem := [(3, ⟨true, strC L⟩)] }
theorem K1Words.kp {P : Program} {c : Code} {Q : Exit -> St -> Prop} {st : St} (h : AW P c Q (st.keepS [0, 2, 3, 4, 5])) : AW P c Q st := AW.keepS _ h
theorem K1Words.sd {p : Prop} (h : p := by first | exact sdf8d0a1) : p := h
open K1Words in
set_option maxHeartbeats 3200000 in
theorem words_ok (s : List UInt8) (hs : s.length <= 1000) : AC Try.prog 34 [.str s] (fun r m => r = .ref 2 0 (wordsS s).length 1 /\ m = [(2, strC (wordsS s))]) := by
  refine AC.enter Try.func34 rfl (Nat.le_of_ble_eq_true rfl) ?_
  simp only [Try.f34]
  have nx : True := trivial
  refine' sta8e102
  refine AW.loop [0, 2, 3, 4, 5] [3] (fun m st => ∃ (i : Nat), st = W4 s (wst s i).1 (wst s i).2 i /\ i <= s.length + 1 /\ m = s.length + 1 - i) ?_ ?_
  · exact ⟨_, 0, rfl, Nat.zero_le _, rfl⟩
  rintro m st ⟨i, rfl, hi, rfl⟩
  have e5 : IntKind.i64.wrap ((i : Int) + 1) = ((i + 1 : Nat) : Int) := wrap64_id _ (by omega) (by omega)
  have hw := wst_le s i
  by_cases hin : i <= s.length
  · by_cases hc0 : i = s.length \/ (s.getD i 0).toNat = 32
    · have hn : wst s (i + 1) = ((wst s i).1 ++ [(s.drop (wst s i).2).take (i - (wst s i).2)], i + 1) := wst_yes hc0
      have hn1 : (wst s (i + 1)).1 = (wst s i).1 ++ [(s.drop (wst s i).2).take (i - (wst s i).2)] := by rw [hn]
      have hn2 : (wst s (i + 1)).2 = i + 1 := by rw [hn]
      have hst : List.take (wst s i).1.length (strC (wst s i).1) = strC (wst s i).1 := List.take_of_length_le (Nat.le_of_eq (strC_len _))
      have nx : type_of% @e5 /\ type_of% @hst /\ True := ⟨@e5, ⟨@hst, trivial⟩⟩
      refine' sta8e102
      all_goals try simp (disch := omega) only [NSX, St.keepS, Nat.reduceBEq, Nat.reduceAdd, Nat.reduceMul, Int.reduceToNat, Nat.reduceSub, TY, List.set_cons_zero, List.set_cons_succ, SLS, nums_length, byts_V, byts_len, W4, strC_snoc, e5, hst]
      all_goals first
        | exact ⟨s.length + 1 - (i + 1), by omega, i + 1, by rw [hn1, hn2, List.length_append, List.length_singleton], by omega, rfl⟩
        | (exfalso; omega) | trace_state
    · have hn : wst s (i + 1) = wst s i := wst_no hc0
      have nx : type_of% @e5 /\ True := ⟨@e5, trivial⟩
      refine' sta8e102
      all_goals try simp (disch := omega) only [NSX, St.keepS, Nat.reduceBEq, Nat.reduceAdd, Nat.reduceMul, Int.reduceToNat, Nat.reduceSub, TY, List.set_cons_zero, List.set_cons_succ, SLS, nums_length, byts_V, byts_len, W4, strC_snoc, e5]
      all_goals first
        | exact ⟨s.length + 1 - (i + 1), by omega, i + 1, by first | (rw [hn]; done) | (rw [hn]; rfl), by omega, rfl⟩
        | (exfalso; omega) | trace_state
  · obtain rfl : i = s.length + 1 := by omega
    have nx : True := trivial
    refine' sta8e102
    all_goals first | exact ⟨trivial, trivial⟩ | exact ⟨rfl, trivial⟩ | exact ⟨rfl, rfl⟩ | exact ⟨trivial, rfl⟩ | (exfalso; omega) | trace_state
end Go.Proofs.Yteppkbaeacndiaa
namespace Go.Proofs.Yteppkbaeacndiaa
set_option maxRecDepth 20000
open Go Go.Abs
attribute [local irreducible] AW AWL AC FW CW CWr IntKind.wrap
def dig (c : UInt8) : Int := if (c.toNat : Int) >= 97 then (c.toNat : Int) - 97 + 10 else ((c.toNat : Int) - 48) % 256
theorem dig_bound (c : UInt8) : 0 <= dig c /\ dig c <= 255 := by
  have := c.toNat_lt
  unfold dig; split <;> omega
def numT (b : Int) (s : List UInt8) : Nat -> Int
  | 0 => 0
  | i + 1 => numT b s i * b + dig (s.getD i 0)
def numR (b : Int) (s : List UInt8) : Int := numT b s s.length
theorem numT_bound {b : Int} (hb : b = 10 \/ b = 16) (s : List UInt8) (i : Nat) (hi : i <= 6) : 0 <= numT b s i /\ numT b s i <= 10000000000 := by
  have h0 : ∀ i, 0 <= numT b s i /\ numT b s i <= 17 * 16 ^ i - 17 := by
    intro i
    induction i with
    | zero => exact ⟨Int.le_refl _, by rw [numT]; decide⟩
    | succ i ih =>
      have hd := dig_bound (s.getD i 0)
      have hp : (1 : Int) <= 16 ^ i := by have : (0 : Int) < 16 ^ i := Int.pow_pos (by decide); omega
      rw [numT, Int.pow_succ]
      rcases hb with rfl | rfl <;> constructor <;> omega
  have := h0 i
  have hp : (16 : Int) ^ i <= 16 ^ 6 := by exact_mod_cast Nat.pow_le_pow_right (by decide) hi
  simp only [Int.reducePow] at hp; omega
def N6 (s : List UInt8) (b x i : Int) : St := { n := 35, slots := [(0, .str s), (1, .int .i64 b), (4, .int .i64 0), (5, .int .i64 x), (6, .int .i64 i)], mem := [] }
theorem K1Number.kp {P : Program} {c : Code} {Q : Exit -> St -> Prop} {st : St} (h : AW P c Q (st.keepS [0, 1, 4, 5, 6, 7])) : AW P c Q st := AW.keepS _ h
theorem K1Number.sd {p : Prop} (h : p := by first | exact sd7b7d28) : p := h
open K1Number in
set_option maxHeartbeats 3200000 in
theorem number_ok (s : List UInt8) (b : Int) (hs : s.length <= 5) (hb : b = 10 \/ b = 16) : AC Try.prog 35 [.str s, .int .i64 b] (fun r m => r = .int .i64 (numR b s) /\ m = []) := by
  refine AC.enter Try.func35 rfl (Nat.le_of_ble_eq_true rfl) ?_
  simp only [Try.f35]
  have nx : True := trivial
  refine' stb38e06
  refine AW.loop [0, 1, 4, 5, 6] [] (fun m st => ∃ (i : Nat), st = N6 s b (numT b s i) i /\ i <= s.length /\ m = s.length - i) ?_ ?_
  · exact ⟨_, 0, rfl, Nat.zero_le _, rfl⟩
  rintro m st ⟨i, rfl, hi, rfl⟩
  have e5 : IntKind.i64.wrap ((i : Int) + 1) = ((i + 1 : Nat) : Int) := wrap64_id _ (by omega) (by omega)
  by_cases hin : i < s.length
  · have hx := numT_bound hb s i (by omega)
    have hm : numT b s i * b <= 160000000000 /\ 0 <= numT b s i * b := by rcases hb with rfl | rfl <;> omega
    have e6 : IntKind.i64.wrap (numT b s i * b) = numT b s i * b := wrap64_id _ (by omega) (by omega)
    have hd := dig_bound (s.getD i 0)
    have hlt := (s.getD i 0).toNat_lt
    have hn : numT b s (i + 1) = numT b s i * b + dig (s.getD i 0) := rfl
    have e7 : IntKind.i64.wrap (numT b s i * b + dig (s.getD i 0)) = numT b s (i + 1) := by rw [hn]; exact wrap64_id _ (by omega) (by omega)
    have e8 : IntKind.i64.wrap (IntKind.u8.wrap (((s.getD i 0).toNat : Int) - 48)) = (((s.getD i 0).toNat : Int) - 48) % 256 := by
      rw [show IntKind.u8.wrap (((s.getD i 0).toNat : Int) - 48) = (((s.getD i 0).toNat : Int) - 48) % 256 from wrap_unsigned (k := .u8) rfl _]; exact wrap64_id _ (by omega) (by omega)
    by_cases h97 : ((s.getD i 0).toNat : Int) >= 97
    · have hdd : dig (s.getD i 0) = ((s.getD i 0).toNat : Int) - 97 + 10 := if_pos h97
      have e9 : IntKind.i64.wrap (IntKind.u8.wrap (((s.getD i 0).toNat : Int) - 97)) = ((s.getD i 0).toNat : Int) - 97 := by
        rw [wrap_in (k := .u8) rfl (by omega) (by show _ < (256 : Int); omega)]; exact wrap64_id _ (by omega) (by omega)
      have e10 : IntKind.i64.wrap (((s.getD i 0).toNat : Int) - 97 + 10) = dig (s.getD i 0) := by rw [hdd]; exact wrap64_id _ (by omega) (by omega)
      have nx : type_of% @e5 /\ type_of% @e6 /\ type_of% @e8 /\ type_of% @e9 /\ type_of% @e10 /\ type_of% @e7 /\ True := ⟨@e5, ⟨@e6, ⟨@e8, ⟨@e9, ⟨@e10, ⟨@e7, trivial⟩⟩⟩⟩⟩⟩
      refine' stb38e06
      all_goals try simp (disch := omega) only [NSX, St.keepS, Nat.reduceBEq, Nat.reduceAdd, Nat.reduceMul, Int.reduceToNat, Nat.reduceSub, TY, List.set_cons_zero, List.set_cons_succ, SLS, nums_length, byts_V, byts_len, N6, e5]
      all_goals first
        | exact ⟨s.length - (i + 1), by omega, i + 1, rfl, by omega, rfl⟩
        | (exfalso; omega) | trace_state
    · have hdd : (((s.getD i 0).toNat : Int) - 48) % 256 = dig (s.getD i 0) := (if_neg h97).symm
      have nx : type_of% @e5 /\ type_of% @e6 /\ type_of% @e8 /\ type_of% @hdd /\ type_of% @e7 /\ True := ⟨@e5, ⟨@e6, ⟨@e8, ⟨@hdd, ⟨@e7, trivial⟩⟩⟩⟩⟩
      refine' stb38e06
      all_goals try simp (disch := omega) only [NSX, St.keepS, Nat.reduceBEq, Nat.reduceAdd, Nat.reduceMul, Int.reduceToNat, Nat.reduceSub, TY, List.set_cons_zero, List.set_cons_succ, SLS, nums_length, byts_V, byts_len, N6, e5]
      all_goals first
        | exact ⟨s.length - (i + 1), by omega, i + 1, rfl, by omega, rfl⟩
        | (exfalso; omega) | trace_state
  · obtain rfl : i = s.length := by omega
    have nx : True := trivial
    refine' stb38e06
    all_goals first | exact ⟨trivial, trivial⟩ | exact ⟨rfl, trivial⟩ | exact ⟨rfl, rfl⟩ | exact ⟨trivial, rfl⟩ | (exfalso; omega) | trace_state
end Go.Proofs.Yteppkbaeacndiaa
namespace Go.Proofs.Yteppkbaeacndiaa
set_option maxRecDepth 20000
open Go Go.Abs
attribute [local irreducible] AW AWL AC FW CW CWr IntKind.wrap
def typ1 (c : UInt8) : List Int := if (c.toNat : Int) = 105 then [127] else if (c.toNat : Int) = 108 then [126] else if (c.toNat : Int) = 118 then [123] else []
def typT (s : List UInt8) : Nat -> List Int
  | 0 => []
  | i + 1 => typT s i ++ typ1 (s.getD i 0)
def typesS (s : List UInt8) : List Int := typT s s.length
theorem typT_len (s : List UInt8) (i : Nat) : (typT s i).length <= i := by
  induction i with
  | zero => exact Nat.le_refl _
  | succ i ih =>
    rw [typT, List.length_append]
    have : (typ1 (s.getD i 0)).length <= 1 := by unfold typ1; split <;> (try split) <;> (try split) <;> simp
    omega
def Y4 (s : List UInt8) (L : List Int) (i : Int) : St := { n := 33, slots := [(0, .str s), (2, .ref 2 0 0 1), (3, .ref 3 0 L.length 1), (4, .int .i64 i)], mem := [(3, ⟨true, nums .i64 L⟩)] }
theorem K1Typ.kp {P : Program} {c : Code} {Q : Exit -> St -> Prop} {st : St} (h : AW P c Q (st.keepS [0, 2, 3, 4])) : AW P c Q st := AW.keepS _ h
theorem K1Typ.sd {p : Prop} (h : p := by first | exact sdf3daba) : p := h
open K1Typ in
set_option maxHeartbeats 3200000 in
theorem types_ok (s : List UInt8) (hs : s.length <= 1000) : AC Try.prog 36 [.str s] (fun r m => r = .ref 2 0 (typesS s).length 1 /\ m = [(2, nums .i64 (typesS s))]) := by
  refine AC.enter Try.func36 rfl (Nat.le_of_ble_eq_true rfl) ?_
  simp only [Try.f36]
  have nx : True := trivial
  refine' st9207ad
  refine AW.loop [0, 2, 3, 4] [3] (fun m st => ∃ (i : Nat), st = Y4 s (typT s i) i /\ i <= s.length /\ m = s.length - i) ?_ ?_
  · exact ⟨_, 0, rfl, Nat.zero_le _, rfl⟩
  rintro m st ⟨i, rfl, hi, rfl⟩
  have e5 : IntKind.i64.wrap ((i : Int) + 1) = ((i + 1 : Nat) : Int) := wrap64_id _ (by omega) (by omega)
  have hl := typT_len s i
  by_cases hin : i < s.length
  · have hn : typT s (i + 1) = typT s i ++ typ1 (s.getD i 0) := rfl
    unfold typ1 at hn
    by_cases h1 : ((s.getD i 0).toNat : Int) = 105
    · rw [if_pos h1] at hn
      have nx : type_of% @e5 /\ type_of% @h1 /\ True := ⟨@e5, ⟨@h1, trivial⟩⟩
      refine' st9207ad
      all_goals try simp (disch := omega) only [NSX, St.keepS, Nat.reduceBEq, Nat.reduceAdd, Nat.reduceMul, Int.reduceToNat, Nat.reduceSub, TY, List.set_cons_zero, List.set_cons_succ, SLS, nums_length, byts_V, byts_len, Y4, e5]
      all_goals first
        | exact ⟨s.length - (i + 1), by omega, i + 1, by rw [hn, List.length_append, List.length_singleton], by omega, rfl⟩
        | (exfalso; omega) | trace_state
    · by_cases h2 : ((s.getD i 0).toNat : Int) = 108
      · rw [if_neg h1, if_pos h2] at hn
        have nx : type_of% @e5 /\ type_of% @h2 /\ True := ⟨@e5, ⟨@h2, trivial⟩⟩
        refine' st9207ad
        all_goals try simp (disch := omega) only [NSX, St.keepS, Nat.reduceBEq, Nat.reduceAdd, Nat.reduceMul, Int.reduceToNat, Nat.reduceSub, TY, List.set_cons_zero, List.set_cons_succ, SLS, nums_length, byts_V, byts_len, Y4, e5]
        all_goals first
          | exact ⟨s.length - (i + 1), by omega, i + 1, by rw [hn, List.length_append, List.length_singleton], by omega, rfl⟩
          | (exfalso; omega) | trace_state
      · by_cases h3 : ((s.getD i 0).toNat : Int) = 118
        · rw [if_neg h1, if_neg h2, if_pos h3] at hn
          have nx : type_of% @e5 /\ type_of% @h3 /\ True := ⟨@e5, ⟨@h3, trivial⟩⟩
          refine' st9207ad
          all_goals try simp (disch := omega) only [NSX, St.keepS, Nat.reduceBEq, Nat.reduceAdd, Nat.reduceMul, Int.reduceToNat, Nat.reduceSub, TY, List.set_cons_zero, List.set_cons_succ, SLS, nums_length, byts_V, byts_len, Y4, e5]
          all_goals first
            | exact ⟨s.length - (i + 1), by omega, i + 1, by rw [hn, List.length_append, List.length_singleton], by omega, rfl⟩
            | (exfalso; omega) | trace_state
        · rw [if_neg h1, if_neg h2, if_neg h3, List.append_nil] at hn
          have nx : type_of% @e5 /\ True := ⟨@e5, trivial⟩
          refine' st9207ad
          all_goals try simp (disch := omega) only [NSX, St.keepS, Nat.reduceBEq, Nat.reduceAdd, Nat.reduceMul, Int.reduceToNat, Nat.reduceSub, TY, List.set_cons_zero, List.set_cons_succ, SLS, nums_length, byts_V, byts_len, Y4, e5]
          all_goals first
            | exact ⟨s.length - (i + 1), by omega, i + 1, by first | (rw [hn]; done) | (rw [hn]; rfl), by omega, rfl⟩
            | (exfalso; omega) | trace_state
  · obtain rfl : i = s.length := by omega
    have nx : True := trivial
    refine' st9207ad
    all_goals first | exact ⟨trivial, trivial⟩ | exact ⟨rfl, trivial⟩ | exact ⟨rfl, rfl⟩ | exact ⟨trivial, rfl⟩ | (exfalso; omega) | trace_state
end Go.Proofs.Yteppkbaeacndiaa
namespace Go.Proofs.Yteppkbaeacndiaa
set_option maxRecDepth 20000
open Go Go.Abs
attribute [local irreducible] AW AWL AC FW CW CWr IntKind.wrap
def fltP : List (Int × Int) := [(42, 43), (56, 57), (67, 68), (91, 102), (139, 166), (168, 171), (174, 191), (64787, 64788), (64799, 64802), (64833, 64844), (64862, 64863), (64871, 64874), (64884, 64885), (64890, 64890), (64916, 64916), (64992, 65023)]
def fltL : List Int := [42, 43, 56, 57, 67, 68, 91, 102, 139, 166, 168, 171, 174, 191, 64787, 64788, 64799, 64802, 64833, 64844, 64862, 64863, 64871, 64874, 64884, 64885, 64890, 64890, 64916, 64916, 64992, 65023]
def flS (op : Int) : Bool := fltP.any fun p => decide (p.1 <= op /\ op <= p.2)
theorem flS_iff (op : Int) : flS op = true ↔ ((42 <= op /\ op <= 43) \/ (56 <= op /\ op <= 57) \/ (67 <= op /\ op <= 68) \/ (91 <= op /\ op <= 102) \/ (139 <= op /\ op <= 166) \/ (168 <= op /\ op <= 171) \/ (174 <= op /\ op <= 191) \/ (64787 <= op /\ op <= 64788) \/ (64799 <= op /\ op <= 64802) \/ (64833 <= op /\ op <= 64844) \/ (64862 <= op /\ op <= 64863) \/ (64871 <= op /\ op <= 64874) \/ (64884 <= op /\ op <= 64885) \/ (64890 <= op /\ op <= 64890) \/ (64916 <= op /\ op <= 64916) \/ (64992 <= op /\ op <= 65023)) := by
  simp only [flS, fltP, List.any_cons, List.any_nil, Bool.or_false, Bool.or_eq_true, decide_eq_true_eq]
theorem fl_yes {op : Int} (h : flS op = true ↔ True) : V.bool true = V.bool (flS op) := by rw [h.2 trivial]
theorem fl_no {op : Int} (h : flS op = true -> False) : V.bool false = V.bool (flS op) := by
  cases e : flS op with
  | false => rfl
  | true => exact (h e).elim
theorem fl_dec {P : Prop} [Decidable P] {op : Int} (h : P ↔ flS op = true) : V.bool (decide P) = V.bool (flS op) := by
  cases e : flS op with
  | false => rw [decide_eq_false (fun hp => by rw [h.1 hp] at e; cases e)]
  | true => rw [decide_eq_true (h.2 e)]
def pairAt (k : Nat) : Int × Int := fltP.getD k (0, -1)
theorem flt_at : ∀ k : Nat, k < 16 -> fltL.getD (2 * k) 0 = (pairAt k).1 /\ fltL.getD (2 * k + 1) 0 = (pairAt k).2 := by
  intro k hk
  have : ∀ j : Fin 16, fltL.getD (2 * j.val) 0 = (pairAt j.val).1 /\ fltL.getD (2 * j.val + 1) 0 = (pairAt j.val).2 := by decide
  exact this ⟨k, hk⟩
theorem fl_at {op : Int} {k : Nat} (hk : k < 16) (h : (pairAt k).1 <= op /\ op <= (pairAt k).2) : flS op = true := by
  unfold flS; rw [List.any_eq_true]
  exact ⟨pairAt k, by unfold pairAt; rw [List.getD_eq_getElem?_getD, List.getElem?_eq_getElem (by show k < 16; exact hk)]; exact List.getElem_mem _, decide_eq_true h⟩
theorem fl_none {op : Int} (h : ∀ j, j < 16 -> ¬((pairAt j).1 <= op /\ op <= (pairAt j).2)) : flS op = false := by
  cases e : flS op with
  | false => rfl
  | true =>
    unfold flS at e; rw [List.any_eq_true] at e
    obtain ⟨p, hp, h2⟩ := e
    obtain ⟨j, hj, rfl⟩ := List.mem_iff_getElem.1 hp
    refine absurd (of_decide_eq_true h2) ?_
    have := h j hj
    rw [show pairAt j = fltP[j] from by unfold pairAt; rw [List.getD_eq_getElem?_getD, List.getElem?_eq_getElem hj]; rfl] at this
    exact this
def F3 (op : Int) (L : List Int) (i : Int) : St := { n := 27, slots := [(0, .int .i64 op), (2, .bool false), (3, .ref 3 0 32 1), (4, .int .i64 i)], mem := [(3, ⟨true, nums .i64 L⟩)] }
theorem K1RFlt.kp {P : Program} {c : Code} {Q : Exit -> St -> Prop} {st : St} (h : AW P c Q (st.keepS [0, 2, 3, 4])) : AW P c Q st := AW.keepS _ h
open K1RFlt in
set_option maxHeartbeats 3200000 in
theorem rfloat_ok (op : Int) : AC Try.prog 32 [.int .i64 op] (fun r m => r = .bool (flS op) /\ m = []) := by
  obtain ⟨L, hL⟩ : ∃ L, fltL = L := ⟨_, rfl⟩
  have hfa := flt_at
  have hLl : fltL.length = 32 := rfl
  rw [hL] at hfa hLl
  refine AC.enter Try.func32 rfl (Nat.le_of_ble_eq_true rfl) ?_
  simp only [Try.f32]
  have nx : True := trivial
  refine' st8f9d71
  refine AW.loop [0, 2, 3, 4] [3] (fun m st => ∃ (i : Nat), st = F3 op L ((2 * i : Nat) : Int) /\ i <= 16 /\ m = 16 - i /\ ∀ j, j < i -> ¬((pairAt j).1 <= op /\ op <= (pairAt j).2)) ?_ ?_
  · exact ⟨_, 0, by rw [<- hL]; rfl, Nat.zero_le _, rfl, fun j hj => absurd hj (Nat.not_lt_zero _)⟩
  rintro m st ⟨i, rfl, hi, rfl, hall⟩
  have e5 : IntKind.i64.wrap (((2 * i : Nat) : Int) + 2) = ((2 * (i + 1) : Nat) : Int) := by rw [wrap64_id _ (by omega) (by omega)]; omega
  have e6 : IntKind.i64.wrap (((2 * i : Nat) : Int) + 1) = ((2 * i + 1 : Nat) : Int) := by rw [wrap64_id _ (by omega) (by omega)]; omega
  by_cases hin : i < 16
  · obtain ⟨g1, g2⟩ := hfa i hin
    by_cases h : (pairAt i).1 <= op /\ op <= (pairAt i).2
    · have hf := fl_at hin h
      obtain ⟨h1, h2⟩ := h
      have nx : type_of% @e5 /\ type_of% @e6 /\ type_of% @g1 /\ type_of% @g2 /\ type_of% @hLl /\ True := ⟨@e5, ⟨@e6, ⟨@g1, ⟨@g2, ⟨@hLl, trivial⟩⟩⟩⟩⟩
      refine' st8f9d71
      all_goals first | exact ⟨trivial, trivial⟩ | exact ⟨rfl, trivial⟩ | exact ⟨rfl, rfl⟩ | exact ⟨trivial, rfl⟩ | (rw [hf]; exact ⟨rfl, trivial⟩) | (exfalso; omega) | trace_state
    · have hall2 : ∀ j, j < i + 1 -> ¬((pairAt j).1 <= op /\ op <= (pairAt j).2) := fun j hj => by
        by_cases e : j < i
        · exact hall j e
        · obtain rfl : j = i := by omega
          exact h
      have nx : type_of% @e5 /\ type_of% @e6 /\ type_of% @g1 /\ type_of% @g2 /\ type_of% @hLl /\ True := ⟨@e5, ⟨@e6, ⟨@g1, ⟨@g2, ⟨@hLl, trivial⟩⟩⟩⟩⟩
      refine' st8f9d71
      all_goals try simp (disch := omega) only [NSX, St.keepS, Nat.reduceBEq, Nat.reduceAdd, Nat.reduceMul, Int.reduceToNat, Nat.reduceSub, TY, List.set_cons_zero, List.set_cons_succ, SLS, nums_length, byts_V, byts_len, F3, e5]
      all_goals first
        | exact ⟨16 - (i + 1), by omega, i + 1, rfl, by omega, rfl, hall2⟩
        | (exfalso; omega) | trace_state
  · obtain rfl : i = 16 := by omega
    have hf := fl_none hall
    have nx : True := trivial
    refine' st8f9d71
    all_goals first | exact ⟨trivial, trivial⟩ | exact ⟨rfl, trivial⟩ | exact ⟨rfl, rfl⟩ | exact ⟨trivial, rfl⟩ | (rw [hf]; exact ⟨rfl, trivial⟩) | (exfalso; omega) | trace_state
end Go.Proofs.Yteppkbaeacndiaa
namespace Go.Proofs.Yteppkbaeacndiaa
set_option maxRecDepth 20000
open Go Go.Abs
attribute [local irreducible] AW AWL AC FW CW CWr IntKind.wrap
theorem K1Flt.kp {P : Program} {c : Code} {Q : Exit -> St -> Prop} {st : St} (h : AW P c Q (st.keepS [0, 2, 3])) : AW P c Q st := AW.keepS _ h
theorem K1Flt.sd {p : Prop} (h : p := by first | exact sd16598c) : p := h
theorem K2Flt.kp {P : Program} {c : Code} {Q : Exit -> St -> Prop} {st : St} (h : AW P c Q (st.keepS [0, 2, 8])) : AW P c Q st := AW.keepS _ h
theorem K2Flt.sd {p : Prop} (h : p := by first | exact sd16598c) : p := h
open K1Flt in
set_option maxHeartbeats 3200000 in
theorem vector_ok (k : Int) : AC Try.prog 51 [.int .i64 k] (fun r m => r = .bool (if 0 <= k then flS (k + 64768) else false) /\ m = []) := by
  by_cases h0 : 0 <= k
  · rw [if_pos h0]
    refine AC.enter Try.func51 rfl (Nat.le_of_ble_eq_true rfl) ?_
    simp only [Try.f51]
    have nx : True := trivial
    refine' st9df0c1
    all_goals first
      | exact ⟨fl_yes ⟨fun _ => trivial, fun _ => (flS_iff _).2 (by omega)⟩, trivial⟩
      | exact ⟨fl_no (fun h => by have := (flS_iff _).1 h; omega), trivial⟩
      | exact ⟨fl_dec ⟨fun h => (flS_iff _).2 (by omega), fun h => by have := (flS_iff _).1 h; omega⟩, trivial⟩
      | trace_state
  · rw [if_neg h0]
    refine AC.enter Try.func51 rfl (Nat.le_of_ble_eq_true rfl) ?_
    simp only [Try.f51]
    have nx : True := trivial
    refine' st9df0c1
    all_goals first
      | exact ⟨rfl, trivial⟩
      | (exfalso; omega)
      | trace_state
open K2Flt in
set_option maxHeartbeats 3200000 in
theorem float_ok (op : Int) (ho : op < 9223372036854775808) : AC Try.prog 27 [.int .i64 op] (fun r m => r = .bool (flS op) /\ m = []) := by
  refine AC.enter Try.func27 rfl (Nat.le_of_ble_eq_true rfl) ?_
  simp only [Try.f27]
  by_cases hop : op >= 64768
  · have e1 : IntKind.i64.wrap (op - 64768) = op - 64768 := wrap64_id _ (by omega) (by omega)
    have hc0 : (if 0 <= op - 64768 then flS (op - 64768 + 64768) else false) = flS op := by rw [if_pos (by omega), show op - 64768 + 64768 = op from by omega]
    have nx : type_of% @e1 /\ type_of% @hc0 /\ True := ⟨@e1, ⟨@hc0, trivial⟩⟩
    refine' st228f41
    all_goals first | exact ⟨trivial, trivial⟩ | exact ⟨rfl, trivial⟩ | exact ⟨rfl, rfl⟩ | exact ⟨trivial, rfl⟩ | (exfalso; omega) | trace_state
  · have nx : True := trivial
    refine' st228f41
    all_goals first
      | exact ⟨fl_yes ⟨fun _ => trivial, fun _ => (flS_iff _).2 (by omega)⟩, trivial⟩
      | exact ⟨fl_no (fun h => by have := (flS_iff _).1 h; omega), trivial⟩
      | exact ⟨fl_dec ⟨fun h => (flS_iff _).2 (by omega), fun h => by have := (flS_iff _).1 h; omega⟩, trivial⟩
      | trace_state
end Go.Proofs.Yteppkbaeacndiaa
namespace Go.Proofs.Yteppkbaeacndiaa
set_option maxRecDepth 20000
open Go Go.Abs
def colP : List UInt8 -> Nat
  | [] => 0
  | c :: l => if c.toNat = 58 then 0 else colP l + 1
def sigOK (w : List UInt8) (g : List UInt8) : Bool :=
  if w = [45] then g.isEmpty else !g.isEmpty && decide (w.length <= 100) && decide (colP w < w.length) && decide (typesS (w.take (colP w)) = (sigS (byts g)).2.1) && decide (typesS (w.drop (colP w)) = (sigS (byts g)).2.2)
def rowOK (t : List UInt8) (r : Row) : Bool :=
  decide (t.length <= 1000) && (match wordsS t with
  | [a, b, c, d, e] => decide (a.length <= 5) && decide (b.length <= 5) && decide (c.length <= 5) && decide (d.length <= 5) && decide (numR 16 a = r.1) && decide (numR 16 b = r.2.1) && decide (numR 10 c = r.2.2.1) && decide (numR 10 d = r.2.2.2.1) && sigOK e r.2.2.2.2
  | _ => false)
def zipOK : List (List UInt8) -> List Row -> Bool
  | [], [] => true
  | t :: l, r :: m => rowOK t r && zipOK l m
  | _, _ => false
theorem tab_ok : zipOK tableR allR = true := by decide +kernel
theorem zip_at {l : List (List UInt8)} {m : List Row} (h : zipOK l m = true) {k : Nat} (hk : k < m.length) : rowOK (l.getD k []) (m.getD k nRow) = true := by
  induction l generalizing m k with
  | nil =>
    cases m with
    | nil => exact absurd hk (Nat.not_lt_zero _)
    | cons => cases h
  | cons t l ih =>
    cases m with
    | nil => exact absurd hk (Nat.not_lt_zero _)
    | cons r m =>
      rw [zipOK, Bool.and_eq_true] at h
      cases k with
      | zero => exact h.1
      | succ k => exact ih h.2 (by simpa using hk)
theorem col_at {w : List UInt8} (h : colP w < w.length) : (w.getD (colP w) 0).toNat = 58 := by
  induction w with
  | nil => exact absurd h (Nat.not_lt_zero _)
  | cons c w ih =>
    rw [colP] at h ⊢
    by_cases hc : c.toNat = 58
    · rw [if_pos hc]; exact hc
    · rw [if_neg hc] at h ⊢; exact ih (by simpa using h)
theorem col_before {w : List UInt8} {j : Nat} (h : j < colP w) : (w.getD j 0).toNat ≠ 58 := by
  induction w generalizing j with
  | nil => exact absurd h (Nat.not_lt_zero _)
  | cons c w ih =>
    rw [colP] at h
    by_cases hc : c.toNat = 58
    · rw [if_pos hc] at h; exact absurd h (Nat.not_lt_zero _)
    · rw [if_neg hc] at h
      cases j with
      | zero => exact hc
      | succ j => exact ih (by omega)
theorem row_facts {t : List UInt8} {r : Row} (h : rowOK t r = true) : t.length <= 1000 /\ ∃ a b c d e, wordsS t = [a, b, c, d, e] /\ a.length <= 5 /\ b.length <= 5 /\ c.length <= 5 /\ d.length <= 5 /\ numR 16 a = r.1 /\ numR 16 b = r.2.1 /\ numR 10 c = r.2.2.1 /\ numR 10 d = r.2.2.2.1 /\ sigOK e r.2.2.2.2 = true := by
  unfold rowOK at h
  rw [Bool.and_eq_true] at h
  refine ⟨of_decide_eq_true h.1, ?_⟩
  have h := h.2
  split at h
  · rename_i a b c d e he
    simp only [Bool.and_eq_true, decide_eq_true_eq] at h
    exact ⟨a, b, c, d, e, he, h.1.1.1.1.1.1.1.1, h.1.1.1.1.1.1.1.2, h.1.1.1.1.1.1.2, h.1.1.1.1.1.2, h.1.1.1.1.2, h.1.1.1.2, h.1.1.2, h.1.2, h.2⟩
  · cases h
theorem allR_len : allR.length = 108 := by decide +kernel
theorem tableR_len : tableR.length = 108 := by decide +kernel
end Go.Proofs.Yteppkbaeacndiaa
namespace Go.Proofs.Yteppkbaeacndiaa
set_option maxRecDepth 20000
open Go Go.Abs
attribute [local irreducible] AW AWL AC FW CW CWr IntKind.wrap
theorem strC5 (a b c d e : List UInt8) : strC [a, b, c, d, e] = [.str a, .str b, .str c, .str d, .str e] := rfl
def R5 (op : Int) (T : List (List UInt8)) (i : Int) : St := { n := 73, slots := [(0, .int .i64 op), (2, .ptr 2 0), (3, .bool false), (4, .view 108 1 (strC T)), (5, .int .i64 i)], mem := [(2, ⟨false, [.int .i64 0, .int .i64 0, .bool false, .ref 3003 0 0 1, .ref 3004 0 0 1]⟩), (3003, ⟨true, []⟩), (3004, ⟨true, []⟩)] }
def R8 (a b c d e : List UInt8) (fm lm : Int) (i : Int) : St := { n := 73, slots := [(2, .ptr 2 0), (3, .bool false), (6, .ref 6 0 5 1), (7, .ptr 7 0), (8, .int .i64 i)], mem := [(2, ⟨false, [.int .i64 0, .int .i64 0, .bool false, .ref 3003 0 0 1, .ref 3004 0 0 1]⟩), (3003, ⟨true, []⟩), (3004, ⟨true, []⟩), (6, ⟨true, [.str a, .str b, .str c, .str d, .str e]⟩), (7, ⟨false, [.int .i64 fm, .int .i64 lm, .bool true, .ref 8003 0 0 1, .ref 8004 0 0 1]⟩), (8003, ⟨true, []⟩), (8004, ⟨true, []⟩)] }
theorem K1ROf.kp {P : Program} {c : Code} {Q : Exit -> St -> Prop} {st : St} (h : AW P c Q (st.keepS [0, 2, 3, 4, 5, 6, 7, 8])) : AW P c Q st := AW.keepS _ h
theorem K1ROf.sd {p : Prop} (h : p := by first | exact sd490630) : p := h
open K1ROf in
set_option maxRecDepth 8000 in
set_option maxHeartbeats 6400000 in
theorem rof_ok (op : Int) : AC Try.prog 18 [.int .i64 op]
    (fun r m => r = .tup [infoV (ofS op).1, .bool (ofS op).2] /\ m = [(3003, nums .i64 (ofS op).1.2.2.2.1), (3004, nums .i64 (ofS op).1.2.2.2.2)]) := by
  have hwords : True := trivial
  have hzip := fun (k : Nat) (hk : k < allR.length) => zip_at tab_ok hk
  have hal := allR_len
  have htl := tableR_len
  refine AC.enter Try.func18 rfl (Nat.le_of_ble_eq_true rfl) ?_
  simp only [Try.f18]
  obtain ⟨T, hT⟩ : ∃ T, tableR = T := ⟨_, rfl⟩
  rw [hT] at hzip htl
  have nx : True := trivial
  refine' st2ef540
  refine AW.loop [0, 2, 3, 4, 5] [2, 3003, 3004] (fun m st => ∃ (i : Nat), st = R5 op T i /\ i <= 108 /\ m = 108 - i /\ ∀ j, j < i -> op < (allR.getD j nRow).1 \/ op > (allR.getD j nRow).2.1) ?_ ?_
  · exact ⟨_, 0, by rw [hT]; rfl, Nat.zero_le _, rfl, fun j hj => absurd hj (Nat.not_lt_zero _)⟩
  rintro m st ⟨i, rfl, hi, rfl, hall⟩
  have e5 : IntKind.i64.wrap ((i : Int) + 1) = ((i + 1 : Nat) : Int) := wrap64_id _ (by omega) (by omega)
  by_cases hin : i < 108
  · obtain ⟨ht, a, b, c, d, e, hW, ha, hb, hc, hd, n0, n1, n2, n3, hsg⟩ := row_facts (hzip i (by omega))
    have hld : (List.drop i (strC T)).getD 0 .any = .str (T.getD i []) := by
      have := strC_at (l := T) (k := i) (by omega)
      rw [<- this]; simp only [List.getD_eq_getElem?_getD, List.getElem?_drop, Nat.add_zero]
    have hdl : 0 < (List.drop i (strC T)).length := by rw [List.length_drop, strC_len]; omega
    have hwords := words_ok (T.getD i []) ht
    rw [hW, strC5] at hwords
    generalize T.getD i [] = t at hld hwords
    by_cases hno : op < (allR.getD i nRow).1 \/ op > (allR.getD i nRow).2.1
    · have hall2 : ∀ j, j < i + 1 -> op < (allR.getD j nRow).1 \/ op > (allR.getD j nRow).2.1 := fun j hj => by
        by_cases e : j < i
        · exact hall j e
        · obtain rfl : j = i := by omega
          exact hno
      have nx : type_of% @e5 /\ type_of% @hld /\ type_of% @n0 /\ type_of% @n1 /\ True := ⟨@e5, ⟨@hld, ⟨@n0, ⟨@n1, trivial⟩⟩⟩⟩
      refine' st2ef540
      all_goals try simp (disch := omega) only [NSX, St.keepS, Nat.reduceBEq, Nat.reduceAdd, Nat.reduceMul, Int.reduceToNat, Nat.reduceSub, TY, List.set_cons_zero, List.set_cons_succ, SLS, nums_length, byts_V, byts_len, R5, R8, strC5, e5]
      all_goals first
        | exact ⟨108 - (i + 1), by omega, i + 1, rfl, by omega, rfl, hall2⟩
        | (exfalso; omega) | trace_state
    · have hf := findR_at (op := op) (l := allR) (k := i) (by omega) hall hno
      have hof : ofS op = (infoOf (allR.getD i nRow), true) := by unfold ofS; rw [hf]
      generalize allR.getD i nRow = r at hno hf hof n0 n1 n2 n3 hsg
      obtain ⟨r0, r1, fm, lm, g⟩ := r
      simp only at hno n0 n1 n2 n3 hsg
      have hno1 : ¬ op < r0 := fun h => hno (.inl h)
      have hno2 : ¬ r1 < op := fun h => hno (.inr h)
      unfold sigOK at hsg
      by_cases he : e = [45]
      · rw [if_pos he] at hsg
        have hg : g = [] := by cases g with | nil => rfl | cons => cases hsg
        subst hg; subst he
        have nx : type_of% @e5 /\ type_of% @hld /\ type_of% @n0 /\ type_of% @n1 /\ type_of% @n2 /\ type_of% @n3 /\ True := ⟨@e5, ⟨@hld, ⟨@n0, ⟨@n1, ⟨@n2, ⟨@n3, trivial⟩⟩⟩⟩⟩⟩
        refine' st2ef540
        all_goals first | exact ⟨trivial, trivial⟩ | exact ⟨rfl, trivial⟩ | exact ⟨rfl, rfl⟩ | exact ⟨trivial, rfl⟩ | (rw [hof]; exact ⟨rfl, rfl⟩) | (exfalso; omega) | trace_state
      · rw [if_neg he] at hsg
        simp only [Bool.and_eq_true, decide_eq_true_eq] at hsg
        obtain ⟨⟨⟨⟨hg, hel⟩, hcl⟩, hin2⟩, hou2⟩ := hsg
        have nx : type_of% @e5 /\ type_of% @hld /\ type_of% @n0 /\ type_of% @n1 /\ type_of% @n2 /\ type_of% @n3 /\ True := ⟨@e5, ⟨@hld, ⟨@n0, ⟨@n1, ⟨@n2, ⟨@n3, trivial⟩⟩⟩⟩⟩⟩
        refine' st2ef540
        all_goals try (exact absurd (by assumption) he)
        refine AW.loop [2, 3, 6, 7, 8] [2, 3003, 3004, 6, 7, 8003, 8004] (fun m st => ∃ q : Nat, st = R8 a b c d e fm lm q /\ q <= colP e /\ m = colP e - q) ?_ ?_
        · exact ⟨_, 0, rfl, Nat.zero_le _, rfl⟩
        rintro m st ⟨q, rfl, hq, rfl⟩
        have e6 : IntKind.i64.wrap ((q : Int) + 1) = ((q + 1 : Nat) : Int) := wrap64_id _ (by omega) (by omega)
        by_cases hqc : q < colP e
        · have hne := col_before hqc
          have nx : type_of% @e6 /\ True := ⟨@e6, trivial⟩
          refine' st2ef540
          all_goals try simp (disch := omega) only [NSX, St.keepS, Nat.reduceBEq, Nat.reduceAdd, Nat.reduceMul, Int.reduceToNat, Nat.reduceSub, TY, List.set_cons_zero, List.set_cons_succ, SLS, nums_length, byts_V, byts_len, R5, R8, strC5, e6]
          all_goals first
            | exact ⟨colP e - (q + 1), by omega, q + 1, rfl, by omega, rfl⟩
            | (exfalso; omega) | trace_state
        · obtain rfl : q = colP e := by omega
          have h58 := col_at hcl
          have hdt : List.take (e.length - colP e) (List.drop (colP e) e) = List.drop (colP e) e := List.take_of_length_le (by rw [List.length_drop]; omega)
          have nx : type_of% @hdt /\ type_of% @hin2 /\ type_of% @hou2 /\ True := ⟨@hdt, ⟨@hin2, ⟨@hou2, trivial⟩⟩⟩
          refine' st2ef540
          all_goals first | exact ⟨trivial, trivial⟩ | exact ⟨rfl, trivial⟩ | exact ⟨rfl, rfl⟩ | exact ⟨trivial, rfl⟩ | (rw [hof]; exact ⟨by simp only [infoV, infoOf, hg], rfl⟩) | (exfalso; omega) | trace_state
  · obtain rfl : i = 108 := by omega
    have hf := findR_none (op := op) (l := allR) (fun j hj => hall j (by omega))
    have hof : ofS op = (noInfo, false) := by unfold ofS; rw [hf]
    have nx : True := trivial
    refine' st2ef540
    all_goals first | exact ⟨trivial, trivial⟩ | exact ⟨rfl, trivial⟩ | exact ⟨rfl, rfl⟩ | exact ⟨trivial, rfl⟩ | (rw [hof]; exact ⟨rfl, rfl⟩) | (exfalso; omega) | trace_state
end Go.Proofs.Yteppkbaeacndiaa
namespace Go.Proofs.Yteppkbaeacndiaa
set_option maxRecDepth 20000
open Go Go.Abs
attribute [local irreducible] AW AWL AC FW CW CWr IntKind.wrap
def infoL (i : InfoS) : V := .agg [.int .i64 i.1, .int .i64 i.2.1, .bool i.2.2.1, .view i.2.2.2.1.length 1 (nums .i64 i.2.2.2.1), .view i.2.2.2.2.length 1 (nums .i64 i.2.2.2.2)]
theorem info_look (i : InfoS) (b : Bool) : frz1 3004 (nums .i64 i.2.2.2.2) (frz1 3003 (nums .i64 i.2.2.2.1) (.tup [infoV i, .bool b])) = .tup [infoL i, .bool b] := by
  simp [frz1, infoV, infoL, V.frz, V.wipe, List.take_of_length_le (Nat.le_of_eq (nums_length .i64 _))]
theorem of_look (op : Int) : AC Try.prog 28 [.int .i64 op] (fun r m => r = .tup [infoL (ofS op).1, .bool (ofS op).2] /\ m = []) := by
  have := (of_ok op).frzF.frzF
  rw [info_look] at this
  exact this
theorem rof_look (op : Int) : AC Try.prog 18 [.int .i64 op] (fun r m => r = .tup [infoL (ofS op).1, .bool (ofS op).2] /\ m = []) := by
  have := (rof_ok op).frzF.frzF
  rw [info_look] at this
  exact this
end Go.Proofs.Yteppkbaeacndiaa
namespace Go.Proofs.Yteppkbaeacndiaa
set_option maxRecDepth 20000
open Go Go.Abs
attribute [local irreducible] AW AWL AC FW CW CWr IntKind.wrap
def S33 (l : List Int) (x i : Int) : St := { n := 22, slots := [(3, .int .u64 x), (6, .view l.length 1 (nums .u8 l)), (7, .int .i64 l.length), (8, .int .i64 i)], mem := [] }
theorem shl8 {c : Int} {k : Nat} (hc : byte c) (hk : k < 8) : IntKind.u64.wrap (c * 2 ^ min (8 * (k : Int)).toNat IntKind.u64.bits) = c * 2 ^ (8 * k) := by
  have e : min (8 * (k : Int)).toNat IntKind.u64.bits = 8 * k := by rw [Nat.min_eq_left (by show _ <= 64; omega)]; omega
  rw [e]
  unfold byte at hc
  have hp : (0 : Int) < 2 ^ (8 * k) := Int.pow_pos (by decide)
  have h1 : c * 2 ^ (8 * k) <= 255 * 2 ^ (8 * k) := Int.mul_le_mul_of_nonneg_right hc.2 (by omega)
  have h2 : (2 : Int) ^ (8 * (k + 1)) <= 2 ^ 64 := by exact_mod_cast Nat.pow_le_pow_right (by decide) (by omega)
  rw [pow8] at h2
  exact wrap_in rfl (Int.mul_nonneg hc.1 (by omega)) (by show _ < (2 : Int) ^ 64; omega)
theorem or8 {x c : Int} {k : Nat} (hx : 0 <= x /\ x < 2 ^ (8 * k)) (hc : byte c) (hk : k < 8) : bitsOp .or .u64 x (c * 2 ^ (8 * k)) = x + c * 2 ^ (8 * k) := by
  unfold byte at hc
  have hp : (0 : Int) < 2 ^ (8 * k) := Int.pow_pos (by decide)
  have h1 : c * 2 ^ (8 * k) <= 255 * 2 ^ (8 * k) := Int.mul_le_mul_of_nonneg_right hc.2 (by omega)
  have h2 : (2 : Int) ^ (8 * (k + 1)) <= 2 ^ 64 := by exact_mod_cast Nat.pow_le_pow_right (by decide) (by omega)
  rw [pow8] at h2
  exact or_add (k := .u64) (8 * k) hx.1 hx.2 hc.1 (by show _ < (2 : Int) ^ 64; omega) (.inl rfl)
theorem K1Half.kp {P : Program} {c : Code} {Q : Exit -> St -> Prop} {st : St} (h : AW P c Q (st.keepS [0, 2, 3, 4, 5, 6, 7, 8])) : AW P c Q st := AW.keepS _ h
theorem K1Half.sd {p : Prop} (h : p := by first | exact sd381c64) : p := h
open K1Half in
set_option maxHeartbeats 800000 in
theorem half_ok (l : List Int) (hb : bytes l) (hl : l.length <= 8) : AC Try.prog 65 [.view l.length 1 (nums .u8 l)] (fun r m => r = .int .u64 (le l) /\ m = []) := by
  refine AC.enter Try.func65 rfl (Nat.le_of_ble_eq_true rfl) ?_
  simp only [Try.f65]
  have nx : True := trivial
  refine' st32a57d
  refine AW.loop [3, 6, 7, 8] [] (fun n st => ∃ (k : Nat), st = S33 l (le (l.take k)) k /\ k <= l.length /\ n = l.length - k) ?_ ?_
  · exact ⟨_, 0, rfl, Nat.zero_le _, rfl⟩
  · rintro n st ⟨k, rfl, hk, rfl⟩
    by_cases hkl : k < l.length
    · have hc := bytes_at hb hkl
      have hx := le_bound (bytes_take hb k)
      rw [List.length_take, Nat.min_eq_left (by omega)] at hx
      have e1 := shl8 hc (by omega : k < 8)
      have e2 := or8 hx hc (by omega : k < 8)
      have e3 : IntKind.u64.wrap (l.getD k 0) = l.getD k 0 := by unfold byte at hc; exact wrap_in rfl hc.1 (by show _ < (18446744073709551616 : Int); omega)
      have e4 : IntKind.i64.wrap (8 * (k : Int)) = 8 * k := wrap64_id _ (by omega) (by omega)
      have e5 : IntKind.i64.wrap ((k : Int) + 1) = k + 1 := wrap64_id _ (by omega) (by omega)
      have nx : type_of% @e1 /\ type_of% @e2 /\ type_of% @e3 /\ type_of% @e4 /\ type_of% @e5 /\ True := ⟨@e1, ⟨@e2, ⟨@e3, ⟨@e4, ⟨@e5, trivial⟩⟩⟩⟩⟩
      refine' st32a57d
      all_goals try simp (disch := omega) only [NSX, St.keepS, Nat.reduceBEq, Nat.reduceAdd, Nat.reduceMul, Int.reduceToNat, Nat.reduceSub, TY, SLS, List.set_cons_zero, List.set_cons_succ, take16, drop16, dz, nums_length, S33, e1, e2, e3, e4, e5]
      all_goals first
        | exact ⟨l.length - (k + 1), by omega, k + 1, by rw [le_take hkl]; rfl, by omega, rfl⟩
        | trace_state
    · have nx : True := trivial
      refine' st32a57d
      all_goals try simp (disch := omega) only [NSX, St.keepS, Nat.reduceBEq, Nat.reduceAdd, Nat.reduceMul, Int.reduceToNat, Nat.reduceSub, TY, SLS, List.set_cons_zero, List.set_cons_succ, take16, drop16, dz, nums_length, S33]
      · rw [List.take_of_length_le (by omega)]; exact ⟨rfl, trivial⟩
theorem half_at (n : Nat) (l : List Int) (hn : n = l.length) (hb : bytes l) (hl : l.length <= 8) : AC Try.prog 65 [.view n 1 (nums .u8 l)] (fun r m => r = .int .u64 (le l) /\ m = []) := by
  subst hn; exact half_ok l hb hl
end Go.Proofs.Yteppkbaeacndiaa
namespace Go.Proofs.Yteppkbaeacndiaa
set_option maxRecDepth 20000
open Go Go.Abs
attribute [local irreducible] AW AWL AC FW CW CWr IntKind.wrap
theorem K1Split.kp {P : Program} {c : Code} {Q : Exit -> St -> Prop} {st : St} (h : AW P c Q (st.keepS [0, 1, 2])) : AW P c Q st := AW.keepS _ h
theorem K1Split.sd {p : Prop} (h : p := by first | exact sdc9862f) : p := h
open K1Split in
set_option maxHeartbeats 800000 in
theorem split_ok (v : List Int) (hl : v.length = 16) (hb : bytes v) : AC Try.prog 56 [.fagg (nums .u8 v)] (fun r m => r = .agg [.int .u64 (lo v), .int .u64 (hi v)] /\ m = []) := by
  have h1 := bytes_take hb 8
  have h2 := bytes_drop hb 8
  have e1 : (v.take 8).length = 8 := by rw [List.length_take]; omega
  have e2 : (v.drop 8).length = 8 := by rw [List.length_drop]; omega
  have e3 : (v.drop 8).take 8 = v.drop 8 := List.take_of_length_le (by omega)
  refine AC.enter Try.func56 rfl (Nat.le_of_ble_eq_true rfl) ?_
  simp only [Try.f56]
  have nx : type_of% @e3 /\ type_of% @hl /\ True := ⟨@e3, ⟨@hl, trivial⟩⟩
  refine' st640ae3
  all_goals first | exact ⟨rfl, trivial⟩ | exact ⟨trivial, trivial⟩ | exact ⟨rfl, rfl⟩ | trace_state
end Go.Proofs.Yteppkbaeacndiaa
namespace Go.Proofs.Yteppkbaeacndiaa
set_option maxRecDepth 20000
open Go Go.Abs
theorem shr8x {x : Int} {k : Nat} (h0 : 0 <= x) (hk : k < 8) : x.fdiv (2 ^ min (8 * (k : Int)).toNat IntKind.u64.bits) = x / 2 ^ (8 * k) := by
  have e : min (8 * (k : Int)).toNat IntKind.u64.bits = 8 * k := by rw [Nat.min_eq_left (by show _ <= 64; omega)]; omega
  rw [e, fdiv_pow _ _ h0]
theorem u8mod (x : Int) : IntKind.u8.wrap x = x % 256 := wrap_unsigned (k := .u8) rfl x
end Go.Proofs.Yteppkbaeacndiaa
namespace Go.Proofs.Yteppkbaeacndiaa
set_option maxRecDepth 20000
open Go Go.Abs
attribute [local irreducible] AW AWL AC FW CW CWr IntKind.wrap
def J19 (l h : Int) (v : List Int) (k : Int) : St := { n := 27, slots := [(0, .agg [.int .u64 l, .int .u64 h]), (1, .ptr 1 0), (2, .ptr 2 0), (3, .ptr 3 0), (5, .int .i64 k)], mem := [(1, ⟨false, [.int .u64 l, .int .u64 h]⟩), (2, ⟨true, nums .u8 zero16⟩), (3, ⟨true, nums .u8 v⟩)] }
def jn (l h : Int) (k : Nat) : List Int := splice (splice zero16 0 (toB k l)) 8 (toB k h)
theorem jn_len (l h : Int) (k : Nat) (hk : k <= 8) : (jn l h k).length = 16 := by
  unfold jn
  rw [splice_len, splice_len] <;> simp [toB_len, zero16, splice] <;> omega
theorem jn_8 (l h : Int) : jn l h 8 = join l h := by
  unfold jn join
  simp [splice, toB, zero16]
theorem jn_succ (l h : Int) (k : Nat) (hk : k < 8) : setI (setI (jn l h k) k (l / 2 ^ (8 * k) % 256)) (8 + k) (h / 2 ^ (8 * k) % 256) = jn l h (k + 1) := by
  unfold jn
  rw [toB_succ, toB_succ]
  have : k = 0 \/ k = 1 \/ k = 2 \/ k = 3 \/ k = 4 \/ k = 5 \/ k = 6 \/ k = 7 := by omega
  rcases this with rfl | rfl | rfl | rfl | rfl | rfl | rfl | rfl <;> simp [splice, setI, toB, zero16]
theorem K1Join.kp {P : Program} {c : Code} {Q : Exit -> St -> Prop} {st : St} (h : AW P c Q (st.keepS [0, 1, 2, 3, 4, 5])) : AW P c Q st := AW.keepS _ h
theorem K1Join.sd {p : Prop} (h : p := by first | exact sd932164 | exact sdb9d594 | exact sdd71417) : p := h
open K1Join in
set_option maxHeartbeats 1600000 in
theorem join_ok (l h : Int) (hl : 0 <= l) (hh : 0 <= h) : AC Try.prog 60 [.agg [.int .u64 l, .int .u64 h]] (fun r m => r = .fagg (nums .u8 (join l h)) /\ m = []) := by
  have hj8 := jn_len l h 8 (by omega)
  refine AC.enter Try.func60 rfl (Nat.le_of_ble_eq_true rfl) ?_
  simp only [Try.f60]
  have nx : True := trivial
  refine' st2d0101
  refine AW.loop [0, 1, 2, 3, 5] [1, 2, 3] (fun m st => ∃ k : Nat, st = J19 l h (jn l h k) k /\ k <= 8 /\ m = 8 - k) ?_ ?_
  · exact ⟨_, 0, rfl, Nat.zero_le _, rfl⟩
  · rintro m st ⟨k, rfl, hk, rfl⟩
    have hsp := jn_len l h k hk
    by_cases hk8 : k < 8
    · have e1 := shr8x (k := k) hl (by omega)
      have e2 := shr8x (k := k) hh (by omega)
      have e4 : IntKind.i64.wrap (8 * (k : Int)) = 8 * k := wrap64_id _ (by omega) (by omega)
      have e5 : IntKind.i64.wrap ((k : Int) + 1) = k + 1 := wrap64_id _ (by omega) (by omega)
      have e6 : IntKind.i64.wrap (8 + (k : Int)) = ((8 + k : Nat) : Int) := by rw [wrap64_id _ (by omega) (by omega)]; omega
      have e7 := jn_succ l h k hk8
      have e8 : (setI (jn l h k) k (l / 2 ^ (8 * k) % 256)).length = 16 := by rw [setI_len _ (by omega), hsp]
      have nx : type_of% @e1 /\ type_of% @e2 /\ type_of% @e4 /\ type_of% @e5 /\ type_of% @e6 /\ type_of% @hsp /\ type_of% @e8 /\ True := ⟨@e1, ⟨@e2, ⟨@e4, ⟨@e5, ⟨@e6, ⟨@hsp, ⟨@e8, trivial⟩⟩⟩⟩⟩⟩⟩
      refine' st5d0c6d
      all_goals try simp (disch := omega) only [NSX, St.keepS, Nat.reduceBEq, Nat.reduceAdd, Nat.reduceMul, Int.reduceToNat, Nat.reduceSub, TY, SLS, List.set_cons_zero, List.set_cons_succ, take16, drop16, dz, nums_length, J19, e1, e2, e4, e5, e6, u8mod, nums_length, hsp, e8]
      all_goals first
        | exact ⟨8 - (k + 1), by omega, k + 1, by rw [<- e7]; rfl, by omega, rfl⟩
        | (exfalso; omega)
        | trace_state
    · obtain rfl : k = 8 := by omega
      rw [jn_8] at hsp ⊢
      have hd : List.drop 16 (nums .u8 (join l h)) = [] := List.drop_of_length_le (by rw [nums_length]; omega)
      have nx : type_of% @hsp /\ type_of% @hd /\ True := ⟨@hsp, ⟨@hd, trivial⟩⟩
      refine' ste0fe4e
      all_goals first | exact ⟨trivial, trivial⟩ | exact ⟨rfl, trivial⟩ | exact ⟨rfl, rfl⟩ | exact ⟨trivial, rfl⟩ | (exfalso; omega) | trace_state
end Go.Proofs.Yteppkbaeacndiaa
