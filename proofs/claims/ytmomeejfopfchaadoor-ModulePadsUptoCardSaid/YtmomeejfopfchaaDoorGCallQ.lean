/- The document's UTF-8. -/
import Derived.Test.YtmomeejfopfchaaDoorDP
import Derived.Test.YtmomeejfopfchaaDoorGTabs
import Derived.Test.YtmomeejfopfchaaDoorDC
import Derived.Test.YtmomeejfopfchaaDoorGTy
import Derived.Test.YtmomeejfopfchaaDoorCB
import Derived.Test.YtmomeejfopfchaaDoorMT6w
import Derived.Test.YtmomeejfopfchaaDoorGMErr
set_option linter.unusedSimpArgs false
set_option linter.unusedVariables false
namespace Go.Proofs.YtmomeejfopfchaaDoor
set_option maxRecDepth 20000
open Go Go.Abs Nat
def contS : List Int -> Nat -> Int -> Option Int
  | _, 0, c => some c
  | [], _ + 1, _ => none
  | y :: l, n + 1, c => if 128 <= y /\ y <= 191 then contS l n (c * 64 + y - 128) else none
def goodU (low v : Int) : Bool := !(decide (v < low) || decide (v > 1114111) || (decide (v >= 55296) && decide (v <= 57343)))
def stepU (n : Nat) (c low : Int) (l : List Int) : Option Nat := if n + 1 > l.length + 1 then none else match contS l n c with
  | none => none
  | some v => if goodU low v = true then some (n + 1) else none
theorem good_iff (low v : Int) : goodU low v = true ↔ low <= v /\ v <= 1114111 /\ ¬ (55296 <= v /\ v <= 57343) := by
  unfold goodU
  simp only [Bool.not_eq_true', Bool.or_eq_false_iff, decide_eq_false_iff_not, Bool.and_eq_false_iff]
  omega
theorem stepU_one (low c : Int) (l : List Int) : stepU 1 c low l = match l with
    | [] => none
    | y :: _ => if 128 <= y /\ y <= 191 /\ goodU low (c * 64 + y - 128) = true then some 2 else none := by
  unfold stepU
  rcases l with _ | ⟨y, l⟩
  · rfl
  · rw [if_neg (by simp)]
    simp only [contS]
    by_cases h : 128 <= y /\ y <= 191
    · rw [if_pos h]
      simp only
      by_cases h2 : goodU low (c * 64 + y - 128) = true
      · rw [if_pos h2, if_pos ⟨h.1, h.2, h2⟩]
      · rw [if_neg h2, if_neg (fun h => h2 h.2.2)]
    · rw [if_neg h, if_neg (fun hh => h ⟨hh.1, hh.2.1⟩)]
theorem stepU_two (low c : Int) (l : List Int) : stepU 2 c low l = match l with
    | y :: z :: _ => if (128 <= y /\ y <= 191) /\ (128 <= z /\ z <= 191) /\ goodU low ((c * 64 + y - 128) * 64 + z - 128) = true then some 3 else none
    | _ => none := by
  unfold stepU
  rcases l with _ | ⟨y, _ | ⟨z, l⟩⟩
  · rfl
  · rfl
  · rw [if_neg (by simp)]
    simp only [contS]
    by_cases h : 128 <= y /\ y <= 191
    · rw [if_pos h]
      by_cases h1 : 128 <= z /\ z <= 191
      · rw [if_pos h1]
        simp only
        by_cases h2 : goodU low ((c * 64 + y - 128) * 64 + z - 128) = true
        · rw [if_pos h2, if_pos ⟨h, h1, h2⟩]
        · rw [if_neg h2, if_neg (fun h => h2 h.2.2)]
      · rw [if_neg h1, if_neg (fun hh => h1 hh.2.1)]
    · rw [if_neg h, if_neg (fun hh => h hh.1)]
theorem stepU_three (low c : Int) (l : List Int) : stepU 3 c low l = match l with
    | y :: z :: u :: _ => if (128 <= y /\ y <= 191) /\ (128 <= z /\ z <= 191) /\ (128 <= u /\ u <= 191) /\ goodU low (((c * 64 + y - 128) * 64 + z - 128) * 64 + u - 128) = true then some 4 else none
    | _ => none := by
  unfold stepU
  rcases l with _ | ⟨y, _ | ⟨z, _ | ⟨u, l⟩⟩⟩
  · rfl
  · rfl
  · rfl
  · rw [if_neg (by simp)]
    simp only [contS]
    by_cases h : 128 <= y /\ y <= 191
    · rw [if_pos h]
      by_cases h1 : 128 <= z /\ z <= 191
      · rw [if_pos h1]
        by_cases h3 : 128 <= u /\ u <= 191
        · rw [if_pos h3]
          simp only
          by_cases h2 : goodU low (((c * 64 + y - 128) * 64 + z - 128) * 64 + u - 128) = true
          · rw [if_pos h2, if_pos ⟨h, h1, h3, h2⟩]
          · rw [if_neg h2, if_neg (fun h => h2 h.2.2.2)]
        · rw [if_neg h3, if_neg (fun hh => h3 hh.2.2.1)]
      · rw [if_neg h1, if_neg (fun hh => h1 hh.2.1)]
    · rw [if_neg h, if_neg (fun hh => h hh.1)]
theorem ite_same {p q : Prop} [Decidable p] [Decidable q] {α : Type} {a b : α} (h : p ↔ q) : (if p then a else b) = if q then a else b := by
  by_cases hp : p
  · rw [if_pos hp, if_pos (h.1 hp)]
  · rw [if_neg hp, if_neg (fun hq => hp (h.2 hq))]
theorem uStep_doc {c : Int} (hc : byte c) {l : List Int} (hb : bytes l) : uStep (c :: l) = if c < 128 then some 1 else if 194 <= c /\ c <= 223 then stepU 1 (c - 192) 128 l else if 224 <= c /\ c <= 239 then stepU 2 (c - 224) 2048 l else if 240 <= c /\ c <= 244 then stepU 3 (c - 240) 65536 l else none := by
  rw [stepU_one, stepU_two, stepU_three]
  unfold uStep
  simp only
  by_cases h1 : c < 128
  · rw [if_pos h1, if_pos h1]
  rw [if_neg h1, if_neg h1]
  by_cases h2 : 194 <= c /\ c <= 223
  · rw [if_pos h2, if_pos h2]
    rcases l with _ | ⟨y, l⟩
    · rfl
    · simp only [List.length_cons, List.getD_cons_zero, good_iff]
      exact ite_same (by omega)
  rw [if_neg h2, if_neg h2]
  by_cases h3 : 224 <= c /\ c <= 239
  · rw [if_pos h3, if_pos h3]
    rcases l with _ | ⟨y, _ | ⟨z, l⟩⟩
    · rfl
    · rw [if_neg (by simp)]
    · have hy := hb y (by simp)
      have hz := hb z (by simp)
      simp only [List.length_cons, List.getD_cons_zero, List.getD_cons_succ, good_iff]
      refine ite_same ?_
      have e1 : c = 224 \/ c ≠ 224 := by omega
      have e2 : c = 237 \/ c ≠ 237 := by omega
      rcases e1 with e1 | e1
      · rw [if_pos e1, if_neg (show ¬ c = 237 by omega)]; omega
      · rw [if_neg e1]
        rcases e2 with e2 | e2
        · rw [if_pos e2]; omega
        · rw [if_neg e2]; omega
  rw [if_neg h3, if_neg h3]
  by_cases h4 : 240 <= c /\ c <= 244
  · rw [if_pos h4, if_pos h4]
    rcases l with _ | ⟨y, _ | ⟨z, _ | ⟨u, l⟩⟩⟩
    · rfl
    · rw [if_neg (by simp)]
    · rw [if_neg (by simp)]
    · have hy := hb y (by simp)
      have hz := hb z (by simp)
      have hu := hb u (by simp)
      simp only [List.length_cons, List.getD_cons_zero, List.getD_cons_succ, good_iff]
      refine ite_same ?_
      have e1 : c = 240 \/ c ≠ 240 := by omega
      have e2 : c = 244 \/ c ≠ 244 := by omega
      rcases e1 with e1 | e1
      · rw [if_pos e1, if_neg (show ¬ c = 244 by omega)]; omega
      · rw [if_neg e1]
        rcases e2 with e2 | e2
        · rw [if_pos e2]; omega
        · rw [if_neg e2]; omega
  · rw [if_neg h4, if_neg h4]
def Tu (l : List Int) (i : Nat) : St := { n := 106, slots := [(0, .view l.length 1 (nums .u8 l)), (3, .int .i64 (i : Int))], mem := [] }
def Tv (l : List Int) (i : Nat) (c : Int) (n : Nat) (low : Int) (k : Nat) : St := { n := 106, slots := [(0, .view l.length 1 (nums .u8 l)), (3, .int .i64 (i : Int)), (4, .int .i64 c), (5, .int .i64 (n : Int)), (6, .int .i64 low), (7, .int .i64 (k : Int))], mem := [] }
def bnU : Nat -> Int
  | 0 => 32
  | k + 1 => 64 * bnU k
theorem bnU_step {k : Nat} (h : 1 <= k) : bnU k = 64 * bnU (k - 1) := by
  obtain ⟨j, rfl⟩ : ∃ j, k = j + 1 := ⟨k - 1, by omega⟩
  rfl
theorem bnU_le {k : Nat} (h : k <= 3) : bnU k <= 8388608 := by
  rcases k with _ | _ | _ | _ | k
  · decide
  · decide
  · decide
  · decide
  · omega
attribute [local irreducible] AW AWL AC FW CW CWr IntKind.wrap
theorem MRUtf.NM : type_of% @NSX /\ type_of% @St.keepS.eq_1 /\ type_of% @TY /\ type_of% @SLS /\ type_of% @nums_length /\ type_of% @Tu.eq_1 /\ type_of% @Tv.eq_1 :=
  ⟨NSX, St.keepS.eq_1, @TY, @SLS, @nums_length, @Tu.eq_1, @Tv.eq_1⟩
open MRUtf
theorem K1RUtf.kp {P : Program} {c : Code} {Q : Exit -> St -> Prop} {st : St} (h : AW P c Q (st.keepS [0, 2, 3, 4, 5, 6, 7])) : AW P c Q st := AW.keepS _ h
theorem K1RUtf.sd {p : Prop} (h : p := by first | exact sd1eb496) : p := h
open K1RUtf in
set_option maxHeartbeats 6400000 in
theorem utf_ok (l : List Int) (hb : bytes l) (hl : l.length <= 100000000) : AC Tryd.prog 12 [.view l.length 1 (nums .u8 l)] (fun r m => r = .bool (validS l) /\ m = []) := by
  obtain ⟨A, hA⟩ : ∃ A, validS l = A := ⟨_, rfl⟩
  rw [hA]
  refine AC.enter Tryd.func12 rfl (Nat.le_of_ble_eq_true rfl) ?_
  simp only [Tryd.f12]
  have nx : True := trivial
  refine' stf6b23e
  refine AW.loop [0, 3] [] (fun m st => ∃ i : Nat, st = Tu l i /\ i <= l.length /\ validS (l.drop i) = A /\ m = l.length - i) ?_ ?_
  · exact ⟨_, 0, rfl, Nat.zero_le _, hA, rfl⟩
  clear hA
  rintro m st ⟨i, rfl, hi, hA, rfl⟩
  by_cases hil : i < l.length
  case neg =>
    have d0 : decide ((i : Int) < (l.length : Int)) = false := decide_eq_false (by omega)
    rw [List.drop_of_length_le (by omega), validS_nil] at hA
    subst hA
    have nx : type_of% @d0 /\ True := ⟨@d0, trivial⟩
    refine' stf6b23e
    all_goals first | exact ⟨trivial, trivial⟩ | exact ⟨rfl, trivial⟩ | exact ⟨rfl, rfl⟩ | exact ⟨trivial, rfl⟩ | (exfalso; omega) | trace_state
  have d0 : decide ((i : Int) < (l.length : Int)) = true := decide_eq_true (by omega)
  have hdr : l.drop i = l.getD i 0 :: l.drop (i + 1) := drop_getD hil
  have hc := hb _ (getD_mem hil)
  have hbd : bytes (l.drop (i + 1)) := fun x hx => hb x (List.mem_of_mem_drop hx)
  rw [hdr, validS_step (List.cons_ne_nil _ _), uStep_doc hc hbd] at hA
  generalize hx : l.getD i 0 = c at hA hc
  have ec : IntKind.i64.wrap c = c := wrap64_id _ (by have := hc.1; omega) (by have := hc.2; omega)
  have ei : IntKind.i64.wrap ((i : Int) + 1) = ((i + 1 : Nat) : Int) := wrap64_id _ (by omega) (by omega)
  by_cases h1 : c < 128
  · have d1 : decide (c < 128) = true := decide_eq_true h1
    rw [if_pos h1] at hA
    have hA : validS ((c :: l.drop (i + 1)).drop 1) = A := hA
    rw [List.drop_succ_cons, List.drop_zero] at hA
    have nx : type_of% @d0 /\ type_of% @hx /\ type_of% @ec /\ type_of% @ei /\ type_of% @d1 /\ True := ⟨@d0, ⟨@hx, ⟨@ec, ⟨@ei, ⟨@d1, trivial⟩⟩⟩⟩⟩
    refine' stf6b23e
    all_goals first
      | exact ⟨l.length - (i + 1), by omega, i + 1, rfl, by omega, hA, rfl⟩
      | trace_state
  rw [if_neg h1] at hA
  have d1 : decide (c < 128) = false := decide_eq_false h1
  by_cases hr1 : 194 <= c /\ c <= 223
  · rw [if_pos hr1] at hA
    have g1 : decide (c >= 194) = true := decide_eq_true (by omega)
    have g2 : decide (c <= 223) = true := decide_eq_true (by omega)
    have e4 : IntKind.i64.wrap (c - 192) = c - 192 := wrap64_id _ (by omega) (by omega)
    have en : IntKind.i64.wrap ((i : Int) + 1) = ((i + 1 : Nat) : Int) := wrap64_id _ (by omega) (by omega)
    by_cases hlen : i + 1 < l.length
    case neg =>
      rw [stepU, if_pos (by rw [List.length_drop]; omega)] at hA
      simp only at hA
      subst hA
      have dl : decide (((i + 1 : Nat) : Int) >= (l.length : Int)) = true := decide_eq_true (by omega)
      have nx : type_of% @d0 /\ type_of% @hx /\ type_of% @ec /\ type_of% @d1 /\ type_of% @g1 /\ type_of% @g2 /\ type_of% @e4 /\ type_of% @en /\ type_of% @dl /\ True := ⟨@d0, ⟨@hx, ⟨@ec, ⟨@d1, ⟨@g1, ⟨@g2, ⟨@e4, ⟨@en, ⟨@dl, trivial⟩⟩⟩⟩⟩⟩⟩⟩⟩
      refine' stf6b23e
      all_goals first | exact ⟨trivial, trivial⟩ | exact ⟨rfl, trivial⟩ | exact ⟨rfl, rfl⟩ | exact ⟨trivial, rfl⟩ | (exfalso; omega) | trace_state
    have dl : decide (((i + 1 : Nat) : Int) >= (l.length : Int)) = false := decide_eq_false (by omega)
    rw [stepU, if_neg (by rw [List.length_drop]; omega)] at hA
    obtain ⟨R, hR⟩ : ∃ R, contS (l.drop (i + 1)) 1 (c - 192) = R := ⟨_, rfl⟩
    rw [hR] at hA
    have hc0 : 0 <= c - 192 /\ c - 192 < 32 := by omega
    have hdrop : (c :: l.drop (i + 1)).drop (1 + 1) = l.drop (i + 1 + 1) := by
      rw [List.drop_succ_cons, List.drop_drop]
      all_goals (congr 1; omega)
    have nx : type_of% @d0 /\ type_of% @hx /\ type_of% @ec /\ type_of% @d1 /\ type_of% @g1 /\ type_of% @g2 /\ type_of% @e4 /\ type_of% @en /\ type_of% @dl /\ True := ⟨@d0, ⟨@hx, ⟨@ec, ⟨@d1, ⟨@g1, ⟨@g2, ⟨@e4, ⟨@en, ⟨@dl, trivial⟩⟩⟩⟩⟩⟩⟩⟩⟩
    refine' stf6b23e
    generalize c - 192 = c0 at hR hc0
    clear hdr hx hc ec e4 hbd hr1 dl en d0 d1 h1
    refine AW.loop [0, 3, 4, 5, 6, 7] [] (fun m st => ∃ (k : Nat) (v : Int), st = Tv l i v 1 128 k /\ 1 <= k /\ k <= 1 + 1 /\ 0 <= v /\ v < bnU (k - 1) /\ contS (l.drop (i + k)) (1 + 1 - k) v = R /\ m = 1 + 1 - k) ?_ ?_
    · exact ⟨_, 1, c0, rfl, Nat.le_refl _, by omega, hc0.1, hc0.2, hR, rfl⟩
    clear hR hc0
    rintro m st ⟨k, v, rfl, hk1, hk2, hv0, hv1, hR, rfl⟩
    have hX : bnU (k - 1) <= 8388608 := bnU_le (by omega)
    by_cases hkn : k <= 1
    · have dk : decide ((k : Int) <= 1) = true := decide_eq_true (by omega)
      have hik : i + k < l.length := by omega
      have e5 : IntKind.i64.wrap ((i : Int) + (k : Int)) = ((i + k : Nat) : Int) := wrap64_id _ (by omega) (by omega)
      have hy := hb _ (getD_mem hik)
      have hdr2 : l.drop (i + k) = l.getD (i + k) 0 :: l.drop (i + (k + 1)) := drop_getD hik
      obtain ⟨q, hq⟩ : ∃ q, 1 + 1 - k = q + 1 := ⟨1 - k, by omega⟩
      rw [hdr2, hq, contS] at hR
      generalize hyx : l.getD (i + k) 0 = y at hR hy
      obtain ⟨hy0, hy9⟩ := hy
      have hXk : bnU k = 64 * bnU (k - 1) := bnU_step hk1
      have ek : IntKind.i64.wrap ((k : Int) + 1) = ((k + 1 : Nat) : Int) := wrap64_id _ (by omega) (by omega)
      by_cases hyy : 128 <= y /\ y <= 191
      · rw [if_pos hyy] at hR
        have dy1 : decide (y < 128) = false := decide_eq_false (by omega)
        have dy2 : decide (y > 191) = false := decide_eq_false (by omega)
        have ey : IntKind.i64.wrap y = y := wrap64_id _ (by omega) (by omega)
        have em : IntKind.i64.wrap (v * 64) = v * 64 := wrap64_id _ (by omega) (by omega)
        have ea : IntKind.i64.wrap (v * 64 + y) = v * 64 + y := wrap64_id _ (by omega) (by omega)
        have es : IntKind.i64.wrap (v * 64 + y - 128) = v * 64 + y - 128 := wrap64_id _ (by omega) (by omega)
        have nx : type_of% @dk /\ type_of% @e5 /\ type_of% @hyx /\ type_of% @dy1 /\ type_of% @dy2 /\ type_of% @ey /\ type_of% @em /\ type_of% @ea /\ type_of% @es /\ type_of% @ek /\ True := ⟨@dk, ⟨@e5, ⟨@hyx, ⟨@dy1, ⟨@dy2, ⟨@ey, ⟨@em, ⟨@ea, ⟨@es, ⟨@ek, trivial⟩⟩⟩⟩⟩⟩⟩⟩⟩⟩
        refine' stf6b23e
        all_goals first
          | exact ⟨1 + 1 - (k + 1), by omega, k + 1, v * 64 + y - 128, rfl, by omega, by omega, by omega, by rw [Nat.add_sub_cancel, hXk]; omega, by rw [show 1 + 1 - (k + 1) = q by omega]; exact hR, rfl⟩
          | trace_state
      · rw [if_neg hyy] at hR
        subst hR
        simp only at hA
        subst hA
        by_cases hy1 : y < 128
        · have dy1 : decide (y < 128) = true := decide_eq_true hy1
          have nx : type_of% @dk /\ type_of% @e5 /\ type_of% @hyx /\ type_of% @dy1 /\ True := ⟨@dk, ⟨@e5, ⟨@hyx, ⟨@dy1, trivial⟩⟩⟩⟩
          refine' stf6b23e
          all_goals first | exact ⟨trivial, trivial⟩ | exact ⟨rfl, trivial⟩ | exact ⟨rfl, rfl⟩ | exact ⟨trivial, rfl⟩ | (exfalso; omega) | trace_state
        · have dy1 : decide (y < 128) = false := decide_eq_false hy1
          have dy2 : decide (y > 191) = true := decide_eq_true (by omega)
          have nx : type_of% @dk /\ type_of% @e5 /\ type_of% @hyx /\ type_of% @dy1 /\ type_of% @dy2 /\ True := ⟨@dk, ⟨@e5, ⟨@hyx, ⟨@dy1, ⟨@dy2, trivial⟩⟩⟩⟩⟩
          refine' stf6b23e
          all_goals first | exact ⟨trivial, trivial⟩ | exact ⟨rfl, trivial⟩ | exact ⟨rfl, rfl⟩ | exact ⟨trivial, rfl⟩ | (exfalso; omega) | trace_state
    · have dk : decide ((k : Int) <= 1) = false := decide_eq_false (by omega)
      obtain rfl : k = 1 + 1 := by omega
      rw [Nat.sub_self, contS] at hR
      subst hR
      simp only at hA
      have e6 : IntKind.i64.wrap (((i + 1 : Nat) : Int) + 1) = ((i + 1 + 1 : Nat) : Int) := wrap64_id _ (by omega) (by omega)
      have en : IntKind.i64.wrap ((i : Int) + ((1 : Nat) : Int)) = ((i + 1 : Nat) : Int) := wrap64_id _ (by omega) (by omega)
      by_cases hg : goodU 128 v = true
      · rw [if_pos hg] at hA
        simp only at hA
        rw [hdrop] at hA
        have hgg := (good_iff _ _).1 hg
        have f1 : decide (v < 128) = false := decide_eq_false (by omega)
        have f2 : decide (v > 1114111) = false := decide_eq_false (by omega)
        by_cases hv5 : v >= 55296
        · have f3 : decide (v >= 55296) = true := decide_eq_true hv5
          have f4 : decide (v <= 57343) = false := decide_eq_false (by omega)
          clear hgg hv5
          have nx : type_of% @dk /\ type_of% @f1 /\ type_of% @f2 /\ type_of% @f3 /\ type_of% @f4 /\ type_of% @en /\ type_of% @e6 /\ True := ⟨@dk, ⟨@f1, ⟨@f2, ⟨@f3, ⟨@f4, ⟨@en, ⟨@e6, trivial⟩⟩⟩⟩⟩⟩⟩
          refine' stf6b23e
          all_goals first
            | exact ⟨l.length - (i + 1 + 1), by omega, i + 1 + 1, rfl, by omega, hA, rfl⟩
            | trace_state
        · have f3 : decide (v >= 55296) = false := decide_eq_false hv5
          clear hgg hv5
          have nx : type_of% @dk /\ type_of% @f1 /\ type_of% @f2 /\ type_of% @f3 /\ type_of% @en /\ type_of% @e6 /\ True := ⟨@dk, ⟨@f1, ⟨@f2, ⟨@f3, ⟨@en, ⟨@e6, trivial⟩⟩⟩⟩⟩⟩
          refine' stf6b23e
          all_goals first
            | exact ⟨l.length - (i + 1 + 1), by omega, i + 1 + 1, rfl, by omega, hA, rfl⟩
            | trace_state
      · rw [if_neg hg] at hA
        simp only at hA
        subst hA
        have hgg : ¬ (128 <= v /\ v <= 1114111 /\ ¬ (55296 <= v /\ v <= 57343)) := fun h => hg ((good_iff _ _).2 h)
        by_cases f : v < 128
        · have f1 : decide (v < 128) = true := decide_eq_true f
          have nx : type_of% @dk /\ type_of% @f1 /\ True := ⟨@dk, ⟨@f1, trivial⟩⟩
          refine' stf6b23e
          all_goals first | exact ⟨trivial, trivial⟩ | exact ⟨rfl, trivial⟩ | exact ⟨rfl, rfl⟩ | exact ⟨trivial, rfl⟩ | (exfalso; omega) | trace_state
        have f1 : decide (v < 128) = false := decide_eq_false f
        by_cases g : v > 1114111
        · have f2 : decide (v > 1114111) = true := decide_eq_true g
          have nx : type_of% @dk /\ type_of% @f1 /\ type_of% @f2 /\ True := ⟨@dk, ⟨@f1, ⟨@f2, trivial⟩⟩⟩
          refine' stf6b23e
          all_goals first | exact ⟨trivial, trivial⟩ | exact ⟨rfl, trivial⟩ | exact ⟨rfl, rfl⟩ | exact ⟨trivial, rfl⟩ | (exfalso; omega) | trace_state
        have f2 : decide (v > 1114111) = false := decide_eq_false g
        have f3 : decide (v >= 55296) = true := decide_eq_true (by omega)
        have f4 : decide (v <= 57343) = true := decide_eq_true (by omega)
        clear hgg f g
        have nx : type_of% @dk /\ type_of% @f1 /\ type_of% @f2 /\ type_of% @f3 /\ type_of% @f4 /\ True := ⟨@dk, ⟨@f1, ⟨@f2, ⟨@f3, ⟨@f4, trivial⟩⟩⟩⟩⟩
        refine' stf6b23e
        all_goals first | exact ⟨trivial, trivial⟩ | exact ⟨rfl, trivial⟩ | exact ⟨rfl, rfl⟩ | exact ⟨trivial, rfl⟩ | (exfalso; omega) | trace_state
  rw [if_neg hr1] at hA
  by_cases hr2 : 224 <= c /\ c <= 239
  · rw [if_pos hr2] at hA
    have g1 : decide (c >= 194) = true := decide_eq_true (by omega)
    have g2 : decide (c <= 223) = false := decide_eq_false (by omega)
    have g3 : decide (c >= 224) = true := decide_eq_true (by omega)
    have g4 : decide (c <= 239) = true := decide_eq_true (by omega)
    have e4 : IntKind.i64.wrap (c - 224) = c - 224 := wrap64_id _ (by omega) (by omega)
    have en : IntKind.i64.wrap ((i : Int) + 2) = ((i + 2 : Nat) : Int) := wrap64_id _ (by omega) (by omega)
    by_cases hlen : i + 2 < l.length
    case neg =>
      rw [stepU, if_pos (by rw [List.length_drop]; omega)] at hA
      simp only at hA
      subst hA
      have dl : decide (((i + 2 : Nat) : Int) >= (l.length : Int)) = true := decide_eq_true (by omega)
      have nx : type_of% @d0 /\ type_of% @hx /\ type_of% @ec /\ type_of% @d1 /\ type_of% @g1 /\ type_of% @g2 /\ type_of% @g3 /\ type_of% @g4 /\ type_of% @e4 /\ type_of% @en /\ type_of% @dl /\ True := ⟨@d0, ⟨@hx, ⟨@ec, ⟨@d1, ⟨@g1, ⟨@g2, ⟨@g3, ⟨@g4, ⟨@e4, ⟨@en, ⟨@dl, trivial⟩⟩⟩⟩⟩⟩⟩⟩⟩⟩⟩
      refine' stf6b23e
      all_goals first | exact ⟨trivial, trivial⟩ | exact ⟨rfl, trivial⟩ | exact ⟨rfl, rfl⟩ | exact ⟨trivial, rfl⟩ | (exfalso; omega) | trace_state
    have dl : decide (((i + 2 : Nat) : Int) >= (l.length : Int)) = false := decide_eq_false (by omega)
    rw [stepU, if_neg (by rw [List.length_drop]; omega)] at hA
    obtain ⟨R, hR⟩ : ∃ R, contS (l.drop (i + 1)) 2 (c - 224) = R := ⟨_, rfl⟩
    rw [hR] at hA
    have hc0 : 0 <= c - 224 /\ c - 224 < 32 := by omega
    have hdrop : (c :: l.drop (i + 1)).drop (2 + 1) = l.drop (i + 2 + 1) := by
      rw [List.drop_succ_cons, List.drop_drop]
      all_goals (congr 1; omega)
    have nx : type_of% @d0 /\ type_of% @hx /\ type_of% @ec /\ type_of% @d1 /\ type_of% @g1 /\ type_of% @g2 /\ type_of% @g3 /\ type_of% @g4 /\ type_of% @e4 /\ type_of% @en /\ type_of% @dl /\ True := ⟨@d0, ⟨@hx, ⟨@ec, ⟨@d1, ⟨@g1, ⟨@g2, ⟨@g3, ⟨@g4, ⟨@e4, ⟨@en, ⟨@dl, trivial⟩⟩⟩⟩⟩⟩⟩⟩⟩⟩⟩
    refine' stf6b23e
    generalize c - 224 = c0 at hR hc0
    clear hdr hx hc ec e4 hbd hr2 dl en d0 d1 h1
    refine AW.loop [0, 3, 4, 5, 6, 7] [] (fun m st => ∃ (k : Nat) (v : Int), st = Tv l i v 2 2048 k /\ 1 <= k /\ k <= 2 + 1 /\ 0 <= v /\ v < bnU (k - 1) /\ contS (l.drop (i + k)) (2 + 1 - k) v = R /\ m = 2 + 1 - k) ?_ ?_
    · exact ⟨_, 1, c0, rfl, Nat.le_refl _, by omega, hc0.1, hc0.2, hR, rfl⟩
    clear hR hc0
    rintro m st ⟨k, v, rfl, hk1, hk2, hv0, hv1, hR, rfl⟩
    have hX : bnU (k - 1) <= 8388608 := bnU_le (by omega)
    by_cases hkn : k <= 2
    · have dk : decide ((k : Int) <= 2) = true := decide_eq_true (by omega)
      have hik : i + k < l.length := by omega
      have e5 : IntKind.i64.wrap ((i : Int) + (k : Int)) = ((i + k : Nat) : Int) := wrap64_id _ (by omega) (by omega)
      have hy := hb _ (getD_mem hik)
      have hdr2 : l.drop (i + k) = l.getD (i + k) 0 :: l.drop (i + (k + 1)) := drop_getD hik
      obtain ⟨q, hq⟩ : ∃ q, 2 + 1 - k = q + 1 := ⟨2 - k, by omega⟩
      rw [hdr2, hq, contS] at hR
      generalize hyx : l.getD (i + k) 0 = y at hR hy
      obtain ⟨hy0, hy9⟩ := hy
      have hXk : bnU k = 64 * bnU (k - 1) := bnU_step hk1
      have ek : IntKind.i64.wrap ((k : Int) + 1) = ((k + 1 : Nat) : Int) := wrap64_id _ (by omega) (by omega)
      by_cases hyy : 128 <= y /\ y <= 191
      · rw [if_pos hyy] at hR
        have dy1 : decide (y < 128) = false := decide_eq_false (by omega)
        have dy2 : decide (y > 191) = false := decide_eq_false (by omega)
        have ey : IntKind.i64.wrap y = y := wrap64_id _ (by omega) (by omega)
        have em : IntKind.i64.wrap (v * 64) = v * 64 := wrap64_id _ (by omega) (by omega)
        have ea : IntKind.i64.wrap (v * 64 + y) = v * 64 + y := wrap64_id _ (by omega) (by omega)
        have es : IntKind.i64.wrap (v * 64 + y - 128) = v * 64 + y - 128 := wrap64_id _ (by omega) (by omega)
        have nx : type_of% @dk /\ type_of% @e5 /\ type_of% @hyx /\ type_of% @dy1 /\ type_of% @dy2 /\ type_of% @ey /\ type_of% @em /\ type_of% @ea /\ type_of% @es /\ type_of% @ek /\ True := ⟨@dk, ⟨@e5, ⟨@hyx, ⟨@dy1, ⟨@dy2, ⟨@ey, ⟨@em, ⟨@ea, ⟨@es, ⟨@ek, trivial⟩⟩⟩⟩⟩⟩⟩⟩⟩⟩
        refine' stf6b23e
        all_goals first
          | exact ⟨2 + 1 - (k + 1), by omega, k + 1, v * 64 + y - 128, rfl, by omega, by omega, by omega, by rw [Nat.add_sub_cancel, hXk]; omega, by rw [show 2 + 1 - (k + 1) = q by omega]; exact hR, rfl⟩
          | trace_state
      · rw [if_neg hyy] at hR
        subst hR
        simp only at hA
        subst hA
        by_cases hy1 : y < 128
        · have dy1 : decide (y < 128) = true := decide_eq_true hy1
          have nx : type_of% @dk /\ type_of% @e5 /\ type_of% @hyx /\ type_of% @dy1 /\ True := ⟨@dk, ⟨@e5, ⟨@hyx, ⟨@dy1, trivial⟩⟩⟩⟩
          refine' stf6b23e
          all_goals first | exact ⟨trivial, trivial⟩ | exact ⟨rfl, trivial⟩ | exact ⟨rfl, rfl⟩ | exact ⟨trivial, rfl⟩ | (exfalso; omega) | trace_state
        · have dy1 : decide (y < 128) = false := decide_eq_false hy1
          have dy2 : decide (y > 191) = true := decide_eq_true (by omega)
          have nx : type_of% @dk /\ type_of% @e5 /\ type_of% @hyx /\ type_of% @dy1 /\ type_of% @dy2 /\ True := ⟨@dk, ⟨@e5, ⟨@hyx, ⟨@dy1, ⟨@dy2, trivial⟩⟩⟩⟩⟩
          refine' stf6b23e
          all_goals first | exact ⟨trivial, trivial⟩ | exact ⟨rfl, trivial⟩ | exact ⟨rfl, rfl⟩ | exact ⟨trivial, rfl⟩ | (exfalso; omega) | trace_state
    · have dk : decide ((k : Int) <= 2) = false := decide_eq_false (by omega)
      obtain rfl : k = 2 + 1 := by omega
      rw [Nat.sub_self, contS] at hR
      subst hR
      simp only at hA
      have e6 : IntKind.i64.wrap (((i + 2 : Nat) : Int) + 1) = ((i + 2 + 1 : Nat) : Int) := wrap64_id _ (by omega) (by omega)
      have en : IntKind.i64.wrap ((i : Int) + ((2 : Nat) : Int)) = ((i + 2 : Nat) : Int) := wrap64_id _ (by omega) (by omega)
      by_cases hg : goodU 2048 v = true
      · rw [if_pos hg] at hA
        simp only at hA
        rw [hdrop] at hA
        have hgg := (good_iff _ _).1 hg
        have f1 : decide (v < 2048) = false := decide_eq_false (by omega)
        have f2 : decide (v > 1114111) = false := decide_eq_false (by omega)
        by_cases hv5 : v >= 55296
        · have f3 : decide (v >= 55296) = true := decide_eq_true hv5
          have f4 : decide (v <= 57343) = false := decide_eq_false (by omega)
          clear hgg hv5
          have nx : type_of% @dk /\ type_of% @f1 /\ type_of% @f2 /\ type_of% @f3 /\ type_of% @f4 /\ type_of% @en /\ type_of% @e6 /\ True := ⟨@dk, ⟨@f1, ⟨@f2, ⟨@f3, ⟨@f4, ⟨@en, ⟨@e6, trivial⟩⟩⟩⟩⟩⟩⟩
          refine' stf6b23e
          all_goals first
            | exact ⟨l.length - (i + 2 + 1), by omega, i + 2 + 1, rfl, by omega, hA, rfl⟩
            | trace_state
        · have f3 : decide (v >= 55296) = false := decide_eq_false hv5
          clear hgg hv5
          have nx : type_of% @dk /\ type_of% @f1 /\ type_of% @f2 /\ type_of% @f3 /\ type_of% @en /\ type_of% @e6 /\ True := ⟨@dk, ⟨@f1, ⟨@f2, ⟨@f3, ⟨@en, ⟨@e6, trivial⟩⟩⟩⟩⟩⟩
          refine' stf6b23e
          all_goals first
            | exact ⟨l.length - (i + 2 + 1), by omega, i + 2 + 1, rfl, by omega, hA, rfl⟩
            | trace_state
      · rw [if_neg hg] at hA
        simp only at hA
        subst hA
        have hgg : ¬ (2048 <= v /\ v <= 1114111 /\ ¬ (55296 <= v /\ v <= 57343)) := fun h => hg ((good_iff _ _).2 h)
        by_cases f : v < 2048
        · have f1 : decide (v < 2048) = true := decide_eq_true f
          have nx : type_of% @dk /\ type_of% @f1 /\ True := ⟨@dk, ⟨@f1, trivial⟩⟩
          refine' stf6b23e
          all_goals first | exact ⟨trivial, trivial⟩ | exact ⟨rfl, trivial⟩ | exact ⟨rfl, rfl⟩ | exact ⟨trivial, rfl⟩ | (exfalso; omega) | trace_state
        have f1 : decide (v < 2048) = false := decide_eq_false f
        by_cases g : v > 1114111
        · have f2 : decide (v > 1114111) = true := decide_eq_true g
          have nx : type_of% @dk /\ type_of% @f1 /\ type_of% @f2 /\ True := ⟨@dk, ⟨@f1, ⟨@f2, trivial⟩⟩⟩
          refine' stf6b23e
          all_goals first | exact ⟨trivial, trivial⟩ | exact ⟨rfl, trivial⟩ | exact ⟨rfl, rfl⟩ | exact ⟨trivial, rfl⟩ | (exfalso; omega) | trace_state
        have f2 : decide (v > 1114111) = false := decide_eq_false g
        have f3 : decide (v >= 55296) = true := decide_eq_true (by omega)
        have f4 : decide (v <= 57343) = true := decide_eq_true (by omega)
        clear hgg f g
        have nx : type_of% @dk /\ type_of% @f1 /\ type_of% @f2 /\ type_of% @f3 /\ type_of% @f4 /\ True := ⟨@dk, ⟨@f1, ⟨@f2, ⟨@f3, ⟨@f4, trivial⟩⟩⟩⟩⟩
        refine' stf6b23e
        all_goals first | exact ⟨trivial, trivial⟩ | exact ⟨rfl, trivial⟩ | exact ⟨rfl, rfl⟩ | exact ⟨trivial, rfl⟩ | (exfalso; omega) | trace_state
  rw [if_neg hr2] at hA
  by_cases hk3 : 240 <= c /\ c <= 244
  · rw [if_pos hk3] at hA
    have g1 : decide (c >= 194) = true := decide_eq_true (by omega)
    have g2 : decide (c <= 223) = false := decide_eq_false (by omega)
    have g3 : decide (c >= 224) = true := decide_eq_true (by omega)
    have g4 : decide (c <= 239) = false := decide_eq_false (by omega)
    have g5 : decide (c >= 240) = true := decide_eq_true (by omega)
    have g6 : decide (c <= 244) = true := decide_eq_true (by omega)
    have e4 : IntKind.i64.wrap (c - 240) = c - 240 := wrap64_id _ (by omega) (by omega)
    have en : IntKind.i64.wrap ((i : Int) + 3) = ((i + 3 : Nat) : Int) := wrap64_id _ (by omega) (by omega)
    by_cases hlen : i + 3 < l.length
    case neg =>
      rw [stepU, if_pos (by rw [List.length_drop]; omega)] at hA
      simp only at hA
      subst hA
      have dl : decide (((i + 3 : Nat) : Int) >= (l.length : Int)) = true := decide_eq_true (by omega)
      have nx : type_of% @d0 /\ type_of% @hx /\ type_of% @ec /\ type_of% @d1 /\ type_of% @g1 /\ type_of% @g2 /\ type_of% @g3 /\ type_of% @g4 /\ type_of% @g5 /\ type_of% @g6 /\ type_of% @e4 /\ type_of% @en /\ type_of% @dl /\ True := ⟨@d0, ⟨@hx, ⟨@ec, ⟨@d1, ⟨@g1, ⟨@g2, ⟨@g3, ⟨@g4, ⟨@g5, ⟨@g6, ⟨@e4, ⟨@en, ⟨@dl, trivial⟩⟩⟩⟩⟩⟩⟩⟩⟩⟩⟩⟩⟩
      refine' stf6b23e
      all_goals first | exact ⟨trivial, trivial⟩ | exact ⟨rfl, trivial⟩ | exact ⟨rfl, rfl⟩ | exact ⟨trivial, rfl⟩ | (exfalso; omega) | trace_state
    have dl : decide (((i + 3 : Nat) : Int) >= (l.length : Int)) = false := decide_eq_false (by omega)
    rw [stepU, if_neg (by rw [List.length_drop]; omega)] at hA
    obtain ⟨R, hR⟩ : ∃ R, contS (l.drop (i + 1)) 3 (c - 240) = R := ⟨_, rfl⟩
    rw [hR] at hA
    have hc0 : 0 <= c - 240 /\ c - 240 < 32 := by omega
    have hdrop : (c :: l.drop (i + 1)).drop (3 + 1) = l.drop (i + 3 + 1) := by
      rw [List.drop_succ_cons, List.drop_drop]
      all_goals (congr 1; omega)
    have nx : type_of% @d0 /\ type_of% @hx /\ type_of% @ec /\ type_of% @d1 /\ type_of% @g1 /\ type_of% @g2 /\ type_of% @g3 /\ type_of% @g4 /\ type_of% @g5 /\ type_of% @g6 /\ type_of% @e4 /\ type_of% @en /\ type_of% @dl /\ True := ⟨@d0, ⟨@hx, ⟨@ec, ⟨@d1, ⟨@g1, ⟨@g2, ⟨@g3, ⟨@g4, ⟨@g5, ⟨@g6, ⟨@e4, ⟨@en, ⟨@dl, trivial⟩⟩⟩⟩⟩⟩⟩⟩⟩⟩⟩⟩⟩
    refine' stf6b23e
    generalize c - 240 = c0 at hR hc0
    clear hdr hx hc ec e4 hbd hk3 dl en d0 d1 h1
    refine AW.loop [0, 3, 4, 5, 6, 7] [] (fun m st => ∃ (k : Nat) (v : Int), st = Tv l i v 3 65536 k /\ 1 <= k /\ k <= 3 + 1 /\ 0 <= v /\ v < bnU (k - 1) /\ contS (l.drop (i + k)) (3 + 1 - k) v = R /\ m = 3 + 1 - k) ?_ ?_
    · exact ⟨_, 1, c0, rfl, Nat.le_refl _, by omega, hc0.1, hc0.2, hR, rfl⟩
    clear hR hc0
    rintro m st ⟨k, v, rfl, hk1, hk2, hv0, hv1, hR, rfl⟩
    have hX : bnU (k - 1) <= 8388608 := bnU_le (by omega)
    by_cases hkn : k <= 3
    · have dk : decide ((k : Int) <= 3) = true := decide_eq_true (by omega)
      have hik : i + k < l.length := by omega
      have e5 : IntKind.i64.wrap ((i : Int) + (k : Int)) = ((i + k : Nat) : Int) := wrap64_id _ (by omega) (by omega)
      have hy := hb _ (getD_mem hik)
      have hdr2 : l.drop (i + k) = l.getD (i + k) 0 :: l.drop (i + (k + 1)) := drop_getD hik
      obtain ⟨q, hq⟩ : ∃ q, 3 + 1 - k = q + 1 := ⟨3 - k, by omega⟩
      rw [hdr2, hq, contS] at hR
      generalize hyx : l.getD (i + k) 0 = y at hR hy
      obtain ⟨hy0, hy9⟩ := hy
      have hXk : bnU k = 64 * bnU (k - 1) := bnU_step hk1
      have ek : IntKind.i64.wrap ((k : Int) + 1) = ((k + 1 : Nat) : Int) := wrap64_id _ (by omega) (by omega)
      by_cases hyy : 128 <= y /\ y <= 191
      · rw [if_pos hyy] at hR
        have dy1 : decide (y < 128) = false := decide_eq_false (by omega)
        have dy2 : decide (y > 191) = false := decide_eq_false (by omega)
        have ey : IntKind.i64.wrap y = y := wrap64_id _ (by omega) (by omega)
        have em : IntKind.i64.wrap (v * 64) = v * 64 := wrap64_id _ (by omega) (by omega)
        have ea : IntKind.i64.wrap (v * 64 + y) = v * 64 + y := wrap64_id _ (by omega) (by omega)
        have es : IntKind.i64.wrap (v * 64 + y - 128) = v * 64 + y - 128 := wrap64_id _ (by omega) (by omega)
        have nx : type_of% @dk /\ type_of% @e5 /\ type_of% @hyx /\ type_of% @dy1 /\ type_of% @dy2 /\ type_of% @ey /\ type_of% @em /\ type_of% @ea /\ type_of% @es /\ type_of% @ek /\ True := ⟨@dk, ⟨@e5, ⟨@hyx, ⟨@dy1, ⟨@dy2, ⟨@ey, ⟨@em, ⟨@ea, ⟨@es, ⟨@ek, trivial⟩⟩⟩⟩⟩⟩⟩⟩⟩⟩
        refine' stf6b23e
        all_goals first
          | exact ⟨3 + 1 - (k + 1), by omega, k + 1, v * 64 + y - 128, rfl, by omega, by omega, by omega, by rw [Nat.add_sub_cancel, hXk]; omega, by rw [show 3 + 1 - (k + 1) = q by omega]; exact hR, rfl⟩
          | trace_state
      · rw [if_neg hyy] at hR
        subst hR
        simp only at hA
        subst hA
        by_cases hy1 : y < 128
        · have dy1 : decide (y < 128) = true := decide_eq_true hy1
          have nx : type_of% @dk /\ type_of% @e5 /\ type_of% @hyx /\ type_of% @dy1 /\ True := ⟨@dk, ⟨@e5, ⟨@hyx, ⟨@dy1, trivial⟩⟩⟩⟩
          refine' stf6b23e
          all_goals first | exact ⟨trivial, trivial⟩ | exact ⟨rfl, trivial⟩ | exact ⟨rfl, rfl⟩ | exact ⟨trivial, rfl⟩ | (exfalso; omega) | trace_state
        · have dy1 : decide (y < 128) = false := decide_eq_false hy1
          have dy2 : decide (y > 191) = true := decide_eq_true (by omega)
          have nx : type_of% @dk /\ type_of% @e5 /\ type_of% @hyx /\ type_of% @dy1 /\ type_of% @dy2 /\ True := ⟨@dk, ⟨@e5, ⟨@hyx, ⟨@dy1, ⟨@dy2, trivial⟩⟩⟩⟩⟩
          refine' stf6b23e
          all_goals first | exact ⟨trivial, trivial⟩ | exact ⟨rfl, trivial⟩ | exact ⟨rfl, rfl⟩ | exact ⟨trivial, rfl⟩ | (exfalso; omega) | trace_state
    · have dk : decide ((k : Int) <= 3) = false := decide_eq_false (by omega)
      obtain rfl : k = 3 + 1 := by omega
      rw [Nat.sub_self, contS] at hR
      subst hR
      simp only at hA
      have e6 : IntKind.i64.wrap (((i + 3 : Nat) : Int) + 1) = ((i + 3 + 1 : Nat) : Int) := wrap64_id _ (by omega) (by omega)
      have en : IntKind.i64.wrap ((i : Int) + ((3 : Nat) : Int)) = ((i + 3 : Nat) : Int) := wrap64_id _ (by omega) (by omega)
      by_cases hg : goodU 65536 v = true
      · rw [if_pos hg] at hA
        simp only at hA
        rw [hdrop] at hA
        have hgg := (good_iff _ _).1 hg
        have f1 : decide (v < 65536) = false := decide_eq_false (by omega)
        have f2 : decide (v > 1114111) = false := decide_eq_false (by omega)
        by_cases hv5 : v >= 55296
        · have f3 : decide (v >= 55296) = true := decide_eq_true hv5
          have f4 : decide (v <= 57343) = false := decide_eq_false (by omega)
          clear hgg hv5
          have nx : type_of% @dk /\ type_of% @f1 /\ type_of% @f2 /\ type_of% @f3 /\ type_of% @f4 /\ type_of% @en /\ type_of% @e6 /\ True := ⟨@dk, ⟨@f1, ⟨@f2, ⟨@f3, ⟨@f4, ⟨@en, ⟨@e6, trivial⟩⟩⟩⟩⟩⟩⟩
          refine' stf6b23e
          all_goals first
            | exact ⟨l.length - (i + 3 + 1), by omega, i + 3 + 1, rfl, by omega, hA, rfl⟩
            | trace_state
        · have f3 : decide (v >= 55296) = false := decide_eq_false hv5
          clear hgg hv5
          have nx : type_of% @dk /\ type_of% @f1 /\ type_of% @f2 /\ type_of% @f3 /\ type_of% @en /\ type_of% @e6 /\ True := ⟨@dk, ⟨@f1, ⟨@f2, ⟨@f3, ⟨@en, ⟨@e6, trivial⟩⟩⟩⟩⟩⟩
          refine' stf6b23e
          all_goals first
            | exact ⟨l.length - (i + 3 + 1), by omega, i + 3 + 1, rfl, by omega, hA, rfl⟩
            | trace_state
      · rw [if_neg hg] at hA
        simp only at hA
        subst hA
        have hgg : ¬ (65536 <= v /\ v <= 1114111 /\ ¬ (55296 <= v /\ v <= 57343)) := fun h => hg ((good_iff _ _).2 h)
        by_cases f : v < 65536
        · have f1 : decide (v < 65536) = true := decide_eq_true f
          have nx : type_of% @dk /\ type_of% @f1 /\ True := ⟨@dk, ⟨@f1, trivial⟩⟩
          refine' stf6b23e
          all_goals first | exact ⟨trivial, trivial⟩ | exact ⟨rfl, trivial⟩ | exact ⟨rfl, rfl⟩ | exact ⟨trivial, rfl⟩ | (exfalso; omega) | trace_state
        have f1 : decide (v < 65536) = false := decide_eq_false f
        by_cases g : v > 1114111
        · have f2 : decide (v > 1114111) = true := decide_eq_true g
          have nx : type_of% @dk /\ type_of% @f1 /\ type_of% @f2 /\ True := ⟨@dk, ⟨@f1, ⟨@f2, trivial⟩⟩⟩
          refine' stf6b23e
          all_goals first | exact ⟨trivial, trivial⟩ | exact ⟨rfl, trivial⟩ | exact ⟨rfl, rfl⟩ | exact ⟨trivial, rfl⟩ | (exfalso; omega) | trace_state
        have f2 : decide (v > 1114111) = false := decide_eq_false g
        have f3 : decide (v >= 55296) = true := decide_eq_true (by omega)
        have f4 : decide (v <= 57343) = true := decide_eq_true (by omega)
        clear hgg f g
        have nx : type_of% @dk /\ type_of% @f1 /\ type_of% @f2 /\ type_of% @f3 /\ type_of% @f4 /\ True := ⟨@dk, ⟨@f1, ⟨@f2, ⟨@f3, ⟨@f4, trivial⟩⟩⟩⟩⟩
        refine' stf6b23e
        all_goals first | exact ⟨trivial, trivial⟩ | exact ⟨rfl, trivial⟩ | exact ⟨rfl, rfl⟩ | exact ⟨trivial, rfl⟩ | (exfalso; omega) | trace_state
  rw [if_neg hk3] at hA
  simp only at hA
  subst hA
  by_cases g : c < 194
  · have g1 : decide (c >= 194) = false := decide_eq_false (by omega)
    have g3 : decide (c >= 224) = false := decide_eq_false (by omega)
    have g5 : decide (c >= 240) = false := decide_eq_false (by omega)
    have nx : type_of% @d0 /\ type_of% @hx /\ type_of% @ec /\ type_of% @d1 /\ type_of% @g1 /\ type_of% @g3 /\ type_of% @g5 /\ True := ⟨@d0, ⟨@hx, ⟨@ec, ⟨@d1, ⟨@g1, ⟨@g3, ⟨@g5, trivial⟩⟩⟩⟩⟩⟩⟩
    refine' stf6b23e
    all_goals first | exact ⟨trivial, trivial⟩ | exact ⟨rfl, trivial⟩ | exact ⟨rfl, rfl⟩ | exact ⟨trivial, rfl⟩ | (exfalso; omega) | trace_state
  · have g1 : decide (c >= 194) = true := decide_eq_true (by omega)
    have g2 : decide (c <= 223) = false := decide_eq_false (by omega)
    have g3 : decide (c >= 224) = true := decide_eq_true (by omega)
    have g4 : decide (c <= 239) = false := decide_eq_false (by omega)
    have g5 : decide (c >= 240) = true := decide_eq_true (by omega)
    have g6 : decide (c <= 244) = false := decide_eq_false (by omega)
    have nx : type_of% @d0 /\ type_of% @hx /\ type_of% @ec /\ type_of% @d1 /\ type_of% @g1 /\ type_of% @g2 /\ type_of% @g3 /\ type_of% @g4 /\ type_of% @g5 /\ type_of% @g6 /\ True := ⟨@d0, ⟨@hx, ⟨@ec, ⟨@d1, ⟨@g1, ⟨@g2, ⟨@g3, ⟨@g4, ⟨@g5, ⟨@g6, trivial⟩⟩⟩⟩⟩⟩⟩⟩⟩⟩
    refine' stf6b23e
    all_goals first | exact ⟨trivial, trivial⟩ | exact ⟨rfl, trivial⟩ | exact ⟨rfl, rfl⟩ | exact ⟨trivial, rfl⟩ | (exfalso; omega) | trace_state
end Go.Proofs.YtmomeejfopfchaaDoor
namespace Go.Proofs.YtmomeejfopfchaaDoor
set_option maxRecDepth 20000
open Go Go.Abs
structure Tl (xs ys : List Int) (p0 d : Int) : Prop where
  d0 : 0 <= d
  q0 : 0 <= p0
  len : (ys.length : Int) = xs.length + d
  tl : ∀ p : Int, p0 <= p -> ys.drop (p + d).toNat = xs.drop p.toNat
def shR (d : Int) (r : Rd) : Rd := { r with pos := r.pos + d }
def sh2 {α : Type} (d : Int) (z : α × Rd) : α × Rd := (z.1, shR d z.2)
structure okS (xs : List Int) (p0 : Int) (r : Rd) : Prop where
  ok : okRd xs r
  ge : p0 <= r.pos
theorem okS.go {xs : List Int} {p0 : Int} {r r' : Rd} (h : okS xs p0 r) (ha : Adv xs r r') : okS xs p0 r' := ⟨ha.ok, Int.le_trans h.ge ha.pos⟩
theorem failS_sh (d : Int) (r : Rd) (e : Int) : failS (shR d r) e = shR d (failS r e) := by
  unfold failS
  show (if r.err = 0 then _ else _) = _
  split <;> rfl
theorem Tl.get {xs ys : List Int} {p0 d : Int} (h : Tl xs ys p0 d) {p : Int} (hp : p0 <= p) : ys.getD (p + d).toNat 0 = xs.getD p.toNat 0 := by
  have e := congrArg (fun l => l.getD 0 0) (h.tl p hp)
  simp only [List.getD_eq_getElem?_getD, List.getElem?_drop, Nat.add_zero] at e ⊢
  exact e
theorem byteS_sh {xs ys : List Int} {p0 d : Int} (h : Tl xs ys p0 d) {r : Rd} (hr : p0 <= r.pos) : byteS ys (shR d r) = sh2 d (byteS xs r) := by
  have hl := h.len
  unfold byteS sh2
  show (if r.err ≠ 0 \/ r.pos + d >= (ys.length : Int) then (0, failS (shR d r) 10) else (ys.getD (r.pos + d).toNat 0, { shR d r with pos := r.pos + d + 1 })) = _
  by_cases c : r.err ≠ 0 \/ r.pos >= xs.length
  · rw [if_pos c, if_pos (c.imp_right fun h => by omega), failS_sh]
  · rw [if_neg c, if_neg (fun hh => c (hh.imp_right fun h => by omega)), h.get hr]
    show _ = (_, ({ r with pos := r.pos + 1 + d } : Rd))
    rw [show r.pos + d + 1 = r.pos + 1 + d by omega]; rfl
theorem sRd_shift (bits k : Int) : ∀ (l : List Int) (d : Nat) (v at_ : Int), sRd bits l d v (at_ + k) = if (sRd bits l d v at_).2.2 = 0 then ((sRd bits l d v at_).1, (sRd bits l d v at_).2.1 + k, 0) else sRd bits l d v at_
  | [], _, _, _ => by simp [sRd]
  | x :: t, d, v, at_ => by
    rw [sRd, sRd]
    by_cases c : bits - d <= 7 /\ ((sx x / 2 ^ (bits - d - 1).toNat ≠ 0 /\ sx x / 2 ^ (bits - d - 1).toNat ≠ -1) \/ x >= 128)
    · rw [if_pos c, if_pos c]; simp
    rw [if_neg c, if_neg c]
    by_cases c2 : x < 128
    · rw [if_pos c2, if_pos c2, if_pos rfl]
      simp only [Prod.mk.injEq, true_and, and_true]; omega
    · rw [if_neg c2, if_neg c2, show at_ + k + 1 = at_ + 1 + k by omega]
      exact sRd_shift bits k t _ _ _
theorem uSpec_sh {xs ys : List Int} {p0 d : Int} (h : Tl xs ys p0 d) {p : Int} (hp : p0 <= p) (n : Int) : uSpec ys (p + d) n = if (uSpec xs p n).2.2 = 0 then ((uSpec xs p n).1, (uSpec xs p n).2.1 + d, 0) else uSpec xs p n := by
  have hl := h.len
  have h0 := h.q0
  have hd := h.d0
  unfold uSpec
  by_cases c : n < 1 \/ n > 64 \/ p < 0 \/ p > xs.length
  · rw [if_pos (show n < 1 \/ n > 64 \/ p + d < 0 \/ p + d > ys.length by omega), if_pos c]; simp
  · rw [if_neg (show ¬ (n < 1 \/ n > 64 \/ p + d < 0 \/ p + d > ys.length) by omega), if_neg c, h.tl p hp]
    exact uRd_shift n d _ 0 0 p
theorem sSpec_sh {xs ys : List Int} {p0 d : Int} (h : Tl xs ys p0 d) {p : Int} (hp : p0 <= p) (n : Int) : sSpec ys (p + d) n = if (sSpec xs p n).2.2 = 0 then ((sSpec xs p n).1, (sSpec xs p n).2.1 + d, 0) else sSpec xs p n := by
  have hl := h.len
  have h0 := h.q0
  have hd := h.d0
  unfold sSpec
  by_cases c : n < 1 \/ n > 64 \/ p < 0 \/ p > xs.length
  · rw [if_pos (show n < 1 \/ n > 64 \/ p + d < 0 \/ p + d > ys.length by omega), if_pos c]; simp
  · rw [if_neg (show ¬ (n < 1 \/ n > 64 \/ p + d < 0 \/ p + d > ys.length) by omega), if_neg c, h.tl p hp]
    exact sRd_shift n d _ 0 0 p
theorem numS_sh {xs ys : List Int} {p0 d : Int} (h : Tl xs ys p0 d) {r : Rd} (hr : p0 <= r.pos) : numS ys (shR d r) = sh2 d (numS xs r) := by
  have e := uSpec_sh h hr 32
  unfold numS sh2
  show (if r.err ≠ 0 then (0, shR d r) else if (uSpec ys (r.pos + d) 32).2.2 ≠ 0 then (0, failS (shR d r) 10) else ((uSpec ys (r.pos + d) 32).1, { shR d r with pos := (uSpec ys (r.pos + d) 32).2.1 })) = _
  rw [e]
  by_cases c : r.err ≠ 0
  · rw [if_pos c, if_pos c]
  rw [if_neg c, if_neg c]
  by_cases c2 : (uSpec xs r.pos 32).2.2 = 0
  · rw [if_pos c2, if_neg (fun hh => hh rfl), if_neg (fun hh => hh c2)]; rfl
  · rw [if_neg c2, if_pos c2, if_pos c2, failS_sh]
theorem sgnS_sh {xs ys : List Int} {p0 d : Int} (h : Tl xs ys p0 d) {r : Rd} (hr : p0 <= r.pos) (n : Int) : sgnS ys n (shR d r) = sh2 d (sgnS xs n r) := by
  have e := sSpec_sh h hr n
  unfold sgnS sh2
  show (if r.err ≠ 0 then (0, shR d r) else if (sSpec ys (r.pos + d) n).2.2 ≠ 0 then (0, failS (shR d r) 10) else ((sSpec ys (r.pos + d) n).1, { shR d r with pos := (sSpec ys (r.pos + d) n).2.1 })) = _
  rw [e]
  by_cases c : r.err ≠ 0
  · rw [if_pos c, if_pos c]
  rw [if_neg c, if_neg c]
  by_cases c2 : (sSpec xs r.pos n).2.2 = 0
  · rw [if_pos c2, if_neg (fun hh => hh rfl), if_neg (fun hh => hh c2)]; rfl
  · rw [if_neg c2, if_pos c2, if_pos c2, failS_sh]
theorem kindN_sh {xs ys : List Int} {p0 d : Int} (h : Tl xs ys p0 d) {r : Rd} (hr : p0 <= r.pos) : kindN ys (shR d r) = sh2 d (kindN xs r) := by
  unfold kindN
  rw [sgnS_sh h hr 33]
  unfold sh2
  simp only
  by_cases c : (sgnS xs 33 r).1 < 0
  · rw [if_pos c, if_pos c, failS_sh]
  · rw [if_neg c, if_neg c]
theorem kindS_sh {xs ys : List Int} {p0 d : Int} (h : Tl xs ys p0 d) {r : Rd} (hr : p0 <= r.pos) : kindS ys (shR d r) = sh2 d (kindS xs r) := by
  have hl := h.len
  unfold kindS
  rw [kindN_sh h hr, failS_sh]
  show (if r.pos + d < ys.length then if kindC (ys.getD (r.pos + d).toNat 0) then (ys.getD (r.pos + d).toNat 0 - 128, { shR d r with pos := r.pos + d + 1 }) else if floatC (ys.getD (r.pos + d).toNat 0) then (0, shR d (failS r 11)) else sh2 d (kindN xs r) else sh2 d (kindN xs r)) = _
  rw [h.get hr]
  by_cases c : r.pos < xs.length
  · rw [if_pos (by omega), if_pos c]
    by_cases c1 : kindC (xs.getD r.pos.toNat 0)
    · rw [if_pos c1, if_pos c1, show r.pos + d + 1 = r.pos + 1 + d by omega]; rfl
    · rw [if_neg c1, if_neg c1]
      by_cases c2 : floatC (xs.getD r.pos.toNat 0)
      · rw [if_pos c2, if_pos c2]; rfl
      · rw [if_neg c2, if_neg c2]
  · rw [if_neg (by omega), if_neg c]
theorem tabS_sh {xs ys : List Int} {p0 d : Int} (h : Tl xs ys p0 d) (hb : bytes xs) : ∀ (n : Nat) (r : Rd) (l : List Int), okS xs p0 r -> tabS ys n (shR d r) l = sh2 d (tabS xs n r l)
  | 0, r, l, _ => rfl
  | n + 1, r, l, hr => by
    rw [tabS, tabS, numS_sh h hr.ge]
    show (if r.err = 0 then _ else _) = _
    by_cases c : r.err = 0
    · rw [if_pos c, if_pos c]
      exact tabS_sh h hb n _ _ (hr.go (numS_adv hb hr.ok))
    · rw [if_neg c, if_neg c]; rfl
theorem rowS_sh {xs ys : List Int} {p0 d : Int} (h : Tl xs ys p0 d) : ∀ (n : Nat) (r : Rd), okS xs p0 r -> rowS ys n (shR d r) = sh2 d (rowS xs n r)
  | 0, r, _ => rfl
  | n + 1, r, hr => by
    rw [rowS, rowS, byteS_sh h hr.ge]
    show (_ :: (rowS ys n (shR d (byteS xs r).2)).1, (rowS ys n (shR d (byteS xs r).2)).2) = _
    rw [rowS_sh h n _ (hr.go (byteS_adv hr.ok).1)]; rfl
theorem fieldsS_sh {xs ys : List Int} {p0 d : Int} (h : Tl xs ys p0 d) (hb : bytes xs) (form : Int) {r : Rd} (i : Ins) (hr : okS xs p0 r) : fieldsS ys form (shR d r) i = sh2 d (fieldsS xs form r i) := by
  have hN := hr.go (numS_adv hb hr.ok)
  have hN2 := hN.go (numS_adv hb hN.ok)
  have hT := hN.go (tabS_adv hb (numS xs r).1.toNat _ i.l hN.ok)
  have e1 := numS_sh h hr.ge
  have e2 := numS_sh h hN.ge
  have e3 := byteS_sh h hN2.ge
  have e4 := tabS_sh h hb (numS xs r).1.toNat (numS xs r).2 i.l hN
  have e5 := numS_sh h hT.ge
  have e6 := byteS_sh h hr.ge
  unfold sh2 at e1 e2 e3 e4 e5 e6
  unfold fieldsS
  by_cases c1 : form = 2
  · rw [if_pos c1, if_pos c1, kindS_sh h hr.ge]; rfl
  rw [if_neg c1, if_neg c1]
  by_cases c2 : form = 3 \/ form = 5
  · rw [if_pos c2, if_pos c2, e1]; rfl
  rw [if_neg c2, if_neg c2]
  by_cases c3 : form = 4
  · rw [if_pos c3, if_pos c3, e1]
    simp only
    rw [e4]
    simp only
    rw [e5]; rfl
  rw [if_neg c3, if_neg c3]
  by_cases c4 : form = 6 \/ form = 7
  · rw [if_pos c4, if_pos c4, e1]
    simp only
    rw [e2]; rfl
  rw [if_neg c4, if_neg c4]
  by_cases c5 : form = 8
  · rw [if_pos c5, if_pos c5, e1]
    simp only
    rw [e2]
    simp only
    rw [e3]; rfl
  rw [if_neg c5, if_neg c5]
  by_cases c6 : form = 9
  · rw [if_pos c6, if_pos c6, sgnS_sh h hr.ge]; rfl
  rw [if_neg c6, if_neg c6]
  by_cases c7 : form = 10
  · rw [if_pos c7, if_pos c7, sgnS_sh h hr.ge]; rfl
  rw [if_neg c7, if_neg c7]
  by_cases c8 : form = 11 \/ form = 12
  · rw [if_pos c8, if_pos c8, rowS_sh h 16 r hr]; rfl
  rw [if_neg c8, if_neg c8]
  by_cases c9 : form = 13
  · rw [if_pos c9, if_pos c9, e6]; rfl
  rw [if_neg c9, if_neg c9]
  by_cases c10 : form = 14
  · rw [if_pos c10, if_pos c10, e6]
    unfold sh2
    simp only
    by_cases c : (byteS xs r).1 ≠ 0
    · rw [if_pos c, if_pos c, failS_sh]
    · rw [if_neg c, if_neg c]
  rw [if_neg c10, if_neg c10]; rfl
theorem blockS_sh (d op : Int) (r : Rd) : blockS op (shR d r) = shR d (blockS op r) := by
  unfold blockS
  rw [failS_sh, failS_sh]
  by_cases c : op ≠ 5
  · rw [if_pos c, if_pos c]
    show ({ (if r.op.length = 128 then shR d (failS r 3) else shR d r) with op := r.op ++ [op], jk := [] } : Rd) = _
    by_cases c1 : r.op.length = 128
    · rw [if_pos c1, if_pos c1]; rfl
    · rw [if_neg c1, if_neg c1]; rfl
  · rw [if_neg c, if_neg c]
    show (if r.op.length = 0 \/ r.op.getD (r.op.length - 1) 0 ≠ 4 then _ else _) = _
    split <;> rfl
theorem closeS_sh (d : Int) (r : Rd) : closeS (shR d r) = sh2 d (closeS r) := by
  unfold closeS
  show (if r.op.length = 0 then _ else _) = _
  split <;> rfl
theorem opS_sh {xs ys : List Int} {p0 d : Int} (h : Tl xs ys p0 d) {r : Rd} (hr : okS xs p0 r) : opS ys (shR d r) = sh2 d (opS xs r) := by
  have hB := hr.go (byteS_adv hr.ok).1
  have e1 := byteS_sh h hr.ge
  have e2 := numS_sh h hB.ge
  unfold sh2 at e1 e2
  unfold opS
  rw [e1]
  simp only
  rw [e2]
  simp only
  by_cases c : (byteS xs r).1 = 253
  · rw [if_pos c, if_pos c]; rfl
  rw [if_neg c, if_neg c]
  by_cases c2 : (byteS xs r).1 = 252
  · rw [if_pos c2, if_pos c2]
    unfold sh2
    simp only
    by_cases c3 : (numS xs (byteS xs r).2).1 <= 7
    · rw [if_pos c3, if_pos c3, failS_sh, failS_sh]
    · rw [if_neg c3, if_neg c3, failS_sh]
  · rw [if_neg c2, if_neg c2]; rfl
theorem chkS_sh (d op : Int) (r : Rd) : chkS op (shR d r) = shR d (chkS op r) := by
  unfold chkS
  rw [failS_sh]
  by_cases c1 : flS op = true
  · rw [if_pos c1, if_pos c1, failS_sh]
    split <;> rfl
  · rw [if_neg c1, if_neg c1, failS_sh]
    split <;> rfl
theorem failS_pos (r : Rd) (e : Int) : (failS r e).pos = r.pos := by unfold failS; split <;> rfl
theorem chkS_pos (op : Int) (r : Rd) : (chkS op r).pos = r.pos := by
  unfold chkS
  repeat' split
  all_goals simp only [failS_pos]
theorem bodyS_sh {xs ys : List Int} {p0 d : Int} (h : Tl xs ys p0 d) (hb : bytes xs) (op : Int) {r : Rd} (hr : okS xs p0 r) : bodyS ys op (shR d r) = sh2 d (bodyS xs op r) := by
  unfold bodyS
  show (if r.err = 0 then _ else _) = _
  by_cases c : r.err = 0
  · rw [if_pos c, if_pos c, fieldsS_sh h hb _ _ hr]
  · rw [if_neg c, if_neg c]; rfl
theorem instrS_sh {xs ys : List Int} {p0 d : Int} (h : Tl xs ys p0 d) (hb : bytes xs) {r : Rd} (hr : okS xs p0 r) : instrS ys (shR d r) = sh2 d (instrS xs r) := by
  have h1 := hr.go (opS_adv hb hr.ok).1
  have h2 : okS xs p0 (chkS (opS xs r).1 (opS xs r).2) := ⟨⟨by rw [chkS_pos]; exact h1.ok.p0, by rw [chkS_pos]; exact h1.ok.p1⟩, by rw [chkS_pos]; exact h1.ge⟩
  have e := bodyS_sh h hb (opS xs r).1 h2
  unfold instrS
  rw [opS_sh h hr]
  unfold sh2 at e ⊢
  simp only
  rw [chkS_sh, e]
  simp only
  show (_, if (bodyS xs (opS xs r).1 (chkS (opS xs r).1 (opS xs r).2)).2.err = 0 /\ 2 <= (opS xs r).1 /\ (opS xs r).1 <= 5 then _ else _) = _
  rw [blockS_sh]
  split <;> rfl
def shO (d : Int) (z : List Ins × Int × Int) : List Ins × Int × Int := if z.2.2 = 0 then (z.1, z.2.1 + d, 0) else z
theorem readL_sh {xs ys : List Int} {p0 d : Int} (h : Tl xs ys p0 d) (hb : bytes xs) : ∀ (n : Nat) (r : Rd) (l : List Ins), okS xs p0 r -> readL ys n (shR d r) l = shO d (readL xs n r l)
  | 0, r, l, _ => rfl
  | n + 1, r, l, hr => by
    have h1 := hr.go (instrS_adv hb hr.ok).1
    rw [readL, readL, instrS_sh h hb hr]
    unfold sh2
    simp only
    rw [closeS_sh]
    show (if (instrS xs r).2.err ≠ 0 then _ else _) = _
    by_cases c : (instrS xs r).2.err ≠ 0
    · rw [if_pos c, if_pos c]
      unfold shO
      rw [if_neg c]; rfl
    rw [if_neg c, if_neg c]
    by_cases c1 : (instrS xs r).1.op = 11
    · rw [if_pos c1, if_pos c1]
      unfold sh2
      simp only
      by_cases c2 : (closeS (instrS xs r).2).1 = true
      · rw [if_pos c2, if_pos c2]; rfl
      · rw [if_neg c2, if_neg c2]
        exact readL_sh h hb n _ _ ⟨⟨by rw [closeS_pos]; exact h1.ok.p0, by rw [closeS_pos]; exact h1.ok.p1⟩, by rw [closeS_pos]; exact h1.ge⟩
    · rw [if_neg c1, if_neg c1]
      exact readL_sh h hb n _ _ h1
theorem readL_fuel {xs : List Int} (hb : bytes xs) : ∀ (n m : Nat) (r : Rd) (l : List Ins), okRd xs r -> (xs.length : Int) - r.pos + 1 <= n -> (xs.length : Int) - r.pos + 1 <= m -> readL xs n r l = readL xs m r l
  | 0, m, r, l, hr, hn, hm => by have := hr.p1; omega
  | n + 1, 0, r, l, hr, hn, hm => by have := hr.p1; omega
  | n + 1, m + 1, r, l, hr, hn, hm => by
    obtain ⟨h1, h2⟩ := instrS_adv hb hr
    rw [readL, readL]
    by_cases c : (instrS xs r).2.err ≠ 0
    · rw [if_pos c, if_pos c]
    rw [if_neg c, if_neg c]
    have h2 := h2 (Classical.not_not.1 c)
    by_cases c1 : (instrS xs r).1.op = 11
    · rw [if_pos c1, if_pos c1]
      by_cases c2 : (closeS (instrS xs r).2).1 = true
      · rw [if_pos c2, if_pos c2]
      · rw [if_neg c2, if_neg c2]
        exact readL_fuel hb n m _ _ ⟨by rw [closeS_pos]; exact h1.ok.p0, by rw [closeS_pos]; exact h1.ok.p1⟩ (by rw [closeS_pos]; omega) (by rw [closeS_pos]; omega)
    · rw [if_neg c1, if_neg c1]
      exact readL_fuel hb n m _ _ h1.ok (by omega) (by omega)
theorem readS_sh {xs ys : List Int} {p0 d : Int} (h : Tl xs ys p0 d) (hb : bytes xs) (hby : bytes ys) {p : Int} (hp : p0 <= p) (hp2 : p <= xs.length) : readS ys (p + d) = shO d (readS xs p) := by
  have h0 := h.q0
  have hd := h.d0
  have hl := h.len
  unfold readS
  rw [if_neg (by omega), if_neg (by omega)]
  rw [readL_fuel hby (ys.length + 1) (xs.length + 1) ⟨p + d, [], [], 0⟩ [] ⟨by show 0 <= p + d; omega, by show p + d <= _; omega⟩ (by show (ys.length : Int) - (p + d) + 1 <= _; omega) (by show (ys.length : Int) - (p + d) + 1 <= _; omega)]
  exact readL_sh h hb (xs.length + 1) ⟨p, [], [], 0⟩ [] ⟨⟨by show 0 <= p; omega, hp2⟩, hp⟩
end Go.Proofs.YtmomeejfopfchaaDoor
namespace Go.Proofs.YtmomeejfopfchaaDoor
set_option maxRecDepth 20000
open Go Go.Abs
def shE {α : Type} (d : Int) : Res α -> Res α
  | .ok (a, t) => .ok (a, t + d)
  | .error (e, t) => .error (e, t + d)
def Shf {α : Type} (xs : List Int) (p0 d : Int) (F G : Int -> Res α) : Prop := ∀ p : Int, p0 <= p -> p <= (xs.length : Int) -> G (p + d) = shE d (F p) /\ ∀ (a : α) (t : Int), F p = .ok (a, t) -> p <= t /\ t <= (xs.length : Int)
section
variable {α β : Type} {xs ys : List Int} {p0 d : Int}
theorem shf_bnd {F G : Int -> Res α} {f g : α -> Int -> Res β} (hF : Shf xs p0 d F G) (hf : ∀ a, Shf xs p0 d (f a) (g a)) : Shf xs p0 d (fun p => bnd (F p) f) (fun p => bnd (G p) g) := fun p h1 h2 => by
  obtain ⟨e, hm⟩ := hF p h1 h2
  show bnd (G (p + d)) g = shE d (bnd (F p) f) /\ ∀ a t, bnd (F p) f = .ok (a, t) -> _
  rw [e]
  rcases hx : F p with ⟨e, t⟩ | ⟨a, t⟩
  · exact ⟨rfl, fun a t h => by rw [bnd_err] at h; cases h⟩
  · obtain ⟨h3, h4⟩ := hm a t hx
    obtain ⟨e2, hm2⟩ := hf a t (by omega) h4
    refine ⟨e2, fun b q h => ?_⟩
    rw [bnd_ok] at h
    have := hm2 b q h
    omega
theorem shf_ok (a : α) : Shf xs p0 d (fun t => .ok (a, t)) (fun t => .ok (a, t)) := fun p h1 h2 => ⟨rfl, fun b t h => by cases h; omega⟩
theorem shf_err (e : Int) : Shf (α := α) xs p0 d (fun t => .error (e, t)) (fun t => .error (e, t)) := fun p h1 h2 => ⟨rfl, fun b t h => by cases h⟩
theorem shf_ite {c : Prop} [Decidable c] {F G F2 G2 : Int -> Res α} (h1 : Shf xs p0 d F G) (h2 : Shf xs p0 d F2 G2) : Shf xs p0 d (fun t => if c then F t else F2 t) (fun t => if c then G t else G2 t) := by
  by_cases h : c
  · simp only [if_pos h]; exact h1
  · simp only [if_neg h]; exact h2
theorem shf_must {c : Prop} [Decidable c] {F G : Int -> Res α} (h1 : Shf xs p0 d F G) : Shf xs p0 d (mustT c F) (mustT c G) := shf_ite h1 (shf_err 10)
theorem shf_byte (h : Tl xs ys p0 d) : Shf xs p0 d (byteT xs) (byteT ys) := fun p h1 h2 => by
  have hl := h.len
  unfold byteT
  rw [h.get h1]
  by_cases c : p >= xs.length
  · rw [if_pos c, if_pos (by omega)]; exact ⟨rfl, fun a t h => by cases h⟩
  · rw [if_neg c, if_neg (by omega), show p + d + 1 = p + 1 + d by omega]; exact ⟨rfl, fun a t h => by cases h; omega⟩
theorem shf_nm (h : Tl xs ys p0 d) : Shf xs p0 d (nmT xs) (nmT ys) := fun p h1 h2 => by
  have hl := h.len
  have h0 := h.q0
  refine ⟨?_, fun a t he => ?_⟩
  · unfold nmT
    rw [uSpec_sh h h1]
    by_cases c : (uSpec xs p 32).2.2 = 0
    · rw [if_pos c, if_neg (fun hh => hh rfl), if_neg (fun hh => hh c)]; rfl
    · rw [if_neg c, if_pos c, if_pos c]; rfl
  · have := nm_bnd ⟨by omega, h2⟩ he; omega
theorem shf_cnt (h : Tl xs ys p0 d) (m : Int) : Shf xs p0 d (cntT xs m) (cntT ys m) := shf_bnd (f := fun n t => if n > m then .error (3, t) else .ok (n, t)) (g := fun n t => if n > m then .error (3, t) else .ok (n, t)) (shf_nm h) fun n => shf_ite (shf_err 3) (shf_ok n)
theorem part_sh (h : Tl xs ys p0 d) {p : Int} (h1 : p0 <= p) (h2 : p <= xs.length) : partT ys (p + d) = match partT xs p with
    | .ok (s, t) => .ok (s + d, t + d)
    | .error (e, t) => .error (e, t + d) := by
  have hl := h.len
  unfold partT
  obtain ⟨e, hm⟩ := shf_nm h p h1 h2
  rw [e]
  rcases hx : nmT xs p with ⟨e, t⟩ | ⟨n, t⟩
  · rfl
  · unfold shE
    rw [bnd_ok, bnd_ok]
    unfold partN
    by_cases c : n > xs.length - t
    · rw [if_pos c, if_pos (by omega)]
    · rw [if_neg c, if_neg (by omega), show t + d + n = t + n + d by omega]
theorem part_in (hb : bytes xs) (h0 : 0 <= p0) {p s t : Int} (h1 : p0 <= p) (h2 : p <= xs.length) (he : partT xs p = .ok (s, t)) : p <= s /\ s <= t /\ t <= xs.length := by
  unfold partT at he
  obtain ⟨n, q, h3, h4⟩ := bndI he
  have h5 := nm_bnd ⟨by omega, h2⟩ h3
  have h6 := nm_nat hb ⟨by omega, h2⟩ h3
  unfold partN at h4
  split at h4
  · cases h4
  · cases h4; omega
theorem Tl.take (h : Tl xs ys p0 d) {t : Int} (ht : 0 <= t) (ht2 : t <= xs.length) : Tl (xs.take t.toNat) (ys.take (t + d).toNat) p0 d := by
  have hl := h.len
  have hd := h.d0
  refine ⟨h.d0, h.q0, ?_, fun p hp => ?_⟩
  · rw [List.length_take, List.length_take]; omega
  · have h0 := h.q0
    rw [List.drop_take, List.drop_take, h.tl p hp]
    congr 1; omega
theorem shf_bytes (h : Tl xs ys p0 d) (hb : bytes xs) : Shf xs p0 d (bytesT xs) (bytesT ys) := fun p h1 h2 => by
  unfold bytesT
  rw [part_sh h h1 h2]
  rcases hx : partT xs p with ⟨e, t⟩ | ⟨s, t⟩
  · exact ⟨rfl, fun a t h => by rw [bnd_err] at h; cases h⟩
  · have h3 := part_in hb h.q0 h1 h2 hx
    simp only
    rw [bnd_ok, bnd_ok, h.tl s (by omega), show t + d - (s + d) = t - s by omega]
    exact ⟨rfl, fun a q h => by cases h; omega⟩
theorem shf_name (h : Tl xs ys p0 d) (hb : bytes xs) : Shf xs p0 d (nameT xs) (nameT ys) :=
  shf_bnd (f := fun l t => if validS l = true then .ok (toS l, t) else .error (10, t)) (g := fun l t => if validS l = true then .ok (toS l, t) else .error (10, t)) (shf_bytes h hb) fun l => shf_ite (shf_ok _) (shf_err 10)
theorem shf_kind (h : Tl xs ys p0 d) : Shf xs p0 d (kindT xs) (kindT ys) :=
  shf_bnd (f := fun c t => if c = 127 \/ c = 126 \/ c = 123 then .ok (c, t) else if c = 125 \/ c = 124 then .error (11, t) else .error (10, t)) (g := fun c t => if c = 127 \/ c = 126 \/ c = 123 then .ok (c, t) else if c = 125 \/ c = 124 then .error (11, t) else .error (10, t)) (shf_byte h) fun c => shf_ite (shf_ok c) (shf_ite (shf_err 11) (shf_err 10))
theorem shf_lim (h : Tl xs ys p0 d) (m : Int) : Shf xs p0 d (limT xs m) (limT ys m) :=
  shf_bnd (f := fun f t => if f > 1 then .error (10, t) else bnd (cntT xs m t) fun n t => if f = 1 then bnd (nmT xs t) fun x t => .ok ((n, x), t) else .ok ((n, -1), t)) (g := fun f t => if f > 1 then .error (10, t) else bnd (cntT ys m t) fun n t => if f = 1 then bnd (nmT ys t) fun x t => .ok ((n, x), t) else .ok ((n, -1), t)) (shf_byte h)
    fun f => shf_ite (shf_err 10) (shf_bnd (f := fun n t => if f = 1 then bnd (nmT xs t) fun x t => .ok ((n, x), t) else .ok ((n, -1), t)) (g := fun n t => if f = 1 then bnd (nmT ys t) fun x t => .ok ((n, x), t) else .ok ((n, -1), t)) (shf_cnt h m) fun n => shf_ite (shf_bnd (shf_nm h) fun x => shf_ok _) (shf_ok _))
theorem shf_expr (h : Tl xs ys p0 d) (hb : bytes xs) (hby : bytes ys) : Shf xs p0 d (exprT xs) (exprT ys) := fun p h1 h2 => by
  have h0 := h.q0
  unfold exprT
  rw [readS_sh h hb hby h1 h2]
  unfold shO
  by_cases c : (readS xs p).2.2 = 0
  · rw [if_pos c, if_neg (fun hh => hh rfl), if_neg (fun hh => hh c)]
    refine ⟨rfl, fun a t he => ?_⟩
    have hr : readS xs p = readL xs (xs.length + 1) ⟨p, [], [], 0⟩ [] := if_neg (by omega)
    rw [hr] at c he
    have := readL_pos hb _ _ _ _ _ ⟨by show 0 <= p; omega, h2⟩ (Prod.ext rfl (Prod.ext rfl c))
    generalize readL xs (xs.length + 1) ⟨p, [], [], 0⟩ [] = z at this he
    obtain ⟨z1, z2, z3⟩ := z
    cases he
    simp only at this ⊢
    omega
  · rw [if_neg c, if_pos c, if_pos c]
    exact ⟨rfl, fun a t h => by cases h⟩
theorem shf_row {F G : Int -> Res α} (hF : Shf xs p0 d F G) : ∀ n, Shf xs p0 d (rowT F n) (rowT G n)
  | 0 => shf_ok []
  | n + 1 => shf_bnd (f := fun a t => bnd (rowT F n t) fun l t => .ok (a :: l, t)) (g := fun a t => bnd (rowT G n t) fun l t => .ok (a :: l, t)) hF fun a => shf_bnd (shf_row hF n) fun l => shf_ok _
theorem shf_rows (h : Tl xs ys p0 d) {F G : Int -> Res α} (hF : Shf xs p0 d F G) (m : Int) : Shf xs p0 d (rowsT xs m F) (rowsT ys m G) :=
  shf_bnd (α := Int) (f := fun (n : Int) t => rowT F n.toNat t) (g := fun (n : Int) t => rowT G n.toNat t) (shf_cnt h m) fun n => shf_row hF _
theorem shf_sig (h : Tl xs ys p0 d) : Shf xs p0 d (sigT xs) (sigT ys) :=
  shf_bnd (shf_byte h) fun c => shf_must (shf_bnd (shf_rows h (shf_kind h) 32) fun i => shf_bnd (shf_rows h (shf_kind h) 32) fun o => shf_ok _)
theorem shf_imp (h : Tl xs ys p0 d) (hb : bytes xs) : Shf xs p0 d (impT xs) (impT ys) :=
  shf_bnd (shf_name h hb) fun m => shf_bnd (shf_name h hb) fun n => shf_bnd (shf_byte h) fun c => shf_must (shf_bnd (shf_nm h) fun i => shf_ok _)
theorem shf_tab (h : Tl xs ys p0 d) : Shf xs p0 d (tabT xs) (tabT ys) :=
  shf_bnd (shf_byte h) fun c => shf_must (shf_lim h 1024)
theorem shf_glob (h : Tl xs ys p0 d) (hb : bytes xs) (hby : bytes ys) : Shf xs p0 d (globT xs) (globT ys) :=
  shf_bnd (shf_kind h) fun k => shf_bnd (shf_byte h) fun c => shf_must (shf_bnd (shf_expr h hb hby) fun e => shf_ok _)
theorem shf_exp (h : Tl xs ys p0 d) (hb : bytes xs) : Shf xs p0 d (expT xs) (expT ys) :=
  shf_bnd (shf_name h hb) fun n => shf_bnd (shf_byte h) fun c => shf_must (shf_bnd (shf_nm h) fun i => shf_ok _)
theorem shf_elem (h : Tl xs ys p0 d) (hb : bytes xs) (hby : bytes ys) : Shf xs p0 d (elemT xs) (elemT ys) :=
  shf_bnd (shf_nm h) fun c => shf_must (shf_bnd (shf_expr h hb hby) fun e => shf_bnd (shf_rows h (shf_nm h) 1024) fun f => shf_ok _)
theorem shf_data (h : Tl xs ys p0 d) (hb : bytes xs) (hby : bytes ys) : Shf xs p0 d (dataT xs) (dataT ys) :=
  shf_bnd (shf_nm h) fun c => shf_must (shf_bnd (shf_expr h hb hby) fun e => shf_bnd (shf_bytes h hb) fun f => shf_ok _)
theorem shf_runs (h : Tl xs ys p0 d) : ∀ (n : Nat) (l : List Int), Shf xs p0 d (runsT xs n l) (runsT ys n l)
  | 0, l => shf_ok l
  | n + 1, l => shf_bnd (α := Int) (f := fun (k : Int) t => bnd (kindT xs t) fun c t => runsT xs n (l ++ List.replicate k.toNat c) t) (g := fun (k : Int) t => bnd (kindT ys t) fun c t => runsT ys n (l ++ List.replicate k.toNat c) t) (shf_cnt h _) fun k => shf_bnd (shf_kind h) fun c => shf_runs h n _
theorem shf_done (h : Tl xs ys p0 d) (a : α) : Shf xs p0 d (doneT xs a) (doneT ys a) := fun p h1 h2 => by
  have hl := h.len
  unfold doneT mustT
  by_cases c : p = xs.length
  · rw [if_pos c, if_pos (by omega)]; exact ⟨rfl, fun a t h => by cases h; omega⟩
  · rw [if_neg c, if_neg (by omega)]; exact ⟨rfl, fun a t h => by cases h⟩
theorem shf_body (h : Tl xs ys p0 d) (hb : bytes xs) (hby : bytes ys) : Shf xs p0 d (bodyT xs) (bodyT ys) :=
  shf_bnd (α := Int) (f := fun (n : Int) t => bnd (runsT xs n.toNat [] t) fun l t => bnd (exprT xs t) fun c t => doneT xs (⟨l, c⟩ : MCode) t) (g := fun (n : Int) t => bnd (runsT ys n.toNat [] t) fun l t => bnd (exprT ys t) fun c t => doneT ys (⟨l, c⟩ : MCode) t) (shf_nm h) fun n => shf_bnd (shf_runs h _ _) fun l => shf_bnd (shf_expr h hb hby) fun c => shf_done h _
theorem in_sh (h : Tl xs ys p0 d) {F G : List Int -> Int -> Res α} {s t : Int} (hs : p0 <= s) (hst : s <= t) (ht : t <= xs.length) (hF : Tl (xs.take t.toNat) (ys.take (t + d).toNat) p0 d -> Shf (xs.take t.toNat) p0 d (F (xs.take t.toNat)) (G (ys.take (t + d).toNat))) : inT ys G (s + d) (t + d) = shE d (inT xs F s t) := by
  have h0 := h.q0
  have hl : ((xs.take t.toNat).length : Int) = t := by rw [List.length_take]; omega
  obtain ⟨e, _⟩ := hF (h.take (by omega) ht) s hs (by omega)
  unfold inT
  rw [e]
  rcases F (xs.take t.toNat) s with ⟨e, q⟩ | ⟨a, q⟩ <;> rfl
theorem in_le {F : List Int -> Int -> Res α} {s t q : Int} {a : α} (he : inT xs F s t = .ok (a, q)) : q = t := by
  unfold inT at he
  split at he <;> cases he
  rfl
theorem shf_code (h : Tl xs ys p0 d) (hb : bytes xs) (hby : bytes ys) : Shf xs p0 d (codeT xs) (codeT ys) := fun p h1 h2 => by
  unfold codeT
  rw [part_sh h h1 h2]
  rcases hx : partT xs p with ⟨e, t⟩ | ⟨s, t⟩
  · exact ⟨rfl, fun a t h => by rw [bnd_err] at h; cases h⟩
  · have h3 := part_in hb h.q0 h1 h2 hx
    simp only
    rw [bnd_ok, bnd_ok]
    refine ⟨in_sh h (by omega) h3.2.1 h3.2.2 (fun ht => shf_body ht (bytes_take hb _) (bytes_take hby _)), fun a q he => ?_⟩
    have := in_le he
    omega
theorem shf_sec (h : Tl xs ys p0 d) (hb : bytes xs) (hby : bytes ys) (id : Int) (m : Mod) : Shf xs p0 d (secT xs id m) (secT ys id m) := by
  have key : ∀ {α : Type} {F G : Int -> Res α} (k : α -> Mod), Shf xs p0 d F G -> Shf xs p0 d (fun p => bnd (F p) fun l t => .ok (k l, t)) (fun p => bnd (G p) fun l t => .ok (k l, t)) := fun k hF => shf_bnd hF fun a => shf_ok _
  intro p h1 h2
  unfold secT
  by_cases c1 : id = 1
  · rw [if_pos c1, if_pos c1]; exact key (fun l => { m with types := l }) (shf_rows h (shf_sig h) 256) p h1 h2
  rw [if_neg c1, if_neg c1]
  by_cases c2 : id = 2
  · rw [if_pos c2, if_pos c2]; exact key (fun l => { m with imports := l }) (shf_rows h (shf_imp h hb) 512) p h1 h2
  rw [if_neg c2, if_neg c2]
  by_cases c3 : id = 3
  · rw [if_pos c3, if_pos c3]; exact key (fun l => { m with funcs := l }) (shf_rows h (shf_nm h) 512) p h1 h2
  rw [if_neg c3, if_neg c3]
  by_cases c4 : id = 4
  · rw [if_pos c4, if_pos c4]; exact key (fun l => { m with tables := l }) (shf_rows h (shf_tab h) 512) p h1 h2
  rw [if_neg c4, if_neg c4]
  by_cases c5 : id = 5
  · rw [if_pos c5, if_pos c5]; exact key (fun l => { m with mems := l }) (shf_rows h (shf_lim h 16) 512) p h1 h2
  rw [if_neg c5, if_neg c5]
  by_cases c6 : id = 6
  · rw [if_pos c6, if_pos c6]; exact key (fun l => { m with globals := l }) (shf_rows h (shf_glob h hb hby) 512) p h1 h2
  rw [if_neg c6, if_neg c6]
  by_cases c7 : id = 7
  · rw [if_pos c7, if_pos c7]; exact key (fun l => { m with exports := l }) (shf_rows h (shf_exp h hb) 512) p h1 h2
  rw [if_neg c7, if_neg c7]
  by_cases c8 : id = 8
  · rw [if_pos c8, if_pos c8]; exact key (fun l => { m with start := l }) (shf_nm h) p h1 h2
  rw [if_neg c8, if_neg c8]
  by_cases c9 : id = 9
  · rw [if_pos c9, if_pos c9]; exact key (fun l => { m with elems := l }) (shf_rows h (shf_elem h hb hby) 512) p h1 h2
  rw [if_neg c9, if_neg c9]
  by_cases c10 : id = 10
  · rw [if_pos c10, if_pos c10]; exact key (fun l => { m with codes := l }) (shf_rows h (shf_code h hb hby) 512) p h1 h2
  rw [if_neg c10, if_neg c10]
  by_cases c11 : id = 11
  · rw [if_pos c11, if_pos c11]; exact key (fun l => { m with datas := l }) (shf_rows h (shf_data h hb hby) 512) p h1 h2
  rw [if_neg c11, if_neg c11]
  exact shf_ok m p h1 h2
theorem sec1_sh (h : Tl xs ys p0 d) (hb : bytes xs) (hby : bytes ys) (last : Int) (m : Mod) {p : Int} (h1 : p0 <= p) (h2 : p <= xs.length) : sec1 ys last m (p + d) = shE d (sec1 xs last m p) := by
  unfold sec1
  obtain ⟨e, hm⟩ := shf_byte h p h1 h2
  rw [e]
  rcases hx : byteT xs p with ⟨e, t⟩ | ⟨id, t⟩
  · rfl
  unfold shE
  rw [bnd_ok, bnd_ok]
  obtain ⟨h3, h4⟩ := hm id t hx
  rw [part_sh h (by omega) h4]
  rcases hy : partT xs t with ⟨e, q⟩ | ⟨s, q⟩
  · rfl
  have h5 := part_in hb h.q0 (show p0 <= t by omega) h4 hy
  simp only
  rw [bnd_ok, bnd_ok]
  by_cases c : id = 0
  · rw [if_pos c, if_pos c]
    exact in_sh h (by omega) h5.2.1 h5.2.2 fun ht => shf_bnd (shf_name ht (bytes_take hb _)) fun _ => shf_ok _
  · rw [if_neg c, if_neg c]
    exact in_sh h (by omega) h5.2.1 h5.2.2 fun ht => shf_must (shf_bnd (shf_sec ht (bytes_take hb _) (bytes_take hby _) id m) fun m2 => shf_done ht _)
theorem run_sh (h : Tl xs ys p0 d) (hb : bytes xs) (hby : bytes ys) {last : Int} {m : Mod} {p l2 : Int} {m2 : Mod} {q : Int} {ps : List Int} (hr : Run xs last m p ps l2 m2 q) : p0 <= p -> ∃ ps2, Run ys last m (p + d) ps2 l2 m2 (q + d) := by
  induction hr with
  | nil last m p => exact fun _ => ⟨_, .nil _ _ _⟩
  | @cons last m p l1 m1 t ps l2 m2 q hs hr ih =>
    intro hp
    have h0 := h.q0
    have h1 := sec1_lt hb (by omega) hs
    obtain ⟨id, k, s, hS, _, _⟩ := sec1_inv hs
    have h2 := hS.lt
    obtain ⟨ps2, h3⟩ := ih (by omega)
    exact ⟨_, .cons (by rw [sec1_sh h hb hby _ _ hp (by omega), hs]; rfl) h3⟩
end
end Go.Proofs.YtmomeejfopfchaaDoor
namespace Go.Proofs.YtmomeejfopfchaaDoor
set_option maxRecDepth 20000
open Go Go.Abs
theorem getD_drop {l : List Int} {k : Nat} {x : Int} {z : List Int} (h : l.drop k = x :: z) : l.getD k 0 = x /\ l.drop (k + 1) = z /\ k < l.length := by
  have hk : k < l.length := by
    apply Classical.byContradiction; intro hn
    rw [List.drop_of_length_le (by omega)] at h; cases h
  rw [List.drop_eq_getElem_cons hk] at h
  obtain ⟨h1, h2⟩ := List.cons.inj h
  exact ⟨by rw [List.getD_eq_getElem?_getD, List.getElem?_eq_getElem hk, Option.getD_some, h1], h2, hk⟩
theorem nm_small {c : List Int} {p : Int} {x : Int} {z : List Int} (hp : 0 <= p) (h : c.drop p.toNat = x :: z) (hx : 0 <= x /\ x < 128) : nmT c p = .ok (x, p + 1) := by
  have hk := (getD_drop h).2.2
  have e : uRd 32 (x :: z) 0 0 p = (x, p + 1, 0) := by
    rw [uRd, if_neg (by rintro (⟨h, _⟩ | ⟨h, _⟩) <;> omega), if_pos hx.2]
    simp only [Int.pow_zero, Int.mul_one, Int.zero_add]
    rw [show x % 128 = x by omega]
  unfold nmT
  rw [uSpec_in (by omega), h, e, if_neg (fun hh => hh rfl)]
theorem sec1_pad {c : List Int} {last : Int} {m : Mod} {k n wl : Nat} {w z : List Int} (h : c.drop k = 0 :: (n : Int) :: (wl : Int) :: (w ++ z)) (hw : w.length = wl) (hwl : wl < 128) (hn : n < 128) (hn1 : 1 + wl <= n) (hn2 : n <= 1 + wl + z.length) :
    sec1 c last m k = if validS w = true then .ok ((last, m), (k : Int) + 2 + n) else .error (10, (k : Int) + 2 + n) := by
  obtain ⟨g1, h1, l1⟩ := getD_drop h
  obtain ⟨g2, h2, l2⟩ := getD_drop h1
  obtain ⟨g3, h3, l3⟩ := getD_drop h2
  have hcl : c.length = k + 3 + (wl + z.length) := by
    have := congrArg List.length h
    rw [List.length_drop] at this
    simp only [List.length_cons, List.length_append] at this
    omega
  have hn9 : nmT c ((k : Int) + 1) = .ok ((n : Int), (k : Int) + 2) := by
    have := nm_small (c := c) (p := (k : Int) + 1) (x := (n : Int)) (by omega) (by rw [show ((k : Int) + 1).toNat = k + 1 by omega]; exact h1) (by omega)
    rw [this]; congr 2
  have hys : ((k : Int) + 2 + n).toNat = k + 2 + n := by omega
  obtain ⟨ys, hy⟩ : ∃ ys, c.take (k + 2 + n) = ys := ⟨_, rfl⟩
  have hyl : ys.length = k + 2 + n := by rw [<- hy, List.length_take]; omega
  have hyd : ys.drop (k + 2) = (wl : Int) :: (w ++ z).take (n - 1) := by
    rw [<- hy, List.drop_take, h2, show k + 2 + n - (k + 2) = (n - 1) + 1 by omega, List.take_succ_cons]
  have hyd3 : ys.drop (k + 3) = (w ++ z).take (n - 1) := (getD_drop hyd).2.1
  have hn3 : nmT ys ((k : Int) + 2) = .ok ((wl : Int), (k : Int) + 3) := by
    have := nm_small (c := ys) (p := (k : Int) + 2) (x := (wl : Int)) (by omega) (by rw [show ((k : Int) + 2).toNat = k + 2 by omega]; exact hyd) (by omega)
    rw [this]; congr 2
  have hnm : nameT ys ((k : Int) + 2) = if validS w = true then .ok (toS w, (k : Int) + 3 + wl) else .error (10, (k : Int) + 3 + wl) := by
    unfold nameT bytesT partT partN
    rw [hn3, bnd_ok, if_neg (by omega), bnd_ok, bnd_ok]
    have e : (ys.drop ((k : Int) + 3).toNat).take ((k : Int) + 3 + wl - ((k : Int) + 3)).toNat = w := by
      rw [show ((k : Int) + 3).toNat = k + 3 by omega, show ((k : Int) + 3 + wl - ((k : Int) + 3)).toNat = wl by omega, hyd3, List.take_take, Nat.min_eq_left (by omega), List.take_append_of_le_length (by omega), List.take_of_length_le (by omega)]
    rw [e]
  unfold sec1 byteT
  rw [if_neg (by omega), bnd_ok, Int.toNat_natCast, g1]
  unfold partT partN
  rw [hn9, bnd_ok, if_neg (by omega), bnd_ok, if_pos rfl]
  unfold inT
  rw [hys, hy]
  simp only
  rw [hnm]
  by_cases hv : validS w = true
  · rw [if_pos hv, if_pos hv]; rfl
  · rw [if_neg hv, if_neg hv]; rfl
theorem head_of {b c : List Int} {k : Nat} (hkb : k <= b.length) (hc : c.take k = b.take k) (hkc : k <= c.length) (h8 : 8 <= k) (hh : headT b hd8 0 = .ok ((), 8)) : headT c hd8 0 = .ok ((), 8) := (head_agree hkb hc hkc hd8 0 (Int.le_refl _) (by simp; omega)).trans hh
theorem pad_in {b : List Int} (hb : bytes b) {m : Mod} {ps : List Int} {l2 : Int} (hh : headT b hd8 0 = .ok ((), 8)) (h8 : 8 <= b.length) (hr : Run b 0 modS 8 ps l2 m b.length) (hcf : m.codes.length = m.funcs.length) {k : Nat} (hk : (k : Int) ∈ ps) {n wl : Nat} {w z : List Int} (hw : w.length = wl) (hbw : bytes (w ++ z)) (hwl : wl < 128) (hn : n < 128) (hn1 : 1 + wl <= n) (hn2 : n = 1 + wl + z.length)
    (hl : (b.take k ++ (0 :: (n : Int) :: (wl : Int) :: (w ++ z)) ++ b.drop k).length <= 16384) :
    decS (b.take k ++ (0 :: (n : Int) :: (wl : Int) :: (w ++ z)) ++ b.drop k) = if validS w = true then (m, 0) else (mod0, 10) := by
  obtain ⟨i, hi, hie⟩ := List.getElem_of_mem hk
  obtain ⟨l1, m1, ps1, ps2, h1, h2, h3⟩ := run_split hr i hi
  rw [hie] at h1 h2
  have hkb := run_bnd h1 hb ⟨by omega, by omega⟩
  have hA : (b.take k).length = k := by rw [List.length_take]; omega
  obtain ⟨C, hC⟩ : ∃ C, b.take k ++ (0 :: (n : Int) :: (wl : Int) :: (w ++ z)) ++ b.drop k = C := ⟨_, rfl⟩
  have hPl : (0 :: (n : Int) :: (wl : Int) :: (w ++ z)).length = n + 2 := by simp only [List.length_cons, List.length_append]; omega
  have hCl : C.length = b.length + (n + 2) := by rw [<- hC, List.length_append, List.length_append, hA, hPl, List.length_drop]; omega
  have hCt : C.take k = b.take k := by rw [<- hC, List.append_assoc, List.take_append_of_le_length (by omega), List.take_take, Nat.min_self]
  have hCd : C.drop k = (0 :: (n : Int) :: (wl : Int) :: (w ++ (z ++ b.drop k))) := by
    rw [<- hC, List.append_assoc, List.drop_append_of_le_length (by omega), List.drop_of_length_le (by omega), List.nil_append]
    simp only [List.cons_append, List.append_assoc]
  have hCd2 : C.drop (k + (n + 2)) = b.drop k := by
    rw [<- hC, List.drop_append, List.length_append, hA, hPl, List.drop_of_length_le (by rw [List.length_append, hA, hPl]; omega), List.nil_append, Nat.sub_self, List.drop_zero]
  have hbC : bytes C := by
    intro x hx
    rw [<- hC] at hx
    rcases List.mem_append.1 hx with hx | hx
    · rcases List.mem_append.1 hx with hx | hx
      · exact hb x (List.mem_of_mem_take hx)
      · simp only [List.mem_cons] at hx
        rcases hx with rfl | rfl | rfl | hx
        · exact ⟨by omega, by omega⟩
        · exact ⟨by omega, by omega⟩
        · exact ⟨by omega, by omega⟩
        · exact hbw x hx
    · exact hb x (List.mem_of_mem_drop hx)
  rw [hC] at hl ⊢
  have hrC := run_agree h1 hb (k := k) (by omega) hCt (by omega) (by omega) (Int.le_refl _)
  have hhC := head_of (b := b) (c := C) (k := k) (by omega) hCt (by omega) (by omega) hh
  have hsec := sec1_pad (last := l1) (m := m1) hCd hw hwl hn hn1 (by rw [List.length_append]; omega)
  rw [dec_any hl]
  by_cases hv : validS w = true
  · rw [if_pos hv] at hsec ⊢
    have hT : Tl b C k ((n : Int) + 2) := ⟨by omega, by omega, by omega, fun p hp => by
      obtain ⟨j, rfl⟩ : ∃ j : Nat, p = k + j := ⟨(p - k).toNat, by omega⟩
      rw [show ((k : Int) + j + ((n : Int) + 2)).toNat = k + (n + 2) + j by omega, <- List.drop_drop, hCd2, List.drop_drop]; congr 1⟩
    obtain ⟨ps3, h4⟩ := run_sh hT hb hbC h2 (Int.le_refl _)
    have h5 : Run C l1 m1 k (k :: ps3) l2 m ((b.length : Int) + ((n : Int) + 2)) := .cons hsec (by rw [show (k : Int) + 2 + n = k + ((n : Int) + 2) by omega]; exact h4)
    obtain ⟨ps4, h6⟩ := run_join hrC h5
    rw [show (b.length : Int) + ((n : Int) + 2) = (C.length : Int) by omega] at h6
    rw [any_end hbC hhC (by omega) h6, if_pos hcf]
  · rw [if_neg hv] at hsec ⊢
    rw [any_bad hbC hhC (by omega) hrC (by omega) hsec]
theorem pad_short {b : List Int} (hb : bytes b) (hl : b.length <= 16000) {m : Mod} {ps : List Int} {l2 : Int} (hh : headT b hd8 0 = .ok ((), 8)) (h8 : 8 <= b.length) (hr : Run b 0 modS 8 ps l2 m b.length) : decS (b ++ [0, 2, 1]) = (mod0, 10) := by
  have ht : (b ++ [0, 2, 1]).take b.length = b.take b.length := by rw [List.take_append_of_le_length (Nat.le_refl _)]
  have hCl : (b ++ [0, 2, 1]).length = b.length + 3 := by simp
  have hbC : bytes (b ++ [0, 2, 1]) := by
    intro x hx
    rcases List.mem_append.1 hx with hx | hx
    · exact hb x hx
    · simp only [List.mem_cons, List.not_mem_nil, or_false] at hx
      rcases hx with rfl | rfl | rfl <;> exact ⟨by decide, by decide⟩
  have hrC := run_agree hr hb (k := b.length) (Nat.le_refl _) ht (by omega) (by omega) (Int.le_refl _)
  have hhC := head_of (b := b) (c := b ++ [0, 2, 1]) (k := b.length) (Nat.le_refl _) ht (by omega) (by omega) hh
  have hd : (b ++ [0, 2, 1]).drop b.length = [0, 2, 1] := by rw [List.drop_append_of_le_length (Nat.le_refl _), List.drop_length]; rfl
  obtain ⟨g1, h1, _⟩ := getD_drop hd
  have hn : nmT (b ++ [0, 2, 1]) ((b.length : Int) + 1) = .ok (2, (b.length : Int) + 1 + 1) := nm_small (by omega) (by rw [show ((b.length : Int) + 1).toNat = b.length + 1 by omega]; exact h1) ⟨by decide, by decide⟩
  have hE : sec1 (b ++ [0, 2, 1]) l2 m b.length = .error (10, (b.length : Int) + 1 + 1) := by
    unfold sec1 byteT
    rw [if_neg (by omega), bnd_ok]
    unfold partT partN
    rw [hn, bnd_ok, if_pos (by omega)]; rfl
  rw [dec_any (by omega), any_bad hbC hhC (by omega) hrC (by omega) hE]
end Go.Proofs.YtmomeejfopfchaaDoor
namespace Go.Abs
set_option maxRecDepth 20000
open Go Go.RowKit
section
variable {P : Program} {st : St} {Q : Exit -> St -> Prop} {ops : Array Oper} {rest : List Oper} {o : Oper}
theorem AWL.callQ {f : FuncId} {args : Array Operand} {argTypes : Array TypeId} {d : Nat} {vs : List V} {R : V -> List (Nat × List V) -> Prop} (hg : o.guard = none) (ho : o.op = .call { callee := .value (.func f), args, argTypes }) (hd : o.dst = some d) (hf : callable P f = true)
    (hdn : d < st.n) (hargs : (args.toList.map fun x => st.vw (st.ev x)) = vs) (hAC : AC P f vs R) (hfl : vs.all flatV = true)
    (k : ∀ r m, R r m -> (noViews r /\ ∀ k cs, (k, cs) ∈ m -> ∀ v ∈ cs, noView v) /\ AWL P ops rest Q ((st.adoptL d m).put d (shiftV d 4 r))) : AWL P ops (o :: rest) Q st := by
  subst hargs; exact AWL.callS hg ho hd hf hdn hfl hAC k
end
end Go.Abs
