/- The document's UTF-8. -/
import Derived.Test.YtimhmpdfioihlaaGreatDoorDP
import Derived.Test.YtimhmpdfioihlaaGreatDoorGWords
import Derived.Test.YtimhmpdfioihlaaGreatDoorGCB
import Derived.Test.YtimhmpdfioihlaaGreatDoorGXP
set_option linter.unusedSimpArgs false
set_option linter.unusedVariables false
set_option maxHeartbeats 12800000
namespace Go.Proofs.YtimhmpdfioihlaaGreatDoor
set_option maxRecDepth 20000
open Go Go.Abs Nat
section
def ZeZ : List Int -> Nat -> Int -> Option Int
 | _, 0, c => some c
 | [], _ + 1, _ => none
 | y :: l, n + 1, c => if 128 <= y /\ y <= 191 then ZeZ l n (c * 64 + y - 128) else none
def ZhB (low v : Int) : Bool := !(decide (v < low) || decide (v > 1114111) || (decide (v >= 55296) && decide (v <= 57343)))
def ZfR (n : Nat) (c low : Int) (l : List Int) : Option Nat := if n + 1 > l.length + 1 then none else match ZeZ l n c with
 | none => none
 | some v => if ZhB low v = true then some (n + 1) else none
theorem ZcM (low v : Int) : ZhB low v = true ↔ low <= v /\ v <= 1114111 /\ ¬ (55296 <= v /\ v <= 57343) := by
 unfold ZhB
 simp only [Bool.not_eq_true', Bool.or_eq_false_iff, decide_eq_false_iff_not, Bool.and_eq_false_iff]
 omega
theorem ZuB (low c : Int) (l : List Int) : ZfR 1 c low l = match l with
 | [] => none
 | y :: _ => if 128 <= y /\ y <= 191 /\ ZhB low (c * 64 + y - 128) = true then some 2 else none := by
 unfold ZfR
 rcases l with _ | ⟨y, l⟩
 ·rfl
 ·rw [if_neg (by simp)]
  simp only [ZeZ]
  by_cases h : 128 <= y /\ y <= 191
  ·rw [if_pos h]
   simp only
   by_cases h2 : ZhB low (c * 64 + y - 128) = true
   ·rw [if_pos h2, if_pos ⟨h.1, h.2, h2⟩]
   ·rw [if_neg h2, if_neg (fun h => h2 h.2.2)]
  ·rw [if_neg h, if_neg (fun hh => h ⟨hh.1, hh.2.1⟩)]
theorem ZuC (low c : Int) (l : List Int) : ZfR 2 c low l = match l with
 | y :: z :: _ => if (128 <= y /\ y <= 191) /\ (128 <= z /\ z <= 191) /\ ZhB low ((c * 64 + y - 128) * 64 + z - 128) = true then some 3 else none
 | _ => none := by
 unfold ZfR
 rcases l with _ | ⟨y, _ | ⟨z, l⟩⟩
 ·rfl
 ·rfl
 ·rw [if_neg (by simp)]
  simp only [ZeZ]
  by_cases h : 128 <= y /\ y <= 191
  ·rw [if_pos h]
   by_cases h1 : 128 <= z /\ z <= 191
   ·rw [if_pos h1]
    simp only
    by_cases h2 : ZhB low ((c * 64 + y - 128) * 64 + z - 128) = true
    ·rw [if_pos h2, if_pos ⟨h, h1, h2⟩]
    ·rw [if_neg h2, if_neg (fun h => h2 h.2.2)]
   ·rw [if_neg h1, if_neg (fun hh => h1 hh.2.1)]
  ·rw [if_neg h, if_neg (fun hh => h hh.1)]
theorem ZnP (low c : Int) (l : List Int) : ZfR 3 c low l = match l with
 | y :: z :: u :: _ => if (128 <= y /\ y <= 191) /\ (128 <= z /\ z <= 191) /\ (128 <= u /\ u <= 191) /\ ZhB low (((c * 64 + y - 128) * 64 + z - 128) * 64 + u - 128) = true then some 4 else none
 | _ => none := by
 unfold ZfR
 rcases l with _ | ⟨y, _ | ⟨z, _ | ⟨u, l⟩⟩⟩
 ·rfl
 ·rfl
 ·rfl
 ·rw [if_neg (by simp)]
  simp only [ZeZ]
  by_cases h : 128 <= y /\ y <= 191
  ·rw [if_pos h]
   by_cases h1 : 128 <= z /\ z <= 191
   ·rw [if_pos h1]
    by_cases h3 : 128 <= u /\ u <= 191
    ·rw [if_pos h3]
     simp only
     by_cases h2 : ZhB low (((c * 64 + y - 128) * 64 + z - 128) * 64 + u - 128) = true
     ·rw [if_pos h2, if_pos ⟨h, h1, h3, h2⟩]
     ·rw [if_neg h2, if_neg (fun h => h2 h.2.2.2)]
    ·rw [if_neg h3, if_neg (fun hh => h3 hh.2.2.1)]
   ·rw [if_neg h1, if_neg (fun hh => h1 hh.2.1)]
  ·rw [if_neg h, if_neg (fun hh => h hh.1)]
theorem ZkP {p q : Prop} [Decidable p] [Decidable q] {α : Type} {a b : α} (h : p ↔ q) : (if p then a else b) = if q then a else b := by
 by_cases hp : p
 ·rw [if_pos hp, if_pos (h.1 hp)]
 ·rw [if_neg hp, if_neg (fun hq => hp (h.2 hq))]
theorem ZuD {c : Int} (hc : Zgi c) {l : List Int} (hb : bytes l) : Zg6 (c :: l) = if c < 128 then some 1 else if 194 <= c /\ c <= 223 then ZfR 1 (c - 192) 128 l else if 224 <= c /\ c <= 239 then ZfR 2 (c - 224) 2048 l else if 240 <= c /\ c <= 244 then ZfR 3 (c - 240) 65536 l else none := by
 rw [ZuB, ZuC, ZnP]
 unfold Zg6
 simp only
 by_cases h1 : c < 128
 ·rw [if_pos h1, if_pos h1]
 rw [if_neg h1, if_neg h1]
 by_cases h2 : 194 <= c /\ c <= 223
 ·rw [if_pos h2, if_pos h2]
  rcases l with _ | ⟨y, l⟩
  ·rfl
  ·simp only [Yag, List.getD_cons_zero, ZcM]
   exact ZkP (by omega)
 rw [if_neg h2, if_neg h2]
 by_cases h3 : 224 <= c /\ c <= 239
 ·rw [if_pos h3, if_pos h3]
  rcases l with _ | ⟨y, _ | ⟨z, l⟩⟩
  ·rfl
  ·rw [if_neg (by simp)]
  ·have hy := hb y (by simp)
   have hz := hb z (by simp)
   simp only [Yag, List.getD_cons_zero, List.getD_cons_succ, ZcM]
   refine ZkP ?_
   have e1 : c = 224 \/ c ≠ 224 := by omega
   have e2 : c = 237 \/ c ≠ 237 := by omega
   rcases e1 with e1 | e1
   ·rw [if_pos e1, if_neg (show ¬ c = 237 by omega)]; omega
   ·rw [if_neg e1]
    rcases e2 with e2 | e2
    ·rw [if_pos e2]; omega
    ·rw [if_neg e2]; omega
 rw [if_neg h3, if_neg h3]
 by_cases h4 : 240 <= c /\ c <= 244
 ·rw [if_pos h4, if_pos h4]
  rcases l with _ | ⟨y, _ | ⟨z, _ | ⟨u, l⟩⟩⟩
  ·rfl
  ·rw [if_neg (by simp)]
  ·rw [if_neg (by simp)]
  ·have hy := hb y (by simp)
   have hz := hb z (by simp)
   have hu := hb u (by simp)
   simp only [Yag, List.getD_cons_zero, List.getD_cons_succ, ZcM]
   refine ZkP ?_
   have e1 : c = 240 \/ c ≠ 240 := by omega
   have e2 : c = 244 \/ c ≠ 244 := by omega
   rcases e1 with e1 | e1
   ·rw [if_pos e1, if_neg (show ¬ c = 244 by omega)]; omega
   ·rw [if_neg e1]
    rcases e2 with e2 | e2
    ·rw [if_pos e2]; omega
    ·rw [if_neg e2]; omega
 ·rw [if_neg h4, if_neg h4]
def Tu (l : List Int) (i : Nat) : St := { n := 106, slots := [(0, .view l.length 1 (Zh .u8 l)), (3, .int .i64 (i : Int))], mem := [] }
def Tv (l : List Int) (i : Nat) (c : Int) (n : Nat) (low : Int) (k : Nat) : St := { n := 106, slots := [(0, .view l.length 1 (Zh .u8 l)), (3, .int .i64 (i : Int)), (4, .int .i64 c), (5, .int .i64 (n : Int)), (6, .int .i64 low), (7, .int .i64 (k : Int))], mem := [] }
def bnU : Nat -> Int
 | 0 => 32
 | k + 1 => 64 * bnU k
theorem ZkQ {k : Nat} (h : 1 <= k) : bnU k = 64 * bnU (k - 1) := by
 obtain ⟨j, rfl⟩ : ∃ j, k = j + 1 := ⟨k - 1, by omega⟩
 rfl
theorem ZuE {k : Nat} (h : k <= 3) : bnU k <= 8388608 := by
 rcases k with _ | _ | _ | _ | k
 ·decide
 ·decide
 ·decide
 ·decide
 ·omega
attribute [local irreducible] AW AWL AC FW CW CWr IntKind.wrap
theorem ZDT.NM : type_of% @MB.NM /\ type_of% @Tu.eq_1 /\ type_of% @Tv.eq_1 :=
 ⟨MB.NM, @Tu.eq_1, @Tv.eq_1⟩
open ZDT
theorem ZBr.kp : type_of% (@Zs [0, 2, 3, 4, 5, 6, 7]) := @Zs [0, 2, 3, 4, 5, 6, 7]
open ZBr Zl in
theorem ZBs (l : List Int) (hb : bytes l) (hl : l.length <= 100000000) : AC Tryz.prog 121 [.view l.length 1 (Zh .u8 l)] (fun r m => r = .bool (ZaU l) /\ m = []) := by
 obtain ⟨A, hA⟩ : ∃ A, ZaU l = A := ⟨_, rfl⟩
 rw [hA]
 refine AC.enter Tryz.func121 rfl (Yaa rfl) ?_
 simp only [Tryz.f121]
 have nx := trivial
 refine' Zr
 refine AW.loop [0, 3] [] (fun m st => ∃ i : Nat, st = Tu l i /\ i <= l.length /\ ZaU (l.drop i) = A /\ m = l.length - i) ?_ ?_
 ·exact ⟨_, 0, rfl, Nat.zero_le _, hA, rfl⟩
 clear hA
 rintro m st ⟨i, rfl, hi, hA, rfl⟩
 by_cases hil : i < l.length
 case neg =>
  have d0 : decide ((i : Int) < (l.length : Int)) = false := Yaf (by omega)
  rw [Ya7 (by omega), ZjI] at hA
  subst hA
  have nx := aI @d0 trivial
  refine' Zr
  all_goals first | exact ⟨trivial, trivial⟩ | exact ⟨rfl, trivial⟩ | exact ⟨rfl, rfl⟩ | exact ⟨trivial, rfl⟩ | (exfalso; omega) | trace_state
 have d0 : decide ((i : Int) < (l.length : Int)) = true := Yae (by omega)
 have hdr : l.drop i = l.getD i 0 :: l.drop (i + 1) := Zcq hil
 have hc := hb _ (Z8 hil)
 have hbd : bytes (l.drop (i + 1)) := fun x hx => hb x (List.mem_of_mem_drop hx)
 rw [hdr, ZfN (List.cons_ne_nil _ _), ZuD hc hbd] at hA
 generalize hx : l.getD i 0 = c at hA hc
 have ec : IntKind.i64.wrap c = c := Zb _ (by have := hc.1; omega) (by have := hc.2; omega)
 have ei : IntKind.i64.wrap ((i : Int) + 1) = ((i + 1 : Nat) : Int) := Zb _ (by omega) (by omega)
 by_cases h1 : c < 128
 ·have d1 : decide (c < 128) = true := Yae h1
  rw [if_pos h1] at hA
  have hA : ZaU ((c :: l.drop (i + 1)).drop 1) = A := hA
  rw [List.drop_succ_cons, List.drop_zero] at hA
  have nx := aI @d0 (aI @hx (aI @ec (aI @ei (aI @d1 trivial))))
  refine' Zr
  all_goals first
   | exact ⟨l.length - (i + 1), by omega, i + 1, rfl, by omega, hA, rfl⟩
 rw [if_neg h1] at hA
 have d1 : decide (c < 128) = false := Yaf h1
 by_cases hr : 194 <= c /\ c <= 244
 ·have g1 : decide (c >= 194) = true := Yae hr.1
  have g6 : decide (c <= 244) = true := Yae hr.2
  obtain ⟨n, N, low, off, hN, hn1, hn3, ho1, hX, hcs⟩ : ∃ (n : Nat) (N low off : Int), N = n /\ 1 <= n /\ n <= 3 /\ (0 <= c - off /\ c - off < 32) /\ (if 194 <= c /\ c <= 223 then ZfR 1 (c - 192) 128 (l.drop (i + 1)) else if 224 <= c /\ c <= 239 then ZfR 2 (c - 224) 2048 (l.drop (i + 1)) else if 240 <= c /\ c <= 244 then ZfR 3 (c - 240) 65536 (l.drop (i + 1)) else none) = ZfR n (c - off) low (l.drop (i + 1)) /\ ((n = 1 /\ N = 1 /\ low = 128 /\ off = 192 /\ c <= 223) \/ (n = 2 /\ N = 2 /\ low = 2048 /\ off = 224 /\ 224 <= c /\ c <= 239) \/ (n = 3 /\ N = 3 /\ low = 65536 /\ off = 240 /\ 240 <= c)) := by
   by_cases a1 : c <= 223
   ·exact ⟨1, 1, 128, 192, rfl, by omega, by omega, by omega, if_pos ⟨hr.1, a1⟩, .inl ⟨rfl, rfl, rfl, rfl, a1⟩⟩
   ·by_cases a2 : c <= 239
    ·exact ⟨2, 2, 2048, 224, rfl, by omega, by omega, by omega, by rw [if_neg (by omega), if_pos (by omega)], .inr (.inl ⟨rfl, rfl, rfl, rfl, by omega, a2⟩)⟩
    ·exact ⟨3, 3, 65536, 240, rfl, by omega, by omega, by omega, by rw [if_neg (by omega), if_neg (by omega), if_pos (by omega)], .inr (.inr ⟨rfl, rfl, rfl, rfl, by omega⟩)⟩
  rw [hX] at hA
  clear hX hr
  have e4 : IntKind.i64.wrap (c - off) = c - off := Zb _ (by omega) (by omega)
  have en : IntKind.i64.wrap ((i : Int) + N) = ((i + n : Nat) : Int) := by rw [hN]; exact Zb _ (by omega) (by omega)
  have hdrop : (c :: l.drop (i + 1)).drop (n + 1) = l.drop (i + n + 1) := by
   rw [List.drop_succ_cons, List.drop_drop]
   all_goals (congr 1; omega)
  obtain ⟨c0, hc0e⟩ : ∃ c0, c - off = c0 := ⟨_, rfl⟩
  rw [hc0e] at hA ho1
  rcases hcs with ⟨hn, hN1, hl1, ho, a⟩ | ⟨hn, hN1, hl1, ho, a, a2⟩ | ⟨hn, hN1, hl1, ho, a⟩
  case' inl =>
   have g2 : decide (c <= 223) = true := Yae a
   have g3 : True := trivial
   have g4 : True := trivial
   have g5 : True := trivial
  case' inr.inl =>
   have g2 : decide (c <= 223) = false := Yaf (by omega)
   have g3 : decide (c >= 224) = true := Yae a
   have g4 : decide (c <= 239) = true := Yae a2
   have g5 : True := trivial
   clear a2
  case' inr.inr =>
   have g2 : decide (c <= 223) = false := Yaf (by omega)
   have g3 : decide (c >= 224) = true := Yae (by omega)
   have g4 : decide (c <= 239) = false := Yaf (by omega)
   have g5 : decide (c >= 240) = true := Yae a
  all_goals
   rw [ho] at e4
   rw [hN1] at en
   by_cases hlen : i + n < l.length
   case neg =>
    rw [ZfR, if_pos (by rw [Yaw]; omega)] at hA
    simp only at hA
    subst hA
    have dl : decide (((i + n : Nat) : Int) >= (l.length : Int)) = true := Yae (by omega)
    have nx := aI @d0 (aI @hx (aI @ec (aI @d1 (aI @g1 (aI @g2 (aI @g3 (aI @g4 (aI @g5 (aI @g6 (aI @e4 (aI @en (aI @dl trivial))))))))))))
    refine' Zr
    all_goals first | exact ⟨trivial, trivial⟩ | exact ⟨rfl, trivial⟩ | exact ⟨rfl, rfl⟩ | exact ⟨trivial, rfl⟩ | (exfalso; omega) | trace_state
   have dl : decide (((i + n : Nat) : Int) >= (l.length : Int)) = false := Yaf (by omega)
   rw [ZfR, if_neg (by rw [Yaw]; omega)] at hA
   obtain ⟨R, hR⟩ : ∃ R, ZeZ (l.drop (i + 1)) n c0 = R := ⟨_, rfl⟩
   rw [hR] at hA
   have nx := aI @d0 (aI @hx (aI @ec (aI @d1 (aI @g1 (aI @g2 (aI @g3 (aI @g4 (aI @g5 (aI @g6 (aI @e4 (aI @en (aI @dl trivial))))))))))))
   refine' Zr
   clear hdr hx hc ec e4 hbd dl en d0 d1 h1 a g1 g2 g3 g4 g5 g6
   refine AW.loop [0, 3, 4, 5, 6, 7] [] (fun m st => ∃ (k : Nat) (v : Int), st = Tv l i v n low k /\ 1 <= k /\ k <= n + 1 /\ 0 <= v /\ v < bnU (k - 1) /\ ZeZ (l.drop (i + k)) (n + 1 - k) v = R /\ m = n + 1 - k) ?_ ?_
   ·exact ⟨_, 1, c0, by rw [<- hc0e, hn, hl1, ho]; rfl, Nat.le_refl _, by omega, ho1.1, ho1.2, hR, rfl⟩
   clear hR ho1 hc0e hn hN1 hl1 ho hN
   rintro m st ⟨k, v, rfl, hk1, hk2, hv0, hv1, hR, rfl⟩
   have hX : bnU (k - 1) <= 8388608 := ZuE (by omega)
   by_cases hkn : k <= n
   ·have dk : decide ((k : Int) <= (n : Int)) = true := Yae (by omega)
    have hik : i + k < l.length := by omega
    have e5 : IntKind.i64.wrap ((i : Int) + (k : Int)) = ((i + k : Nat) : Int) := Zb _ (by omega) (by omega)
    have hy := hb _ (Z8 hik)
    have hdr2 : l.drop (i + k) = l.getD (i + k) 0 :: l.drop (i + (k + 1)) := Zcq hik
    obtain ⟨q, hq⟩ : ∃ q, n + 1 - k = q + 1 := ⟨n - k, by omega⟩
    rw [hdr2, hq, ZeZ] at hR
    generalize hyx : l.getD (i + k) 0 = y at hR hy
    obtain ⟨hy0, hy9⟩ := hy
    have hXk : bnU k = 64 * bnU (k - 1) := ZkQ hk1
    have ek : IntKind.i64.wrap ((k : Int) + 1) = ((k + 1 : Nat) : Int) := Zb _ (by omega) (by omega)
    by_cases hyy : 128 <= y /\ y <= 191
    ·rw [if_pos hyy] at hR
     have dy1 : decide (y < 128) = false := Yaf (by omega)
     have dy2 : decide (y > 191) = false := Yaf (by omega)
     have ey : IntKind.i64.wrap y = y := Zb _ (by omega) (by omega)
     have em : IntKind.i64.wrap (v * 64) = v * 64 := Zb _ (by omega) (by omega)
     have ea : IntKind.i64.wrap (v * 64 + y) = v * 64 + y := Zb _ (by omega) (by omega)
     have es : IntKind.i64.wrap (v * 64 + y - 128) = v * 64 + y - 128 := Zb _ (by omega) (by omega)
     have nx := aI @dk (aI @e5 (aI @hyx (aI @dy1 (aI @dy2 (aI @ey (aI @em (aI @ea (aI @es (aI @ek trivial)))))))))
     refine' Zr
     all_goals first
      | exact ⟨n + 1 - (k + 1), by omega, k + 1, v * 64 + y - 128, rfl, by omega, by omega, by omega, by rw [Nat.add_sub_cancel, hXk]; omega, by rw [show n + 1 - (k + 1) = q by omega]; exact hR, rfl⟩
    ·rw [if_neg hyy] at hR
     subst hR
     simp only at hA
     subst hA
     by_cases hy1 : y < 128
     ·have dy1 : decide (y < 128) = true := Yae hy1
      have nx := aI @dk (aI @e5 (aI @hyx (aI @dy1 trivial)))
      refine' Zr
      all_goals first | exact ⟨trivial, trivial⟩ | exact ⟨rfl, trivial⟩ | exact ⟨rfl, rfl⟩ | exact ⟨trivial, rfl⟩ | (exfalso; omega) | trace_state
     ·have dy1 : decide (y < 128) = false := Yaf hy1
      have dy2 : decide (y > 191) = true := Yae (by omega)
      have nx := aI @dk (aI @e5 (aI @hyx (aI @dy1 (aI @dy2 trivial))))
      refine' Zr
      all_goals first | exact ⟨trivial, trivial⟩ | exact ⟨rfl, trivial⟩ | exact ⟨rfl, rfl⟩ | exact ⟨trivial, rfl⟩ | (exfalso; omega) | trace_state
   ·have dk : decide ((k : Int) <= (n : Int)) = false := Yaf (by omega)
    obtain rfl : k = n + 1 := by omega
    rw [Nat.sub_self, ZeZ] at hR
    subst hR
    simp only at hA
    have e6 : IntKind.i64.wrap (((i + n : Nat) : Int) + 1) = ((i + n + 1 : Nat) : Int) := Zb _ (by omega) (by omega)
    have en : IntKind.i64.wrap ((i : Int) + (n : Int)) = ((i + n : Nat) : Int) := Zb _ (by omega) (by omega)
    by_cases hg : ZhB low v = true
    ·rw [if_pos hg] at hA
     simp only at hA
     rw [hdrop] at hA
     have hgg := (ZcM _ _).1 hg
     have f1 : decide (v < low) = false := Yaf (by omega)
     have f2 : decide (v > 1114111) = false := Yaf (by omega)
     by_cases hv5 : v >= 55296
     ·have f3 : decide (v >= 55296) = true := Yae hv5
      have f4 : decide (v <= 57343) = false := Yaf (by omega)
      clear hgg hv5
      have nx := aI @dk (aI @f1 (aI @f2 (aI @f3 (aI @f4 (aI @en (aI @e6 trivial))))))
      refine' Zr
      all_goals first
       | exact ⟨l.length - (i + n + 1), by omega, i + n + 1, rfl, by omega, hA, rfl⟩
     ·have f3 : decide (v >= 55296) = false := Yaf hv5
      clear hgg hv5
      have nx := aI @dk (aI @f1 (aI @f2 (aI @f3 (aI @en (aI @e6 trivial)))))
      refine' Zr
      all_goals first
       | exact ⟨l.length - (i + n + 1), by omega, i + n + 1, rfl, by omega, hA, rfl⟩
    ·rw [if_neg hg] at hA
     simp only at hA
     subst hA
     have hgg : ¬ (low <= v /\ v <= 1114111 /\ ¬ (55296 <= v /\ v <= 57343)) := fun h => hg ((ZcM _ _).2 h)
     by_cases f : v < low
     ·have f1 : decide (v < low) = true := Yae f
      have nx := aI @dk (aI @f1 trivial)
      refine' Zr
      all_goals first | exact ⟨trivial, trivial⟩ | exact ⟨rfl, trivial⟩ | exact ⟨rfl, rfl⟩ | exact ⟨trivial, rfl⟩ | (exfalso; omega) | trace_state
     have f1 : decide (v < low) = false := Yaf f
     by_cases g : v > 1114111
     ·have f2 : decide (v > 1114111) = true := Yae g
      have nx := aI @dk (aI @f1 (aI @f2 trivial))
      refine' Zr
      all_goals first | exact ⟨trivial, trivial⟩ | exact ⟨rfl, trivial⟩ | exact ⟨rfl, rfl⟩ | exact ⟨trivial, rfl⟩ | (exfalso; omega) | trace_state
     have f2 : decide (v > 1114111) = false := Yaf g
     have f3 : decide (v >= 55296) = true := Yae (by omega)
     have f4 : decide (v <= 57343) = true := Yae (by omega)
     clear hgg f g
     have nx := aI @dk (aI @f1 (aI @f2 (aI @f3 (aI @f4 trivial))))
     refine' Zr
     all_goals first | exact ⟨trivial, trivial⟩ | exact ⟨rfl, trivial⟩ | exact ⟨rfl, rfl⟩ | exact ⟨trivial, rfl⟩ | (exfalso; omega) | trace_state
 rw [if_neg (by omega), if_neg (by omega), if_neg (by omega)] at hA
 simp only at hA
 subst hA
 by_cases g : c < 194
 ·have g1 : decide (c >= 194) = false := Yaf (by omega)
  have g3 : decide (c >= 224) = false := Yaf (by omega)
  have g5 : decide (c >= 240) = false := Yaf (by omega)
  have nx := aI @d0 (aI @hx (aI @ec (aI @d1 (aI @g1 (aI @g3 (aI @g5 trivial))))))
  refine' Zr
  all_goals first | exact ⟨trivial, trivial⟩ | exact ⟨rfl, trivial⟩ | exact ⟨rfl, rfl⟩ | exact ⟨trivial, rfl⟩ | (exfalso; omega) | trace_state
 ·have g1 : decide (c >= 194) = true := Yae (by omega)
  have g2 : decide (c <= 223) = false := Yaf (by omega)
  have g3 : decide (c >= 224) = true := Yae (by omega)
  have g4 : decide (c <= 239) = false := Yaf (by omega)
  have g5 : decide (c >= 240) = true := Yae (by omega)
  have g6 : decide (c <= 244) = false := Yaf (by omega)
  have nx := aI @d0 (aI @hx (aI @ec (aI @d1 (aI @g1 (aI @g2 (aI @g3 (aI @g4 (aI @g5 (aI @g6 trivial)))))))))
  refine' Zr
  all_goals first | exact ⟨trivial, trivial⟩ | exact ⟨rfl, trivial⟩ | exact ⟨rfl, rfl⟩ | exact ⟨trivial, rfl⟩ | (exfalso; omega) | trace_state
end
end Go.Proofs.YtimhmpdfioihlaaGreatDoor
