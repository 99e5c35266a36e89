/- Float, of both; Arity. -/
import Derived.Test.YtmomeejfopfchaaDoorGTy
import Derived.Test.YtmomeejfopfchaaDoorGTabs
import Derived.Test.YtmomeejfopfchaaDoorDP
import Derived.Test.YtmomeejfopfchaaDoorOf
import Derived.Test.YtmomeejfopfchaaDoorCB
set_option linter.unusedSimpArgs false
set_option linter.unusedVariables false
namespace Go.Proofs.YtmomeejfopfchaaDoor
set_option maxRecDepth 20000
open Go Go.Abs
theorem cb28 : callable Tryd.prog 28 = true := by kernel_rfl
theorem cb71 : callable Tryd.prog 71 = true := by kernel_rfl
attribute [local irreducible] AW AWL AC FW CW CWr IntKind.wrap
def fltP : List (Int × Int) := [(42, 43), (56, 57), (67, 68), (91, 102), (139, 166), (168, 171), (174, 191), (64787, 64788), (64799, 64802), (64833, 64844), (64862, 64863), (64871, 64874), (64884, 64885), (64890, 64890), (64916, 64916), (64992, 65023)]
def flS (op : Int) : Bool := fltP.any fun p => decide (p.1 <= op /\ op <= p.2)
theorem flS_iff (op : Int) : flS op = true ↔ ((42 <= op /\ op <= 43) \/ (56 <= op /\ op <= 57) \/ (67 <= op /\ op <= 68) \/ (91 <= op /\ op <= 102) \/ (139 <= op /\ op <= 166) \/ (168 <= op /\ op <= 171) \/ (174 <= op /\ op <= 191) \/ (64787 <= op /\ op <= 64788) \/ (64799 <= op /\ op <= 64802) \/ (64833 <= op /\ op <= 64844) \/ (64862 <= op /\ op <= 64863) \/ (64871 <= op /\ op <= 64874) \/ (64884 <= op /\ op <= 64885) \/ (64890 <= op /\ op <= 64890) \/ (64916 <= op /\ op <= 64916) \/ (64992 <= op /\ op <= 65023)) := by
  simp only [flS, fltP, List.any_cons, List.any_nil, Bool.or_false, Bool.or_eq_true, decide_eq_true_eq]
theorem fl_yes {op : Int} (h : flS op = true ↔ True) : V.bool true = V.bool (flS op) := by rw [h.2 trivial]
theorem fl_no {op : Int} (h : flS op = true -> False) : V.bool false = V.bool (flS op) := by
  cases e : flS op with
  | false => rfl
  | true => exact (h e).elim
theorem fl_dec {P : Prop} [Decidable P] {op : Int} (h : P ↔ flS op = true) : V.bool (decide P) = V.bool (flS op) := by
  cases e : flS op with
  | false => rw [decide_eq_false (fun hp => by rw [h.1 hp] at e; cases e)]
  | true => rw [decide_eq_true (h.2 e)]
end Go.Proofs.YtmomeejfopfchaaDoor
namespace Go.Proofs.YtmomeejfopfchaaDoor
set_option maxRecDepth 20000
open Go Go.Abs
attribute [local irreducible] AW AWL AC FW CW CWr IntKind.wrap
theorem K1Flt.kp {P : Program} {c : Code} {Q : Exit -> St -> Prop} {st : St} (h : AW P c Q (st.keepS [0, 2, 3])) : AW P c Q st := AW.keepS _ h
theorem K1Flt.sd {p : Prop} (h : p := by first | exact sd16598c) : p := h
theorem K2Flt.kp {P : Program} {c : Code} {Q : Exit -> St -> Prop} {st : St} (h : AW P c Q (st.keepS [0, 2, 8])) : AW P c Q st := AW.keepS _ h
theorem K2Flt.sd {p : Prop} (h : p := by first | exact sd16598c) : p := h
open K1Flt in
set_option maxHeartbeats 3200000 in
theorem vector_ok (k : Int) : AC Tryd.prog 65 [.int .i64 k] (fun r m => r = .bool (if 0 <= k then flS (k + 64768) else false) /\ m = []) := by
  by_cases h0 : 0 <= k
  · rw [if_pos h0]
    refine AC.enter Tryd.func65 rfl (Nat.le_of_ble_eq_true rfl) ?_
    simp only [Tryd.f65]
    have nx : True := trivial
    refine' st9df0c1
    all_goals first
      | exact ⟨fl_yes ⟨fun _ => trivial, fun _ => (flS_iff _).2 (by omega)⟩, trivial⟩
      | exact ⟨fl_no (fun h => by have := (flS_iff _).1 h; omega), trivial⟩
      | exact ⟨fl_dec ⟨fun h => (flS_iff _).2 (by omega), fun h => by have := (flS_iff _).1 h; omega⟩, trivial⟩
      | trace_state
  · rw [if_neg h0]
    refine AC.enter Tryd.func65 rfl (Nat.le_of_ble_eq_true rfl) ?_
    simp only [Tryd.f65]
    have nx : True := trivial
    refine' st9df0c1
    all_goals first
      | exact ⟨rfl, trivial⟩
      | (exfalso; omega)
      | trace_state
open K2Flt in
set_option maxHeartbeats 3200000 in
theorem float_ok (op : Int) (ho : op < 9223372036854775808) : AC Tryd.prog 61 [.int .i64 op] (fun r m => r = .bool (flS op) /\ m = []) := by
  refine AC.enter Tryd.func61 rfl (Nat.le_of_ble_eq_true rfl) ?_
  simp only [Tryd.f61]
  by_cases hop : op >= 64768
  · have e1 : IntKind.i64.wrap (op - 64768) = op - 64768 := wrap64_id _ (by omega) (by omega)
    have hc0 : (if 0 <= op - 64768 then flS (op - 64768 + 64768) else false) = flS op := by rw [if_pos (by omega), show op - 64768 + 64768 = op from by omega]
    have nx : type_of% @e1 /\ type_of% @hc0 /\ True := ⟨@e1, ⟨@hc0, trivial⟩⟩
    refine' st0311e4
    all_goals first | exact ⟨trivial, trivial⟩ | exact ⟨rfl, trivial⟩ | exact ⟨rfl, rfl⟩ | exact ⟨trivial, rfl⟩ | (exfalso; omega) | trace_state
  · have nx : True := trivial
    refine' st0311e4
    all_goals first
      | exact ⟨fl_yes ⟨fun _ => trivial, fun _ => (flS_iff _).2 (by omega)⟩, trivial⟩
      | exact ⟨fl_no (fun h => by have := (flS_iff _).1 h; omega), trivial⟩
      | exact ⟨fl_dec ⟨fun h => (flS_iff _).2 (by omega), fun h => by have := (flS_iff _).1 h; omega⟩, trivial⟩
      | trace_state
end Go.Proofs.YtmomeejfopfchaaDoor
namespace Go.Proofs.YtmomeejfopfchaaDoor
set_option maxRecDepth 20000
open Go Go.Abs
attribute [local irreducible] AW AWL AC FW CW CWr IntKind.wrap
def infoL (i : InfoS) : V := .agg [.int .i64 i.1, .int .i64 i.2.1, .bool i.2.2.1, .view i.2.2.2.1.length 1 (nums .i64 i.2.2.2.1), .view i.2.2.2.2.length 1 (nums .i64 i.2.2.2.2)]
theorem info_look (i : InfoS) (b : Bool) : frz1 3004 (nums .i64 i.2.2.2.2) (frz1 3003 (nums .i64 i.2.2.2.1) (.tup [infoV i, .bool b])) = .tup [infoL i, .bool b] := by
  simp [frz1, infoV, infoL, V.frz, V.wipe, List.take_of_length_le (Nat.le_of_eq (nums_length .i64 _))]
theorem of_look (op : Int) : AC Tryd.prog 62 [.int .i64 op] (fun r m => r = .tup [infoL (ofS op).1, .bool (ofS op).2] /\ m = []) := by
  have := (of_ok op).frzF.frzF
  rw [info_look] at this
  exact this
end Go.Proofs.YtmomeejfopfchaaDoor
namespace Go.Proofs.YtmomeejfopfchaaDoor
set_option maxRecDepth 20000
open Go Go.Abs
attribute [local irreducible] AW AWL AC FW CW CWr IntKind.wrap
def S33 (l : List Int) (x i : Int) : St := { n := 22, slots := [(3, .int .u64 x), (6, .view l.length 1 (nums .u8 l)), (7, .int .i64 l.length), (8, .int .i64 i)], mem := [] }
theorem shl8 {c : Int} {k : Nat} (hc : byte c) (hk : k < 8) : IntKind.u64.wrap (c * 2 ^ min (8 * (k : Int)).toNat IntKind.u64.bits) = c * 2 ^ (8 * k) := by
  have e : min (8 * (k : Int)).toNat IntKind.u64.bits = 8 * k := by rw [Nat.min_eq_left (by show _ <= 64; omega)]; omega
  rw [e]
  unfold byte at hc
  have hp : (0 : Int) < 2 ^ (8 * k) := Int.pow_pos (by decide)
  have h1 : c * 2 ^ (8 * k) <= 255 * 2 ^ (8 * k) := Int.mul_le_mul_of_nonneg_right hc.2 (by omega)
  have h2 : (2 : Int) ^ (8 * (k + 1)) <= 2 ^ 64 := by exact_mod_cast Nat.pow_le_pow_right (by decide) (by omega)
  rw [pow8] at h2
  exact wrap_in rfl (Int.mul_nonneg hc.1 (by omega)) (by show _ < (2 : Int) ^ 64; omega)
theorem or8 {x c : Int} {k : Nat} (hx : 0 <= x /\ x < 2 ^ (8 * k)) (hc : byte c) (hk : k < 8) : bitsOp .or .u64 x (c * 2 ^ (8 * k)) = x + c * 2 ^ (8 * k) := by
  unfold byte at hc
  have hp : (0 : Int) < 2 ^ (8 * k) := Int.pow_pos (by decide)
  have h1 : c * 2 ^ (8 * k) <= 255 * 2 ^ (8 * k) := Int.mul_le_mul_of_nonneg_right hc.2 (by omega)
  have h2 : (2 : Int) ^ (8 * (k + 1)) <= 2 ^ 64 := by exact_mod_cast Nat.pow_le_pow_right (by decide) (by omega)
  rw [pow8] at h2
  exact or_add (k := .u64) (8 * k) hx.1 hx.2 hc.1 (by show _ < (2 : Int) ^ 64; omega) (.inl rfl)
theorem K1Half.kp {P : Program} {c : Code} {Q : Exit -> St -> Prop} {st : St} (h : AW P c Q (st.keepS [0, 2, 3, 4, 5, 6, 7, 8])) : AW P c Q st := AW.keepS _ h
theorem K1Half.sd {p : Prop} (h : p := by first | exact sd4af4e1) : p := h
open K1Half in
set_option maxHeartbeats 800000 in
theorem half_ok (l : List Int) (hb : bytes l) (hl : l.length <= 8) : AC Tryd.prog 72 [.view l.length 1 (nums .u8 l)] (fun r m => r = .int .u64 (le l) /\ m = []) := by
  refine AC.enter Tryd.func72 rfl (Nat.le_of_ble_eq_true rfl) ?_
  simp only [Tryd.f72]
  have nx : True := trivial
  refine' st32a57d
  refine AW.loop [3, 6, 7, 8] [] (fun n st => ∃ (k : Nat), st = S33 l (le (l.take k)) k /\ k <= l.length /\ n = l.length - k) ?_ ?_
  · exact ⟨_, 0, rfl, Nat.zero_le _, rfl⟩
  · rintro n st ⟨k, rfl, hk, rfl⟩
    by_cases hkl : k < l.length
    · have hc := bytes_at hb hkl
      have hx := le_bound (bytes_take hb k)
      rw [List.length_take, Nat.min_eq_left (by omega)] at hx
      have e1 := shl8 hc (by omega : k < 8)
      have e2 := or8 hx hc (by omega : k < 8)
      have e3 : IntKind.u64.wrap (l.getD k 0) = l.getD k 0 := by unfold byte at hc; exact wrap_in rfl hc.1 (by show _ < (18446744073709551616 : Int); omega)
      have e4 : IntKind.i64.wrap (8 * (k : Int)) = 8 * k := wrap64_id _ (by omega) (by omega)
      have e5 : IntKind.i64.wrap ((k : Int) + 1) = k + 1 := wrap64_id _ (by omega) (by omega)
      have nx : type_of% @e1 /\ type_of% @e2 /\ type_of% @e3 /\ type_of% @e4 /\ type_of% @e5 /\ True := ⟨@e1, ⟨@e2, ⟨@e3, ⟨@e4, ⟨@e5, trivial⟩⟩⟩⟩⟩
      refine' st32a57d
      all_goals try simp (disch := omega) only [NSX, St.keepS, Nat.reduceBEq, Nat.reduceAdd, Nat.reduceMul, Int.reduceToNat, Nat.reduceSub, TY, SLS, List.set_cons_zero, List.set_cons_succ, take16, drop16, dz, nums_length, S33, e1, e2, e3, e4, e5]
      all_goals first
        | exact ⟨l.length - (k + 1), by omega, k + 1, by rw [le_take hkl]; rfl, by omega, rfl⟩
        | trace_state
    · have nx : True := trivial
      refine' st32a57d
      all_goals try simp (disch := omega) only [NSX, St.keepS, Nat.reduceBEq, Nat.reduceAdd, Nat.reduceMul, Int.reduceToNat, Nat.reduceSub, TY, SLS, List.set_cons_zero, List.set_cons_succ, take16, drop16, dz, nums_length, S33]
      · rw [List.take_of_length_le (by omega)]; exact ⟨rfl, trivial⟩
theorem half_at (n : Nat) (l : List Int) (hn : n = l.length) (hb : bytes l) (hl : l.length <= 8) : AC Tryd.prog 72 [.view n 1 (nums .u8 l)] (fun r m => r = .int .u64 (le l) /\ m = []) := by
  subst hn; exact half_ok l hb hl
end Go.Proofs.YtmomeejfopfchaaDoor
namespace Go.Proofs.YtmomeejfopfchaaDoor
set_option maxRecDepth 20000
open Go Go.Abs
attribute [local irreducible] AW AWL AC FW CW CWr IntKind.wrap
theorem K1Split.kp {P : Program} {c : Code} {Q : Exit -> St -> Prop} {st : St} (h : AW P c Q (st.keepS [0, 1, 2])) : AW P c Q st := AW.keepS _ h
theorem K1Split.sd {p : Prop} (h : p := by first | exact sd67c896) : p := h
open K1Split in
set_option maxHeartbeats 800000 in
theorem split_ok (v : List Int) (hl : v.length = 16) (hb : bytes v) : AC Tryd.prog 70 [.fagg (nums .u8 v)] (fun r m => r = .agg [.int .u64 (lo v), .int .u64 (hi v)] /\ m = []) := by
  have h1 := bytes_take hb 8
  have h2 := bytes_drop hb 8
  have e1 : (v.take 8).length = 8 := by rw [List.length_take]; omega
  have e2 : (v.drop 8).length = 8 := by rw [List.length_drop]; omega
  have e3 : (v.drop 8).take 8 = v.drop 8 := List.take_of_length_le (by omega)
  refine AC.enter Tryd.func70 rfl (Nat.le_of_ble_eq_true rfl) ?_
  simp only [Tryd.f70]
  have nx : type_of% @e3 /\ type_of% @hl /\ True := ⟨@e3, ⟨@hl, trivial⟩⟩
  refine' sta0ba4f
  all_goals first | exact ⟨rfl, trivial⟩ | exact ⟨trivial, trivial⟩ | exact ⟨rfl, rfl⟩ | trace_state
end Go.Proofs.YtmomeejfopfchaaDoor
namespace Go.Proofs.YtmomeejfopfchaaDoor
set_option maxRecDepth 20000
open Go Go.Abs
structure Ins where
  op : Int
  a : Int
  b : Int
  lo : Int
  hi : Int
  l : List Int
  deriving DecidableEq
def insC (i : Ins) : List V := [.int .i64 i.op, .int .i64 i.a, .int .i64 i.b, .int .u64 i.lo, .int .u64 i.hi, .view i.l.length 1 (nums .i64 i.l)]
structure Rd where
  pos : Int
  op : List Int
  jk : List Int
  err : Int
  deriving DecidableEq
def rdM (k ko : Nat) (b : List Int) (r : Rd) : Mem := [(k, ⟨false, [.view b.length 1 (nums .u8 b), .int .i64 r.pos, .ref ko 0 r.op.length 1, .int .i64 r.err]⟩), (ko, ⟨true, nums .i64 (r.op ++ r.jk)⟩)]
structure okRd (b : List Int) (r : Rd) : Prop where
  p0 : 0 <= r.pos
  p1 : r.pos <= b.length
def failS (r : Rd) (e : Int) : Rd := if r.err = 0 then { r with err := e } else r
def byteS (b : List Int) (r : Rd) : Int × Rd := if r.err ≠ 0 \/ r.pos >= b.length then (0, failS r 10) else (b.getD r.pos.toNat 0, { r with pos := r.pos + 1 })
def numS (b : List Int) (r : Rd) : Int × Rd := if r.err ≠ 0 then (0, r) else if (uSpec b r.pos 32).2.2 ≠ 0 then (0, failS r 10) else ((uSpec b r.pos 32).1, { r with pos := (uSpec b r.pos 32).2.1 })
def sgnS (b : List Int) (n : Int) (r : Rd) : Int × Rd := if r.err ≠ 0 then (0, r) else if (sSpec b r.pos n).2.2 ≠ 0 then (0, failS r 10) else ((sSpec b r.pos n).1, { r with pos := (sSpec b r.pos n).2.1 })
def kindN (b : List Int) (r : Rd) : Int × Rd := ((sgnS b 33 r).1, if (sgnS b 33 r).1 < 0 then failS (sgnS b 33 r).2 10 else (sgnS b 33 r).2)
def kindC (c : Int) : Prop := c = 64 \/ c = 127 \/ c = 126 \/ c = 123
def floatC (c : Int) : Prop := c = 125 \/ c = 124
instance (c : Int) : Decidable (kindC c) := by unfold kindC; infer_instance
instance (c : Int) : Decidable (floatC c) := by unfold floatC; infer_instance
def kindS (b : List Int) (r : Rd) : Int × Rd :=
  if r.pos < b.length then
    if kindC (b.getD r.pos.toNat 0) then (b.getD r.pos.toNat 0 - 128, { r with pos := r.pos + 1 })
    else if floatC (b.getD r.pos.toNat 0) then (0, failS r 11)
    else kindN b r
  else kindN b r
def closeS (r : Rd) : Bool × Rd := if r.op.length = 0 then (true, r) else (false, { r with op := r.op.take (r.op.length - 1), jk := r.op.drop (r.op.length - 1) ++ r.jk })
def blockS (op : Int) (r : Rd) : Rd :=
  if op ≠ 5 then { (if r.op.length = 128 then failS r 3 else r) with op := r.op ++ [op], jk := [] }
  else if r.op.length = 0 \/ r.op.getD (r.op.length - 1) 0 ≠ 4 then failS r 10
  else { r with op := r.op.take (r.op.length - 1) ++ [5] }
def tabS (b : List Int) : Nat -> Rd -> List Int -> List Int × Rd
  | 0, r, l => (l, r)
  | n + 1, r, l => if r.err = 0 then tabS b n (numS b r).2 (l ++ [(numS b r).1]) else (l, r)
def rowS (b : List Int) : Nat -> Rd -> List Int × Rd
  | 0, r => ([], r)
  | n + 1, r => ((byteS b r).1 :: (rowS b n (byteS b r).2).1, (rowS b n (byteS b r).2).2)
def fieldsS (b : List Int) (form : Int) (r : Rd) (i : Ins) : Ins × Rd :=
  if form = 2 then ({ i with a := (kindS b r).1 }, (kindS b r).2)
  else if form = 3 \/ form = 5 then ({ i with a := (numS b r).1 }, (numS b r).2)
  else if form = 4 then
    ({ i with a := (numS b (tabS b (numS b r).1.toNat (numS b r).2 i.l).2).1, l := (tabS b (numS b r).1.toNat (numS b r).2 i.l).1 }, (numS b (tabS b (numS b r).1.toNat (numS b r).2 i.l).2).2)
  else if form = 6 \/ form = 7 then ({ i with a := (numS b r).1, b := (numS b (numS b r).2).1 }, (numS b (numS b r).2).2)
  else if form = 8 then ({ i with a := (numS b r).1, b := (numS b (numS b r).2).1, lo := (byteS b (numS b (numS b r).2).2).1 }, (byteS b (numS b (numS b r).2).2).2)
  else if form = 9 then ({ i with lo := (sgnS b 32 r).1 % 4294967296 }, (sgnS b 32 r).2)
  else if form = 10 then ({ i with lo := (sgnS b 64 r).1 % 18446744073709551616 }, (sgnS b 64 r).2)
  else if form = 11 \/ form = 12 then ({ i with lo := lo (rowS b 16 r).1, hi := hi (rowS b 16 r).1 }, (rowS b 16 r).2)
  else if form = 13 then ({ i with a := (byteS b r).1 }, (byteS b r).2)
  else if form = 14 then (i, if (byteS b r).1 ≠ 0 then failS (byteS b r).2 10 else (byteS b r).2)
  else (i, r)
def opS (b : List Int) (r : Rd) : Int × Rd :=
  if (byteS b r).1 = 253 then (64768 + (numS b (byteS b r).2).1, (numS b (byteS b r).2).2)
  else if (byteS b r).1 = 252 then (252, failS (if (numS b (byteS b r).2).1 <= 7 then failS (numS b (byteS b r).2).2 11 else (numS b (byteS b r).2).2) 10)
  else byteS b r
def chkS (op : Int) (r : Rd) : Rd := if (ofS op).2 = true then (if flS op = true then failS r 11 else r) else failS (if flS op = true then failS r 11 else r) 10
def bodyS (b : List Int) (op : Int) (r : Rd) : Ins × Rd := if r.err = 0 then fieldsS b (ofS op).1.1 r ⟨op, 0, 0, 0, 0, []⟩ else (⟨op, 0, 0, 0, 0, []⟩, r)
def instrS (b : List Int) (r : Rd) : Ins × Rd :=
  ((bodyS b (opS b r).1 (chkS (opS b r).1 (opS b r).2)).1,
    if (bodyS b (opS b r).1 (chkS (opS b r).1 (opS b r).2)).2.err = 0 /\ 2 <= (opS b r).1 /\ (opS b r).1 <= 5 then blockS (opS b r).1 (bodyS b (opS b r).1 (chkS (opS b r).1 (opS b r).2)).2
    else (bodyS b (opS b r).1 (chkS (opS b r).1 (opS b r).2)).2)
theorem uRd_ok (bits : Int) : ∀ (xs : List Int) (k : Nat) (v at_ : Int), bytes xs -> bits <= 64 -> 7 * (k : Int) < bits -> 0 <= v -> v < 2 ^ (7 * k) -> (uRd bits xs (7 * k) v at_).2.2 = 0 ->
    0 <= (uRd bits xs (7 * k) v at_).1 /\ (uRd bits xs (7 * k) v at_).1 < 2 ^ bits.toNat /\ at_ < (uRd bits xs (7 * k) v at_).2.1 /\ (uRd bits xs (7 * k) v at_).2.1 <= at_ + xs.length
  | [], _, _, _, _, _, _, _, _, h => by simp [uRd] at h
  | x :: t, k, v, at_, hb, h64, hk, hv0, hv1, h => by
    have hx := hb x (List.mem_cons_self ..)
    rw [uRd] at h ⊢
    by_cases c : (bits - ((7 * k : Nat) : Int) < 7 /\ (x % 128) / 2 ^ (bits - ((7 * k : Nat) : Int)).toNat ≠ 0) \/ (bits - ((7 * k : Nat) : Int) <= 7 /\ x >= 128)
    · rw [if_pos c] at h; simp at h
    · rw [if_neg c] at h ⊢
      have hl : bits - 7 * k < 7 -> x % 128 / 2 ^ (bits - 7 * (k : Int)).toNat = 0 := fun h7 => Classical.byContradiction fun hn => c (.inl ⟨by omega, by rw [show (bits - ((7 * k : Nat) : Int)) = bits - 7 * (k : Int) by omega]; exact hn⟩)
      have hlt := low_lt hk (by omega) (by omega) hl
      have h2 := pow_lt_mul hv0 hv1 (low := x % 128) (by omega) hlt
      have h3 : (2 : Int) ^ (7 * k + min 7 (bits - 7 * k).toNat) <= 2 ^ bits.toNat := by exact_mod_cast Nat.pow_le_pow_right (by decide) (by omega)
      have h4 : (2 : Int) ^ (7 * k + min 7 (bits - 7 * k).toNat) <= 2 ^ (7 * (k + 1)) := by exact_mod_cast Nat.pow_le_pow_right (by decide) (by omega)
      by_cases h128 : x < 128
      · rw [if_pos h128] at h ⊢
        simp only [List.length_cons]
        omega
      · rw [if_neg h128] at h ⊢
        have hk2 : 7 * ((k + 1 : Nat) : Int) < bits := by
          apply Classical.byContradiction; intro h; exact c (.inr ⟨by omega, by omega⟩)
        have := uRd_ok bits t (k + 1) (v + x % 128 * 2 ^ (7 * k)) (at_ + 1) (fun y hy => hb y (List.mem_cons_of_mem _ hy)) h64 hk2 h2.1 (by omega) h
        simp only [List.length_cons]
        rw [show 7 * k + 7 = 7 * (k + 1) by omega]
        omega
theorem uSpec_ok {xs : List Int} (hb : bytes xs) {p : Int} (h0 : 0 <= p /\ p <= xs.length) (h : (uSpec xs p 32).2.2 = 0) : (0 <= (uSpec xs p 32).1 /\ (uSpec xs p 32).1 < 4294967296) /\ p < (uSpec xs p 32).2.1 /\ (uSpec xs p 32).2.1 <= xs.length := by
  unfold uSpec at h ⊢
  rw [if_neg (by omega)] at h ⊢
  have := uRd_ok 32 (xs.drop p.toNat) 0 0 p (fun x hx => hb x (List.mem_of_mem_drop hx)) (by omega) (by omega) (by omega) (by decide) h
  simp only [List.length_drop, Nat.mul_zero] at this
  have e : (2 : Int) ^ (32 : Int).toNat = 4294967296 := by decide
  rw [e] at this
  omega
theorem sRd_pos (bits : Int) : ∀ (xs : List Int) (d : Nat) (v at_ : Int), (sRd bits xs d v at_).2.2 = 0 -> at_ < (sRd bits xs d v at_).2.1 /\ (sRd bits xs d v at_).2.1 <= at_ + xs.length
  | [], _, _, _, h => by simp [sRd] at h
  | x :: t, d, v, at_, h => by
    rw [sRd] at h ⊢
    split at h
    · simp at h
    · rename_i c
      rw [if_neg c]
      split at h
      · rename_i c2
        rw [if_pos c2]
        simp only [List.length_cons]; omega
      · rename_i c2
        rw [if_neg c2]
        have := sRd_pos bits t _ _ _ h
        simp only [List.length_cons]; omega
theorem sSpec_pos {xs : List Int} {n p : Int} (hn : 1 <= n /\ n <= 64) (h0 : 0 <= p /\ p <= xs.length) (h : (sSpec xs p n).2.2 = 0) : p < (sSpec xs p n).2.1 /\ (sSpec xs p n).2.1 <= xs.length := by
  unfold sSpec at h ⊢
  rw [if_neg (by omega)] at h ⊢
  have := sRd_pos n _ _ _ _ h
  rw [List.length_drop] at this; omega
theorem failS_ok {b : List Int} {r : Rd} (h : okRd b r) (e : Int) : okRd b (failS r e) := by
  unfold failS; split
  · exact ⟨h.p0, h.p1⟩
  · exact h
theorem byteS_ok {b : List Int} {r : Rd} (h : okRd b r) : okRd b (byteS b r).2 := by
  unfold byteS; split
  · exact failS_ok h _
  · have h0 := h.p0; have h1 := h.p1
    exact ⟨by simp only; omega, by simp only; omega⟩
theorem numS_ok {b : List Int} (hb : bytes b) {r : Rd} (h : okRd b r) : okRd b (numS b r).2 /\ 0 <= (numS b r).1 /\ (numS b r).1 < 4294967296 := by
  unfold numS; split
  · exact ⟨h, by simp⟩
  · split
    · exact ⟨failS_ok h _, by simp⟩
    · rename_i _ c
      have := uSpec_ok hb ⟨h.p0, h.p1⟩ (Classical.not_not.1 c)
      have h0 := h.p0
      exact ⟨⟨by simp only; omega, this.2.2⟩, this.1⟩
theorem sgnS_ok {b : List Int} {r : Rd} {n : Int} (hn : 1 <= n /\ n <= 64) (h : okRd b r) : okRd b (sgnS b n r).2 := by
  unfold sgnS; split
  · exact h
  · split
    · exact failS_ok h _
    · rename_i _ c
      have := sSpec_pos hn ⟨h.p0, h.p1⟩ (Classical.not_not.1 c)
      have h0 := h.p0
      exact ⟨by simp only; omega, this.2⟩
theorem byteS_byte {b : List Int} (hb : bytes b) {r : Rd} (h : okRd b r) : byte (byteS b r).1 := by
  unfold byteS; split
  · exact ⟨Int.le_refl 0, by show (0 : Int) <= 255; decide⟩
  · have h0 := h.p0; have h1 := h.p1
    exact hb _ (getD_mem (by omega))
end Go.Proofs.YtmomeejfopfchaaDoor
namespace Go.Proofs.YtmomeejfopfchaaDoor
set_option maxRecDepth 20000
open Go Go.Abs Nat
theorem own_getDe {k : IntKind} {xs : List Int} {n : Nat} (h : n < xs.length) : (nums k xs).getD n .any = .int k (xs.getD n 0) := by
  simp [nums, List.getD_eq_getElem?_getD, h]
attribute [local irreducible] AW AWL AC FW CW CWr IntKind.wrap
theorem MER1.NM : type_of% @NSX /\ type_of% @St.keepS.eq_1 /\ type_of% @TY /\ type_of% @SLS /\ type_of% @nums_length :=
  ⟨NSX, St.keepS.eq_1, @TY, @SLS, @nums_length⟩
open MER1
theorem K1ER1.kp {P : Program} {c : Code} {Q : Exit -> St -> Prop} {st : St} (h : AW P c Q (st.keepS [0, 1])) : AW P c Q st := AW.keepS _ h
theorem K1ER1.sd {p : Prop} (h : p := by first | exact sd1eb496) : p := h
theorem K2ER1.kp {P : Program} {c : Code} {Q : Exit -> St -> Prop} {st : St} (h : AW P c Q (st.keepS [0, 2, 3])) : AW P c Q st := AW.keepS _ h
theorem K2ER1.sd {p : Prop} (h : p := by first | exact sd1eb496) : p := h
theorem K3ER1.kp {P : Program} {c : Code} {Q : Exit -> St -> Prop} {st : St} (h : AW P c Q (st.keepS [0, 1, 4])) : AW P c Q st := AW.keepS _ h
theorem K3ER1.cl {p : Prop} (h : p := by
  first
    | refine AWL.cM (f := 60) [(0, 0), (1002, 1002)] cb60 rfl rfl rfl rfl rfl rfl rfl (hfail) ?_
  all_goals (apply_rules (newGoals := .nonDependentOnly) only [dep])
  all_goals constructor) : p := h
theorem K3ER1.sd {p : Prop} (h : p := by first | exact sd1eb496) : p := h
open K1ER1 in
set_option maxHeartbeats 1600000 in
theorem rdfail_ok (b : List Int) (r : Rd) (e : Int) : AM Tryd.prog 60 [.ptr 0 0, .int .i64 e] (rdM 0 1002 b r) [0] (fun v m => v = .tup [] /\ m = rdM 0 1002 b (failS r e)) := by
  obtain ⟨p, o, j, er⟩ := r
  unfold rdM
  refine AM.enter Tryd.func60 rfl (Nat.le_of_ble_eq_true rfl) (fun pn => ?_)
  simp only [Tryd.f60]
  by_cases h : er = 0
  · subst h
    have nx : True := trivial
    refine' st32c830
    all_goals first | exact ⟨trivial, trivial⟩ | exact ⟨rfl, trivial⟩ | exact ⟨rfl, rfl⟩ | exact ⟨trivial, rfl⟩ | (exfalso; omega) | trace_state
  · have h1 : failS ⟨p, o, j, er⟩ e = ⟨p, o, j, er⟩ := if_neg h
    have nx : type_of% @h1 /\ True := ⟨@h1, trivial⟩
    refine' st32c830
    all_goals first | exact ⟨trivial, trivial⟩ | exact ⟨rfl, trivial⟩ | exact ⟨rfl, rfl⟩ | exact ⟨trivial, rfl⟩ | (exfalso; omega) | trace_state
open K2ER1 in
set_option maxHeartbeats 1600000 in
theorem rdclose_ok (b : List Int) (r : Rd) (hl : r.op.length <= 1000000) : AM Tryd.prog 57 [.ptr 0 0] (rdM 0 1002 b r) [0] (fun v m => v = .bool (closeS r).1 /\ m = rdM 0 1002 b (closeS r).2) := by
  obtain ⟨p, o, j, er⟩ := r
  simp only at hl
  unfold rdM
  refine AM.enter Tryd.func57 rfl (Nat.le_of_ble_eq_true rfl) (fun pn => ?_)
  simp only [Tryd.f57]
  by_cases h : o.length = 0
  · have h1 : closeS ⟨p, o, j, er⟩ = (true, ⟨p, o, j, er⟩) := if_pos h
    have nx : type_of% @h1 /\ True := ⟨@h1, trivial⟩
    refine' st32c830
    all_goals first | exact ⟨trivial, trivial⟩ | exact ⟨rfl, trivial⟩ | exact ⟨rfl, rfl⟩ | exact ⟨trivial, rfl⟩ | (exfalso; omega) | trace_state
  · have h1 : closeS ⟨p, o, j, er⟩ = (false, ⟨p, o.take (o.length - 1), o.drop (o.length - 1) ++ j, er⟩) := if_neg h
    have h2 : IntKind.i64.wrap ((o.length : Int) - 1) = ((o.length - 1 : Nat) : Int) := by rw [wrap64_id _ (by omega) (by omega)]; omega
    have h3 : (o.take (o.length - 1)).length = o.length - 1 := by rw [List.length_take]; omega
    have h4 : o.take (o.length - 1) ++ (o.drop (o.length - 1) ++ j) = o ++ j := by rw [<- List.append_assoc, List.take_append_drop]
    have nx : type_of% @h1 /\ type_of% @h2 /\ type_of% @h3 /\ type_of% @h4 /\ True := ⟨@h1, ⟨@h2, ⟨@h3, ⟨@h4, trivial⟩⟩⟩⟩
    refine' st32c830
    all_goals first | exact ⟨trivial, trivial⟩ | exact ⟨rfl, trivial⟩ | exact ⟨rfl, rfl⟩ | exact ⟨trivial, rfl⟩ | (exfalso; omega) | trace_state
open K3ER1 in
set_option maxHeartbeats 1600000 in
theorem rdblock_ok (b : List Int) (r : Rd) (hl : r.op.length <= 1000000) (op : Int) : AM Tryd.prog 64 [.ptr 0 0, .int .i64 op] (rdM 0 1002 b r) [0] (fun v m => v = .tup [] /\ m = rdM 0 1002 b (blockS op r)) := by
  obtain ⟨p, o, j, er⟩ := r
  simp only at hl
  have hfail : True := trivial
  unfold rdM
  refine AM.enter Tryd.func64 rfl (Nat.le_of_ble_eq_true rfl) (fun pn => ?_)
  simp only [Tryd.f64]
  by_cases h5 : op = 5
  · subst h5
    have hfail := rdfail_ok b ⟨p, o, j, er⟩ 10
    by_cases h0 : o.length = 0
    · have h1 : blockS 5 ⟨p, o, j, er⟩ = failS ⟨p, o, j, er⟩ 10 := by unfold blockS; rw [if_neg (fun h => h rfl), if_pos (.inl h0)]
      rw [h1]
      unfold rdM at hfail
      generalize failS ⟨p, o, j, er⟩ 10 = r2 at hfail
      obtain ⟨p2, o2, j2, e2⟩ := r2
      have nx : True := trivial
      refine' st4b6876
      all_goals first | exact ⟨trivial, trivial⟩ | exact ⟨rfl, trivial⟩ | exact ⟨rfl, rfl⟩ | exact ⟨trivial, rfl⟩ | (exfalso; omega) | trace_state
    · have h2 : IntKind.i64.wrap ((o.length : Int) - 1) = ((o.length - 1 : Nat) : Int) := by rw [wrap64_id _ (by omega) (by omega)]; omega
      have h3 : (o ++ j).getD (o.length - 1) 0 = o.getD (o.length - 1) 0 := by simp only [List.getD_eq_getElem?_getD]; rw [List.getElem?_append_left (by omega)]
      have hA : (nums .i64 (o ++ j)).getD (o.length - 1) .any = .int .i64 (o.getD (o.length - 1) 0) := by rw [<- h3]; exact own_getDe (by rw [List.length_append]; omega)
      by_cases h4 : o.getD (o.length - 1) 0 = 4
      · have h1 : blockS 5 ⟨p, o, j, er⟩ = ⟨p, o.take (o.length - 1) ++ [5], j, er⟩ := by
          unfold blockS; rw [if_neg (fun h => h rfl), if_neg (fun h => h.elim h0 (fun h => h h4))]
        have h6 : (o.take (o.length - 1) ++ [5]).length = o.length := by rw [List.length_append, List.length_take]; simp only [List.length_cons, List.length_nil]; omega
        have h7 : setI (o ++ j) (o.length - 1) 5 = o.take (o.length - 1) ++ [5] ++ j := by
          unfold setI
          rw [List.take_append_of_le_length (by omega), List.drop_append, List.drop_of_length_le (by omega), List.nil_append, show o.length - 1 + 1 - o.length = 0 by omega]; rfl
        have nx : type_of% @h1 /\ type_of% @h2 /\ type_of% @hA /\ type_of% @h4 /\ type_of% @h6 /\ type_of% @h7 /\ True := ⟨@h1, ⟨@h2, ⟨@hA, ⟨@h4, ⟨@h6, ⟨@h7, trivial⟩⟩⟩⟩⟩⟩
        refine' st4b6876
        all_goals first | exact ⟨trivial, trivial⟩ | exact ⟨rfl, trivial⟩ | exact ⟨rfl, rfl⟩ | exact ⟨trivial, rfl⟩ | (exfalso; omega) | trace_state
      · have h1 : blockS 5 ⟨p, o, j, er⟩ = failS ⟨p, o, j, er⟩ 10 := by unfold blockS; rw [if_neg (fun h => h rfl), if_pos (.inr h4)]
        rw [h1]
        unfold rdM at hfail
        generalize failS ⟨p, o, j, er⟩ 10 = r2 at hfail
        obtain ⟨p2, o2, j2, e2⟩ := r2
        have nx : type_of% @h2 /\ type_of% @hA /\ True := ⟨@h2, ⟨@hA, trivial⟩⟩
        refine' st4b6876
        all_goals first | exact ⟨trivial, trivial⟩ | exact ⟨rfl, trivial⟩ | exact ⟨rfl, rfl⟩ | exact ⟨trivial, rfl⟩ | (exfalso; omega) | trace_state
  · have h6 : (o ++ [op]).length = o.length + 1 := by simp
    by_cases h128 : o.length = 128
    · have h1 : blockS op ⟨p, o, j, er⟩ = { failS ⟨p, o, j, er⟩ 3 with op := o ++ [op], jk := [] } := by unfold blockS; rw [if_pos h5]; simp only [if_pos h128]
      have hfail := rdfail_ok b ⟨p, o, j, er⟩ 3
      have hfo : (failS ⟨p, o, j, er⟩ 3).op = o /\ (failS ⟨p, o, j, er⟩ 3).jk = j := by unfold failS; split <;> exact ⟨rfl, rfl⟩
      rw [h1]
      unfold rdM at hfail
      generalize failS ⟨p, o, j, er⟩ 3 = r2 at hfail hfo
      obtain ⟨p2, o2, j2, e2⟩ := r2
      obtain ⟨rfl, rfl⟩ := hfo
      have nx : type_of% @h6 /\ type_of% @List.take_left.{0} /\ True := ⟨@h6, ⟨@List.take_left.{0}, trivial⟩⟩
      refine' st4b6876
      all_goals first | exact ⟨trivial, trivial⟩ | exact ⟨rfl, trivial⟩ | exact ⟨rfl, rfl⟩ | exact ⟨trivial, rfl⟩ | (exfalso; omega) | trace_state
    · have h1 : blockS op ⟨p, o, j, er⟩ = ⟨p, o ++ [op], [], er⟩ := by unfold blockS; rw [if_pos h5]; simp only [if_neg h128]
      have nx : type_of% @h1 /\ type_of% @h6 /\ type_of% @List.take_left.{0} /\ True := ⟨@h1, ⟨@h6, ⟨@List.take_left.{0}, trivial⟩⟩⟩
      refine' st4b6876
      all_goals first | exact ⟨trivial, trivial⟩ | exact ⟨rfl, trivial⟩ | exact ⟨rfl, rfl⟩ | exact ⟨trivial, rfl⟩ | (exfalso; omega) | trace_state
end Go.Proofs.YtmomeejfopfchaaDoor
namespace Go.Proofs.YtmomeejfopfchaaDoor
set_option maxRecDepth 20000
open Go Go.Abs Nat
attribute [local irreducible] AW AWL AC FW CW CWr IntKind.wrap
theorem MER2.NM : type_of% @NSX /\ type_of% @St.keepS.eq_1 /\ type_of% @TY /\ type_of% @SLS /\ type_of% @nums_length :=
  ⟨NSX, St.keepS.eq_1, @TY, @SLS, @nums_length⟩
open MER2
theorem K1ER2.kp {P : Program} {c : Code} {Q : Exit -> St -> Prop} {st : St} (h : AW P c Q (st.keepS [0, 2])) : AW P c Q st := AW.keepS _ h
theorem K1ER2.cl {p : Prop} (h : p := by
  first
    | refine AWL.cM (f := 60) [(0, 0), (1002, 1002)] cb60 rfl rfl rfl rfl rfl rfl rfl (hfail) ?_
    | refine AWL.frzG rfl rfl rfl ?_
  all_goals (apply_rules (newGoals := .nonDependentOnly) only [dep])
  all_goals constructor) : p := h
theorem K1ER2.sd {p : Prop} (h : p := by first | exact sd8f4301) : p := h
theorem K2ER2.kp {P : Program} {c : Code} {Q : Exit -> St -> Prop} {st : St} (h : AW P c Q (st.keepS [0, 2, 3, 4, 5])) : AW P c Q st := AW.keepS _ h
theorem K2ER2.cl {p : Prop} (h : p := by
  first
    | refine AWL.cM (f := 60) [(0, 0), (1002, 1002)] cb60 rfl rfl rfl rfl rfl rfl rfl (hfail) ?_
    | refine AWL.frzG rfl rfl rfl ?_
    | refine AWL.cC (f := 28) cb28 rfl rfl rfl rfl rfl rfl (hu) ?_
  all_goals (apply_rules (newGoals := .nonDependentOnly) only [dep])
  all_goals constructor) : p := h
theorem K2ER2.sd {p : Prop} (h : p := by first | exact sd8f4301) : p := h
theorem K3ER2.kp {P : Program} {c : Code} {Q : Exit -> St -> Prop} {st : St} (h : AW P c Q (st.keepS [0, 1, 4, 5, 6, 7])) : AW P c Q st := AW.keepS _ h
theorem K3ER2.cl {p : Prop} (h : p := by
  first
    | refine AWL.cM (f := 60) [(0, 0), (1002, 1002)] cb60 rfl rfl rfl rfl rfl rfl rfl (hfail) ?_
    | refine AWL.frzG rfl rfl rfl ?_
    | refine AWL.cC (f := 71) cb71 rfl rfl rfl rfl rfl rfl (hs) ?_
  all_goals (apply_rules (newGoals := .nonDependentOnly) only [dep])
  all_goals constructor) : p := h
theorem K3ER2.sd {p : Prop} (h : p := by first | exact sd8f4301) : p := h
open K1ER2 in
set_option maxHeartbeats 1600000 in
theorem rdbyte_ok (b : List Int) (hb : bytes b) (hlen : b.length <= 1000000000) (r : Rd) (hr : okRd b r) : AM Tryd.prog 58 [.ptr 0 0] (rdM 0 1002 b r) [0] (fun v m => v = .int .i64 (byteS b r).1 /\ m = rdM 0 1002 b (byteS b r).2) := by
  have hfail := rdfail_ok b r 10
  obtain ⟨p, o, j, er⟩ := r
  obtain ⟨h0, h1⟩ := hr
  simp only at h0 h1
  obtain ⟨k, rfl⟩ : ∃ k : Nat, p = k := ⟨p.toNat, by omega⟩
  have ew : IntKind.i64.wrap ((k : Int) + 1) = (k : Int) + 1 := wrap64_id _ (by omega) (by omega)
  have ew2 : IntKind.i64.wrap ((k : Int) + 1 - 1) = (k : Int) := by rw [wrap64_id _ (by omega) (by omega)]; omega
  obtain ⟨A, hA⟩ : ∃ A, byteS b ⟨k, o, j, er⟩ = A := ⟨_, rfl⟩
  rw [hA]
  unfold rdM at hfail ⊢
  by_cases h : er ≠ 0 \/ (k : Int) >= b.length
  · have hA' : A = (0, failS ⟨k, o, j, er⟩ 10) := by rw [<- hA]; exact if_pos h
    subst hA'
    generalize failS ⟨k, o, j, er⟩ 10 = r2 at hfail
    obtain ⟨p2, o2, j2, e2⟩ := r2
    refine AM.enter Tryd.func58 rfl (Nat.le_of_ble_eq_true rfl) (fun pn => ?_)
    simp only [Tryd.f58]
    have nx : True := trivial
    refine' sta2f81e
    all_goals first | exact ⟨trivial, trivial⟩ | exact ⟨rfl, trivial⟩ | exact ⟨rfl, rfl⟩ | exact ⟨trivial, rfl⟩ | (exfalso; omega) | trace_state
  · have hA' : A = (b.getD k 0, ⟨(k : Int) + 1, o, j, er⟩) := by rw [<- hA]; exact if_neg h
    have hx := hb _ (getD_mem (show k < b.length by omega))
    have ex : IntKind.i64.wrap (b.getD k 0) = b.getD k 0 := wrap64_id _ (by have := hx.1; omega) (by have := hx.2; omega)
    subst hA'
    clear hA
    refine AM.enter Tryd.func58 rfl (Nat.le_of_ble_eq_true rfl) (fun pn => ?_)
    simp only [Tryd.f58]
    have nx : type_of% @ew /\ type_of% @ew2 /\ type_of% @ex /\ True := ⟨@ew, ⟨@ew2, ⟨@ex, trivial⟩⟩⟩
    refine' sta2f81e
    all_goals first | exact ⟨trivial, trivial⟩ | exact ⟨rfl, trivial⟩ | exact ⟨rfl, rfl⟩ | exact ⟨trivial, rfl⟩ | (exfalso; omega) | trace_state
open K2ER2 in
set_option maxHeartbeats 1600000 in
theorem rdnum_ok (b : List Int) (hb : bytes b) (hlen : b.length <= 1000000000) (r : Rd) (hr : okRd b r) : AM Tryd.prog 59 [.ptr 0 0] (rdM 0 1002 b r) [0] (fun v m => v = .int .i64 (numS b r).1 /\ m = rdM 0 1002 b (numS b r).2) := by
  have hfail := rdfail_ok b r 10
  have hu := u_ok b hb (by omega) r.pos 32
  have hus := fun h => uSpec_ok hb ⟨hr.p0, hr.p1⟩ h
  obtain ⟨p, o, j, er⟩ := r
  obtain ⟨h0, h1⟩ := hr
  simp only at h0 h1 hu hus
  obtain ⟨A, hA⟩ : ∃ A, numS b ⟨p, o, j, er⟩ = A := ⟨_, rfl⟩
  rw [hA]
  unfold numS at hA
  simp only at hA
  generalize uSpec b p 32 = z at hu hus hA
  obtain ⟨n, to, e⟩ := z
  simp only at hu hus hA
  unfold rdM at hfail ⊢
  refine AM.enter Tryd.func59 rfl (Nat.le_of_ble_eq_true rfl) (fun pn => ?_)
  simp only [Tryd.f59]
  by_cases h : er ≠ 0
  · rw [if_pos h] at hA
    subst hA
    have nx : True := trivial
    refine' std1d2c9
    all_goals first | exact ⟨trivial, trivial⟩ | exact ⟨rfl, trivial⟩ | exact ⟨rfl, rfl⟩ | exact ⟨trivial, rfl⟩ | (exfalso; omega) | trace_state
  · rw [if_neg h] at hA
    by_cases c : e ≠ 0
    · rw [if_pos c] at hA
      subst hA
      generalize failS ⟨p, o, j, er⟩ 10 = r2 at hfail
      obtain ⟨p2, o2, j2, e2⟩ := r2
      have nx : True := trivial
      refine' std1d2c9
      all_goals first | exact ⟨trivial, trivial⟩ | exact ⟨rfl, trivial⟩ | exact ⟨rfl, rfl⟩ | exact ⟨trivial, rfl⟩ | (exfalso; omega) | trace_state
    · rw [if_neg c] at hA
      subst hA
      have hus := hus (Classical.not_not.1 c)
      have ew : IntKind.i64.wrap n = n := wrap64_id _ (by omega) (by omega)
      have nx : type_of% @ew /\ True := ⟨@ew, trivial⟩
      refine' std1d2c9
      all_goals first | exact ⟨trivial, trivial⟩ | exact ⟨rfl, trivial⟩ | exact ⟨rfl, rfl⟩ | exact ⟨trivial, rfl⟩ | (exfalso; omega) | trace_state
open K3ER2 in
set_option maxHeartbeats 1600000 in
theorem rdsgn_ok (b : List Int) (hb : bytes b) (hlen : b.length <= 1000000000) (n : Int) (r : Rd) : AM Tryd.prog 69 [.ptr 0 0, .int .i64 n] (rdM 0 1002 b r) [0] (fun v m => v = .int .i64 (sgnS b n r).1 /\ m = rdM 0 1002 b (sgnS b n r).2) := by
  have hfail := rdfail_ok b r 10
  have hs := s_ok b hb (by omega) r.pos n
  obtain ⟨p, o, j, er⟩ := r
  simp only at hs
  obtain ⟨A, hA⟩ : ∃ A, sgnS b n ⟨p, o, j, er⟩ = A := ⟨_, rfl⟩
  rw [hA]
  unfold sgnS at hA
  simp only at hA
  generalize sSpec b p n = z at hs hA
  obtain ⟨x, to, e⟩ := z
  simp only at hs hA
  unfold rdM at hfail ⊢
  refine AM.enter Tryd.func69 rfl (Nat.le_of_ble_eq_true rfl) (fun pn => ?_)
  simp only [Tryd.f69]
  by_cases h : er ≠ 0
  · rw [if_pos h] at hA
    subst hA
    have nx : True := trivial
    refine' ste070be
    all_goals first | exact ⟨trivial, trivial⟩ | exact ⟨rfl, trivial⟩ | exact ⟨rfl, rfl⟩ | exact ⟨trivial, rfl⟩ | (exfalso; omega) | trace_state
  · rw [if_neg h] at hA
    by_cases c : e ≠ 0
    · rw [if_pos c] at hA
      subst hA
      generalize failS ⟨p, o, j, er⟩ 10 = r2 at hfail
      obtain ⟨p2, o2, j2, e2⟩ := r2
      have nx : True := trivial
      refine' ste070be
      all_goals first | exact ⟨trivial, trivial⟩ | exact ⟨rfl, trivial⟩ | exact ⟨rfl, rfl⟩ | exact ⟨trivial, rfl⟩ | (exfalso; omega) | trace_state
    · rw [if_neg c] at hA
      subst hA
      have nx : True := trivial
      refine' ste070be
      all_goals first | exact ⟨trivial, trivial⟩ | exact ⟨rfl, trivial⟩ | exact ⟨rfl, rfl⟩ | exact ⟨trivial, rfl⟩ | (exfalso; omega) | trace_state
end Go.Proofs.YtmomeejfopfchaaDoor
namespace Go.Proofs.YtmomeejfopfchaaDoor
set_option maxRecDepth 20000
open Go Go.Abs Nat
attribute [local irreducible] AW AWL AC FW CW CWr IntKind.wrap
theorem MER3.NM : type_of% @NSX /\ type_of% @St.keepS.eq_1 /\ type_of% @TY /\ type_of% @SLS /\ type_of% @nums_length :=
  ⟨NSX, St.keepS.eq_1, @TY, @SLS, @nums_length⟩
open MER3
theorem K1ER3.kp {P : Program} {c : Code} {Q : Exit -> St -> Prop} {st : St} (h : AW P c Q (st.keepS [0, 2, 3, 4, 25])) : AW P c Q st := AW.keepS _ h
theorem K1ER3.cl {p : Prop} (h : p := by
  first
    | refine AWL.cM (f := 60) [(0, 0), (1002, 1002)] cb60 rfl rfl rfl rfl rfl rfl rfl (hf11) ?_
    | refine AWL.cM (f := 60) [(0, 0), (1002, 1002)] cb60 rfl rfl rfl rfl rfl rfl rfl (hf10) ?_
    | refine AWL.cM (f := 69) [(0, 0), (1002, 1002)] cb69 rfl rfl rfl rfl rfl rfl rfl (hsg) ?_
  all_goals (apply_rules (newGoals := .nonDependentOnly) only [dep])
  all_goals constructor) : p := h
theorem K1ER3.sd {p : Prop} (h : p := by first | exact sd8f4301) : p := h
open K1ER3 in
set_option maxHeartbeats 3200000 in
theorem rdkind_ok (b : List Int) (hb : bytes b) (hlen : b.length <= 1000000000) (r : Rd) (hr : okRd b r) : AM Tryd.prog 68 [.ptr 0 0] (rdM 0 1002 b r) [0] (fun v m => v = .int .i64 (kindS b r).1 /\ m = rdM 0 1002 b (kindS b r).2) := by
  have hf11 := rdfail_ok b r 11
  have hsg := rdsgn_ok b hb hlen 33 r
  have hf10 := rdfail_ok b (sgnS b 33 r).2 10
  obtain ⟨A, hA⟩ : ∃ A, kindS b r = A := ⟨_, rfl⟩
  obtain ⟨B, hB⟩ : ∃ B, kindN b r = B := ⟨_, rfl⟩
  rw [hA]
  unfold kindS at hA
  rw [hB] at hA
  unfold kindN at hB
  have hp0 := hr.p0
  have hp1 := hr.p1
  generalize sgnS b 33 r = z at hsg hf10 hB
  obtain ⟨n, r1⟩ := z
  simp only at hsg hf10 hB
  have hB2 : B = (n, if n < 0 then failS r1 10 else r1) := hB.symm
  clear hB
  generalize failS r1 10 = r2 at hf10 hB2
  generalize failS r 11 = r3 at hf11 hA
  obtain ⟨p, o, j, er⟩ := r
  obtain ⟨p1, o1, j1, er1⟩ := r1
  obtain ⟨p2, o2, j2, er2⟩ := r2
  obtain ⟨p3, o3, j3, er3⟩ := r3
  simp only at hp0 hp1 hA
  obtain ⟨k, rfl⟩ : ∃ k : Nat, p = k := ⟨p.toNat, by omega⟩
  have ew : IntKind.i64.wrap ((k : Int) + 1) = (k : Int) + 1 := wrap64_id _ (by omega) (by omega)
  rw [Int.toNat_natCast] at hA
  unfold rdM at hf11 hf10 hsg ⊢
  refine AM.enter Tryd.func68 rfl (Nat.le_of_ble_eq_true rfl) (fun pn => ?_)
  simp only [Tryd.f68]
  by_cases h : (k : Int) < b.length
  · rw [if_pos h] at hA
    have hx := hb _ (getD_mem (show k < b.length by omega))
    obtain ⟨x, hxx⟩ : ∃ x, b.getD k 0 = x := ⟨_, rfl⟩
    rw [hxx] at hA hx
    have hx1 := hx.1
    have hx2 := hx.2
    have ex : IntKind.i64.wrap x = x := wrap64_id _ (by omega) (by omega)
    have ex2 : IntKind.i64.wrap (x - 128) = x - 128 := wrap64_id _ (by omega) (by omega)
    by_cases c1 : kindC x
    · rw [if_pos c1] at hA
      subst hA
      unfold kindC at c1
      rcases c1 with rfl | rfl | rfl | rfl
      all_goals
        have nx : type_of% @ew /\ type_of% @hxx /\ type_of% @ex /\ type_of% @ex2 /\ True := ⟨@ew, ⟨@hxx, ⟨@ex, ⟨@ex2, trivial⟩⟩⟩⟩
        refine' st5eb972
        all_goals first | exact ⟨trivial, trivial⟩ | exact ⟨rfl, trivial⟩ | exact ⟨rfl, rfl⟩ | exact ⟨trivial, rfl⟩ | (exfalso; omega) | trace_state
    · rw [if_neg c1] at hA
      by_cases c2 : floatC x
      · rw [if_pos c2] at hA
        subst hA
        unfold floatC at c2
        rcases c2 with rfl | rfl
        all_goals
          have nx : type_of% @ew /\ type_of% @hxx /\ type_of% @ex /\ type_of% @ex2 /\ True := ⟨@ew, ⟨@hxx, ⟨@ex, ⟨@ex2, trivial⟩⟩⟩⟩
          refine' st5eb972
          all_goals first | exact ⟨trivial, trivial⟩ | exact ⟨rfl, trivial⟩ | exact ⟨rfl, rfl⟩ | exact ⟨trivial, rfl⟩ | (exfalso; omega) | trace_state
      · rw [if_neg c2] at hA
        subst hA
        unfold kindC at c1
        unfold floatC at c2
        by_cases hn : n < 0
        · rw [if_pos hn] at hB2
          subst hB2
          have nx : type_of% @ew /\ type_of% @hxx /\ type_of% @ex /\ type_of% @ex2 /\ True := ⟨@ew, ⟨@hxx, ⟨@ex, ⟨@ex2, trivial⟩⟩⟩⟩
          refine' st5eb972
          all_goals first | exact ⟨trivial, trivial⟩ | exact ⟨rfl, trivial⟩ | exact ⟨rfl, rfl⟩ | exact ⟨trivial, rfl⟩ | (exfalso; omega) | trace_state
        · rw [if_neg hn] at hB2
          subst hB2
          have nx : type_of% @ew /\ type_of% @hxx /\ type_of% @ex /\ type_of% @ex2 /\ True := ⟨@ew, ⟨@hxx, ⟨@ex, ⟨@ex2, trivial⟩⟩⟩⟩
          refine' st5eb972
          all_goals first | exact ⟨trivial, trivial⟩ | exact ⟨rfl, trivial⟩ | exact ⟨rfl, rfl⟩ | exact ⟨trivial, rfl⟩ | (exfalso; omega) | trace_state
  · rw [if_neg h] at hA
    subst hA
    by_cases hn : n < 0
    · rw [if_pos hn] at hB2
      subst hB2
      have nx : type_of% @ew /\ True := ⟨@ew, trivial⟩
      refine' st5eb972
      all_goals first | exact ⟨trivial, trivial⟩ | exact ⟨rfl, trivial⟩ | exact ⟨rfl, rfl⟩ | exact ⟨trivial, rfl⟩ | (exfalso; omega) | trace_state
    · rw [if_neg hn] at hB2
      subst hB2
      have nx : type_of% @ew /\ True := ⟨@ew, trivial⟩
      refine' st5eb972
      all_goals first | exact ⟨trivial, trivial⟩ | exact ⟨rfl, trivial⟩ | exact ⟨rfl, rfl⟩ | exact ⟨trivial, rfl⟩ | (exfalso; omega) | trace_state
end Go.Proofs.YtmomeejfopfchaaDoor
namespace Go.Abs
set_option maxRecDepth 20000
open Go Go.RowKit
section
variable {P : Program} {C : Ctx} {st st' : St} {a : Act} {w : World} {l : List Oper} {o : Oper} {Q : Exit -> St -> Prop} {L : Array Bool} {n : Nat}
def AT (P : Program) (l : List Oper) (Q : Exit -> St -> Prop) (L : Array Bool) (n : Nat) (st : St) : Prop :=
  ∀ (C : Ctx) (a : Act) (w : World) (ls : List Nat), Lists l L ls -> SRx C st a w -> wpAny P .any l.toArray (AQ C Q) n L a w
theorem memL1 {p : Nat -> Prop} {a : Nat} (h : p a) : ∀ j ∈ [a], p j := fun j hj => by rw [List.mem_singleton.1 hj]; exact h
theorem memL2 {p : Nat -> Prop} {a b : Nat} (h : p a) (h2 : p b) : ∀ j ∈ [a, b], p j := fun j hj => by
  rcases List.mem_cons.1 hj with rfl | hj
  · exact h
  · exact memL1 h2 j hj
def ATQ (Q : Exit -> St -> Prop) (X : St -> Prop) : Exit -> St -> Prop := fun e s => match e with
  | .normal => X s
  | e => Q e s
theorem upon_eq {K : Act -> World -> Prop} {Q1 Q2 : Exit -> Act -> World -> Prop} (h1 : ∀ c, Q1 (.panic c) = Q2 (.panic c)) (h2 : Q1 .outgrown = Q2 .outgrown) (r : Result Next) : o.upon P a K Q1 r = o.upon P a K Q2 r := by
  have h3 : LetsOut Q1 = LetsOut Q2 := by unfold LetsOut; rw [h2]
  unfold Oper.upon
  split <;> simp only [h1, h3]
theorem wpList_one {X : St -> Prop} {K : Act -> World -> Prop} {i : Nat} (hK : ∀ a w, (∃ s, X s /\ SRx C s a w) -> K a w) (ho : l[i]? = some o) (h : wpList P l.toArray (AQ C (ATQ Q X)) [o] a w) : wpOp P l.toArray (AQ C Q) i K a w := by
  unfold wpOp
  rw [show l.toArray[i]? = some o from by simpa using ho]
  simp only
  have h : (if Region.wanted o (yielded l.toArray a.tmps) then o.wp P a w (wpList P l.toArray (AQ C (ATQ Q X)) []) (AQ C (ATQ Q X)) \/ (o.asks P a w /\ LetsOut (AQ C (ATQ Q X))) else wpList P l.toArray (AQ C (ATQ Q X)) [] (a.put o.dst undef) w) := h
  have hk : ∀ a w, wpList P l.toArray (AQ C (ATQ Q X)) [] a w -> K a w := fun a w ⟨s, hs, hr⟩ => hK a w ⟨s, hs, hr⟩
  split at h
  · rename_i hw
    rw [if_pos hw]
    rcases h with h | ⟨h1, h2⟩
    · refine .inl (Oper.wp_mono hk ?_)
      unfold Oper.wp at h ⊢
      have e := upon_eq (P := P) (o := o) (a := a) (K := wpList P l.toArray (AQ C (ATQ Q X)) []) (Q1 := AQ C (ATQ Q X)) (Q2 := AQ C Q) (fun _ => rfl) rfl ((execOp a.eval o).run P w)
      rw [e] at h
      exact h
    · exact .inr ⟨h1, h2⟩
  · rename_i hw
    rw [if_neg hw]
    exact hk _ _ h
theorem AW.drawT {id : Nat} {L0 : Array Bool} (hL : Array.replicate l.length false = L0) (hm : P.follows .mixedOrders = true) (h : AT P l Q L0 l.length st) : AW P (.region id l.toArray true) Q st := fun C a w hs => by
  subst hL
  refine wp_region_any hm ?_
  have hsz : l.toArray.size = l.length := by simp
  rw [hsz]
  have hnone0 : ∀ j, ¬ LS (Array.replicate l.length false) j := fun j hL => by
    unfold LS at hL
    simp only [Array.getD_eq_getD_getElem?, Array.getElem?_replicate] at hL
    split at hL <;> cases hL
  obtain ⟨S, β, hs⟩ := hs
  refine h C a _ [] ⟨by simp, List.nodup_nil, fun j => ?_, fun j hj => (by cases hj), fun i o _ hL => absurd hL (hnone0 _)⟩ (hs.drawn _)
  constructor
  · intro h; cases h
  · intro h; exact absurd h (hnone0 _)
theorem AT.step (R : List Nat) (hR : Region.ready .any l.toArray L = R) (hne : R ≠ [])
    (h : ∀ i ∈ R, ∃ o L', l[i]? = some o /\ L.setIfInBounds i true = L' /\ AWL P l.toArray [o] (ATQ Q (AT P l Q L' n)) st) : AT P l Q L (n + 1) st := fun C a w ls hl hs => by
  refine wpAny_all hR hne fun i hi => ?_
  obtain ⟨o, L', ho, rfl, hA⟩ := h i hi
  have hi' : i ∈ Region.ready .any l.toArray L := by rw [hR]; exact hi
  exact wpList_one (fun a' w' ⟨s, h1, h2⟩ => h1 C a' w' _ (hl.step hi') h2) ho (hA C a w hs)
theorem AT.done (hR : Region.ready .any l.toArray L = []) (h : Q .normal st) : AT P l Q L n st := fun C a w ls hl hs => wpAny_done hR ⟨st, h, hs⟩ n
theorem hpanT (hpan : PanOk Q) {d : Nat} {v : Value} : ∀ c (a : Act) (w : World), AQ C Q (.panic c) (a.put (some d) v) w -> AQ C Q (.panic c) a w := fun c a w ⟨s, hq, S, β, hs⟩ => ⟨_, hpan c s d hq, S, β, hs.unput⟩
theorem AT.takeM (i : Nat) {L' : Array Bool} {d : Nat} {x : Operand} (ho : l[i]? = some o) (hg : o.guard = none) (hd : o.dst = some d) (hop : o.op = .move x) (hdn : Nat.ble (d + 1) st.n = true) (hpan : PanOk Q)
    (hchk : (Region.noSelect l.toArray && Region.free .any l.toArray L i && (Region.ready .any l.toArray L).contains i) = true) (hL : L.setIfInBounds i true = L') (h : AT P l Q L' n (st.put d (st.ev x))) : AT P l Q L (n + 1) st := fun C a w ls hl ⟨S, β, hs⟩ => by
  subst hL
  simp only [Bool.and_eq_true] at hchk
  refine wpAny_take (v := a.eval x) (by simpa using ho) hchk.1.1 hchk.1.2 hchk.2 ?_ (.inl ⟨by simp [Region.wanted, hg], fun w => ?_⟩) ?_
  · rw [hd]; exact hpanT hpan
  · unfold execOp; simp [hop]
  · rw [hd]
    exact h C _ w _ (hl.step (by simpa using hchk.2)) ⟨S, β, hs.put (Nat.le_of_ble_eq_true hdn) (ev_VR hs x)⟩
theorem AT.takeN (i : Nat) {L' : Array Bool} {d k off : Nat} {x : Operand} (ho : l[i]? = some o) (hg : o.guard = none) (hd : o.dst = some d) (hop : o.op = .nilCheck x) (hx : st.ev x = .ptr k off) (hdn : Nat.ble (d + 1) st.n = true) (hpan : PanOk Q)
    (hchk : (Region.noSelect l.toArray && Region.free .any l.toArray L i && (Region.ready .any l.toArray L).contains i) = true) (hL : L.setIfInBounds i true = L') (h : AT P l Q L' n (st.put d (.ptr k off))) : AT P l Q L (n + 1) st := fun C a w ls hl ⟨S, β, hs⟩ => by
  subst hL
  simp only [Bool.and_eq_true] at hchk
  have h0 := ev_VR hs x
  rw [hx] at h0
  obtain ⟨bi, hbi, hu⟩ := VR.ptr_inv h0
  refine wpAny_take (v := .pointer (some ⟨bi.blk, bi.off + off, none⟩)) (by simpa using ho) hchk.1.1 hchk.1.2 hchk.2 ?_ (.inl ⟨by simp [Region.wanted, hg], fun w => ?_⟩) ?_
  · rw [hd]; exact hpanT hpan
  · unfold execOp; simp [hop, hu]
  · rw [hd]
    exact h C _ w _ (hl.step (by simpa using hchk.2)) ⟨S, β, hs.put (Nat.le_of_ble_eq_true hdn) (.ptr k off bi hbi)⟩
theorem AT.takeF (i : Nat) {L' : Array Bool} {d k off f o2 m : Nat} {bb : Bool} {t ty : TypeId} {x : Operand} (ho : l[i]? = some o) (hg : o.guard = none) (hd : o.dst = some d) (hop : o.op = .fieldAddr t x f) (hx : st.ev x = .ptr k off) (hf : fldT P t f = some (o2, bb, m, ty)) (hm : Nat.ble 1 m = true) (hdn : Nat.ble (d + 1) st.n = true) (hpan : PanOk Q)
    (hchk : (Region.noSelect l.toArray && Region.free .any l.toArray L i && (Region.ready .any l.toArray L).contains i) = true) (hL : L.setIfInBounds i true = L') (h : AT P l Q L' n (st.put d (.ptr k (off + o2)))) : AT P l Q L (n + 1) st := fun C a w ls hl ⟨S, β, hs⟩ => by
  subst hL
  simp only [Bool.and_eq_true] at hchk
  have h0 := ev_VR hs x
  rw [hx] at h0
  obtain ⟨bi, hbi, hu⟩ := VR.ptr_inv h0
  obtain ⟨fs, g, hfs, hg2, rfl, hb, hn⟩ := fldT_spec hf
  have hpos : m ≠ 0 := by have := Nat.le_of_ble_eq_true hm; omega
  refine wpAny_take (v := .pointer (some ⟨bi.blk, bi.off + (off + g.offset), none⟩)) (by simpa using ho) hchk.1.1 hchk.1.2 hchk.2 ?_ (.inl ⟨by simp [Region.wanted, hg], fun w => ?_⟩) ?_
  · rw [hd]; exact hpanT hpan
  · unfold execOp; simp [hop, hu, Instr.fieldAt, run_underlying hfs, hg2, Instr.sureAddr, fieldPlace, run_sizeOf hn, hpos, add_addr, Nat.add_assoc]
  · rw [hd]
    exact h C _ w _ (hl.step (by simpa using hchk.2)) ⟨S, β, hs.put (Nat.le_of_ble_eq_true hdn) (.ptr k (off + g.offset) bi hbi)⟩
theorem AT.via (L1 : Array Bool) (n1 : Nat) (s1 : St) (h1 : AT P l Q L1 n1 s1) (h2 : AT P l Q L1 n1 s1 -> AT P l Q L n st) : AT P l Q L n st := h2 h1
theorem AT.keep (is ks : List Nat) (h : AT P l Q L n (st.keep is ks)) : AT P l Q L n st := fun C a w ls hl ⟨S, β, hs⟩ => h C a w ls hl ⟨S, β, hs.keep is ks⟩
end
end Go.Abs
namespace Go.Proofs.YtmomeejfopfchaaDoor
set_option maxRecDepth 20000
open Go Go.Abs Nat
attribute [local irreducible] AW AWL AC FW CW CWr IntKind.wrap
def inM (k kl : Nat) (i : Ins) : Mem := [(k, ⟨false, [.int .i64 i.op, .int .i64 i.a, .int .i64 i.b, .int .u64 i.lo, .int .u64 i.hi, .ref kl 0 i.l.length 1]⟩), (kl, ⟨true, nums .i64 i.l⟩)]
theorem MEFld.NM : type_of% @NSX /\ type_of% @St.keepS.eq_1 /\ type_of% @TY /\ type_of% @SLS /\ type_of% @nums_length :=
  ⟨NSX, St.keepS.eq_1, @TY, @SLS, @nums_length⟩
open MEFld
theorem K1EFld.kp {P : Program} {c : Code} {Q : Exit -> St -> Prop} {st : St} (h : AW P c Q (st.keepS [0, 1, 2, 6, 7, 8, 9, 10, 99])) : AW P c Q st := AW.keepS _ h
theorem K1EFld.cl {p : Prop} (h : p := by
  first
    | refine AWL.cM (f := 60) [(0, 0), (1002, 1002)] cb60 rfl rfl rfl rfl rfl rfl rfl (hfl) ?_
    | refine AWL.cM (f := 68) [(0, 0), (1002, 1002)] cb68 rfl rfl rfl rfl rfl rfl rfl (hkd) ?_
    | refine AWL.cM (f := 59) [(0, 0), (1002, 1002)] cb59 rfl rfl rfl rfl rfl rfl rfl (hn1) ?_
    | refine AWL.cM (f := 59) [(0, 0), (1002, 1002)] cb59 rfl rfl rfl rfl rfl rfl rfl (hn2) ?_
    | refine AWL.cM (f := 58) [(0, 0), (1002, 1002)] cb58 rfl rfl rfl rfl rfl rfl rfl (hby) ?_
    | refine AWL.cM (f := 69) [(0, 0), (1002, 1002)] cb69 rfl rfl rfl rfl rfl rfl rfl (hsg) ?_
  all_goals (apply_rules (newGoals := .nonDependentOnly) only [dep])
  all_goals constructor) : p := h
theorem K1EFld.sd {p : Prop} (h : p := by first | exact sd1eb496) : p := h
open K1EFld in
set_option maxHeartbeats 6400000 in
theorem rdfields0_ok (b : List Int) (hb : bytes b) (hlen : b.length <= 1000000000) (r : Rd) (hr : okRd b r) (form : Int) (h4 : form ≠ 4) (h11 : form ≠ 11) (h12 : form ≠ 12) (i : Ins) :
    AM Tryd.prog 63 [.ptr 0 0, .ptr 1 0, .int .i64 form] (rdM 0 1002 b r ++ inM 1 2005 i) [0, 1] (fun v m => v = .tup [] /\ m = rdM 0 1002 b (fieldsS b form r i).2 ++ inM 1 2005 (fieldsS b form r i).1) := by
  obtain ⟨io, ia, ib, il, ih, ill⟩ := i
  have hfl : True := trivial
  have hkd : True := trivial
  have hn1 : True := trivial
  have hn2 : True := trivial
  have hby : True := trivial
  have hsg : True := trivial
  have hcs : form = 2 \/ form = 3 \/ form = 5 \/ form = 6 \/ form = 7 \/ form = 8 \/ form = 9 \/ form = 10 \/ form = 13 \/ form = 14 \/ (form ≠ 2 /\ form ≠ 3 /\ form ≠ 5 /\ form ≠ 6 /\ form ≠ 7 /\ form ≠ 8 /\ form ≠ 9 /\ form ≠ 10 /\ form ≠ 13 /\ form ≠ 14) := by omega
  obtain ⟨A, hA⟩ : ∃ A, fieldsS b form r ⟨io, ia, ib, il, ih, ill⟩ = A := ⟨_, rfl⟩
  rw [hA]
  unfold fieldsS at hA
  rcases hcs with rfl | rfl | rfl | rfl | rfl | rfl | rfl | rfl | rfl | rfl | ⟨g1, g2, g3, g4, g5, g6, g7, g8, g9, g10⟩
  case' inl =>
    rw [if_pos rfl] at hA
    have hkd := rdkind_ok b hb hlen r hr
    generalize kindS b r = z at hA hkd
    obtain ⟨n, r1⟩ := z
    have ew : True := trivial
    have ez : True := trivial
  case' inr.inl =>
    rw [if_neg (by decide), if_pos (by decide)] at hA
    have hn1 := rdnum_ok b hb hlen r hr
    generalize numS b r = z at hA hn1
    obtain ⟨n, r1⟩ := z
    have ew : True := trivial
    have ez : True := trivial
  case' inr.inr.inl =>
    rw [if_neg (by decide), if_pos (by decide)] at hA
    have hn1 := rdnum_ok b hb hlen r hr
    generalize numS b r = z at hA hn1
    obtain ⟨n, r1⟩ := z
    have ew : True := trivial
    have ez : True := trivial
  case' inr.inr.inr.inl =>
    rw [if_neg (by decide), if_neg (by decide), if_neg (by decide), if_pos (by decide)] at hA
    have hn1 := rdnum_ok b hb hlen r hr
    have hr1 := (numS_ok hb hr).1
    generalize numS b r = z at hA hn1 hr1
    obtain ⟨n, r1⟩ := z
    have hn2 := rdnum_ok b hb hlen r1 hr1
    have ew : True := trivial
    have ez : True := trivial
  case' inr.inr.inr.inr.inl =>
    rw [if_neg (by decide), if_neg (by decide), if_neg (by decide), if_pos (by decide)] at hA
    have hn1 := rdnum_ok b hb hlen r hr
    have hr1 := (numS_ok hb hr).1
    generalize numS b r = z at hA hn1 hr1
    obtain ⟨n, r1⟩ := z
    have hn2 := rdnum_ok b hb hlen r1 hr1
    have ew : True := trivial
    have ez : True := trivial
  case' inr.inr.inr.inr.inr.inl =>
    rw [if_neg (by decide), if_neg (by decide), if_neg (by decide), if_neg (by decide), if_pos (by decide)] at hA
    have hn1 := rdnum_ok b hb hlen r hr
    have hr1 := (numS_ok hb hr).1
    generalize numS b r = z at hA hn1 hr1
    obtain ⟨n, r1⟩ := z
    have hn2 := rdnum_ok b hb hlen r1 hr1
    have hr2 := (numS_ok hb hr1).1
    simp only at hA
    generalize numS b r1 = z2 at hA hn2 hr2
    obtain ⟨n2, r2⟩ := z2
    have hby := rdbyte_ok b hb hlen r2 hr2
    have hx := byteS_byte hb hr2
    simp only at hA
    generalize byteS b r2 = z3 at hA hby hx
    obtain ⟨n3, r3⟩ := z3
    have ew : IntKind.u64.wrap n3 = n3 := wrap_in rfl hx.1 (by have := hx.2; show _ < (18446744073709551616 : Int); simp only at this ⊢; omega)
    have ez : True := trivial
  case' inr.inr.inr.inr.inr.inr.inl =>
    rw [if_neg (by decide), if_neg (by decide), if_neg (by decide), if_neg (by decide), if_neg (by decide), if_pos (by decide)] at hA
    have hsg := rdsgn_ok b hb hlen 32 r
    generalize sgnS b 32 r = z at hA hsg
    obtain ⟨n, r1⟩ := z
    have ew : IntKind.u32.wrap n = n % 4294967296 := wrap_unsigned (k := .u32) rfl _
    have ez : IntKind.u64.wrap (n % 4294967296) = n % 4294967296 := wrap_in rfl (by omega) (by show _ < (18446744073709551616 : Int); omega)
  case' inr.inr.inr.inr.inr.inr.inr.inl =>
    rw [if_neg (by decide), if_neg (by decide), if_neg (by decide), if_neg (by decide), if_neg (by decide), if_neg (by decide), if_pos (by decide)] at hA
    have hsg := rdsgn_ok b hb hlen 64 r
    generalize sgnS b 64 r = z at hA hsg
    obtain ⟨n, r1⟩ := z
    have ew : IntKind.u64.wrap n = n % 18446744073709551616 := wrap_unsigned (k := .u64) rfl _
    have ez : True := trivial
  case' inr.inr.inr.inr.inr.inr.inr.inr.inl =>
    rw [if_neg (by decide), if_neg (by decide), if_neg (by decide), if_neg (by decide), if_neg (by decide), if_neg (by decide), if_neg (by decide), if_neg (by decide), if_pos (by decide)] at hA
    have hby := rdbyte_ok b hb hlen r hr
    generalize byteS b r = z at hA hby
    obtain ⟨n, r1⟩ := z
    have ew : True := trivial
    have ez : True := trivial
  case' inr.inr.inr.inr.inr.inr.inr.inr.inr.inl =>
    rw [if_neg (by decide), if_neg (by decide), if_neg (by decide), if_neg (by decide), if_neg (by decide), if_neg (by decide), if_neg (by decide), if_neg (by decide), if_neg (by decide), if_pos (by decide)] at hA
    have hby := rdbyte_ok b hb hlen r hr
    generalize byteS b r = z at hA hby
    obtain ⟨n, r1⟩ := z
    have hfl := rdfail_ok b r1 10
    simp only at hA
    generalize failS r1 10 = r2 at hA hfl
    have ew : True := trivial
    have ez : True := trivial
    by_cases hn0 : n = 0
    case' pos => rw [if_neg (fun h => h hn0)] at hA
    case' neg => rw [if_pos hn0] at hA
  case' inr.inr.inr.inr.inr.inr.inr.inr.inr.inr =>
    rw [if_neg g1, if_neg (by omega), if_neg h4, if_neg (by omega), if_neg g6, if_neg g7, if_neg g8, if_neg (by omega), if_neg g9, if_neg g10] at hA
    have ew : True := trivial
    have ez : True := trivial
  all_goals
    subst hA
    unfold rdM inM at *
    refine AM.enter Tryd.func63 rfl (Nat.le_of_ble_eq_true rfl) (fun pn => ?_)
    simp only [Tryd.f63]
    have nx : type_of% @ew /\ type_of% @ez /\ True := ⟨@ew, ⟨@ez, trivial⟩⟩
    refine' stf5711c
    all_goals first | exact ⟨trivial, trivial⟩ | exact ⟨rfl, trivial⟩ | exact ⟨rfl, rfl⟩ | exact ⟨trivial, rfl⟩ | (exfalso; omega) | trace_state
end Go.Proofs.YtmomeejfopfchaaDoor
namespace Go.Proofs.YtmomeejfopfchaaDoor
set_option maxRecDepth 20000
open Go Go.Abs Nat
attribute [local irreducible] AW AWL AC FW CW CWr IntKind.wrap
def TB (pn : Nat -> Option BI) (b : List Int) (r : Rd) (io ia ib il ih : Int) (l : List Int) (k : Nat) : St := { n := 134, slots := [(0, .ptr 0 0), (1, .ptr 1 0), (6, .int .i64 (k : Int))], mem := [(0, ⟨false, [.view b.length 1 (nums .u8 b), .int .i64 r.pos, .ref 1002 0 r.op.length 1, .int .i64 r.err]⟩), (1002, ⟨true, nums .i64 (r.op ++ r.jk)⟩), (1, ⟨false, [.int .i64 io, .int .i64 ia, .int .i64 ib, .int .u64 il, .int .u64 ih, .ref 2005 0 l.length 1]⟩), (2005, ⟨true, nums .i64 l⟩)], lent := [(0, pn 0), (1002, none), (1, pn 1), (2005, none)] }
def TB7 (pn : Nat -> Option BI) (b : List Int) (r : Rd) (io ia ib il ih : Int) (l : List Int) (k : Nat) (x : Int) : St := { n := 134, slots := [(0, .ptr 0 0), (1, .ptr 1 0), (6, .int .i64 (k : Int)), (41, .ptr 1 0), (45, .ref 2005 0 l.length 1), (48, .ref 48 0 1 1)], mem := [(0, ⟨false, [.view b.length 1 (nums .u8 b), .int .i64 r.pos, .ref 1002 0 r.op.length 1, .int .i64 r.err]⟩), (1002, ⟨true, nums .i64 (r.op ++ r.jk)⟩), (1, ⟨false, [.int .i64 io, .int .i64 ia, .int .i64 ib, .int .u64 il, .int .u64 ih, .ref 2005 0 l.length 1]⟩), (2005, ⟨true, nums .i64 l⟩), (48, ⟨true, nums .i64 [x]⟩)], lent := [(0, pn 0), (1002, none), (1, pn 1), (2005, none)] }
def TR (pn : Nat -> Option BI) (b : List Int) (r : Rd) (io ia ib il ih : Int) (l v : List Int) (k : Nat) : St := { n := 134, slots := [(0, .ptr 0 0), (1, .ptr 1 0), (7, .ptr 7 0), (99, .int .i64 (k : Int))], mem := [(0, ⟨false, [.view b.length 1 (nums .u8 b), .int .i64 r.pos, .ref 1002 0 r.op.length 1, .int .i64 r.err]⟩), (1002, ⟨true, nums .i64 (r.op ++ r.jk)⟩), (1, ⟨false, [.int .i64 io, .int .i64 ia, .int .i64 ib, .int .u64 il, .int .u64 ih, .ref 2005 0 l.length 1]⟩), (2005, ⟨true, nums .i64 l⟩), (7, ⟨true, nums .u8 v⟩)], lent := [(0, pn 0), (1002, none), (1, pn 1), (2005, none)] }
theorem numS_pos {b : List Int} (hb : bytes b) {r : Rd} (h : okRd b r) (he : r.err = 0) : r.pos + (if (numS b r).2.err = 0 then 1 else 0) <= (numS b r).2.pos := by
  by_cases c : (uSpec b r.pos 32).2.2 = 0
  · have e : numS b r = ((uSpec b r.pos 32).1, { r with pos := (uSpec b r.pos 32).2.1 }) := by unfold numS; rw [if_neg (fun h => h he), if_neg (fun h => h c)]
    have := uSpec_ok hb ⟨h.p0, h.p1⟩ c
    rw [e]; simp only
    split <;> omega
  · have e : numS b r = (0, failS r 10) := by unfold numS; rw [if_neg (fun h => h he), if_pos c]
    have e2 : failS r 10 = { r with err := 10 } := if_pos he
    rw [e, e2]; simp
theorem MEFld2.NM : type_of% @NSX /\ type_of% @St.keepS.eq_1 /\ type_of% @TY /\ type_of% @SLS /\ type_of% @nums_length /\ type_of% @take16 /\ type_of% @TB.eq_1 /\ type_of% @TB7.eq_1 /\ type_of% @TR.eq_1 :=
  ⟨NSX, St.keepS.eq_1, @TY, @SLS, @nums_length, @take16, @TB.eq_1, @TB7.eq_1, @TR.eq_1⟩
open MEFld2
theorem suc26ddaEFld2 {p : Prop} (h : p := by
  repeat' (first
    | ((with_reducible show AW _ _ _ _); first | ((first | refine AW.seqA ?_ | refine AW.blockA ?_); intro Qn hQn hPn))
    | ((with_reducible show AWL _ _ _ _ _); refine AWL.lentD rfl rfl ?_; (try (conv => arg -1; simp (disch := omega) only [NM, Nat.reduceBEq, reduceAdd, reduceMul, Int.reduceToNat, reduceSub, List.set_cons_zero, List.set_cons_succ, nx])))
    | ((with_reducible first | show AWL _ _ _ _ _ | show AW _ _ _ _); (first | refine AWL.nil ?_ | refine AW.skip ?_ | refine AW.ret ?_ | refine AW.exit ?_); (repeat (first | refine QEq.mp (by assumption) ?_ | simp only [thenQ, Go.Abs.blockQ, ↓reduceIte, Nat.reduceEqDiff])))
    | ((first
      | ((with_reducible show AWL _ _ _ _ _); first | refine AWL.opN (sl := SL) rfl rfl rfl trivial ?_ | (refine AWL.allocF (t := 133) rfl rfl rfl rfl rfl rfl ?_) | (refine AWL.op (sl := SL) rfl rfl ?_ ?_) | (refine AWL.ptrNil rfl rfl rfl rfl rfl rfl (by kernel_rfl) ?_) | (refine AWL.sliceNil rfl rfl rfl rfl rfl (by kernel_rfl) ?_ ?_; (focus (first | exact trivial | exact numsZ)); (intro r hr; cases r <;> first | (have hr := hr rfl) | (clear hr))) | (refine AWL.guard2 rfl rfl rfl rfl rfl rfl ?_ ?_ <;> (intro hc; (try simp only [Bool.not_true, Bool.not_false] at hc); first | (cases hc; done) | ((try simp only [hc]); (try simp only [HCX] at hc); (try (exfalso; omega)); (try (guard_hyp hc : True; clear hc))))) | refine AWL.guardU rfl rfl rfl rfl rfl rfl ?_ | refine' cl)
      | ((with_reducible show AW _ _ _ _); first | ((show AW _ (.region _ _ false) _ _); refine kp ?_; refine AW.region ?_))
      | ((with_reducible show AT _ _ _ _ _ _); refine' att2)) <;> (try ((first | with_reducible (first | show AWL _ _ _ _ _ | show AW _ _ _ _ | show DQ _ _ _ _ _ _) | (rintro _ _ ⟨rfl, rfl⟩; (try refine And.intro (by kernel_rfl) ?_))); (try (conv => arg -1; simp (disch := omega) only [NM, Nat.reduceBEq, reduceAdd, reduceMul, Int.reduceToNat, reduceSub, List.set_cons_zero, List.set_cons_succ, nx])))))
    | ((with_reducible show AW _ _ _ _); first | (refine AW.cond rfl (fun hc => ?_) (fun hc => ?_) <;> first | (cases hc; done) | ((try simp only [HCX] at hc); (try (exfalso; omega)); (try (guard_hyp hc : True; clear hc)))))
    | ((with_reducible show True); exact trivial) | ((with_reducible show ATQ _ _ _ _); show AT _ _ _ _ _ _)
    | ((refine EndM.mk [0, 1002, 1, 2005] rfl rfl rfl rfl ?_ ?_ ?_ ?_; (focus (first | exact Or.inl rfl | exact Or.inr rfl)); (focus (repeat (first | exact List.forall_mem_nil _ | refine List.forall_mem_cons.2 ⟨rfl, ?_⟩)))) <;> (try simp (disch := omega) only [NM, Nat.reduceBEq, reduceAdd, reduceMul, Int.reduceToNat, reduceSub, List.set_cons_zero, List.set_cons_succ, nx]))
    | exact sd
    | fail)
  all_goals (try clear nx)
  all_goals (apply_rules (newGoals := .nonDependentOnly) only [dep])
  all_goals constructor) : p := h
theorem K1EFld2.kp {P : Program} {c : Code} {Q : Exit -> St -> Prop} {st : St} (h : AW P c Q (st.keepS [0, 1, 2, 6, 7, 8, 9, 10, 99])) : AW P c Q st := AW.keepS _ h
theorem K1EFld2.cl {p : Prop} (h : p := by
  first
    | refine AWL.cM (f := 59) [(0, 0), (1002, 1002)] cb59 rfl rfl rfl rfl rfl rfl rfl (hn1) ?_
    | refine AWL.cM (f := 58) [(0, 0), (1002, 1002)] cb58 rfl rfl rfl rfl rfl rfl rfl (hby) ?_
    | refine AWL.frzG rfl rfl rfl ?_
    | refine AWL.cC (f := 70) cb70 rfl rfl rfl rfl rfl rfl (hsp) ?_
  all_goals (apply_rules (newGoals := .nonDependentOnly) only [dep])
  all_goals constructor) : p := h
theorem K1EFld2.att {p : Prop} (h : p := by
  first
    | (first | refine AT.step (L := (bA 12 255)) [8] (by decide +kernel) (by decide) (memL1 ⟨_, (bA 12 511), rfl, (by decide +kernel), ?_⟩) | (refine AT.takeN (L := (bA 12 511)) (L' := (bA 12 1023)) 9 rfl rfl rfl rfl rfl rfl panA (by decide +kernel) (by decide +kernel) ?_; (try (conv => arg -1; simp (disch := omega) only [NM, Nat.reduceBEq, reduceAdd, reduceMul, Int.reduceToNat, reduceSub, List.set_cons_zero, List.set_cons_succ, nx]))) | (refine AT.takeF (L := (bA 12 1023)) (L' := (bA 12 2047)) 10 rfl rfl rfl rfl rfl rfl rfl rfl panA (by decide +kernel) (by decide +kernel) ?_; (try (conv => arg -1; simp (disch := omega) only [NM, Nat.reduceBEq, reduceAdd, reduceMul, Int.reduceToNat, reduceSub, List.set_cons_zero, List.set_cons_succ, nx]))) | refine AT.step (L := (bA 12 2047)) [11] (by decide +kernel) (by decide) (memL1 ⟨_, (bA 12 4095), rfl, (by decide +kernel), ?_⟩) | refine AT.done (L := (bA 12 4095)) (by decide +kernel) ?_)
  all_goals (apply_rules (newGoals := .nonDependentOnly) only [dep])
  all_goals constructor) : p := h
theorem K1EFld2.att2 {p : Prop} (h : p := by
  first
    | (first | (refine AT.takeM (L := (bA 12 0)) (L' := (bA 12 1)) 0 rfl rfl rfl rfl rfl panA (by decide +kernel) (by decide +kernel) ?_; (try (conv => arg -1; simp (disch := omega) only [NM, Nat.reduceBEq, reduceAdd, reduceMul, Int.reduceToNat, reduceSub, List.set_cons_zero, List.set_cons_succ, nx]))) | (refine AT.takeM (L := (bA 12 1)) (L' := (bA 12 3)) 1 rfl rfl rfl rfl rfl panA (by decide +kernel) (by decide +kernel) ?_; (try (conv => arg -1; simp (disch := omega) only [NM, Nat.reduceBEq, reduceAdd, reduceMul, Int.reduceToNat, reduceSub, List.set_cons_zero, List.set_cons_succ, nx]))) | (refine AT.takeN (L := (bA 12 3)) (L' := (bA 12 7)) 2 rfl rfl rfl rfl rfl rfl panA (by decide +kernel) (by decide +kernel) ?_; (try (conv => arg -1; simp (disch := omega) only [NM, Nat.reduceBEq, reduceAdd, reduceMul, Int.reduceToNat, reduceSub, List.set_cons_zero, List.set_cons_succ, nx]))) | (refine AT.takeF (L := (bA 12 7)) (L' := (bA 12 15)) 3 rfl rfl rfl rfl rfl rfl rfl rfl panA (by decide +kernel) (by decide +kernel) ?_; (try (conv => arg -1; simp (disch := omega) only [NM, Nat.reduceBEq, reduceAdd, reduceMul, Int.reduceToNat, reduceSub, List.set_cons_zero, List.set_cons_succ, nx]))) | (refine AT.takeM (L := (bA 12 15)) (L' := (bA 12 47)) 5 rfl rfl rfl rfl rfl panA (by decide +kernel) (by decide +kernel) ?_; (try (conv => arg -1; simp (disch := omega) only [NM, Nat.reduceBEq, reduceAdd, reduceMul, Int.reduceToNat, reduceSub, List.set_cons_zero, List.set_cons_succ, nx]))) | refine AT.step (L := (bA 12 47)) [4, 6] (by decide +kernel) (by decide) (memL2 ⟨_, (bA 12 63), rfl, (by decide +kernel), ?_⟩ ⟨_, (bA 12 111), rfl, (by decide +kernel), ?_⟩) | refine AT.step (L := (bA 12 111)) [4, 7] (by decide +kernel) (by decide) (memL2 ⟨_, (bA 12 127), rfl, (by decide +kernel), ?_⟩ ⟨_, (bA 12 239), rfl, (by decide +kernel), ?_⟩) | refine AT.step (L := (bA 12 239)) [4] (by decide +kernel) (by decide) (memL1 ⟨_, (bA 12 255), rfl, (by decide +kernel), ?_⟩) | refine AT.step (L := (bA 12 127)) [7] (by decide +kernel) (by decide) (memL1 ⟨_, (bA 12 255), rfl, (by decide +kernel), ?_⟩) | refine AT.step (L := (bA 12 63)) [6] (by decide +kernel) (by decide) (memL1 ⟨_, (bA 12 127), rfl, (by decide +kernel), ?_⟩))
  all_goals (apply_rules (newGoals := .nonDependentOnly) only [dep])
  all_goals constructor) : p := h
theorem K1EFld2.sd {p : Prop} (h : p := by first | exact sd1eb496 | exact sd9b17c9) : p := h
open K1EFld2 in
set_option maxHeartbeats 6400000 in
theorem rdfields4_ok (b : List Int) (hb : bytes b) (hlen : b.length <= 1000000000) (r : Rd) (hr : okRd b r) (i : Ins) (hil : i.l = []) :
    AM Tryd.prog 63 [.ptr 0 0, .ptr 1 0, .int .i64 4] (rdM 0 1002 b r ++ inM 1 2005 i) [0, 1] (fun v m => v = .tup [] /\ m = rdM 0 1002 b (fieldsS b 4 r i).2 ++ inM 1 2005 (fieldsS b 4 r i).1) := by
  obtain ⟨io, ia, ib, il, ih, ill⟩ := i
  simp only at hil
  subst hil
  obtain ⟨A, hA⟩ : ∃ A, fieldsS b 4 r ⟨io, ia, ib, il, ih, []⟩ = A := ⟨_, rfl⟩
  rw [hA]
  unfold fieldsS at hA
  rw [if_neg (by decide), if_neg (by decide), if_pos rfl] at hA
  have hn1 := rdnum_ok b hb hlen r hr
  have hr1 := numS_ok hb hr
  generalize numS b r = z at hA hn1 hr1
  obtain ⟨n, r1⟩ := z
  simp only at hA hr1
  obtain ⟨hr1, hn0, hnb⟩ := hr1
  obtain ⟨N, rfl⟩ : ∃ N : Nat, n = N := ⟨n.toNat, by omega⟩
  rw [Int.toNat_natCast] at hA
  unfold rdM inM at *
  refine AM.enter Tryd.func63 rfl (Nat.le_of_ble_eq_true rfl) (fun pn => ?_)
  simp only [Tryd.f63]
  have nx : type_of% @List.length_nil.{0} /\ True := ⟨@List.length_nil.{0}, trivial⟩
  refine' st735d32
  refine AW.loop [0, 1, 6] [0, 1002, 1, 2005] (fun m st => ∃ (k : Nat) (r' : Rd) (l : List Int), st = TB pn b r' io ia ib il ih l k /\ okRd b r' /\ tabS b N r1 [] = tabS b k r' l /\ l.length <= r'.pos + (if r'.err = 0 then 0 else 1) /\ k = m /\ k <= N) ?_ ?_
  · exact ⟨_, N, r1, [], rfl, hr1, rfl, by have := hr1.p0; show ((0 : Nat) : Int) <= _; split <;> omega, rfl, Nat.le_refl _⟩
  rintro m st ⟨k, r', l, rfl, hr', ht, hll, rfl, hkN⟩
  have hp1 := hr'.p1
  have hl2 : l.length <= 1000000001 := by split at hll <;> omega
  by_cases hgo : 0 < k /\ r'.err = 0
  · obtain ⟨hk, he⟩ := hgo
    obtain ⟨p', o', j', e'⟩ := r'
    obtain rfl : e' = 0 := he
    obtain ⟨k', rfl⟩ : ∃ k', k = k' + 1 := ⟨k - 1, by omega⟩
    have e5 : IntKind.i64.wrap (((k' + 1 : Nat) : Int) - 1) = (k' : Int) := by rw [wrap64_id _ (by omega) (by omega)]; omega
    have hn1 := rdnum_ok b hb hlen _ hr'
    have hr2 := (numS_ok hb hr').1
    have hps := numS_pos hb hr' rfl
    rw [tabS, if_pos rfl] at ht
    rw [if_pos rfl] at hll
    have hll2 : (l.length : Int) <= p' + 0 := hll
    have hps2 : p' + (if (numS b ⟨p', o', j', 0⟩).2.err = 0 then 1 else 0) <= (numS b ⟨p', o', j', 0⟩).2.pos := hps
    clear hll hps
    unfold rdM at hn1
    generalize numS b ⟨p', o', j', 0⟩ = z at hn1 hr2 hps2 ht
    obtain ⟨x, r2⟩ := z
    simp only at hr2 hps2 ht
    have hla : (l ++ [x]).length = l.length + 1 := by simp
    have hgz : (((k' + 1 : Nat) : Int) > 0) := by omega
    have nx : True := trivial
    refine' st2de6bc
    refine AW.drawT (L0 := (bA 12 0)) (by decide +kernel) hmix ?_
    refine AT.via (bA 12 255) 4 (TB7 pn b r2 io ia ib il ih l (k' + 1) x) ?_ (fun hmid => ?_)
    · skip --POST
      have nx : type_of% @List.take_length.{0} /\ True := ⟨@List.take_length.{0}, trivial⟩
      refine' sta2e26c
      (repeat (first | refine QEq.mp (by assumption) ?_ | simp only [thenQ, Go.Abs.blockQ, ↓reduceIte, Nat.reduceEqDiff]))
      have nx : type_of% @e5 /\ True := ⟨@e5, trivial⟩
      refine' sta2e26c
      all_goals first
        | exact ⟨k', by omega, k', r2, l ++ [x], by rw [TB, hla]; rfl, hr2, ht, by rw [hla]; split at hps2 <;> split <;> omega, rfl, by omega⟩
        | trace_state
    have nx : True := trivial
    refine' suc26ddaEFld2
    all_goals
      refine AT.keep [0, 1, 6, 41, 45, 48] [0, 1002, 1, 2005, 48] ?_
      first
        | exact hmid
        | trace_state
  · have ht2 : tabS b N r1 [] = (l, r') := by
      rw [ht]
      cases k with
      | zero => rfl
      | succ k => rw [tabS, if_neg (fun h => hgo ⟨Nat.succ_pos _, h⟩)]
    rw [ht2] at hA
    subst hA
    have hn1 := rdnum_ok b hb hlen r' hr'
    unfold rdM at hn1
    obtain ⟨x, r2, e⟩ : ∃ x r2, numS b r' = (x, r2) := ⟨_, _, rfl⟩
    rw [e] at hn1
    by_cases hk : 0 < k
    · have he : ¬ r'.err = 0 := fun h => hgo ⟨hk, h⟩
      have nx : True := trivial
      refine' st735d32
      all_goals first | exact ⟨trivial, trivial⟩ | exact ⟨rfl, trivial⟩ | exact ⟨rfl, rfl⟩ | exact ⟨trivial, rfl⟩ | (rw [e]; exact ⟨trivial, rfl⟩) | (exfalso; omega) | trace_state
    · have nx : True := trivial
      refine' st735d32
      all_goals first | exact ⟨trivial, trivial⟩ | exact ⟨rfl, trivial⟩ | exact ⟨rfl, rfl⟩ | exact ⟨trivial, rfl⟩ | (rw [e]; exact ⟨trivial, rfl⟩) | (exfalso; omega) | trace_state
end Go.Proofs.YtmomeejfopfchaaDoor
namespace Go.Proofs.YtmomeejfopfchaaDoor
set_option maxRecDepth 20000
open Go Go.Abs Nat
attribute [local irreducible] AW AWL AC FW CW CWr IntKind.wrap
def zs (n : Nat) : List Int := List.replicate n 0
theorem setI_zs (v : List Int) (k : Nat) (hv : v.length = k) (hk : k < 16) (x : Int) : setI (v ++ zs (16 - k)) k x = (v ++ [x]) ++ zs (16 - (k + 1)) := by
  subst hv
  unfold setI zs
  rw [List.take_left, show 16 - v.length = 16 - (v.length + 1) + 1 by omega, List.replicate_succ, List.drop_append, List.drop_of_length_le (by omega), show v.length + 1 - v.length = 1 by omega]
  simp
theorem rowS_len (b : List Int) : ∀ (n : Nat) (r : Rd), (rowS b n r).1.length = n
  | 0, _ => rfl
  | n + 1, r => by rw [rowS]; simp [rowS_len b n]
theorem rowS_bytes {b : List Int} (hb : bytes b) : ∀ (n : Nat) (r : Rd), okRd b r -> bytes (rowS b n r).1 /\ okRd b (rowS b n r).2
  | 0, r, h => ⟨fun x hx => (by cases hx), h⟩
  | n + 1, r, h => by
    have ih := rowS_bytes hb n (byteS b r).2 (byteS_ok h)
    rw [rowS]
    refine ⟨fun x hx => ?_, ih.2⟩
    rcases List.mem_cons.1 hx with rfl | hx
    · exact byteS_byte hb h
    · exact ih.1 x hx
theorem MEFld3.NM : type_of% @NSX /\ type_of% @St.keepS.eq_1 /\ type_of% @TY /\ type_of% @SLS /\ type_of% @nums_length /\ type_of% @take16 /\ type_of% @TR.eq_1 :=
  ⟨NSX, St.keepS.eq_1, @TY, @SLS, @nums_length, @take16, @TR.eq_1⟩
open MEFld3
theorem K1EFld3.kp {P : Program} {c : Code} {Q : Exit -> St -> Prop} {st : St} (h : AW P c Q (st.keepS [0, 1, 2, 6, 7, 8, 9, 10, 99])) : AW P c Q st := AW.keepS _ h
theorem K1EFld3.cl {p : Prop} (h : p := by
  first
    | refine AWL.cM (f := 58) [(0, 0), (1002, 1002)] cb58 rfl rfl rfl rfl rfl rfl rfl (hby) ?_
    | refine AWL.frzG rfl rfl rfl ?_
    | refine AWL.cC (f := 70) cb70 rfl rfl rfl rfl rfl rfl (hsp) ?_
  all_goals (apply_rules (newGoals := .nonDependentOnly) only [dep])
  all_goals constructor) : p := h
theorem K1EFld3.att {p : Prop} (h : p := by
  first
    | (first | (refine AT.takeM (L := (bA 12 0)) (L' := (bA 12 1)) 0 rfl rfl rfl rfl rfl panA (by decide +kernel) (by decide +kernel) ?_; (try (conv => arg -1; simp (disch := omega) only [NM, Nat.reduceBEq, reduceAdd, reduceMul, Int.reduceToNat, reduceSub, List.set_cons_zero, List.set_cons_succ, nx]))) | (refine AT.takeM (L := (bA 12 1)) (L' := (bA 12 3)) 1 rfl rfl rfl rfl rfl panA (by decide +kernel) (by decide +kernel) ?_; (try (conv => arg -1; simp (disch := omega) only [NM, Nat.reduceBEq, reduceAdd, reduceMul, Int.reduceToNat, reduceSub, List.set_cons_zero, List.set_cons_succ, nx]))) | (refine AT.takeF (L := (bA 12 3)) (L' := (bA 12 7)) 2 rfl rfl rfl rfl rfl rfl rfl rfl panA (by decide +kernel) (by decide +kernel) ?_; (try (conv => arg -1; simp (disch := omega) only [NM, Nat.reduceBEq, reduceAdd, reduceMul, Int.reduceToNat, reduceSub, List.set_cons_zero, List.set_cons_succ, nx]))) | (refine AT.takeF (L := (bA 12 7)) (L' := (bA 12 23)) 4 rfl rfl rfl rfl rfl rfl rfl rfl panA (by decide +kernel) (by decide +kernel) ?_; (try (conv => arg -1; simp (disch := omega) only [NM, Nat.reduceBEq, reduceAdd, reduceMul, Int.reduceToNat, reduceSub, List.set_cons_zero, List.set_cons_succ, nx]))) | refine AT.step (L := (bA 12 23)) [3, 5] (by decide +kernel) (by decide) (memL2 ⟨_, (bA 12 31), rfl, (by decide +kernel), ?_⟩ ⟨_, (bA 12 55), rfl, (by decide +kernel), ?_⟩) | refine AT.step (L := (bA 12 55)) [3] (by decide +kernel) (by decide) (memL1 ⟨_, (bA 12 63), rfl, (by decide +kernel), ?_⟩) | (refine AT.takeN (L := (bA 12 63)) (L' := (bA 12 127)) 6 rfl rfl rfl rfl rfl rfl panA (by decide +kernel) (by decide +kernel) ?_; (try (conv => arg -1; simp (disch := omega) only [NM, Nat.reduceBEq, reduceAdd, reduceMul, Int.reduceToNat, reduceSub, List.set_cons_zero, List.set_cons_succ, nx]))) | (refine AT.takeF (L := (bA 12 127)) (L' := (bA 12 255)) 7 rfl rfl rfl rfl rfl rfl rfl rfl panA (by decide +kernel) (by decide +kernel) ?_; (try (conv => arg -1; simp (disch := omega) only [NM, Nat.reduceBEq, reduceAdd, reduceMul, Int.reduceToNat, reduceSub, List.set_cons_zero, List.set_cons_succ, nx]))) | refine AT.step (L := (bA 12 255)) [8] (by decide +kernel) (by decide) (memL1 ⟨_, (bA 12 511), rfl, (by decide +kernel), ?_⟩) | (refine AT.takeN (L := (bA 12 511)) (L' := (bA 12 1023)) 9 rfl rfl rfl rfl rfl rfl panA (by decide +kernel) (by decide +kernel) ?_; (try (conv => arg -1; simp (disch := omega) only [NM, Nat.reduceBEq, reduceAdd, reduceMul, Int.reduceToNat, reduceSub, List.set_cons_zero, List.set_cons_succ, nx]))) | (refine AT.takeF (L := (bA 12 1023)) (L' := (bA 12 2047)) 10 rfl rfl rfl rfl rfl rfl rfl rfl panA (by decide +kernel) (by decide +kernel) ?_; (try (conv => arg -1; simp (disch := omega) only [NM, Nat.reduceBEq, reduceAdd, reduceMul, Int.reduceToNat, reduceSub, List.set_cons_zero, List.set_cons_succ, nx]))) | refine AT.step (L := (bA 12 2047)) [11] (by decide +kernel) (by decide) (memL1 ⟨_, (bA 12 4095), rfl, (by decide +kernel), ?_⟩) | refine AT.done (L := (bA 12 4095)) (by decide +kernel) ?_ | (refine AT.takeN (L := (bA 12 31)) (L' := (bA 12 95)) 6 rfl rfl rfl rfl rfl rfl panA (by decide +kernel) (by decide +kernel) ?_; (try (conv => arg -1; simp (disch := omega) only [NM, Nat.reduceBEq, reduceAdd, reduceMul, Int.reduceToNat, reduceSub, List.set_cons_zero, List.set_cons_succ, nx]))) | (refine AT.takeF (L := (bA 12 95)) (L' := (bA 12 223)) 7 rfl rfl rfl rfl rfl rfl rfl rfl panA (by decide +kernel) (by decide +kernel) ?_; (try (conv => arg -1; simp (disch := omega) only [NM, Nat.reduceBEq, reduceAdd, reduceMul, Int.reduceToNat, reduceSub, List.set_cons_zero, List.set_cons_succ, nx]))) | refine AT.step (L := (bA 12 223)) [5, 8] (by decide +kernel) (by decide) (memL2 ⟨_, (bA 12 255), rfl, (by decide +kernel), ?_⟩ ⟨_, (bA 12 479), rfl, (by decide +kernel), ?_⟩) | refine AT.step (L := (bA 12 479)) [5] (by decide +kernel) (by decide) (memL1 ⟨_, (bA 12 511), rfl, (by decide +kernel), ?_⟩))
  all_goals (apply_rules (newGoals := .nonDependentOnly) only [dep])
  all_goals constructor) : p := h
theorem K1EFld3.sd {p : Prop} (h : p := by first | exact sd1eb496) : p := h
open K1EFld3 in
set_option maxHeartbeats 6400000 in
theorem rdfields16_ok (b : List Int) (hb : bytes b) (hlen : b.length <= 1000000000) (r : Rd) (hr : okRd b r) (form : Int) (hf : form = 11 \/ form = 12) (i : Ins) :
    AM Tryd.prog 63 [.ptr 0 0, .ptr 1 0, .int .i64 form] (rdM 0 1002 b r ++ inM 1 2005 i) [0, 1] (fun v m => v = .tup [] /\ m = rdM 0 1002 b (fieldsS b form r i).2 ++ inM 1 2005 (fieldsS b form r i).1) := by
  obtain ⟨io, ia, ib, il, ih, ill⟩ := i
  obtain ⟨A, hA⟩ : ∃ A, fieldsS b form r ⟨io, ia, ib, il, ih, ill⟩ = A := ⟨_, rfl⟩
  rw [hA]
  unfold fieldsS at hA
  rw [if_neg (by omega), if_neg (by omega), if_neg (by omega), if_neg (by omega), if_neg (by omega), if_neg (by omega), if_neg (by omega), if_pos hf] at hA
  have hwl := rowS_len b 16 r
  have hwb := (rowS_bytes hb 16 r hr).1
  obtain ⟨w, rr, hw⟩ : ∃ w rr, rowS b 16 r = (w, rr) := ⟨_, _, rfl⟩
  rw [hw] at hA hwl hwb
  simp only at hA hwl hwb
  subst hA
  have hsp := split_ok w hwl hwb
  rcases hf with rfl | rfl
  all_goals
    unfold rdM inM at *
    refine AM.enter Tryd.func63 rfl (Nat.le_of_ble_eq_true rfl) (fun pn => ?_)
    simp only [Tryd.f63]
    have nx : True := trivial
    refine' st735d32
    refine AW.loop [0, 1, 7, 99] [0, 1002, 1, 2005, 7] (fun m st => ∃ (k : Nat) (r' : Rd) (v : List Int), st = TR pn b r' io ia ib il ih ill (v ++ zs (16 - k)) k /\ okRd b r' /\ v.length = k /\ k <= 16 /\ (w, rr) = (v ++ (rowS b (16 - k) r').1, (rowS b (16 - k) r').2) /\ m = 16 - k) ?_ ?_
    · exact ⟨_, 0, r, [], rfl, hr, rfl, Nat.zero_le _, hw.symm, rfl⟩
    rintro m st ⟨k, r', v, rfl, hr', hvl, hk, hv, rfl⟩
    by_cases hk16 : k < 16
    · have e5 : IntKind.i64.wrap ((k : Int) + 1) = ((k + 1 : Nat) : Int) := wrap64_id _ (by omega) (by omega)
      have hby := rdbyte_ok b hb hlen r' hr'
      have hx := byteS_byte hb hr'
      have hr2 := byteS_ok hr'
      rw [show 16 - k = 16 - (k + 1) + 1 by omega, rowS] at hv
      unfold rdM at hby
      obtain ⟨x, r2, e⟩ : ∃ x r2, byteS b r' = (x, r2) := ⟨_, _, rfl⟩
      rw [e] at hby hx hr2 hv
      simp only at hx hr2 hv
      have hset := setI_zs v k hvl hk16 x
      have ex : IntKind.u8.wrap x = x := wrap_in rfl hx.1 (by have := hx.2; show _ < (256 : Int); omega)
      have hzl : (v ++ zs (16 - k)).length = 16 := by rw [List.length_append, hvl]; unfold zs; rw [List.length_replicate]; omega
      have nx : type_of% @e5 /\ type_of% @ex /\ type_of% @hset /\ type_of% @hzl /\ True := ⟨@e5, ⟨@ex, ⟨@hset, ⟨@hzl, trivial⟩⟩⟩⟩
      refine' st735d32
      all_goals first
        | exact ⟨16 - (k + 1), by omega, k + 1, r2, v ++ [x], rfl, hr2, by simp [hvl], by omega, by rw [hv]; simp, rfl⟩
        | trace_state
    · obtain rfl : k = 16 := by omega
      have hv2 : w = v /\ rr = r' := by
        simp only [Nat.sub_self, rowS, List.append_nil, Prod.mk.injEq] at hv; exact hv
      obtain ⟨rfl, rfl⟩ := hv2
      have hz0 : w ++ zs (16 - 16) = w := List.append_nil w
      rw [hz0]
      have nx : True := trivial
      refine' st0d4d4c
      refine AW.drawT (L0 := (bA 12 0)) (by decide +kernel) hmix ?_
      have nx : True := trivial
      refine' sta2e26c
      all_goals
        (repeat (first | refine QEq.mp (by assumption) ?_ | simp only [thenQ, Go.Abs.blockQ, ↓reduceIte, Nat.reduceEqDiff]))
        have nx : True := trivial
        refine' st735d32
        all_goals first | exact ⟨trivial, trivial⟩ | exact ⟨rfl, trivial⟩ | exact ⟨rfl, rfl⟩ | exact ⟨trivial, rfl⟩ | (exfalso; omega) | trace_state
end Go.Proofs.YtmomeejfopfchaaDoor
