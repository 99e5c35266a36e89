/- The bytes that the document writes, and that it writes what the program does. -/
import Derived.Test.YteppkbaeacndiaaGCB
import Derived.Test.YteppkbaeacndiaaGRT6
import Derived.Test.YteppkbaeacndiaaDP
import Derived.Test.YteppkbaeacndiaaDB
import Derived.Test.YteppkbaeacndiaaGXSt
import Derived.Test.YteppkbaeacndiaaSh
set_option linter.unusedSimpArgs false
set_option linter.unusedVariables false
namespace Go.Proofs.Yteppkbaeacndiaa
set_option maxRecDepth 20000
open Go Go.Abs
def uR (n : Int) : List Int := if n < 0 \/ n > 4294967295 then uB 0 else uB n
def hR (op : Int) : List Int := if op >= 64768 then 253 :: uR (op - 64768) else [op % 256]
def oneQ (h : List Int) (i : Ins) (form : Int) : List Int :=
  if form = 2 then (if i.a < 0 then h ++ [(i.a + 128) % 256] else h ++ putS i.a)
  else if form = 3 \/ form = 5 then h ++ uR i.a
  else if form = 4 then h ++ uR i.l.length ++ i.l.flatMap uR ++ uR i.a
  else if form = 6 \/ form = 7 then h ++ uR i.a ++ uR i.b
  else if form = 8 then h ++ uR i.a ++ uR i.b ++ [i.lo % 256]
  else if form = 9 then h ++ putS (sgn 32 i.lo)
  else if form = 10 then h ++ putS (i64 i.lo)
  else if form = 11 \/ form = 12 then h ++ join i.lo i.hi
  else if form = 13 then h ++ [i.a % 256]
  else if form = 14 then h ++ [0]
  else h
def oneR (i : Ins) : List Int := oneQ (hR i.op) i (ofS i.op).1.1
def bytQ (code : List Ins) : List Int := code.flatMap oneR
def rwrS (code : List Ins) : List Int × Int := if (readS (bytQ code) 0).2.2 ≠ 0 \/ (readS (bytQ code) 0).2.1 ≠ (bytQ code).length \/ (readS (bytQ code) 0).1 ≠ code then ([], 1) else (bytQ code, 0)
def szC (code : List Ins) : Nat := (code.map fun i => 6 + i.l.length).sum
theorem uR_eq {n : Int} (h : numB n = true) : uR n = uB n := by
  unfold numB at h
  have := of_decide_eq_true h
  unfold uR; rw [if_neg (by omega)]
theorem sgn_i32 (x : Int) : sgn 32 x = i32 x := by
  unfold sgn i32
  show (if x % 4294967296 < 2147483648 then x % 4294967296 else x % 4294967296 - 4294967296) = (if (true && decide (x % 4294967296 >= 2147483648)) = true then x % 4294967296 - 4294967296 else x % 4294967296)
  simp only [Bool.true_and, decide_eq_true_eq]
  split <;> split <;> omega
theorem flatU : ∀ {l : List Int}, l.all numB = true -> l.flatMap uR = l.flatMap uB
  | [], _ => rfl
  | x :: t, h => by
    rw [List.all_cons, Bool.and_eq_true] at h
    rw [List.flatMap_cons, List.flatMap_cons, uR_eq h.1, flatU h.2]
theorem one_eq {i : Ins} (hi : okIns i) (h : (insP i).2 = true) : oneR i = (insP i).1 := by
  obtain ⟨h1, h2, h3, h4⟩ := insP_yes h
  have hb := ofS_yes h1
  have hh : hR i.op = opB i.op := by
    unfold hR opB
    split
    · rw [uR_eq (by rw [numB]; exact decide_eq_true ⟨by omega, by omega⟩)]
    · rfl
  have hn := hi.n
  rw [h4]; unfold oneR; rw [hh]
  clear h1 h2 h4 h hh
  obtain ⟨-, hf1, hf2⟩ := hb
  generalize (ofS i.op).1.1 = form at *
  generalize opB i.op = g
  have hf : form = 1 \/ form = 2 \/ form = 3 \/ form = 4 \/ form = 5 \/ form = 6 \/ form = 7 \/ form = 8 \/ form = 9 \/ form = 10 \/ form = 11 \/ form = 12 \/ form = 13 \/ form = 14 := by omega
  unfold oneP at h3
  unfold oneQ tailB constP
  rcases hf with rfl | rfl | rfl | rfl | rfl | rfl | rfl | rfl | rfl | rfl | rfl | rfl | rfl | rfl
  all_goals simp only [Int.reduceEq, ↓reduceIte, or_self, or_false, false_or, or_true, true_or, List.append_nil, List.nil_append, Bool.and_eq_true, decide_eq_true_eq] at h3 ⊢
  · by_cases c : i.a = -64 \/ i.a = -1 \/ i.a = -2 \/ i.a = -5
    · rw [if_pos c, if_pos (by omega)]
    · rw [if_neg c] at h3 ⊢
      have := of_decide_eq_true h3
      rw [if_neg (by omega)]
  · rw [uR_eq h3]
  · rw [uR_eq h3.2, flatU h3.1, uR_eq (by rw [numB]; exact decide_eq_true ⟨by omega, by omega⟩)]
    simp only [List.append_assoc]
  · rw [uR_eq h3]
  · rw [uR_eq h3.1, uR_eq h3.2, List.append_assoc]
  · rw [uR_eq h3.1, uR_eq h3.2, List.append_assoc]
  · rw [uR_eq h3.1.1, uR_eq h3.1.2]; simp only [List.append_assoc]
  · rw [sgn_i32]
theorem bytQ_eq : ∀ {code : List Ins}, (∀ i ∈ code, okIns i) -> allP code = true -> bytQ code = bytP code
  | [], _, _ => rfl
  | i :: t, hi, h => by
    unfold allP at h
    rw [List.all_cons, Bool.and_eq_true] at h
    have := bytQ_eq (code := t) (fun j hj => hi j (List.mem_cons_of_mem _ hj)) h.2
    unfold bytQ bytP at *
    rw [List.flatMap_cons, List.flatMap_cons, one_eq (hi i (List.mem_cons_self ..)) h.1, this]
theorem uR_bytes (n : Int) : bytes (uR n) := by unfold uR uB; split <;> exact putU_bytes _
theorem mod_byte (n : Int) : bytes [n % 256] := fun x hx => by rw [List.mem_singleton.1 hx]; unfold byte; omega
theorem flatU_bytes : ∀ (l : List Int), bytes (l.flatMap uR)
  | [] => fun x hx => absurd hx (by simp)
  | x :: t => by rw [List.flatMap_cons]; exact bytes_app (uR_bytes x) (flatU_bytes t)
theorem oneR_bytes (i : Ins) : bytes (oneR i) := by
  have hh : bytes (hR i.op) := by
    unfold hR; split
    · exact bytes_app (a := [253]) (fun x hx => by rw [List.mem_singleton.1 hx]; unfold byte; omega) (uR_bytes _)
    · exact mod_byte _
  unfold oneR oneQ
  repeat' split
  all_goals first
    | exact hh
    | exact bytes_app hh (mod_byte _)
    | exact bytes_app hh (putS_bytes _)
    | exact bytes_app hh (uR_bytes _)
    | exact bytes_app (bytes_app hh (uR_bytes _)) (uR_bytes _)
    | exact bytes_app (bytes_app (bytes_app hh (uR_bytes _)) (flatU_bytes _)) (uR_bytes _)
    | exact bytes_app (bytes_app (bytes_app hh (uR_bytes _)) (uR_bytes _)) (mod_byte _)
    | exact bytes_app hh (bytes_app (toB_bytes _ _) (toB_bytes _ _))
    | exact bytes_app hh (fun x hx => by rw [List.mem_singleton.1 hx]; unfold byte; omega)
theorem bytQ_bytes : ∀ (code : List Ins), bytes (bytQ code)
  | [] => fun x hx => absurd hx (by simp [bytQ])
  | i :: t => by unfold bytQ; rw [List.flatMap_cons]; exact bytes_app (oneR_bytes i) (bytQ_bytes t)
theorem bytP_bytes {code : List Ins} (hi : ∀ i ∈ code, okIns i) (h : allP code = true) : bytes (bytP code) := by
  rw [<- bytQ_eq hi h]; exact bytQ_bytes code
theorem uB_le (n : Int) : (uB n).length <= 10 := by
  unfold uB
  exact putU_len 9 _ (by simp only [Nat.reduceAdd, Nat.reduceMul, Nat.reducePow]; omega)
theorem uR_le (n : Int) : (uR n).length <= 10 := by unfold uR; split <;> exact uB_le _
theorem putS_le {n : Int} (h : -9223372036854775808 <= n /\ n <= 9223372036854775807) : (putS n).length <= 10 :=
  putS_len 9 n (by simp only [Nat.reduceMul, Int.reducePow, Int.reduceMul]; omega)
theorem flatU_le : ∀ (l : List Int), (l.flatMap uR).length <= 10 * l.length
  | [] => Nat.le_refl _
  | x :: t => by
    have := flatU_le t
    have := uR_le x
    rw [List.flatMap_cons, List.length_append, List.length_cons]; omega
theorem flatB_le : ∀ (l : List Int), (l.flatMap uB).length <= 10 * l.length
  | [] => Nat.le_refl _
  | x :: t => by
    have := flatB_le t
    have := uB_le x
    rw [List.flatMap_cons, List.length_append, List.length_cons]; omega
theorem hR_le (op : Int) : (hR op).length <= 11 := by
  unfold hR; split
  · have := uR_le (op - 64768); simp only [List.length_cons]; omega
  · simp
theorem opB_le (op : Int) : (opB op).length <= 11 := by
  unfold opB; split
  · have := uB_le (op - 64768); simp only [List.length_cons]; omega
  · simp
theorem join_le (l h : Int) : (join l h).length = 16 := by unfold join; rw [List.length_append, toB_len, toB_len]
theorem oneR_le {i : Ins} (hi : okIns i) : (oneR i).length <= 60 + 10 * i.l.length := by
  have h1 := hR_le i.op
  have h2 := uR_le i.a
  have h3 := uR_le i.b
  have h4 := flatU_le i.l
  have h5 := uR_le i.l.length
  have h6 := putS_le hi.a
  have h7 := putS_le (n := sgn 32 i.lo) (by have := i32_b i.lo; rw [sgn_i32]; omega)
  have h8 := putS_le (i64_b i.lo)
  have h9 := join_le i.lo i.hi
  unfold oneR oneQ
  repeat' split
  all_goals try simp only [List.length_append, List.length_cons, List.length_nil]
  all_goals omega
theorem insP_le {i : Ins} (hi : okIns i) : (insP i).1.length <= 60 + 10 * i.l.length := by
  have h1 := opB_le i.op
  have h2 := uB_le i.a
  have h3 := uB_le i.b
  have h4 := flatB_le i.l
  have h5 := uB_le i.l.length
  have h6 := putS_le hi.a
  have h7 := putS_le (n := i32 i.lo) (by have := i32_b i.lo; omega)
  have h8 := putS_le (i64_b i.lo)
  have h9 := join_le i.lo i.hi
  unfold insP
  by_cases c : (ofS i.op).2 = true /\ restB i (ofS i.op).1.1 = true
  · rw [if_pos c, oneP_eq]
    unfold tailB constP
    repeat' split
    all_goals try simp only [List.length_append, List.length_cons, List.length_nil]
    all_goals omega
  · rw [if_neg c]; simp
theorem bytQ_le : ∀ {code : List Ins}, (∀ i ∈ code, okIns i) -> (bytQ code).length <= 10 * szC code
  | [], _ => Nat.le_refl _
  | i :: t, hi => by
    have := bytQ_le (code := t) (fun j hj => hi j (List.mem_cons_of_mem _ hj))
    have := oneR_le (hi i (List.mem_cons_self ..))
    unfold bytQ szC at *
    rw [List.flatMap_cons, List.length_append, List.map_cons, List.sum_cons]; omega
theorem bytP_le : ∀ {code : List Ins}, (∀ i ∈ code, okIns i) -> (bytP code).length <= 10 * szC code
  | [], _ => Nat.le_refl _
  | i :: t, hi => by
    have := bytP_le (code := t) (fun j hj => hi j (List.mem_cons_of_mem _ hj))
    have := insP_le (hi i (List.mem_cons_self ..))
    unfold bytP szC at *
    rw [List.flatMap_cons, List.length_append, List.map_cons, List.sum_cons]; omega
theorem szC_len : ∀ (code : List Ins), code.length <= szC code
  | [] => Nat.le_refl _
  | i :: t => by
    have := szC_len t
    unfold szC at *
    rw [List.length_cons, List.map_cons, List.sum_cons]; omega
theorem rwr_eq {code : List Ins} (hi : ∀ i ∈ code, okIns i) (hz : szC code <= 10000000) : rwrS code = writeS code := by
  have hl := bytQ_le hi
  unfold rwrS writeS
  by_cases h : closedL [] code = true /\ allP code = true
  · rw [if_pos h, bytQ_eq hi h.2]
    have := readS_put (pre := []) (post := []) (code := code) (by rw [List.append_nil, List.nil_append]; exact bytP_bytes hi h.2) h.1 (fun i hj => ⟨hi i hj, by have := h.2; unfold allP at this; exact List.all_eq_true.1 this i hj⟩)
    rw [List.append_nil, List.nil_append] at this
    have this : readS (bytP code) 0 = (code, ((bytP code).length : Int), 0) := by
      refine this.trans ?_
      simp
    rw [this, if_neg (by simp)]
  · rw [if_neg h]
    by_cases c : (readS (bytQ code) 0).2.2 ≠ 0 \/ (readS (bytQ code) 0).2.1 ≠ (bytQ code).length \/ (readS (bytQ code) 0).1 ≠ code
    · rw [if_pos c]
    · exfalso
      simp only [not_or, Classical.not_not] at c
      obtain ⟨c1, c2, c3⟩ := c
      have := readS_inv (bytQ_bytes code) (by omega) (p := 0) (code := code) (to := (bytQ code).length) (Prod.ext c3 (Prod.ext c2 c1))
      obtain ⟨_, hg⟩ := this
      refine h ⟨hg.closed, ?_⟩
      unfold allP
      exact List.all_eq_true.2 fun i hj => (hg.ok i hj).2
end Go.Proofs.Yteppkbaeacndiaa
namespace Go.Proofs.Yteppkbaeacndiaa
set_option maxRecDepth 20000
open Go Go.Abs
theorem bytP_ge {code : List Ins} (h : ∀ i ∈ code, okIns i /\ (insP i).2 = true) : code.length <= (bytP code).length := bytP_len code (fun i hi => (h i hi).2)
end Go.Proofs.Yteppkbaeacndiaa
namespace Go.Proofs.Yteppkbaeacndiaa
set_option maxRecDepth 20000
open Go Go.Abs Nat
attribute [local irreducible] AW AWL AC FW CW CWr IntKind.wrap
theorem byte_ofs : ∀ l : List Int, (l.all fun x => decide (0 <= x /\ x <= 255)) = true -> bytes l := by
  intro l h x hx
  have := of_decide_eq_true (List.all_eq_true.1 h x hx)
  exact this
theorem ok_small {i : Ins} (h : decide (-128 <= i.op /\ i.op <= 127 /\ -128 <= i.a /\ i.a <= 127 /\ -128 <= i.b /\ i.b <= 127 /\ 0 <= i.lo /\ i.lo <= 127 /\ 0 <= i.hi /\ i.hi <= 127) = true) (hl : i.l = []) : okIns i := by
  have := of_decide_eq_true h
  exact ⟨by omega, by omega, by omega, by omega, by omega, (by rw [hl]; intro x hx; cases hx), by rw [hl]; simp⟩
theorem MAwake.NM : type_of% @NSX /\ type_of% @St.keepS.eq_1 /\ type_of% @TY /\ type_of% @SLS /\ type_of% @nums_length :=
  ⟨NSX, St.keepS.eq_1, @TY, @SLS, @nums_length⟩
open MAwake
theorem K1Awake.kp {P : Program} {c : Code} {Q : Exit -> St -> Prop} {st : St} (h : AW P c Q (st.keepS [0, 1, 2, 3, 4, 5, 8])) : AW P c Q st := AW.keepS _ h
theorem K1Awake.cl {p : Prop} (h : p := by
  first
    | refine AWL.frzG rfl rfl rfl ?_
    | refine AWL.cC (f := 10) cb10 rfl rfl rfl rfl rfl rfl (hr1) ?_
    | refine AWL.cC (f := 10) cb10 rfl rfl rfl rfl rfl rfl (hr2) ?_
    | refine AWL.cC (f := 13) cb13 rfl rfl rfl rfl rfl rfl (hw) ?_
  all_goals (apply_rules (newGoals := .nonDependentOnly) only [dep])
  all_goals constructor) : p := h
open K1Awake in
set_option maxHeartbeats 3200000 in
theorem awake_ok : AC Try.prog 9 [] (fun r m => r = .bool true /\ m = []) := by
  have hr1 := eread_ok [65, 5, 11] (byte_ofs _ (by decide)) (by decide) 0
  rw [show readS [65, 5, 11] 0 = ([⟨65, 0, 0, 5, 0, []⟩, ⟨11, 0, 0, 0, 0, []⟩], 3, 0) by decide +kernel] at hr1
  have hr1 : AC Try.prog 10 [.view 3 1 [.int .u8 65, .int .u8 5, .int .u8 11], .int .i64 0] (fun v m => v = .tup [.view 2 6 [.int .i64 65, .int .i64 0, .int .i64 0, .int .u64 5, .int .u64 0, .view 0 1 [], .int .i64 11, .int .i64 0, .int .i64 0, .int .u64 0, .int .u64 0, .view 0 1 []], .int .i64 3, .int .i64 0] /\ m = []) := hr1
  have hr2 := eread_ok [67, 0, 0, 0, 0, 11] (byte_ofs _ (by decide)) (by decide) 0
  rw [show readS [67, 0, 0, 0, 0, 11] 0 = ([], 0, 11) by decide +kernel] at hr2
  have hr2 : AC Try.prog 10 [.view 6 1 [.int .u8 67, .int .u8 0, .int .u8 0, .int .u8 0, .int .u8 0, .int .u8 11], .int .i64 0] (fun v m => v = .tup [.view 0 6 [], .int .i64 0, .int .i64 11] /\ m = []) := hr2
  have hw := ewrite_ok [⟨2, -1, 0, 0, 0, []⟩, ⟨11, 0, 0, 0, 0, []⟩, ⟨11, 0, 0, 0, 0, []⟩] (by
    intro i hi
    simp only [List.mem_cons, List.not_mem_nil, or_false] at hi
    rcases hi with rfl | rfl | rfl <;> exact ok_small (by decide) rfl) (by decide) (by rw [show bytP [⟨2, -1, 0, 0, 0, []⟩, ⟨11, 0, 0, 0, 0, []⟩, ⟨11, 0, 0, 0, 0, []⟩] = [2, 127, 11, 11] by decide +kernel]; decide)
  rw [show writeS [⟨2, -1, 0, 0, 0, []⟩, ⟨11, 0, 0, 0, 0, []⟩, ⟨11, 0, 0, 0, 0, []⟩] = ([2, 127, 11, 11], 0) by decide +kernel] at hw
  have hw := hw.wk (args' := [.view 3 6 [.int .i64 2, .int .i64 (-1), .int .i64 0, .int .u64 0, .int .u64 0, .nils, .int .i64 11, .int .i64 0, .int .i64 0, .int .u64 0, .int .u64 0, .nils, .int .i64 11, .int .i64 0, .int .i64 0, .int .u64 0, .int .u64 0, .nils]]) (.cons (Wk.view (.cons (Fk.refl _) (.cons (Fk.refl _) (.cons (Fk.refl _) (.cons (Fk.refl _) (.cons (Fk.refl _) (.cons (Fk.nils 1) (.cons (Fk.refl _) (.cons (Fk.refl _) (.cons (Fk.refl _) (.cons (Fk.refl _) (.cons (Fk.refl _) (.cons (Fk.nils 1) (.cons (Fk.refl _) (.cons (Fk.refl _) (.cons (Fk.refl _) (.cons (Fk.refl _) (.cons (Fk.refl _) (.cons (Fk.nils 1) .nil))))))))))))))))))) .nil)
  have hw : AC Try.prog 13 _ (fun v m => v = .tup [.view 4 1 [.int .u8 2, .int .u8 127, .int .u8 11, .int .u8 11], .int .i64 0] /\ m = []) := hw
  refine AC.enter Try.func9 rfl (Nat.le_of_ble_eq_true rfl) ?_
  simp only [Try.f9]
  have nx : True := trivial
  refine' stf3c63d
  all_goals first
    | exact ⟨rfl, trivial⟩
    | (refine ⟨congrArg V.bool ?_, trivial⟩; rfl)
    | trace_state
end Go.Proofs.Yteppkbaeacndiaa
namespace Go.Proofs.Yteppkbaeacndiaa
set_option maxRecDepth 20000
open Go Go.Abs
theorem byte_str2 {l : List Int} (h : bytes l) : nums .u8 l = ((nums .u8 l).map Abs.byteOf).map byteV := by
  induction l with
  | nil => rfl
  | cons x l ih =>
    have hx := h x (List.mem_cons_self ..)
    have := ih (fun y hy => h y (List.mem_cons_of_mem _ hy))
    simp only [nums, List.map_cons] at this ⊢
    rw [<- this]
    congr 1
    unfold byte at hx
    have e : (UInt8.ofNat x.toNat).toNat = x.toNat := by
      rw [UInt8.toNat_ofNat']; exact Nat.mod_eq_of_lt (by omega)
    simp only [Abs.byteOf, byteV, e, Int.toNat_of_nonneg hx.1]
theorem writeS_bytes {code : List Ins} (hi : ∀ i ∈ code, okIns i) : bytes (writeS code).1 := by
  unfold writeS
  split
  · rename_i h; exact bytP_bytes hi h.2
  · intro x hx; cases hx
theorem szC_mem : ∀ {code : List Ins} {i : Ins}, i ∈ code -> 6 + i.l.length <= szC code
  | x :: t, i, h => by
    unfold szC
    rw [List.map_cons, List.sum_cons]
    rcases List.mem_cons.1 h with rfl | h
    · omega
    · have := szC_mem h
      unfold szC at this
      omega
end Go.Proofs.Yteppkbaeacndiaa
namespace Go.Proofs.Yteppkbaeacndiaa
set_option maxRecDepth 20000
open Go Go.Abs
@[reducible] def shIn : Sh := .pair (.int .i64) (.pair (.int .i64) (.pair (.int .i64) (.pair (.int .u64) (.pair (.int .u64) (.sl (.int .i64))))))
def toIn (x : shIn.T) : Ins := ⟨x.1, x.2.1, x.2.2.1, x.2.2.2.1, x.2.2.2.2.1, x.2.2.2.2.2⟩
def toCode (x : List shIn.T) : List Ins := List.map toIn x
theorem flat_code (l : List shIn.T) : List.flatMap (Sh.enc shIn) l = codeC (toCode l) := by
  induction l with
  | nil => rfl
  | cons s l ih =>
    rw [List.flatMap_cons, ih]
    obtain ⟨o, a, b, lo, hi, ll⟩ := s
    show ([V.int .i64 o] ++ ([V.int .i64 a] ++ ([V.int .i64 b] ++ ([V.int .u64 lo] ++ ([V.int .u64 hi] ++ [V.view (List.length (α := Int) ll) 1 (List.flatMap (Sh.enc (.int .i64)) ll)]))))) ++ codeC (toCode l) = _
    rw [flat_ints]; rfl
theorem val_code (x : List shIn.T) : Sh.val (.sl shIn) x = .view (toCode x).length 6 (codeC (toCode x)) := by
  show V.view (List.length (α := shIn.T) x) 6 (List.flatMap (Sh.enc shIn) x) = _
  rw [flat_code]
  unfold toCode; rw [List.length_map]
theorem sz_code (x : List shIn.T) : szC (toCode x) + 1 <= Sh.bulk (.sl shIn) x := by
  show szC (toCode x) + 1 <= (List.map (Sh.bulk shIn) x).sum + 1
  refine Nat.succ_le_succ ?_
  induction x with
  | nil => exact Nat.le_refl _
  | cons s l ih =>
    obtain ⟨o, a, b, lo, hi, ll⟩ := s
    have h1 := bulk_ints (k := .i64) ll
    have h2 : Sh.bulk shIn (o, a, b, lo, hi, ll) = 1 + (1 + (1 + (1 + (1 + Sh.bulk (.sl (.int .i64)) ll)))) := rfl
    unfold szC toCode at *
    simp only [List.map_cons, List.sum_cons]
    rw [h2]
    have h3 : (toIn (o, a, b, lo, hi, ll)).l.length = List.length (α := Int) ll := rfl
    rw [h3]
    have h4 : List.length (α := Int) ll + 1 <= Sh.bulk (.sl (.int .i64)) ll := h1
    omega
theorem le63 {x : Int} (h : x < 9223372036854775808) : x <= 9223372036854775807 := by omega
theorem ok_code (x : List shIn.T) (hg : (Sh.sl shIn).good x) (hb : Sh.bulk (.sl shIn) x <= 1048576) : (∀ i ∈ toCode x, okIns i) /\ szC (toCode x) <= 1048576 := by
  have hz := sz_code x
  refine ⟨fun i hi => ?_, by omega⟩
  have hm := szC_mem hi
  unfold toCode at hi
  obtain ⟨y, hy, rfl⟩ := List.mem_map.1 hi
  have hgy := hg y hy
  obtain ⟨o, a, b, lo, hh, ll⟩ := y
  obtain ⟨c1, c2, c3, c4, c5, c6⟩ := hgy
  have d1 := good_i64 c1
  have d2 := good_i64 c2
  have d3 := good_i64 c3
  have d4 := good_u64 c4
  have d5 := good_u64 c5
  refine ⟨⟨d1.1, le63 d1.2⟩, ⟨d2.1, le63 d2.2⟩, ⟨d3.1, le63 d3.2⟩, ⟨d4.1, d4.2⟩, ⟨d5.1, d5.2⟩, fun x hx => ?_, by omega⟩
  have := good_i64 (c6 x hx)
  exact ⟨this.1, by omega⟩
end Go.Proofs.Yteppkbaeacndiaa
