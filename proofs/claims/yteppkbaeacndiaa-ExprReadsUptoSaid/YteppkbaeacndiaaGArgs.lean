/- The bytes that the document writes, and that it writes what the program does. -/
import Derived.Test.YteppkbaeacndiaaGCB
import Derived.Test.YteppkbaeacndiaaGRT6
import Derived.Test.YteppkbaeacndiaaDP
import Derived.Test.YteppkbaeacndiaaDB
import Derived.Test.YteppkbaeacndiaaGXSt
import Derived.Test.YteppkbaeacndiaaSh
set_option linter.unusedSimpArgs false
set_option linter.unusedVariables false
namespace Go.Proofs.Yteppkbaeacndiaa
set_option maxRecDepth 20000
open Go Go.Abs
def uR (n : Int) : List Int := if n < 0 \/ n > 4294967295 then uB 0 else uB n
def hR (op : Int) : List Int := if op >= 64768 then 253 :: uR (op - 64768) else [op % 256]
def oneQ (h : List Int) (i : Ins) (form : Int) : List Int :=
  if form = 2 then (if i.a < 0 then h ++ [(i.a + 128) % 256] else h ++ putS i.a)
  else if form = 3 \/ form = 5 then h ++ uR i.a
  else if form = 4 then h ++ uR i.l.length ++ i.l.flatMap uR ++ uR i.a
  else if form = 6 \/ form = 7 then h ++ uR i.a ++ uR i.b
  else if form = 8 then h ++ uR i.a ++ uR i.b ++ [i.lo % 256]
  else if form = 9 then h ++ putS (sgn 32 i.lo)
  else if form = 10 then h ++ putS (i64 i.lo)
  else if form = 11 \/ form = 12 then h ++ join i.lo i.hi
  else if form = 13 then h ++ [i.a % 256]
  else if form = 14 then h ++ [0]
  else h
def oneR (i : Ins) : List Int := oneQ (hR i.op) i (ofS i.op).1.1
def bytQ (code : List Ins) : List Int := code.flatMap oneR
def rwrS (code : List Ins) : List Int × Int := if (readS (bytQ code) 0).2.2 ≠ 0 \/ (readS (bytQ code) 0).2.1 ≠ (bytQ code).length \/ (readS (bytQ code) 0).1 ≠ code then ([], 1) else (bytQ code, 0)
def szC (code : List Ins) : Nat := (code.map fun i => 6 + i.l.length).sum
theorem uR_eq {n : Int} (h : numB n = true) : uR n = uB n := by
  unfold numB at h
  have := of_decide_eq_true h
  unfold uR; rw [if_neg (by omega)]
theorem sgn_i32 (x : Int) : sgn 32 x = i32 x := by
  unfold sgn i32
  show (if x % 4294967296 < 2147483648 then x % 4294967296 else x % 4294967296 - 4294967296) = (if (true && decide (x % 4294967296 >= 2147483648)) = true then x % 4294967296 - 4294967296 else x % 4294967296)
  simp only [Bool.true_and, decide_eq_true_eq]
  split <;> split <;> omega
theorem flatU : ∀ {l : List Int}, l.all numB = true -> l.flatMap uR = l.flatMap uB
  | [], _ => rfl
  | x :: t, h => by
    rw [List.all_cons, Bool.and_eq_true] at h
    rw [List.flatMap_cons, List.flatMap_cons, uR_eq h.1, flatU h.2]
theorem one_eq {i : Ins} (hi : okIns i) (h : (insP i).2 = true) : oneR i = (insP i).1 := by
  obtain ⟨h1, h2, h3, h4⟩ := insP_yes h
  have hb := ofS_yes h1
  have hh : hR i.op = opB i.op := by
    unfold hR opB
    split
    · rw [uR_eq (by rw [numB]; exact decide_eq_true ⟨by omega, by omega⟩)]
    · rfl
  have hn := hi.n
  rw [h4]; unfold oneR; rw [hh]
  clear h1 h2 h4 h hh
  obtain ⟨-, hf1, hf2⟩ := hb
  generalize (ofS i.op).1.1 = form at *
  generalize opB i.op = g
  have hf : form = 1 \/ form = 2 \/ form = 3 \/ form = 4 \/ form = 5 \/ form = 6 \/ form = 7 \/ form = 8 \/ form = 9 \/ form = 10 \/ form = 11 \/ form = 12 \/ form = 13 \/ form = 14 := by omega
  unfold oneP at h3
  unfold oneQ tailB constP
  rcases hf with rfl | rfl | rfl | rfl | rfl | rfl | rfl | rfl | rfl | rfl | rfl | rfl | rfl | rfl
  all_goals simp only [Int.reduceEq, ↓reduceIte, or_self, or_false, false_or, or_true, true_or, List.append_nil, List.nil_append, Bool.and_eq_true, decide_eq_true_eq] at h3 ⊢
  · by_cases c : i.a = -64 \/ i.a = -1 \/ i.a = -2 \/ i.a = -5
    · rw [if_pos c, if_pos (by omega)]
    · rw [if_neg c] at h3 ⊢
      have := of_decide_eq_true h3
      rw [if_neg (by omega)]
  · rw [uR_eq h3]
  · rw [uR_eq h3.2, flatU h3.1, uR_eq (by rw [numB]; exact decide_eq_true ⟨by omega, by omega⟩)]
    simp only [List.append_assoc]
  · rw [uR_eq h3]
  · rw [uR_eq h3.1, uR_eq h3.2, List.append_assoc]
  · rw [uR_eq h3.1, uR_eq h3.2, List.append_assoc]
  · rw [uR_eq h3.1.1, uR_eq h3.1.2]; simp only [List.append_assoc]
  · rw [sgn_i32]
theorem bytQ_eq : ∀ {code : List Ins}, (∀ i ∈ code, okIns i) -> allP code = true -> bytQ code = bytP code
  | [], _, _ => rfl
  | i :: t, hi, h => by
    unfold allP at h
    rw [List.all_cons, Bool.and_eq_true] at h
    have := bytQ_eq (code := t) (fun j hj => hi j (List.mem_cons_of_mem _ hj)) h.2
    unfold bytQ bytP at *
    rw [List.flatMap_cons, List.flatMap_cons, one_eq (hi i (List.mem_cons_self ..)) h.1, this]
theorem uR_bytes (n : Int) : bytes (uR n) := by unfold uR uB; split <;> exact putU_bytes _
theorem mod_byte (n : Int) : bytes [n % 256] := fun x hx => by rw [List.mem_singleton.1 hx]; unfold byte; omega
theorem flatU_bytes : ∀ (l : List Int), bytes (l.flatMap uR)
  | [] => fun x hx => absurd hx (by simp)
  | x :: t => by rw [List.flatMap_cons]; exact bytes_app (uR_bytes x) (flatU_bytes t)
theorem oneR_bytes (i : Ins) : bytes (oneR i) := by
  have hh : bytes (hR i.op) := by
    unfold hR; split
    · exact bytes_app (a := [253]) (fun x hx => by rw [List.mem_singleton.1 hx]; unfold byte; omega) (uR_bytes _)
    · exact mod_byte _
  unfold oneR oneQ
  repeat' split
  all_goals first
    | exact hh
    | exact bytes_app hh (mod_byte _)
    | exact bytes_app hh (putS_bytes _)
    | exact bytes_app hh (uR_bytes _)
    | exact bytes_app (bytes_app hh (uR_bytes _)) (uR_bytes _)
    | exact bytes_app (bytes_app (bytes_app hh (uR_bytes _)) (flatU_bytes _)) (uR_bytes _)
    | exact bytes_app (bytes_app (bytes_app hh (uR_bytes _)) (uR_bytes _)) (mod_byte _)
    | exact bytes_app hh (bytes_app (toB_bytes _ _) (toB_bytes _ _))
    | exact bytes_app hh (fun x hx => by rw [List.mem_singleton.1 hx]; unfold byte; omega)
theorem bytQ_bytes : ∀ (code : List Ins), bytes (bytQ code)
  | [] => fun x hx => absurd hx (by simp [bytQ])
  | i :: t => by unfold bytQ; rw [List.flatMap_cons]; exact bytes_app (oneR_bytes i) (bytQ_bytes t)
theorem bytP_bytes {code : List Ins} (hi : ∀ i ∈ code, okIns i) (h : allP code = true) : bytes (bytP code) := by
  rw [<- bytQ_eq hi h]; exact bytQ_bytes code
theorem uB_le (n : Int) : (uB n).length <= 10 := by
  unfold uB
  exact putU_len 9 _ (by simp only [Nat.reduceAdd, Nat.reduceMul, Nat.reducePow]; omega)
theorem uR_le (n : Int) : (uR n).length <= 10 := by unfold uR; split <;> exact uB_le _
theorem putS_le {n : Int} (h : -9223372036854775808 <= n /\ n <= 9223372036854775807) : (putS n).length <= 10 :=
  putS_len 9 n (by simp only [Nat.reduceMul, Int.reducePow, Int.reduceMul]; omega)
theorem flatU_le : ∀ (l : List Int), (l.flatMap uR).length <= 10 * l.length
  | [] => Nat.le_refl _
  | x :: t => by
    have := flatU_le t
    have := uR_le x
    rw [List.flatMap_cons, List.length_append, List.length_cons]; omega
theorem flatB_le : ∀ (l : List Int), (l.flatMap uB).length <= 10 * l.length
  | [] => Nat.le_refl _
  | x :: t => by
    have := flatB_le t
    have := uB_le x
    rw [List.flatMap_cons, List.length_append, List.length_cons]; omega
theorem hR_le (op : Int) : (hR op).length <= 11 := by
  unfold hR; split
  · have := uR_le (op - 64768); simp only [List.length_cons]; omega
  · simp
theorem opB_le (op : Int) : (opB op).length <= 11 := by
  unfold opB; split
  · have := uB_le (op - 64768); simp only [List.length_cons]; omega
  · simp
theorem join_le (l h : Int) : (join l h).length = 16 := by unfold join; rw [List.length_append, toB_len, toB_len]
theorem oneR_le {i : Ins} (hi : okIns i) : (oneR i).length <= 60 + 10 * i.l.length := by
  have h1 := hR_le i.op
  have h2 := uR_le i.a
  have h3 := uR_le i.b
  have h4 := flatU_le i.l
  have h5 := uR_le i.l.length
  have h6 := putS_le hi.a
  have h7 := putS_le (n := sgn 32 i.lo) (by have := i32_b i.lo; rw [sgn_i32]; omega)
  have h8 := putS_le (i64_b i.lo)
  have h9 := join_le i.lo i.hi
  unfold oneR oneQ
  repeat' split
  all_goals try simp only [List.length_append, List.length_cons, List.length_nil]
  all_goals omega
theorem insP_le {i : Ins} (hi : okIns i) : (insP i).1.length <= 60 + 10 * i.l.length := by
  have h1 := opB_le i.op
  have h2 := uB_le i.a
  have h3 := uB_le i.b
  have h4 := flatB_le i.l
  have h5 := uB_le i.l.length
  have h6 := putS_le hi.a
  have h7 := putS_le (n := i32 i.lo) (by have := i32_b i.lo; omega)
  have h8 := putS_le (i64_b i.lo)
  have h9 := join_le i.lo i.hi
  unfold insP
  by_cases c : (ofS i.op).2 = true /\ restB i (ofS i.op).1.1 = true
  · rw [if_pos c, oneP_eq]
    unfold tailB constP
    repeat' split
    all_goals try simp only [List.length_append, List.length_cons, List.length_nil]
    all_goals omega
  · rw [if_neg c]; simp
theorem bytQ_le : ∀ {code : List Ins}, (∀ i ∈ code, okIns i) -> (bytQ code).length <= 10 * szC code
  | [], _ => Nat.le_refl _
  | i :: t, hi => by
    have := bytQ_le (code := t) (fun j hj => hi j (List.mem_cons_of_mem _ hj))
    have := oneR_le (hi i (List.mem_cons_self ..))
    unfold bytQ szC at *
    rw [List.flatMap_cons, List.length_append, List.map_cons, List.sum_cons]; omega
theorem bytP_le : ∀ {code : List Ins}, (∀ i ∈ code, okIns i) -> (bytP code).length <= 10 * szC code
  | [], _ => Nat.le_refl _
  | i :: t, hi => by
    have := bytP_le (code := t) (fun j hj => hi j (List.mem_cons_of_mem _ hj))
    have := insP_le (hi i (List.mem_cons_self ..))
    unfold bytP szC at *
    rw [List.flatMap_cons, List.length_append, List.map_cons, List.sum_cons]; omega
theorem szC_len : ∀ (code : List Ins), code.length <= szC code
  | [] => Nat.le_refl _
  | i :: t => by
    have := szC_len t
    unfold szC at *
    rw [List.length_cons, List.map_cons, List.sum_cons]; omega
theorem rwr_eq {code : List Ins} (hi : ∀ i ∈ code, okIns i) (hz : szC code <= 10000000) : rwrS code = writeS code := by
  have hl := bytQ_le hi
  unfold rwrS writeS
  by_cases h : closedL [] code = true /\ allP code = true
  · rw [if_pos h, bytQ_eq hi h.2]
    have := readS_put (pre := []) (post := []) (code := code) (by rw [List.append_nil, List.nil_append]; exact bytP_bytes hi h.2) h.1 (fun i hj => ⟨hi i hj, by have := h.2; unfold allP at this; exact List.all_eq_true.1 this i hj⟩)
    rw [List.append_nil, List.nil_append] at this
    have this : readS (bytP code) 0 = (code, ((bytP code).length : Int), 0) := by
      refine this.trans ?_
      simp
    rw [this, if_neg (by simp)]
  · rw [if_neg h]
    by_cases c : (readS (bytQ code) 0).2.2 ≠ 0 \/ (readS (bytQ code) 0).2.1 ≠ (bytQ code).length \/ (readS (bytQ code) 0).1 ≠ code
    · rw [if_pos c]
    · exfalso
      simp only [not_or, Classical.not_not] at c
      obtain ⟨c1, c2, c3⟩ := c
      have := readS_inv (bytQ_bytes code) (by omega) (p := 0) (code := code) (to := (bytQ code).length) (Prod.ext c3 (Prod.ext c2 c1))
      obtain ⟨_, hg⟩ := this
      refine h ⟨hg.closed, ?_⟩
      unfold allP
      exact List.all_eq_true.2 fun i hj => (hg.ok i hj).2
end Go.Proofs.Yteppkbaeacndiaa
namespace Go.Proofs.Yteppkbaeacndiaa
set_option maxRecDepth 20000
open Go Go.Abs
theorem uRd_ext (bits : Int) (e : List Int) : ∀ (xs : List Int) (k : Nat) (v at_ : Int), (uRd bits xs k v at_).2.2 ≠ 0 \/ uRd bits xs k v at_ = uRd bits (xs ++ e) k v at_
  | [], _, _, _ => .inl (by simp [uRd])
  | x :: t, k, v, at_ => by
    rw [List.cons_append, uRd, uRd]
    split
    · exact .inr rfl
    · split
      · exact .inr rfl
      · exact uRd_ext bits e t _ _ _
theorem sRd_ext (bits : Int) (e : List Int) : ∀ (xs : List Int) (k : Nat) (v at_ : Int), (sRd bits xs k v at_).2.2 ≠ 0 \/ sRd bits xs k v at_ = sRd bits (xs ++ e) k v at_
  | [], _, _, _ => .inl (by simp [sRd])
  | x :: t, k, v, at_ => by
    rw [List.cons_append, sRd, sRd]
    split
    · exact .inr rfl
    · split
      · exact .inr rfl
      · exact sRd_ext bits e t _ _ _
theorem uSpec_ext (d e : List Int) (p n : Int) : (uSpec d p n).2.2 ≠ 0 \/ uSpec d p n = uSpec (d ++ e) p n := by
  unfold uSpec
  by_cases c : n < 1 \/ n > 64 \/ p < 0 \/ p > d.length
  · rw [if_pos c]; exact .inl (by simp)
  · rw [if_neg c, if_neg (by rw [List.length_append]; omega), List.drop_append_of_le_length (by omega)]
    exact uRd_ext _ _ _ _ _ _
theorem sSpec_ext (d e : List Int) (p n : Int) : (sSpec d p n).2.2 ≠ 0 \/ sSpec d p n = sSpec (d ++ e) p n := by
  unfold sSpec
  by_cases c : n < 1 \/ n > 64 \/ p < 0 \/ p > d.length
  · rw [if_pos c]; exact .inl (by simp)
  · rw [if_neg c, if_neg (by rw [List.length_append]; omega), List.drop_append_of_le_length (by omega)]
    exact sRd_ext _ _ _ _ _ _
theorem sSpec_end {d : List Int} {p n : Int} (h : p >= d.length) : (sSpec d p n).2.2 ≠ 0 := by
  unfold sSpec
  split
  · simp
  · rw [List.drop_of_length_le (by omega)]; simp [sRd]
theorem u32S_ext (d e : List Int) (p : Int) : (u32S d p).2 = -1 \/ u32S d p = u32S (d ++ e) p := by
  unfold u32S
  rcases uSpec_ext d e p 32 with h | h
  · left; rw [if_pos h]
  · right; rw [<- h]
theorem getD_ext {d : List Int} (e : List Int) {p : Int} (h0 : 0 <= p) (h : p < d.length) : (d ++ e).getD p.toNat 0 = d.getD p.toNat 0 := by
  simp only [List.getD_eq_getElem?_getD]
  rw [List.getElem?_append_left (by omega)]
theorem kndS_ext (d e : List Int) {p : Int} (h0 : 0 <= p) : (kndS d p).2.2 = 10 \/ kndS d p = kndS (d ++ e) p := by
  unfold kndS
  by_cases hp : p < d.length
  · have hp2 : p < (d ++ e).length := by rw [List.length_append]; omega
    rw [getD_ext e h0 hp]
    by_cases c1 : floatC (d.getD p.toNat 0)
    · rw [if_pos ⟨hp, c1⟩, if_pos ⟨hp2, c1⟩]; exact .inr rfl
    · have x1 : ¬ (p < d.length /\ floatC (d.getD p.toNat 0)) := fun h => c1 h.2
      have x2 : ¬ (p < (d ++ e).length /\ floatC (d.getD p.toNat 0)) := fun h => c1 h.2
      rw [if_neg x1, if_neg x2]
      by_cases c2 : kindC (d.getD p.toNat 0)
      · have y1 : p < d.length /\ kindC (d.getD p.toNat 0) := ⟨hp, c2⟩
        have y2 : p < (d ++ e).length /\ kindC (d.getD p.toNat 0) := ⟨hp2, c2⟩
        rw [if_pos y1, if_pos y2]; exact .inr rfl
      · have y1 : ¬ (p < d.length /\ kindC (d.getD p.toNat 0)) := fun h => c2 h.2
        have y2 : ¬ (p < (d ++ e).length /\ kindC (d.getD p.toNat 0)) := fun h => c2 h.2
        rw [if_neg y1, if_neg y2]
        rcases sSpec_ext d e p 33 with h | h
        · left; rw [if_pos (.inl h)]
        · right; rw [<- h]
  · left
    have x1 : ¬ (p < d.length /\ floatC (d.getD p.toNat 0)) := fun h => hp h.1
    have y1 : ¬ (p < d.length /\ kindC (d.getD p.toNat 0)) := fun h => hp h.1
    have z1 : (sSpec d p 33).2.2 ≠ 0 \/ (sSpec d p 33).1 < 0 := .inl (sSpec_end (by omega))
    rw [if_neg x1, if_neg y1, if_pos z1]
theorem tbR_neg (d : List Int) (n : Nat) {p : Int} (h : p < 0) (l : List Int) : tbR d n p l = (l, p) := by
  cases n with
  | zero => rfl
  | succ n => rw [tbR, if_neg (by omega)]
theorem tbR_ext (d e : List Int) : ∀ (n : Nat) (p : Int) (l : List Int), (tbR d n p l).2 = -1 \/ tbR d n p l = tbR (d ++ e) n p l
  | 0, _, _ => .inr rfl
  | n + 1, p, l => by
    rw [tbR, tbR]
    by_cases c : p >= 0
    · rw [if_pos c, if_pos c]
      rcases u32S_ext d e p with h | h
      · left; rw [h, tbR_neg _ _ (by decide)]
      · rw [<- h]; exact tbR_ext d e n _ _
    · rw [if_neg c, if_neg c]; exact .inr rfl
theorem numR2_neg (d : List Int) {p : Int} (h : p < 0) : numR2 d p = (0, p) := if_neg (by omega)
theorem numR2_ext (d e : List Int) (p : Int) : (numR2 d p).2 = -1 \/ numR2 d p = numR2 (d ++ e) p := by
  unfold numR2
  by_cases c : p >= 0
  · rw [if_pos c, if_pos c]; exact u32S_ext d e p
  · rw [if_neg c, if_neg c]; exact .inr rfl
theorem bytR_ext (d e : List Int) {p : Int} (h0 : 0 <= p) (i : Ins) (form : Int) : (bytR d p i form).2.2 = 10 \/ bytR d p i form = bytR (d ++ e) p i form := by
  unfold bytR
  by_cases c : form = 11 \/ form = 12
  · rw [if_pos c, if_pos c]
    by_cases c2 : (d.length : Int) - p < 16
    · rw [if_pos c2]; exact .inl rfl
    · rw [if_neg c2, if_neg (by rw [List.length_append]; omega), List.drop_append_of_le_length (by omega), List.take_append_of_le_length (by rw [List.length_drop]; omega)]
      exact .inr rfl
  · rw [if_neg c, if_neg c]
    by_cases c2 : p >= d.length
    · rw [if_pos (.inl c2)]; exact .inl rfl
    · rw [getD_ext e h0 (by omega)]
      have c3 : ¬ p >= (d ++ e).length := by rw [List.length_append]; omega
      by_cases c4 : form = 14 /\ d.getD p.toNat 0 ≠ 0
      · rw [if_pos (.inr c4)]; exact .inl rfl
      · have x1 : ¬ (p >= d.length \/ (form = 14 /\ d.getD p.toNat 0 ≠ 0)) := fun h => h.elim c2 c4
        have x2 : ¬ (p >= (d ++ e).length \/ (form = 14 /\ d.getD p.toNat 0 ≠ 0)) := fun h => h.elim c3 c4
        rw [if_neg x1, if_neg x2]; exact .inr rfl
theorem fldR_ext (d e : List Int) {p : Int} (h0 : 0 <= p) (i : Ins) (form : Int) : (fldR d p i form).2.2 = 10 \/ fldR d p i form = fldR (d ++ e) p i form := by
  unfold fldR
  by_cases c1 : form = 1
  · rw [if_pos c1, if_pos c1]; exact .inr rfl
  rw [if_neg c1, if_neg c1]
  by_cases c2 : form = 2
  · rw [if_pos c2, if_pos c2]
    rcases kndS_ext d e h0 with h | h
    · exact .inl h
    · rw [h]; exact .inr rfl
  rw [if_neg c2, if_neg c2]
  by_cases c4 : form = 4
  · rw [if_pos c4, if_pos c4]
    rcases u32S_ext d e p with h | h
    · left; rw [h, tbR_neg _ _ (by decide)]; simp only; rw [numR2_neg _ (by decide)]; rfl
    · rw [<- h]
      rcases tbR_ext d e (u32S d p).1.toNat (u32S d p).2 [] with h | h
      · left; rw [h, numR2_neg _ (by decide)]; rfl
      · rw [<- h]
        rcases numR2_ext d e (tbR d (u32S d p).1.toNat (u32S d p).2 []).2 with h | h
        · left; rw [h]; rfl
        · rw [<- h]; exact .inr rfl
  rw [if_neg c4, if_neg c4]
  by_cases c3 : form = 3 \/ form = 5
  · rw [if_pos c3, if_pos c3]
    rcases u32S_ext d e p with h | h
    · left; rw [h]; rfl
    · rw [<- h]; exact .inr rfl
  rw [if_neg c3, if_neg c3]
  by_cases c6 : form = 6 \/ form = 7
  · rw [if_pos c6, if_pos c6]
    rcases u32S_ext d e p with h | h
    · left; rw [h, numR2_neg _ (by decide)]; rfl
    · rw [<- h]
      rcases numR2_ext d e (u32S d p).2 with h | h
      · left; rw [h]; rfl
      · rw [<- h]; exact .inr rfl
  rw [if_neg c6, if_neg c6]
  by_cases c8 : form = 8
  · rw [if_pos c8, if_pos c8]
    rcases u32S_ext d e p with h | h
    · left; rw [h, numR2_neg _ (by decide)]; simp only; rw [if_neg (show ¬ ((-1 : Int) >= d.length) by omega), if_neg (show ¬ ((-1 : Int) >= 0) by decide)]; rfl
    · rw [<- h]
      rcases numR2_ext d e (u32S d p).2 with h | h
      · left; rw [h, if_neg (show ¬ ((-1 : Int) >= d.length) by omega), if_neg (show ¬ ((-1 : Int) >= 0) by decide)]; rfl
      · rw [<- h]
        by_cases c9 : (numR2 d (u32S d p).2).2 >= d.length
        · rw [if_pos c9]; exact .inl rfl
        · rw [if_neg c9, if_neg (show ¬ (numR2 d (u32S d p).2).2 >= (d ++ e).length by rw [List.length_append]; omega)]
          by_cases c10 : (numR2 d (u32S d p).2).2 >= 0
          · rw [getD_ext e c10 (by omega)]; exact .inr rfl
          · rw [if_neg c10, if_neg c10]; exact .inr rfl
  rw [if_neg c8, if_neg c8]
  by_cases c9 : form = 9
  · rw [if_pos c9, if_pos c9]
    rcases sSpec_ext d e p 32 with h | h
    · left; rw [if_pos h]; rfl
    · rw [<- h]; exact .inr rfl
  rw [if_neg c9, if_neg c9]
  by_cases c10 : form = 10
  · rw [if_pos c10, if_pos c10]
    rcases sSpec_ext d e p 64 with h | h
    · left; rw [if_pos h]; rfl
    · rw [<- h]; exact .inr rfl
  rw [if_neg c10, if_neg c10]
  exact bytR_ext d e h0 i form
theorem opcS_ext (d e : List Int) {p : Int} (h0 : 0 <= p) : (opcS d p).2.2 = 10 \/ opcS d p = opcS (d ++ e) p := by
  unfold opcS
  by_cases c : p >= d.length
  · rw [if_pos c]; exact .inl rfl
  rw [if_neg c, if_neg (show ¬ p >= (d ++ e).length by rw [List.length_append]; omega), getD_ext e h0 (by omega)]
  rcases u32S_ext d e (p + 1) with h | h
  · by_cases c2 : d.getD p.toNat 0 = 252 \/ d.getD p.toNat 0 = 253
    · left; rw [if_pos c2, if_pos (by rw [h]; decide)]
    · rw [if_neg c2, if_neg c2]; exact .inr rfl
  · rw [<- h]; exact .inr rfl
theorem rnd_ext {d b : List Int} {n n' : Nat} {l : List Ins} {o j : List Int} {A A' : List Ins × Int × Int} {op : Int} {i : Ins} {p2 : Int} (h : Rnd d n l o j A op i p2) (h' : Rnd b n' l o j A' op i p2)
    (ih : ∀ o' j', readL d n ⟨p2, o', j', 0⟩ (l ++ [i]) = ([], 0, 10) \/ readL d n ⟨p2, o', j', 0⟩ (l ++ [i]) = readL b n' ⟨p2, o', j', 0⟩ (l ++ [i])) : A = ([], 0, 10) \/ A = A' := by
  unfold Rnd at h h'
  rcases h with ⟨a1, a2, rfl⟩ | ⟨a1, a2, rfl⟩ | ⟨a1, a2, rfl⟩ | ⟨a1, a2, rfl⟩ | ⟨a1, a2, rfl⟩ | ⟨a1, a2, rfl⟩ | ⟨a1, a2, rfl⟩ | ⟨a1, rfl⟩
  all_goals rcases h' with ⟨b1, b2, rfl⟩ | ⟨b1, b2, rfl⟩ | ⟨b1, b2, rfl⟩ | ⟨b1, b2, rfl⟩ | ⟨b1, b2, rfl⟩ | ⟨b1, b2, rfl⟩ | ⟨b1, b2, rfl⟩ | ⟨b1, rfl⟩
  all_goals first
    | exact .inr rfl
    | exact .inl rfl
    | exact ih _ _
    | (exfalso; omega)
theorem readL_ext {d e : List Int} (hb : bytes (d ++ e)) : ∀ (n n' : Nat) (k : Int) (o j : List Int) (l : List Ins), n <= n' -> 0 <= k /\ k <= d.length ->
    readL d n ⟨k, o, j, 0⟩ l = ([], 0, 10) \/ readL d n ⟨k, o, j, 0⟩ l = readL (d ++ e) n' ⟨k, o, j, 0⟩ l
  | 0, _, _, _, _, _, _, _ => .inl rfl
  | n + 1, n', k, o, j, l, hn, hk => by
    obtain ⟨m, rfl⟩ : ∃ m, n' = m + 1 := ⟨n' - 1, by omega⟩
    have hbd : bytes d := fun x hx => hb x (List.mem_append_left _ hx)
    have o1 : okRd d ⟨k, o, j, 0⟩ := ⟨hk.1, hk.2⟩
    have o2 : okRd (d ++ e) ⟨k, o, j, 0⟩ := ⟨hk.1, by simp only [List.length_append]; omega⟩
    have s1 := step_cases hbd o1 (n := n) (l := l) rfl
    have s2 := step_cases hb o2 (n := m) (l := l) rfl
    generalize readL d (n + 1) ⟨k, o, j, 0⟩ l = A at s1 ⊢
    generalize readL (d ++ e) (m + 1) ⟨k, o, j, 0⟩ l = A' at s2 ⊢
    have q := opcS_ext d e hk.1
    rcases q with q | q
    · rcases s1 with ⟨h1, hA⟩ | ⟨h1, _⟩
      · left; rw [hA, q]
      · rw [q] at h1; cases h1
    rw [<- q] at s2
    rcases s1 with ⟨h1, hA⟩ | ⟨h1, hp, ho, hf⟩
    · rcases s2 with ⟨_, gA⟩ | ⟨g1, _⟩
      · right; rw [hA, gA]
      · exact absurd g1 h1
    · rcases s2 with ⟨g1, _⟩ | ⟨_, _, _, gf⟩
      · exact absurd h1 g1
      have gf := gf _ rfl
      have hf := hf _ rfl
      rcases fldR_ext d e (p := (opcS d k).2.1) (by omega) ⟨(opcS d k).1, 0, 0, 0, 0, []⟩ (ofS (opcS d k).1).1.1 with q | q
      · rcases hf with ⟨_, hA⟩ | ⟨f0, _⟩
        · left; rw [hA, q]
        · rw [q] at f0; cases f0
      rw [<- q] at gf
      rcases hf with ⟨f1, hA⟩ | ⟨f0, fp, fr⟩
      · rcases gf with ⟨_, gA⟩ | ⟨g0, _⟩
        · right; rw [hA, gA]
        · exact absurd g0 f1
      · rcases gf with ⟨g2, _⟩ | ⟨_, _, gr⟩
        · exact absurd f0 g2
        · exact rnd_ext fr gr fun o' j' => readL_ext hb n m _ o' j' _ (by omega) (by omega)
theorem readS_ext {d e : List Int} (hb : bytes (d ++ e)) : readS d 0 = ([], 0, 10) \/ readS d 0 = readS (d ++ e) 0 := by
  unfold readS
  rw [if_neg (by omega), if_neg (by omega)]
  exact readL_ext hb _ _ 0 [] [] [] (by rw [List.length_append]; omega) (by omega)
theorem readS_cut {code : List Ins} (hi : ∀ i ∈ code, okIns i) (hc : closedL [] code = true) (ha : allP code = true) (hl : (bytP code).length <= 100000000) {k : Nat} (hk : k < (bytP code).length) : readS ((bytP code).take k) 0 = ([], 0, 10) := by
  have hbb := bytP_bytes hi ha
  have hb : bytes ((bytP code).take k ++ (bytP code).drop k) := by rw [List.take_append_drop]; exact hbb
  rcases readS_ext hb with h | h
  · exact h
  · exfalso
    rw [List.take_append_drop] at h
    have := readS_put (pre := []) (post := []) (code := code) (by rw [List.append_nil, List.nil_append]; exact hbb) hc (fun i hj => ⟨hi i hj, by unfold allP at ha; exact List.all_eq_true.1 ha i hj⟩)
    rw [List.append_nil, List.nil_append] at this
    have h2 : readS (bytP code) 0 = (code, ((bytP code).length : Int), 0) := by
      refine this.trans ?_
      simp
    rw [h2] at h
    have hg := readS_inv (fun x hx => hb x (List.mem_append_left _ hx)) (by rw [List.length_take]; omega) h
    have := hg.2.le
    rw [List.length_take] at this
    omega
theorem bytP_ge {code : List Ins} (h : ∀ i ∈ code, okIns i /\ (insP i).2 = true) : code.length <= (bytP code).length := bytP_len code (fun i hi => (h i hi).2)
def errK (A : List Ins × Int × Int) : Prop := A.2.2 = 0 \/ (A.1 = [] /\ A.2.1 = 0 /\ (A.2.2 = 10 \/ A.2.2 = 11 \/ A.2.2 = 3))
theorem opcS_err (b : List Int) (p : Int) : (opcS b p).2.2 = 0 \/ (opcS b p).2.2 = 10 \/ (opcS b p).2.2 = 11 := by
  unfold opcS opkS
  repeat' split
  all_goals simp
theorem kndS_err (b : List Int) (p : Int) : (kndS b p).2.2 = 0 \/ (kndS b p).2.2 = 10 \/ (kndS b p).2.2 = 11 := by
  unfold kndS
  repeat' split
  all_goals simp
theorem doneS_err (i : Ins) (p : Int) : (doneS i p).2.2 = 0 \/ (doneS i p).2.2 = 10 \/ (doneS i p).2.2 = 11 := by
  unfold doneS
  split
  all_goals simp
def err3 (x : Ins × Int × Int) : Prop := x.2.2 = 0 \/ x.2.2 = 10 \/ x.2.2 = 11
theorem fldR_err (b : List Int) (p : Int) (i : Ins) (form : Int) : (fldR b p i form).2.2 = 0 \/ (fldR b p i form).2.2 = 10 \/ (fldR b p i form).2.2 = 11 := by
  show err3 (fldR b p i form)
  unfold fldR
  by_cases c0 : form = 1
  · rw [if_pos c0]
    first
      | exact .inl rfl
      | exact kndS_err b p
      | exact doneS_err _ _
  rw [if_neg c0]
  by_cases c1 : form = 2
  · rw [if_pos c1]
    first
      | exact .inl rfl
      | exact kndS_err b p
      | exact doneS_err _ _
  rw [if_neg c1]
  by_cases c2 : form = 4
  · rw [if_pos c2]
    first
      | exact .inl rfl
      | exact kndS_err b p
      | exact doneS_err _ _
  rw [if_neg c2]
  by_cases c3 : form = 3 \/ form = 5
  · rw [if_pos c3]
    first
      | exact .inl rfl
      | exact kndS_err b p
      | exact doneS_err _ _
  rw [if_neg c3]
  by_cases c4 : form = 6 \/ form = 7
  · rw [if_pos c4]
    first
      | exact .inl rfl
      | exact kndS_err b p
      | exact doneS_err _ _
  rw [if_neg c4]
  by_cases c5 : form = 8
  · rw [if_pos c5]
    first
      | exact .inl rfl
      | exact kndS_err b p
      | exact doneS_err _ _
      | (by_cases d1 : (numR2 b (u32S b p).2).2 >= b.length
         · rw [if_pos d1]; exact .inr (.inl rfl)
         · rw [if_neg d1]
           by_cases d2 : (numR2 b (u32S b p).2).2 >= 0
           · rw [if_pos d2]; exact doneS_err _ _
           · rw [if_neg d2]; exact doneS_err _ _)
  rw [if_neg c5]
  by_cases c6 : form = 9
  · rw [if_pos c6]
    first
      | exact .inl rfl
      | exact kndS_err b p
      | exact doneS_err _ _
  rw [if_neg c6]
  by_cases c7 : form = 10
  · rw [if_pos c7]
    first
      | exact .inl rfl
      | exact kndS_err b p
      | exact doneS_err _ _
  rw [if_neg c7]
  unfold bytR
  by_cases d1 : form = 11 \/ form = 12
  · rw [if_pos d1]
    by_cases d2 : (b.length : Int) - p < 16
    · rw [if_pos d2]; exact .inr (.inl rfl)
    · rw [if_neg d2]; exact .inl rfl
  · rw [if_neg d1]
    by_cases d2 : p >= b.length \/ (form = 14 /\ b.getD p.toNat 0 ≠ 0)
    · rw [if_pos d2]; exact .inr (.inl rfl)
    · rw [if_neg d2]; exact .inl rfl
theorem readL_err {b : List Int} (hb : bytes b) : ∀ (n : Nat) (k : Int) (o j : List Int) (l : List Ins), 0 <= k /\ k <= b.length -> errK (readL b n ⟨k, o, j, 0⟩ l)
  | 0, _, _, _, _, _ => .inr ⟨rfl, rfl, .inl rfl⟩
  | n + 1, k, o, j, l, hk => by
    have s1 := step_cases hb (k := k) (o := o) (j := j) ⟨hk.1, hk.2⟩ (n := n) (l := l) rfl
    generalize readL b (n + 1) ⟨k, o, j, 0⟩ l = A at s1 ⊢
    have q := opcS_err b k
    rcases s1 with ⟨h1, hA⟩ | ⟨h1, hp, ho, hf⟩
    · rw [hA]; exact .inr ⟨rfl, rfl, q.elim (fun h => absurd h h1) (fun h => h.elim .inl (fun h => .inr (.inl h)))⟩
    · have q := fldR_err b (opcS b k).2.1 ⟨(opcS b k).1, 0, 0, 0, 0, []⟩ (ofS (opcS b k).1).1.1
      have hf := hf _ rfl
      rcases hf with ⟨f1, hA⟩ | ⟨f0, fp, fr⟩
      · rw [hA]; exact .inr ⟨rfl, rfl, q.elim (fun h => absurd h f1) (fun h => h.elim .inl (fun h => .inr (.inl h)))⟩
      · unfold Rnd at fr
        rcases fr with ⟨a1, a2, rfl⟩ | ⟨a1, a2, rfl⟩ | ⟨a1, a2, rfl⟩ | ⟨a1, a2, rfl⟩ | ⟨a1, a2, rfl⟩ | ⟨a1, a2, rfl⟩ | ⟨a1, a2, rfl⟩ | ⟨a1, rfl⟩
        · exact .inr ⟨rfl, rfl, .inr (.inr rfl)⟩
        · exact readL_err hb n _ _ _ _ (by omega)
        · exact .inr ⟨rfl, rfl, .inl rfl⟩
        · exact .inr ⟨rfl, rfl, .inl rfl⟩
        · exact readL_err hb n _ _ _ _ (by omega)
        · exact .inl rfl
        · exact readL_err hb n _ _ _ _ (by omega)
        · exact readL_err hb n _ _ _ _ (by omega)
theorem readS_err {b : List Int} (hb : bytes b) {p : Int} (h : (readS b p).2.2 ≠ 0) : (readS b p).1 = [] /\ (readS b p).2.1 = 0 /\ (0 <= p /\ p <= b.length -> (readS b p).2.2 = 10 \/ (readS b p).2.2 = 11 \/ (readS b p).2.2 = 3) := by
  unfold readS at *
  split at h
  · rename_i c
    rw [if_pos c]; exact ⟨rfl, rfl, fun h => by omega⟩
  · rename_i c
    rw [if_neg c]
    rcases readL_err hb (b.length + 1) p [] [] [] (by omega) with h0 | ⟨h1, h2, h3⟩
    · exact absurd h0 h
    · exact ⟨h1, h2, fun _ => h3⟩
end Go.Proofs.Yteppkbaeacndiaa
namespace Go.Proofs.Yteppkbaeacndiaa
set_option maxRecDepth 20000
open Go Go.Abs Nat
attribute [local irreducible] AW AWL AC FW CW CWr IntKind.wrap
theorem byte_ofs : ∀ l : List Int, (l.all fun x => decide (0 <= x /\ x <= 255)) = true -> bytes l := by
  intro l h x hx
  have := of_decide_eq_true (List.all_eq_true.1 h x hx)
  exact this
theorem ok_small {i : Ins} (h : decide (-128 <= i.op /\ i.op <= 127 /\ -128 <= i.a /\ i.a <= 127 /\ -128 <= i.b /\ i.b <= 127 /\ 0 <= i.lo /\ i.lo <= 127 /\ 0 <= i.hi /\ i.hi <= 127) = true) (hl : i.l = []) : okIns i := by
  have := of_decide_eq_true h
  exact ⟨by omega, by omega, by omega, by omega, by omega, (by rw [hl]; intro x hx; cases hx), by rw [hl]; simp⟩
theorem MAwake.NM : type_of% @NSX /\ type_of% @St.keepS.eq_1 /\ type_of% @TY /\ type_of% @SLS /\ type_of% @nums_length :=
  ⟨NSX, St.keepS.eq_1, @TY, @SLS, @nums_length⟩
open MAwake
theorem K1Awake.kp {P : Program} {c : Code} {Q : Exit -> St -> Prop} {st : St} (h : AW P c Q (st.keepS [0, 1, 2, 3, 4, 5, 8])) : AW P c Q st := AW.keepS _ h
theorem K1Awake.cl {p : Prop} (h : p := by
  first
    | refine AWL.frzG rfl rfl rfl ?_
    | refine AWL.cC (f := 10) cb10 rfl rfl rfl rfl rfl rfl (hr1) ?_
    | refine AWL.cC (f := 10) cb10 rfl rfl rfl rfl rfl rfl (hr2) ?_
    | refine AWL.cC (f := 13) cb13 rfl rfl rfl rfl rfl rfl (hw) ?_
  all_goals (apply_rules (newGoals := .nonDependentOnly) only [dep])
  all_goals constructor) : p := h
open K1Awake in
set_option maxHeartbeats 3200000 in
theorem awake_ok : AC Try.prog 9 [] (fun r m => r = .bool true /\ m = []) := by
  have hr1 := eread_ok [65, 5, 11] (byte_ofs _ (by decide)) (by decide) 0
  rw [show readS [65, 5, 11] 0 = ([⟨65, 0, 0, 5, 0, []⟩, ⟨11, 0, 0, 0, 0, []⟩], 3, 0) by decide +kernel] at hr1
  have hr1 : AC Try.prog 10 [.view 3 1 [.int .u8 65, .int .u8 5, .int .u8 11], .int .i64 0] (fun v m => v = .tup [.view 2 6 [.int .i64 65, .int .i64 0, .int .i64 0, .int .u64 5, .int .u64 0, .view 0 1 [], .int .i64 11, .int .i64 0, .int .i64 0, .int .u64 0, .int .u64 0, .view 0 1 []], .int .i64 3, .int .i64 0] /\ m = []) := hr1
  have hr2 := eread_ok [67, 0, 0, 0, 0, 11] (byte_ofs _ (by decide)) (by decide) 0
  rw [show readS [67, 0, 0, 0, 0, 11] 0 = ([], 0, 11) by decide +kernel] at hr2
  have hr2 : AC Try.prog 10 [.view 6 1 [.int .u8 67, .int .u8 0, .int .u8 0, .int .u8 0, .int .u8 0, .int .u8 11], .int .i64 0] (fun v m => v = .tup [.view 0 6 [], .int .i64 0, .int .i64 11] /\ m = []) := hr2
  have hw := ewrite_ok [⟨2, -1, 0, 0, 0, []⟩, ⟨11, 0, 0, 0, 0, []⟩, ⟨11, 0, 0, 0, 0, []⟩] (by
    intro i hi
    simp only [List.mem_cons, List.not_mem_nil, or_false] at hi
    rcases hi with rfl | rfl | rfl <;> exact ok_small (by decide) rfl) (by decide) (by rw [show bytP [⟨2, -1, 0, 0, 0, []⟩, ⟨11, 0, 0, 0, 0, []⟩, ⟨11, 0, 0, 0, 0, []⟩] = [2, 127, 11, 11] by decide +kernel]; decide)
  rw [show writeS [⟨2, -1, 0, 0, 0, []⟩, ⟨11, 0, 0, 0, 0, []⟩, ⟨11, 0, 0, 0, 0, []⟩] = ([2, 127, 11, 11], 0) by decide +kernel] at hw
  have hw := hw.wk (args' := [.view 3 6 [.int .i64 2, .int .i64 (-1), .int .i64 0, .int .u64 0, .int .u64 0, .nils, .int .i64 11, .int .i64 0, .int .i64 0, .int .u64 0, .int .u64 0, .nils, .int .i64 11, .int .i64 0, .int .i64 0, .int .u64 0, .int .u64 0, .nils]]) (.cons (Wk.view (.cons (Fk.refl _) (.cons (Fk.refl _) (.cons (Fk.refl _) (.cons (Fk.refl _) (.cons (Fk.refl _) (.cons (Fk.nils 1) (.cons (Fk.refl _) (.cons (Fk.refl _) (.cons (Fk.refl _) (.cons (Fk.refl _) (.cons (Fk.refl _) (.cons (Fk.nils 1) (.cons (Fk.refl _) (.cons (Fk.refl _) (.cons (Fk.refl _) (.cons (Fk.refl _) (.cons (Fk.refl _) (.cons (Fk.nils 1) .nil))))))))))))))))))) .nil)
  have hw : AC Try.prog 13 _ (fun v m => v = .tup [.view 4 1 [.int .u8 2, .int .u8 127, .int .u8 11, .int .u8 11], .int .i64 0] /\ m = []) := hw
  refine AC.enter Try.func9 rfl (Nat.le_of_ble_eq_true rfl) ?_
  simp only [Try.f9]
  have nx : True := trivial
  refine' stf3c63d
  all_goals first
    | exact ⟨rfl, trivial⟩
    | (refine ⟨congrArg V.bool ?_, trivial⟩; rfl)
    | trace_state
end Go.Proofs.Yteppkbaeacndiaa
namespace Go.Proofs.Yteppkbaeacndiaa
set_option maxRecDepth 20000
open Go Go.Abs
theorem byte_str2 {l : List Int} (h : bytes l) : nums .u8 l = ((nums .u8 l).map Abs.byteOf).map byteV := by
  induction l with
  | nil => rfl
  | cons x l ih =>
    have hx := h x (List.mem_cons_self ..)
    have := ih (fun y hy => h y (List.mem_cons_of_mem _ hy))
    simp only [nums, List.map_cons] at this ⊢
    rw [<- this]
    congr 1
    unfold byte at hx
    have e : (UInt8.ofNat x.toNat).toNat = x.toNat := by
      rw [UInt8.toNat_ofNat']; exact Nat.mod_eq_of_lt (by omega)
    simp only [Abs.byteOf, byteV, e, Int.toNat_of_nonneg hx.1]
theorem writeS_bytes {code : List Ins} (hi : ∀ i ∈ code, okIns i) : bytes (writeS code).1 := by
  unfold writeS
  split
  · rename_i h; exact bytP_bytes hi h.2
  · intro x hx; cases hx
theorem writeS_le {code : List Ins} (hi : ∀ i ∈ code, okIns i) : (writeS code).1.length <= 10 * szC code := by
  unfold writeS
  split
  · exact bytP_le hi
  · exact Nat.zero_le _
theorem readS_small {b : List Int} (hb : bytes b) (hlen : b.length <= 100000000) (p : Int) : (readS b p).1.length <= 100000000 /\ ∀ i ∈ (readS b p).1, i.l.length <= 100000000 := by
  by_cases h : (readS b p).2.2 = 0
  · obtain ⟨h0, hg⟩ := readS_inv hb hlen (p := p) (code := (readS b p).1) (to := (readS b p).2.1) (Prod.ext rfl (Prod.ext rfl h))
    have h1 := bytP_ge hg.ok
    have h2 := hg.len
    have h3 := hg.le
    exact ⟨by omega, fun i hi => (hg.ok i hi).1.n⟩
  · have h9 := (readS_err hb h).1
    rw [h9]
    exact ⟨Nat.zero_le _, fun i hi => by cases hi⟩
theorem readS_back {pre post : List Int} {code : List Ins} (hi : ∀ i ∈ code, okIns i) (hp : bytes pre) (hq : bytes post) (h : (writeS code).2 = 0) :
    readS (pre ++ (writeS code).1 ++ post) pre.length = (code, (pre.length : Int) + ((writeS code).1.length : Nat), 0) := by
  unfold writeS at *
  by_cases c : closedL [] code = true /\ allP code = true
  · rw [if_pos c]
    exact readS_put (bytes_app (bytes_app hp (bytP_bytes hi c.2)) hq) c.1 (fun i hj => ⟨hi i hj, by have := c.2; unfold allP at this; exact List.all_eq_true.1 this i hj⟩)
  · rw [if_neg c] at h; cases h
theorem writeS_ne {code : List Ins} (h : (writeS code).2 = 0) : (writeS code).1 ≠ [] := by
  unfold writeS at *
  by_cases c : closedL [] code = true /\ allP code = true
  · rw [if_pos c]
    intro h0
    have hall : ∀ i ∈ code, (insP i).2 = true := fun i hj => by have := c.2; unfold allP at this; exact List.all_eq_true.1 this i hj
    have h2 := bytP_len code hall
    rw [show bytP code = [] from h0] at h2
    have h3 : code = [] := List.eq_nil_of_length_eq_zero (by simpa using h2)
    rw [h3] at c
    exact absurd c.1 (by decide)
  · rw [if_neg c] at h; cases h
theorem writeS_err {code : List Ins} (h : (writeS code).2 ≠ 0) : writeS code = ([], 1) := by
  unfold writeS at *
  by_cases c : closedL [] code = true /\ allP code = true
  · rw [if_pos c] at h; exact absurd rfl h
  · rw [if_neg c]
theorem readS_short {code : List Ins} (hi : ∀ i ∈ code, okIns i) (h : (writeS code).2 = 0) (hl : (writeS code).1.length <= 100000000) {k : Nat} (hk : k < (writeS code).1.length) : readS ((writeS code).1.take k) 0 = ([], 0, 10) := by
  unfold writeS at *
  by_cases c : closedL [] code = true /\ allP code = true
  · rw [if_pos c] at hk hl ⊢
    exact readS_cut hi c.1 c.2 hl hk
  · rw [if_neg c] at h; cases h
theorem szC_mem : ∀ {code : List Ins} {i : Ins}, i ∈ code -> 6 + i.l.length <= szC code
  | x :: t, i, h => by
    unfold szC
    rw [List.map_cons, List.sum_cons]
    rcases List.mem_cons.1 h with rfl | h
    · omega
    · have := szC_mem h
      unfold szC at this
      omega
end Go.Proofs.Yteppkbaeacndiaa
namespace Go.Proofs.Yteppkbaeacndiaa
set_option maxRecDepth 20000
open Go Go.Abs
@[reducible] def shIn : Sh := .pair (.int .i64) (.pair (.int .i64) (.pair (.int .i64) (.pair (.int .u64) (.pair (.int .u64) (.sl (.int .i64))))))
def toIn (x : shIn.T) : Ins := ⟨x.1, x.2.1, x.2.2.1, x.2.2.2.1, x.2.2.2.2.1, x.2.2.2.2.2⟩
def toCode (x : List shIn.T) : List Ins := List.map toIn x
theorem flat_code (l : List shIn.T) : List.flatMap (Sh.enc shIn) l = codeC (toCode l) := by
  induction l with
  | nil => rfl
  | cons s l ih =>
    rw [List.flatMap_cons, ih]
    obtain ⟨o, a, b, lo, hi, ll⟩ := s
    show ([V.int .i64 o] ++ ([V.int .i64 a] ++ ([V.int .i64 b] ++ ([V.int .u64 lo] ++ ([V.int .u64 hi] ++ [V.view (List.length (α := Int) ll) 1 (List.flatMap (Sh.enc (.int .i64)) ll)]))))) ++ codeC (toCode l) = _
    rw [flat_ints]; rfl
theorem val_code (x : List shIn.T) : Sh.val (.sl shIn) x = .view (toCode x).length 6 (codeC (toCode x)) := by
  show V.view (List.length (α := shIn.T) x) 6 (List.flatMap (Sh.enc shIn) x) = _
  rw [flat_code]
  unfold toCode; rw [List.length_map]
theorem sz_code (x : List shIn.T) : szC (toCode x) + 1 <= Sh.bulk (.sl shIn) x := by
  show szC (toCode x) + 1 <= (List.map (Sh.bulk shIn) x).sum + 1
  refine Nat.succ_le_succ ?_
  induction x with
  | nil => exact Nat.le_refl _
  | cons s l ih =>
    obtain ⟨o, a, b, lo, hi, ll⟩ := s
    have h1 := bulk_ints (k := .i64) ll
    have h2 : Sh.bulk shIn (o, a, b, lo, hi, ll) = 1 + (1 + (1 + (1 + (1 + Sh.bulk (.sl (.int .i64)) ll)))) := rfl
    unfold szC toCode at *
    simp only [List.map_cons, List.sum_cons]
    rw [h2]
    have h3 : (toIn (o, a, b, lo, hi, ll)).l.length = List.length (α := Int) ll := rfl
    rw [h3]
    have h4 : List.length (α := Int) ll + 1 <= Sh.bulk (.sl (.int .i64)) ll := h1
    omega
theorem le63 {x : Int} (h : x < 9223372036854775808) : x <= 9223372036854775807 := by omega
theorem ok_code (x : List shIn.T) (hg : (Sh.sl shIn).good x) (hb : Sh.bulk (.sl shIn) x <= 1048576) : (∀ i ∈ toCode x, okIns i) /\ szC (toCode x) <= 1048576 := by
  have hz := sz_code x
  refine ⟨fun i hi => ?_, by omega⟩
  have hm := szC_mem hi
  unfold toCode at hi
  obtain ⟨y, hy, rfl⟩ := List.mem_map.1 hi
  have hgy := hg y hy
  obtain ⟨o, a, b, lo, hh, ll⟩ := y
  obtain ⟨c1, c2, c3, c4, c5, c6⟩ := hgy
  have d1 := good_i64 c1
  have d2 := good_i64 c2
  have d3 := good_i64 c3
  have d4 := good_u64 c4
  have d5 := good_u64 c5
  refine ⟨⟨d1.1, le63 d1.2⟩, ⟨d2.1, le63 d2.2⟩, ⟨d3.1, le63 d3.2⟩, ⟨d4.1, d4.2⟩, ⟨d5.1, d5.2⟩, fun x hx => ?_, by omega⟩
  have := good_i64 (c6 x hx)
  exact ⟨this.1, by omega⟩
end Go.Proofs.Yteppkbaeacndiaa
