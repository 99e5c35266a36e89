/- fields: sixteen bytes. -/
import Derived.Test.YteppkbaeacndiaaDP
import Derived.Test.YteppkbaeacndiaaDB
import Derived.Test.YteppkbaeacndiaaGCB
import Derived.Test.YteppkbaeacndiaaGEFld2
import Derived.Test.YteppkbaeacndiaaGRS
set_option linter.unusedSimpArgs false
set_option linter.unusedVariables false
namespace Go.Proofs.Yteppkbaeacndiaa
set_option maxRecDepth 20000
open Go Go.Abs Nat
attribute [local irreducible] AW AWL AC FW CW CWr IntKind.wrap
def zs (n : Nat) : List Int := List.replicate n 0
theorem setI_zs (v : List Int) (k : Nat) (hv : v.length = k) (hk : k < 16) (x : Int) : setI (v ++ zs (16 - k)) k x = (v ++ [x]) ++ zs (16 - (k + 1)) := by
  subst hv
  unfold setI zs
  rw [List.take_left, show 16 - v.length = 16 - (v.length + 1) + 1 by omega, List.replicate_succ, List.drop_append, List.drop_of_length_le (by omega), show v.length + 1 - v.length = 1 by omega]
  simp
theorem rowS_len (b : List Int) : ∀ (n : Nat) (r : Rd), (rowS b n r).1.length = n
  | 0, _ => rfl
  | n + 1, r => by rw [rowS]; simp [rowS_len b n]
theorem rowS_bytes {b : List Int} (hb : bytes b) : ∀ (n : Nat) (r : Rd), okRd b r -> bytes (rowS b n r).1 /\ okRd b (rowS b n r).2
  | 0, r, h => ⟨fun x hx => (by cases hx), h⟩
  | n + 1, r, h => by
    have ih := rowS_bytes hb n (byteS b r).2 (byteS_ok h)
    rw [rowS]
    refine ⟨fun x hx => ?_, ih.2⟩
    rcases List.mem_cons.1 hx with rfl | hx
    · exact byteS_byte hb h
    · exact ih.1 x hx
theorem MEFld3.NM : type_of% @NSX /\ type_of% @St.keepS.eq_1 /\ type_of% @TY /\ type_of% @SLS /\ type_of% @nums_length /\ type_of% @take16 /\ type_of% @TR.eq_1 :=
  ⟨NSX, St.keepS.eq_1, @TY, @SLS, @nums_length, @take16, @TR.eq_1⟩
open MEFld3
theorem K1EFld3.kp {P : Program} {c : Code} {Q : Exit -> St -> Prop} {st : St} (h : AW P c Q (st.keepS [0, 1, 2, 6, 7, 8, 9, 10, 99])) : AW P c Q st := AW.keepS _ h
theorem K1EFld3.cl {p : Prop} (h : p := by
  first
    | refine AWL.cM (f := 24) [(0, 0), (1002, 1002)] cb24 rfl rfl rfl rfl rfl rfl rfl (hby) ?_
    | refine AWL.frzG rfl rfl rfl ?_
    | refine AWL.cC (f := 56) cb56 rfl rfl rfl rfl rfl rfl (hsp) ?_
  all_goals (apply_rules (newGoals := .nonDependentOnly) only [dep])
  all_goals constructor) : p := h
theorem K1EFld3.att {p : Prop} (h : p := by
  first
    | (first | (refine AT.takeM (L := (bA 12 0)) (L' := (bA 12 1)) 0 rfl rfl rfl rfl rfl panA (by decide +kernel) (by decide +kernel) ?_; (try (conv => arg -1; simp (disch := omega) only [NM, Nat.reduceBEq, reduceAdd, reduceMul, Int.reduceToNat, reduceSub, List.set_cons_zero, List.set_cons_succ, nx]))) | (refine AT.takeM (L := (bA 12 1)) (L' := (bA 12 3)) 1 rfl rfl rfl rfl rfl panA (by decide +kernel) (by decide +kernel) ?_; (try (conv => arg -1; simp (disch := omega) only [NM, Nat.reduceBEq, reduceAdd, reduceMul, Int.reduceToNat, reduceSub, List.set_cons_zero, List.set_cons_succ, nx]))) | (refine AT.takeF (L := (bA 12 3)) (L' := (bA 12 7)) 2 rfl rfl rfl rfl rfl rfl rfl rfl panA (by decide +kernel) (by decide +kernel) ?_; (try (conv => arg -1; simp (disch := omega) only [NM, Nat.reduceBEq, reduceAdd, reduceMul, Int.reduceToNat, reduceSub, List.set_cons_zero, List.set_cons_succ, nx]))) | (refine AT.takeF (L := (bA 12 7)) (L' := (bA 12 23)) 4 rfl rfl rfl rfl rfl rfl rfl rfl panA (by decide +kernel) (by decide +kernel) ?_; (try (conv => arg -1; simp (disch := omega) only [NM, Nat.reduceBEq, reduceAdd, reduceMul, Int.reduceToNat, reduceSub, List.set_cons_zero, List.set_cons_succ, nx]))) | refine AT.step (L := (bA 12 23)) [3, 5] (by decide +kernel) (by decide) (memL2 ⟨_, (bA 12 31), rfl, (by decide +kernel), ?_⟩ ⟨_, (bA 12 55), rfl, (by decide +kernel), ?_⟩) | refine AT.step (L := (bA 12 55)) [3] (by decide +kernel) (by decide) (memL1 ⟨_, (bA 12 63), rfl, (by decide +kernel), ?_⟩) | (refine AT.takeN (L := (bA 12 63)) (L' := (bA 12 127)) 6 rfl rfl rfl rfl rfl rfl panA (by decide +kernel) (by decide +kernel) ?_; (try (conv => arg -1; simp (disch := omega) only [NM, Nat.reduceBEq, reduceAdd, reduceMul, Int.reduceToNat, reduceSub, List.set_cons_zero, List.set_cons_succ, nx]))) | (refine AT.takeF (L := (bA 12 127)) (L' := (bA 12 255)) 7 rfl rfl rfl rfl rfl rfl rfl rfl panA (by decide +kernel) (by decide +kernel) ?_; (try (conv => arg -1; simp (disch := omega) only [NM, Nat.reduceBEq, reduceAdd, reduceMul, Int.reduceToNat, reduceSub, List.set_cons_zero, List.set_cons_succ, nx]))) | refine AT.step (L := (bA 12 255)) [8] (by decide +kernel) (by decide) (memL1 ⟨_, (bA 12 511), rfl, (by decide +kernel), ?_⟩) | (refine AT.takeN (L := (bA 12 511)) (L' := (bA 12 1023)) 9 rfl rfl rfl rfl rfl rfl panA (by decide +kernel) (by decide +kernel) ?_; (try (conv => arg -1; simp (disch := omega) only [NM, Nat.reduceBEq, reduceAdd, reduceMul, Int.reduceToNat, reduceSub, List.set_cons_zero, List.set_cons_succ, nx]))) | (refine AT.takeF (L := (bA 12 1023)) (L' := (bA 12 2047)) 10 rfl rfl rfl rfl rfl rfl rfl rfl panA (by decide +kernel) (by decide +kernel) ?_; (try (conv => arg -1; simp (disch := omega) only [NM, Nat.reduceBEq, reduceAdd, reduceMul, Int.reduceToNat, reduceSub, List.set_cons_zero, List.set_cons_succ, nx]))) | refine AT.step (L := (bA 12 2047)) [11] (by decide +kernel) (by decide) (memL1 ⟨_, (bA 12 4095), rfl, (by decide +kernel), ?_⟩) | refine AT.done (L := (bA 12 4095)) (by decide +kernel) ?_ | (refine AT.takeN (L := (bA 12 31)) (L' := (bA 12 95)) 6 rfl rfl rfl rfl rfl rfl panA (by decide +kernel) (by decide +kernel) ?_; (try (conv => arg -1; simp (disch := omega) only [NM, Nat.reduceBEq, reduceAdd, reduceMul, Int.reduceToNat, reduceSub, List.set_cons_zero, List.set_cons_succ, nx]))) | (refine AT.takeF (L := (bA 12 95)) (L' := (bA 12 223)) 7 rfl rfl rfl rfl rfl rfl rfl rfl panA (by decide +kernel) (by decide +kernel) ?_; (try (conv => arg -1; simp (disch := omega) only [NM, Nat.reduceBEq, reduceAdd, reduceMul, Int.reduceToNat, reduceSub, List.set_cons_zero, List.set_cons_succ, nx]))) | refine AT.step (L := (bA 12 223)) [5, 8] (by decide +kernel) (by decide) (memL2 ⟨_, (bA 12 255), rfl, (by decide +kernel), ?_⟩ ⟨_, (bA 12 479), rfl, (by decide +kernel), ?_⟩) | refine AT.step (L := (bA 12 479)) [5] (by decide +kernel) (by decide) (memL1 ⟨_, (bA 12 511), rfl, (by decide +kernel), ?_⟩))
  all_goals (apply_rules (newGoals := .nonDependentOnly) only [dep])
  all_goals constructor) : p := h
theorem K1EFld3.sd {p : Prop} (h : p := by first | exact sd1eb496) : p := h
open K1EFld3 in
set_option maxHeartbeats 6400000 in
theorem rdfields16_ok (b : List Int) (hb : bytes b) (hlen : b.length <= 1000000000) (r : Rd) (hr : okRd b r) (form : Int) (hf : form = 11 \/ form = 12) (i : Ins) :
    AM Try.prog 29 [.ptr 0 0, .ptr 1 0, .int .i64 form] (rdM 0 1002 b r ++ inM 1 2005 i) [0, 1] (fun v m => v = .tup [] /\ m = rdM 0 1002 b (fieldsS b form r i).2 ++ inM 1 2005 (fieldsS b form r i).1) := by
  obtain ⟨io, ia, ib, il, ih, ill⟩ := i
  obtain ⟨A, hA⟩ : ∃ A, fieldsS b form r ⟨io, ia, ib, il, ih, ill⟩ = A := ⟨_, rfl⟩
  rw [hA]
  unfold fieldsS at hA
  rw [if_neg (by omega), if_neg (by omega), if_neg (by omega), if_neg (by omega), if_neg (by omega), if_neg (by omega), if_neg (by omega), if_pos hf] at hA
  have hwl := rowS_len b 16 r
  have hwb := (rowS_bytes hb 16 r hr).1
  obtain ⟨w, rr, hw⟩ : ∃ w rr, rowS b 16 r = (w, rr) := ⟨_, _, rfl⟩
  rw [hw] at hA hwl hwb
  simp only at hA hwl hwb
  subst hA
  have hsp := split_ok w hwl hwb
  rcases hf with rfl | rfl
  all_goals
    unfold rdM inM at *
    refine AM.enter Try.func29 rfl (Nat.le_of_ble_eq_true rfl) (fun pn => ?_)
    simp only [Try.f29]
    have nx : True := trivial
    refine' st45ee85
    refine AW.loop [0, 1, 7, 99] [0, 1002, 1, 2005, 7] (fun m st => ∃ (k : Nat) (r' : Rd) (v : List Int), st = TR pn b r' io ia ib il ih ill (v ++ zs (16 - k)) k /\ okRd b r' /\ v.length = k /\ k <= 16 /\ (w, rr) = (v ++ (rowS b (16 - k) r').1, (rowS b (16 - k) r').2) /\ m = 16 - k) ?_ ?_
    · exact ⟨_, 0, r, [], rfl, hr, rfl, Nat.zero_le _, hw.symm, rfl⟩
    rintro m st ⟨k, r', v, rfl, hr', hvl, hk, hv, rfl⟩
    by_cases hk16 : k < 16
    · have e5 : IntKind.i64.wrap ((k : Int) + 1) = ((k + 1 : Nat) : Int) := wrap64_id _ (by omega) (by omega)
      have hby := rdbyte_ok b hb hlen r' hr'
      have hx := byteS_byte hb hr'
      have hr2 := byteS_ok hr'
      rw [show 16 - k = 16 - (k + 1) + 1 by omega, rowS] at hv
      unfold rdM at hby
      obtain ⟨x, r2, e⟩ : ∃ x r2, byteS b r' = (x, r2) := ⟨_, _, rfl⟩
      rw [e] at hby hx hr2 hv
      simp only at hx hr2 hv
      have hset := setI_zs v k hvl hk16 x
      have ex : IntKind.u8.wrap x = x := wrap_in rfl hx.1 (by have := hx.2; show _ < (256 : Int); omega)
      have hzl : (v ++ zs (16 - k)).length = 16 := by rw [List.length_append, hvl]; unfold zs; rw [List.length_replicate]; omega
      have nx : type_of% @e5 /\ type_of% @ex /\ type_of% @hset /\ type_of% @hzl /\ True := ⟨@e5, ⟨@ex, ⟨@hset, ⟨@hzl, trivial⟩⟩⟩⟩
      refine' st45ee85
      all_goals first
        | exact ⟨16 - (k + 1), by omega, k + 1, r2, v ++ [x], rfl, hr2, by simp [hvl], by omega, by rw [hv]; simp, rfl⟩
        | trace_state
    · obtain rfl : k = 16 := by omega
      have hv2 : w = v /\ rr = r' := by
        simp only [Nat.sub_self, rowS, List.append_nil, Prod.mk.injEq] at hv; exact hv
      obtain ⟨rfl, rfl⟩ := hv2
      have hz0 : w ++ zs (16 - 16) = w := List.append_nil w
      rw [hz0]
      have nx : True := trivial
      refine' sta428e2
      refine AW.drawT (L0 := (bA 12 0)) (by decide +kernel) hmix ?_
      have nx : True := trivial
      refine' stfa3ba1
      all_goals
        (repeat (first | refine QEq.mp (by assumption) ?_ | simp only [thenQ, Go.Abs.blockQ, ↓reduceIte, Nat.reduceEqDiff]))
        have nx : True := trivial
        refine' st45ee85
        all_goals first | exact ⟨trivial, trivial⟩ | exact ⟨rfl, trivial⟩ | exact ⟨rfl, rfl⟩ | exact ⟨trivial, rfl⟩ | (exfalso; omega) | trace_state
end Go.Proofs.Yteppkbaeacndiaa
namespace Go.Proofs.Yteppkbaeacndiaa
set_option maxRecDepth 20000
open Go Go.Abs Nat
theorem lendL_AW {P : Program} {st : St} {Q : Exit -> St -> Prop} {c : Code} (b : Bool) (W : List Nat) (h : AW P c Q (st.lendL b W)) : AW P c Q st := fun C a w ⟨S, β, hs⟩ => h C a w ⟨S, β, hs.lendL b W⟩
attribute [local irreducible] AW AWL AC FW CW CWr IntKind.wrap
theorem rdfields_ok (b : List Int) (hb : bytes b) (hlen : b.length <= 1000000000) (r : Rd) (hr : okRd b r) (form : Int) (i : Ins) (hil : i.l = []) :
    AM Try.prog 29 [.ptr 0 0, .ptr 1 0, .int .i64 form] (rdM 0 1002 b r ++ inM 1 2005 i) [0, 1] (fun v m => v = .tup [] /\ m = rdM 0 1002 b (fieldsS b form r i).2 ++ inM 1 2005 (fieldsS b form r i).1) := by
  by_cases h4 : form = 4
  · subst h4; exact rdfields4_ok b hb hlen r hr i hil
  · by_cases h11 : form = 11 \/ form = 12
    · exact rdfields16_ok b hb hlen r hr form h11 i
    · exact rdfields0_ok b hb hlen r hr form h4 (fun h => h11 (.inl h)) (fun h => h11 (.inr h)) i
def insO (k : Nat) (i : Ins) : List V := [.int .i64 i.op, .int .i64 i.a, .int .i64 i.b, .int .u64 i.lo, .int .u64 i.hi, .ref k 0 i.l.length 1]
def tailS (b : List Int) (op : Int) (r : Rd) : Ins × Rd :=
  ((bodyS b op (chkS op r)).1, if (bodyS b op (chkS op r)).2.err = 0 /\ 2 <= op /\ op <= 5 then blockS op (bodyS b op (chkS op r)).2 else (bodyS b op (chkS op r)).2)
def endS (op : Int) (p : Ins × Rd) : Ins × Rd := (p.1, if p.2.err = 0 /\ 2 <= op /\ op <= 5 then blockS op p.2 else p.2)
def fltR (op : Int) (r : Rd) : Rd := if flS op = true then failS r 11 else r
def offR (op : Int) (r : Rd) : Rd := if (ofS op).2 = true then r else failS r 10
theorem tailS_eq (b : List Int) (op : Int) (r : Rd) : tailS b op r = endS op (bodyS b op (offR op (fltR op r))) := rfl
theorem instrS_eq (b : List Int) (r : Rd) : instrS b r = tailS b (opS b r).1 (opS b r).2 := rfl
def T10i (pn : Nat -> Option BI) (b : List Int) (op : Int) (r : Rd) : St := { n := 67, slots := [(0, .ptr 0 0), (2, .ptr 2 0), (3, .int .i64 op)], mem := [(0, ⟨false, [.view b.length 1 (nums .u8 b), .int .i64 r.pos, .ref 1002 0 r.op.length 1, .int .i64 r.err]⟩), (1002, ⟨true, nums .i64 (r.op ++ r.jk)⟩), (2, ⟨false, [.int .i64 0, .int .i64 0, .int .i64 0, .int .u64 0, .int .u64 0, .ref 3005 0 0 1]⟩), (3005, ⟨true, []⟩)], lent := [(0, pn 0), (1002, none)] }
def T15i (pn : Nat -> Option BI) (b : List Int) (op : Int) (r : Rd) (z : InfoS) : St := { n := 67, slots := [(0, .ptr 0 0), (2, .ptr 2 0), (3, .int .i64 op), (5, .ptr 5 0)], mem := [(0, ⟨false, [.view b.length 1 (nums .u8 b), .int .i64 r.pos, .ref 1002 0 r.op.length 1, .int .i64 r.err]⟩), (1002, ⟨true, nums .i64 (r.op ++ r.jk)⟩), (2, ⟨false, [.int .i64 0, .int .i64 0, .int .i64 0, .int .u64 0, .int .u64 0, .ref 3005 0 0 1]⟩), (3005, ⟨true, []⟩), (5, ⟨false, [.int .i64 z.1, .int .i64 z.2.1, .bool z.2.2.1, .view z.2.2.2.1.length 1 (nums .i64 z.2.2.2.1), .view z.2.2.2.2.length 1 (nums .i64 z.2.2.2.2)]⟩)], lent := [(0, pn 0), (1002, none)] }
def T18i (pn : Nat -> Option BI) (b : List Int) (op : Int) (r : Rd) (i : Ins) : St := { n := 67, slots := [(0, .ptr 0 0), (2, .ptr 2 0), (3, .int .i64 op), (7, .ptr 7 0)], mem := [(0, ⟨false, [.view b.length 1 (nums .u8 b), .int .i64 r.pos, .ref 1002 0 r.op.length 1, .int .i64 r.err]⟩), (1002, ⟨true, nums .i64 (r.op ++ r.jk)⟩), (2, ⟨false, [.int .i64 0, .int .i64 0, .int .i64 0, .int .u64 0, .int .u64 0, .ref 3005 0 0 1]⟩), (3005, ⟨true, []⟩), (7, ⟨false, [.int .i64 i.op, .int .i64 i.a, .int .i64 i.b, .int .u64 i.lo, .int .u64 i.hi, .ref 8005 0 i.l.length 1]⟩), (8005, ⟨true, nums .i64 i.l⟩)], lent := [(8005, none), (0, pn 0), (1002, none)] }
theorem failS_op (r : Rd) (e : Int) : (failS r e).op = r.op := by unfold failS; split <;> rfl
theorem byteS_op (b : List Int) (r : Rd) : (byteS b r).2.op = r.op := by
  unfold byteS; split
  · exact failS_op _ _
  · rfl
theorem numS_op (b : List Int) (r : Rd) : (numS b r).2.op = r.op := by
  unfold numS; split
  · rfl
  · split
    · exact failS_op _ _
    · rfl
theorem sgnS_op (b : List Int) (n : Int) (r : Rd) : (sgnS b n r).2.op = r.op := by
  unfold sgnS; split
  · rfl
  · split
    · exact failS_op _ _
    · rfl
theorem kindS_op (b : List Int) (r : Rd) : (kindS b r).2.op = r.op := by
  have hN : (kindN b r).2.op = r.op := by
    unfold kindN; simp only; split
    · rw [failS_op, sgnS_op]
    · exact sgnS_op _ _ _
  unfold kindS
  split
  · split
    · rfl
    · split
      · exact failS_op _ _
      · exact hN
  · exact hN
theorem tabS_op (b : List Int) : ∀ (n : Nat) (r : Rd) (l : List Int), (tabS b n r l).2.op = r.op
  | 0, _, _ => rfl
  | n + 1, r, l => by
    rw [tabS]; split
    · rw [tabS_op b n, numS_op]
    · rfl
theorem rowS_op (b : List Int) : ∀ (n : Nat) (r : Rd), (rowS b n r).2.op = r.op
  | 0, _ => rfl
  | n + 1, r => by rw [rowS]; simp only; rw [rowS_op b n, byteS_op]
theorem fieldsS_op (b : List Int) (form : Int) (r : Rd) (i : Ins) : (fieldsS b form r i).2.op = r.op := by
  unfold fieldsS
  repeat' split
  all_goals first
    | rfl
    | exact kindS_op _ _
    | exact numS_op _ _
    | exact sgnS_op _ _ _
    | exact byteS_op _ _
    | exact rowS_op _ _ _
    | (simp only [numS_op, tabS_op, byteS_op, failS_op]; done)
theorem MEIns.NM : type_of% @NSX /\ type_of% @St.keepS.eq_1 /\ type_of% @TY /\ type_of% @SLS /\ type_of% @nums_length /\ type_of% @T10i.eq_1 /\ type_of% @T15i.eq_1 /\ type_of% @T18i.eq_1 /\ type_of% @infoL.eq_1 :=
  ⟨NSX, St.keepS.eq_1, @TY, @SLS, @nums_length, @T10i.eq_1, @T15i.eq_1, @T18i.eq_1, @infoL.eq_1⟩
open MEIns
theorem K1EIns.kp {P : Program} {c : Code} {Q : Exit -> St -> Prop} {st : St} (h : AW P c Q (st.keepS [0, 2, 3, 4, 5, 6, 7, 10])) : AW P c Q st := AW.keepS _ h
theorem K1EIns.cl {p : Prop} (h : p := by
  first
    | refine AWL.cM (f := 24) [(0, 0), (1002, 1002)] cb24 rfl rfl rfl rfl rfl rfl rfl (hby) ?_
    | refine AWL.cM (f := 25) [(0, 0), (1002, 1002)] cb25 rfl rfl rfl rfl rfl rfl rfl (hnm) ?_
    | refine AWL.cM (f := 26) [(0, 0), (1002, 1002)] cb26 rfl rfl rfl rfl rfl rfl rfl (hf11) ?_
    | refine AWL.cM (f := 26) [(0, 0), (1002, 1002)] cb26 rfl rfl rfl rfl rfl rfl rfl (hf10) ?_
    | refine AWL.cM (f := 29) [(0, 0), (1002, 1002), (1, 7), (2005, 8005)] cb29 rfl rfl rfl rfl rfl rfl rfl (hfd) ?_
    | refine AWL.cM (f := 30) [(0, 0), (1002, 1002)] cb30 rfl rfl rfl rfl rfl rfl rfl (hbl) ?_
    | refine AWL.frzG rfl rfl rfl ?_
    | refine AWL.cC (f := 27) cb27 rfl rfl rfl rfl rfl rfl (hflo) ?_
    | refine AWL.cC (f := 28) cb28 rfl rfl rfl rfl rfl rfl (hof) ?_
  all_goals (apply_rules (newGoals := .nonDependentOnly) only [dep])
  all_goals constructor) : p := h
theorem K1EIns.sd {p : Prop} (h : p := by first | exact sd2f6d03) : p := h
open K1EIns in
set_option maxHeartbeats 6400000 in
theorem rdinstr_ok (b : List Int) (hb : bytes b) (hlen : b.length <= 1000000000) (r : Rd) (hr : okRd b r) (hol : r.op.length <= 1000000) :
    AM Try.prog 15 [.ptr 0 0] (rdM 0 1002 b r) [0] (fun v m => v = .agg (insO 3005 (instrS b r).1) /\ m = rdM 0 1002 b (instrS b r).2 ++ [(3005, ⟨true, nums .i64 (instrS b r).1.l⟩)]) := by
  have hby := rdbyte_ok b hb hlen r hr
  have hbop := byteS_op b r
  have hr1 := byteS_ok hr
  have hx := byteS_byte hb hr
  have hnm : True := trivial
  have hf11 : True := trivial
  have hf10 : True := trivial
  have hfd : True := trivial
  have hbl : True := trivial
  have hflo : True := trivial
  have hof : True := trivial
  obtain ⟨A, hA⟩ : ∃ A, instrS b r = A := ⟨_, rfl⟩
  rw [hA]
  rw [instrS_eq] at hA
  unfold opS at hA
  generalize byteS b r = z at hby hbop hr1 hx hA
  obtain ⟨c, r1⟩ := z
  simp only at hbop hr1 hx hA
  have hx1 := hx.1
  have hx2 := hx.2
  rw [<- hbop] at hol
  unfold rdM insO at *
  refine AM.enter Try.func15 rfl (Nat.le_of_ble_eq_true rfl) (fun pn => ?_)
  simp only [Try.f15]
  have nx : True := trivial
  refine' stb68308
  rename_i Qm hQm hPm
  have hrest : ∀ (op : Int) (r' : Rd), okRd b r' -> r'.op.length <= 1000000 -> 0 <= op -> op < 4295032064 -> tailS b op r' = A -> ∀ s : St, s.keep [0, 2, 3] [0, 1002, 2, 3005] = T10i pn b op r' -> Qm .normal s := by
    clear hby hx hA
    intro op r' hr' hol' ho1 ho2 hT s hs
    refine QEq.mp hQm ?_
    simp only [thenQ, Go.Abs.blockQ, ↓reduceIte, Nat.reduceEqDiff]
    refine AW.keep [0, 2, 3] [0, 1002, 2, 3005] ?_
    rw [hs]
    rw [tailS_eq] at hT
    have hflo := float_ok op (by omega)
    have hof := of_look op
    have hf11 := rdfail_ok b r' 11
    have nx : True := trivial
    refine' staaa2e6
    rename_i Qm2 hQm2 hPm2
    have hrest2 : ∀ (r' : Rd), okRd b r' -> r'.op.length <= 1000000 -> endS op (bodyS b op (offR op r')) = A -> ∀ s : St, s.keep [0, 2, 3] [0, 1002, 2, 3005] = T10i pn b op r' -> Qm2 .normal s := by
      clear hflo hf11
      intro r' hr' hol' hT s hs
      refine QEq.mp hQm2 ?_
      simp only [thenQ, Go.Abs.blockQ, ↓reduceIte, Nat.reduceEqDiff]
      refine AW.keep [0, 2, 3] [0, 1002, 2, 3005] ?_
      rw [hs]
      have hf10 := rdfail_ok b r' 10
      have nx : True := trivial
      refine' st97e758
      rename_i Qm3 hQm3 hPm3
      have hrest3 : ∀ (r' : Rd), okRd b r' -> r'.op.length <= 1000000 -> endS op (bodyS b op r') = A -> ∀ s : St, s.keep [0, 2, 3, 5] [0, 1002, 2, 3005, 5] = T15i pn b op r' (ofS op).1 -> Qm3 .normal s := by
        clear hf10 hof
        intro r' hr' hol' hT s hs
        refine QEq.mp hQm3 ?_
        simp only [thenQ, Go.Abs.blockQ, ↓reduceIte, Nat.reduceEqDiff]
        refine AW.keep [0, 2, 3, 5] [0, 1002, 2, 3005, 5] ?_
        rw [hs]
        have hfd := rdfields_ok b hb hlen r' hr' (ofS op).1.1 ⟨op, 0, 0, 0, 0, []⟩ rfl
        have hfo := fieldsS_op b (ofS op).1.1 r' ⟨op, 0, 0, 0, 0, []⟩
        unfold bodyS at hT
        generalize (ofS op).1 = z at hfd hfo hT
        generalize fieldsS b z.1 r' ⟨op, 0, 0, 0, 0, []⟩ = y at hfd hfo hT
        obtain ⟨i1, r5⟩ := y
        unfold rdM inM at hfd
        simp only [List.length_nil] at hfd hfo
        have nx : True := trivial
        refine' sta76485
        rename_i Qm4 hQm4 hPm4
        have hrest4 : ∀ (r' : Rd) (i : Ins), r'.op.length <= 1000000 -> endS op (i, r') = A -> ∀ s : St, s.keep [0, 2, 3, 7] [0, 1002, 2, 3005, 7, 8005] = T18i pn b op r' i \/ (s.keep [0, 2, 3, 7] [0, 1002, 2, 3005, 7, 8005]).lendL true [8005] = T18i pn b op r' i -> Qm4 .normal s := by
          clear hfd hfo hT
          intro r' i hol' hT s hs
          refine QEq.mp hQm4 ?_
          simp only [thenQ, Go.Abs.blockQ, ↓reduceIte, Nat.reduceEqDiff]
          refine AW.keep [0, 2, 3, 7] [0, 1002, 2, 3005, 7, 8005] ?_
          suffices h0 : AW _ _ _ (T18i pn b op r' i) by
            rcases hs with hs | hs
            · rw [hs]; exact h0
            · exact lendL_AW true [8005] (by rw [hs]; exact h0)
          unfold endS at hT
          obtain ⟨io, ia, ib, il, ih, ill⟩ := i
          by_cases hc : r'.err = 0 /\ 2 <= op /\ op <= 5
          · rw [if_pos hc] at hT
            have hbl := rdblock_ok b r' hol' op
            unfold rdM at hbl
            obtain ⟨hc1, hc2, hc3⟩ := hc
            subst hT
            have nx : type_of% @List.take_length.{0} /\ True := ⟨@List.take_length.{0}, trivial⟩
            refine' st0f7bdc
            all_goals first | exact ⟨trivial, trivial⟩ | exact ⟨rfl, trivial⟩ | exact ⟨rfl, rfl⟩ | exact ⟨trivial, rfl⟩ | (exfalso; omega) | trace_state
          · rw [if_neg hc] at hT
            subst hT
            have nx : type_of% @List.take_length.{0} /\ True := ⟨@List.take_length.{0}, trivial⟩
            refine' st0f7bdc
            all_goals first | exact ⟨trivial, trivial⟩ | exact ⟨rfl, trivial⟩ | exact ⟨rfl, rfl⟩ | exact ⟨trivial, rfl⟩ | (exfalso; omega) | trace_state
        clear hQm4
        by_cases he : r'.err = 0
        · rw [if_pos he] at hT
          have nx : True := trivial
          refine' st0f7bdc
          all_goals first
            | exact hrest4 r5 i1 (by rw [hfo]; exact hol') hT _ (.inl rfl)
            | trace_state
        · rw [if_neg he] at hT
          have nx : True := trivial
          refine' st0f7bdc
          all_goals first
            | exact hrest4 r' ⟨op, 0, 0, 0, 0, []⟩ hol' hT _ (.inr rfl)
            | trace_state
      clear hQm3
      unfold offR at hT
      by_cases h2 : (ofS op).2 = true
      · rw [if_pos h2] at hT
        have nx : type_of% @h2 /\ True := ⟨@h2, trivial⟩
        refine' st0f7bdc
        all_goals first
          | exact hrest3 r' hr' hol' hT _ rfl
          | trace_state
      · rw [if_neg h2] at hT
        have h3 : (ofS op).2 = false := by simpa using h2
        unfold rdM at hf10
        have nx : type_of% @h3 /\ True := ⟨@h3, trivial⟩
        refine' st0f7bdc
        all_goals first
          | exact hrest3 _ (failS_ok hr' 10) (by rw [failS_op]; exact hol') hT _ rfl
          | trace_state
    clear hQm2
    unfold fltR at hT
    by_cases h2 : flS op = true
    · rw [if_pos h2] at hT
      unfold rdM at hf11
      have nx : type_of% @h2 /\ True := ⟨@h2, trivial⟩
      refine' st0f7bdc
      all_goals first
        | exact hrest2 _ (failS_ok hr' 11) (by rw [failS_op]; exact hol') hT _ rfl
        | trace_state
    · rw [if_neg h2] at hT
      have h3 : flS op = false := by simpa using h2
      have nx : type_of% @h3 /\ True := ⟨@h3, trivial⟩
      refine' st0f7bdc
      all_goals first
        | exact hrest2 r' hr' hol' hT _ rfl
        | trace_state
  clear hQm
  have hnm := rdnum_ok b hb hlen r1 hr1
  have hnk := numS_ok hb hr1
  have hno := numS_op b r1
  generalize numS b r1 = z at hnm hnk hno hA
  obtain ⟨n, r2⟩ := z
  simp only at hnk hno hA
  obtain ⟨hr2, hn1, hn2⟩ := hnk
  rw [<- hno] at hol
  unfold rdM at hnm
  have ew : IntKind.i64.wrap (64768 + n) = 64768 + n := wrap64_id _ (by omega) (by omega)
  by_cases h1 : c = 253
  · rw [if_pos h1] at hA
    subst h1
    have nx : type_of% @ew /\ True := ⟨@ew, trivial⟩
    refine' st0f7bdc
    all_goals first
      | exact hrest (64768 + n) r2 hr2 hol (by omega) (by omega) hA _ rfl
      | trace_state
  · rw [if_neg h1] at hA
    by_cases h2 : c = 252
    · rw [if_pos h2] at hA
      subst h2
      by_cases h7 : n <= 7
      · have hf11 := rdfail_ok b r2 11
        have hf10 := rdfail_ok b (failS r2 11) 10
        rw [if_pos h7] at hA
        unfold rdM at hf11 hf10
        have nx : True := trivial
        refine' st0f7bdc
        all_goals first
          | exact hrest 252 _ (failS_ok (failS_ok hr2 11) 10) (by rw [failS_op, failS_op]; exact hol) (by omega) (by omega) hA _ rfl
          | trace_state
      · have hf10 := rdfail_ok b r2 10
        rw [if_neg h7] at hA
        unfold rdM at hf10
        have nx : True := trivial
        refine' st0f7bdc
        all_goals first
          | exact hrest 252 _ (failS_ok hr2 10) (by rw [failS_op]; exact hol) (by omega) (by omega) hA _ rfl
          | trace_state
    · rw [if_neg h2] at hA
      have nx : True := trivial
      refine' st0f7bdc
      all_goals first
        | exact hrest c r1 hr1 (by rw [<- hno]; exact hol) (by omega) (by omega) hA _ rfl
        | trace_state
end Go.Proofs.Yteppkbaeacndiaa
namespace Go.Proofs.Yteppkbaeacndiaa
set_option maxRecDepth 20000
open Go Go.Abs
structure Adv (b : List Int) (r r' : Rd) : Prop where
  ok : okRd b r'
  pos : r.pos <= r'.pos
  err : r'.err = 0 -> r.err = 0
theorem Adv.refl {b : List Int} {r : Rd} (h : okRd b r) : Adv b r r := ⟨h, Int.le_refl _, id⟩
theorem Adv.trans {b : List Int} {r r1 r2 : Rd} (h : Adv b r r1) (h2 : Adv b r1 r2) : Adv b r r2 := ⟨h2.ok, Int.le_trans h.pos h2.pos, fun h0 => h.err (h2.err h0)⟩
theorem failS_adv {b : List Int} {r : Rd} (e : Int) (he : e ≠ 0) (h : okRd b r) : Adv b r (failS r e) := by
  refine ⟨failS_ok h e, ?_, ?_⟩
  · unfold failS; split <;> exact Int.le_refl _
  · unfold failS; split
    · intro h0; exact absurd h0 he
    · exact id
theorem failS_ne (r : Rd) {e : Int} (he : e ≠ 0) : (failS r e).err ≠ 0 := by
  unfold failS; split
  · exact he
  · assumption
theorem byteS_adv {b : List Int} {r : Rd} (h : okRd b r) : Adv b r (byteS b r).2 /\ ((byteS b r).2.err = 0 -> r.pos + 1 <= (byteS b r).2.pos) := by
  refine ⟨⟨byteS_ok h, ?_, ?_⟩, ?_⟩ <;> unfold byteS <;> split
  · exact (failS_adv 10 (by decide) h).pos
  · simp only; omega
  · exact (failS_adv (b := b) 10 (by decide) h).err
  · exact id
  · intro h0; exact absurd h0 (failS_ne r (by decide))
  · intro _; simp only; omega
theorem numS_adv {b : List Int} (hb : bytes b) {r : Rd} (h : okRd b r) : Adv b r (numS b r).2 := by
  refine ⟨(numS_ok hb h).1, ?_, ?_⟩
  · unfold numS; split
    · exact Int.le_refl _
    · split
      · exact (failS_adv 10 (by decide) h).pos
      · rename_i _ c
        have := uSpec_ok hb ⟨h.p0, h.p1⟩ (Classical.not_not.1 c)
        simp only; omega
  · unfold numS; split
    · exact id
    · split
      · exact (failS_adv (b := b) 10 (by decide) h).err
      · exact id
theorem sgnS_adv {b : List Int} {r : Rd} {n : Int} (hn : 1 <= n /\ n <= 64) (h : okRd b r) : Adv b r (sgnS b n r).2 := by
  refine ⟨sgnS_ok hn h, ?_, ?_⟩
  · unfold sgnS; split
    · exact Int.le_refl _
    · split
      · exact (failS_adv 10 (by decide) h).pos
      · rename_i _ c
        have := sSpec_pos hn ⟨h.p0, h.p1⟩ (Classical.not_not.1 c)
        simp only; omega
  · unfold sgnS; split
    · exact id
    · split
      · exact (failS_adv (b := b) 10 (by decide) h).err
      · exact id
theorem kindS_adv {b : List Int} {r : Rd} (h : okRd b r) : Adv b r (kindS b r).2 := by
  have hN : Adv b r (kindN b r).2 := by
    have h1 := sgnS_adv (n := 33) ⟨by decide, by decide⟩ h
    unfold kindN; simp only; split
    · exact h1.trans (failS_adv 10 (by decide) h1.ok)
    · exact h1
  have h0 := h.p0; have h1 := h.p1
  unfold kindS; split
  · split
    · exact ⟨⟨by simp only; omega, by simp only; omega⟩, by simp only; omega, id⟩
    · split
      · exact failS_adv 11 (by decide) h
      · exact hN
  · exact hN
theorem tabS_adv {b : List Int} (hb : bytes b) : ∀ (n : Nat) (r : Rd) (l : List Int), okRd b r -> Adv b r (tabS b n r l).2
  | 0, _, _, h => .refl h
  | n + 1, r, l, h => by
    rw [tabS]; split
    · have h1 := numS_adv hb h
      exact h1.trans (tabS_adv hb n _ _ h1.ok)
    · exact .refl h
theorem rowS_adv {b : List Int} : ∀ (n : Nat) (r : Rd), okRd b r -> Adv b r (rowS b n r).2
  | 0, _, h => .refl h
  | n + 1, r, h => by
    rw [rowS]
    have h1 := (byteS_adv h).1
    exact h1.trans (rowS_adv n _ h1.ok)
theorem fieldsS_adv {b : List Int} (hb : bytes b) (form : Int) {r : Rd} (i : Ins) (h : okRd b r) : Adv b r (fieldsS b form r i).2 := by
  have hN := numS_adv hb h
  have hN2 := hN.trans (numS_adv hb hN.ok)
  have hB := (byteS_adv h).1
  unfold fieldsS
  by_cases c1 : form = 2
  · rw [if_pos c1]; exact kindS_adv h
  rw [if_neg c1]
  by_cases c2 : form = 3 \/ form = 5
  · rw [if_pos c2]; exact hN
  rw [if_neg c2]
  by_cases c3 : form = 4
  · rw [if_pos c3]
    have hT := hN.trans (tabS_adv hb (numS b r).1.toNat _ i.l hN.ok)
    exact hT.trans (numS_adv hb hT.ok)
  rw [if_neg c3]
  by_cases c4 : form = 6 \/ form = 7
  · rw [if_pos c4]; exact hN2
  rw [if_neg c4]
  by_cases c5 : form = 8
  · rw [if_pos c5]; exact hN2.trans (byteS_adv hN2.ok).1
  rw [if_neg c5]
  by_cases c6 : form = 9
  · rw [if_pos c6]; exact sgnS_adv ⟨by decide, by decide⟩ h
  rw [if_neg c6]
  by_cases c7 : form = 10
  · rw [if_pos c7]; exact sgnS_adv ⟨by decide, by decide⟩ h
  rw [if_neg c7]
  by_cases c8 : form = 11 \/ form = 12
  · rw [if_pos c8]; exact rowS_adv 16 r h
  rw [if_neg c8]
  by_cases c9 : form = 13
  · rw [if_pos c9]; exact hB
  rw [if_neg c9]
  by_cases c10 : form = 14
  · rw [if_pos c10]
    show Adv b r (if (byteS b r).1 ≠ 0 then failS (byteS b r).2 10 else (byteS b r).2)
    by_cases c : (byteS b r).1 ≠ 0
    · rw [if_pos c]; exact hB.trans (failS_adv 10 (by decide) hB.ok)
    · rw [if_neg c]; exact hB
  rw [if_neg c10]
  exact .refl h
theorem blockS_adv {b : List Int} {r : Rd} (op : Int) (h : okRd b r) : Adv b r (blockS op r) := by
  have h3 := failS_adv (b := b) 3 (by decide) h
  unfold blockS; split
  · split
    · exact ⟨⟨h3.ok.p0, h3.ok.p1⟩, h3.pos, h3.err⟩
    · exact ⟨⟨h.p0, h.p1⟩, Int.le_refl _, id⟩
  · split
    · exact failS_adv 10 (by decide) h
    · exact ⟨⟨h.p0, h.p1⟩, Int.le_refl _, id⟩
theorem opS_adv {b : List Int} (hb : bytes b) {r : Rd} (h : okRd b r) : Adv b r (opS b r).2 /\ ((opS b r).2.err = 0 -> r.pos + 1 <= (opS b r).2.pos) := by
  obtain ⟨hB, hp⟩ := byteS_adv h
  have hN := numS_adv hb hB.ok
  unfold opS; split
  · exact ⟨hB.trans hN, fun h0 => Int.le_trans (hp (hN.err h0)) hN.pos⟩
  · split
    · have hF : Adv b (numS b (byteS b r).2).2 (if (numS b (byteS b r).2).1 <= 7 then failS (numS b (byteS b r).2).2 11 else (numS b (byteS b r).2).2) := by
        split
        · exact failS_adv 11 (by decide) hN.ok
        · exact .refl hN.ok
      have hG := failS_adv (b := b) 10 (by decide) hF.ok
      refine ⟨hB.trans (hN.trans (hF.trans hG)), fun h0 => ?_⟩
      exact absurd h0 (failS_ne _ (by decide))
    · exact ⟨hB, hp⟩
theorem tailS_adv {b : List Int} (hb : bytes b) (op : Int) {r : Rd} (h : okRd b r) : Adv b r (tailS b op r).2 := by
  rw [tailS_eq]
  have h1 : Adv b r (fltR op r) := by
    unfold fltR; split
    · exact failS_adv 11 (by decide) h
    · exact .refl h
  have h2 : Adv b r (offR op (fltR op r)) := by
    unfold offR; split
    · exact h1
    · exact h1.trans (failS_adv 10 (by decide) h1.ok)
  have h3 : Adv b r (bodyS b op (offR op (fltR op r))).2 := by
    unfold bodyS; split
    · exact h2.trans (fieldsS_adv hb _ _ h2.ok)
    · exact h2
  unfold endS; simp only; split
  · exact h3.trans (blockS_adv op h3.ok)
  · exact h3
theorem instrS_adv {b : List Int} (hb : bytes b) {r : Rd} (h : okRd b r) : Adv b r (instrS b r).2 /\ ((instrS b r).2.err = 0 -> r.pos + 1 <= (instrS b r).2.pos) := by
  rw [instrS_eq]
  obtain ⟨h1, hp⟩ := opS_adv hb h
  have h2 := tailS_adv hb (opS b r).1 h1.ok
  exact ⟨h1.trans h2, fun h0 => Int.le_trans (hp (h2.err h0)) h2.pos⟩
theorem opS_op (b : List Int) (r : Rd) : (opS b r).2.op = r.op := by
  unfold opS; split
  · simp only [numS_op, byteS_op]
  · split
    · simp only [failS_op]
      split <;> simp only [failS_op, numS_op, byteS_op]
    · exact byteS_op b r
theorem bodyS_op (b : List Int) (op : Int) (r : Rd) : (bodyS b op r).2.op = r.op := by
  unfold bodyS; split
  · exact fieldsS_op _ _ _ _
  · rfl
theorem offR_op (op : Int) (r : Rd) : (offR op r).op = r.op := by
  unfold offR; split
  · rfl
  · exact failS_op _ _
theorem fltR_op (op : Int) (r : Rd) : (fltR op r).op = r.op := by
  unfold fltR; split
  · exact failS_op _ _
  · rfl
theorem blockS_len {op : Int} {r : Rd} (h : r.op.length <= 128) (h0 : (blockS op r).err = 0) : (blockS op r).op.length <= 128 := by
  unfold blockS at *; split
  · rename_i h5
    rw [if_pos h5] at h0
    simp only at h0
    by_cases h128 : r.op.length = 128
    · rw [if_pos h128] at h0
      exact absurd h0 (failS_ne r (by decide))
    · simp only [List.length_append, List.length_cons, List.length_nil]; omega
  · split
    · rw [failS_op]; exact h
    · simp only [List.length_append, List.length_cons, List.length_nil, List.length_take]; omega
theorem instrS_len {b : List Int} {r : Rd} (h : r.op.length <= 128) (h0 : (instrS b r).2.err = 0) : (instrS b r).2.op.length <= 128 := by
  rw [instrS_eq, tailS_eq] at *
  have hop : (bodyS b (opS b r).1 (offR (opS b r).1 (fltR (opS b r).1 (opS b r).2))).2.op = r.op := by rw [bodyS_op, offR_op, fltR_op, opS_op]
  generalize bodyS b (opS b r).1 (offR (opS b r).1 (fltR (opS b r).1 (opS b r).2)) = z at *
  unfold endS at *; simp only at *
  split
  · rename_i c
    rw [if_pos c] at h0
    exact blockS_len (by rw [hop]; exact h) h0
  · rw [hop]; exact h
def codeC (l : List Ins) : List V := l.flatMap insC
theorem codeC_len (l : List Ins) : (codeC l).length = l.length * 6 := by
  induction l with
  | nil => rfl
  | cons i l ih =>
    have : codeC (i :: l) = insC i ++ codeC l := rfl
    rw [this, List.length_append, ih, List.length_cons]; show 6 + _ = _; omega
theorem codeC_snoc (l : List Ins) (i : Ins) : codeC l ++ insC i = codeC (l ++ [i]) := by simp [codeC]
def readL (b : List Int) : Nat -> Rd -> List Ins -> List Ins × Int × Int
  | 0, _, _ => ([], 0, 10)
  | n + 1, r, l =>
    if (instrS b r).2.err ≠ 0 then ([], 0, (instrS b r).2.err)
    else if (instrS b r).1.op = 11 then
      if (closeS (instrS b r).2).1 = true then (l ++ [(instrS b r).1], (closeS (instrS b r).2).2.pos, 0) else readL b n (closeS (instrS b r).2).2 (l ++ [(instrS b r).1])
    else readL b n (instrS b r).2 (l ++ [(instrS b r).1])
def readS (b : List Int) (p : Int) : List Ins × Int × Int := if p < 0 \/ p > b.length then ([], 0, 1) else readL b (b.length + 1) ⟨p, [], [], 0⟩ []
end Go.Proofs.Yteppkbaeacndiaa
namespace Go.Abs
set_option maxRecDepth 20000
open Go Go.RowKit
section
variable {P : Program} {f : FuncId} {args : List V} {R R' : V -> List (Nat × List V) -> Prop} {S : Nat -> Prop} {w w' : World} {r r' : V} {m m' : List (Nat × List V)} {u : Value}
theorem Out.wk (h : Out S w w' r m u) (hw : Wk r r') : Out S w w' r' m u := by
  obtain ⟨⟨S', β', h1, h2, h3, h4⟩, hfr⟩ := h
  exact ⟨⟨S', β', h1, h2, hw _ _ _ _ h3, h4⟩, hfr⟩
theorem AC.out (h : AC P f args R) (hw : ∀ r m, R r m -> ∃ r' m', R' r' m' /\ ∀ S w w' u, Out S w w' r m u -> Out S w w' r' m' u) : AC P f args R' := fun S w us h1 h2 h3 =>
  (h S w us h1 h2 h3).mono fun _ _ ⟨r, m, u, hR, e, o⟩ => by
    obtain ⟨r', m', hR', ho⟩ := hw r m hR
    exact ⟨r', m', u, hR', e, ho _ _ _ _ o⟩
theorem Wk.tup {cs' cs : List V} (h : WkL cs' cs) : Wk (.tup cs') (.tup cs) := fun S w β u hv => by
  cases hv with
  | flat h => cases h
  | tup _ us hl hr =>
    exact .tup cs us (by rw [<- h.length]; exact hl) (fun j v u hv hu => by
      obtain ⟨v', h1, h2⟩ := h.at hv
      exact h2 S w β u (hr j v' u h1 hu))
end
end Go.Abs
namespace Go.Proofs.Yteppkbaeacndiaa
set_option maxRecDepth 20000
open Go Go.Abs Nat
attribute [local irreducible] AW AWL AC FW CW CWr IntKind.wrap
theorem byIns (h : 38 < Try.prog.types.size) : (Try.prog.types[38]'h).bytes = 64 := by kernel_rfl
def T8r (b : List Int) (r : Rd) (l : List Ins) : St := { n := 49, slots := [(7, .ptr 21 0), (8, .ref 8 0 l.length 6)], mem := [(21, ⟨false, [.view b.length 1 (nums .u8 b), .int .i64 r.pos, .ref 22002 0 r.op.length 1, .int .i64 r.err]⟩), (22002, ⟨true, nums .i64 (r.op ++ r.jk)⟩), (8, ⟨true, codeC l⟩)] }
theorem readS_out {b : List Int} {p : Int} (h : p < 0 \/ p > b.length) : readS b p = ([], 0, 1) := if_pos h
theorem MERead.NM : type_of% @NSX /\ type_of% @St.keepS.eq_1 /\ type_of% @TY /\ type_of% @SLS /\ type_of% @nums_length /\ type_of% @T8r.eq_1 /\ type_of% @byIns :=
  ⟨NSX, St.keepS.eq_1, @TY, @SLS, @nums_length, @T8r.eq_1, @byIns⟩
open MERead
theorem K1ERead.kp {P : Program} {c : Code} {Q : Exit -> St -> Prop} {st : St} (h : AW P c Q (st.keepS [0, 1, 4, 5, 6, 7, 8, 9])) : AW P c Q st := AW.keepS _ h
theorem K1ERead.cl {p : Prop} (h : p := by
  first
    | refine AWL.cM (f := 15) [(0, 21), (1002, 22002)] cb15 rfl rfl rfl rfl rfl rfl rfl (hin) ?_
    | refine AWL.cM (f := 16) [(0, 21), (1002, 22002)] cb16 rfl rfl rfl rfl rfl rfl rfl (hcl) ?_
  all_goals (apply_rules (newGoals := .nonDependentOnly) only [dep])
  all_goals constructor) : p := h
theorem K1ERead.sd {p : Prop} (h : p := by first | exact sd884d09) : p := h
open K1ERead in
set_option maxHeartbeats 6400000 in
theorem eread_raw (b : List Int) (hb : bytes b) (hlen : b.length <= 100000000) (p : Int) :
    AC Try.prog 10 [.view b.length 1 (nums .u8 b), .int .i64 p] (fun v m => ((readS b p).1 = [] /\ v = .tup [.nils, .int .i64 (readS b p).2.1, .int .i64 (readS b p).2.2] /\ m = []) \/ ∃ k, v = .tup [.ref k 0 (readS b p).1.length 6, .int .i64 (readS b p).2.1, .int .i64 (readS b p).2.2] /\ m = [(k, codeC (readS b p).1)]) := by
  have hin : True := trivial
  have hcl : True := trivial
  obtain ⟨A, hA⟩ : ∃ A, readS b p = A := ⟨_, rfl⟩
  rw [hA]
  by_cases hp : p < 0 \/ p > b.length
  · rw [readS_out hp] at hA
    subst hA
    refine AC.enter Try.func10 rfl (Nat.le_of_ble_eq_true rfl) ?_
    simp only [Try.f10]
    have nx : True := trivial
    refine' st868498
    all_goals first | exact ⟨trivial, trivial⟩ | exact ⟨rfl, trivial⟩ | exact ⟨rfl, rfl⟩ | exact ⟨trivial, rfl⟩ | exact .inr ⟨4, rfl, rfl⟩ | (exfalso; omega) | trace_state
  · unfold readS at hA
    rw [if_neg hp] at hA
    refine AC.enter Try.func10 rfl (Nat.le_of_ble_eq_true rfl) ?_
    simp only [Try.f10]
    have hlc := codeC_len
    have nx : True := trivial
    refine' st868498
    refine AW.loop [7, 8] [21, 22002, 8] (fun m st => ∃ (n : Nat) (r : Rd) (l : List Ins), st = T8r b r l /\ okRd b r /\ r.err = 0 /\ r.op.length <= 128 /\ (l.length : Int) <= r.pos /\ (b.length : Int) + 1 <= n + r.pos /\ readL b n r l = A /\ n = m) ?_ ?_
    · exact ⟨_, b.length + 1, ⟨p, [], [], 0⟩, [], rfl, ⟨by simp only; omega, by simp only; omega⟩, rfl, Nat.zero_le _, by simp only [List.length_nil]; omega, by simp only; omega, hA, rfl⟩
    rintro m st ⟨n, r, l, rfl, hr, he, hol, hll, hn, hL, rfl⟩
    obtain ⟨n', rfl⟩ : ∃ n', n = n' + 1 := ⟨n - 1, by have := hr.p1; omega⟩
    have hin := rdinstr_ok b hb (by omega) r hr (by omega)
    have had := instrS_adv hb hr
    have hlen2 := instrS_len (b := b) hol
    rw [readL] at hL
    generalize instrS b r = z at hin had hlen2 hL
    obtain ⟨i, r2⟩ := z
    simp only at had hlen2 hL
    have hcl := rdclose_ok b r2
    have hp1 := hr.p1
    have hp2 := had.1.ok.p1
    unfold rdM insO at hin
    by_cases he2 : r2.err ≠ 0
    · rw [if_pos he2] at hL
      subst hL
      have nx : True := trivial
      refine' st868498
      all_goals first | exact ⟨trivial, trivial⟩ | exact ⟨rfl, trivial⟩ | exact ⟨rfl, rfl⟩ | exact ⟨trivial, rfl⟩ | exact .inl ⟨trivial, trivial, trivial⟩ | (exfalso; omega) | trace_state
    · rw [if_neg he2] at hL
      obtain ⟨hadv, hpos⟩ := had
      have he3 : r2.err = 0 := Classical.not_not.1 he2
      have hpos := hpos he3
      have hol2 := hlen2 he3
      have hcl := hcl (by omega)
      have hla : (l ++ [i]).length = l.length + 1 := by simp
      have hld : insC i = [.int .i64 i.op, .int .i64 i.a, .int .i64 i.b, .int .u64 i.lo, .int .u64 i.hi, .view i.l.length 1 (nums .i64 i.l)] := rfl
      have hsn : codeC l ++ [.int .i64 i.op, .int .i64 i.a, .int .i64 i.b, .int .u64 i.lo, .int .u64 i.hi, .view i.l.length 1 (nums .i64 i.l)] = codeC (l ++ [i]) := codeC_snoc l i
      have hcut : List.take (l.length * 6) (codeC l) = codeC l := List.take_of_length_le (by rw [hlc]; omega)
      unfold rdM at hcl
      by_cases h11 : i.op = 11
      · rw [if_pos h11] at hL
        unfold closeS at hL hcl
        by_cases h0 : r2.op.length = 0
        · rw [if_pos h0] at hL hcl
          simp only [↓reduceIte] at hL
          subst hL
          have nx : type_of% @List.take_length.{0} /\ type_of% @hsn /\ type_of% @hcut /\ True := ⟨@List.take_length.{0}, ⟨@hsn, ⟨@hcut, trivial⟩⟩⟩
          refine' st868498
          all_goals first | exact ⟨trivial, trivial⟩ | exact ⟨rfl, trivial⟩ | exact ⟨rfl, rfl⟩ | exact ⟨trivial, rfl⟩ | exact .inr ⟨8, by rw [hla], rfl⟩ | (exfalso; omega) | trace_state
        · rw [if_neg h0] at hL hcl
          simp only at hL
          rw [if_neg (by decide)] at hL
          have nx : type_of% @List.take_length.{0} /\ type_of% @hsn /\ type_of% @hcut /\ True := ⟨@List.take_length.{0}, ⟨@hsn, ⟨@hcut, trivial⟩⟩⟩
          refine' st868498
          all_goals first
            | exact ⟨n', by omega, n', { r2 with op := r2.op.take (r2.op.length - 1), jk := r2.op.drop (r2.op.length - 1) ++ r2.jk }, l ++ [i], by rw [T8r, hla]; rfl, ⟨hadv.ok.p0, hadv.ok.p1⟩, he3, by simp only [List.length_take]; omega, by rw [hla]; simp only; omega, by simp only; omega, hL, rfl⟩
            | trace_state
      · rw [if_neg h11] at hL
        have nx : type_of% @List.take_length.{0} /\ type_of% @hsn /\ type_of% @hcut /\ True := ⟨@List.take_length.{0}, ⟨@hsn, ⟨@hcut, trivial⟩⟩⟩
        refine' st868498
        all_goals first
          | exact ⟨n', by omega, n', r2, l ++ [i], by rw [T8r, hla]; rfl, hadv.ok, he3, hol2, by rw [hla]; omega, by omega, hL, rfl⟩
          | trace_state
theorem eread_ok (b : List Int) (hb : bytes b) (hlen : b.length <= 100000000) (p : Int) :
    AC Try.prog 10 [.view b.length 1 (nums .u8 b), .int .i64 p] (fun v m => v = .tup [.view (readS b p).1.length 6 (codeC (readS b p).1), .int .i64 (readS b p).2.1, .int .i64 (readS b p).2.2] /\ m = []) := by
  refine (eread_raw b hb hlen p).out fun v m h => ?_
  rcases h with ⟨h0, rfl, rfl⟩ | ⟨k, rfl, rfl⟩
  · refine ⟨_, _, ⟨rfl, rfl⟩, fun S w w' u ho => ho.wk (Wk.tup ?_)⟩
    rw [h0]
    exact .cons (Wk.nils 6) (WkL.refl _)
  · refine ⟨_, _, ⟨rfl, rfl⟩, fun S w w' u ho => ?_⟩
    have h2 := ho.frz
    have e : frz1 k (codeC (readS b p).1) (.tup [.ref k 0 (readS b p).1.length 6, .int .i64 (readS b p).2.1, .int .i64 (readS b p).2.2]) = .tup [.view (readS b p).1.length 6 (codeC (readS b p).1), .int .i64 (readS b p).2.1, .int .i64 (readS b p).2.2] := by
      simp only [frz1, V.frz, V.wipe, List.map_cons, List.map_nil, beq_self_eq_true, cond_true, List.drop_zero, List.take_of_length_le (Nat.le_of_eq (codeC_len (readS b p).1))]
    rw [e] at h2; exact h2
end Go.Proofs.Yteppkbaeacndiaa
namespace Go.Proofs.Yteppkbaeacndiaa
set_option maxRecDepth 20000
open Go Go.Abs
def u32S (b : List Int) (p : Int) : Int × Int := if (uSpec b p 32).2.2 ≠ 0 then (0, -1) else ((uSpec b p 32).1, (uSpec b p 32).2.1)
def opkS (op p : Int) : Int × Int × Int := if flS op = true then (0, 0, 11) else if (ofS op).2 = true then (op, p, 0) else (0, 0, 10)
def opcS (b : List Int) (p : Int) : Int × Int × Int :=
  if p >= b.length then (0, 0, 10)
  else if b.getD p.toNat 0 = 252 \/ b.getD p.toNat 0 = 253 then
    if (u32S b (p + 1)).2 < 0 then (0, 0, 10)
    else if b.getD p.toNat 0 = 252 /\ (u32S b (p + 1)).1 <= 7 then (0, 0, 11)
    else if b.getD p.toNat 0 = 252 \/ (u32S b (p + 1)).1 > 255 then (0, 0, 10)
    else opkS (64768 + (u32S b (p + 1)).1) (u32S b (p + 1)).2
  else opkS (b.getD p.toNat 0) (p + 1)
def kndS (b : List Int) (p : Int) : Int × Int × Int :=
  if p < b.length /\ floatC (b.getD p.toNat 0) then (0, 0, 11)
  else if p < b.length /\ kindC (b.getD p.toNat 0) then (b.getD p.toNat 0 - 128, p + 1, 0)
  else if (sSpec b p 33).2.2 ≠ 0 \/ (sSpec b p 33).1 < 0 then (0, 0, 10)
  else ((sSpec b p 33).1, (sSpec b p 33).2.1, 0)
def ins0 : Ins := ⟨0, 0, 0, 0, 0, []⟩
def doneS (i : Ins) (p : Int) : Ins × Int × Int := if p < 0 then (ins0, 0, 10) else (i, p, 0)
def tbR (b : List Int) : Nat -> Int -> List Int -> List Int × Int
  | 0, p, l => (l, p)
  | n + 1, p, l => if p >= 0 then tbR b n (u32S b p).2 (l ++ [(u32S b p).1]) else (l, p)
def numR2 (b : List Int) (p : Int) : Int × Int := if p >= 0 then u32S b p else (0, p)
def bytR (b : List Int) (p : Int) (i : Ins) (form : Int) : Ins × Int × Int :=
  if form = 11 \/ form = 12 then
    if (b.length : Int) - p < 16 then (ins0, 0, 10)
    else ({ i with lo := lo ((b.drop p.toNat).take 16), hi := hi ((b.drop p.toNat).take 16) }, p + 16, 0)
  else if p >= b.length \/ (form = 14 /\ b.getD p.toNat 0 ≠ 0) then (ins0, 0, 10)
  else (if form = 13 then { i with a := b.getD p.toNat 0 } else i, p + 1, 0)
def fldR (b : List Int) (p : Int) (i : Ins) (form : Int) : Ins × Int × Int :=
  if form = 1 then (i, p, 0)
  else if form = 2 then ({ i with a := (kndS b p).1 }, (kndS b p).2.1, (kndS b p).2.2)
  else if form = 4 then
    doneS { i with l := (tbR b (u32S b p).1.toNat (u32S b p).2 []).1, a := (numR2 b (tbR b (u32S b p).1.toNat (u32S b p).2 []).2).1 } (numR2 b (tbR b (u32S b p).1.toNat (u32S b p).2 []).2).2
  else if form = 3 \/ form = 5 then doneS { i with a := (u32S b p).1 } (u32S b p).2
  else if form = 6 \/ form = 7 then doneS { i with a := (u32S b p).1, b := (numR2 b (u32S b p).2).1 } (numR2 b (u32S b p).2).2
  else if form = 8 then
    if (numR2 b (u32S b p).2).2 >= b.length then ({ i with a := (u32S b p).1, b := (numR2 b (u32S b p).2).1 }, 0, 10)
    else if (numR2 b (u32S b p).2).2 >= 0 then doneS { i with a := (u32S b p).1, b := (numR2 b (u32S b p).2).1, lo := b.getD (numR2 b (u32S b p).2).2.toNat 0 } ((numR2 b (u32S b p).2).2 + 1)
    else doneS { i with a := (u32S b p).1, b := (numR2 b (u32S b p).2).1 } (numR2 b (u32S b p).2).2
  else if form = 9 then doneS { i with lo := (sSpec b p 32).1 % 4294967296 } (if (sSpec b p 32).2.2 ≠ 0 then -1 else (sSpec b p 32).2.1)
  else if form = 10 then doneS { i with lo := (sSpec b p 64).1 % 18446744073709551616 } (if (sSpec b p 64).2.2 ≠ 0 then -1 else (sSpec b p 64).2.1)
  else bytR b p i form
theorem u32S_ok {b : List Int} (hb : bytes b) {p : Int} (h : 0 <= p /\ p <= b.length) : (0 <= (u32S b p).1 /\ (u32S b p).1 < 4294967296) /\ ((u32S b p).2 = -1 \/ (p < (u32S b p).2 /\ (u32S b p).2 <= b.length)) := by
  unfold u32S; split
  · exact ⟨⟨Int.le_refl 0, by show (0 : Int) < 4294967296; decide⟩, .inl rfl⟩
  · rename_i c
    have := uSpec_ok hb h (Classical.not_not.1 c)
    exact ⟨this.1, .inr this.2⟩
end Go.Proofs.Yteppkbaeacndiaa
namespace Go.Proofs.Yteppkbaeacndiaa
set_option maxRecDepth 20000
open Go Go.Abs
theorem num_u32 {b : List Int} (hb : bytes b) {r : Rd} (h : okRd b r) (he : r.err = 0) : numS b r = if (u32S b r.pos).2 < 0 then (0, { r with err := 10 }) else ((u32S b r.pos).1, { r with pos := (u32S b r.pos).2 }) := by
  by_cases c : (uSpec b r.pos 32).2.2 = 0
  · have := uSpec_ok hb ⟨h.p0, h.p1⟩ c
    have h0 := h.p0
    have e : u32S b r.pos = ((uSpec b r.pos 32).1, (uSpec b r.pos 32).2.1) := if_neg (fun h => h c)
    rw [e, if_neg (show ¬ (uSpec b r.pos 32).2.1 < 0 by omega)]
    unfold numS
    rw [if_neg (fun h => h he), if_neg (fun h => h c)]
  · have e : u32S b r.pos = (0, -1) := if_pos c
    rw [e, if_pos (show (-1 : Int) < 0 by decide)]
    unfold numS
    rw [if_neg (fun h => h he), if_pos c]
    unfold failS; rw [if_pos he]
theorem bodyS_ne {b : List Int} {op : Int} {r : Rd} (h : r.err ≠ 0) : bodyS b op r = (⟨op, 0, 0, 0, 0, []⟩, r) := if_neg h
theorem failS_id {r : Rd} (h : r.err ≠ 0) (e : Int) : failS r e = r := if_neg h
theorem tailS_ne {b : List Int} {op : Int} {r : Rd} (h : r.err ≠ 0) : tailS b op r = (⟨op, 0, 0, 0, 0, []⟩, r) := by
  have h1 : fltR op r = r := by unfold fltR; split <;> first | exact failS_id h _ | rfl
  have h2 : offR op r = r := by unfold offR; split <;> first | exact failS_id h _ | rfl
  rw [tailS_eq, h1, h2, bodyS_ne h]
  unfold endS; simp only
  rw [if_neg (fun c => h c.1)]
theorem rows_op : (allR.all fun r => decide (0 <= r.1 /\ r.2.1 <= 65023 /\ 1 <= r.2.2.1 /\ r.2.2.1 <= 14)) = true := by decide +kernel
theorem ofS_yes {op : Int} (h : (ofS op).2 = true) : (0 <= op /\ op <= 65023) /\ 1 <= (ofS op).1.1 /\ (ofS op).1.1 <= 14 := by
  unfold ofS at *
  cases hf : findR op allR with
  | none => rw [hf] at h; cases h
  | some r =>
    have hm := findR_mem hf
    have := of_decide_eq_true (List.all_eq_true.1 rows_op r hm.1)
    simp only [infoOf]
    omega
theorem flS_yes {op : Int} (h : flS op = true) : op <= 65023 := by
  have := (flS_iff op).1 h; omega
structure OpEq (b : List Int) (r : Rd) (q : Int × Int × Int) : Prop where
  bad : q.2.2 ≠ 0 -> (tailS b (opS b r).1 (opS b r).2).2.err = q.2.2
  good : q.2.2 = 0 -> opS b r = (q.1, { r with pos := q.2.1 }) /\ flS q.1 = false /\ (ofS q.1).2 = true /\ r.pos < q.2.1 /\ q.2.1 <= b.length
theorem opk_eq {b : List Int} {r : Rd} (he : r.err = 0) {op p : Int} (ho : opS b r = (op, { r with pos := p })) (hp : r.pos < p /\ p <= b.length) : OpEq b r (opkS op p) := by
  unfold opkS
  by_cases hf : flS op = true
  · rw [if_pos hf]
    refine ⟨fun _ => ?_, fun h => by cases h⟩
    rw [ho, tailS_eq]
    have h1 : fltR op { r with pos := p } = { r with pos := p, err := 11 } := by unfold fltR failS; rw [if_pos hf]; exact if_pos he
    have h2 : offR op { r with pos := p, err := 11 } = { r with pos := p, err := 11 } := by
      unfold offR; split
      · rfl
      · exact failS_id (by show (11 : Int) ≠ 0; decide) _
    rw [h1, h2, bodyS_ne (by show (11 : Int) ≠ 0; decide)]
    unfold endS; simp only
    rw [if_neg (fun c => absurd c.1 (by decide))]
  · rw [if_neg hf]
    have h1 : fltR op { r with pos := p } = { r with pos := p } := by unfold fltR; rw [if_neg hf]
    by_cases ho2 : (ofS op).2 = true
    · rw [if_pos ho2]
      exact ⟨fun h => absurd rfl h, fun _ => ⟨ho, by simpa using hf, ho2, hp⟩⟩
    · rw [if_neg ho2]
      refine ⟨fun _ => ?_, fun h => by cases h⟩
      have h2 : offR op { r with pos := p } = { r with pos := p, err := 10 } := by unfold offR failS; rw [if_neg ho2]; exact if_pos he
      rw [ho, tailS_eq, h1, h2, bodyS_ne (by show (10 : Int) ≠ 0; decide)]
      unfold endS; simp only
      rw [if_neg (fun c => absurd c.1 (by decide))]
theorem op_eq {b : List Int} (hb : bytes b) {r : Rd} (h : okRd b r) (he : r.err = 0) : OpEq b r (opcS b r.pos) := by
  have h0 := h.p0
  have h1 := h.p1
  by_cases hp : r.pos >= b.length
  · have hB : byteS b r = (0, { r with err := 10 }) := by
      unfold byteS; rw [if_pos (.inr hp)]
      unfold failS; rw [if_pos he]
    have hO : opS b r = (0, { r with err := 10 }) := by
      unfold opS; rw [hB]
      rw [if_neg (by show ¬ (0 : Int) = 253; decide), if_neg (by show ¬ (0 : Int) = 252; decide)]
    rw [show opcS b r.pos = (0, 0, 10) from if_pos hp]
    refine ⟨fun _ => ?_, fun h => by cases h⟩
    rw [hO, tailS_ne (by show (10 : Int) ≠ 0; decide)]
  · have hB : byteS b r = (b.getD r.pos.toNat 0, { r with pos := r.pos + 1 }) := by
      unfold byteS; rw [if_neg (fun h => h.elim (fun h => h he) hp)]
    have hk : okRd b { r with pos := r.pos + 1 } := ⟨by simp only; omega, by simp only; omega⟩
    have hN := num_u32 hb hk he
    have hU := u32S_ok hb (p := r.pos + 1) ⟨by omega, by omega⟩
    unfold opcS
    rw [if_neg hp]
    simp only at hN
    generalize hc : b.getD r.pos.toNat 0 = c at *
    by_cases c3 : c = 253
    · subst c3
      have hO : opS b r = (64768 + (numS b { r with pos := r.pos + 1 }).1, (numS b { r with pos := r.pos + 1 }).2) := by unfold opS; rw [hB]; exact if_pos rfl
      rw [if_pos (.inr rfl)]
      by_cases hn : (u32S b (r.pos + 1)).2 < 0
      · rw [if_pos hn] at hN ⊢
        refine ⟨fun _ => ?_, fun h => by cases h⟩
        rw [hO, hN, tailS_ne (by show (10 : Int) ≠ 0; decide)]
      · rw [if_neg hn] at hN ⊢
        rw [if_neg (fun h => absurd h.1 (by decide))]
        rw [hN] at hO
        simp only at hO
        by_cases hbig : (u32S b (r.pos + 1)).1 > 255
        · rw [if_pos (.inr hbig)]
          have hk := opk_eq he hO ⟨by omega, by omega⟩
          have hf : ¬ flS (64768 + (u32S b (r.pos + 1)).1) = true := fun h => by have := flS_yes h; omega
          have ho : ¬ (ofS (64768 + (u32S b (r.pos + 1)).1)).2 = true := fun h => by have := ofS_yes h; omega
          unfold opkS at hk
          rw [if_neg hf, if_neg ho] at hk
          exact hk
        · rw [if_neg (fun h => h.elim (by decide) hbig)]
          exact opk_eq he hO ⟨by omega, by omega⟩
    · by_cases c2 : c = 252
      · subst c2
        rw [if_pos (.inl rfl)]
        have hO : opS b r = (252, failS (if (numS b { r with pos := r.pos + 1 }).1 <= 7 then failS (numS b { r with pos := r.pos + 1 }).2 11 else (numS b { r with pos := r.pos + 1 }).2) 10) := by unfold opS; rw [hB]; rfl
        by_cases hn : (u32S b (r.pos + 1)).2 < 0
        · rw [if_pos hn] at hN ⊢
          refine ⟨fun _ => ?_, fun h => by cases h⟩
          rw [hN] at hO
          simp only at hO
          rw [if_pos (by decide), failS_id (r := { r with pos := r.pos + 1, err := 10 }) (by show (10 : Int) ≠ 0; decide), failS_id (r := { r with pos := r.pos + 1, err := 10 }) (by show (10 : Int) ≠ 0; decide)] at hO
          rw [hO, tailS_ne (by show (10 : Int) ≠ 0; decide)]
        · rw [if_neg hn] at hN ⊢
          rw [hN] at hO
          simp only at hO
          by_cases h7 : (u32S b (r.pos + 1)).1 <= 7
          · rw [if_pos ⟨rfl, h7⟩]
            refine ⟨fun _ => ?_, fun h => by cases h⟩
            rw [if_pos h7] at hO
            have e1 : failS { r with pos := (u32S b (r.pos + 1)).2 } 11 = { r with pos := (u32S b (r.pos + 1)).2, err := 11 } := if_pos he
            rw [e1, failS_id (by show (11 : Int) ≠ 0; decide)] at hO
            rw [hO, tailS_ne (by show (11 : Int) ≠ 0; decide)]
          · rw [if_neg (fun h => h7 h.2), if_pos (.inl rfl)]
            refine ⟨fun _ => ?_, fun h => by cases h⟩
            rw [if_neg h7] at hO
            have e1 : failS { r with pos := (u32S b (r.pos + 1)).2 } 10 = { r with pos := (u32S b (r.pos + 1)).2, err := 10 } := if_pos he
            rw [e1] at hO
            rw [hO, tailS_ne (by show (10 : Int) ≠ 0; decide)]
      · rw [if_neg (fun h => h.elim c2 c3)]
        have hO : opS b r = (c, { r with pos := r.pos + 1 }) := by
          unfold opS; rw [hB]
          rw [if_neg c3, if_neg c2]
        exact opk_eq he hO ⟨by omega, by omega⟩
structure FlEq (b : List Int) (form : Int) (r : Rd) (i : Ins) (f : Ins × Int × Int) : Prop where
  bad : f.2.2 ≠ 0 -> (fieldsS b form r i).2.err = f.2.2
  good : f.2.2 = 0 -> fieldsS b form r i = (f.1, { r with pos := f.2.1 }) /\ r.pos <= f.2.1 /\ f.2.1 <= b.length
theorem done_eq {b : List Int} {form : Int} {r : Rd} {i i2 : Ins} {p : Int} (hneg : p < 0 -> (fieldsS b form r i).2.err = 10) (hpos : 0 <= p -> fieldsS b form r i = (i2, { r with pos := p }) /\ r.pos <= p /\ p <= b.length) : FlEq b form r i (doneS i2 p) := by
  unfold doneS
  by_cases h : p < 0
  · rw [if_pos h]
    exact ⟨fun _ => hneg h, fun h => by cases h⟩
  · rw [if_neg h]
    exact ⟨fun h => absurd rfl h, fun _ => hpos (by omega)⟩
theorem kind_eq {b : List Int} {r : Rd} (h : okRd b r) (he : r.err = 0) : ((kndS b r.pos).2.2 ≠ 0 -> (kindS b r).2.err = (kndS b r.pos).2.2) /\ ((kndS b r.pos).2.2 = 0 -> kindS b r = ((kndS b r.pos).1, { r with pos := (kndS b r.pos).2.1 }) /\ r.pos <= (kndS b r.pos).2.1 /\ (kndS b r.pos).2.1 <= b.length) := by
  have h0 := h.p0
  have h1 := h.p1
  have hN : ((sSpec b r.pos 33).2.2 ≠ 0 \/ (sSpec b r.pos 33).1 < 0 -> (kindN b r).2.err = 10) /\ (¬((sSpec b r.pos 33).2.2 ≠ 0 \/ (sSpec b r.pos 33).1 < 0) -> kindN b r = ((sSpec b r.pos 33).1, { r with pos := (sSpec b r.pos 33).2.1 }) /\ r.pos <= (sSpec b r.pos 33).2.1 /\ (sSpec b r.pos 33).2.1 <= b.length) := by
    unfold kindN
    by_cases c : (sSpec b r.pos 33).2.2 ≠ 0
    · have e : sgnS b 33 r = (0, { r with err := 10 }) := by unfold sgnS; rw [if_neg (fun h => h he), if_pos c]; unfold failS; rw [if_pos he]
      rw [e]
      exact ⟨fun _ => rfl, fun h => absurd (.inl c) h⟩
    · have e : sgnS b 33 r = ((sSpec b r.pos 33).1, { r with pos := (sSpec b r.pos 33).2.1 }) := by unfold sgnS; rw [if_neg (fun h => h he), if_neg c]
      have hp := sSpec_pos (n := 33) ⟨by decide, by decide⟩ ⟨h0, h1⟩ (Classical.not_not.1 c)
      rw [e]
      by_cases c2 : (sSpec b r.pos 33).1 < 0
      · refine ⟨fun _ => ?_, fun h => absurd (.inr c2) h⟩
        simp only; rw [if_pos c2]; unfold failS; rw [if_pos he]
      · refine ⟨fun h => absurd h (fun h => h.elim c c2), fun _ => ?_⟩
        simp only; rw [if_neg c2]; exact ⟨rfl, by omega, by omega⟩
  unfold kndS kindS
  by_cases hp : r.pos < b.length
  · rw [if_pos hp]
    by_cases c1 : floatC (b.getD r.pos.toNat 0)
    · have c2 : ¬ kindC (b.getD r.pos.toNat 0) := by unfold floatC at c1; unfold kindC; omega
      rw [if_pos ⟨hp, c1⟩, if_neg c2, if_pos c1]
      exact ⟨fun _ => by unfold failS; rw [if_pos he], fun h => by cases h⟩
    · rw [if_neg (fun h => c1 h.2)]
      by_cases c2 : kindC (b.getD r.pos.toNat 0)
      · rw [if_pos ⟨hp, c2⟩, if_pos c2]
        exact ⟨fun h => absurd rfl h, fun _ => ⟨rfl, by simp only; omega, by simp only; omega⟩⟩
      · rw [if_neg (fun h => c2 h.2), if_neg c2, if_neg c1]
        by_cases c3 : (sSpec b r.pos 33).2.2 ≠ 0 \/ (sSpec b r.pos 33).1 < 0
        · rw [if_pos c3]; exact ⟨fun _ => hN.1 c3, fun h => by cases h⟩
        · rw [if_neg c3]; exact ⟨fun h => absurd rfl h, fun _ => hN.2 c3⟩
  · rw [if_neg hp, if_neg (fun h => hp h.1), if_neg (fun h => hp h.1)]
    by_cases c3 : (sSpec b r.pos 33).2.2 ≠ 0 \/ (sSpec b r.pos 33).1 < 0
    · rw [if_pos c3]; exact ⟨fun _ => hN.1 c3, fun h => by cases h⟩
    · rw [if_neg c3]; exact ⟨fun h => absurd rfl h, fun _ => hN.2 c3⟩
theorem byteS_good {b : List Int} {r : Rd} (he : r.err = 0) (hp : r.pos < b.length) : byteS b r = (b.getD r.pos.toNat 0, { r with pos := r.pos + 1 }) := by
  unfold byteS; rw [if_neg (fun h => h.elim (fun h => h he) (by omega))]
theorem byteS_bad {b : List Int} {r : Rd} (he : r.err = 0) (hp : r.pos >= b.length) : byteS b r = (0, { r with err := 10 }) := by
  unfold byteS; rw [if_pos (.inr hp)]; unfold failS; rw [if_pos he]
theorem byteS_ne {b : List Int} {r : Rd} (he : r.err ≠ 0) : (byteS b r).2 = r := by
  unfold byteS; rw [if_pos (.inl he)]; exact failS_id he _
theorem rowS_ne {b : List Int} : ∀ (n : Nat) {r : Rd}, r.err ≠ 0 -> (rowS b n r).2 = r
  | 0, _, _ => rfl
  | n + 1, r, he => by rw [rowS]; simp only; rw [byteS_ne he, rowS_ne n he]
theorem rowS_eq {b : List Int} : ∀ (n : Nat) {r : Rd}, okRd b r -> r.err = 0 -> ((b.length : Int) - r.pos < n -> (rowS b n r).2.err = 10) /\ (¬ (b.length : Int) - r.pos < n -> rowS b n r = ((b.drop r.pos.toNat).take n, { r with pos := r.pos + n }))
  | 0, r, h, he => by
    have := h.p1
    exact ⟨fun h => by omega, fun _ => by rw [rowS]; simp⟩
  | n + 1, r, h, he => by
    have h0 := h.p0
    have h1 := h.p1
    rw [rowS]
    by_cases hp : r.pos < b.length
    · rw [byteS_good he hp]
      obtain ⟨ih1, ih2⟩ := rowS_eq n (b := b) (r := { r with pos := r.pos + 1 }) ⟨by simp only; omega, by simp only; omega⟩ he
      simp only at ih1 ih2 ⊢
      refine ⟨fun hl => ih1 (by omega), fun hl => ?_⟩
      rw [ih2 (by omega), drop_getD (l := b) (k := r.pos.toNat) (by omega), List.take_succ_cons, show (r.pos + 1).toNat = r.pos.toNat + 1 by omega, show r.pos + ((n + 1 : Nat) : Int) = r.pos + 1 + n by omega]
    · rw [byteS_bad he (by omega)]
      refine ⟨fun _ => ?_, fun hl => by omega⟩
      simp only
      rw [rowS_ne n (by show (10 : Int) ≠ 0; decide)]
theorem tab_eq {b : List Int} (hb : bytes b) : ∀ (n : Nat) {r : Rd} {l : List Int}, okRd b r -> r.err = 0 -> ((tbR b n r.pos l).2 < 0 -> (tabS b n r l).2.err = 10) /\ (0 <= (tbR b n r.pos l).2 -> tabS b n r l = ((tbR b n r.pos l).1, { r with pos := (tbR b n r.pos l).2 }) /\ r.pos <= (tbR b n r.pos l).2 /\ (tbR b n r.pos l).2 <= b.length)
  | 0, r, l, h, he => by
    have h0 := h.p0
    have h1 := h.p1
    rw [tbR, tabS]
    exact ⟨fun h => by simp only at h; omega, fun _ => ⟨rfl, Int.le_refl _, h1⟩⟩
  | n + 1, r, l, h, he => by
    have h0 := h.p0
    have h1 := h.p1
    have hN := num_u32 hb h he
    have hU := u32S_ok hb (p := r.pos) ⟨h0, h1⟩
    rw [tbR, tabS, if_pos h0, if_pos he]
    by_cases hn : (u32S b r.pos).2 < 0
    · rw [if_pos hn] at hN
      rw [hN]
      have e1 : tbR b n (u32S b r.pos).2 (l ++ [(u32S b r.pos).1]) = (l ++ [(u32S b r.pos).1], (u32S b r.pos).2) := by
        cases n with
        | zero => rfl
        | succ n => rw [tbR, if_neg (by omega)]
      have e2 : tabS b n { r with err := 10 } (l ++ [0]) = (l ++ [0], { r with err := 10 }) := by
        cases n with
        | zero => rfl
        | succ n => rw [tabS, if_neg (by show ¬ (10 : Int) = 0; decide)]
      rw [e1, e2]
      exact ⟨fun _ => rfl, fun h => by simp only at h; omega⟩
    · rw [if_neg hn] at hN
      rw [hN]
      have ih := tab_eq hb n (b := b) (r := { r with pos := (u32S b r.pos).2 }) (l := l ++ [(u32S b r.pos).1]) ⟨by simp only; omega, by simp only; omega⟩ he
      simp only at ih ⊢
      exact ⟨ih.1, fun h => ⟨(ih.2 h).1, by have := (ih.2 h).2.1; omega, (ih.2 h).2.2⟩⟩
theorem num2_eq {b : List Int} (hb : bytes b) {r : Rd} {p : Int} {R : Rd} (hR : (p < 0 -> R.err = 10) /\ (0 <= p -> R = { r with pos := p } /\ p <= b.length)) (he : r.err = 0) :
    ((numR2 b p).2 < 0 -> (numS b R).2.err = 10) /\ (0 <= (numR2 b p).2 -> 0 <= p /\ numS b R = ((numR2 b p).1, { r with pos := (numR2 b p).2 }) /\ p <= (numR2 b p).2 /\ (numR2 b p).2 <= b.length) := by
  unfold numR2
  by_cases h : p >= 0
  · rw [if_pos h]
    obtain ⟨rfl, hp⟩ := hR.2 h
    have hk : okRd b { r with pos := p } := ⟨h, hp⟩
    have hN := num_u32 hb hk he
    have hU := u32S_ok hb (p := p) ⟨h, hp⟩
    simp only at hN
    rw [hN]
    by_cases hn : (u32S b p).2 < 0
    · rw [if_pos hn]
      exact ⟨fun _ => rfl, fun h => by omega⟩
    · rw [if_neg hn]
      exact ⟨fun h => absurd h hn, fun _ => ⟨h, rfl, by omega, by omega⟩⟩
  · rw [if_neg h]
    have h10 := hR.1 (by omega)
    rw [numS_err (by rw [h10]; decide)]
    exact ⟨fun _ => h10, fun h2 => absurd h2 (by simp only; omega)⟩
theorem num1_eq {b : List Int} (hb : bytes b) {r : Rd} (h : okRd b r) (he : r.err = 0) : ((u32S b r.pos).2 < 0 -> (numS b r).2.err = 10) /\ (0 <= (u32S b r.pos).2 -> numS b r = ((u32S b r.pos).1, { r with pos := (u32S b r.pos).2 }) /\ r.pos <= (u32S b r.pos).2 /\ (u32S b r.pos).2 <= b.length) := by
  have h0 := h.p0
  have := num2_eq hb (r := r) (p := r.pos) (R := r) ⟨fun h => by omega, fun _ => ⟨rfl, h.p1⟩⟩ he
  unfold numR2 at this
  rw [if_pos h0] at this
  exact ⟨this.1, fun h => (this.2 h).2⟩
theorem sgn_eq {b : List Int} {r : Rd} {n : Int} (hn : 1 <= n /\ n <= 64) (h : okRd b r) (he : r.err = 0) : ((sSpec b r.pos n).2.2 ≠ 0 -> (sgnS b n r).2.err = 10) /\ (¬ (sSpec b r.pos n).2.2 ≠ 0 -> sgnS b n r = ((sSpec b r.pos n).1, { r with pos := (sSpec b r.pos n).2.1 }) /\ r.pos <= (sSpec b r.pos n).2.1 /\ (sSpec b r.pos n).2.1 <= b.length) := by
  unfold sgnS
  rw [if_neg (fun h => h he)]
  refine ⟨fun c => ?_, fun c => ?_⟩
  · rw [if_pos c]; unfold failS; rw [if_pos he]
  · rw [if_neg c]
    have := sSpec_pos hn ⟨h.p0, h.p1⟩ (Classical.not_not.1 c)
    exact ⟨rfl, by omega, by omega⟩
end Go.Proofs.Yteppkbaeacndiaa
namespace Go.Proofs.Yteppkbaeacndiaa
set_option maxRecDepth 20000
open Go Go.Abs
theorem fields_eq {b : List Int} (hb : bytes b) {r : Rd} (h : okRd b r) (he : r.err = 0) {form : Int} (hf : 1 <= form /\ form <= 14) (op : Int) : FlEq b form r ⟨op, 0, 0, 0, 0, []⟩ (fldR b r.pos ⟨op, 0, 0, 0, 0, []⟩ form) := by
  have h0 := h.p0
  have h1 := h.p1
  have hn := num1_eq hb h he
  have hn2 := num2_eq hb (r := r) (p := (u32S b r.pos).2) (R := (numS b r).2) ⟨fun hh => hn.1 hh, fun hh => ⟨by rw [(hn.2 hh).1], (hn.2 hh).2.2⟩⟩ he
  have hcs : form = 1 \/ form = 2 \/ form = 3 \/ form = 4 \/ form = 5 \/ form = 6 \/ form = 7 \/ form = 8 \/ form = 9 \/ form = 10 \/ form = 11 \/ form = 12 \/ form = 13 \/ form = 14 := by omega
  have hA : ∀ p : Int, 0 <= p -> 0 <= (u32S b r.pos).2 -> (numS b r) = ((u32S b r.pos).1, { r with pos := (u32S b r.pos).2 }) := fun _ _ hh => (hn.2 hh).1
  unfold fldR
  rcases hcs with rfl | rfl | rfl | rfl | rfl | rfl | rfl | rfl | rfl | rfl | rfl | rfl | rfl | rfl
  · rw [if_pos rfl]
    exact ⟨fun h => absurd rfl h, fun _ => ⟨rfl, Int.le_refl _, h1⟩⟩
  · rw [if_neg (by decide), if_pos rfl]
    have hk := kind_eq h he
    have e : fieldsS b 2 r ⟨op, 0, 0, 0, 0, []⟩ = (⟨op, (kindS b r).1, 0, 0, 0, []⟩, (kindS b r).2) := by unfold fieldsS; rw [if_pos rfl]
    refine ⟨fun hb => ?_, fun hg => ?_⟩
    · rw [e]; exact hk.1 hb
    · rw [e, (hk.2 hg).1]; exact ⟨rfl, (hk.2 hg).2⟩
  · rw [if_neg (by decide), if_neg (by decide), if_neg (by decide), if_pos (by decide)]
    have e : fieldsS b 3 r ⟨op, 0, 0, 0, 0, []⟩ = (⟨op, (numS b r).1, 0, 0, 0, []⟩, (numS b r).2) := by unfold fieldsS; rw [if_neg (by decide), if_pos (by decide)]
    refine done_eq (fun hneg => ?_) (fun hpos => ?_)
    · rw [e]; exact hn.1 hneg
    · rw [e, (hn.2 hpos).1]; exact ⟨rfl, (hn.2 hpos).2⟩
  · rw [if_neg (by decide), if_neg (by decide), if_pos rfl]
    have e : fieldsS b 4 r ⟨op, 0, 0, 0, 0, []⟩ = (⟨op, (numS b (tabS b (numS b r).1.toNat (numS b r).2 []).2).1, 0, 0, 0, (tabS b (numS b r).1.toNat (numS b r).2 []).1⟩, (numS b (tabS b (numS b r).1.toNat (numS b r).2 []).2).2) := by
      unfold fieldsS; rw [if_neg (by decide), if_neg (by decide), if_pos rfl]
    by_cases hu : (u32S b r.pos).2 < 0
    · have h10 := hn.1 hu
      have e2 : ∀ k, tabS b k (numS b r).2 [] = ([], (numS b r).2) := fun k => by
        cases k with
        | zero => rfl
        | succ k => rw [tabS, if_neg (by rw [h10]; decide)]
      have e3 : ∀ k, tbR b k (u32S b r.pos).2 [] = ([], (u32S b r.pos).2) := fun k => by
        cases k with
        | zero => rfl
        | succ k => rw [tbR, if_neg (by omega)]
      rw [e2, numS_err (by rw [h10]; decide)] at e
      rw [e3]
      unfold numR2
      rw [if_neg (by simp only; omega)]
      refine done_eq (fun _ => ?_) (fun hpos => absurd hpos (by simp only; omega))
      rw [e]; exact h10
    · have hg := hn.2 (by omega)
      rw [hg.1] at e
      simp only at e
      have ht := tab_eq hb (u32S b r.pos).1.toNat (b := b) (r := { r with pos := (u32S b r.pos).2 }) (l := []) ⟨by simp only; omega, by simp only; omega⟩ he
      simp only at ht
      have hm := num2_eq hb (r := r) (p := (tbR b (u32S b r.pos).1.toNat (u32S b r.pos).2 []).2) (R := (tabS b (u32S b r.pos).1.toNat { r with pos := (u32S b r.pos).2 } []).2) ⟨fun hh => ht.1 hh, fun hh => ⟨by rw [(ht.2 hh).1], (ht.2 hh).2.2⟩⟩ he
      refine done_eq (fun hneg => ?_) (fun hpos => ?_)
      · rw [e]; exact hm.1 hneg
      · have hm2 := hm.2 hpos
        rw [e, hm2.2.1, (ht.2 hm2.1).1]
        exact ⟨rfl, by have := (ht.2 hm2.1).2.1; have := hm2.2.2.1; have := hg.2.1; omega, hm2.2.2.2⟩
  · rw [if_neg (by decide), if_neg (by decide), if_neg (by decide), if_pos (by decide)]
    have e : fieldsS b 5 r ⟨op, 0, 0, 0, 0, []⟩ = (⟨op, (numS b r).1, 0, 0, 0, []⟩, (numS b r).2) := by unfold fieldsS; rw [if_neg (by decide), if_pos (by decide)]
    refine done_eq (fun hneg => ?_) (fun hpos => ?_)
    · rw [e]; exact hn.1 hneg
    · rw [e, (hn.2 hpos).1]; exact ⟨rfl, (hn.2 hpos).2⟩
  · rw [if_neg (by decide), if_neg (by decide), if_neg (by decide), if_neg (by decide), if_pos (by decide)]
    have e : fieldsS b 6 r ⟨op, 0, 0, 0, 0, []⟩ = (⟨op, (numS b r).1, (numS b (numS b r).2).1, 0, 0, []⟩, (numS b (numS b r).2).2) := by unfold fieldsS; rw [if_neg (by decide), if_neg (by decide), if_neg (by decide), if_pos (by decide)]
    refine done_eq (fun hneg => ?_) (fun hpos => ?_)
    · rw [e]; exact hn2.1 hneg
    · have hg := hn2.2 hpos
      rw [e, hg.2.1, (hn.2 hg.1).1]; exact ⟨rfl, by have := (hn.2 hg.1).2.1; have := hg.2.2.1; omega, hg.2.2.2⟩
  · rw [if_neg (by decide), if_neg (by decide), if_neg (by decide), if_neg (by decide), if_pos (by decide)]
    have e : fieldsS b 7 r ⟨op, 0, 0, 0, 0, []⟩ = (⟨op, (numS b r).1, (numS b (numS b r).2).1, 0, 0, []⟩, (numS b (numS b r).2).2) := by unfold fieldsS; rw [if_neg (by decide), if_neg (by decide), if_neg (by decide), if_pos (by decide)]
    refine done_eq (fun hneg => ?_) (fun hpos => ?_)
    · rw [e]; exact hn2.1 hneg
    · have hg := hn2.2 hpos
      rw [e, hg.2.1, (hn.2 hg.1).1]; exact ⟨rfl, by have := (hn.2 hg.1).2.1; have := hg.2.2.1; omega, hg.2.2.2⟩
  · rw [if_neg (by decide), if_neg (by decide), if_neg (by decide), if_neg (by decide), if_neg (by decide), if_pos rfl]
    have e : fieldsS b 8 r ⟨op, 0, 0, 0, 0, []⟩ = (⟨op, (numS b r).1, (numS b (numS b r).2).1, (byteS b (numS b (numS b r).2).2).1, 0, []⟩, (byteS b (numS b (numS b r).2).2).2) := by unfold fieldsS; rw [if_neg (by decide), if_neg (by decide), if_neg (by decide), if_neg (by decide), if_pos rfl]
    by_cases hneg : (numR2 b (u32S b r.pos).2).2 < 0
    · rw [if_neg (by omega), if_neg (by omega)]
      refine done_eq (fun _ => ?_) (fun hpos => absurd hpos (by omega))
      have h10 := hn2.1 hneg
      rw [e]; simp only
      rw [byteS_ne (by rw [h10]; decide)]; exact h10
    · have hg := hn2.2 (by omega)
      rw [hg.2.1, (hn.2 hg.1).1] at e
      simp only at e
      by_cases hl : (numR2 b (u32S b r.pos).2).2 >= b.length
      · rw [if_pos hl]
        refine ⟨fun _ => ?_, fun h => by cases h⟩
        rw [e, byteS_bad (by exact he) (by exact hl)]
      · rw [if_neg hl, if_pos (by omega)]
        refine done_eq (fun hneg2 => by omega) (fun _ => ?_)
        rw [e, byteS_good (by exact he) (by simp only; omega)]
        exact ⟨rfl, by have := (hn.2 hg.1).2.1; have := hg.2.2.1; omega, by omega⟩
  · rw [if_neg (by decide), if_neg (by decide), if_neg (by decide), if_neg (by decide), if_neg (by decide), if_neg (by decide), if_pos rfl]
    have hs := sgn_eq (n := 32) ⟨by decide, by decide⟩ h he
    have e : fieldsS b 9 r ⟨op, 0, 0, 0, 0, []⟩ = (⟨op, 0, 0, (sgnS b 32 r).1 % 4294967296, 0, []⟩, (sgnS b 32 r).2) := by unfold fieldsS; rw [if_neg (by decide), if_neg (by decide), if_neg (by decide), if_neg (by decide), if_neg (by decide), if_pos rfl]
    by_cases c : (sSpec b r.pos 32).2.2 ≠ 0
    · rw [if_pos c]
      refine done_eq (fun _ => ?_) (fun hpos => absurd hpos (by decide))
      rw [e]; exact hs.1 c
    · rw [if_neg c]
      have hg := hs.2 c
      refine done_eq (fun hneg => by omega) (fun _ => ?_)
      rw [e, hg.1]; exact ⟨rfl, hg.2⟩
  · rw [if_neg (by decide), if_neg (by decide), if_neg (by decide), if_neg (by decide), if_neg (by decide), if_neg (by decide), if_neg (by decide), if_pos rfl]
    have hs := sgn_eq (n := 64) ⟨by decide, by decide⟩ h he
    have e : fieldsS b 10 r ⟨op, 0, 0, 0, 0, []⟩ = (⟨op, 0, 0, (sgnS b 64 r).1 % 18446744073709551616, 0, []⟩, (sgnS b 64 r).2) := by unfold fieldsS; rw [if_neg (by decide), if_neg (by decide), if_neg (by decide), if_neg (by decide), if_neg (by decide), if_neg (by decide), if_pos rfl]
    by_cases c : (sSpec b r.pos 64).2.2 ≠ 0
    · rw [if_pos c]
      refine done_eq (fun _ => ?_) (fun hpos => absurd hpos (by decide))
      rw [e]; exact hs.1 c
    · rw [if_neg c]
      have hg := hs.2 c
      refine done_eq (fun hneg => by omega) (fun _ => ?_)
      rw [e, hg.1]; exact ⟨rfl, hg.2⟩
  all_goals
    rw [if_neg (by decide), if_neg (by decide), if_neg (by decide), if_neg (by decide), if_neg (by decide), if_neg (by decide), if_neg (by decide), if_neg (by decide)]
    unfold bytR
    have hrow := rowS_eq 16 (b := b) h he
  · rw [if_pos (by decide)]
    have e : fieldsS b 11 r ⟨op, 0, 0, 0, 0, []⟩ = (⟨op, 0, 0, lo (rowS b 16 r).1, hi (rowS b 16 r).1, []⟩, (rowS b 16 r).2) := by unfold fieldsS; rw [if_neg (by decide), if_neg (by decide), if_neg (by decide), if_neg (by decide), if_neg (by decide), if_neg (by decide), if_neg (by decide), if_pos (by decide)]
    by_cases c : (b.length : Int) - r.pos < 16
    · rw [if_pos c]
      exact ⟨fun _ => by rw [e]; exact hrow.1 c, fun h => by cases h⟩
    · rw [if_neg c]
      exact ⟨fun h => absurd rfl h, fun _ => by rw [e, hrow.2 c]; exact ⟨rfl, by simp only; omega, by simp only; omega⟩⟩
  · rw [if_pos (by decide)]
    have e : fieldsS b 12 r ⟨op, 0, 0, 0, 0, []⟩ = (⟨op, 0, 0, lo (rowS b 16 r).1, hi (rowS b 16 r).1, []⟩, (rowS b 16 r).2) := by unfold fieldsS; rw [if_neg (by decide), if_neg (by decide), if_neg (by decide), if_neg (by decide), if_neg (by decide), if_neg (by decide), if_neg (by decide), if_pos (by decide)]
    by_cases c : (b.length : Int) - r.pos < 16
    · rw [if_pos c]
      exact ⟨fun _ => by rw [e]; exact hrow.1 c, fun h => by cases h⟩
    · rw [if_neg c]
      exact ⟨fun h => absurd rfl h, fun _ => by rw [e, hrow.2 c]; exact ⟨rfl, by simp only; omega, by simp only; omega⟩⟩
  · rw [if_neg (by decide)]
    have e : fieldsS b 13 r ⟨op, 0, 0, 0, 0, []⟩ = (⟨op, (byteS b r).1, 0, 0, 0, []⟩, (byteS b r).2) := by unfold fieldsS; rw [if_neg (by decide), if_neg (by decide), if_neg (by decide), if_neg (by decide), if_neg (by decide), if_neg (by decide), if_neg (by decide), if_neg (by decide), if_pos rfl]
    by_cases c : r.pos >= b.length
    · rw [if_pos (.inl c)]
      exact ⟨fun _ => by rw [e, byteS_bad he c], fun h => by cases h⟩
    · rw [if_neg (fun h => h.elim c (fun h => absurd h.1 (by decide))), if_pos rfl]
      exact ⟨fun h => absurd rfl h, fun _ => by rw [e, byteS_good he (by omega)]; exact ⟨rfl, by simp only; omega, by simp only; omega⟩⟩
  · rw [if_neg (by decide)]
    have e : fieldsS b 14 r ⟨op, 0, 0, 0, 0, []⟩ = (⟨op, 0, 0, 0, 0, []⟩, if (byteS b r).1 ≠ 0 then failS (byteS b r).2 10 else (byteS b r).2) := by unfold fieldsS; rw [if_neg (by decide), if_neg (by decide), if_neg (by decide), if_neg (by decide), if_neg (by decide), if_neg (by decide), if_neg (by decide), if_neg (by decide), if_neg (by decide), if_pos rfl]
    by_cases c : r.pos >= b.length
    · rw [if_pos (.inl c)]
      refine ⟨fun _ => ?_, fun h => by cases h⟩
      rw [e, byteS_bad he c]; rfl
    · by_cases c0 : b.getD r.pos.toNat 0 = 0
      · rw [if_neg (fun h => h.elim c (fun h => h.2 c0)), if_neg (by decide)]
        refine ⟨fun h => absurd rfl h, fun _ => ?_⟩
        rw [e, byteS_good he (by omega)]
        simp only
        rw [if_neg (fun h => h c0)]
        exact ⟨rfl, by omega, by omega⟩
      · rw [if_pos (.inr ⟨rfl, c0⟩)]
        refine ⟨fun _ => ?_, fun h => by cases h⟩
        rw [e, byteS_good he (by omega)]
        simp only
        rw [if_pos c0]; unfold failS; rw [if_pos he]
theorem doneS_op {i : Ins} {p : Int} (h : (doneS i p).2.2 = 0) : (doneS i p).1 = i := by
  unfold doneS at *; split
  · rename_i c; rw [if_pos c] at h; cases h
  · rfl
theorem fldR_op {b : List Int} {p form : Int} {i : Ins} (h : (fldR b p i form).2.2 = 0) : (fldR b p i form).1.op = i.op := by
  unfold fldR at *
  by_cases c1 : form = 1
  · rw [if_pos c1]
  rw [if_neg c1] at h ⊢
  by_cases c2 : form = 2
  · rw [if_pos c2]
  rw [if_neg c2] at h ⊢
  by_cases c3 : form = 4
  · rw [if_pos c3] at h ⊢; rw [doneS_op h]
  rw [if_neg c3] at h ⊢
  by_cases c4 : form = 3 \/ form = 5
  · rw [if_pos c4] at h ⊢; rw [doneS_op h]
  rw [if_neg c4] at h ⊢
  by_cases c5 : form = 6 \/ form = 7
  · rw [if_pos c5] at h ⊢; rw [doneS_op h]
  rw [if_neg c5] at h ⊢
  by_cases c6 : form = 8
  · rw [if_pos c6] at h ⊢
    by_cases d1 : (numR2 b (u32S b p).2).2 >= b.length
    · rw [if_pos d1]
    rw [if_neg d1] at h ⊢
    by_cases d2 : (numR2 b (u32S b p).2).2 >= 0
    · rw [if_pos d2] at h ⊢; rw [doneS_op h]
    · rw [if_neg d2] at h ⊢; rw [doneS_op h]
  rw [if_neg c6] at h ⊢
  by_cases c7 : form = 9
  · rw [if_pos c7] at h ⊢; rw [doneS_op h]
  rw [if_neg c7] at h ⊢
  by_cases c8 : form = 10
  · rw [if_pos c8] at h ⊢; rw [doneS_op h]
  rw [if_neg c8] at h ⊢
  unfold bytR at *
  by_cases c9 : form = 11 \/ form = 12
  · rw [if_pos c9] at h ⊢
    by_cases d1 : (b.length : Int) - p < 16
    · rw [if_pos d1] at h; cases h
    · rw [if_neg d1]
  rw [if_neg c9] at h ⊢
  by_cases d1 : p >= b.length \/ (form = 14 /\ b.getD p.toNat 0 ≠ 0)
  · rw [if_pos d1] at h; cases h
  rw [if_neg d1]
  by_cases d2 : form = 13
  · rw [if_pos d2]
  · rw [if_neg d2]
theorem instr_bad1 {b : List Int} (hb : bytes b) {r : Rd} (h : okRd b r) (he : r.err = 0) (hq : (opcS b r.pos).2.2 ≠ 0) : (instrS b r).2.err = (opcS b r.pos).2.2 := (op_eq hb h he).bad hq
theorem instr_go {b : List Int} (hb : bytes b) {r : Rd} (h : okRd b r) (he : r.err = 0) (hq : (opcS b r.pos).2.2 = 0) :
    instrS b r = endS (opcS b r.pos).1 (fieldsS b (ofS (opcS b r.pos).1).1.1 { r with pos := (opcS b r.pos).2.1 } ⟨(opcS b r.pos).1, 0, 0, 0, 0, []⟩) /\ FlEq b (ofS (opcS b r.pos).1).1.1 { r with pos := (opcS b r.pos).2.1 } ⟨(opcS b r.pos).1, 0, 0, 0, 0, []⟩ (fldR b (opcS b r.pos).2.1 ⟨(opcS b r.pos).1, 0, 0, 0, 0, []⟩ (ofS (opcS b r.pos).1).1.1) /\ (0 <= (opcS b r.pos).1 /\ (opcS b r.pos).1 <= 65023) /\ r.pos < (opcS b r.pos).2.1 /\ (opcS b r.pos).2.1 <= b.length := by
  obtain ⟨e1, e2, e3, e4, e5⟩ := (op_eq hb h he).good hq
  have h0 := h.p0
  have hf := ofS_yes e3
  refine ⟨?_, fields_eq hb (r := { r with pos := (opcS b r.pos).2.1 }) ⟨by simp only; omega, e5⟩ he hf.2 _, hf.1, e4, e5⟩
  have e6 : ∀ r' : Rd, fltR (opcS b r.pos).1 r' = r' := fun r' => by unfold fltR; rw [e2]; rfl
  have e7 : ∀ r' : Rd, offR (opcS b r.pos).1 r' = r' := fun r' => by unfold offR; rw [if_pos e3]
  have e8 : ∀ r' : Rd, r'.err = 0 -> bodyS b (opcS b r.pos).1 r' = fieldsS b (ofS (opcS b r.pos).1).1.1 r' ⟨(opcS b r.pos).1, 0, 0, 0, 0, []⟩ := fun r' hr => if_pos hr
  rw [instrS_eq, e1, tailS_eq, e6, e7]
  simp only
  rw [e8 _ (by exact he)]
end Go.Proofs.Yteppkbaeacndiaa
namespace Go.Proofs.Yteppkbaeacndiaa
set_option maxRecDepth 20000
open Go Go.Abs
theorem endS_err {op : Int} {p : Ins × Rd} (h : p.2.err ≠ 0) : (endS op p).2.err = p.2.err := by
  unfold endS; simp only; rw [if_neg (fun c => h c.1)]
def Rnd (b : List Int) (n : Nat) (l : List Ins) (o j : List Int) (A : List Ins × Int × Int) (op : Int) (i : Ins) (p2 : Int) : Prop :=
  ((op = 2 \/ op = 3 \/ op = 4) /\ o.length = 128 /\ A = ([], 0, 3)) \/
  ((op = 2 \/ op = 3 \/ op = 4) /\ o.length ≠ 128 /\ readL b n ⟨p2, o ++ [op], [], 0⟩ (l ++ [i]) = A) \/
  (op = 5 /\ o.length = 0 /\ A = ([], 0, 10)) \/
  (op = 5 /\ (o.length ≠ 0 /\ o.getD (o.length - 1) 0 ≠ 4) /\ A = ([], 0, 10)) \/
  (op = 5 /\ (o.length ≠ 0 /\ o.getD (o.length - 1) 0 = 4) /\ readL b n ⟨p2, o.take (o.length - 1) ++ [5], j, 0⟩ (l ++ [i]) = A) \/
  (op = 11 /\ o.length = 0 /\ A = (l ++ [i], p2, 0)) \/
  (op = 11 /\ o.length ≠ 0 /\ readL b n ⟨p2, o.take (o.length - 1), o.drop (o.length - 1) ++ j, 0⟩ (l ++ [i]) = A) \/
  ((op ≠ 2 /\ op ≠ 3 /\ op ≠ 4 /\ op ≠ 5 /\ op ≠ 11) /\ readL b n ⟨p2, o, j, 0⟩ (l ++ [i]) = A)
theorem step_cases {b : List Int} (hb : bytes b) {k : Int} {o j : List Int} {l : List Ins} {n : Nat} {A : List Ins × Int × Int} (h : okRd b ⟨k, o, j, 0⟩) (hL : readL b (n + 1) ⟨k, o, j, 0⟩ l = A) :
    ((opcS b k).2.2 ≠ 0 /\ A = ([], 0, (opcS b k).2.2)) \/ ((opcS b k).2.2 = 0 /\ (k < (opcS b k).2.1 /\ (opcS b k).2.1 <= b.length) /\ (0 <= (opcS b k).1 /\ (opcS b k).1 <= 65023) /\
      ∀ f, fldR b (opcS b k).2.1 ⟨(opcS b k).1, 0, 0, 0, 0, []⟩ (ofS (opcS b k).1).1.1 = f -> (f.2.2 ≠ 0 /\ A = ([], 0, f.2.2)) \/ (f.2.2 = 0 /\ ((opcS b k).2.1 <= f.2.1 /\ f.2.1 <= b.length) /\ Rnd b n l o j A (opcS b k).1 f.1 f.2.1)) := by
  have hb1 := instr_bad1 hb h rfl
  have hgo := instr_go hb h rfl
  rw [readL] at hL
  generalize instrS b ⟨k, o, j, 0⟩ = z at hb1 hgo hL
  obtain ⟨i0, r2⟩ := z
  simp only at hb1 hgo hL
  generalize opcS b k = q at *
  obtain ⟨op, p1, e1⟩ := q
  simp only at *
  by_cases hq : e1 ≠ 0
  · left
    have h2 := hb1 hq
    rw [if_pos (by rw [h2]; exact hq), h2] at hL
    exact ⟨hq, hL.symm⟩
  · right
    obtain rfl : e1 = 0 := Classical.not_not.1 hq
    obtain ⟨hz, ⟨hfb, hfg⟩, ho, hpa, hpb⟩ := hgo rfl
    refine ⟨rfl, ⟨hpa, hpb⟩, ho, ?_⟩
    rintro ⟨i, p2, e2⟩ hf
    have hiop := fldR_op (b := b) (p := p1) (form := (ofS op).1.1) (i := ⟨op, 0, 0, 0, 0, []⟩)
    rw [hf] at hfb hfg hiop
    simp only at hfb hfg hiop ⊢
    by_cases hq2 : e2 ≠ 0
    · left
      have h2 := hfb hq2
      have h3 : r2.err = e2 := by
        have := congrArg (fun z => z.2.err) hz
        simp only at this
        rw [this, endS_err (by rw [h2]; exact hq2), h2]
      rw [if_pos (by rw [h3]; exact hq2), h3] at hL
      exact ⟨hq2, hL.symm⟩
    · right
      obtain rfl : e2 = 0 := Classical.not_not.1 hq2
      obtain ⟨hfe, hp2⟩ := hfg rfl
      refine ⟨rfl, hp2, ?_⟩
      rw [hfe] at hz
      unfold endS at hz
      simp only [Prod.mk.injEq, true_and] at hz
      obtain ⟨rfl, hz⟩ := hz
      have hop : i0.op = op := hiop rfl
      rw [hop] at hL
      unfold Rnd
      have hcs : (op = 2 \/ op = 3 \/ op = 4) \/ op = 5 \/ op = 11 \/ (op ≠ 2 /\ op ≠ 3 /\ op ≠ 4 /\ op ≠ 5 /\ op ≠ 11) := by omega
      rcases hcs with h2 | rfl | rfl | h2
      · rw [if_pos (by omega)] at hz
        unfold blockS at hz
        rw [if_pos (by omega)] at hz
        by_cases h128 : o.length = 128
        · left
          rw [if_pos h128] at hz
          have : r2.err = 3 := by rw [hz]; rfl
          rw [if_pos (by rw [this]; decide), this] at hL
          exact ⟨h2, h128, hL.symm⟩
        · right; left
          rw [if_neg h128] at hz
          have : r2.err = 0 := by rw [hz]
          rw [if_neg (fun h => h this), if_neg (by omega), hz] at hL
          exact ⟨h2, h128, hL⟩
      · rw [if_pos (by decide)] at hz
        unfold blockS at hz
        rw [if_neg (fun h => h rfl)] at hz
        simp only at hz
        by_cases h0 : o.length = 0
        · rw [if_pos (.inl h0)] at hz
          have : r2.err = 10 := by rw [hz]; rfl
          rw [if_pos (by rw [this]; decide), this] at hL
          exact .inr (.inr (.inl ⟨rfl, h0, hL.symm⟩))
        · by_cases h4 : o.getD (o.length - 1) 0 = 4
          · rw [if_neg (fun h => h.elim h0 (fun h => h h4))] at hz
            have : r2.err = 0 := by rw [hz]
            rw [if_neg (fun h => h this), if_neg (by decide), hz] at hL
            exact .inr (.inr (.inr (.inr (.inl ⟨rfl, ⟨h0, h4⟩, hL⟩))))
          · rw [if_pos (.inr h4)] at hz
            have : r2.err = 10 := by rw [hz]; rfl
            rw [if_pos (by rw [this]; decide), this] at hL
            exact .inr (.inr (.inr (.inl ⟨rfl, ⟨h0, h4⟩, hL.symm⟩)))
      · rw [if_neg (by decide)] at hz
        have : r2.err = 0 := by rw [hz]
        rw [if_neg (fun h => h this), if_pos rfl, hz] at hL
        unfold closeS at hL
        simp only at hL
        by_cases h0 : o.length = 0
        · rw [if_pos h0] at hL
          simp only [↓reduceIte] at hL
          exact .inr (.inr (.inr (.inr (.inr (.inl ⟨rfl, h0, hL.symm⟩)))))
        · rw [if_neg h0] at hL
          simp only [Bool.false_eq_true, ↓reduceIte] at hL
          exact .inr (.inr (.inr (.inr (.inr (.inr (.inl ⟨rfl, h0, hL⟩))))))
      · rw [if_neg (by omega)] at hz
        have : r2.err = 0 := by rw [hz]
        rw [if_neg (fun h => h this), if_neg h2.2.2.2.2, hz] at hL
        exact .inr (.inr (.inr (.inr (.inr (.inr (.inr ⟨h2, hL⟩))))))
end Go.Proofs.Yteppkbaeacndiaa
