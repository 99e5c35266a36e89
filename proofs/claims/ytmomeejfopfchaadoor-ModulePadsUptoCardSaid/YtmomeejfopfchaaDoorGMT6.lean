/- instr. -/
import Derived.Test.YtmomeejfopfchaaDoorDP
import Derived.Test.YtmomeejfopfchaaDoorGTabs
import Derived.Test.YtmomeejfopfchaaDoorGTy
import Derived.Test.YtmomeejfopfchaaDoorCB
import Derived.Test.YtmomeejfopfchaaDoorGEFld3
set_option linter.unusedSimpArgs false
set_option linter.unusedVariables false
namespace Go.Proofs.YtmomeejfopfchaaDoor
set_option maxRecDepth 20000
open Go Go.Abs Nat
theorem lendL_AW {P : Program} {st : St} {Q : Exit -> St -> Prop} {c : Code} (b : Bool) (W : List Nat) (h : AW P c Q (st.lendL b W)) : AW P c Q st := fun C a w ⟨S, β, hs⟩ => h C a w ⟨S, β, hs.lendL b W⟩
attribute [local irreducible] AW AWL AC FW CW CWr IntKind.wrap
theorem rdfields_ok (b : List Int) (hb : bytes b) (hlen : b.length <= 1000000000) (r : Rd) (hr : okRd b r) (form : Int) (i : Ins) (hil : i.l = []) :
    AM Tryd.prog 63 [.ptr 0 0, .ptr 1 0, .int .i64 form] (rdM 0 1002 b r ++ inM 1 2005 i) [0, 1] (fun v m => v = .tup [] /\ m = rdM 0 1002 b (fieldsS b form r i).2 ++ inM 1 2005 (fieldsS b form r i).1) := by
  by_cases h4 : form = 4
  · subst h4; exact rdfields4_ok b hb hlen r hr i hil
  · by_cases h11 : form = 11 \/ form = 12
    · exact rdfields16_ok b hb hlen r hr form h11 i
    · exact rdfields0_ok b hb hlen r hr form h4 (fun h => h11 (.inl h)) (fun h => h11 (.inr h)) i
def insO (k : Nat) (i : Ins) : List V := [.int .i64 i.op, .int .i64 i.a, .int .i64 i.b, .int .u64 i.lo, .int .u64 i.hi, .ref k 0 i.l.length 1]
def tailS (b : List Int) (op : Int) (r : Rd) : Ins × Rd :=
  ((bodyS b op (chkS op r)).1, if (bodyS b op (chkS op r)).2.err = 0 /\ 2 <= op /\ op <= 5 then blockS op (bodyS b op (chkS op r)).2 else (bodyS b op (chkS op r)).2)
def endS (op : Int) (p : Ins × Rd) : Ins × Rd := (p.1, if p.2.err = 0 /\ 2 <= op /\ op <= 5 then blockS op p.2 else p.2)
def fltR (op : Int) (r : Rd) : Rd := if flS op = true then failS r 11 else r
def offR (op : Int) (r : Rd) : Rd := if (ofS op).2 = true then r else failS r 10
theorem tailS_eq (b : List Int) (op : Int) (r : Rd) : tailS b op r = endS op (bodyS b op (offR op (fltR op r))) := rfl
theorem instrS_eq (b : List Int) (r : Rd) : instrS b r = tailS b (opS b r).1 (opS b r).2 := rfl
def T10i (pn : Nat -> Option BI) (b : List Int) (op : Int) (r : Rd) : St := { n := 67, slots := [(0, .ptr 0 0), (2, .ptr 2 0), (3, .int .i64 op)], mem := [(0, ⟨false, [.view b.length 1 (nums .u8 b), .int .i64 r.pos, .ref 1002 0 r.op.length 1, .int .i64 r.err]⟩), (1002, ⟨true, nums .i64 (r.op ++ r.jk)⟩), (2, ⟨false, [.int .i64 0, .int .i64 0, .int .i64 0, .int .u64 0, .int .u64 0, .ref 3005 0 0 1]⟩), (3005, ⟨true, []⟩)], lent := [(0, pn 0), (1002, none)] }
def T15i (pn : Nat -> Option BI) (b : List Int) (op : Int) (r : Rd) (z : InfoS) : St := { n := 67, slots := [(0, .ptr 0 0), (2, .ptr 2 0), (3, .int .i64 op), (5, .ptr 5 0)], mem := [(0, ⟨false, [.view b.length 1 (nums .u8 b), .int .i64 r.pos, .ref 1002 0 r.op.length 1, .int .i64 r.err]⟩), (1002, ⟨true, nums .i64 (r.op ++ r.jk)⟩), (2, ⟨false, [.int .i64 0, .int .i64 0, .int .i64 0, .int .u64 0, .int .u64 0, .ref 3005 0 0 1]⟩), (3005, ⟨true, []⟩), (5, ⟨false, [.int .i64 z.1, .int .i64 z.2.1, .bool z.2.2.1, .view z.2.2.2.1.length 1 (nums .i64 z.2.2.2.1), .view z.2.2.2.2.length 1 (nums .i64 z.2.2.2.2)]⟩)], lent := [(0, pn 0), (1002, none)] }
def T18i (pn : Nat -> Option BI) (b : List Int) (op : Int) (r : Rd) (i : Ins) : St := { n := 67, slots := [(0, .ptr 0 0), (2, .ptr 2 0), (3, .int .i64 op), (7, .ptr 7 0)], mem := [(0, ⟨false, [.view b.length 1 (nums .u8 b), .int .i64 r.pos, .ref 1002 0 r.op.length 1, .int .i64 r.err]⟩), (1002, ⟨true, nums .i64 (r.op ++ r.jk)⟩), (2, ⟨false, [.int .i64 0, .int .i64 0, .int .i64 0, .int .u64 0, .int .u64 0, .ref 3005 0 0 1]⟩), (3005, ⟨true, []⟩), (7, ⟨false, [.int .i64 i.op, .int .i64 i.a, .int .i64 i.b, .int .u64 i.lo, .int .u64 i.hi, .ref 8005 0 i.l.length 1]⟩), (8005, ⟨true, nums .i64 i.l⟩)], lent := [(8005, none), (0, pn 0), (1002, none)] }
theorem failS_op (r : Rd) (e : Int) : (failS r e).op = r.op := by unfold failS; split <;> rfl
theorem byteS_op (b : List Int) (r : Rd) : (byteS b r).2.op = r.op := by
  unfold byteS; split
  · exact failS_op _ _
  · rfl
theorem numS_op (b : List Int) (r : Rd) : (numS b r).2.op = r.op := by
  unfold numS; split
  · rfl
  · split
    · exact failS_op _ _
    · rfl
theorem sgnS_op (b : List Int) (n : Int) (r : Rd) : (sgnS b n r).2.op = r.op := by
  unfold sgnS; split
  · rfl
  · split
    · exact failS_op _ _
    · rfl
theorem kindS_op (b : List Int) (r : Rd) : (kindS b r).2.op = r.op := by
  have hN : (kindN b r).2.op = r.op := by
    unfold kindN; simp only; split
    · rw [failS_op, sgnS_op]
    · exact sgnS_op _ _ _
  unfold kindS
  split
  · split
    · rfl
    · split
      · exact failS_op _ _
      · exact hN
  · exact hN
theorem tabS_op (b : List Int) : ∀ (n : Nat) (r : Rd) (l : List Int), (tabS b n r l).2.op = r.op
  | 0, _, _ => rfl
  | n + 1, r, l => by
    rw [tabS]; split
    · rw [tabS_op b n, numS_op]
    · rfl
theorem rowS_op (b : List Int) : ∀ (n : Nat) (r : Rd), (rowS b n r).2.op = r.op
  | 0, _ => rfl
  | n + 1, r => by rw [rowS]; simp only; rw [rowS_op b n, byteS_op]
theorem fieldsS_op (b : List Int) (form : Int) (r : Rd) (i : Ins) : (fieldsS b form r i).2.op = r.op := by
  unfold fieldsS
  repeat' split
  all_goals first
    | rfl
    | exact kindS_op _ _
    | exact numS_op _ _
    | exact sgnS_op _ _ _
    | exact byteS_op _ _
    | exact rowS_op _ _ _
    | (simp only [numS_op, tabS_op, byteS_op, failS_op]; done)
theorem MEIns.NM : type_of% @NSX /\ type_of% @St.keepS.eq_1 /\ type_of% @TY /\ type_of% @SLS /\ type_of% @nums_length /\ type_of% @T10i.eq_1 /\ type_of% @T15i.eq_1 /\ type_of% @T18i.eq_1 /\ type_of% @infoL.eq_1 :=
  ⟨NSX, St.keepS.eq_1, @TY, @SLS, @nums_length, @T10i.eq_1, @T15i.eq_1, @T18i.eq_1, @infoL.eq_1⟩
open MEIns
theorem K1EIns.kp {P : Program} {c : Code} {Q : Exit -> St -> Prop} {st : St} (h : AW P c Q (st.keepS [0, 2, 3, 4, 5, 6, 7, 10])) : AW P c Q st := AW.keepS _ h
theorem K1EIns.cl {p : Prop} (h : p := by
  first
    | refine AWL.cM (f := 58) [(0, 0), (1002, 1002)] cb58 rfl rfl rfl rfl rfl rfl rfl (hby) ?_
    | refine AWL.cM (f := 59) [(0, 0), (1002, 1002)] cb59 rfl rfl rfl rfl rfl rfl rfl (hnm) ?_
    | refine AWL.cM (f := 60) [(0, 0), (1002, 1002)] cb60 rfl rfl rfl rfl rfl rfl rfl (hf11) ?_
    | refine AWL.cM (f := 60) [(0, 0), (1002, 1002)] cb60 rfl rfl rfl rfl rfl rfl rfl (hf10) ?_
    | refine AWL.cM (f := 63) [(0, 0), (1002, 1002), (1, 7), (2005, 8005)] cb63 rfl rfl rfl rfl rfl rfl rfl (hfd) ?_
    | refine AWL.cM (f := 64) [(0, 0), (1002, 1002)] cb64 rfl rfl rfl rfl rfl rfl rfl (hbl) ?_
    | refine AWL.frzG rfl rfl rfl ?_
    | refine AWL.cC (f := 61) cb61 rfl rfl rfl rfl rfl rfl (hflo) ?_
    | refine AWL.cC (f := 62) cb62 rfl rfl rfl rfl rfl rfl (hof) ?_
  all_goals (apply_rules (newGoals := .nonDependentOnly) only [dep])
  all_goals constructor) : p := h
theorem K1EIns.sd {p : Prop} (h : p := by first | exact sd2f6d03) : p := h
open K1EIns in
set_option maxHeartbeats 6400000 in
theorem rdinstr_ok (b : List Int) (hb : bytes b) (hlen : b.length <= 1000000000) (r : Rd) (hr : okRd b r) (hol : r.op.length <= 1000000) :
    AM Tryd.prog 56 [.ptr 0 0] (rdM 0 1002 b r) [0] (fun v m => v = .agg (insO 3005 (instrS b r).1) /\ m = rdM 0 1002 b (instrS b r).2 ++ [(3005, ⟨true, nums .i64 (instrS b r).1.l⟩)]) := by
  have hby := rdbyte_ok b hb hlen r hr
  have hbop := byteS_op b r
  have hr1 := byteS_ok hr
  have hx := byteS_byte hb hr
  have hnm : True := trivial
  have hf11 : True := trivial
  have hf10 : True := trivial
  have hfd : True := trivial
  have hbl : True := trivial
  have hflo : True := trivial
  have hof : True := trivial
  obtain ⟨A, hA⟩ : ∃ A, instrS b r = A := ⟨_, rfl⟩
  rw [hA]
  rw [instrS_eq] at hA
  unfold opS at hA
  generalize byteS b r = z at hby hbop hr1 hx hA
  obtain ⟨c, r1⟩ := z
  simp only at hbop hr1 hx hA
  have hx1 := hx.1
  have hx2 := hx.2
  rw [<- hbop] at hol
  unfold rdM insO at *
  refine AM.enter Tryd.func56 rfl (Nat.le_of_ble_eq_true rfl) (fun pn => ?_)
  simp only [Tryd.f56]
  have nx : True := trivial
  refine' stb68308
  rename_i Qm hQm hPm
  have hrest : ∀ (op : Int) (r' : Rd), okRd b r' -> r'.op.length <= 1000000 -> 0 <= op -> op < 4295032064 -> tailS b op r' = A -> ∀ s : St, s.keep [0, 2, 3] [0, 1002, 2, 3005] = T10i pn b op r' -> Qm .normal s := by
    clear hby hx hA
    intro op r' hr' hol' ho1 ho2 hT s hs
    refine QEq.mp hQm ?_
    simp only [thenQ, Go.Abs.blockQ, ↓reduceIte, Nat.reduceEqDiff]
    refine AW.keep [0, 2, 3] [0, 1002, 2, 3005] ?_
    rw [hs]
    rw [tailS_eq] at hT
    have hflo := float_ok op (by omega)
    have hof := of_look op
    have hf11 := rdfail_ok b r' 11
    have nx : True := trivial
    refine' staaa2e6
    rename_i Qm2 hQm2 hPm2
    have hrest2 : ∀ (r' : Rd), okRd b r' -> r'.op.length <= 1000000 -> endS op (bodyS b op (offR op r')) = A -> ∀ s : St, s.keep [0, 2, 3] [0, 1002, 2, 3005] = T10i pn b op r' -> Qm2 .normal s := by
      clear hflo hf11
      intro r' hr' hol' hT s hs
      refine QEq.mp hQm2 ?_
      simp only [thenQ, Go.Abs.blockQ, ↓reduceIte, Nat.reduceEqDiff]
      refine AW.keep [0, 2, 3] [0, 1002, 2, 3005] ?_
      rw [hs]
      have hf10 := rdfail_ok b r' 10
      have nx : True := trivial
      refine' st97e758
      rename_i Qm3 hQm3 hPm3
      have hrest3 : ∀ (r' : Rd), okRd b r' -> r'.op.length <= 1000000 -> endS op (bodyS b op r') = A -> ∀ s : St, s.keep [0, 2, 3, 5] [0, 1002, 2, 3005, 5] = T15i pn b op r' (ofS op).1 -> Qm3 .normal s := by
        clear hf10 hof
        intro r' hr' hol' hT s hs
        refine QEq.mp hQm3 ?_
        simp only [thenQ, Go.Abs.blockQ, ↓reduceIte, Nat.reduceEqDiff]
        refine AW.keep [0, 2, 3, 5] [0, 1002, 2, 3005, 5] ?_
        rw [hs]
        have hfd := rdfields_ok b hb hlen r' hr' (ofS op).1.1 ⟨op, 0, 0, 0, 0, []⟩ rfl
        have hfo := fieldsS_op b (ofS op).1.1 r' ⟨op, 0, 0, 0, 0, []⟩
        unfold bodyS at hT
        generalize (ofS op).1 = z at hfd hfo hT
        generalize fieldsS b z.1 r' ⟨op, 0, 0, 0, 0, []⟩ = y at hfd hfo hT
        obtain ⟨i1, r5⟩ := y
        unfold rdM inM at hfd
        simp only [List.length_nil] at hfd hfo
        have nx : True := trivial
        refine' sta76485
        rename_i Qm4 hQm4 hPm4
        have hrest4 : ∀ (r' : Rd) (i : Ins), r'.op.length <= 1000000 -> endS op (i, r') = A -> ∀ s : St, s.keep [0, 2, 3, 7] [0, 1002, 2, 3005, 7, 8005] = T18i pn b op r' i \/ (s.keep [0, 2, 3, 7] [0, 1002, 2, 3005, 7, 8005]).lendL true [8005] = T18i pn b op r' i -> Qm4 .normal s := by
          clear hfd hfo hT
          intro r' i hol' hT s hs
          refine QEq.mp hQm4 ?_
          simp only [thenQ, Go.Abs.blockQ, ↓reduceIte, Nat.reduceEqDiff]
          refine AW.keep [0, 2, 3, 7] [0, 1002, 2, 3005, 7, 8005] ?_
          suffices h0 : AW _ _ _ (T18i pn b op r' i) by
            rcases hs with hs | hs
            · rw [hs]; exact h0
            · exact lendL_AW true [8005] (by rw [hs]; exact h0)
          unfold endS at hT
          obtain ⟨io, ia, ib, il, ih, ill⟩ := i
          by_cases hc : r'.err = 0 /\ 2 <= op /\ op <= 5
          · rw [if_pos hc] at hT
            have hbl := rdblock_ok b r' hol' op
            unfold rdM at hbl
            obtain ⟨hc1, hc2, hc3⟩ := hc
            subst hT
            have nx : type_of% @List.take_length.{0} /\ True := ⟨@List.take_length.{0}, trivial⟩
            refine' st0f7bdc
            all_goals first | exact ⟨trivial, trivial⟩ | exact ⟨rfl, trivial⟩ | exact ⟨rfl, rfl⟩ | exact ⟨trivial, rfl⟩ | (exfalso; omega) | trace_state
          · rw [if_neg hc] at hT
            subst hT
            have nx : type_of% @List.take_length.{0} /\ True := ⟨@List.take_length.{0}, trivial⟩
            refine' st0f7bdc
            all_goals first | exact ⟨trivial, trivial⟩ | exact ⟨rfl, trivial⟩ | exact ⟨rfl, rfl⟩ | exact ⟨trivial, rfl⟩ | (exfalso; omega) | trace_state
        clear hQm4
        by_cases he : r'.err = 0
        · rw [if_pos he] at hT
          have nx : True := trivial
          refine' st0f7bdc
          all_goals first
            | exact hrest4 r5 i1 (by rw [hfo]; exact hol') hT _ (.inl rfl)
            | trace_state
        · rw [if_neg he] at hT
          have nx : True := trivial
          refine' st0f7bdc
          all_goals first
            | exact hrest4 r' ⟨op, 0, 0, 0, 0, []⟩ hol' hT _ (.inr rfl)
            | trace_state
      clear hQm3
      unfold offR at hT
      by_cases h2 : (ofS op).2 = true
      · rw [if_pos h2] at hT
        have nx : type_of% @h2 /\ True := ⟨@h2, trivial⟩
        refine' st0f7bdc
        all_goals first
          | exact hrest3 r' hr' hol' hT _ rfl
          | trace_state
      · rw [if_neg h2] at hT
        have h3 : (ofS op).2 = false := by simpa using h2
        unfold rdM at hf10
        have nx : type_of% @h3 /\ True := ⟨@h3, trivial⟩
        refine' st0f7bdc
        all_goals first
          | exact hrest3 _ (failS_ok hr' 10) (by rw [failS_op]; exact hol') hT _ rfl
          | trace_state
    clear hQm2
    unfold fltR at hT
    by_cases h2 : flS op = true
    · rw [if_pos h2] at hT
      unfold rdM at hf11
      have nx : type_of% @h2 /\ True := ⟨@h2, trivial⟩
      refine' st0f7bdc
      all_goals first
        | exact hrest2 _ (failS_ok hr' 11) (by rw [failS_op]; exact hol') hT _ rfl
        | trace_state
    · rw [if_neg h2] at hT
      have h3 : flS op = false := by simpa using h2
      have nx : type_of% @h3 /\ True := ⟨@h3, trivial⟩
      refine' st0f7bdc
      all_goals first
        | exact hrest2 r' hr' hol' hT _ rfl
        | trace_state
  clear hQm
  have hnm := rdnum_ok b hb hlen r1 hr1
  have hnk := numS_ok hb hr1
  have hno := numS_op b r1
  generalize numS b r1 = z at hnm hnk hno hA
  obtain ⟨n, r2⟩ := z
  simp only at hnk hno hA
  obtain ⟨hr2, hn1, hn2⟩ := hnk
  rw [<- hno] at hol
  unfold rdM at hnm
  have ew : IntKind.i64.wrap (64768 + n) = 64768 + n := wrap64_id _ (by omega) (by omega)
  by_cases h1 : c = 253
  · rw [if_pos h1] at hA
    subst h1
    have nx : type_of% @ew /\ True := ⟨@ew, trivial⟩
    refine' st0f7bdc
    all_goals first
      | exact hrest (64768 + n) r2 hr2 hol (by omega) (by omega) hA _ rfl
      | trace_state
  · rw [if_neg h1] at hA
    by_cases h2 : c = 252
    · rw [if_pos h2] at hA
      subst h2
      by_cases h7 : n <= 7
      · have hf11 := rdfail_ok b r2 11
        have hf10 := rdfail_ok b (failS r2 11) 10
        rw [if_pos h7] at hA
        unfold rdM at hf11 hf10
        have nx : True := trivial
        refine' st0f7bdc
        all_goals first
          | exact hrest 252 _ (failS_ok (failS_ok hr2 11) 10) (by rw [failS_op, failS_op]; exact hol) (by omega) (by omega) hA _ rfl
          | trace_state
      · have hf10 := rdfail_ok b r2 10
        rw [if_neg h7] at hA
        unfold rdM at hf10
        have nx : True := trivial
        refine' st0f7bdc
        all_goals first
          | exact hrest 252 _ (failS_ok hr2 10) (by rw [failS_op]; exact hol) (by omega) (by omega) hA _ rfl
          | trace_state
    · rw [if_neg h2] at hA
      have nx : True := trivial
      refine' st0f7bdc
      all_goals first
        | exact hrest c r1 hr1 (by rw [<- hno]; exact hol) (by omega) (by omega) hA _ rfl
        | trace_state
end Go.Proofs.YtmomeejfopfchaaDoor
namespace Go.Proofs.YtmomeejfopfchaaDoor
set_option maxRecDepth 20000
open Go Go.Abs
structure Adv (b : List Int) (r r' : Rd) : Prop where
  ok : okRd b r'
  pos : r.pos <= r'.pos
  err : r'.err = 0 -> r.err = 0
theorem Adv.refl {b : List Int} {r : Rd} (h : okRd b r) : Adv b r r := ⟨h, Int.le_refl _, id⟩
theorem Adv.trans {b : List Int} {r r1 r2 : Rd} (h : Adv b r r1) (h2 : Adv b r1 r2) : Adv b r r2 := ⟨h2.ok, Int.le_trans h.pos h2.pos, fun h0 => h.err (h2.err h0)⟩
theorem failS_adv {b : List Int} {r : Rd} (e : Int) (he : e ≠ 0) (h : okRd b r) : Adv b r (failS r e) := by
  refine ⟨failS_ok h e, ?_, ?_⟩
  · unfold failS; split <;> exact Int.le_refl _
  · unfold failS; split
    · intro h0; exact absurd h0 he
    · exact id
theorem failS_ne (r : Rd) {e : Int} (he : e ≠ 0) : (failS r e).err ≠ 0 := by
  unfold failS; split
  · exact he
  · assumption
theorem byteS_adv {b : List Int} {r : Rd} (h : okRd b r) : Adv b r (byteS b r).2 /\ ((byteS b r).2.err = 0 -> r.pos + 1 <= (byteS b r).2.pos) := by
  refine ⟨⟨byteS_ok h, ?_, ?_⟩, ?_⟩ <;> unfold byteS <;> split
  · exact (failS_adv 10 (by decide) h).pos
  · simp only; omega
  · exact (failS_adv (b := b) 10 (by decide) h).err
  · exact id
  · intro h0; exact absurd h0 (failS_ne r (by decide))
  · intro _; simp only; omega
theorem numS_adv {b : List Int} (hb : bytes b) {r : Rd} (h : okRd b r) : Adv b r (numS b r).2 := by
  refine ⟨(numS_ok hb h).1, ?_, ?_⟩
  · unfold numS; split
    · exact Int.le_refl _
    · split
      · exact (failS_adv 10 (by decide) h).pos
      · rename_i _ c
        have := uSpec_ok hb ⟨h.p0, h.p1⟩ (Classical.not_not.1 c)
        simp only; omega
  · unfold numS; split
    · exact id
    · split
      · exact (failS_adv (b := b) 10 (by decide) h).err
      · exact id
theorem sgnS_adv {b : List Int} {r : Rd} {n : Int} (hn : 1 <= n /\ n <= 64) (h : okRd b r) : Adv b r (sgnS b n r).2 := by
  refine ⟨sgnS_ok hn h, ?_, ?_⟩
  · unfold sgnS; split
    · exact Int.le_refl _
    · split
      · exact (failS_adv 10 (by decide) h).pos
      · rename_i _ c
        have := sSpec_pos hn ⟨h.p0, h.p1⟩ (Classical.not_not.1 c)
        simp only; omega
  · unfold sgnS; split
    · exact id
    · split
      · exact (failS_adv (b := b) 10 (by decide) h).err
      · exact id
theorem kindS_adv {b : List Int} {r : Rd} (h : okRd b r) : Adv b r (kindS b r).2 := by
  have hN : Adv b r (kindN b r).2 := by
    have h1 := sgnS_adv (n := 33) ⟨by decide, by decide⟩ h
    unfold kindN; simp only; split
    · exact h1.trans (failS_adv 10 (by decide) h1.ok)
    · exact h1
  have h0 := h.p0; have h1 := h.p1
  unfold kindS; split
  · split
    · exact ⟨⟨by simp only; omega, by simp only; omega⟩, by simp only; omega, id⟩
    · split
      · exact failS_adv 11 (by decide) h
      · exact hN
  · exact hN
theorem tabS_adv {b : List Int} (hb : bytes b) : ∀ (n : Nat) (r : Rd) (l : List Int), okRd b r -> Adv b r (tabS b n r l).2
  | 0, _, _, h => .refl h
  | n + 1, r, l, h => by
    rw [tabS]; split
    · have h1 := numS_adv hb h
      exact h1.trans (tabS_adv hb n _ _ h1.ok)
    · exact .refl h
theorem rowS_adv {b : List Int} : ∀ (n : Nat) (r : Rd), okRd b r -> Adv b r (rowS b n r).2
  | 0, _, h => .refl h
  | n + 1, r, h => by
    rw [rowS]
    have h1 := (byteS_adv h).1
    exact h1.trans (rowS_adv n _ h1.ok)
theorem fieldsS_adv {b : List Int} (hb : bytes b) (form : Int) {r : Rd} (i : Ins) (h : okRd b r) : Adv b r (fieldsS b form r i).2 := by
  have hN := numS_adv hb h
  have hN2 := hN.trans (numS_adv hb hN.ok)
  have hB := (byteS_adv h).1
  unfold fieldsS
  by_cases c1 : form = 2
  · rw [if_pos c1]; exact kindS_adv h
  rw [if_neg c1]
  by_cases c2 : form = 3 \/ form = 5
  · rw [if_pos c2]; exact hN
  rw [if_neg c2]
  by_cases c3 : form = 4
  · rw [if_pos c3]
    have hT := hN.trans (tabS_adv hb (numS b r).1.toNat _ i.l hN.ok)
    exact hT.trans (numS_adv hb hT.ok)
  rw [if_neg c3]
  by_cases c4 : form = 6 \/ form = 7
  · rw [if_pos c4]; exact hN2
  rw [if_neg c4]
  by_cases c5 : form = 8
  · rw [if_pos c5]; exact hN2.trans (byteS_adv hN2.ok).1
  rw [if_neg c5]
  by_cases c6 : form = 9
  · rw [if_pos c6]; exact sgnS_adv ⟨by decide, by decide⟩ h
  rw [if_neg c6]
  by_cases c7 : form = 10
  · rw [if_pos c7]; exact sgnS_adv ⟨by decide, by decide⟩ h
  rw [if_neg c7]
  by_cases c8 : form = 11 \/ form = 12
  · rw [if_pos c8]; exact rowS_adv 16 r h
  rw [if_neg c8]
  by_cases c9 : form = 13
  · rw [if_pos c9]; exact hB
  rw [if_neg c9]
  by_cases c10 : form = 14
  · rw [if_pos c10]
    show Adv b r (if (byteS b r).1 ≠ 0 then failS (byteS b r).2 10 else (byteS b r).2)
    by_cases c : (byteS b r).1 ≠ 0
    · rw [if_pos c]; exact hB.trans (failS_adv 10 (by decide) hB.ok)
    · rw [if_neg c]; exact hB
  rw [if_neg c10]
  exact .refl h
theorem blockS_adv {b : List Int} {r : Rd} (op : Int) (h : okRd b r) : Adv b r (blockS op r) := by
  have h3 := failS_adv (b := b) 3 (by decide) h
  unfold blockS; split
  · split
    · exact ⟨⟨h3.ok.p0, h3.ok.p1⟩, h3.pos, h3.err⟩
    · exact ⟨⟨h.p0, h.p1⟩, Int.le_refl _, id⟩
  · split
    · exact failS_adv 10 (by decide) h
    · exact ⟨⟨h.p0, h.p1⟩, Int.le_refl _, id⟩
theorem opS_adv {b : List Int} (hb : bytes b) {r : Rd} (h : okRd b r) : Adv b r (opS b r).2 /\ ((opS b r).2.err = 0 -> r.pos + 1 <= (opS b r).2.pos) := by
  obtain ⟨hB, hp⟩ := byteS_adv h
  have hN := numS_adv hb hB.ok
  unfold opS; split
  · exact ⟨hB.trans hN, fun h0 => Int.le_trans (hp (hN.err h0)) hN.pos⟩
  · split
    · have hF : Adv b (numS b (byteS b r).2).2 (if (numS b (byteS b r).2).1 <= 7 then failS (numS b (byteS b r).2).2 11 else (numS b (byteS b r).2).2) := by
        split
        · exact failS_adv 11 (by decide) hN.ok
        · exact .refl hN.ok
      have hG := failS_adv (b := b) 10 (by decide) hF.ok
      refine ⟨hB.trans (hN.trans (hF.trans hG)), fun h0 => ?_⟩
      exact absurd h0 (failS_ne _ (by decide))
    · exact ⟨hB, hp⟩
theorem tailS_adv {b : List Int} (hb : bytes b) (op : Int) {r : Rd} (h : okRd b r) : Adv b r (tailS b op r).2 := by
  rw [tailS_eq]
  have h1 : Adv b r (fltR op r) := by
    unfold fltR; split
    · exact failS_adv 11 (by decide) h
    · exact .refl h
  have h2 : Adv b r (offR op (fltR op r)) := by
    unfold offR; split
    · exact h1
    · exact h1.trans (failS_adv 10 (by decide) h1.ok)
  have h3 : Adv b r (bodyS b op (offR op (fltR op r))).2 := by
    unfold bodyS; split
    · exact h2.trans (fieldsS_adv hb _ _ h2.ok)
    · exact h2
  unfold endS; simp only; split
  · exact h3.trans (blockS_adv op h3.ok)
  · exact h3
theorem instrS_adv {b : List Int} (hb : bytes b) {r : Rd} (h : okRd b r) : Adv b r (instrS b r).2 /\ ((instrS b r).2.err = 0 -> r.pos + 1 <= (instrS b r).2.pos) := by
  rw [instrS_eq]
  obtain ⟨h1, hp⟩ := opS_adv hb h
  have h2 := tailS_adv hb (opS b r).1 h1.ok
  exact ⟨h1.trans h2, fun h0 => Int.le_trans (hp (h2.err h0)) h2.pos⟩
theorem opS_op (b : List Int) (r : Rd) : (opS b r).2.op = r.op := by
  unfold opS; split
  · simp only [numS_op, byteS_op]
  · split
    · simp only [failS_op]
      split <;> simp only [failS_op, numS_op, byteS_op]
    · exact byteS_op b r
theorem bodyS_op (b : List Int) (op : Int) (r : Rd) : (bodyS b op r).2.op = r.op := by
  unfold bodyS; split
  · exact fieldsS_op _ _ _ _
  · rfl
theorem offR_op (op : Int) (r : Rd) : (offR op r).op = r.op := by
  unfold offR; split
  · rfl
  · exact failS_op _ _
theorem fltR_op (op : Int) (r : Rd) : (fltR op r).op = r.op := by
  unfold fltR; split
  · exact failS_op _ _
  · rfl
theorem blockS_len {op : Int} {r : Rd} (h : r.op.length <= 128) (h0 : (blockS op r).err = 0) : (blockS op r).op.length <= 128 := by
  unfold blockS at *; split
  · rename_i h5
    rw [if_pos h5] at h0
    simp only at h0
    by_cases h128 : r.op.length = 128
    · rw [if_pos h128] at h0
      exact absurd h0 (failS_ne r (by decide))
    · simp only [List.length_append, List.length_cons, List.length_nil]; omega
  · split
    · rw [failS_op]; exact h
    · simp only [List.length_append, List.length_cons, List.length_nil, List.length_take]; omega
theorem instrS_len {b : List Int} {r : Rd} (h : r.op.length <= 128) (h0 : (instrS b r).2.err = 0) : (instrS b r).2.op.length <= 128 := by
  rw [instrS_eq, tailS_eq] at *
  have hop : (bodyS b (opS b r).1 (offR (opS b r).1 (fltR (opS b r).1 (opS b r).2))).2.op = r.op := by rw [bodyS_op, offR_op, fltR_op, opS_op]
  generalize bodyS b (opS b r).1 (offR (opS b r).1 (fltR (opS b r).1 (opS b r).2)) = z at *
  unfold endS at *; simp only at *
  split
  · rename_i c
    rw [if_pos c] at h0
    exact blockS_len (by rw [hop]; exact h) h0
  · rw [hop]; exact h
def codeC (l : List Ins) : List V := l.flatMap insC
theorem codeC_len (l : List Ins) : (codeC l).length = l.length * 6 := by
  induction l with
  | nil => rfl
  | cons i l ih =>
    have : codeC (i :: l) = insC i ++ codeC l := rfl
    rw [this, List.length_append, ih, List.length_cons]; show 6 + _ = _; omega
theorem codeC_snoc (l : List Ins) (i : Ins) : codeC l ++ insC i = codeC (l ++ [i]) := by simp [codeC]
def readL (b : List Int) : Nat -> Rd -> List Ins -> List Ins × Int × Int
  | 0, _, _ => ([], 0, 10)
  | n + 1, r, l =>
    if (instrS b r).2.err ≠ 0 then ([], 0, (instrS b r).2.err)
    else if (instrS b r).1.op = 11 then
      if (closeS (instrS b r).2).1 = true then (l ++ [(instrS b r).1], (closeS (instrS b r).2).2.pos, 0) else readL b n (closeS (instrS b r).2).2 (l ++ [(instrS b r).1])
    else readL b n (instrS b r).2 (l ++ [(instrS b r).1])
def readS (b : List Int) (p : Int) : List Ins × Int × Int := if p < 0 \/ p > b.length then ([], 0, 1) else readL b (b.length + 1) ⟨p, [], [], 0⟩ []
end Go.Proofs.YtmomeejfopfchaaDoor
namespace Go.Abs
set_option maxRecDepth 20000
open Go Go.RowKit
section
variable {P : Program} {f : FuncId} {args : List V} {R R' : V -> List (Nat × List V) -> Prop} {S : Nat -> Prop} {w w' : World} {r r' : V} {m m' : List (Nat × List V)} {u : Value}
theorem Out.wk (h : Out S w w' r m u) (hw : Wk r r') : Out S w w' r' m u := by
  obtain ⟨⟨S', β', h1, h2, h3, h4⟩, hfr⟩ := h
  exact ⟨⟨S', β', h1, h2, hw _ _ _ _ h3, h4⟩, hfr⟩
theorem AC.out (h : AC P f args R) (hw : ∀ r m, R r m -> ∃ r' m', R' r' m' /\ ∀ S w w' u, Out S w w' r m u -> Out S w w' r' m' u) : AC P f args R' := fun S w us h1 h2 h3 =>
  (h S w us h1 h2 h3).mono fun _ _ ⟨r, m, u, hR, e, o⟩ => by
    obtain ⟨r', m', hR', ho⟩ := hw r m hR
    exact ⟨r', m', u, hR', e, ho _ _ _ _ o⟩
theorem Wk.tup {cs' cs : List V} (h : WkL cs' cs) : Wk (.tup cs') (.tup cs) := fun S w β u hv => by
  cases hv with
  | flat h => cases h
  | tup _ us hl hr =>
    exact .tup cs us (by rw [<- h.length]; exact hl) (fun j v u hv hu => by
      obtain ⟨v', h1, h2⟩ := h.at hv
      exact h2 S w β u (hr j v' u h1 hu))
end
end Go.Abs
namespace Go.Proofs.YtmomeejfopfchaaDoor
set_option maxRecDepth 20000
open Go Go.Abs Nat
attribute [local irreducible] AW AWL AC FW CW CWr IntKind.wrap
theorem byIns (h : 53 < Tryd.prog.types.size) : (Tryd.prog.types[53]'h).bytes = 64 := by kernel_rfl
def T8r (b : List Int) (r : Rd) (l : List Ins) : St := { n := 49, slots := [(7, .ptr 21 0), (8, .ref 8 0 l.length 6)], mem := [(21, ⟨false, [.view b.length 1 (nums .u8 b), .int .i64 r.pos, .ref 22002 0 r.op.length 1, .int .i64 r.err]⟩), (22002, ⟨true, nums .i64 (r.op ++ r.jk)⟩), (8, ⟨true, codeC l⟩)] }
theorem readS_out {b : List Int} {p : Int} (h : p < 0 \/ p > b.length) : readS b p = ([], 0, 1) := if_pos h
theorem MERead.NM : type_of% @NSX /\ type_of% @St.keepS.eq_1 /\ type_of% @TY /\ type_of% @SLS /\ type_of% @nums_length /\ type_of% @T8r.eq_1 /\ type_of% @byIns :=
  ⟨NSX, St.keepS.eq_1, @TY, @SLS, @nums_length, @T8r.eq_1, @byIns⟩
open MERead
theorem K1ERead.kp {P : Program} {c : Code} {Q : Exit -> St -> Prop} {st : St} (h : AW P c Q (st.keepS [0, 1, 4, 5, 6, 7, 8, 9])) : AW P c Q st := AW.keepS _ h
theorem K1ERead.cl {p : Prop} (h : p := by
  first
    | refine AWL.cM (f := 56) [(0, 21), (1002, 22002)] cb56 rfl rfl rfl rfl rfl rfl rfl (hin) ?_
    | refine AWL.cM (f := 57) [(0, 21), (1002, 22002)] cb57 rfl rfl rfl rfl rfl rfl rfl (hcl) ?_
  all_goals (apply_rules (newGoals := .nonDependentOnly) only [dep])
  all_goals constructor) : p := h
theorem K1ERead.sd {p : Prop} (h : p := by first | exact sd884d09) : p := h
open K1ERead in
set_option maxHeartbeats 6400000 in
theorem eread_raw (b : List Int) (hb : bytes b) (hlen : b.length <= 100000000) (p : Int) :
    AC Tryd.prog 55 [.view b.length 1 (nums .u8 b), .int .i64 p] (fun v m => ((readS b p).1 = [] /\ v = .tup [.nils, .int .i64 (readS b p).2.1, .int .i64 (readS b p).2.2] /\ m = []) \/ ∃ k, v = .tup [.ref k 0 (readS b p).1.length 6, .int .i64 (readS b p).2.1, .int .i64 (readS b p).2.2] /\ m = [(k, codeC (readS b p).1)]) := by
  have hin : True := trivial
  have hcl : True := trivial
  obtain ⟨A, hA⟩ : ∃ A, readS b p = A := ⟨_, rfl⟩
  rw [hA]
  by_cases hp : p < 0 \/ p > b.length
  · rw [readS_out hp] at hA
    subst hA
    refine AC.enter Tryd.func55 rfl (Nat.le_of_ble_eq_true rfl) ?_
    simp only [Tryd.f55]
    have nx : True := trivial
    refine' st868498
    all_goals first | exact ⟨trivial, trivial⟩ | exact ⟨rfl, trivial⟩ | exact ⟨rfl, rfl⟩ | exact ⟨trivial, rfl⟩ | exact .inr ⟨4, rfl, rfl⟩ | (exfalso; omega) | trace_state
  · unfold readS at hA
    rw [if_neg hp] at hA
    refine AC.enter Tryd.func55 rfl (Nat.le_of_ble_eq_true rfl) ?_
    simp only [Tryd.f55]
    have hlc := codeC_len
    have nx : True := trivial
    refine' st868498
    refine AW.loop [7, 8] [21, 22002, 8] (fun m st => ∃ (n : Nat) (r : Rd) (l : List Ins), st = T8r b r l /\ okRd b r /\ r.err = 0 /\ r.op.length <= 128 /\ (l.length : Int) <= r.pos /\ (b.length : Int) + 1 <= n + r.pos /\ readL b n r l = A /\ n = m) ?_ ?_
    · exact ⟨_, b.length + 1, ⟨p, [], [], 0⟩, [], rfl, ⟨by simp only; omega, by simp only; omega⟩, rfl, Nat.zero_le _, by simp only [List.length_nil]; omega, by simp only; omega, hA, rfl⟩
    rintro m st ⟨n, r, l, rfl, hr, he, hol, hll, hn, hL, rfl⟩
    obtain ⟨n', rfl⟩ : ∃ n', n = n' + 1 := ⟨n - 1, by have := hr.p1; omega⟩
    have hin := rdinstr_ok b hb (by omega) r hr (by omega)
    have had := instrS_adv hb hr
    have hlen2 := instrS_len (b := b) hol
    rw [readL] at hL
    generalize instrS b r = z at hin had hlen2 hL
    obtain ⟨i, r2⟩ := z
    simp only at had hlen2 hL
    have hcl := rdclose_ok b r2
    have hp1 := hr.p1
    have hp2 := had.1.ok.p1
    unfold rdM insO at hin
    by_cases he2 : r2.err ≠ 0
    · rw [if_pos he2] at hL
      subst hL
      have nx : True := trivial
      refine' st868498
      all_goals first | exact ⟨trivial, trivial⟩ | exact ⟨rfl, trivial⟩ | exact ⟨rfl, rfl⟩ | exact ⟨trivial, rfl⟩ | exact .inl ⟨trivial, trivial, trivial⟩ | (exfalso; omega) | trace_state
    · rw [if_neg he2] at hL
      obtain ⟨hadv, hpos⟩ := had
      have he3 : r2.err = 0 := Classical.not_not.1 he2
      have hpos := hpos he3
      have hol2 := hlen2 he3
      have hcl := hcl (by omega)
      have hla : (l ++ [i]).length = l.length + 1 := by simp
      have hld : insC i = [.int .i64 i.op, .int .i64 i.a, .int .i64 i.b, .int .u64 i.lo, .int .u64 i.hi, .view i.l.length 1 (nums .i64 i.l)] := rfl
      have hsn : codeC l ++ [.int .i64 i.op, .int .i64 i.a, .int .i64 i.b, .int .u64 i.lo, .int .u64 i.hi, .view i.l.length 1 (nums .i64 i.l)] = codeC (l ++ [i]) := codeC_snoc l i
      have hcut : List.take (l.length * 6) (codeC l) = codeC l := List.take_of_length_le (by rw [hlc]; omega)
      unfold rdM at hcl
      by_cases h11 : i.op = 11
      · rw [if_pos h11] at hL
        unfold closeS at hL hcl
        by_cases h0 : r2.op.length = 0
        · rw [if_pos h0] at hL hcl
          simp only [↓reduceIte] at hL
          subst hL
          have nx : type_of% @List.take_length.{0} /\ type_of% @hsn /\ type_of% @hcut /\ True := ⟨@List.take_length.{0}, ⟨@hsn, ⟨@hcut, trivial⟩⟩⟩
          refine' st868498
          all_goals first | exact ⟨trivial, trivial⟩ | exact ⟨rfl, trivial⟩ | exact ⟨rfl, rfl⟩ | exact ⟨trivial, rfl⟩ | exact .inr ⟨8, by rw [hla], rfl⟩ | (exfalso; omega) | trace_state
        · rw [if_neg h0] at hL hcl
          simp only at hL
          rw [if_neg (by decide)] at hL
          have nx : type_of% @List.take_length.{0} /\ type_of% @hsn /\ type_of% @hcut /\ True := ⟨@List.take_length.{0}, ⟨@hsn, ⟨@hcut, trivial⟩⟩⟩
          refine' st868498
          all_goals first
            | exact ⟨n', by omega, n', { r2 with op := r2.op.take (r2.op.length - 1), jk := r2.op.drop (r2.op.length - 1) ++ r2.jk }, l ++ [i], by rw [T8r, hla]; rfl, ⟨hadv.ok.p0, hadv.ok.p1⟩, he3, by simp only [List.length_take]; omega, by rw [hla]; simp only; omega, by simp only; omega, hL, rfl⟩
            | trace_state
      · rw [if_neg h11] at hL
        have nx : type_of% @List.take_length.{0} /\ type_of% @hsn /\ type_of% @hcut /\ True := ⟨@List.take_length.{0}, ⟨@hsn, ⟨@hcut, trivial⟩⟩⟩
        refine' st868498
        all_goals first
          | exact ⟨n', by omega, n', r2, l ++ [i], by rw [T8r, hla]; rfl, hadv.ok, he3, hol2, by rw [hla]; omega, by omega, hL, rfl⟩
          | trace_state
theorem eread_ok (b : List Int) (hb : bytes b) (hlen : b.length <= 100000000) (p : Int) :
    AC Tryd.prog 55 [.view b.length 1 (nums .u8 b), .int .i64 p] (fun v m => v = .tup [.view (readS b p).1.length 6 (codeC (readS b p).1), .int .i64 (readS b p).2.1, .int .i64 (readS b p).2.2] /\ m = []) := by
  refine (eread_raw b hb hlen p).out fun v m h => ?_
  rcases h with ⟨h0, rfl, rfl⟩ | ⟨k, rfl, rfl⟩
  · refine ⟨_, _, ⟨rfl, rfl⟩, fun S w w' u ho => ho.wk (Wk.tup ?_)⟩
    rw [h0]
    exact .cons (Wk.nils 6) (WkL.refl _)
  · refine ⟨_, _, ⟨rfl, rfl⟩, fun S w w' u ho => ?_⟩
    have h2 := ho.frz
    have e : frz1 k (codeC (readS b p).1) (.tup [.ref k 0 (readS b p).1.length 6, .int .i64 (readS b p).2.1, .int .i64 (readS b p).2.2]) = .tup [.view (readS b p).1.length 6 (codeC (readS b p).1), .int .i64 (readS b p).2.1, .int .i64 (readS b p).2.2] := by
      simp only [frz1, V.frz, V.wipe, List.map_cons, List.map_nil, beq_self_eq_true, cond_true, List.drop_zero, List.take_of_length_le (Nat.le_of_eq (codeC_len (readS b p).1))]
    rw [e] at h2; exact h2
end Go.Proofs.YtmomeejfopfchaaDoor
namespace Go.Proofs.YtmomeejfopfchaaDoor
set_option maxRecDepth 20000
open Go Go.Abs
abbrev Res (α : Type) := Except (Int × Int) (α × Int)
def bnd {α β : Type} (x : Res α) (f : α -> Int -> Res β) : Res β := match x with
  | .ok (a, t) => f a t
  | .error z => .error z
theorem bnd_ok {α β : Type} (a : α) (t : Int) (f : α -> Int -> Res β) : bnd (.ok (a, t)) f = f a t := rfl
theorem bnd_err {α β : Type} (z : Int × Int) (f : α -> Int -> Res β) : bnd (.error z) f = .error z := rfl
def byteT (xs : List Int) (p : Int) : Res Int := if p >= xs.length then .error (10, p) else .ok (xs.getD p.toNat 0, p + 1)
def nmT (xs : List Int) (p : Int) : Res Int := if (uSpec xs p 32).2.2 ≠ 0 then .error (10, p) else .ok ((uSpec xs p 32).1, (uSpec xs p 32).2.1)
def cntT (xs : List Int) (most : Int) (p : Int) : Res Int := bnd (nmT xs p) fun n t => if n > most then .error (3, t) else .ok (n, t)
def partN (xs : List Int) (n p : Int) : Res Int := if n > xs.length - p then .error (10, p) else .ok (p, p + n)
def partT (xs : List Int) (p : Int) : Res Int := bnd (nmT xs p) (partN xs)
def bytesT (xs : List Int) (p : Int) : Res (List Int) := bnd (partT xs p) fun s t => .ok ((xs.drop s.toNat).take (t - s).toNat, t)
def uStep : List Int -> Option Nat
  | [] => none
  | c :: l =>
    if c < 128 then some 1
    else if 194 <= c /\ c <= 223 then (if 1 <= l.length /\ 128 <= l.getD 0 0 /\ l.getD 0 0 <= 191 then some 2 else none)
    else if 224 <= c /\ c <= 239 then (if 2 <= l.length /\ (if c = 224 then 160 else 128) <= l.getD 0 0 /\ l.getD 0 0 <= (if c = 237 then 159 else 191) /\ 128 <= l.getD 1 0 /\ l.getD 1 0 <= 191 then some 3 else none)
    else if 240 <= c /\ c <= 244 then (if 3 <= l.length /\ (if c = 240 then 144 else 128) <= l.getD 0 0 /\ l.getD 0 0 <= (if c = 244 then 143 else 191) /\ 128 <= l.getD 1 0 /\ l.getD 1 0 <= 191 /\ 128 <= l.getD 2 0 /\ l.getD 2 0 <= 191 then some 4 else none)
    else none
def validN : Nat -> List Int -> Bool
  | 0, _ => true
  | n + 1, l => if l = [] then true else match uStep l with
    | none => false
    | some k => validN n (l.drop k)
def validS (l : List Int) : Bool := validN l.length l
def toS (l : List Int) : List UInt8 := (nums .u8 l).map Abs.byteOf
def nameT (xs : List Int) (p : Int) : Res (List UInt8) := bnd (bytesT xs p) fun l t => if validS l = true then .ok (toS l, t) else .error (10, t)
def kindT (xs : List Int) (p : Int) : Res Int := bnd (byteT xs p) fun c t => if c = 127 \/ c = 126 \/ c = 123 then .ok (c, t) else if c = 125 \/ c = 124 then .error (11, t) else .error (10, t)
def limT (xs : List Int) (most : Int) (p : Int) : Res (Int × Int) := bnd (byteT xs p) fun f t => if f > 1 then .error (10, t) else bnd (cntT xs most t) fun n t => if f = 1 then bnd (nmT xs t) fun x t => .ok ((n, x), t) else .ok ((n, -1), t)
def exprT (xs : List Int) (p : Int) : Res (List Ins) := if (readS xs p).2.2 ≠ 0 then .error ((readS xs p).2.2, p) else .ok ((readS xs p).1, (readS xs p).2.1)
def rowT {α : Type} (one : Int -> Res α) : Nat -> Int -> Res (List α)
  | 0, p => .ok ([], p)
  | n + 1, p => bnd (one p) fun a t => bnd (rowT one n t) fun l t => .ok (a :: l, t)
def rowsT {α : Type} (xs : List Int) (most : Int) (one : Int -> Res α) (p : Int) : Res (List α) := bnd (cntT xs most p) fun n t => rowT one n.toNat t
def mustT (c : Prop) [Decidable c] {α : Type} (x : Int -> Res α) (t : Int) : Res α := if c then x t else .error (10, t)
structure MSig where
  i : List Int
  o : List Int
  deriving DecidableEq
structure MImp where
  m : List UInt8
  n : List UInt8
  t : Int
  deriving DecidableEq
structure MGlob where
  t : Int
  mu : Bool
  c : List Ins
  deriving DecidableEq
structure MExp where
  n : List UInt8
  k : Int
  i : Int
  deriving DecidableEq
structure MElem where
  c : List Ins
  f : List Int
  deriving DecidableEq
structure MCode where
  l : List Int
  c : List Ins
  deriving DecidableEq
structure MData where
  c : List Ins
  b : List Int
  deriving DecidableEq
structure Mod where
  types : List MSig
  imports : List MImp
  funcs : List Int
  tables : List (Int × Int)
  mems : List (Int × Int)
  globals : List MGlob
  exports : List MExp
  start : Int
  elems : List MElem
  codes : List MCode
  datas : List MData
  deriving DecidableEq
def sigT (xs : List Int) (p : Int) : Res MSig := bnd (byteT xs p) fun c t => mustT (c = 96) (fun t => bnd (rowsT xs 32 (kindT xs) t) fun i t => bnd (rowsT xs 32 (kindT xs) t) fun o t => .ok (⟨i, o⟩, t)) t
def impT (xs : List Int) (p : Int) : Res MImp := bnd (nameT xs p) fun m t => bnd (nameT xs t) fun n t => bnd (byteT xs t) fun c t => mustT (c = 0) (fun t => bnd (nmT xs t) fun i t => .ok (⟨m, n, i⟩, t)) t
def tabT (xs : List Int) (p : Int) : Res (Int × Int) := bnd (byteT xs p) fun c t => mustT (c = 112) (limT xs 1024) t
def globT (xs : List Int) (p : Int) : Res MGlob := bnd (kindT xs p) fun k t => bnd (byteT xs t) fun c t => mustT (c <= 1) (fun t => bnd (exprT xs t) fun e t => .ok (⟨k, c == 1, e⟩, t)) t
def expT (xs : List Int) (p : Int) : Res MExp := bnd (nameT xs p) fun n t => bnd (byteT xs t) fun c t => mustT (c <= 3) (fun t => bnd (nmT xs t) fun i t => .ok (⟨n, c, i⟩, t)) t
def elemT (xs : List Int) (p : Int) : Res MElem := bnd (nmT xs p) fun c t => mustT (c = 0) (fun t => bnd (exprT xs t) fun e t => bnd (rowsT xs 1024 (nmT xs) t) fun f t => .ok (⟨e, f⟩, t)) t
def dataT (xs : List Int) (p : Int) : Res MData := bnd (nmT xs p) fun c t => mustT (c = 0) (fun t => bnd (exprT xs t) fun e t => bnd (bytesT xs t) fun b t => .ok (⟨e, b⟩, t)) t
def runsT (xs : List Int) : Nat -> List Int -> Int -> Res (List Int)
  | 0, l, p => .ok (l, p)
  | n + 1, l, p => bnd (cntT xs (512 - l.length) p) fun k t => bnd (kindT xs t) fun c t => runsT xs n (l ++ List.replicate k.toNat c) t
def bodyT (xs : List Int) (p : Int) : Res MCode := bnd (nmT xs p) fun n t => bnd (runsT xs n.toNat [] t) fun l t => bnd (exprT xs t) fun c t => mustT (t = xs.length) (fun t => .ok (⟨l, c⟩, t)) t
def inT {α : Type} (xs : List Int) (f : List Int -> Int -> Res α) (s t : Int) : Res α := match f (xs.take t.toNat) s with
  | .ok (a, _) => .ok (a, t)
  | .error (e, _) => .error (e, t)
def codeT (xs : List Int) (p : Int) : Res MCode := bnd (partT xs p) (inT xs bodyT)
def secT (xs : List Int) (id : Int) (m : Mod) (p : Int) : Res Mod :=
  if id = 1 then bnd (rowsT xs 256 (sigT xs) p) fun l t => .ok ({ m with types := l }, t)
  else if id = 2 then bnd (rowsT xs 512 (impT xs) p) fun l t => .ok ({ m with imports := l }, t)
  else if id = 3 then bnd (rowsT xs 512 (nmT xs) p) fun l t => .ok ({ m with funcs := l }, t)
  else if id = 4 then bnd (rowsT xs 512 (tabT xs) p) fun l t => .ok ({ m with tables := l }, t)
  else if id = 5 then bnd (rowsT xs 512 (limT xs 16) p) fun l t => .ok ({ m with mems := l }, t)
  else if id = 6 then bnd (rowsT xs 512 (globT xs) p) fun l t => .ok ({ m with globals := l }, t)
  else if id = 7 then bnd (rowsT xs 512 (expT xs) p) fun l t => .ok ({ m with exports := l }, t)
  else if id = 8 then bnd (nmT xs p) fun l t => .ok ({ m with start := l }, t)
  else if id = 9 then bnd (rowsT xs 512 (elemT xs) p) fun l t => .ok ({ m with elems := l }, t)
  else if id = 10 then bnd (rowsT xs 512 (codeT xs) p) fun l t => .ok ({ m with codes := l }, t)
  else if id = 11 then bnd (rowsT xs 512 (dataT xs) p) fun l t => .ok ({ m with datas := l }, t)
  else .ok (m, p)
def doneT (xs : List Int) {α : Type} (a : α) (t : Int) : Res α := mustT (t = xs.length) (fun t => .ok (a, t)) t
def sec1 (xs : List Int) (last : Int) (m : Mod) (p : Int) : Res (Int × Mod) :=
  bnd (byteT xs p) fun id t => bnd (partT xs t) fun s t =>
    if id = 0 then inT xs (fun ys p => bnd (nameT ys p) fun _ t => .ok ((last, m), t)) s t
    else inT xs (fun ys p => mustT (id > last /\ id <= 11) (fun p => bnd (secT ys id m p) fun m t => doneT ys (id, m) t) p) s t
def secsT (xs : List Int) : Nat -> Int -> Mod -> Int -> Res Mod
  | 0, _, m, p => .ok (m, p)
  | n + 1, last, m, p => if p < xs.length then bnd (sec1 xs last m p) fun x t => secsT xs n x.1 x.2 t else .ok (m, p)
def headT (xs : List Int) : List Int -> Int -> Res Unit
  | [], p => .ok ((), p)
  | c :: l, p => bnd (byteT xs p) fun x t => mustT (x = c) (headT xs l) t
def mod0 : Mod := ⟨[], [], [], [], [], [], [], 0, [], [], []⟩
def anyT (xs : List Int) : Res Mod :=
  bnd (headT xs [0, 97, 115, 109, 1, 0, 0, 0] 0) fun _ t => bnd (secsT xs xs.length 0 { mod0 with start := -1 } t) fun m t => mustT (m.codes.length = m.funcs.length) (fun t => .ok (m, t)) t
def decS (xs : List Int) : Mod × Int := if xs.length > 16384 then (mod0, 4) else match anyT xs with
  | .ok (m, _) => (m, 0)
  | .error (e, _) => (mod0, e)
end Go.Proofs.YtmomeejfopfchaaDoor
namespace Go.Proofs.YtmomeejfopfchaaDoor
set_option maxRecDepth 20000
open Go Go.Abs Nat
attribute [local irreducible] AW AWL AC FW CW CWr IntKind.wrap
def tpM (k : Nat) (b : List Int) (p : Int) (en : Nat) : Mem := [(k, ⟨false, [.view b.length 1 (nums .u8 b), .int .i64 p, .int .i64 en]⟩)]
def fltE (e : Int) : List PanicEntry := [{ v := .iface 57 (.agg #[.int .i64 e]), recovered := false }]
def OKR {α : Type} (x : Res α) (enc : α -> V) (b : List Int) (en : Nat) (v : V) (m : Mem) : Prop := match x with
  | .ok (a, t) => v = enc a /\ m = tpM 0 b t en
  | .error _ => False
def ERR {α : Type} (x : Res α) (b : List Int) (en : Nat) (ch : List PanicEntry) (m : Mem) : Prop := match x with
  | .ok _ => False
  | .error (e, t) => ch = fltE e /\ m = tpM 0 b t en
def TF {α : Type} (f : FuncId) (args : List V) (b : List Int) (en : Nat) (p : Int) (x : Res α) (enc : α -> V) : Prop := AMP Tryd.prog f (.ptr 0 0 :: args) (tpM 0 b p en) [0] (OKR x enc b en) (ERR x b en)
structure okT (b : List Int) (p : Int) (en : Nat) : Prop where
  hb : bytes b
  hl : b.length <= 100000000
  he : en <= b.length
  p0 : 0 <= p
  p1 : p <= en
theorem okT.len {b : List Int} {p : Int} {en : Nat} (h : okT b p en) : (b.take en).length = en := by rw [List.length_take]; have := h.he; omega
theorem okT.byt {b : List Int} {p : Int} {en : Nat} (h : okT b p en) : bytes (b.take en) := fun x hx => h.hb x (List.mem_of_mem_take hx)
theorem okT.mv {b : List Int} {p t : Int} {en : Nat} (h : okT b p en) (h1 : p <= t) (h2 : t <= en) : okT b t en := ⟨h.hb, h.hl, h.he, Int.le_trans h.p0 h1, h2⟩
theorem MMT1.NM : type_of% @NSX /\ type_of% @St.keepS.eq_1 /\ type_of% @TY /\ type_of% @SLS /\ type_of% @nums_length :=
  ⟨NSX, St.keepS.eq_1, @TY, @SLS, @nums_length⟩
open MMT1
theorem K1MT1.kp {P : Program} {c : Code} {Q : Exit -> St -> Prop} {st : St} (h : AW P c Q (st.keepS [0])) : AW P c Q st := AW.keepS _ h
theorem K1MT1.cl {p : Prop} (h : p := by
  first
    | refine AWL.frzG rfl rfl rfl ?_
  all_goals (apply_rules (newGoals := .nonDependentOnly) only [dep])
  all_goals constructor) : p := h
theorem K1MT1.sd {p : Prop} (h : p := by first | exact sd1eb496) : p := h
open K1MT1 in
set_option maxHeartbeats 1600000 in
theorem fail_ok (e : Int) : AMP Tryd.prog 27 [.int .i64 e] [] [] (fun _ _ => False) (fun ch m => ch = fltE e /\ m = []) := by
  refine AMP.enter Tryd.func27 rfl (Nat.le_of_ble_eq_true rfl) (fun pn => ?_)
  simp only [Tryd.f27]
  have nx : True := trivial
  refine' stb72fb2
  all_goals first | exact ⟨trivial, trivial⟩ | exact ⟨rfl, trivial⟩ | exact ⟨rfl, rfl⟩ | exact ⟨trivial, rfl⟩ | (exfalso; omega) | trace_state
end Go.Proofs.YtmomeejfopfchaaDoor
namespace Go.Proofs.YtmomeejfopfchaaDoor
set_option maxRecDepth 20000
open Go Go.Abs Nat
attribute [local irreducible] AW AWL AC FW CW CWr IntKind.wrap
theorem MMT2.NM : type_of% @NSX /\ type_of% @St.keepS.eq_1 /\ type_of% @TY /\ type_of% @SLS /\ type_of% @nums_length :=
  ⟨NSX, St.keepS.eq_1, @TY, @SLS, @nums_length⟩
open MMT2
theorem K1MT2.kp {P : Program} {c : Code} {Q : Exit -> St -> Prop} {st : St} (h : AW P c Q (st.keepS [0])) : AW P c Q st := AW.keepS _ h
theorem K1MT2.cl {p : Prop} (h : p := by
  first
    | refine AWL.cMP (f := 27) [] cb27 rfl rfl rfl rfl rfl rfl rfl (hfail) ?_ ?_
  all_goals (apply_rules (newGoals := .nonDependentOnly) only [dep])
  all_goals constructor) : p := h
theorem K1MT2.sd {p : Prop} (h : p := by first | exact sd1eb496) : p := h
open K1MT2 in
set_option maxHeartbeats 1600000 in
theorem must_ok (c : Bool) : AMP Tryd.prog 15 [.bool c] [] [] (fun v m => c = true /\ v = .tup [] /\ m = []) (fun ch m => c = false /\ ch = fltE 10 /\ m = []) := by
  have hfail := fail_ok 10
  refine AMP.enter Tryd.func15 rfl (Nat.le_of_ble_eq_true rfl) (fun pn => ?_)
  simp only [Tryd.f15]
  cases c
  · have nx : True := trivial
    refine' st5daf03
    all_goals first
      | exact ⟨rfl, rfl, rfl⟩
      | trace_state
  · have nx : True := trivial
    refine' st5daf03
    all_goals first
      | exact ⟨rfl, rfl, rfl⟩
      | trace_state
end Go.Proofs.YtmomeejfopfchaaDoor
namespace Go.Proofs.YtmomeejfopfchaaDoor
set_option maxRecDepth 20000
open Go Go.Abs Nat
attribute [local irreducible] AW AWL AC FW CW CWr IntKind.wrap
theorem MMT3.NM : type_of% @NSX /\ type_of% @St.keepS.eq_1 /\ type_of% @TY /\ type_of% @SLS /\ type_of% @nums_length :=
  ⟨NSX, St.keepS.eq_1, @TY, @SLS, @nums_length⟩
open MMT3
theorem K1MT3.kp {P : Program} {c : Code} {Q : Exit -> St -> Prop} {st : St} (h : AW P c Q (st.keepS [0, 2])) : AW P c Q st := AW.keepS _ h
theorem K1MT3.cl {p : Prop} (h : p := by
  first
    | refine AWL.cMP (f := 27) [] cb27 rfl rfl rfl rfl rfl rfl rfl (hfail) ?_ ?_
    | refine AWL.frzG rfl rfl rfl ?_
  all_goals (apply_rules (newGoals := .nonDependentOnly) only [dep])
  all_goals constructor) : p := h
theorem K1MT3.sd {p : Prop} (h : p := by first | exact sd1eb496) : p := h
theorem K2MT3.kp {P : Program} {c : Code} {Q : Exit -> St -> Prop} {st : St} (h : AW P c Q (st.keepS [0, 2, 3, 4, 5])) : AW P c Q st := AW.keepS _ h
theorem K2MT3.cl {p : Prop} (h : p := by
  first
    | refine AWL.cMP (f := 27) [] cb27 rfl rfl rfl rfl rfl rfl rfl (hfail) ?_ ?_
    | refine AWL.frzG rfl rfl rfl ?_
    | refine AWL.cC (f := 28) cb28 rfl rfl rfl rfl rfl rfl (hu) ?_
  all_goals (apply_rules (newGoals := .nonDependentOnly) only [dep])
  all_goals constructor) : p := h
theorem K2MT3.sd {p : Prop} (h : p := by first | exact sd1eb496) : p := h
open K1MT3 in
set_option maxHeartbeats 1600000 in
theorem tbyte_ok {b : List Int} {p : Int} {en : Nat} (h : okT b p en) : TF 16 [] b en p (byteT (b.take en) p) (.int .u8) := by
  have hfail := fail_ok 10
  have hlen := h.len
  obtain ⟨hb, hl, he, p0, p1⟩ := h
  obtain ⟨k, rfl⟩ : ∃ k : Nat, p = k := ⟨p.toNat, by omega⟩
  have ew : IntKind.i64.wrap ((k : Int) + 1) = (k : Int) + 1 := wrap64_id _ (by omega) (by omega)
  have ew2 : IntKind.i64.wrap ((k : Int) + 1 - 1) = (k : Int) := by rw [wrap64_id _ (by omega) (by omega)]; omega
  obtain ⟨A, hA⟩ : ∃ A, byteT (b.take en) k = A := ⟨_, rfl⟩
  rw [hA]
  unfold byteT at hA
  rw [hlen] at hA
  unfold TF OKR ERR tpM
  by_cases c : (k : Int) >= en
  · rw [if_pos c] at hA
    subst hA
    refine AMP.enter Tryd.func16 rfl (Nat.le_of_ble_eq_true rfl) (fun pn => ?_)
    simp only [Tryd.f16]
    have nx : True := trivial
    refine' stb9d8e6
    all_goals first | exact ⟨trivial, trivial⟩ | exact ⟨rfl, trivial⟩ | exact ⟨rfl, rfl⟩ | exact ⟨trivial, rfl⟩ | (exfalso; omega) | trace_state
  · rw [if_neg c, Int.toNat_natCast, show (b.take en).getD k 0 = b.getD k 0 by simp only [List.getD_eq_getElem?_getD]; rw [List.getElem?_take_of_lt (by omega)]] at hA
    have hx := hb _ (getD_mem (show k < b.length by omega))
    subst hA
    refine AMP.enter Tryd.func16 rfl (Nat.le_of_ble_eq_true rfl) (fun pn => ?_)
    simp only [Tryd.f16]
    have nx : type_of% @ew /\ type_of% @ew2 /\ True := ⟨@ew, ⟨@ew2, trivial⟩⟩
    refine' stb9d8e6
    all_goals first | exact ⟨trivial, trivial⟩ | exact ⟨rfl, trivial⟩ | exact ⟨rfl, rfl⟩ | exact ⟨trivial, rfl⟩ | (exfalso; omega) | trace_state
open K2MT3 in
set_option maxHeartbeats 1600000 in
theorem tnum_ok {b : List Int} {p : Int} {en : Nat} (h : okT b p en) : TF 18 [] b en p (nmT (b.take en) p) (.int .i64) := by
  have hfail := fail_ok 10
  have hu := u_ok (b.take en) h.byt (by rw [h.len]; have := h.hl; have := h.he; omega) p 32
  have hus := fun h9 => uSpec_ok h.byt ⟨h.p0, by rw [h.len]; exact h.p1⟩ h9
  have hlen := h.len
  have htk : List.take en (nums .u8 b) = nums .u8 (b.take en) := by simp only [nums, List.map_take]
  obtain ⟨hb, hl, he, p0, p1⟩ := h
  obtain ⟨A, hA⟩ : ∃ A, nmT (b.take en) p = A := ⟨_, rfl⟩
  rw [hA]
  unfold nmT at hA
  rw [hlen] at hu
  generalize uSpec (b.take en) p 32 = z at hu hus hA
  obtain ⟨n, to, e⟩ := z
  simp only at hu hus hA
  unfold TF OKR ERR tpM
  by_cases c : e ≠ 0
  · rw [if_pos c] at hA
    subst hA
    refine AMP.enter Tryd.func18 rfl (Nat.le_of_ble_eq_true rfl) (fun pn => ?_)
    simp only [Tryd.f18]
    have nx : type_of% @htk /\ True := ⟨@htk, trivial⟩
    refine' stb9d8e6
    all_goals first | exact ⟨trivial, trivial⟩ | exact ⟨rfl, trivial⟩ | exact ⟨rfl, rfl⟩ | exact ⟨trivial, rfl⟩ | (exfalso; omega) | trace_state
  · rw [if_neg c] at hA
    subst hA
    have hus := hus (Classical.not_not.1 c)
    have ew : IntKind.i64.wrap n = n := wrap64_id _ (by omega) (by omega)
    refine AMP.enter Tryd.func18 rfl (Nat.le_of_ble_eq_true rfl) (fun pn => ?_)
    simp only [Tryd.f18]
    have nx : type_of% @htk /\ type_of% @ew /\ True := ⟨@htk, ⟨@ew, trivial⟩⟩
    refine' stb9d8e6
    all_goals first | exact ⟨trivial, trivial⟩ | exact ⟨rfl, trivial⟩ | exact ⟨rfl, rfl⟩ | exact ⟨trivial, rfl⟩ | (exfalso; omega) | trace_state
end Go.Proofs.YtmomeejfopfchaaDoor
namespace Go.Proofs.YtmomeejfopfchaaDoor
set_option maxRecDepth 20000
open Go Go.Abs Nat
attribute [local irreducible] AW AWL AC FW CW CWr IntKind.wrap
theorem nmT_mv {b : List Int} {p : Int} {en : Nat} (h : okT b p en) {n t : Int} (he : nmT (b.take en) p = .ok (n, t)) : okT b t en /\ p < t /\ 0 <= n /\ n < 4294967296 := by
  unfold nmT at he
  split at he
  · cases he
  · rename_i c
    have := uSpec_ok h.byt ⟨h.p0, by rw [h.len]; exact h.p1⟩ (Classical.not_not.1 c)
    rw [h.len] at this
    simp only [Except.ok.injEq, Prod.mk.injEq] at he
    obtain ⟨rfl, rfl⟩ := he
    exact ⟨h.mv (by omega) this.2.2, this.2.1, this.1.1, this.1.2⟩
theorem byteT_mv {b : List Int} {p : Int} {en : Nat} (h : okT b p en) {n t : Int} (he : byteT (b.take en) p = .ok (n, t)) : okT b t en /\ t = p + 1 /\ byte n := by
  unfold byteT at he
  rw [h.len] at he
  split at he
  · cases he
  · rename_i c
    simp only [Except.ok.injEq, Prod.mk.injEq] at he
    obtain ⟨rfl, rfl⟩ := he
    have h0 := h.p0
    exact ⟨h.mv (by omega) (by omega), rfl, h.byt _ (getD_mem (by rw [h.len]; omega))⟩
theorem MMT4.NM : type_of% @NSX /\ type_of% @St.keepS.eq_1 /\ type_of% @TY /\ type_of% @SLS /\ type_of% @nums_length :=
  ⟨NSX, St.keepS.eq_1, @TY, @SLS, @nums_length⟩
open MMT4
theorem K1MT4.kp {P : Program} {c : Code} {Q : Exit -> St -> Prop} {st : St} (h : AW P c Q (st.keepS [0, 1, 4, 5])) : AW P c Q st := AW.keepS _ h
theorem K1MT4.cl {p : Prop} (h : p := by
  first
    | refine AWL.cMP (f := 27) [] cb27 rfl rfl rfl rfl rfl rfl rfl (hfail) ?_ ?_
    | refine AWL.cMP (f := 18) [(0, 0)] cb18 rfl rfl rfl rfl rfl rfl rfl (hnum) ?_ ?_
  all_goals (apply_rules (newGoals := .nonDependentOnly) only [dep])
  all_goals constructor) : p := h
theorem K1MT4.sd {p : Prop} (h : p := by first | exact sd1eb496) : p := h
theorem K2MT4.kp {P : Program} {c : Code} {Q : Exit -> St -> Prop} {st : St} (h : AW P c Q (st.keepS [0])) : AW P c Q st := AW.keepS _ h
theorem K2MT4.cl {p : Prop} (h : p := by
  first
    | refine AWL.cMP (f := 27) [] cb27 rfl rfl rfl rfl rfl rfl rfl (hfail) ?_ ?_
  all_goals (apply_rules (newGoals := .nonDependentOnly) only [dep])
  all_goals constructor) : p := h
theorem K2MT4.sd {p : Prop} (h : p := by first | exact sd1eb496) : p := h
theorem K3MT4.kp {P : Program} {c : Code} {Q : Exit -> St -> Prop} {st : St} (h : AW P c Q (st.keepS [0, 1, 4, 5])) : AW P c Q st := AW.keepS _ h
theorem K3MT4.cl {p : Prop} (h : p := by
  first
    | refine AWL.cMP (f := 27) [] cb27 rfl rfl rfl rfl rfl rfl rfl (hfail) ?_ ?_
  all_goals (apply_rules (newGoals := .nonDependentOnly) only [dep])
  all_goals constructor) : p := h
theorem K3MT4.sd {p : Prop} (h : p := by first | exact sd1eb496) : p := h
theorem K4MT4.kp {P : Program} {c : Code} {Q : Exit -> St -> Prop} {st : St} (h : AW P c Q (st.keepS [0, 2, 3, 6])) : AW P c Q st := AW.keepS _ h
theorem K4MT4.cl {p : Prop} (h : p := by
  first
    | refine AWL.cMP (f := 27) [] cb27 rfl rfl rfl rfl rfl rfl rfl (hfail) ?_ ?_
    | refine AWL.cMP (f := 16) [(0, 0)] cb16 rfl rfl rfl rfl rfl rfl rfl (hbyte) ?_ ?_
  all_goals (apply_rules (newGoals := .nonDependentOnly) only [dep])
  all_goals constructor) : p := h
theorem K4MT4.sd {p : Prop} (h : p := by first | exact sd1eb496) : p := h
open K1MT4 in
set_option maxHeartbeats 1600000 in
theorem tcount_ok {b : List Int} {p : Int} {en : Nat} (h : okT b p en) (most : Int) : TF 52 [.int .i64 most] b en p (cntT (b.take en) most p) (.int .i64) := by
  have hfail := fail_ok 3
  have hnum := tnum_ok h
  obtain ⟨A, hA⟩ : ∃ A, cntT (b.take en) most p = A := ⟨_, rfl⟩
  rw [hA]
  unfold cntT at hA
  unfold TF OKR ERR tpM at hnum
  unfold TF OKR ERR tpM
  rcases hz : nmT (b.take en) p with ⟨e, t⟩ | ⟨n, t⟩
  all_goals
    rw [hz] at hA hnum
    simp only [bnd] at hA hnum
  · subst hA
    refine AMP.enter Tryd.func52 rfl (Nat.le_of_ble_eq_true rfl) (fun pn => ?_)
    simp only [Tryd.f52]
    have nx : True := trivial
    refine' st5c3734
    all_goals first | exact ⟨trivial, trivial⟩ | exact ⟨rfl, trivial⟩ | exact ⟨rfl, rfl⟩ | exact ⟨trivial, rfl⟩ | (exfalso; omega) | trace_state
  · by_cases c : n > most
    · rw [if_pos c] at hA
      subst hA
      refine AMP.enter Tryd.func52 rfl (Nat.le_of_ble_eq_true rfl) (fun pn => ?_)
      simp only [Tryd.f52]
      have nx : True := trivial
      refine' st5c3734
      all_goals first | exact ⟨trivial, trivial⟩ | exact ⟨rfl, trivial⟩ | exact ⟨rfl, rfl⟩ | exact ⟨trivial, rfl⟩ | (exfalso; omega) | trace_state
    · rw [if_neg c] at hA
      subst hA
      refine AMP.enter Tryd.func52 rfl (Nat.le_of_ble_eq_true rfl) (fun pn => ?_)
      simp only [Tryd.f52]
      have nx : True := trivial
      refine' st5c3734
      all_goals first | exact ⟨trivial, trivial⟩ | exact ⟨rfl, trivial⟩ | exact ⟨rfl, rfl⟩ | exact ⟨trivial, rfl⟩ | (exfalso; omega) | trace_state
open K2MT4 in
set_option maxHeartbeats 1600000 in
theorem tdone_ok {b : List Int} {p : Int} {en : Nat} (h : okT b p en) : TF 21 [] b en p (doneT (b.take en) () p) (fun _ => .tup []) := by
  have hfail := fail_ok 10
  have hlen := h.len
  obtain ⟨A, hA⟩ : ∃ A, doneT (b.take en) () p = A := ⟨_, rfl⟩
  rw [hA]
  unfold doneT mustT at hA
  rw [hlen] at hA
  unfold TF OKR ERR tpM
  by_cases c : p = en
  · rw [if_pos c] at hA
    subst hA
    refine AMP.enter Tryd.func21 rfl (Nat.le_of_ble_eq_true rfl) (fun pn => ?_)
    simp only [Tryd.f21]
    have nx : True := trivial
    refine' st89081d
    all_goals first | exact ⟨trivial, trivial⟩ | exact ⟨rfl, trivial⟩ | exact ⟨rfl, rfl⟩ | exact ⟨trivial, rfl⟩ | (exfalso; omega) | trace_state
  · rw [if_neg c] at hA
    subst hA
    refine AMP.enter Tryd.func21 rfl (Nat.le_of_ble_eq_true rfl) (fun pn => ?_)
    simp only [Tryd.f21]
    have nx : True := trivial
    refine' st89081d
    all_goals first | exact ⟨trivial, trivial⟩ | exact ⟨rfl, trivial⟩ | exact ⟨rfl, rfl⟩ | exact ⟨trivial, rfl⟩ | (exfalso; omega) | trace_state
open K3MT4 in
set_option maxHeartbeats 1600000 in
theorem tpart_ok {b : List Int} {p : Int} {en : Nat} (h : okT b p en) (n : Int) (hn : 0 <= n /\ n < 4294967296) : AMP Tryd.prog 17 [.ptr 0 0, .int .i64 n] (tpM 0 b p en) [0]
    (fun v m => (n <= en - p) /\ v = .ptr 33 0 /\ m = tpM 0 b (p + n) en ++ [(33, ⟨false, [.view b.length 1 (nums .u8 b), .int .i64 p, .int .i64 (p + n)]⟩)]) (fun ch m => ¬ (n <= en - p) /\ ch = fltE 10 /\ m = tpM 0 b p en) := by
  have hfail := fail_ok 10
  obtain ⟨hb, hl, he, p0, p1⟩ := h
  unfold tpM
  have e1 : IntKind.i64.wrap ((en : Int) - p) = en - p := wrap64_id _ (by omega) (by omega)
  have e2 : IntKind.i64.wrap (p + n) = p + n := wrap64_id _ (by omega) (by omega)
  refine AMP.enter Tryd.func17 rfl (Nat.le_of_ble_eq_true rfl) (fun pn => ?_)
  simp only [Tryd.f17]
  have nx : type_of% @e1 /\ type_of% @e2 /\ True := ⟨@e1, ⟨@e2, trivial⟩⟩
  refine' st89081d
  all_goals first
    | exact ⟨by omega, rfl, rfl⟩
    | trace_state
open K4MT4 in
set_option maxHeartbeats 1600000 in
theorem tkind_ok {b : List Int} {p : Int} {en : Nat} (h : okT b p en) : TF 53 [] b en p (kindT (b.take en) p) (.int .i64) := by
  have hbyte := tbyte_ok h
  have hbm := fun n t => byteT_mv h (n := n) (t := t)
  have hfail : True := trivial
  obtain ⟨A, hA⟩ : ∃ A, kindT (b.take en) p = A := ⟨_, rfl⟩
  rw [hA]
  unfold kindT at hA
  unfold TF OKR ERR tpM at hbyte
  unfold TF OKR ERR tpM
  rcases hz : byteT (b.take en) p with ⟨e, t⟩ | ⟨n, t⟩
  all_goals
    rw [hz] at hA hbyte hbm
    simp only [bnd] at hA hbyte
  · subst hA
    refine AMP.enter Tryd.func53 rfl (Nat.le_of_ble_eq_true rfl) (fun pn => ?_)
    simp only [Tryd.f53]
    have nx : True := trivial
    refine' st5c3734
    all_goals first | exact ⟨trivial, trivial⟩ | exact ⟨rfl, trivial⟩ | exact ⟨rfl, rfl⟩ | exact ⟨trivial, rfl⟩ | (exfalso; omega) | trace_state
  · have hx := (hbm _ _ rfl).2.2
    have ew : IntKind.i64.wrap n = n := wrap64_id _ (by have := hx.1; omega) (by have := hx.2; omega)
    by_cases c : n = 127 \/ n = 126 \/ n = 123
    · rw [if_pos c] at hA
      subst hA
      rcases c with rfl | rfl | rfl
      all_goals
        refine AMP.enter Tryd.func53 rfl (Nat.le_of_ble_eq_true rfl) (fun pn => ?_)
        simp only [Tryd.f53]
        have nx : type_of% @ew /\ True := ⟨@ew, trivial⟩
        refine' st5c3734
        all_goals first | exact ⟨trivial, trivial⟩ | exact ⟨rfl, trivial⟩ | exact ⟨rfl, rfl⟩ | exact ⟨trivial, rfl⟩ | (exfalso; omega) | trace_state
    · rw [if_neg c] at hA
      by_cases c2 : n = 125 \/ n = 124
      · rw [if_pos c2] at hA
        subst hA
        have hfail := fail_ok 11
        rcases c2 with rfl | rfl
        all_goals
          refine AMP.enter Tryd.func53 rfl (Nat.le_of_ble_eq_true rfl) (fun pn => ?_)
          simp only [Tryd.f53]
          have nx : True := trivial
          refine' st5c3734
          all_goals first | exact ⟨trivial, trivial⟩ | exact ⟨rfl, trivial⟩ | exact ⟨rfl, rfl⟩ | exact ⟨trivial, rfl⟩ | (exfalso; omega) | trace_state
      · rw [if_neg c2] at hA
        subst hA
        have hfail := fail_ok 10
        have d1 : (n == 127) = false := by rw [beq_eq_false_iff_ne]; omega
        have d2 : (n == 126) = false := by rw [beq_eq_false_iff_ne]; omega
        have d3 : (n == 123) = false := by rw [beq_eq_false_iff_ne]; omega
        have d4 : (n == 125) = false := by rw [beq_eq_false_iff_ne]; omega
        have d5 : (n == 124) = false := by rw [beq_eq_false_iff_ne]; omega
        refine AMP.enter Tryd.func53 rfl (Nat.le_of_ble_eq_true rfl) (fun pn => ?_)
        simp only [Tryd.f53]
        have nx : type_of% @d1 /\ type_of% @d2 /\ type_of% @d3 /\ type_of% @d4 /\ type_of% @d5 /\ True := ⟨@d1, ⟨@d2, ⟨@d3, ⟨@d4, ⟨@d5, trivial⟩⟩⟩⟩⟩
        refine' st5c3734
        all_goals first | exact ⟨trivial, trivial⟩ | exact ⟨rfl, trivial⟩ | exact ⟨rfl, rfl⟩ | exact ⟨trivial, rfl⟩ | (exfalso; omega) | trace_state
end Go.Proofs.YtmomeejfopfchaaDoor
namespace Go.Proofs.YtmomeejfopfchaaDoor
set_option maxRecDepth 20000
open Go Go.Abs Nat
attribute [local irreducible] AW AWL AC FW CW CWr IntKind.wrap
theorem sub_take {b : List Int} {s k en : Nat} (h : s + k <= en) : List.take k (List.drop s (List.take en b)) = List.take k (List.drop s b) := by
  rw [List.drop_take, List.take_take, Nat.min_eq_left (by omega)]
theorem view_sub {b : List Int} {s k en : Nat} (h : s + k <= en) (he : en <= b.length) : V.view (((s : Int) + (k : Int)).toNat - s) 1 (nums .u8 (List.take (((s : Int) + (k : Int)).toNat - s) (List.take (((s : Int) + (k : Int)).toNat - s) (List.drop s b)))) = V.view (List.take ((s : Int) + (k : Int) - (s : Int)).toNat (List.drop s (List.take en b))).length 1 (nums .u8 (List.take ((s : Int) + (k : Int) - (s : Int)).toNat (List.drop s (List.take en b)))) := by
  rw [show ((s : Int) + (k : Int)).toNat - s = k by omega, show ((s : Int) + (k : Int) - (s : Int)).toNat = k by omega, sub_take h, List.take_take, Nat.min_self]
  congr 1
  rw [List.length_take, List.length_drop]; omega
theorem MMT5.NM : type_of% @NSX /\ type_of% @St.keepS.eq_1 /\ type_of% @TY /\ type_of% @SLS /\ type_of% @nums_length :=
  ⟨NSX, St.keepS.eq_1, @TY, @SLS, @nums_length⟩
open MMT5
theorem K1MT5.kp {P : Program} {c : Code} {Q : Exit -> St -> Prop} {st : St} (h : AW P c Q (st.keepS [0, 2, 3])) : AW P c Q st := AW.keepS _ h
theorem K1MT5.cl {p : Prop} (h : p := by
  first
    | refine AWL.cMP (f := 18) [(0, 0)] cb18 rfl rfl rfl rfl rfl rfl rfl (hnum) ?_ ?_
    | refine AWL.cMP (f := 17) [(0, 0)] cb17 rfl rfl rfl rfl rfl rfl rfl (hpart) ?_ ?_
  all_goals (apply_rules (newGoals := .nonDependentOnly) only [dep])
  all_goals constructor) : p := h
theorem K1MT5.rt {p : Prop} (h : p := by
  first | (refine AW.frzRet 2 rfl rfl ?_; (try (conv => arg -1; simp (disch := omega) only [NM, Nat.reduceBEq, reduceAdd, reduceMul, Int.reduceToNat, reduceSub, List.set_cons_zero, List.set_cons_succ, nx])))
  all_goals (apply_rules (newGoals := .nonDependentOnly) only [dep])
  all_goals constructor) : p := h
theorem K1MT5.sd {p : Prop} (h : p := by first | exact sd1eb496) : p := h
open K1MT5 in
set_option maxHeartbeats 1600000 in
theorem tbytes_ok {b : List Int} {p : Int} {en : Nat} (h : okT b p en) : TF 29 [] b en p (bytesT (b.take en) p) (fun l => .view l.length 1 (nums .u8 l)) := by
  have hnum := tnum_ok h
  have hnm := fun n t => nmT_mv h (n := n) (t := t)
  have hlen := h.len
  obtain ⟨A, hA⟩ : ∃ A, bytesT (b.take en) p = A := ⟨_, rfl⟩
  rw [hA]
  unfold bytesT partT at hA
  unfold TF OKR ERR tpM at hnum
  unfold TF OKR ERR tpM
  rcases hz : nmT (b.take en) p with ⟨e, t⟩ | ⟨n, t⟩
  all_goals
    rw [hz] at hA hnum hnm
    simp only [bnd, partN] at hA hnum
  · subst hA
    have hpart : True := trivial
    refine AMP.enter Tryd.func29 rfl (Nat.le_of_ble_eq_true rfl) (fun pn => ?_)
    simp only [Tryd.f29]
    have nx : True := trivial
    refine' ste99da8
    all_goals first | exact ⟨trivial, trivial⟩ | exact ⟨rfl, trivial⟩ | exact ⟨rfl, rfl⟩ | exact ⟨trivial, rfl⟩ | (exfalso; omega) | trace_state
  · obtain ⟨h2, h3, h4⟩ := hnm _ _ rfl
    have hpart := tpart_ok h2 n h4
    rw [hlen] at hA
    by_cases c : n <= en - t
    · rw [if_neg (by omega)] at hA
      unfold tpM at hpart
      simp only [c, true_and, not_true_eq_false, false_and] at hpart
      obtain ⟨s, rfl⟩ : ∃ s : Nat, t = s := ⟨t.toNat, by have := h2.p0; omega⟩
      obtain ⟨k, rfl⟩ : ∃ k : Nat, n = k := ⟨n.toNat, by omega⟩
      have he := h2.he
      subst hA
      refine AMP.enter Tryd.func29 rfl (Nat.le_of_ble_eq_true rfl) (fun pn => ?_)
      simp only [Tryd.f29]
      have nx : True := trivial
      refine' ste99da8
      all_goals exact ⟨view_sub (by omega) (by omega), trivial⟩
    · rw [if_pos (by omega)] at hA
      unfold tpM at hpart
      simp only [c, not_false_eq_true, true_and, false_and] at hpart
      subst hA
      refine AMP.enter Tryd.func29 rfl (Nat.le_of_ble_eq_true rfl) (fun pn => ?_)
      simp only [Tryd.f29]
      have nx : True := trivial
      refine' ste99da8
      all_goals first | exact ⟨trivial, trivial⟩ | exact ⟨rfl, trivial⟩ | exact ⟨rfl, rfl⟩ | exact ⟨trivial, rfl⟩ | (exfalso; omega) | trace_state
end Go.Proofs.YtmomeejfopfchaaDoor
namespace Go.Proofs.YtmomeejfopfchaaDoor
set_option maxRecDepth 20000
open Go Go.Abs
theorem uStep_le {l : List Int} {k : Nat} (h : uStep l = some k) : 1 <= k /\ k <= l.length := by
  unfold uStep at h
  split at h
  · cases h
  · repeat' split at h
    all_goals first
      | (cases h; done)
      | (simp only [Option.some.injEq] at h; subst h; simp only [List.length_cons]; omega)
theorem validN_eq : ∀ (n m : Nat) (l : List Int), l.length <= n -> l.length <= m -> validN n l = validN m l
  | 0, 0, _, _, _ => rfl
  | 0, m + 1, l, h, _ => by
    have : l = [] := List.eq_nil_of_length_eq_zero (by omega)
    subst this; rw [validN, validN, if_pos rfl]
  | n + 1, 0, l, _, h => by
    have : l = [] := List.eq_nil_of_length_eq_zero (by omega)
    subst this; rw [validN, validN, if_pos rfl]
  | n + 1, m + 1, l, h1, h2 => by
    rw [validN, validN]
    split
    · rfl
    · cases hs : uStep l with
      | none => rfl
      | some k =>
        have := uStep_le hs
        exact validN_eq n m _ (by rw [List.length_drop]; omega) (by rw [List.length_drop]; omega)
theorem validS_step {l : List Int} (hne : l ≠ []) : validS l = match uStep l with
    | none => false
    | some k => validS (l.drop k) := by
  unfold validS
  cases hl : l.length with
  | zero => exact absurd (List.eq_nil_of_length_eq_zero hl) hne
  | succ n =>
    rw [validN, if_neg hne]
    cases hs : uStep l with
    | none => rfl
    | some k =>
      have := uStep_le hs
      exact validN_eq _ _ _ (by rw [List.length_drop]; omega) (Nat.le_refl _)
theorem validS_nil : validS [] = true := rfl
theorem validS_asc {c : Int} {l : List Int} (h : c < 128) : validS (c :: l) = validS l := by
  rw [validS_step (List.cons_ne_nil _ _)]
  have : uStep (c :: l) = some 1 := if_pos h
  rw [this]; rfl
theorem validS_ascN : ∀ (n : Nat) (l : List Int), n <= l.length -> (∀ x ∈ l.take n, x < 128) -> validS l = validS (l.drop n)
  | 0, l, _, _ => by rw [List.drop_zero]
  | n + 1, [], h, _ => by simp at h
  | n + 1, c :: l, h, ha => by
    rw [validS_asc (ha c (by simp)), List.drop_succ_cons]
    exact validS_ascN n l (by simpa using h) fun x hx => ha x (by simp [hx])
theorem first_cases : ∀ c : Fin 256, 128 <= c.val ->
    ((c.val < 194 \/ c.val > 244) /\ firstI.getD c.val 0 = 241) \/ ((194 <= c.val /\ c.val <= 223) /\ firstI.getD c.val 0 = 2) \/ (c.val = 224 /\ firstI.getD c.val 0 = 19) \/ (((225 <= c.val /\ c.val <= 236) \/ (238 <= c.val /\ c.val <= 239)) /\ firstI.getD c.val 0 = 3) \/
    (c.val = 237 /\ firstI.getD c.val 0 = 35) \/ (c.val = 240 /\ firstI.getD c.val 0 = 52) \/ ((241 <= c.val /\ c.val <= 243) /\ firstI.getD c.val 0 = 4) \/ (c.val = 244 /\ firstI.getD c.val 0 = 68) := by decide +kernel
theorem and_split (a b : Nat) : (a &&& b = 0) ↔ (a % 256 &&& b % 256 = 0 /\ a / 256 &&& b / 256 = 0) := by
  have h1 : (a &&& b) % 256 = a % 256 &&& b % 256 := by
    have := @Nat.and_mod_two_pow a b 8
    simpa using this
  have h2 : (a &&& b) / 256 = a / 256 &&& b / 256 := by
    have := @Nat.and_div_two_pow a b 8
    simpa using this
  rw [<- h1, <- h2]
  omega
theorem and128 : ∀ x : Fin 256, (x.val &&& 128 = 0) ↔ x.val < 128 := by decide +kernel
def maskN : Nat -> Nat
  | 0 => 0
  | n + 1 => 128 + 256 * maskN n
theorem le_mask : ∀ (l : List Int), bytes l -> ((le l).toNat &&& maskN l.length = 0 ↔ ∀ x ∈ l, x < 128)
  | [], _ => by simp [le]
  | x :: l, h => by
    have hx := h x (List.mem_cons_self ..)
    have hl : bytes l := fun y hy => h y (List.mem_cons_of_mem _ hy)
    have h0 := le_bound hl
    unfold byte at hx
    rw [and_split, le, List.length_cons, maskN]
    have e1 : (x + 256 * le l).toNat % 256 = x.toNat := by omega
    have e2 : (x + 256 * le l).toNat / 256 = (le l).toNat := by omega
    have e3 : (128 + 256 * maskN l.length) % 256 = 128 := by omega
    have e4 : (128 + 256 * maskN l.length) / 256 = maskN l.length := by omega
    rw [e1, e2, e3, e4, le_mask l hl]
    have := and128 ⟨x.toNat, by omega⟩
    simp only at this
    rw [this]
    simp only [List.mem_cons, forall_eq_or_imp]
    constructor
    · rintro ⟨h1, h2⟩; exact ⟨by omega, h2⟩
    · rintro ⟨h1, h2⟩; exact ⟨by omega, h2⟩
theorem or_mask (a b m : Nat) : ((a ||| b) &&& m = 0) ↔ (a &&& m = 0 /\ b &&& m = 0) := by
  rw [Nat.and_or_distrib_right]
  exact Nat.or_eq_zero_iff
theorem bits_or {a b : Int} (ha : 0 <= a /\ a < 18446744073709551616) (hb : 0 <= b /\ b < 18446744073709551616) : bitsOp .or .u64 a b = ((a.toNat ||| b.toNat : Nat) : Int) /\ (a.toNat ||| b.toNat) < 18446744073709551616 := by
  have h2 : (a.toNat ||| b.toNat) < 2 ^ 64 := Nat.or_lt_two_pow (by omega) (by omega)
  refine ⟨?_, h2⟩
  unfold bitsOp
  simp only [BitVec.toNat_or]
  rw [ofInt_toNat (w := IntKind.u64.bits) ha.1 (by show a < 2 ^ 64; omega), ofInt_toNat (w := IntKind.u64.bits) hb.1 (by show b < 2 ^ 64; omega)]
  exact wrap_in rfl (by omega) (by show _ < (2 : Int) ^ 64; exact_mod_cast h2)
theorem bits_and {a b : Int} (ha : 0 <= a /\ a < 18446744073709551616) (hb : 0 <= b /\ b < 18446744073709551616) : bitsOp .and .u64 a b = ((a.toNat &&& b.toNat : Nat) : Int) := by
  have h2 : (a.toNat &&& b.toNat) < 2 ^ 64 := Nat.and_lt_two_pow _ (by omega)
  unfold bitsOp
  simp only [BitVec.toNat_and]
  rw [ofInt_toNat (w := IntKind.u64.bits) ha.1 (by show a < 2 ^ 64; omega), ofInt_toNat (w := IntKind.u64.bits) hb.1 (by show b < 2 ^ 64; omega)]
  exact wrap_in rfl (by omega) (by show _ < (2 : Int) ^ 64; exact_mod_cast h2)
theorem bits_mask {a : Int} (ha : 0 <= a /\ a < 18446744073709551616) : bitsOp .and .u64 a 9259542123273814144 = ((a.toNat &&& maskN 8 : Nat) : Int) := by
  rw [bits_and ha ⟨by decide, by decide⟩]; rfl
theorem mask_t {a : Int} (ha : 0 <= a /\ a < 18446744073709551616) (h : a.toNat &&& maskN 8 = 0) : (bitsOp .and .u64 a 9259542123273814144 == 0) = true := by
  rw [bits_mask ha, h]; rfl
theorem mask_f {a : Int} (ha : 0 <= a /\ a < 18446744073709551616) (h : ¬ a.toNat &&& maskN 8 = 0) : (bitsOp .and .u64 a 9259542123273814144 == 0) = false := by
  rw [bits_mask ha, beq_eq_false_iff_ne]
  exact fun h2 => h (Int.natCast_eq_zero.1 h2)
theorem word_u {l : List Int} (hb : bytes l) (h : 8 <= l.length) : 0 <= le (l.take 8) /\ le (l.take 8) < 18446744073709551616 := by
  have hw := le_bound (bytes_take hb 8)
  rw [List.length_take, Nat.min_eq_left (by omega)] at hw
  exact ⟨hw.1, by have := hw.2; omega⟩
theorem word_m {l : List Int} (hb : bytes l) (h : 8 <= l.length) (hz : (le (l.take 8)).toNat &&& maskN 8 = 0) : validS l = validS (l.drop 8) := by
  have hm := le_mask (l.take 8) (bytes_take hb 8)
  rw [List.length_take, Nat.min_eq_left (by omega)] at hm
  exact validS_ascN 8 l h (hm.1 hz)
theorem orw_u {a b : Int} (ha : 0 <= a /\ a < 18446744073709551616) (hb : 0 <= b /\ b < 18446744073709551616) : 0 <= bitsOp .or .u64 a b /\ bitsOp .or .u64 a b < 18446744073709551616 := by
  have := bits_or ha hb
  rw [this.1]; omega
theorem orw_m {a b : Int} (ha : 0 <= a /\ a < 18446744073709551616) (hb : 0 <= b /\ b < 18446744073709551616) (m : Nat) : ((bitsOp .or .u64 a b).toNat &&& m = 0) ↔ (a.toNat &&& m = 0 /\ b.toNat &&& m = 0) := by
  rw [(bits_or ha hb).1, Int.toNat_natCast]; exact or_mask _ _ _
theorem tail_of {l q : List Int} {k : Nat} (h : l.drop k = q) (hb : bytes l) : bytes q /\ q.length = l.length - k /\ List.take (l.length - k) q = q := by
  have hz : q.length = l.length - k := by rw [<- h, List.length_drop]
  exact ⟨fun x hx => hb x (List.mem_of_mem_drop (h ▸ hx)), hz, by rw [<- hz]; exact List.take_length⟩
theorem gV0 : gV 0 = .vptr (nums .u8 firstI) := rfl
theorem gV1 : gV 1 = .vptr (nums .u8 acceptI) := rfl
theorem first_len : firstI.length = 256 := rfl
theorem first_vi {xs : List Int} {k : Nat} {x : Int} (h : k < xs.length) (hx : xs.getD k 0 = x) : vi ((List.drop k (List.map (V.int .u8) xs)).getD 0 .any) = x := by
  rw [List.getD_eq_getElem?_getD, List.getElem?_drop, Nat.add_zero, List.getElem?_map, List.getElem?_eq_getElem h, <- hx, List.getD_eq_getElem?_getD, List.getElem?_eq_getElem h]; rfl
theorem first_kind {c : Int} (hc : byte c) (h : ¬ c < 128) (l : List Int) : ∃ x : Int, firstI.getD c.toNat 0 = x /\
    ((x = 241 /\ uStep (c :: l) = none) \/
     (x = 2 /\ uStep (c :: l) = if 1 <= l.length /\ 128 <= l.getD 0 0 /\ l.getD 0 0 <= 191 then some 2 else none) \/
     ((x = 19 \/ x = 3 \/ x = 35) /\ uStep (c :: l) = if 2 <= l.length /\ acceptI.getD (2 * (x / 16).toNat) 0 <= l.getD 0 0 /\ l.getD 0 0 <= acceptI.getD (2 * (x / 16).toNat + 1) 0 /\ 128 <= l.getD 1 0 /\ l.getD 1 0 <= 191 then some 3 else none) \/
     ((x = 52 \/ x = 4 \/ x = 68) /\ uStep (c :: l) = if 3 <= l.length /\ acceptI.getD (2 * (x / 16).toNat) 0 <= l.getD 0 0 /\ l.getD 0 0 <= acceptI.getD (2 * (x / 16).toNat + 1) 0 /\ 128 <= l.getD 1 0 /\ l.getD 1 0 <= 191 /\ 128 <= l.getD 2 0 /\ l.getD 2 0 <= 191 then some 4 else none)) := by
  unfold byte at hc
  refine ⟨_, rfl, ?_⟩
  have hf := first_cases ⟨c.toNat, by omega⟩ (by show 128 <= c.toNat; omega)
  simp only at hf
  show (_ /\ (if c < 128 then _ else _) = _) \/ (_ /\ (if c < 128 then _ else _) = _) \/ (_ /\ (if c < 128 then _ else _) = _) \/ (_ /\ (if c < 128 then _ else _) = _)
  rw [if_neg h]
  rcases hf with ⟨h1, hx⟩ | ⟨h1, hx⟩ | ⟨h1, hx⟩ | ⟨h1, hx⟩ | ⟨h1, hx⟩ | ⟨h1, hx⟩ | ⟨h1, hx⟩ | ⟨h1, hx⟩ <;> rw [hx]
  · exact .inl ⟨rfl, by rw [if_neg (by omega), if_neg (by omega), if_neg (by omega)]⟩
  · exact .inr (.inl ⟨rfl, by rw [if_pos (by omega)]⟩)
  · obtain rfl : c = 224 := by omega
    refine .inr (.inr (.inl ⟨.inl rfl, ?_⟩)); rw [if_neg (by omega), if_pos (by omega)]; rfl
  · refine .inr (.inr (.inl ⟨.inr (.inl rfl), ?_⟩))
    rw [if_neg (by omega), if_pos (by omega)]
    simp only [if_neg (show ¬ c = 224 by omega), if_neg (show ¬ c = 237 by omega)]; rfl
  · obtain rfl : c = 237 := by omega
    refine .inr (.inr (.inl ⟨.inr (.inr rfl), ?_⟩)); rw [if_neg (by omega), if_pos (by omega)]; rfl
  · obtain rfl : c = 240 := by omega
    refine .inr (.inr (.inr ⟨.inl rfl, ?_⟩)); rw [if_neg (by omega), if_neg (by omega), if_pos (by omega)]; rfl
  · refine .inr (.inr (.inr ⟨.inr (.inl rfl), ?_⟩))
    rw [if_neg (by omega), if_neg (by omega), if_pos (by omega)]
    simp only [if_neg (show ¬ c = 240 by omega), if_neg (show ¬ c = 244 by omega)]; rfl
  · obtain rfl : c = 244 := by omega
    refine .inr (.inr (.inr ⟨.inr (.inr rfl), ?_⟩)); rw [if_neg (by omega), if_neg (by omega), if_pos (by omega)]; rfl
theorem a241 : IntKind.i64.wrap (bitsOp .and .u8 241 7) = 1 := by decide
theorem a2 : IntKind.i64.wrap (bitsOp .and .u8 2 7) = 2 := by decide
theorem a19 : IntKind.i64.wrap (bitsOp .and .u8 19 7) = 3 := by decide
theorem a3 : IntKind.i64.wrap (bitsOp .and .u8 3 7) = 3 := by decide
theorem a35 : IntKind.i64.wrap (bitsOp .and .u8 35 7) = 3 := by decide
theorem a52 : IntKind.i64.wrap (bitsOp .and .u8 52 7) = 4 := by decide
theorem a4 : IntKind.i64.wrap (bitsOp .and .u8 4 7) = 4 := by decide
theorem a68 : IntKind.i64.wrap (bitsOp .and .u8 68 7) = 4 := by decide
theorem s241 : Int.fdiv 241 (2 ^ min 4 IntKind.u8.bits) = 15 := by decide
theorem s2 : Int.fdiv 2 (2 ^ min 4 IntKind.u8.bits) = 0 := by decide
theorem s3 : Int.fdiv 3 (2 ^ min 4 IntKind.u8.bits) = 0 := by decide
theorem s4 : Int.fdiv 4 (2 ^ min 4 IntKind.u8.bits) = 0 := by decide
theorem t15 : List.take 2 (List.drop 30 (List.map (V.int .u8) acceptI)) = [.int .u8 0, .int .u8 0] := rfl
theorem t0 : List.take 2 (List.drop 0 (List.map (V.int .u8) acceptI)) = [.int .u8 128, .int .u8 191] := rfl
theorem t1 : List.take 2 (List.drop 2 (List.map (V.int .u8) acceptI)) = [.int .u8 160, .int .u8 191] := rfl
theorem t2 : List.take 2 (List.drop 4 (List.map (V.int .u8) acceptI)) = [.int .u8 128, .int .u8 159] := rfl
theorem t3 : List.take 2 (List.drop 6 (List.map (V.int .u8) acceptI)) = [.int .u8 144, .int .u8 191] := rfl
theorem t4 : List.take 2 (List.drop 8 (List.map (V.int .u8) acceptI)) = [.int .u8 128, .int .u8 143] := rfl
theorem t00 : List.take 2 (List.map (V.int .u8) acceptI) = [.int .u8 128, .int .u8 191] := rfl
end Go.Proofs.YtmomeejfopfchaaDoor
namespace Go.Proofs.YtmomeejfopfchaaDoor
set_option maxRecDepth 20000
open Go Go.Abs Nat
theorem word_w {x : Int} (h : byte x) : IntKind.u64.wrap x = x := by unfold byte at h; exact wrap_in rfl h.1 (by show x < (2 : Int) ^ 64; omega)
theorem word_o {l : List Int} (hb : bytes l) (i : Nat) (hi : i < 8) (hl : i < l.length) : bitsOp .or .u64 (le (l.take i)) (IntKind.u64.wrap (IntKind.u64.wrap (l.getD i 0) * 2 ^ min (8 * i) IntKind.u64.bits)) = le (l.take (i + 1)) := by
  have hc := bytes_at hb hl
  have hx := le_bound (bytes_take hb i)
  rw [List.length_take, Nat.min_eq_left (by omega)] at hx
  have e1 := shl8 hc hi
  rw [show (8 * (i : Int)).toNat = 8 * i by omega] at e1
  rw [word_w hc, e1, or8 hx hc hi, le_take hl]
attribute [local irreducible] AW AWL AC FW CW CWr IntKind.wrap
theorem MMT6.NM : type_of% @NSX /\ type_of% @St.keepS.eq_1 /\ type_of% @TY /\ type_of% @SLS /\ type_of% @nums_length :=
  ⟨NSX, St.keepS.eq_1, @TY, @SLS, @nums_length⟩
open MMT6
theorem K1MT6.kp {P : Program} {c : Code} {Q : Exit -> St -> Prop} {st : St} (h : AW P c Q (st.keepS [0, 2])) : AW P c Q st := AW.keepS _ h
theorem K1MT6.sd {p : Prop} (h : p := by first | exact sd8f4301) : p := h
open K1MT6 in
set_option maxHeartbeats 1600000 in
theorem word_ok (l : List Int) (hb : bytes l) (h8 : 8 <= l.length) (hl : l.length <= 1000000000) : AC Tryd.prog 51 [.view l.length 1 (nums .u8 l)] (fun r m => r = .int .u64 (le (l.take 8)) /\ m = []) := by
  have x0 := bytes_at hb (show 0 < l.length by omega)
  have x1 := bytes_at hb (show 1 < l.length by omega)
  have x2 := bytes_at hb (show 2 < l.length by omega)
  have x3 := bytes_at hb (show 3 < l.length by omega)
  have x4 := bytes_at hb (show 4 < l.length by omega)
  have x5 := bytes_at hb (show 5 < l.length by omega)
  have x6 := bytes_at hb (show 6 < l.length by omega)
  have x7 := bytes_at hb (show 7 < l.length by omega)
  have w0 : IntKind.u64.wrap (l.getD 0 0) = le (l.take 1) := by rw [word_w x0, le_take (show 0 < l.length by omega)]; simp [le]
  have w1 : bitsOp .or .u64 (le (l.take 1)) (IntKind.u64.wrap (IntKind.u64.wrap (l.getD 1 0) * 2 ^ min 8 IntKind.u64.bits)) = le (l.take 2) := word_o hb 1 (by omega) (by omega)
  have w2 : bitsOp .or .u64 (le (l.take 2)) (IntKind.u64.wrap (IntKind.u64.wrap (l.getD 2 0) * 2 ^ min 16 IntKind.u64.bits)) = le (l.take 3) := word_o hb 2 (by omega) (by omega)
  have w3 : bitsOp .or .u64 (le (l.take 3)) (IntKind.u64.wrap (IntKind.u64.wrap (l.getD 3 0) * 2 ^ min 24 IntKind.u64.bits)) = le (l.take 4) := word_o hb 3 (by omega) (by omega)
  have w4 : bitsOp .or .u64 (le (l.take 4)) (IntKind.u64.wrap (IntKind.u64.wrap (l.getD 4 0) * 2 ^ min 32 IntKind.u64.bits)) = le (l.take 5) := word_o hb 4 (by omega) (by omega)
  have w5 : bitsOp .or .u64 (le (l.take 5)) (IntKind.u64.wrap (IntKind.u64.wrap (l.getD 5 0) * 2 ^ min 40 IntKind.u64.bits)) = le (l.take 6) := word_o hb 5 (by omega) (by omega)
  have w6 : bitsOp .or .u64 (le (l.take 6)) (IntKind.u64.wrap (IntKind.u64.wrap (l.getD 6 0) * 2 ^ min 48 IntKind.u64.bits)) = le (l.take 7) := word_o hb 6 (by omega) (by omega)
  have w7 : bitsOp .or .u64 (le (l.take 7)) (IntKind.u64.wrap (IntKind.u64.wrap (l.getD 7 0) * 2 ^ min 56 IntKind.u64.bits)) = le (l.take 8) := word_o hb 7 (by omega) (by omega)
  refine AC.enter Tryd.func51 rfl (Nat.le_of_ble_eq_true rfl) ?_
  simp only [Tryd.f51]
  have nx : type_of% @w0 /\ type_of% @w1 /\ type_of% @w2 /\ type_of% @w3 /\ type_of% @w4 /\ type_of% @w5 /\ type_of% @w6 /\ type_of% @w7 /\ True := ⟨@w0, ⟨@w1, ⟨@w2, ⟨@w3, ⟨@w4, ⟨@w5, ⟨@w6, ⟨@w7, trivial⟩⟩⟩⟩⟩⟩⟩⟩
  refine' sta12422
  all_goals first | exact ⟨trivial, trivial⟩ | exact ⟨rfl, trivial⟩ | exact ⟨rfl, rfl⟩ | exact ⟨trivial, rfl⟩ | (exfalso; omega) | trace_state
end Go.Proofs.YtmomeejfopfchaaDoor
