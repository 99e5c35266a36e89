/- A library of mine, for walks over abstract states: part 6. It imports the kit alone. -/
import Derived.Test.YtgmhfbdmigfgbaaV5
/- A library of mine, its fiftieth text: regions that draw their order, in which parts of an answer are taken out at any time. -/
namespace Go.Abs
set_option linter.unusedSimpArgs false
set_option linter.unusedVariables false
open Go Go.RowKit

/-- a part of an answer that is taken out -/
def isEager (o : Oper) : Bool :=
  match o.op with
  | .extract .. => o.guard.isNone && o.dst.isSome
  | _ => false
def EG (l : List Oper) (i : Nat) : Prop := ∃ o, l[i]? = some o ∧ isEager o = true
def eagerAt (ops : List Oper) (k j : Nat) : Bool := decide (j < k) && (match ops[j]? with | some o => isEager o | none => false)
def eagerFree (ops : List Oper) (i : Nat) : Bool :=
  match ops[i]? with
  | some o => !isEager o || (List.range ops.length).all fun j => i == j || ((masks ops).getD i 0).testBit j || (match ops[j]? with
    | some p => o.apart ops.toArray p || p.after.toList.any fun e => Region.binds .any e && e.on == i
    | none => true)
  | none => true
def chkEager (ops : List Oper) (k : Nat) : Bool :=
  decide (k ≤ ops.length) &&
  ((List.range ops.length).all fun i => match ops[i]? with
    | some o => o.after.toList.all fun e => !Region.binds .any e || decide (e.on < i)
    | none => true) &&
  ((List.range k).all fun i => (List.range k).all fun j => match ops[i]?, ops[j]? with
    | some o, some p => isFloat o || isFloat p || (match p.dst with
      | some d => (i == j || o.dst != some d) && (!(o.looksAt ops.toArray).contains d || ((masks ops).getD i 0).testBit j)
      | none => true)
    | _, _ => true) &&
  ((List.range ops.length).all fun i => decide (i < k) || (List.range i).all fun j => ((masks ops).getD i 0).testBit j || (floats ops k).contains j || eagerAt ops k j) &&
  Region.noSelect ops.toArray && chkF ops (Array.replicate ops.length false) (floats ops k) && ((List.range k).all fun i => eagerFree ops i)
structure ChkE (l : List Oper) (k : Nat) : Prop where
  le : k ≤ l.length
  topo : ∀ i o j, l[i]? = some o → dirs o j → j < i
  dist : ∀ i j o p d, i < k → j < k → ¬FL l i → ¬FL l j → l[i]? = some o → l[j]? = some p → o.dst = some d → p.dst = some d → i = j
  reads : ∀ i j o p d, i < k → j < k → ¬FL l i → ¬FL l j → l[i]? = some o → l[j]? = some p → p.dst = some d → d ∈ o.looksAt l.toArray → ((masks l).getD i 0).testBit j = true
  tail : ∀ i j, k ≤ i → i < l.length → j < i → ((masks l).getD i 0).testBit j = true ∨ j ∈ floats l k ∨ (j < k ∧ EG l j)
  nosel : Region.noSelect l.toArray = true
  fl : chkF l (Array.replicate l.length false) (floats l k) = true
  free : ∀ i, i < k → eagerFree l i = true

theorem chkE_spec {l : List Oper} {k : Nat} (h : chkEager l k = true) : ChkE l k := by
  unfold chkEager at h
  simp only [Bool.and_eq_true, decide_eq_true_eq, List.all_eq_true, List.mem_range] at h
  obtain ⟨⟨⟨⟨⟨⟨h1, h2⟩, h3⟩, h4⟩, h5⟩, h6⟩, h7⟩ := h
  have nf : ∀ {i o}, l[i]? = some o → ¬FL l i → isFloat o = false := fun {i o} ho hn => by
    cases hf : isFloat o with
    | false => rfl
    | true => exact absurd ⟨o, ho, hf⟩ hn
  refine ⟨h1, ?_, ?_, ?_, ?_, h5, h6, h7⟩
  · intro i o j hi ⟨e, he, hb, hj⟩
    have hlt := (List.getElem?_eq_some_iff.1 hi).1
    have := h2 i hlt
    rw [hi] at this
    simp only [List.all_eq_true] at this
    have := this e (by simpa using he)
    rw [hb] at this
    simp only [Bool.not_true, Bool.false_or, decide_eq_true_eq] at this
    omega
  · intro i j o p d hi hj hni hnj ho hp hod hpd
    have := h3 i hi j hj
    rw [ho, hp] at this
    simp only [nf ho hni, nf hp hnj, Bool.false_or, hpd, Bool.and_eq_true, Bool.or_eq_true, beq_iff_eq, bne_iff_ne, ne_eq, hod, not_true_eq_false, or_false] at this
    exact this.1
  · intro i j o p d hi hj hni hnj ho hp hpd hd
    have := h3 i hi j hj
    rw [ho, hp] at this
    simp only [nf ho hni, nf hp hnj, Bool.false_or, hpd, Bool.and_eq_true, Bool.or_eq_true] at this
    rcases this.2 with h | h
    · simp [hd] at h
    · exact h
  · intro i j hk hi hj
    have := h4 i hi
    simp only [Bool.or_eq_true, decide_eq_true_eq, List.all_eq_true, List.mem_range] at this
    rcases this with h | h
    · omega
    · rcases h j hj with (h | h) | h
      · exact .inl h
      · exact .inr (.inl (by simpa using h))
      · refine .inr (.inr ?_)
        unfold eagerAt at h
        simp only [Bool.and_eq_true, decide_eq_true_eq] at h
        refine ⟨h.1, ?_⟩
        have h2 := h.2
        split at h2
        · rename_i o ho; exact ⟨o, ho, h2⟩
        · cases h2

section
variable {P : Program} {C : Ctx} {S : Nat → Prop} {β : Nat → Option BI} {st st' : St} {a : Act} {w w' : World} {l : List Oper} {rest : List Oper} {o : Oper} {Q : Exit → St → Prop}

theorem extract_yields {x : Operand} {n : Nat} (ho : o.op = .extract x n) {K : Act → World → Prop} {Q' : Exit → Act → World → Prop} (h : o.wp P a w K Q') : ∃ v, (∀ w, (execOp a.eval o).run P w = .ok (.value v) w) ∧ K (a.put o.dst v) w := by
  have key : ∀ w, (execOp a.eval o).run P w = ((Instr.extract (a.eval x) n).run P w).andThen fun v w => .ok (.value v) w := by
    intro w; unfold execOp; simp [ho]
  unfold Oper.wp at h
  cases hv : a.eval x with
  | tuple vs =>
    cases hn : vs[n]? with
    | some v =>
      have e : ∀ w, (execOp a.eval o).run P w = .ok (.value v) w := fun w => by
        rw [key, hv]; simp [Instr.extract, hn]
      rw [e] at h
      exact ⟨v, e, h⟩
    | none =>
      rw [key, hv] at h
      simp [Instr.extract, hn] at h
      cases h
  | _ =>
    rw [key, hv] at h
    simp [Instr.extract] at h
    cases h
theorem drawE {Q : Exit → St → Prop} {k : Nat} (hc : ChkE l k) (hpan : PanOk Q) {F : List Nat} {rs : List (Option Rc)} (hrs : rs.length = k) (hfit : Fit l F st rs)
    (hnone : ∀ i, i < k → (FL l i ↔ rs[i]? = some none))
    (hres : ∀ (i : Nat) (o : Oper) (r : Rc), l[i]? = some o → rs[i]? = some (some r) → o.dst = some r.d ∧ r.d < st.n ∧ Res2 P l.toArray ((st.adds (rs.take i)).wm st.mem) o r)
    (htail : AWL P l.toArray (l.drop k) Q (st.adds rs)) : ∀ (fuel : Nat) (L : Array Bool) (ls : List Nat) (st' : St) (a : Act) (w : World), Lists l L ls → (∀ j, LS L j → j < k) → (∀ j, j < k → FL l j → LS L j) → fuel + ls.length = l.length →
      st'.n = st.n → st'.lent = st.lent → AgR rs (LS L) st st' → SRx C st' a w → wpAny P .any l.toArray (AQ C Q) fuel L a w := by
  intro fuel
  have hkl := hc.le
  have some_of : ∀ i : Nat, i < k → ¬FL l i → ∃ r : Rc, rs[i]? = some (some r) := fun i hi hn => by
    have h1 : rs[i]? = some rs[i] := List.getElem?_eq_getElem (by omega)
    cases hr : rs[i] with
    | none => exact absurd ((hnone i hi).2 (by rw [h1, hr])) hn
    | some r => exact ⟨r, by rw [h1, hr]⟩
  have lt_of : ∀ {i : Nat} {r : Rc}, rs[i]? = some (some r) → i < k := fun {i r} h => by
    have := (List.getElem?_eq_some_iff.1 h).1; omega
  have nf_of : ∀ {i : Nat} {r : Rc}, rs[i]? = some (some r) → ¬FL l i := fun {i r} h hf => by
    have := (hnone i (lt_of h)).1 hf
    rw [h] at this; cases this
  have same_d : ∀ {i j : Nat} {r p : Rc}, rs[i]? = some (some r) → rs[j]? = some (some p) → r.d = p.d → i = j := fun {i j r p} hi hj e => by
    have h1 := lt_of hi
    have h2 := lt_of hj
    have e1 := (hres i l[i] r (List.getElem?_eq_getElem (by omega)) hi).1
    have e2 := (hres j l[j] p (List.getElem?_eq_getElem (by omega)) hj).1
    exact hc.dist i j l[i] l[j] r.d h1 h2 (nf_of hi) (nf_of hj) (List.getElem?_eq_getElem (by omega)) (List.getElem?_eq_getElem (by omega)) e1 (by rw [e2, e])
  -- two states that agree alike
  have agree : ∀ {A B : Nat → Prop} {s1 s2 : St}, AgR rs A st s1 → AgR rs B st s2 → (∀ (j : Nat) (r : Rc), rs[j]? = some (some r) → (A j ↔ B j)) → (∀ t, s1.get t = s2.get t) ∧ ∀ k, s1.obj k = s2.obj k := by
    intro A B s1 s2 h1 h2 hAB
    have h2 := h2.congr hAB
    refine ⟨fun t => ?_, fun k => ?_⟩
    · rcases h1.slot t with ⟨i, r, hi, hr, hA, hg⟩ | ⟨hno, hg⟩
      · rcases h2.slot t with ⟨j, p, hj, hp, hA', hg'⟩ | ⟨hno', hg'⟩
        · have := same_d hi hj (hr.trans hp.symm); subst this
          rw [hi] at hj; cases hj
          rw [hg, hg']
        · exact absurd hA (hno' i r hi hr)
      · rcases h2.slot t with ⟨j, p, hj, hp, hA', hg'⟩ | ⟨hno', hg'⟩
        · exact absurd hA' (hno j p hj hp)
        · rw [hg, hg']
    · rcases h1.obj k with ⟨i, r, o, hi, hr, hA, hg⟩ | ⟨hno, hg⟩
      · rcases h2.obj k with ⟨j, p, o', hj, hp, hA', hg'⟩ | ⟨hno', hg'⟩
        · have := hfit.disj i j r p k hi hj (hfit.keys i r k hi (by rw [hr]; simp)) (hfit.keys j p k hj (by rw [hp]; simp)); subst this
          rw [hi] at hj; cases hj
          rw [hr] at hp; cases hp
          rw [hg, hg']
        · exact absurd hA (hno' i r hi (by rw [hr]; simp))
      · rcases h2.obj k with ⟨j, p, o', hj, hp, hA', hg'⟩ | ⟨hno', hg'⟩
        · exact absurd hA' (hno j p hj (by rw [hp]; simp))
        · rw [hg, hg']
  -- behind the calm part there is one order only
  have tailC : ∀ (fuel m : Nat) (L : Array Bool) (ls : List Nat) (a : Act) (w : World) {Q : Exit → Act → World → Prop}, Lists l L ls → k ≤ m → m ≤ l.length → (∀ j, LS L j ↔ j < m) → l.length ≤ fuel + m →
      wpList P l.toArray Q (l.drop m) a w → wpAny P .any l.toArray Q fuel L a w := by
    intro fuel
    have next : ∀ (m : Nat) (L : Array Bool) (ls : List Nat), Lists l L ls → k ≤ m → (∀ j, LS L j ↔ j < m) → ∀ i, i ∈ Region.ready .any l.toArray L ↔ i = m ∧ m < l.length := by
      intro m L ls hl hk hL i
      rw [ready_iff hl]
      constructor
      · rintro ⟨h1, o, ho, h2⟩
        have hlt : i < l.length := (List.getElem?_eq_some_iff.1 ho).1
        rw [hL] at h1
        have : i = m := by
          by_cases hne : i = m
          · exact hne
          · have hmi : m < i := by omega
            rcases hc.tail i m (by omega) hlt hmi with ht | ht | ht
            · have := masks_spec (L := LS L) hl.closed i o m ho h2 ht
              rw [hL] at this
              omega
            · have := (mem_floats.1 ht).1
              omega
            · have := ht.1
              omega
        exact ⟨this, by omega⟩
      · rintro ⟨rfl, hlt⟩
        refine ⟨by rw [hL]; omega, l[i], List.getElem?_eq_getElem hlt, fun j hd => ?_⟩
        rw [hL]
        exact hc.topo i _ j (List.getElem?_eq_getElem hlt) hd
    induction fuel with
    | zero =>
      intro m L ls a w Q hl hk hm hL hf hw
      have hml : m = l.length := by omega
      rw [hml, List.drop_length] at hw
      refine ⟨?_, hw⟩
      cases hr : Region.ready .any l.toArray L with
      | nil => rfl
      | cons x xs => have := (next m L ls hl hk hL x).1 (by rw [hr]; simp); omega
    | succ fuel ih =>
      intro m L ls a w Q hl hk hm hL hf hw
      refine ⟨fun hr => ?_, fun i hi => ?_⟩
      · have : ¬ m < l.length := fun hlt => by
          have := (next m L ls hl hk hL m).2 ⟨rfl, hlt⟩
          rw [hr] at this; cases this
        have hml : m = l.length := by omega
        rw [hml, List.drop_length] at hw
        exact hw
      · obtain ⟨rfl, hlt⟩ := (next m L ls hl hk hL i).1 hi
        have hst := hl.step hi
        have hs : i < L.size := by rw [hl.size]; exact hlt
        have hK : ∀ a w, wpList P l.toArray Q (l.drop (i + 1)) a w → wpAny P .any l.toArray Q fuel (L.setIfInBounds i true) a w := fun a w hw =>
          ih (i + 1) _ _ a w hst (by omega) hlt (fun j => by rw [LS_set hs, hL]; omega) (by omega) hw
        rw [List.drop_eq_getElem_cons hlt] at hw
        refine wpOp_mono hK ?_
        unfold wpOp
        have e : l.toArray[i]? = some l[i] := by simp [hlt]
        rw [e]
        exact hw
  have full : ∀ (fuel : Nat) (L : Array Bool) (ls : List Nat) (st' : St) (a : Act) (w : World), Lists l L ls → (∀ j, LS L j ↔ j < k) → l.length ≤ fuel + k →
      st'.n = st.n → st'.lent = st.lent → AgR rs (LS L) st st' → SRx C st' a w → wpAny P .any l.toArray (AQ C Q) fuel L a w := by
    intro fuel L ls st' a w hl hL hf hn hlt hag hs
    refine tailC fuel k L ls a w hl (Nat.le_refl _) hkl hL hf ?_
    have hag2 := AgR.text rs st k (by omega)
    rw [List.take_of_length_le (by omega)] at hag2
    obtain ⟨g1, g2⟩ := agree hag2 hag (fun j r _ => (hL j).symm)
    exact htail C a w (hs.ext2 (by rw [hn]; exact (adds_same rs st).1) g2 (by rw [hlt]; exact (adds_same rs st).2) g1)
  have left : ∀ (L : Array Bool) (ls : List Nat), Lists l L ls → (∀ j, LS L j → j < k) → (∀ j, LS L j ↔ j < k) ∨ ∃ i, i < k ∧ i ∈ Region.ready .any l.toArray L := by
    intro L ls hl hL
    by_cases h : ∃ i, i < k ∧ ¬ LS L i
    · obtain ⟨i, ⟨hik, hni⟩, hmin⟩ := least (fun i => i < k ∧ ¬ LS L i) h
      refine .inr ⟨i, hik, (ready_iff hl).2 ⟨hni, l[i], List.getElem?_eq_getElem (by omega), fun j hd => ?_⟩⟩
      have hji := hc.topo i _ j (List.getElem?_eq_getElem (by omega)) hd
      by_cases hLj : LS L j
      · exact hLj
      · have := hmin j ⟨by omega, hLj⟩; omega
    · refine .inl fun j => ⟨hL j, fun hj => ?_⟩
      by_cases hLj : LS L j
      · exact hLj
      · exact absurd ⟨j, hj, hLj⟩ h
  induction fuel with
  | zero =>
    intro L ls st' a w hl hL hF hf hn hlt hag hs
    rcases left L ls hl hL with h | ⟨i, hik, hi⟩
    · have := nodup_le k ls hl.nodup (fun j hj => hL j ((hl.mem j).1 hj))
      exact full 0 L ls st' a w hl h (by omega) hn hlt hag hs
    · have hst := hl.step hi
      have := nodup_le l.length (i :: ls) hst.nodup hst.lt
      simp only [List.length_cons] at this
      omega
  | succ fuel ih =>
    intro L ls st' a w hl hL hF hf hn hlt hag hs
    rcases left L ls hl hL with h | ⟨i0, hik0, hi0⟩
    · have := nodup_le k ls hl.nodup (fun j hj => hL j ((hl.mem j).1 hj))
      exact full (fuel + 1) L ls st' a w hl h (by omega) hn hlt hag hs
    · have one : ∀ i, i < k → i ∈ Region.ready .any l.toArray L → ∃ o, l[i]? = some o ∧ ((o.guard = none ∧ o.wp P a w (wpAny P .any l.toArray (AQ C Q) fuel (L.setIfInBounds i true)) (AQ C Q)) ∨ (o.guard ≠ none ∧ wpOp P l.toArray (AQ C Q) i (wpAny P .any l.toArray (AQ C Q) fuel (L.setIfInBounds i true)) a w)) := by
        intro i hik hi
        obtain ⟨hni, o, ho, hdir⟩ := (ready_iff hl).1 hi
        have hlen : i < l.length := (List.getElem?_eq_some_iff.1 ho).1
        have hnf : ¬FL l i := fun hf => hni (hF i hik hf)
        obtain ⟨r, hp⟩ := some_of i hik hnf
        obtain ⟨hd, hdn, hr⟩ := hres i o r ho hp
        have hst := hl.step hi
        have hsz : i < L.size := by rw [hl.size]; exact hlen
        have hag2 := AgR.text rs st i (by omega)
        have hsame := adds_same (rs.take i) st
        have hwmget : ∀ t, ((st.adds (rs.take i)).wm st.mem).get t = (st.adds (rs.take i)).get t := fun _ => rfl
        have hlook : ∀ t, t ∈ o.looksAt l.toArray → st'.get t = (st.adds (rs.take i)).get t := by
          intro t ht
          have key : ∀ (j : Nat) (p : Rc), rs[j]? = some (some p) → p.d = t → ((masks l).getD i 0).testBit j = true := fun j p hj hpt => by
            have hjk := lt_of hj
            have e1 := (hres j l[j] p (List.getElem?_eq_getElem (by omega)) hj).1
            exact hc.reads i j o l[j] t hik hjk hnf (nf_of hj) ho (List.getElem?_eq_getElem (by omega)) (by rw [e1, hpt]) ht
          rcases hag.slot t with ⟨j, p, hj, hpt, hLj, hg⟩ | ⟨hno, hg⟩
          · rcases hag2.slot t with ⟨j', q, hj', hq, hLj', hg2⟩ | ⟨hno2, hg2⟩
            · have := same_d hj hj' (hpt.trans hq.symm); subst this
              rw [hj] at hj'; cases hj'
              rw [hg2, hg]
            · have hji : j < i := masks_spec (ops := l) (L := fun j => j < i) (fun i' o' ho' hL' j' hd' => Nat.lt_trans (hc.topo i' o' j' ho' hd') hL') i o j ho (fun j' hd' => hc.topo i o j' ho hd') (key j p hj hpt)
              exact absurd hji (hno2 j p hj hpt)
          · rcases hag2.slot t with ⟨j', q, hj', hq, hLj', hg2⟩ | ⟨hno2, hg2⟩
            · exact absurd (masks_spec (L := LS L) hl.closed i o j' ho hdir (key j' q hj' hq)) (hno j' q hj' hq)
            · rw [hg2, hg]
        have hops : ∀ x ∈ o.op.operands, st'.ev x = ((st.adds (rs.take i)).wm st.mem).ev x := fun x hx => ev_agree fun t ht => hlook t (by
          unfold Oper.looksAt
          refine List.mem_append_left _ (List.mem_filterMap.2 ⟨x, by simpa using hx, by rw [ht]⟩))
        have hmem : ∀ k' o', ((st.adds (rs.take i)).wm st.mem).obj k' = some o' → st'.obj k' = some o' := fun k' o' hk' => by
          have hk' : st.obj k' = some o' := hk'
          rcases hag.obj k' with ⟨j, p, o2, hj, hp2, _, _⟩ | ⟨_, hg⟩
          · have hkk := hfit.keys j p k' hj (by rw [hp2]; simp)
            have := (hfit.base k' (hfit.inF j p hj k' hkk)).obj
            rw [hk'] at this; cases this
          · rw [hg]; exact hk'
        have hfresh : ∀ k' ∈ r.ks, Fr k' st' := fun k' hk' => by
          have hb := hfit.base k' (hfit.inF i r hp k' hk')
          have other : ∀ (j : Nat) (p : Rc), rs[j]? = some (some p) → LS L j → (p.v.wipe k' 4 = p.v ∧ ∀ (k2 : Nat) (o2 : Obj1), lk p.objs k2 = some o2 → o2.wipe k' = o2) ∧ k' ∉ p.ks := fun j p hj hLj => by
            have hne : k' ∉ p.ks := fun hin => by
              have := hfit.disj i j r p k' hp hj hk' hin; subst this
              exact hni hLj
            refine ⟨?_, hne⟩
            rcases hfit.apart j p k' hj (hfit.inF i r hp k' hk') hne with h | ⟨j2, p2, hj2, hin2, hb2⟩
            · exact h
            · have := hfit.disj i j2 r p2 k' hp hj2 hk' hin2; subst this
              have hjl : j < l.length := by have := lt_of hj; omega
              exact absurd (masks_spec (L := LS L) hl.closed j l[j] i (List.getElem?_eq_getElem hjl) (fun j' hd' => hl.closed j l[j] (List.getElem?_eq_getElem hjl) hLj j' hd') hb2) hni
          refine ⟨?_, fun t => ?_, fun j2 o2 hj2 => ?_, by rw [hlt]; exact hb.lent⟩
          · rcases hag.obj k' with ⟨j, p, o2, hj, hp2, hLj, _⟩ | ⟨_, hg⟩
            · exact absurd (hfit.keys j p k' hj (by rw [hp2]; simp)) (other j p hj hLj).2
            · rw [hg]; exact hb.obj
          · rcases hag.slot t with ⟨j, p, hj, _, hLj, hg⟩ | ⟨_, hg⟩
            · rw [hg]; exact (other j p hj hLj).1.1
            · rw [hg]; exact hb.slot t
          · rcases hag.obj j2 with ⟨j, p, o3, hj, hp2, hLj, hg⟩ | ⟨_, hg⟩
            · rw [hg] at hj2; cases hj2; exact (other j p hj hLj).1.2 j2 _ hp2
            · rw [hg] at hj2; exact hb.objs j2 o2 hj2
        have hag' : AgR rs (LS (L.setIfInBounds i true)) st (st'.add r.d r.v r.objs) := hag.add hp (fun j => LS_set hsz)
        have hnext : ∀ a' w', SRx C (st'.add r.d r.v r.objs) a' w' → wpAny P .any l.toArray (AQ C Q) fuel (L.setIfInBounds i true) a' w' := fun a' w' hs' =>
          ih (L.setIfInBounds i true) (i :: ls) (st'.add r.d r.v r.objs) a' w' hst (fun j hj => by
            rcases (LS_set hsz).1 hj with rfl | hj
            · exact hik
            · exact hL j hj) (fun j hj hfj => (LS_set hsz).2 (.inr (hF j hj hfj))) (by simp only [List.length_cons]; omega) hn hlt hag' hs'
        have e : l.toArray[i]? = some o := by simpa using ho
        refine ⟨o, ho, ?_⟩
        have hwn : ((st.adds (rs.take i)).wm st.mem).n = st.n := hsame.1
        have hwl : ((st.adds (rs.take i)).wm st.mem).lent = st.lent := hsame.2
        rcases hr with ⟨hg, hq⟩ | ⟨j, want, t, dj, hg, hdj, hdjn, hgt, hcase⟩
        · exact .inl ⟨hg, hq st' (by rw [hn, hwn]) (by rw [hlt, hwl]) hmem hops hfresh C a w _ _ hd (by rw [hwn]; exact hdn) hs hnext⟩
        · refine .inr ⟨by rw [hg]; simp, ?_⟩
          unfold wpOp
          rw [e]
          simp only
          have hgt' : GV (st'.get dj) t := by
            rw [hlook dj (by
              unfold Oper.looksAt
              refine List.mem_append_right _ ?_
              rw [hg]
              show dj ∈ Option.toList ((l.toArray[j]?).bind (·.dst))
              rw [hdj]
              simp)]; exact hgt
          obtain ⟨S, β, hs1⟩ := hs
          have hy := yielded_gv (ops := l.toArray) hdj (by rw [hn, ← hwn]; exact hdjn) hgt' hs1
          rcases hcase with ⟨htw, hq⟩ | ⟨htw, hv, ho0⟩
          · rw [if_pos (by simp [Region.wanted, hg, hy, htw])]
            exact .inl (hq st' (by rw [hn, hwn]) (by rw [hlt, hwl]) hmem hops hfresh C a w _ _ hd (by rw [hwn]; exact hdn) ⟨S, β, hs1⟩ hnext)
          · rw [if_neg (by simp [Region.wanted, hg, hy, htw])]
            refine hnext _ _ ?_
            rw [hd, hv, ho0]
            exact ⟨S, β, hs1.put (by rw [hn]; exact hdn) (.flat (.con _))⟩
      by_cases he : ∃ x, x < k ∧ EG l x ∧ x ∈ Region.ready .any l.toArray L
      · obtain ⟨x, hxk, ⟨ox, hox, heg⟩, hxr⟩ := he
        obtain ⟨o', ho', hcase⟩ := one x hxk hxr
        rw [hox] at ho'; cases ho'
        have hform : (∃ y n, ox.op = .extract y n) ∧ ox.guard = none ∧ ∃ d, ox.dst = some d := by
          unfold isEager at heg
          split at heg
          · rename_i y n hop
            simp only [Bool.and_eq_true, Option.isNone_iff_eq_none, Option.isSome_iff_exists] at heg
            exact ⟨⟨y, n, hop⟩, heg.1, heg.2⟩
          · cases heg
        obtain ⟨⟨y, n, hop⟩, hg, d, hd⟩ := hform
        rcases hcase with ⟨_, hwp⟩ | ⟨hgn, _⟩
        · obtain ⟨v, hv, hK⟩ := extract_yields hop hwp
          obtain ⟨_, o2, ho2, hdir⟩ := (ready_iff hl).1 hxr
          rw [hox] at ho2; cases ho2
          have hfr := hc.free x hxk
          unfold eagerFree at hfr
          rw [hox] at hfr
          simp only [heg, Bool.not_true, Bool.false_or, List.all_eq_true, List.mem_range] at hfr
          refine wpAny_first (v := v) (by simpa using hox) (Region.noSelect_spec hc.nosel) ?_ fuel L a w ?_ hxr (.inl ⟨by simp [Region.wanted, hg], hv⟩) hK
          · rintro c a w ⟨s, hq, S, β, hs⟩
            rw [hd] at hs
            exact ⟨_, hpan c s d hq, S, β, hs.unput⟩
          · intro j oj hj hne hun hno
            have hjl : j < l.length := by
              have := (Array.getElem?_eq_some_iff.1 hj).1
              simpa using this
            have hj' : l[j]? = some oj := by simpa using hj
            have := hfr j hjl
            rw [hj'] at this
            simp only [Bool.or_eq_true, beq_iff_eq] at this
            rcases this with (h | h) | h | h
            · exact absurd h.symm hne
            · have hL := masks_spec (L := LS L) hl.closed x ox j hox hdir h
              unfold LS at hL
              have hjs : j < L.size := by rw [hl.size]; exact hjl
              simp [Array.getD, hjs] at hL hun
              rw [hL] at hun; cases hun
            · exact h
            · obtain ⟨e, hem, heb⟩ := List.any_eq_true.1 h
              simp only [Bool.and_eq_true, beq_iff_eq] at heb
              exact absurd heb.2 (hno e (by simpa using hem) heb.1)
        · exact absurd hg hgn
      · refine ⟨fun hr => (by rw [hr] at hi0; cases hi0), fun i hi => ?_⟩
        obtain ⟨hni, o, ho, hdir⟩ := (ready_iff hl).1 hi
        have hlen : i < l.length := (List.getElem?_eq_some_iff.1 ho).1
        have hik : i < k := by
          by_cases hlt' : i < k
          · exact hlt'
          · have h0 := ((ready_iff hl).1 hi0).1
            rcases hc.tail i i0 (by omega) hlen (by omega) with ht | ht | ht
            · exact absurd (masks_spec (L := LS L) hl.closed i o i0 ho hdir ht) h0
            · exact absurd (hF i0 hik0 (mem_floats.1 ht).2) h0
            · exact absurd ⟨i0, ht.1, ht.2, hi0⟩ he
        obtain ⟨o', ho', hcase⟩ := one i hik hi
        rcases hcase with ⟨hg, hwp⟩ | ⟨_, hw⟩
        · unfold wpOp
          rw [show l.toArray[i]? = some o' from by simpa using ho']
          simp only
          rw [if_pos (by simp [Region.wanted, hg])]
          exact .inl hwp
        · exact hw

/-- a region that draws its order -/
theorem AW.eager (b : Bool) (nq F : List Nat) {id : Nat} (hm : P.follows .mixedOrders = true) (hpan : PanOk Q) (hc : chkEager l (l.takeWhile (isCalm b nq)).length = true) (hF : (F.all fun k => !hasK st.lent k) = true)
    (h : FW b nq P l.toArray Q (masks l) F l l (st.wipeL F)) : AW P (.region id l.toArray true) Q st := fun C a w hs => by
  have hc := chkE_spec hc
  have hs := hs.wipeL F hF
  have hFr := Fr.all F hF
  generalize st.wipeL F = s at h hs hFr
  obtain ⟨hok, hcw⟩ := FW.out (l := l) l 0 s (fun j o hj => by simpa using hj) h
  obtain ⟨rs, h1, h2, h3, h4, h5, h6, h7, h8⟩ := CW.out l 0 [] _ hcw
  have hfls : floats l (l.takeWhile (isCalm b nq)).length = fl1 (l.take (l.takeWhile (isCalm b nq)).length) 0 := rfl
  rw [← hfls] at hok h3 h8 hcw
  generalize hk : (l.takeWhile (isCalm b nq)).length = k at *
  obtain ⟨f1, f2, f3⟩ := flP_same l (floats l k) s
  have hle := hc.le
  have hnone0 : ∀ j, ¬ LS (Array.replicate l.length false) j := fun j hL => by
    unfold LS at hL
    simp only [Array.getD_eq_getD_getElem?, Array.getElem?_replicate] at hL
    split at hL <;> cases hL
  have hfll : (floats l k).length ≤ l.length := Nat.le_trans (fl1_len _ _) (by rw [List.length_take]; omega)
  have hnone : ∀ i, i < k → (FL l i ↔ rs[i]? = some none) := fun i hi => h2 i (by omega)
  refine wp_region_any hm ?_
  have hsz : l.toArray.size = (l.length - (floats l k).length) + (floats l k).length := by simp; omega
  rw [hsz]
  have hsz2 : (l.length - (floats l k).length) + (floats l k).length = l.length := by omega
  rw [hsz2]
  rw [← hsz2]
  refine floatsAny hc.nosel hpan (floats l k) _ _ [] s (by rw [hsz2]; exact hc.fl) ?_ hok ?_ _ _ ?_
  · rw [hsz2]
    refine ⟨by simp, List.nodup_nil, fun j => ?_, fun j hj => (by cases hj), fun i o _ hL => absurd hL (hnone0 _)⟩
    constructor
    · intro h; cases h
    · intro h; exact absurd h (hnone0 _)
  · intro L' ls' hl' hL' hlen a' w' hs'
    rw [hsz2] at hL'
    have hL2 : ∀ j, LS L' j ↔ j ∈ floats l k := fun j => by
      rw [hL']; exact ⟨fun h => h.resolve_left (hnone0 j), .inr⟩
    refine drawE (F := F) hc hpan (by rw [h1]) ⟨?_, ?_, ?_, ?_, ?_⟩ hnone ?_ h8 _ L' ls' _ a' w' hl' ?_ ?_ ?_ rfl rfl ?_ hs'
    · exact fun k' hk' => Fr.flP _ _ (hFr k' hk')
    · exact fun i r hi k' hk' => (h4 i r hi k' hk').1
    · exact h5
    · exact h6
    · intro i r k' hi hk' hn
      rcases h7 i r k' hi hk' hn with g | ⟨j', g1, _⟩ | ⟨j', p, g1, g2, g3⟩
      · exact .inl g
      · cases g1
      · exact .inr ⟨j', p, g1, g2, by simpa using g3⟩
    · intro i o r ho hr
      have := h3 i o r ho hr
      rw [f2]
      exact this
    · exact fun j hj => (mem_floats.1 ((hL2 j).1 hj)).1
    · exact fun j hj hf => (hL2 j).2 (mem_floats.2 ⟨hj, hf⟩)
    · rw [hlen]; simp only [List.length_nil]; omega
    · refine (AgR.refl rs _).congr fun j r hj => ⟨fun hL => ?_, fun h => h.elim⟩
      have hjk : j < k := by have := (List.getElem?_eq_some_iff.1 hj).1; omega
      have := (hnone j hjk).1 (mem_floats.1 ((hL2 j).1 hL)).2
      rw [hj] at this; cases this
  · obtain ⟨S, β, hs⟩ := hs
    exact hs.drawn _
end
end Go.Abs
