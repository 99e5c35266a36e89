/- A library of mine, for walks over abstract states: part 6. It imports the kit alone. -/
import Derived.Test.YtbnkjbdbcckcmaaV5
/- A library of mine, its fiftieth text: regions that draw their order, in which parts of an answer are taken out at any time. -/
namespace Go.Abs
set_option linter.unusedSimpArgs false
set_option linter.unusedVariables false
open Go Go.RowKit

/-- a part of an answer that is taken out -/
def isEager (o : Oper) : Bool :=
  match o.op with
  | .extract .. => o.guard.isNone && o.dst.isSome
  | _ => false
def EG (l : List Oper) (i : Nat) : Prop := ∃ o, l[i]? = some o ∧ isEager o = true
def eagerAt (ops : List Oper) (k j : Nat) : Bool := decide (j < k) && (match ops[j]? with | some o => isEager o | none => false)
def eagerFree (ops : List Oper) (i : Nat) : Bool :=
  match ops[i]? with
  | some o => !isEager o || (List.range ops.length).all fun j => i == j || ((masks ops).getD i 0).testBit j || (match ops[j]? with
    | some p => o.apart ops.toArray p || p.after.toList.any fun e => Region.binds .any e && e.on == i
    | none => true)
  | none => true
def chkEager (ops : List Oper) (k : Nat) : Bool :=
  decide (k ≤ ops.length) &&
  ((List.range ops.length).all fun i => match ops[i]? with
    | some o => o.after.toList.all fun e => !Region.binds .any e || decide (e.on < i)
    | none => true) &&
  ((List.range k).all fun i => (List.range k).all fun j => match ops[i]?, ops[j]? with
    | some o, some p => isFloat o || isFloat p || (match p.dst with
      | some d => (i == j || o.dst != some d) && (!(o.looksAt ops.toArray).contains d || ((masks ops).getD i 0).testBit j)
      | none => true)
    | _, _ => true) &&
  ((List.range ops.length).all fun i => decide (i < k) || (List.range i).all fun j => ((masks ops).getD i 0).testBit j || (floats ops k).contains j || eagerAt ops k j) &&
  Region.noSelect ops.toArray && chkF ops (Array.replicate ops.length false) (floats ops k) && ((List.range k).all fun i => eagerFree ops i)
structure ChkE (l : List Oper) (k : Nat) : Prop where
  le : k ≤ l.length
  topo : ∀ i o j, l[i]? = some o → dirs o j → j < i
  dist : ∀ i j o p d, i < k → j < k → ¬FL l i → ¬FL l j → l[i]? = some o → l[j]? = some p → o.dst = some d → p.dst = some d → i = j
  reads : ∀ i j o p d, i < k → j < k → ¬FL l i → ¬FL l j → l[i]? = some o → l[j]? = some p → p.dst = some d → d ∈ o.looksAt l.toArray → ((masks l).getD i 0).testBit j = true
  tail : ∀ i j, k ≤ i → i < l.length → j < i → ((masks l).getD i 0).testBit j = true ∨ j ∈ floats l k ∨ (j < k ∧ EG l j)
  nosel : Region.noSelect l.toArray = true
  fl : chkF l (Array.replicate l.length false) (floats l k) = true
  free : ∀ i, i < k → eagerFree l i = true

theorem chkE_spec {l : List Oper} {k : Nat} (h : chkEager l k = true) : ChkE l k := by
  unfold chkEager at h
  simp only [Bool.and_eq_true, decide_eq_true_eq, List.all_eq_true, List.mem_range] at h
  obtain ⟨⟨⟨⟨⟨⟨h1, h2⟩, h3⟩, h4⟩, h5⟩, h6⟩, h7⟩ := h
  have nf : ∀ {i o}, l[i]? = some o → ¬FL l i → isFloat o = false := fun {i o} ho hn => by
    cases hf : isFloat o with
    | false => rfl
    | true => exact absurd ⟨o, ho, hf⟩ hn
  refine ⟨h1, ?_, ?_, ?_, ?_, h5, h6, h7⟩
  · intro i o j hi ⟨e, he, hb, hj⟩
    have hlt := (List.getElem?_eq_some_iff.1 hi).1
    have := h2 i hlt
    rw [hi] at this
    simp only [List.all_eq_true] at this
    have := this e (by simpa using he)
    rw [hb] at this
    simp only [Bool.not_true, Bool.false_or, decide_eq_true_eq] at this
    omega
  · intro i j o p d hi hj hni hnj ho hp hod hpd
    have := h3 i hi j hj
    rw [ho, hp] at this
    simp only [nf ho hni, nf hp hnj, Bool.false_or, hpd, Bool.and_eq_true, Bool.or_eq_true, beq_iff_eq, bne_iff_ne, ne_eq, hod, not_true_eq_false, or_false] at this
    exact this.1
  · intro i j o p d hi hj hni hnj ho hp hpd hd
    have := h3 i hi j hj
    rw [ho, hp] at this
    simp only [nf ho hni, nf hp hnj, Bool.false_or, hpd, Bool.and_eq_true, Bool.or_eq_true] at this
    rcases this.2 with h | h
    · simp [hd] at h
    · exact h
  · intro i j hk hi hj
    have := h4 i hi
    simp only [Bool.or_eq_true, decide_eq_true_eq, List.all_eq_true, List.mem_range] at this
    rcases this with h | h
    · omega
    · rcases h j hj with (h | h) | h
      · exact .inl h
      · exact .inr (.inl (by simpa using h))
      · refine .inr (.inr ?_)
        unfold eagerAt at h
        simp only [Bool.and_eq_true, decide_eq_true_eq] at h
        refine ⟨h.1, ?_⟩
        have h2 := h.2
        split at h2
        · rename_i o ho; exact ⟨o, ho, h2⟩
        · cases h2

section
variable {P : Program} {C : Ctx} {S : Nat → Prop} {β : Nat → Option BI} {st st' : St} {a : Act} {w w' : World} {l : List Oper} {rest : List Oper} {o : Oper} {Q : Exit → St → Prop}

theorem extract_yields {x : Operand} {n : Nat} (ho : o.op = .extract x n) {K : Act → World → Prop} {Q' : Exit → Act → World → Prop} (h : o.wp P a w K Q') : ∃ v, (∀ w, (execOp a.eval o).run P w = .ok (.value v) w) ∧ K (a.put o.dst v) w := by
  have key : ∀ w, (execOp a.eval o).run P w = ((Instr.extract (a.eval x) n).run P w).andThen fun v w => .ok (.value v) w := by
    intro w; unfold execOp; simp [ho]
  unfold Oper.wp at h
  cases hv : a.eval x with
  | tuple vs =>
    cases hn : vs[n]? with
    | some v =>
      have e : ∀ w, (execOp a.eval o).run P w = .ok (.value v) w := fun w => by
        rw [key, hv]; simp [Instr.extract, hn]
      rw [e] at h
      exact ⟨v, e, h⟩
    | none =>
      rw [key, hv] at h
      simp [Instr.extract, hn] at h
      cases h
  | _ =>
    rw [key, hv] at h
    simp [Instr.extract] at h
    cases h
theorem drawE {Q : Exit → St → Prop} {k : Nat} (hc : ChkE l k) (hpan : PanOk Q) {F : List Nat} {rs : List (Option Rc)} (hrs : rs.length = k) (hfit : Fit l F st rs)
    (hnone : ∀ i, i < k → (FL l i ↔ rs[i]? = some none))
    (hres : ∀ (i : Nat) (o : Oper) (r : Rc), l[i]? = some o → rs[i]? = some (some r) → o.dst = some r.d ∧ r.d < st.n ∧ Res2 P l.toArray ((st.adds (rs.take i)).wm st.mem) o r)
    (htail : AWL P l.toArray (l.drop k) Q (st.adds rs)) : ∀ (fuel : Nat) (L : Array Bool) (ls : List Nat) (st' : St) (a : Act) (w : World), Lists l L ls → (∀ j, LS L j → j < k) → (∀ j, j < k → FL l j → LS L j) → fuel + ls.length = l.length →
      st'.n = st.n → st'.lent = st.lent → AgR rs (LS L) st st' → SRx C st' a w → wpAny P .any l.toArray (AQ C Q) fuel L a w := by
  intro fuel
  have hkl := hc.le
  have some_of : ∀ i : Nat, i < k → ¬FL l i → ∃ r : Rc, rs[i]? = some (some r) := fun i hi hn => by
    have h1 : rs[i]? = some rs[i] := List.getElem?_eq_getElem (by omega)
    cases hr : rs[i] with
    | none => exact absurd ((hnone i hi).2 (by rw [h1, hr])) hn
    | some r => exact ⟨r, by rw [h1, hr]⟩
  have lt_of : ∀ {i : Nat} {r : Rc}, rs[i]? = some (some r) → i < k := fun {i r} h => by
    have := (List.getElem?_eq_some_iff.1 h).1; omega
  have nf_of : ∀ {i : Nat} {r : Rc}, rs[i]? = some (some r) → ¬FL l i := fun {i r} h hf => by
    have := (hnone i (lt_of h)).1 hf
    rw [h] at this; cases this
  have same_d : ∀ {i j : Nat} {r p : Rc}, rs[i]? = some (some r) → rs[j]? = some (some p) → r.d = p.d → i = j := fun {i j r p} hi hj e => by
    have h1 := lt_of hi
    have h2 := lt_of hj
    have e1 := (hres i l[i] r (List.getElem?_eq_getElem (by omega)) hi).1
    have e2 := (hres j l[j] p (List.getElem?_eq_getElem (by omega)) hj).1
    exact hc.dist i j l[i] l[j] r.d h1 h2 (nf_of hi) (nf_of hj) (List.getElem?_eq_getElem (by omega)) (List.getElem?_eq_getElem (by omega)) e1 (by rw [e2, e])
  -- two states that agree alike
  have agree : ∀ {A B : Nat → Prop} {s1 s2 : St}, AgR rs A st s1 → AgR rs B st s2 → (∀ (j : Nat) (r : Rc), rs[j]? = some (some r) → (A j ↔ B j)) → (∀ t, s1.get t = s2.get t) ∧ ∀ k, s1.obj k = s2.obj k := by
    intro A B s1 s2 h1 h2 hAB
    have h2 := h2.congr hAB
    refine ⟨fun t => ?_, fun k => ?_⟩
    · rcases h1.slot t with ⟨i, r, hi, hr, hA, hg⟩ | ⟨hno, hg⟩
      · rcases h2.slot t with ⟨j, p, hj, hp, hA', hg'⟩ | ⟨hno', hg'⟩
        · have := same_d hi hj (hr.trans hp.symm); subst this
          rw [hi] at hj; cases hj
          rw [hg, hg']
        · exact absurd hA (hno' i r hi hr)
      · rcases h2.slot t with ⟨j, p, hj, hp, hA', hg'⟩ | ⟨hno', hg'⟩
        · exact absurd hA' (hno j p hj hp)
        · rw [hg, hg']
    · rcases h1.obj k with ⟨i, r, o, hi, hr, hA, hg⟩ | ⟨hno, hg⟩
      · rcases h2.obj k with ⟨j, p, o', hj, hp, hA', hg'⟩ | ⟨hno', hg'⟩
        · have := hfit.disj i j r p k hi hj (hfit.keys i r k hi (by rw [hr]; simp)) (hfit.keys j p k hj (by rw [hp]; simp)); subst this
          rw [hi] at hj; cases hj
          rw [hr] at hp; cases hp
          rw [hg, hg']
        · exact absurd hA (hno' i r hi (by rw [hr]; simp))
      · rcases h2.obj k with ⟨j, p, o', hj, hp, hA', hg'⟩ | ⟨hno', hg'⟩
        · exact absurd hA' (hno j p hj (by rw [hp]; simp))
        · rw [hg, hg']
  -- behind the calm part there is one order only
  have tailC : ∀ (fuel m : Nat) (L : Array Bool) (ls : List Nat) (a : Act) (w : World) {Q : Exit → Act → World → Prop}, Lists l L ls → k ≤ m → m ≤ l.length → (∀ j, LS L j ↔ j < m) → l.length ≤ fuel + m →
      wpList P l.toArray Q (l.drop m) a w → wpAny P .any l.toArray Q fuel L a w := by
    intro fuel
    have next : ∀ (m : Nat) (L : Array Bool) (ls : List Nat), Lists l L ls → k ≤ m → (∀ j, LS L j ↔ j < m) → ∀ i, i ∈ Region.ready .any l.toArray L ↔ i = m ∧ m < l.length := by
      intro m L ls hl hk hL i
      rw [ready_iff hl]
      constructor
      · rintro ⟨h1, o, ho, h2⟩
        have hlt : i < l.length := (List.getElem?_eq_some_iff.1 ho).1
        rw [hL] at h1
        have : i = m := by
          by_cases hne : i = m
          · exact hne
          · have hmi : m < i := by omega
            rcases hc.tail i m (by omega) hlt hmi with ht | ht | ht
            · have := masks_spec (L := LS L) hl.closed i o m ho h2 ht
              rw [hL] at this
              omega
            · have := (mem_floats.1 ht).1
              omega
            · have := ht.1
              omega
        exact ⟨this, by omega⟩
      · rintro ⟨rfl, hlt⟩
        refine ⟨by rw [hL]; omega, l[i], List.getElem?_eq_getElem hlt, fun j hd => ?_⟩
        rw [hL]
        exact hc.topo i _ j (List.getElem?_eq_getElem hlt) hd
    induction fuel with
    | zero =>
      intro m L ls a w Q hl hk hm hL hf hw
      have hml : m = l.length := by omega
      rw [hml, List.drop_length] at hw
      refine ⟨?_, hw⟩
      cases hr : Region.ready .any l.toArray L with
      | nil => rfl
      | cons x xs => have := (next m L ls hl hk hL x).1 (by rw [hr]; simp); omega
    | succ fuel ih =>
      intro m L ls a w Q hl hk hm hL hf hw
      refine ⟨fun hr => ?_, fun i hi => ?_⟩
      · have : ¬ m < l.length := fun hlt => by
          have := (next m L ls hl hk hL m).2 ⟨rfl, hlt⟩
          rw [hr] at this; cases this
        have hml : m = l.length := by omega
        rw [hml, List.drop_length] at hw
        exact hw
      · obtain ⟨rfl, hlt⟩ := (next m L ls hl hk hL i).1 hi
        have hst := hl.step hi
        have hs : i < L.size := by rw [hl.size]; exact hlt
        have hK : ∀ a w, wpList P l.toArray Q (l.drop (i + 1)) a w → wpAny P .any l.toArray Q fuel (L.setIfInBounds i true) a w := fun a w hw =>
          ih (i + 1) _ _ a w hst (by omega) hlt (fun j => by rw [LS_set hs, hL]; omega) (by omega) hw
        rw [List.drop_eq_getElem_cons hlt] at hw
        refine wpOp_mono hK ?_
        unfold wpOp
        have e : l.toArray[i]? = some l[i] := by simp [hlt]
        rw [e]
        exact hw
  have full : ∀ (fuel : Nat) (L : Array Bool) (ls : List Nat) (st' : St) (a : Act) (w : World), Lists l L ls → (∀ j, LS L j ↔ j < k) → l.length ≤ fuel + k →
      st'.n = st.n → st'.lent = st.lent → AgR rs (LS L) st st' → SRx C st' a w → wpAny P .any l.toArray (AQ C Q) fuel L a w := by
    intro fuel L ls st' a w hl hL hf hn hlt hag hs
    refine tailC fuel k L ls a w hl (Nat.le_refl _) hkl hL hf ?_
    have hag2 := AgR.text rs st k (by omega)
    rw [List.take_of_length_le (by omega)] at hag2
    obtain ⟨g1, g2⟩ := agree hag2 hag (fun j r _ => (hL j).symm)
    exact htail C a w (hs.ext2 (by rw [hn]; exact (adds_same rs st).1) g2 (by rw [hlt]; exact (adds_same rs st).2) g1)
  have left : ∀ (L : Array Bool) (ls : List Nat), Lists l L ls → (∀ j, LS L j → j < k) → (∀ j, LS L j ↔ j < k) ∨ ∃ i, i < k ∧ i ∈ Region.ready .any l.toArray L := by
    intro L ls hl hL
    by_cases h : ∃ i, i < k ∧ ¬ LS L i
    · obtain ⟨i, ⟨hik, hni⟩, hmin⟩ := least (fun i => i < k ∧ ¬ LS L i) h
      refine .inr ⟨i, hik, (ready_iff hl).2 ⟨hni, l[i], List.getElem?_eq_getElem (by omega), fun j hd => ?_⟩⟩
      have hji := hc.topo i _ j (List.getElem?_eq_getElem (by omega)) hd
      by_cases hLj : LS L j
      · exact hLj
      · have := hmin j ⟨by omega, hLj⟩; omega
    · refine .inl fun j => ⟨hL j, fun hj => ?_⟩
      by_cases hLj : LS L j
      · exact hLj
      · exact absurd ⟨j, hj, hLj⟩ h
  induction fuel with
  | zero =>
    intro L ls st' a w hl hL hF hf hn hlt hag hs
    rcases left L ls hl hL with h | ⟨i, hik, hi⟩
    · have := nodup_le k ls hl.nodup (fun j hj => hL j ((hl.mem j).1 hj))
      exact full 0 L ls st' a w hl h (by omega) hn hlt hag hs
    · have hst := hl.step hi
      have := nodup_le l.length (i :: ls) hst.nodup hst.lt
      simp only [List.length_cons] at this
      omega
  | succ fuel ih =>
    intro L ls st' a w hl hL hF hf hn hlt hag hs
    rcases left L ls hl hL with h | ⟨i0, hik0, hi0⟩
    · have := nodup_le k ls hl.nodup (fun j hj => hL j ((hl.mem j).1 hj))
      exact full (fuel + 1) L ls st' a w hl h (by omega) hn hlt hag hs
    · have one : ∀ i, i < k → i ∈ Region.ready .any l.toArray L → ∃ o, l[i]? = some o ∧ ((o.guard = none ∧ o.wp P a w (wpAny P .any l.toArray (AQ C Q) fuel (L.setIfInBounds i true)) (AQ C Q)) ∨ (o.guard ≠ none ∧ wpOp P l.toArray (AQ C Q) i (wpAny P .any l.toArray (AQ C Q) fuel (L.setIfInBounds i true)) a w)) := by
        intro i hik hi
        obtain ⟨hni, o, ho, hdir⟩ := (ready_iff hl).1 hi
        have hlen : i < l.length := (List.getElem?_eq_some_iff.1 ho).1
        have hnf : ¬FL l i := fun hf => hni (hF i hik hf)
        obtain ⟨r, hp⟩ := some_of i hik hnf
        obtain ⟨hd, hdn, hr⟩ := hres i o r ho hp
        have hst := hl.step hi
        have hsz : i < L.size := by rw [hl.size]; exact hlen
        have hag2 := AgR.text rs st i (by omega)
        have hsame := adds_same (rs.take i) st
        have hwmget : ∀ t, ((st.adds (rs.take i)).wm st.mem).get t = (st.adds (rs.take i)).get t := fun _ => rfl
        have hlook : ∀ t, t ∈ o.looksAt l.toArray → st'.get t = (st.adds (rs.take i)).get t := by
          intro t ht
          have key : ∀ (j : Nat) (p : Rc), rs[j]? = some (some p) → p.d = t → ((masks l).getD i 0).testBit j = true := fun j p hj hpt => by
            have hjk := lt_of hj
            have e1 := (hres j l[j] p (List.getElem?_eq_getElem (by omega)) hj).1
            exact hc.reads i j o l[j] t hik hjk hnf (nf_of hj) ho (List.getElem?_eq_getElem (by omega)) (by rw [e1, hpt]) ht
          rcases hag.slot t with ⟨j, p, hj, hpt, hLj, hg⟩ | ⟨hno, hg⟩
          · rcases hag2.slot t with ⟨j', q, hj', hq, hLj', hg2⟩ | ⟨hno2, hg2⟩
            · have := same_d hj hj' (hpt.trans hq.symm); subst this
              rw [hj] at hj'; cases hj'
              rw [hg2, hg]
            · have hji : j < i := masks_spec (ops := l) (L := fun j => j < i) (fun i' o' ho' hL' j' hd' => Nat.lt_trans (hc.topo i' o' j' ho' hd') hL') i o j ho (fun j' hd' => hc.topo i o j' ho hd') (key j p hj hpt)
              exact absurd hji (hno2 j p hj hpt)
          · rcases hag2.slot t with ⟨j', q, hj', hq, hLj', hg2⟩ | ⟨hno2, hg2⟩
            · exact absurd (masks_spec (L := LS L) hl.closed i o j' ho hdir (key j' q hj' hq)) (hno j' q hj' hq)
            · rw [hg2, hg]
        have hops : ∀ x ∈ o.op.operands, st'.ev x = ((st.adds (rs.take i)).wm st.mem).ev x := fun x hx => ev_agree fun t ht => hlook t (by
          unfold Oper.looksAt
          refine List.mem_append_left _ (List.mem_filterMap.2 ⟨x, by simpa using hx, by rw [ht]⟩))
        have hmem : ∀ k' o', ((st.adds (rs.take i)).wm st.mem).obj k' = some o' → st'.obj k' = some o' := fun k' o' hk' => by
          have hk' : st.obj k' = some o' := hk'
          rcases hag.obj k' with ⟨j, p, o2, hj, hp2, _, _⟩ | ⟨_, hg⟩
          · have hkk := hfit.keys j p k' hj (by rw [hp2]; simp)
            have := (hfit.base k' (hfit.inF j p hj k' hkk)).obj
            rw [hk'] at this; cases this
          · rw [hg]; exact hk'
        have hfresh : ∀ k' ∈ r.ks, Fr k' st' := fun k' hk' => by
          have hb := hfit.base k' (hfit.inF i r hp k' hk')
          have other : ∀ (j : Nat) (p : Rc), rs[j]? = some (some p) → LS L j → (p.v.wipe k' 4 = p.v ∧ ∀ (k2 : Nat) (o2 : Obj1), lk p.objs k2 = some o2 → o2.wipe k' = o2) ∧ k' ∉ p.ks := fun j p hj hLj => by
            have hne : k' ∉ p.ks := fun hin => by
              have := hfit.disj i j r p k' hp hj hk' hin; subst this
              exact hni hLj
            refine ⟨?_, hne⟩
            rcases hfit.apart j p k' hj (hfit.inF i r hp k' hk') hne with h | ⟨j2, p2, hj2, hin2, hb2⟩
            · exact h
            · have := hfit.disj i j2 r p2 k' hp hj2 hk' hin2; subst this
              have hjl : j < l.length := by have := lt_of hj; omega
              exact absurd (masks_spec (L := LS L) hl.closed j l[j] i (List.getElem?_eq_getElem hjl) (fun j' hd' => hl.closed j l[j] (List.getElem?_eq_getElem hjl) hLj j' hd') hb2) hni
          refine ⟨?_, fun t => ?_, fun j2 o2 hj2 => ?_, by rw [hlt]; exact hb.lent⟩
          · rcases hag.obj k' with ⟨j, p, o2, hj, hp2, hLj, _⟩ | ⟨_, hg⟩
            · exact absurd (hfit.keys j p k' hj (by rw [hp2]; simp)) (other j p hj hLj).2
            · rw [hg]; exact hb.obj
          · rcases hag.slot t with ⟨j, p, hj, _, hLj, hg⟩ | ⟨_, hg⟩
            · rw [hg]; exact (other j p hj hLj).1.1
            · rw [hg]; exact hb.slot t
          · rcases hag.obj j2 with ⟨j, p, o3, hj, hp2, hLj, hg⟩ | ⟨_, hg⟩
            · rw [hg] at hj2; cases hj2; exact (other j p hj hLj).1.2 j2 _ hp2
            · rw [hg] at hj2; exact hb.objs j2 o2 hj2
        have hag' : AgR rs (LS (L.setIfInBounds i true)) st (st'.add r.d r.v r.objs) := hag.add hp (fun j => LS_set hsz)
        have hnext : ∀ a' w', SRx C (st'.add r.d r.v r.objs) a' w' → wpAny P .any l.toArray (AQ C Q) fuel (L.setIfInBounds i true) a' w' := fun a' w' hs' =>
          ih (L.setIfInBounds i true) (i :: ls) (st'.add r.d r.v r.objs) a' w' hst (fun j hj => by
            rcases (LS_set hsz).1 hj with rfl | hj
            · exact hik
            · exact hL j hj) (fun j hj hfj => (LS_set hsz).2 (.inr (hF j hj hfj))) (by simp only [List.length_cons]; omega) hn hlt hag' hs'
        have e : l.toArray[i]? = some o := by simpa using ho
        refine ⟨o, ho, ?_⟩
        have hwn : ((st.adds (rs.take i)).wm st.mem).n = st.n := hsame.1
        have hwl : ((st.adds (rs.take i)).wm st.mem).lent = st.lent := hsame.2
        rcases hr with ⟨hg, hq⟩ | ⟨j, want, t, dj, hg, hdj, hdjn, hgt, hcase⟩
        · exact .inl ⟨hg, hq st' (by rw [hn, hwn]) (by rw [hlt, hwl]) hmem hops hfresh C a w _ _ hd (by rw [hwn]; exact hdn) hs hnext⟩
        · refine .inr ⟨by rw [hg]; simp, ?_⟩
          unfold wpOp
          rw [e]
          simp only
          have hgt' : GV (st'.get dj) t := by
            rw [hlook dj (by
              unfold Oper.looksAt
              refine List.mem_append_right _ ?_
              rw [hg]
              show dj ∈ Option.toList ((l.toArray[j]?).bind (·.dst))
              rw [hdj]
              simp)]; exact hgt
          obtain ⟨S, β, hs1⟩ := hs
          have hy := yielded_gv (ops := l.toArray) hdj (by rw [hn, ← hwn]; exact hdjn) hgt' hs1
          rcases hcase with ⟨htw, hq⟩ | ⟨htw, hv, ho0⟩
          · rw [if_pos (by simp [Region.wanted, hg, hy, htw])]
            exact .inl (hq st' (by rw [hn, hwn]) (by rw [hlt, hwl]) hmem hops hfresh C a w _ _ hd (by rw [hwn]; exact hdn) ⟨S, β, hs1⟩ hnext)
          · rw [if_neg (by simp [Region.wanted, hg, hy, htw])]
            refine hnext _ _ ?_
            rw [hd, hv, ho0]
            exact ⟨S, β, hs1.put (by rw [hn]; exact hdn) (.flat (.con _))⟩
      by_cases he : ∃ x, x < k ∧ EG l x ∧ x ∈ Region.ready .any l.toArray L
      · obtain ⟨x, hxk, ⟨ox, hox, heg⟩, hxr⟩ := he
        obtain ⟨o', ho', hcase⟩ := one x hxk hxr
        rw [hox] at ho'; cases ho'
        have hform : (∃ y n, ox.op = .extract y n) ∧ ox.guard = none ∧ ∃ d, ox.dst = some d := by
          unfold isEager at heg
          split at heg
          · rename_i y n hop
            simp only [Bool.and_eq_true, Option.isNone_iff_eq_none, Option.isSome_iff_exists] at heg
            exact ⟨⟨y, n, hop⟩, heg.1, heg.2⟩
          · cases heg
        obtain ⟨⟨y, n, hop⟩, hg, d, hd⟩ := hform
        rcases hcase with ⟨_, hwp⟩ | ⟨hgn, _⟩
        · obtain ⟨v, hv, hK⟩ := extract_yields hop hwp
          obtain ⟨_, o2, ho2, hdir⟩ := (ready_iff hl).1 hxr
          rw [hox] at ho2; cases ho2
          have hfr := hc.free x hxk
          unfold eagerFree at hfr
          rw [hox] at hfr
          simp only [heg, Bool.not_true, Bool.false_or, List.all_eq_true, List.mem_range] at hfr
          refine wpAny_first (v := v) (by simpa using hox) (Region.noSelect_spec hc.nosel) ?_ fuel L a w ?_ hxr (.inl ⟨by simp [Region.wanted, hg], hv⟩) hK
          · rintro c a w ⟨s, hq, S, β, hs⟩
            rw [hd] at hs
            exact ⟨_, hpan c s d hq, S, β, hs.unput⟩
          · intro j oj hj hne hun hno
            have hjl : j < l.length := by
              have := (Array.getElem?_eq_some_iff.1 hj).1
              simpa using this
            have hj' : l[j]? = some oj := by simpa using hj
            have := hfr j hjl
            rw [hj'] at this
            simp only [Bool.or_eq_true, beq_iff_eq] at this
            rcases this with (h | h) | h | h
            · exact absurd h.symm hne
            · have hL := masks_spec (L := LS L) hl.closed x ox j hox hdir h
              unfold LS at hL
              have hjs : j < L.size := by rw [hl.size]; exact hjl
              simp [Array.getD, hjs] at hL hun
              rw [hL] at hun; cases hun
            · exact h
            · obtain ⟨e, hem, heb⟩ := List.any_eq_true.1 h
              simp only [Bool.and_eq_true, beq_iff_eq] at heb
              exact absurd heb.2 (hno e (by simpa using hem) heb.1)
        · exact absurd hg hgn
      · refine ⟨fun hr => (by rw [hr] at hi0; cases hi0), fun i hi => ?_⟩
        obtain ⟨hni, o, ho, hdir⟩ := (ready_iff hl).1 hi
        have hlen : i < l.length := (List.getElem?_eq_some_iff.1 ho).1
        have hik : i < k := by
          by_cases hlt' : i < k
          · exact hlt'
          · have h0 := ((ready_iff hl).1 hi0).1
            rcases hc.tail i i0 (by omega) hlen (by omega) with ht | ht | ht
            · exact absurd (masks_spec (L := LS L) hl.closed i o i0 ho hdir ht) h0
            · exact absurd (hF i0 hik0 (mem_floats.1 ht).2) h0
            · exact absurd ⟨i0, ht.1, ht.2, hi0⟩ he
        obtain ⟨o', ho', hcase⟩ := one i hik hi
        rcases hcase with ⟨hg, hwp⟩ | ⟨_, hw⟩
        · unfold wpOp
          rw [show l.toArray[i]? = some o' from by simpa using ho']
          simp only
          rw [if_pos (by simp [Region.wanted, hg])]
          exact .inl hwp
        · exact hw

/-- a region that draws its order -/
theorem AW.eager (b : Bool) (nq F : List Nat) {id : Nat} (hm : P.follows .mixedOrders = true) (hpan : PanOk Q) (hc : chkEager l (l.takeWhile (isCalm b nq)).length = true) (hF : (F.all fun k => !hasK st.lent k) = true)
    (h : FW b nq P l.toArray Q (masks l) F l l (st.wipeL F)) : AW P (.region id l.toArray true) Q st := fun C a w hs => by
  have hc := chkE_spec hc
  have hs := hs.wipeL F hF
  have hFr := Fr.all F hF
  generalize st.wipeL F = s at h hs hFr
  obtain ⟨hok, hcw⟩ := FW.out (l := l) l 0 s (fun j o hj => by simpa using hj) h
  obtain ⟨rs, h1, h2, h3, h4, h5, h6, h7, h8⟩ := CW.out l 0 [] _ hcw
  have hfls : floats l (l.takeWhile (isCalm b nq)).length = fl1 (l.take (l.takeWhile (isCalm b nq)).length) 0 := rfl
  rw [← hfls] at hok h3 h8 hcw
  generalize hk : (l.takeWhile (isCalm b nq)).length = k at *
  obtain ⟨f1, f2, f3⟩ := flP_same l (floats l k) s
  have hle := hc.le
  have hnone0 : ∀ j, ¬ LS (Array.replicate l.length false) j := fun j hL => by
    unfold LS at hL
    simp only [Array.getD_eq_getD_getElem?, Array.getElem?_replicate] at hL
    split at hL <;> cases hL
  have hfll : (floats l k).length ≤ l.length := Nat.le_trans (fl1_len _ _) (by rw [List.length_take]; omega)
  have hnone : ∀ i, i < k → (FL l i ↔ rs[i]? = some none) := fun i hi => h2 i (by omega)
  refine wp_region_any hm ?_
  have hsz : l.toArray.size = (l.length - (floats l k).length) + (floats l k).length := by simp; omega
  rw [hsz]
  have hsz2 : (l.length - (floats l k).length) + (floats l k).length = l.length := by omega
  rw [hsz2]
  rw [← hsz2]
  refine floatsAny hc.nosel hpan (floats l k) _ _ [] s (by rw [hsz2]; exact hc.fl) ?_ hok ?_ _ _ ?_
  · rw [hsz2]
    refine ⟨by simp, List.nodup_nil, fun j => ?_, fun j hj => (by cases hj), fun i o _ hL => absurd hL (hnone0 _)⟩
    constructor
    · intro h; cases h
    · intro h; exact absurd h (hnone0 _)
  · intro L' ls' hl' hL' hlen a' w' hs'
    rw [hsz2] at hL'
    have hL2 : ∀ j, LS L' j ↔ j ∈ floats l k := fun j => by
      rw [hL']; exact ⟨fun h => h.resolve_left (hnone0 j), .inr⟩
    refine drawE (F := F) hc hpan (by rw [h1]) ⟨?_, ?_, ?_, ?_, ?_⟩ hnone ?_ h8 _ L' ls' _ a' w' hl' ?_ ?_ ?_ rfl rfl ?_ hs'
    · exact fun k' hk' => Fr.flP _ _ (hFr k' hk')
    · exact fun i r hi k' hk' => (h4 i r hi k' hk').1
    · exact h5
    · exact h6
    · intro i r k' hi hk' hn
      rcases h7 i r k' hi hk' hn with g | ⟨j', g1, _⟩ | ⟨j', p, g1, g2, g3⟩
      · exact .inl g
      · cases g1
      · exact .inr ⟨j', p, g1, g2, by simpa using g3⟩
    · intro i o r ho hr
      have := h3 i o r ho hr
      rw [f2]
      exact this
    · exact fun j hj => (mem_floats.1 ((hL2 j).1 hj)).1
    · exact fun j hj hf => (hL2 j).2 (mem_floats.2 ⟨hj, hf⟩)
    · rw [hlen]; simp only [List.length_nil]; omega
    · refine (AgR.refl rs _).congr fun j r hj => ⟨fun hL => ?_, fun h => h.elim⟩
      have hjk : j < k := by have := (List.getElem?_eq_some_iff.1 hj).1; omega
      have := (hnone j hjk).1 (mem_floats.1 ((hL2 j).1 hL)).2
      rw [hj] at this; cases this
  · obtain ⟨S, β, hs⟩ := hs
    exact hs.drawn _
end
end Go.Abs

/- A library of mine, its fifty-first text: appending to nothing in a region that draws its order. -/
namespace Go.Abs
set_option linter.unusedSimpArgs false
set_option linter.unusedVariables false
open Go Go.RowKit

section
variable {P : Program} {C : Ctx} {S : Nat → Prop} {β : Nat → Option BI} {st st' : St} {a : Act} {w w' : World} {l : List Oper} {rest : List Oper} {o : Oper}

/-- a slice without elements, built: nothing -/
theorem QS.build0 {d : Nat} {t : TypeId} {e sz by_ : Nat} (ho : o.op = .buildSlice t 0 #[]) (he : eltT P t = some (e, sz, by_)) : QS P st o d .nils [d] [] := by
  intro st' hn hl hm hev hf C a w K Q' hd hdn ⟨S, β, hs⟩ hK
  have hfr := hf d (List.mem_singleton_self _)
  obtain ⟨hu, i, hi, rfl, rfl⟩ := eltT_spec he
  have hrun : (Instr.buildSlice t 0 #[]).run P w = .ok (.slice (some ⟨w.heap.size, 0, none⟩) 0 0) { w with heap := w.heap.push (.cells #[] e) } := by
    simp only [Instr.buildSlice, Sem.run_bind, run_underlying hu, Result.andThen_ok, run_sizeOf' hi, gt_iff_lt]
    rw [if_neg (by simp)]
    have hr0 : Array.range 0 = #[] := by simp
    simp [Instr.fill, newRow]
    rw [hr0, show Array.map (fun (_ : Nat) => (default : Value)) #[] = #[] by simp]
  have hx : (execOp a.eval o).run P w = .ok (.value (.slice (some ⟨w.heap.size, 0, none⟩) 0 0)) { w with heap := w.heap.push (.cells #[] e) } := by
    unfold execOp
    simp only [ho, Sem.run_bind]
    have e0 : (#[] : Array (Nat × Operand)).map (fun (x : Nat × Operand) => (x.1, a.eval x.2)) = #[] := by simp
    rw [e0, hrun]; rfl
  obtain ⟨β', hs'⟩ := hs.newobj (d := d) (by rw [hn]; exact hdn) true [] #[] e (0, 0) w.drawn (nofz0 _) (Nat.le_refl _) (fun j v h => by simp at h) (v := .nils) (u := .slice (some ⟨w.heap.size, 0, none⟩) 0 0) (fun β' _ S' w'' => .flat (.nils _))
  unfold Oper.wp
  rw [hx]
  show K (a.put o.dst _) _
  rw [hd]
  refine hK _ _ ⟨S, β', hs'.forget ?_ ?_ (fun t => .inl ?_) (fun k ob hk => ?_)⟩
  · rfl
  · show st'.lent = unpin d st'.lent
    rw [unpin_id hfr.lent]
  · rw [St.get_add, St.get_put]
    split
    · rfl
    · unfold St.create; rw [hfr.repl_get]
  · rw [St.obj_add] at hk
    have hk : st'.obj k = some ob := hk
    have e1 : ((st'.create d true []).put d .nils).obj k = (st'.create d true []).obj k := rfl
    rw [e1]; unfold St.create
    rw [hfr.repl_obj]
    split
    · rename_i e; subst e; rw [hfr.obj] at hk; cases hk
    · exact hk
theorem xsOf_mono {tx : TypeId} {sz : Nat} {x : V} {r : Nat × List V} (hm : ∀ k o, st.obj k = some o → st'.obj k = some o) (h : xsOf P st tx sz x = some r) : xsOf P st' tx sz x = some r := by
  unfold xsOf at h ⊢
  cases x with
  | ref k off n s =>
    simp only at h ⊢
    cases hb : (eltT P tx).isSome && s == sz with
    | false => rw [hb] at h; cases h
    | true =>
      rw [hb] at h
      simp only [cond_true] at h ⊢
      split at h
      · rename_i ob hob; rw [hm _ _ hob]; exact h
      · cases h
  | _ => exact h
/-- append to nothing: an object of its own -/
theorem QS.app0 {d n : Nat} {t tx : TypeId} {s x : Operand} {e sz by_ : Nat} {z : Value} {xs : List V} (ho : o.op = .call { callee := .builtin .append, args := #[s, x], argTypes := #[t, tx] })
    (he : eltT P t = some (e, sz, by_)) (hz : zeroT P e = some z) (hb : ((zcells z).length == sz && Nat.ble 1 by_) = true) (hs0 : st.ev s = .nils) (hx : xsOf P st tx sz (st.ev x) = some (n, xs)) (hc : roomC by_ n) :
    QS P st o d (.ref d 0 n sz) [d] [(d, ⟨true, xs⟩)] := by
  intro st' hn hl hm hev hf C a w K Q' hd hdn ⟨S, β, hs⟩ hK
  have hfr := hf d (List.mem_singleton_self _)
  have h1 : st'.ev s = .nils := (hev s (by rw [ho]; simp [Op.operands, Call.operands])).trans hs0
  have h2 : st'.ev x = st.ev x := hev x (by rw [ho]; simp [Op.operands, Call.operands])
  have hx' := xsOf_mono hm hx
  simp only [Bool.and_eq_true, Nat.ble_eq] at hb
  have hA : appendS P st' d t tx (st'.ev s) (st'.ev x) = some (roomC by_ n, (st'.repl d { flat := true, cs := xs }).put d (.ref d 0 n sz)) := by
    unfold appendS
    rw [h1, h2]
    simp only [he, headOf, hx', hz, hb.1, decide_eq_true (show 0 < by_ from hb.2), List.nil_append, Nat.zero_add, Bool.and_true, Bool.true_and]
    rw [hn, decide_eq_true hdn]; rfl
  obtain ⟨a', w', S', β', hr, hs'⟩ := appendS_sound ho hd hA hc hs
  have hfin : SRx C (st'.add d (.ref d 0 n sz) [(d, ⟨true, xs⟩)]) a' w' := by
    refine SRx.ext2 ⟨S', β', hs'⟩ rfl (fun k => ?_) ?_ (fun t => ?_)
    · rw [St.obj_add]
      have e1 : ((st'.repl d ⟨true, xs⟩).put d (.ref d 0 n sz)).obj k = (st'.repl d ⟨true, xs⟩).obj k := rfl
      rw [e1, hfr.repl_obj]
      simp only [lk]
      by_cases hk : k = d
      · subst hk; simp
      · rw [if_neg hk, show (d == k) = false from by simpa using fun e => hk e.symm]; rfl
    · show st'.lent = unpin d st'.lent
      rw [unpin_id hfr.lent]
    · rw [St.get_add, St.get_put]
      split
      · rfl
      · rw [hfr.repl_get]
  have := hK _ _ hfin
  unfold Oper.wp
  rcases hr with ⟨u, hr, rfl⟩ | ⟨hr, rfl⟩
  · rw [hr]; exact this
  · rw [hr]; exact this
end
section
variable {P : Program} {b : Bool} {nq ms F : List Nat} {M : List (Nat × Obj1)} {U : List (Nat × Nat)} {i : Nat} {o : Oper} {rest : List Oper} {ops : Array Oper} {Q : Exit → St → Prop} {st : St}
theorem FitS.flat1 {d n sz : Nat} {xs : List V} (hn : newKs F U [d] = true) : FitS ms F U i ⟨d, .ref d 0 n sz, [d], [(d, ⟨true, xs⟩)]⟩ := by
  refine ⟨newKs_spec hn, fun k hk => ?_, fun k hk hn => .inl ⟨?_, fun k' ob ho => ?_⟩⟩
  · simp only [lk] at hk
    by_cases e : d = k
    · subst e; simp
    · rw [show (d == k) = false from by simpa using e] at hk; exact absurd rfl hk
  · rw [wipe_ref, show (d == k) = false from by rw [beq_eq_false_iff_ne]; exact fun e => hn (by subst e; simp)]; rfl
  · simp only [lk] at ho
    cases e : d == k' with
    | false => rw [e] at ho; cases ho
    | true =>
      rw [e] at ho
      simp only [cond_true, Option.some.injEq] at ho
      subst ho
      rfl
theorem CWr.build0 {d : Nat} {t : TypeId} {e sz by_ : Nat} (ho : o.op = .buildSlice t 0 #[]) (he : eltT P t = some (e, sz, by_)) (hn : newKs F U [d] = true)
    (k : CW b nq P ops Q ms F M rest (i + 1) ((d, i) :: U) (st.put d .nils)) : CWr b nq P ops Q ms F M o rest i U st d := by
  refine ⟨⟨d, _, [d], []⟩, rfl, QS.build0 ho he, FitS.build hn ?_, k⟩
  have : ∀ F : List Nat, FitV ms U i [d] .nils F := by
    intro F
    induction F with
    | nil => trivial
    | cons k F ih => exact ⟨.inr (.inl rfl), ih⟩
  exact this F
theorem CWr.app0 {d n : Nat} {t tx : TypeId} {s x : Operand} {e sz by_ : Nat} {z : Value} {xs : List V} (ho : o.op = .call { callee := .builtin .append, args := #[s, x], argTypes := #[t, tx] })
    (hs0 : (st.wm M).ev s = .nils) (he : eltT P t = some (e, sz, by_)) (hz : zeroT P e = some z) (hb : ((zcells z).length == sz && Nat.ble 1 by_) = true) (hx : xsOf P (st.wm M) tx sz ((st.wm M).ev x) = some (n, xs)) (hn : newKs F U [d] = true) (hc : roomC by_ n)
    (k : CW b nq P ops Q ms F M rest (i + 1) ((d, i) :: U) (st.add d (.ref d 0 n sz) [(d, ⟨true, xs⟩)])) : CWr b nq P ops Q ms F M o rest i U st d :=
  ⟨⟨d, _, [d], _⟩, rfl, QS.app0 ho he hz hb hs0 hx hc, FitS.flat1 hn, k⟩
end
/-- what is handed on is frozen first, if it is there -/
theorem AWL.frzAt {P : Program} {ops : Array Oper} {l : List Oper} {Q : Exit → St → Prop} {st : St} (k : Nat) (_h : (st.obj k).isSome = true) (h : AWL P ops l Q (st.freeze k)) : AWL P ops l Q st := AWL.frz k h
end Go.Abs

/- A library of mine, its fifty-second text: append, both ways: old names stay. -/
namespace Go.Abs
set_option linter.unusedSimpArgs false
set_option linter.unusedVariables false
open Go Go.RowKit

section
variable {P : Program} {C : Ctx} {S : Nat → Prop} {β β' : Nat → Option BI} {st st' : St} {a : Act} {w w' : World} {o : Oper} {Q : Exit → St → Prop} {ops : Array Oper} {rest : List Oper}

theorem VR.wider (hβ : ∀ j bi, β j = some bi → ∃ bi', β' j = some bi' ∧ bi'.blk = bi.blk ∧ bi'.off = bi.off ∧ bi'.tot = bi.tot ∧ bi.len ≤ bi'.len) {v : V} {u : Value} (h : VR S w β v u) : VR S w β' v u := by
  induction h with
  | flat h => exact .flat h
  | any u => exact .any u
  | ref k off n sz A c h =>
    refine .ref k off n sz A c ?_
    rcases h with h | ⟨bi, hbi, hA, h1, h2, h3⟩
    · exact .inl h
    · obtain ⟨bi', hb', e1, e2, e3, e4⟩ := hβ k bi hbi
      exact .inr ⟨bi', hb', by rw [hA, e1, e2], h1, by rw [e2, e3]; exact h2, Nat.le_trans h3 e4⟩
  | ptr k off bi h =>
    obtain ⟨bi', hb', e1, e2, e3, e4⟩ := hβ k bi h
    rw [← e1, ← e2]
    exact .ptr k off bi' hb'
  | agg cs us hl hr ih => exact .agg cs us hl ih
  | tup vs us hl hr ih => exact .tup vs us hl ih
  | fn f cap us hl hr ih => exact .fn f cap us hl ih
theorem mem_hasK {j : Nat} {x : Option BI} : ∀ {l : List (Nat × Option BI)}, (j, x) ∈ l → hasK l j = true
  | [], h => by cases h
  | p :: l, h => by
    rcases List.mem_cons.1 h with rfl | h
    · simp [hasK]
    · simp [hasK, mem_hasK h]
/-- cells of the object k are written in place, and it may become longer -/
theorem SR.write2 (h : SR C S β st a w) (k : Nat) (o' : Obj1) {bi bi' : BI} (hk : (st.obj k).isSome = true) (hlent : hasK st.lent k = false) (hb : β k = some bi) (h1 : bi'.blk = bi.blk) (h2 : bi'.off = bi.off) (h3 : bi'.tot = bi.tot) (h4 : bi.len ≤ bi'.len)
    (hos : w'.os = w.os) (htape : w'.tape = w.tape) (hout : w'.output = w.output) (hsize : w.heap.size = w'.heap.size)
    (hkeep : ∀ b, b < w.heap.size → b ≠ bi.blk → w'.heap[b]? = w.heap[b]?)
    (hor : OR S w' (upd β k (some bi')) k o') : SR C S (upd β k (some bi')) (st.setObj k o') a w' := by
  have hSk : ∀ b, S b → w'.heap[b]? = w.heap[b]? := fun b hb' => hkeep b (h.slt b hb') (fun e => (h.own k bi hk hb).1 (e ▸ hb'))
  have hsome : ∀ {j}, ((st.setObj k o').obj j).isSome = true → (st.obj j).isSome = true := by
    intro j hj
    rw [St.obj_setObj] at hj
    by_cases e : j = k
    · rw [e]; exact hk
    · rw [if_neg e] at hj; exact hj
  have hβ : ∀ j bj, β j = some bj → ∃ bj', upd β k (some bi') j = some bj' ∧ bj'.blk = bj.blk ∧ bj'.off = bj.off ∧ bj'.tot = bj.tot ∧ bj.len ≤ bj'.len := fun j bj hj => by
    by_cases e : j = k
    · subst e; rw [hb] at hj; cases hj; exact ⟨bi', upd_same _ _ _, h1, h2, h3, h4⟩
    · exact ⟨bj, (upd_other _ _ _ _ e).trans hj, rfl, rfl, rfl, Nat.le_refl _⟩
  have hback : ∀ j bj, upd β k (some bi') j = some bj → ∃ b0, β j = some b0 ∧ b0.blk = bj.blk := fun j bj hj => by
    by_cases e : j = k
    · subst e; rw [upd_same] at hj; cases hj; exact ⟨bi, hb, h1.symm⟩
    · rw [upd_other _ _ _ _ e] at hj; exact ⟨bj, hj, rfl⟩
  exact {
    tsize := h.tsize
    slots := fun i => VR.wider hβ (VR.step (h.slots i) (fun _ h => h) hSk)
    defers := h.defers
    objs := fun j o ho => by
      rw [St.obj_setObj] at ho
      by_cases hj : j = k
      · subst hj; simp only [if_true, Option.some.injEq] at ho; subst ho; exact hor
      · rw [if_neg hj] at ho
        have := OR.step (h.objs j o ho) (fun _ h => h) hSk (fun bj hbij => hkeep _ (h.blk_lt (by simp [ho]) hbij) (fun e => hj (h.inj j k bj bi (by simp [ho]) hk hbij hb e))) (k' := j) (β' := upd β k (some bi')) (upd_other _ _ _ _ hj) id (fun v u hv => VR.wider hβ hv)
        cases o with
        | mk fl cs => cases fl <;> simpa using this
    inj := fun j j' bj bj' hj hj' hbj hbj' hblk => by
      obtain ⟨b0, hb0, e0⟩ := hback j bj hbj
      obtain ⟨b1, hb1, e1⟩ := hback j' bj' hbj'
      exact h.inj j j' b0 b1 (hsome hj) (hsome hj') hb0 hb1 (by rw [e0, e1]; exact hblk)
    own := fun j bj hj hbj => by
      obtain ⟨b0, hb0, e0⟩ := hback j bj hbj
      have := h.own j b0 (hsome hj) hb0
      rw [e0] at this
      exact this
    pins := fun j bj hj => by
      by_cases e : j = k
      · subst e
        have : hasK st.lent j = true := mem_hasK hj
        rw [this] at hlent; cases hlent
      · rw [upd_other _ _ _ _ e]; exact h.pins j bj hj
    sub := h.sub
    snew := h.snew
    slt := fun b hb' => by rw [← hsize]; exact h.slt b hb'
    frame := ⟨hos.trans h.frame.os, htape.trans h.frame.tape, hout.trans h.frame.output, by rw [← hsize]; exact h.frame.size, fun b hb' hl =>
      (hkeep b (Nat.lt_of_lt_of_le hb' h.frame.size) (fun e => by
        rcases (h.own k bi hk hb).2 with hge | hL
        · omega
        · exact hl (e ▸ hL.1))).trans (h.frame.block b hb' hl)⟩ }
/-- append to all of an own object: either it becomes longer, or another one is made; the old names stay -/
theorem append2_sound {t tx : TypeId} {s x : Operand} {d k off n sz m : Nat} {e by_ : Nat} {cs xs : List V} {z : Value} (ho : o.op = .call { callee := .builtin .append, args := #[s, x], argTypes := #[t, tx] }) (hd : o.dst = some d) (hdn : d < st.n)
    (he : eltT P t = some (e, sz, by_)) (hz0 : zeroT P e = some z) (hzs0 : ((zcells z).length == sz && Nat.ble 1 by_) = true) (hs : st.ev s = .ref k off n sz) (hob : st.obj k = some ⟨true, cs⟩) (hcl : cs.length = off + n * sz) (hlent : hasK st.lent k = false)
    (hxs : xsOf P st tx sz (st.ev x) = some (m, xs)) (hc : roomC by_ (n + m)) (hsr : SR C S β st a w) :
    Ends C P o a w ((st.create d true (cs.drop off ++ xs)).put d (.ref d 0 (n + m) sz)) ∨ Ends C P o a w ((st.setObj k ⟨true, cs ++ xs⟩).put d (.ref k off (n + m) sz)) := by
  simp only [Bool.and_eq_true, Nat.ble_eq] at hzs0
  obtain ⟨hzl, hby⟩ := hzs0
  replace hc := roomC_spec hc
  obtain ⟨hu, i, hi, rfl, rfl⟩ := eltT_spec he
  have hz' : i.zero = some z := by unfold zeroT at hz0; rw [hi] at hz0; exact hz0
  have hzs : z.cells.size = i.size := by simpa [zcells] using hzl
  have hold : (cs.drop off).take (n * i.size) = cs.drop off := List.take_of_length_le (by rw [List.length_drop]; omega)
  have hhead : headOf st d i.size (st.ev s) = some (k, n, cs.drop off) := by
    unfold headOf; rw [hs]; simp only [beq_self_eq_true, cond_true, hob, hold]
  obtain ⟨A, cp, olds, hvs, hncp, hol, hoL, hor, hoa, hcase⟩ := headOf_values hhead hsr (ev_VR hsr s)
  obtain ⟨news, dx, hdx, hdx', hnl, hnL, hnr, hlen, hfirst⟩ := xs_values hxs hsr (ev_VR hsr x)
  have hmul : n + m ≤ (n + m) * i.bytes := Nat.le_mul_of_pos_right _ hby
  have h63 : n + m ≤ maxLen := by simp only [maxLen]; omega
  have hall : (cs.drop off ++ xs).length = (n + m) * i.size := by rw [List.length_append, hoL, hnL, Nat.add_mul]
  have hallu : (olds ++ news).length = (n + m) * i.size := by rw [List.length_append, hol, hnl, Nat.add_mul]
  have hR : ∀ (j : Nat) (v : V) (u : Value), (cs.drop off ++ xs)[j]? = some v → (olds ++ news)[j]? = some u → CellR S w β true v u := by
    intro j v u hv hu
    by_cases hj : j < (cs.drop off).length
    · rw [List.getElem?_append_left hj] at hv
      rw [List.getElem?_append_left (by omega)] at hu
      exact hor j v u hv hu
    · rw [List.getElem?_append_right (by omega)] at hv
      rw [List.getElem?_append_right (by omega)] at hu
      rw [hol, ← hoL] at hu
      exact hnr _ v u hv hu
  have hR' : ∀ (j : Nat) (v : V), (cs.drop off ++ xs)[j]? = some v → ∃ u, (olds ++ news)[j]? = some u ∧ CellR S w β true v u := by
    intro j v hv
    have hj : j < (olds ++ news).length := by have := (List.getElem?_eq_some_iff.1 hv).1; omega
    exact ⟨_, List.getElem?_eq_getElem hj, hR j v _ hv (List.getElem?_eq_getElem hj)⟩
  have h1c : ∀ u ∈ news, u.oneCell' = true := fun u hu => by
    obtain ⟨j, hj⟩ := List.mem_iff_getElem?.1 hu
    have hj' : j < xs.length := by have := (List.getElem?_eq_some_iff.1 hj).1; omega
    exact (hnr j _ u (List.getElem?_eq_getElem hj') hj).1
  have hrun : ∀ w1 : World, (n + m ≤ cp → ∀ ad, A = some ad → (storeCells (ad.add (n * i.size)) news).run P w = .ok () w1) → (n + m ≤ cp → A = none → w1 = w) →
      (execOp a.eval o).run P w = (if n + m ≤ cp then .ok (.value (.slice A (n + m) cp)) w1
        else .ok (.value (.slice (some ⟨w.heap.size, 0, none⟩) (n + m) (grownCap w (n + m) cp e)))
          (w.drew.alloc (.cells ((olds ++ news).toArray ++ Builtin.zeroCells z.cells (grownCap w (n + m) cp e - (n + m))) e))) := by
    intro w1 hst hst0
    have := run_append_g (P := P) (w := w) t tx o.type e i z dx hu hi hz' hdx hdx' A n cp (a.eval x) m news olds hlen hfirst (fun dr => run_first_cells hol hoa) w1 hst hst0 h63 hc
    unfold execOp
    simp only [ho, resolve, invoke, builtin, Sem.run_bind, Sem.run_pure, Result.andThen_ok, List.map_toArray, List.map_cons, List.map_nil, hvs, this]
    split <;> rfl
  by_cases hroom : n + m ≤ cp
  · right
    rcases hcase with ⟨hn0, hc0⟩ | ⟨off', ob, bi, hob', hfl, hold', hbi, hA, htot, hfit⟩
    · have hm0 : m = 0 := by omega
      subst hn0 hc0 hm0
      have hnews : news = [] := List.eq_nil_of_length_eq_zero (by simpa using hnl)
      have hxs0 : xs = [] := List.eq_nil_of_length_eq_zero (by simpa using hnL)
      have hr := hrun w (fun _ ad _ => by rw [hnews]; rfl) (fun _ _ => rfl)
      rw [if_pos hroom] at hr
      have hsame : SR C S β (st.setObj k ⟨true, cs ++ xs⟩) a w := by
        rw [hxs0, List.append_nil]
        refine hsr.ext2 rfl (fun j => ?_) rfl (fun _ => rfl)
        rw [St.obj_setObj]
        split
        · rename_i e; rw [e, hob]
        · rfl
      exact ⟨_, w, S, _, .inl ⟨_, hr, by rw [hd]⟩, hsame.put hdn (.ref _ _ _ _ _ _ (.inl ⟨rfl, rfl⟩))⟩
    · rw [hob] at hob'; cases hob'
      rcases hsr.objs k _ hob with ⟨_, _, h3⟩ | ⟨bi', cur, e', fz, hbi', horx⟩
      · rw [h3] at hbi; cases hbi
      rw [hbi'] at hbi; cases hbi
      have hVR := ev_VR hsr s
      rw [hs, hvs] at hVR
      obtain ⟨A2, c2, hA2e, hA2c⟩ := VR.ref_inv hVR
      cases hA2e
      by_cases hz00 : n = 0 ∧ cp = 0
      · obtain ⟨hn0, hc0⟩ := hz00
        have hm0 : m = 0 := by omega
        subst hn0 hc0 hm0
        have hnews : news = [] := List.eq_nil_of_length_eq_zero (by simpa using hnl)
        have hxs0 : xs = [] := List.eq_nil_of_length_eq_zero (by simpa using hnL)
        have hst0 : ∀ ad : Addr, (storeCells ad news).run P w = .ok () w := fun ad => by rw [hnews]; rfl
        have hr := hrun w (fun _ ad _ => hst0 _) (fun _ _ => rfl)
        rw [if_pos hroom] at hr
        have hsame : SR C S β (st.setObj k ⟨true, cs ++ xs⟩) a w := by
          rw [hxs0, List.append_nil]
          refine hsr.ext2 rfl (fun j => ?_) rfl (fun _ => rfl)
          rw [St.obj_setObj]
          split
          · rename_i e; rw [e, hob]
          · rfl
        exact ⟨_, w, S, _, .inl ⟨_, hr, by rw [hd]⟩, hsame.put hdn (.ref _ _ _ _ _ _ (.inl ⟨rfl, rfl⟩))⟩
      · rcases hA2c with h0 | ⟨bi2, hb2, hA3, hA4, hA5, hA6⟩
        · exact absurd h0 hz00
        rw [hbi'] at hb2; cases hb2
        have hsize := horx.size
        have hlen0 := horx.len
        have hlen1 : bi.len = cs.length := hlen0
        have hmn : (n + m) * i.size ≤ cp * i.size := Nat.mul_le_mul_right _ hroom
        have hadd : (n + m) * i.size = n * i.size + m * i.size := Nat.add_mul _ _ _
        have hst := run_storeCells_obj (P := P) horx (bi.off + off + n * i.size) news (by omega) h1c
        have hr := hrun _ (fun _ ad e => by rw [hA3] at e; cases e; rw [add_addr]; exact hst) (fun _ e => by rw [hA3] at e; cases e)
        rw [if_pos hroom] at hr
        obtain ⟨hos, htape, hout⟩ := setCells_rest bi.blk news (bi.off + off + n * i.size) w
        have hSb : ¬ S bi.blk := (hsr.own k bi (by simp [hob]) hbi').1
        have hSk : ∀ b, S b → (w.setCells bi.blk (bi.off + off + n * i.size) news).heap[b]? = w.heap[b]? := fun b hb => setCells_other _ _ _ _ _ (fun e => hSb (e ▸ hb))
        have hs2 := hsr.write2 k ⟨true, cs ++ xs⟩ (bi := bi) (bi' := ⟨bi.blk, bi.off, bi.tot, (cs ++ xs).length⟩) (by simp [hob]) hlent hbi' rfl rfl rfl (by show bi.len ≤ (cs ++ xs).length; rw [List.length_append]; omega) hos htape hout (setCells_size _ _ _ _).symm
          (fun b _ hbb => setCells_other _ _ _ _ _ hbb)
          (.inr ⟨_, _, e', fz, upd_same _ _ _, setCells_heap _ _ _ _ _ _ _ horx.heap, by rw [setA_size]; exact hsize, by rw [setA_size]; exact horx.free, by show bi.off + (cs ++ xs).length ≤ bi.tot; rw [List.length_append, hnL]; omega, rfl, fun j v hv => by
            show ∃ u, (setA cur (bi.off + off + n * i.size) news)[bi.off + j]? = some u ∧ _
            have hv : (cs ++ xs)[j]? = some v := hv
            rw [setA_get _ _ _ _ (by omega)]
            by_cases hj : j < cs.length
            · rw [List.getElem?_append_left hj] at hv
              obtain ⟨u, hu', h1', hr'⟩ := horx.cells j v hv
              refine ⟨u, by rw [if_neg (by omega)]; exact hu', h1', ?_⟩
              rw [if_pos rfl] at hr' ⊢
              exact ⟨hr'.1, hr'.2.step (fun _ h => h) hSk⟩
            · rw [List.getElem?_append_right (by omega)] at hv
              have hj2 : j - cs.length < xs.length := (List.getElem?_eq_some_iff.1 hv).1
              have hj3 : j - cs.length < news.length := by omega
              have hcr := hnr (j - cs.length) v _ hv (List.getElem?_eq_getElem hj3)
              refine ⟨news[j - cs.length], ?_, hcr.1, ?_⟩
              · rw [if_pos (by omega), show bi.off + j - (bi.off + off + n * i.size) = j - cs.length from by omega]
                exact List.getElem?_eq_getElem hj3
              · have := hcr.2
                rw [if_pos rfl] at this ⊢
                exact ⟨this.1, this.2.step (fun _ h => h) hSk⟩⟩)
        refine ⟨_, _, S, _, .inl ⟨_, hr, by rw [hd]⟩, hs2.put hdn (.ref _ _ _ _ _ _ (.inr ⟨_, upd_same _ _ _, hA3, hroom, hA5, ?_⟩))⟩
        show off + (n + m) * i.size ≤ (cs ++ xs).length
        rw [List.length_append, hnL]; omega
  · left
    have hr := hrun w (fun h => absurd h hroom) (fun h => absurd h hroom)
    rw [if_neg hroom] at hr
    have hge := grownCap_ge w (n + m) cp e
    generalize hG : grownCap w (n + m) cp e = G at hr hge
    have hsz : ((olds ++ news).toArray ++ Builtin.zeroCells z.cells (G - (n + m))).size = (n + m) * i.size + (G - (n + m)) * z.cells.size := by
      rw [Array.size_append, size_zeroCells, List.size_toArray, hallu]
    have hs2 := hsr.create d true (cs.drop off ++ xs) ((olds ++ news).toArray ++ Builtin.zeroCells z.cells (G - (n + m))) e (0, 0) (w.drawn + 1) (nofz0 _) (by rw [hsz, hall]; omega) (fun j v hv => by
      obtain ⟨u, hu', hr'⟩ := hR' j v hv
      refine ⟨u, ?_, hr'.1, hr'.2⟩
      rw [Array.getElem?_append_left (by simpa using (List.getElem?_eq_some_iff.1 hu').1)]
      simpa using hu')
    refine ⟨_, _, S, _, .inl ⟨_, hr, by rw [hd]⟩, hs2.put hdn (.ref _ _ _ _ _ _ (.inr ⟨_, upd_same _ _ _, by simp, hge, ?_, by simp [hall]⟩))⟩
    rw [hsz, hzs, ← Nat.add_mul]
    simp only [Nat.zero_add]
    exact Nat.mul_le_mul_right _ (by omega)
/-- the rule: the rest is walked for either -/
theorem AWL.append2 (d : Nat) {t tx : TypeId} {s x : Operand} {k off n sz m : Nat} {e by_ : Nat} {cs xs : List V} {z : Value} (hd : o.dst = some d) (hg : o.guard = none) (ho : o.op = .call { callee := .builtin .append, args := #[s, x], argTypes := #[t, tx] })
    (hs : st.ev s = .ref k off n sz) (hob : st.obj k = some ⟨true, cs⟩) (he : eltT P t = some (e, sz, by_)) (hz0 : zeroT P e = some z) (hzs0 : ((zcells z).length == sz && Nat.ble 1 by_) = true) (hdn : Nat.ble (d + 1) st.n = true) (hlent : hasK st.lent k = false)
    (hxs : xsOf P st tx sz (st.ev x) = some (m, xs)) (hcl : cs.length = off + n * sz) (hc : roomC by_ (n + m))
    (h1 : AWL P ops rest Q ((st.create d true (cs.drop off ++ xs)).put d (.ref d 0 (n + m) sz))) (h2 : AWL P ops rest Q ((st.setObj k ⟨true, cs ++ xs⟩).put d (.ref k off (n + m) sz))) : AWL P ops (o :: rest) Q st := by
  intro C a w ⟨S, β, hsr⟩
  rcases append2_sound (P := P) ho hd (Nat.le_of_ble_eq_true hdn) he hz0 hzs0 hs hob hcl hlent hxs hc hsr with hE | hE
  · obtain ⟨a', w', S', β', hr, hs'⟩ := hE
    refine wpList_plain hg fun K hK => ?_
    unfold Oper.wp
    rcases hr with ⟨u, hr, rfl⟩ | ⟨hr, rfl⟩
    · rw [hr]; exact hK _ _ (h1 C _ _ ⟨S', β', hs'⟩)
    · rw [hr]; exact hK _ _ (h1 C _ _ ⟨S', β', hs'⟩)
  · obtain ⟨a', w', S', β', hr, hs'⟩ := hE
    refine wpList_plain hg fun K hK => ?_
    unfold Oper.wp
    rcases hr with ⟨u, hr, rfl⟩ | ⟨hr, rfl⟩
    · rw [hr]; exact hK _ _ (h2 C _ _ ⟨S', β', hs'⟩)
    · rw [hr]; exact hK _ _ (h2 C _ _ ⟨S', β', hs'⟩)
/-- likewise, and all of it is looked at only from then on -/
theorem AWL.append2F (d : Nat) {t tx : TypeId} {s x : Operand} {k off n sz m : Nat} {e by_ : Nat} {cs xs : List V} {z : Value} (hd : o.dst = some d) (hg : o.guard = none) (ho : o.op = .call { callee := .builtin .append, args := #[s, x], argTypes := #[t, tx] })
    (hs : st.ev s = .ref k off n sz) (hob : st.obj k = some ⟨true, cs⟩) (he : eltT P t = some (e, sz, by_)) (hz0 : zeroT P e = some z) (hzs0 : ((zcells z).length == sz && Nat.ble 1 by_) = true) (hdn : Nat.ble (d + 1) st.n = true) (hlent : hasK st.lent k = false)
    (hxs : xsOf P st tx sz (st.ev x) = some (m, xs)) (hcl : cs.length = off + n * sz) (hc : roomC by_ (n + m))
    (h1 : AWL P ops rest Q ((((st.create d true (cs.drop off ++ xs)).put d (.ref d 0 (n + m) sz)).freeze d).freeze k)) (h2 : AWL P ops rest Q (((st.setObj k ⟨true, cs ++ xs⟩).put d (.ref k off (n + m) sz)).freeze k)) : AWL P ops (o :: rest) Q st :=
  AWL.append2 d hd hg ho hs hob he hz0 hzs0 hdn hlent hxs hcl hc (AWL.frz d (AWL.frz k h1)) (AWL.frz k h2)
end
end Go.Abs

/- A library of mine, its fifty-third text: objects that name others: unflat, renamed; keys of lists of cells. -/
namespace Go.Abs
set_option linter.unusedSimpArgs false
set_option linter.unusedVariables false
open Go Go.RowKit
section
variable {P : Program} {C : Ctx} {S : Nat → Prop} {β : Nat → Option BI} {st st' : St} {a : Act} {w w' : World} {Q : Exit → St → Prop} {ops : Array Oper} {rest : List Oper} {o : Oper} {b : Bool}

/-- a flat object may name others from now on -/
theorem SR.unflat (h : SR C S β st a w) {k : Nat} {cs : List V} (ho : st.obj k = some ⟨true, cs⟩) (hne : cs ≠ []) : SR C S β (st.setObj k ⟨false, cs⟩) a w := by
  have hsome : ∀ j, ((st.setObj k ⟨false, cs⟩).obj j).isSome = (st.obj j).isSome := by
    intro j
    rw [St.obj_setObj]
    by_cases hj : j = k
    · subst hj; rw [if_pos rfl, ho]; rfl
    · rw [if_neg hj]
  refine { tsize := h.tsize, slots := h.slots, defers := h.defers, objs := ?_, inj := ?_, own := ?_, pins := h.pins, sub := h.sub, snew := h.snew, slt := h.slt, frame := h.frame }
  · intro j o' ho'
    rw [St.obj_setObj] at ho'
    by_cases hj : j = k
    · subst hj
      rw [if_pos rfl] at ho'
      cases ho'
      rcases h.objs j _ ho with ⟨h1, h2, h3⟩ | ⟨bi, cur, e, fz, hbi, hor⟩
      · exact absurd h2 hne
      · refine .inr ⟨bi, cur, e, fz, hbi, hor.heap, hor.size, hor.free, hor.fits, hor.len, ?_⟩
        intro i v hv
        obtain ⟨u, hu, hu1, hr⟩ := hor.cells i v hv
        exact ⟨u, hu, hu1, by rw [if_pos rfl] at hr; rw [if_neg (by simp)]; exact .flat hr.2⟩
    · rw [if_neg hj] at ho'
      exact h.objs j o' ho'
  · intro j j' bi bi' h1 h2
    rw [hsome] at h1 h2
    exact h.inj j j' bi bi' h1 h2
  · intro j bi h1
    rw [hsome] at h1
    exact h.own j bi h1
theorem AW.unflat {c : Code} (k : Nat) {cs : List V} (ho : st.obj k = some ⟨true, cs⟩) (hne : cs ≠ []) (h : AW P c Q (st.setObj k ⟨false, cs⟩)) : AW P c Q st := fun C a w ⟨S, β, hs⟩ => h C a w ⟨S, β, hs.unflat ho hne⟩
theorem AWL.unflat {l : List Oper} (k : Nat) {cs : List V} (ho : st.obj k = some ⟨true, cs⟩) (hne : cs ≠ []) (h : AWL P ops l Q (st.setObj k ⟨false, cs⟩)) : AWL P ops l Q st := fun C a w ⟨S, β, hs⟩ => h C a w ⟨S, β, hs.unflat ho hne⟩
/-- another name for an object -/
theorem AW.ren {c : Code} (k k' : Nat) (h : AW P c Q (st.rename k k')) : AW P c Q st := fun C a w ⟨S, β, hs⟩ => by
  obtain ⟨β', h'⟩ := hs.rename k k'
  exact h C a w ⟨S, β', h'⟩
theorem AWL.ren {l : List Oper} (k k' : Nat) (h : AWL P ops l Q (st.rename k k')) : AWL P ops l Q st := fun C a w ⟨S, β, hs⟩ => by
  obtain ⟨β', h'⟩ := hs.rename k k'
  exact h C a w ⟨S, β', h'⟩
end
/-- ahead of a store, what it lays is frozen -/
theorem AWL.frzSt {P : Program} {st : St} {Q : Exit → St → Prop} {ops : Array Oper} {rest : List Oper} {o : Oper} (k : Nat) (_hd : o.dst = none) (_hk : (st.obj k).isSome = true) (h : AWL P ops (o :: rest) Q (st.freeze k)) : AWL P ops (o :: rest) Q st := AWL.frz k h
/-! Comparing with nil. -/
def ptrT (P : Program) (t : TypeId) : Bool :=
  match P.underlying t with
  | some (.pointer _) => true
  | _ => false
theorem ptrT_spec {P : Program} {t : TypeId} (h : ptrT P t = true) : ∃ e, P.underlying t = some (.pointer e) := by
  unfold ptrT at h
  split at h
  · rename_i e he; exact ⟨e, he⟩
  · cases h
def nilP : V → Option Bool
  | .ptr _ _ => some false
  | .vptr _ => some false
  | .con (.pointer none) => some true
  | _ => none
def slLen : V → Option Nat
  | .nils => some 0
  | .view n _ _ => some n
  | .ref _ _ n _ => some n
  | _ => none
def slZ : V → Prop
  | .view n _ cs => cs = [] → n = 0
  | _ => True
theorem numsZ {k : IntKind} {l : List Int} (h : nums k l = []) : l.length = 0 := by
  have := congrArg List.length h
  rw [nums_length] at this
  exact this
section
variable {P : Program} {C : Ctx} {S : Nat → Prop} {β : Nat → Option BI} {st st' : St} {a : Act} {w w' : World} {Q : Exit → St → Prop} {ops : Array Oper} {rest : List Oper} {o : Oper} {b : Bool}
theorem VR.nilP {v : V} {u : Value} {r : Bool} (h : VR S w β v u) (hn : nilP v = some r) : ∃ A, u = .pointer A ∧ A.isNone = r := by
  cases v <;> first | (cases hn; done) | skip
  case ptr k off => cases hn; cases h with | ptr _ _ bi hb => exact ⟨_, rfl, rfl⟩ | flat h => cases h
  case vptr cs => cases hn; cases h with | flat h => cases h with | vptr => exact ⟨_, rfl, rfl⟩
  case con c =>
    rw [VR.con_inv h]
    cases c <;> first | (cases hn; done) | skip
    rename_i A
    cases A with
    | none => cases hn; exact ⟨none, rfl, rfl⟩
    | some A => cases hn
theorem VR.slLen {v : V} {u : Value} {n : Nat} (h : VR S w β v u) (hn : slLen v = some n) : ∃ A c, u = .slice A n c ∧ (A = none → n = 0 ∨ ∃ sz cs, v = .view n sz cs ∧ cs = []) := by
  cases v <;> first | (cases hn; done) | skip
  case nils => cases hn; cases h with | flat h => cases h with | nils A => exact ⟨A, 0, rfl, fun _ => .inl rfl⟩
  case view m sz cs =>
    cases hn
    cases h with
    | flat h => cases h with
      | view _ _ _ A c us hl hc ha hr h1 =>
        refine ⟨A, c, rfl, fun hA => ?_⟩
        by_cases hcs : cs = []
        · exact .inr ⟨sz, cs, rfl, hcs⟩
        · obtain ⟨b, o, e, _⟩ := ha hcs
          rw [hA] at e; cases e
  case ref k off m sz =>
    cases hn
    cases h with
    | flat h => cases h
    | ref _ _ _ _ A c h =>
      refine ⟨A, c, rfl, fun hA => ?_⟩
      rcases h with h | ⟨bi, hbi, hA', _⟩
      · exact .inl (by first | exact h.1 | exact h | omega)
      · rw [hA] at hA'; cases hA'
theorem run_eqPtr (w : World) (d : Nat) {t e : TypeId} (A : Option Addr) (hu : P.underlying t = some (.pointer e)) : (Op.equalIn (d + 1) t (.pointer A) (.pointer none)).run P w = .ok A.isNone w := by
  cases A <;> simp [Op.equalIn, run_underlying hu]
theorem run_eqSl (w : World) (d : Nat) {t e : TypeId} (A : Option Addr) (n c : Nat) (hu : P.underlying t = some (.slice e)) : (Op.equalIn (d + 1) t (.slice A n c) (.slice none 0 0)).run P w = .ok A.isNone w := by
  cases A <;> simp [Op.equalIn, run_underlying hu]
/-- is a pointer nil? -/
theorem AWL.ptrNil {t : TypeId} {x y : Operand} {z : TypeId} {d : Nat} {r : Bool} (hg : o.guard = none) (ho : o.op = .binOp .eql t x y z) (hd : o.dst = some d) (hdn : Nat.ble (d + 1) st.n = true) (hx : nilP (st.ev x) = some r) (hy : nilP (st.ev y) = some true) (ht : ptrT P t = true)
    (k : AWL P ops rest Q (st.put d (.bool r))) : AWL P ops (o :: rest) Q st := by
  refine AWL.ends hg (fun C S β a w hs => ?_) k
  obtain ⟨e, hu⟩ := ptrT_spec ht
  obtain ⟨A, hA, hr⟩ := VR.nilP (ev_VR hs x) hx
  obtain ⟨B, hB, hr'⟩ := VR.nilP (ev_VR hs y) hy
  cases B with
  | some B => cases hr'
  | none =>
    refine ⟨_, w, S, β, .inl ⟨.bool r, ?_, by rw [hd]⟩, hs.put (Nat.le_of_ble_eq_true hdn) VR.bool⟩
    unfold execOp
    have h1 : (eqGuard .eql t x y (.pointer A) (.pointer none)).run P w = .ok () w := by cases A <;> rfl
    have h2 : (binOp .eql t (.pointer A) (.pointer none)).run P w = .ok (.bool r) w := by
      have he := run_eqPtr w 9999 A hu
      rw [hr] at he
      simp only [binOp, Op.equal, Op.maxDepth, Sem.run_bind, he, Result.andThen_ok, Sem.run_pure]
    simp only [ho, hA, hB, Sem.run_bind, h1, Result.andThen_ok, h2]
    rfl
/-- is a slice nil? if so it has no elements -/
theorem AWL.sliceNil {t : TypeId} {x : Operand} {z : TypeId} {d n : Nat} (hg : o.guard = none) (ho : o.op = .binOp .eql t x (.const (.slice none 0 0)) z) (hd : o.dst = some d) (hdn : Nat.ble (d + 1) st.n = true) (hx : slLen (st.ev x) = some n) (ht : (eltT P t).isSome = true)
    (hz : slZ (st.ev x))
    (k : ∀ r : Bool, (r = true → n = 0) → AWL P ops rest Q (st.put d (.bool r))) : AWL P ops (o :: rest) Q st := fun C a w ⟨S, β, hs⟩ => by
  obtain ⟨e, he⟩ := Option.isSome_iff_exists.1 ht
  obtain ⟨e, sz, by_⟩ := e
  obtain ⟨hu, _⟩ := eltT_spec he
  obtain ⟨A, c, hA, hr⟩ := VR.slLen (ev_VR hs x) hx
  refine wpList_plain hg fun K hK => ?_
  have := hK _ _ (k A.isNone (fun h => by
    have := hr (by simpa using h)
    rcases this with h | ⟨sz, cs, h1, h2⟩
    · exact h
    · rw [h1] at hz; exact hz h2) C (a.put (some d) (.bool A.isNone)) w ⟨S, β, hs.put (Nat.le_of_ble_eq_true hdn) VR.bool⟩)
  unfold Oper.wp
  have hrun : (execOp a.eval o).run P w = .ok (.value (.bool A.isNone)) w := by
    unfold execOp
    have hc : a.eval (.const (.slice none 0 0)) = .slice none 0 0 := rfl
    have h1 : (eqGuard .eql t x (.const (.slice none 0 0)) (.slice A n c) (.slice none 0 0)).run P w = .ok () w := rfl
    have h2 : (binOp .eql t (.slice A n c) (.slice none 0 0)).run P w = .ok (.bool A.isNone) w := by
      have he := run_eqSl w 9999 A n c hu
      simp only [binOp, Op.equal, Op.maxDepth, Sem.run_bind, he, Result.andThen_ok, Sem.run_pure]
    simp only [ho, hA, hc, Sem.run_bind, h1, Result.andThen_ok, h2]
    rfl
  rw [hrun]
  show K (a.put o.dst _) w
  rw [hd]
  exact this
end
section
variable {P : Program} {C : Ctx} {S : Nat → Prop} {β : Nat → Option BI} {st st' : St} {a : Act} {w w' : World} {Q : Exit → St → Prop} {ops : Array Oper} {rest : List Oper} {o : Oper} {b : Bool}
/-- a key that is listed twice as lent -/
theorem SR.lentD (h : SR C S β st a w) {k : Nat} {l : List (Nat × Option BI)} (hl : st.lent = (k, none) :: l) (hk : hasK l k = true) : SR C S β { st with lent := l } a w :=
  { tsize := h.tsize, slots := h.slots, defers := h.defers, objs := h.objs, inj := h.inj,
    own := fun j bi hj hb => by
      obtain ⟨h1, h2⟩ := h.own j bi hj hb
      refine ⟨h1, h2.imp id (fun hL => ⟨hL.1, ?_⟩)⟩
      have h3 := hL.2
      rw [hl] at h3
      simp only [hasK, Bool.or_eq_true, beq_iff_eq] at h3
      rcases h3 with h3 | h3
      · rw [← h3]; exact hk
      · exact h3
    pins := fun j bi hj => h.pins j bi (by rw [hl]; exact List.mem_cons_of_mem _ hj)
    sub := h.sub, snew := h.snew, slt := h.slt, frame := h.frame }
theorem AWL.lentD {l : List Oper} {k : Nat} {r : List (Nat × Option BI)} (hl : st.lent = (k, none) :: r) (hk : hasK r k = true) (h : AWL P ops l Q { st with lent := r }) : AWL P ops l Q st := fun C a w ⟨S, β, hs⟩ => h C a w ⟨S, β, hs.lentD hl hk⟩
end
/-! Arguments that are told more weakly. -/
def Wk (v' v : V) : Prop := ∀ (S : Nat → Prop) (w : World) (β : Nat → Option BI) (u : Value), VR S w β v' u → VR S w β v u
inductive WkL : List V → List V → Prop
  | nil : WkL [] []
  | cons {v' v : V} {l' l : List V} (h : Wk v' v) (hl : WkL l' l) : WkL (v' :: l') (v :: l)
theorem Wk.refl (v : V) : Wk v v := fun _ _ _ _ h => h
theorem Wk.nils (sz : Nat) : Wk .nils (.view 0 sz []) := fun S w β u h => by
  cases h with
  | flat h => cases h with
    | nils A => exact .flat (.view 0 sz [] A 0 (fun _ => undef) (by simp) (Nat.le_refl _) (fun h => absurd rfl h) (fun j v h => by simp at h) (fun j v h => by simp at h))
theorem Wk.fagg (cs : List V) : Wk (.fagg cs) (.agg cs) := fun S w β u h => by
  cases h with
  | flat h => cases h with
    | fagg _ us hl hr h1 => exact .agg cs us hl (fun j v u hv hu => .flat (hr j v u hv hu))
theorem WkL.length {l' l : List V} (h : WkL l' l) : l'.length = l.length := by
  induction h with
  | nil => rfl
  | cons _ _ ih => simp [ih]
theorem WkL.at {l' l : List V} (h : WkL l' l) : ∀ {j : Nat} {v : V}, l[j]? = some v → ∃ v', l'[j]? = some v' ∧ Wk v' v := by
  induction h with
  | nil => intro j v hv; simp at hv
  | cons h _ ih =>
    intro j v hv
    cases j with
    | zero => simp at hv; subst hv; exact ⟨_, rfl, h⟩
    | succ j => exact ih hv
theorem Wk.agg {cs' cs : List V} (h : WkL cs' cs) : Wk (.agg cs') (.agg cs) := fun S w β u hv => by
  have key : ∀ {us : Array Value}, cs'.length = us.size → (∀ (j : Nat) (v : V) (u : Value), cs'[j]? = some v → us[j]? = some u → VR S w β v u) → VR S w β (.agg cs) (.agg us) := fun {us} hl hr =>
    .agg cs us (by rw [← h.length]; exact hl) (fun j v u hv hu => by
      obtain ⟨v', h1, h2⟩ := h.at hv
      exact h2 S w β u (hr j v' u h1 hu))
  cases hv with
  | flat h => cases h
  | agg _ us hl hr => exact key hl hr
theorem WkL.refl : ∀ l : List V, WkL l l
  | [] => .nil
  | v :: l => .cons (Wk.refl v) (WkL.refl l)
theorem AM.wk {P : Program} {f : FuncId} {args args' : List V} {mem : Mem} {keep : List Nat} {R : V → Mem → Prop} (h : AM P f args mem keep R) (hw : WkL args' args) : AM P f args' mem keep R :=
  fun S w β us h1 h2 h3 h4 h5 h6 h7 h8 => h S w β us h1 (by rw [← hw.length]; exact h2) (fun j v u hv hu => by
    obtain ⟨v', e1, e2⟩ := hw.at hv
    exact e2 S w β u (h3 j v' u e1 hu)) h4 h5 h6 h7 h8
theorem AC.wk {P : Program} {f : FuncId} {args args' : List V} {R : V → List (Nat × List V) → Prop} (h : AC P f args R) (hw : WkL args' args) : AC P f args' R :=
  fun S w us h1 h2 h3 => h S w us h1 (by rw [← hw.length]; exact h2) (fun j v u hv hu => by
    obtain ⟨v', e1, e2⟩ := hw.at hv
    exact e2 S w _ u (h3 j v' u e1 hu))
/-- cells of a view, told more weakly -/
def Fk (v' v : V) : Prop := (∀ (S : Nat → Prop) (w : World) (u : Value), FR S w v' u → FR S w v u) ∧ v.cell1 = v'.cell1
inductive FkL : List V → List V → Prop
  | nil : FkL [] []
  | cons {v' v : V} {l' l : List V} (h : Fk v' v) (hl : FkL l' l) : FkL (v' :: l') (v :: l)
theorem Fk.refl (v : V) : Fk v v := ⟨fun _ _ _ h => h, rfl⟩
theorem Fk.nils (sz : Nat) : Fk .nils (.view 0 sz []) := ⟨fun S w u h => by
  cases h with
  | nils A => exact .view 0 sz [] A 0 (fun _ => undef) (by simp) (Nat.le_refl _) (fun h => absurd rfl h) (fun j v h => by simp at h) (fun j v h => by simp at h), rfl⟩
theorem FkL.refl : ∀ l : List V, FkL l l
  | [] => .nil
  | v :: l => .cons (Fk.refl v) (FkL.refl l)
theorem FkL.app {a' a b' b : List V} (h : FkL a' a) (h2 : FkL b' b) : FkL (a' ++ b') (a ++ b) := by
  induction h with
  | nil => exact h2
  | cons h _ ih => exact .cons h ih
theorem FkL.length {l' l : List V} (h : FkL l' l) : l'.length = l.length := by
  induction h with
  | nil => rfl
  | cons _ _ ih => simp [ih]
theorem FkL.at {l' l : List V} (h : FkL l' l) : ∀ {j : Nat} {v : V}, l[j]? = some v → ∃ v', l'[j]? = some v' ∧ Fk v' v := by
  induction h with
  | nil => intro j v hv; simp at hv
  | cons h _ ih =>
    intro j v hv
    cases j with
    | zero => simp at hv; subst hv; exact ⟨_, rfl, h⟩
    | succ j => exact ih hv
theorem Wk.view {n sz : Nat} {cs' cs : List V} (h : FkL cs' cs) : Wk (.view n sz cs') (.view n sz cs) := fun S w β u hv => by
  cases hv with
  | flat hv => cases hv with
    | view _ _ _ A c us hl hc ha hr h1 =>
      refine .flat (.view n sz cs A c us (by rw [← h.length]; exact hl) hc (fun hne => ?_) (fun j v hj => ?_) (fun j v hj => ?_))
      · obtain ⟨b, o, e1, e2, e3⟩ := ha (fun e => hne (List.eq_nil_of_length_eq_zero (by rw [← h.length, e]; rfl)))
        exact ⟨b, o, e1, e2, fun j v hj => by
          obtain ⟨v', hv', _⟩ := h.at hj
          exact e3 j v' hv'⟩
      · obtain ⟨v', hv', hk⟩ := h.at hj
        exact hk.1 S w _ (hr j v' hv')
      · obtain ⟨v', hv', hk⟩ := h.at hj
        rw [hk.2]; exact h1 j v' hv'
theorem keysL_append (n : Nat) {l : List V} {js ks : List Nat} (h1 : keysL n l = some js) : ∀ {l' : List V}, keysL n l' = some ks → keysL n (l ++ l') = some (js ++ ks) := by
  induction l generalizing js with
  | nil => intro l' h2; cases h1; exact h2
  | cons v l ih =>
    intro l' h2
    simp only [keysL] at h1
    split at h1 <;> first | (cases h1; done) | skip
    rename_i a b ha hb
    cases h1
    simp only [List.cons_append, keysL, ha, ih hb h2, List.append_assoc]
theorem keysA_flat (n : Nat) {v : V} (h : flatC v = true) : keysA (n + 1) v = some [] := by
  cases v <;> first | rfl | (cases h; done) | skip
  case fn f cap =>
    cases cap with
    | nil => rfl
    | cons c cap => cases h
theorem keysL_flat (n : Nat) : ∀ {l : List V}, l.all flatC = true → keysL (n + 1) l = some []
  | [], _ => rfl
  | v :: l, h => by
    simp only [List.all_cons, Bool.and_eq_true] at h
    simp only [keysL, keysL_flat n h.2, keysA_flat n h.1, List.nil_append]
end Go.Abs
