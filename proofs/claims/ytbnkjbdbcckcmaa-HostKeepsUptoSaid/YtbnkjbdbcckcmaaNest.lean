/- A library of mine: slices of cells that name own objects, built and appended to nothing. -/
import Derived.Test.YtbnkjbdbcckcmaaV5
import Derived.Test.YtbnkjbdbcckcmaaPre
namespace Go.Abs
set_option linter.unusedSimpArgs false
set_option linter.unusedVariables false
open Go Go.RowKit

section
variable {P : Program} {C : Ctx} {S : Nat → Prop} {β : Nat → Option BI} {st st' : St} {a : Act} {w w' : World} {Q : Exit → St → Prop} {ops : Array Oper} {rest : List Oper} {o : Oper}

/-- nothing is assigned: nothing -/
theorem AWL.assignNil {x : Operand} {d : Nat} (hg : o.guard = none) (ho : o.op = .assign x) (hd : o.dst = some d) (hdn : Nat.ble (d + 1) st.n = true) (hx : st.ev x = .nils) (k : AWL P ops rest Q (st.put d .nils)) : AWL P ops (o :: rest) Q st :=
  AWL.ends hg (fun C S β a w hsr => by
    refine ⟨_, w, S, β, .inl ⟨a.eval x, ?_, by rw [hd]⟩, hsr.put (Nat.le_of_ble_eq_true hdn) (hx ▸ ev_VR hsr x)⟩
    unfold execOp
    simp [ho]) k
/-- ahead of the operation that names the slot d, an object is frozen -/
theorem AWL.frzD (d k : Nat) (_hd : o.dst = some d) (_hk : (st.obj k).isSome = true) (h : AWL P ops (o :: rest) Q (st.freeze k)) : AWL P ops (o :: rest) Q st := AWL.frz k h
/-- a slice whose cells may name own objects -/
theorem AWL.buildN {t : TypeId} {len : Nat} {ps : Array (Nat × Operand)} {d : Nat} {e : TypeId} {sz by_ : Nat} {z : Value} {c : Prop} {cs : List V} (hg : o.guard = none) (ho : o.op = .buildSlice t len ps) (hd : o.dst = some d) (hdn : Nat.ble (d + 1) st.n = true)
    (he : eltT P t = some (e, sz, by_)) (hz : zeroT P e = some z) (hf : fillV (.each sz) (mkRow (zcells z) (len * sz)) (partsOf st ps.toList) = some (c, cs))
    (hb : ((zcells z).all flatC && Nat.ble 1 (zcells z).length && ((partsOf st ps.toList).all fun p => vok1 p.2) && Nat.ble (len * sz) 16777216) = true) (hc : c)
    (k : AWL P ops rest Q ((st.create d false cs).put d (.ref d 0 len sz))) : AWL P ops (o :: rest) Q st :=
  AWL.ends hg (fun C S β a w hsr => by
    simp only [Bool.and_eq_true, Nat.ble_eq] at hb
    obtain ⟨⟨⟨hzf, hzl⟩, hpf⟩, hlim⟩ := hb
    obtain ⟨hu, i, hi, rfl, rfl⟩ := eltT_spec he
    have hz' : i.zero = some z := by unfold zeroT at hz; rw [hi] at hz; exact hz
    have hRz : RRs (CellR S w β false) (zcells z) z.cells := zcells_CellR z false (by
      rw [List.all_eq_true] at hzf ⊢; exact fun v hv => flatC_cell1 (hzf v hv))
    have hne : len * i.size ≠ 0 → 0 < z.cells.size := fun _ => by rw [← hRz.1]; exact hzl
    have hbase := mkRow_get (n := len * i.size) hRz hne
    have hparts : ∀ (j : Nat) (p : Nat × V) (q : Nat × Value), (partsOf st ps.toList)[j]? = some p → (ps.toList.map fun p => (p.1, a.eval p.2))[j]? = some q → p.1 = q.1 ∧ RRs (CellR S w β false) (vcells p.2) q.2.cells := by
      intro j p q hp hq
      have hfl : vok1 p.2 = true := by
        rw [List.all_eq_true] at hpf
        exact hpf p (List.mem_of_getElem? hp)
      simp only [partsOf, List.getElem?_map, Option.map_eq_some_iff] at hp hq
      obtain ⟨x, hx, rfl⟩ := hp
      obtain ⟨y, hy, rfl⟩ := hq
      rw [hx] at hy; cases hy
      exact ⟨rfl, cells_CellR false (ev_VR hsr _) hfl⟩
    obtain ⟨cells', hfill, hR⟩ := fill_RR (CellR S w β false) (.each i.size) (partsOf st ps.toList) _ cs c _ (ps.toList.map fun p => (p.1, a.eval p.2)) hf hc hbase (by simp [partsOf]) hparts
    obtain ⟨β', hs⟩ := hsr.newobj (Nat.le_of_ble_eq_true hdn) false cs cells' e (0, 0) w.drawn (nofz0 _) (Nat.le_of_eq hR.1) (pt_of_RRs hR)
      (v := .ref d 0 len i.size) (u := .slice (some ⟨w.heap.size, 0, none⟩) len len) (fun β' hb' S' w'' => by
        have hlen : ∀ (ps : List (Nat × V)) (cs r : List V) (c : Prop), fillV (.each i.size) cs ps = some (c, r) → c → r.length = cs.length := by
          intro ps
          induction ps with
          | nil => intro cs r c h _; simp only [fillV, Option.some.injEq, Prod.mk.injEq] at h; rw [h.2]
          | cons q ps ih =>
            intro cs r c h hc
            obtain ⟨ix, v⟩ := q
            simp only [fillV] at h
            split at h <;> first | (cases h; done) | skip
            split at h <;> first | (cases h; done) | skip
            rename_i c2 r2 hrest
            simp only [Option.some.injEq, Prod.mk.injEq] at h
            obtain ⟨rfl, rfl⟩ := h
            rw [ih _ _ _ hrest hc.2]
            simp [setR]; omega
        have hl := hlen _ _ _ _ hf hc
        rw [show (mkRow (zcells z) (len * i.size)).length = len * i.size from by simp [mkRow]] at hl
        have hl' : cells'.size = len * i.size := by rw [← hR.1, hl]
        exact .ref _ _ _ _ _ _ (.inr ⟨_, hb', by simp, Nat.le_refl _, by simp [hl'], by simp [hl]⟩))
    refine ⟨_, _, S, β', .inl ⟨_, ?_, by rw [hd]⟩, hs⟩
    unfold execOp
    have hps : (ps.map fun (i, x) => (i, a.eval x)).toList = ps.toList.map fun p => (p.1, a.eval p.2) := by simp
    have hat : (Plc.each i.size).at = fun j => some (j * i.size, i.size) := by funext j; rfl
    rw [hat] at hfill
    have hrun : (Instr.buildSlice t len (ps.map fun (i, x) => (i, a.eval x))).run P w = .ok (.slice (some ⟨w.heap.size, 0, none⟩) len len) { w with heap := w.heap.push (.cells cells' e) } := by
      have hlim' : ¬ (16777216 < len * i.size) := by omega
      by_cases h0 : len * i.size = 0
      · have hb0 : ((Array.range (len * i.size)).map (fun j => z.cells[j % z.cells.size]!)) = #[] := by rw [h0]; simp
        rw [hb0] at hfill
        simp only [Instr.buildSlice, Sem.run_bind, run_underlying hu, Result.andThen_ok, run_sizeOf' hi, gt_iff_lt]
        rw [if_neg (by simpa using hlim')]
        have hr0 : Array.range 0 = #[] := by simp
        simp only [Sem.run_bind, Sem.run_pure, Result.andThen_ok, h0, if_true, hps, hr0, List.map_toArray, List.map_nil, hfill]
        simp [newRow]
      · simp only [Instr.buildSlice, Sem.run_bind, run_underlying hu, Result.andThen_ok, run_sizeOf' hi, gt_iff_lt]
        rw [if_neg (by simpa using hlim')]
        simp only [Sem.run_bind, Sem.run_pure, Result.andThen_ok, if_neg h0, hps, zeroValue, typeInfo, run_program, hi, hz', hfill]
        simp [newRow]
    simp only [ho, Sem.run_bind, hrun, Result.andThen_ok, Sem.run_pure]) k
theorem obj_cellsN {k n sz c : Nat} {A : Option Addr} {cs : List V} (hsr : SR C S β st a w) (ho : st.obj k = some ⟨false, cs⟩) (hcl : cs.length = n * sz)
    (h : (n = 0 ∧ c = 0) ∨ ∃ bi, β k = some bi ∧ A = some ⟨bi.blk, bi.off + 0, none⟩ ∧ n ≤ c ∧ bi.off + 0 + c * sz ≤ bi.tot ∧ 0 + n * sz ≤ bi.len) :
    ∃ news : List Value, news.length = n * sz ∧ (∀ (j : Nat) (v : V) (u : Value), cs[j]? = some v → news[j]? = some u → CellR S w β false v u) ∧
      (news ≠ [] → ∃ b oo, A = some ⟨b, oo, none⟩ ∧ ∀ (j : Nat) (v : Value), news[j]? = some v → w.cell? ⟨b, oo + j, none⟩ = some v) := by
  rcases h with ⟨rfl, rfl⟩ | ⟨bi, hbi, rfl, hn, hroom, hfit⟩
  · exact ⟨[], by simp, fun j v u hv hu => by simp at hu, fun h => absurd rfl h⟩
  · rcases hsr.objs k _ ho with ⟨h1, _, h3⟩ | ⟨bi', cur, e, fz, hbi', hor⟩
    · cases h1
    rw [hbi'] at hbi; cases hbi
    have hlen := hor.len
    simp only at hlen
    have hget : ∀ j, j < n * sz → ∃ v, cs[j]? = some v := fun j hj => ⟨_, List.getElem?_eq_getElem (by omega)⟩
    refine ⟨(List.range (n * sz)).map fun j => cur.getD (bi.off + 0 + j) undef, by simp, ?_, fun _ => ⟨_, _, rfl, ?_⟩⟩
    · intro j v u hv hu
      have hj : j < n * sz := by have := (List.getElem?_eq_some_iff.1 hv).1; omega
      obtain ⟨u', hu', h1, hr⟩ := hor.cells _ _ hv
      simp [hj, Array.getD_eq_getD_getElem?, hu'] at hu
      subst hu
      exact ⟨h1, by rw [if_neg (by simp)]; rw [if_neg (by simp)] at hr; exact hr⟩
    · intro j v hj
      have hjn : j < n * sz := by have := (List.getElem?_eq_some_iff.1 hj).1; simpa using this
      obtain ⟨v0, hv0⟩ := hget j hjn
      obtain ⟨u', hu', _, _⟩ := hor.cells _ _ hv0
      rw [cell_of_ORs hor]
      simp [hjn, Array.getD_eq_getD_getElem?, hu'] at hj
      rw [← hj]; simpa using hu'
/-- append to nothing, of cells that may name own objects -/
theorem AWL.appendN {t tx : TypeId} {s x : Operand} {d k m sz : Nat} {e by_ : TypeId} {cs : List V} {z : Value} (hg : o.guard = none) (ho : o.op = .call { callee := .builtin .append, args := #[s, x], argTypes := #[t, tx] }) (hd : o.dst = some d) (hdn : Nat.ble (d + 1) st.n = true)
    (he : eltT P t = some (e, sz, by_)) (hz0 : zeroT P e = some z) (hzs : ((zcells z).length == sz && Nat.ble 1 by_) = true) (hs : st.ev s = .nils) (hx : st.ev x = .ref k 0 m sz) (hob : st.obj k = some ⟨false, cs⟩) (htx : (eltT P tx).isSome = true)
    (hcl : cs.length = m * sz) (hm : 0 < m) (hc : roomC by_ m) (k : AWL P ops rest Q ((st.create d false cs).put d (.ref d 0 m sz))) : AWL P ops (o :: rest) Q st :=
  AWL.ends hg (fun C S β a w hsr => by
    simp only [Bool.and_eq_true, Nat.ble_eq, beq_iff_eq] at hzs
    obtain ⟨hz, hby⟩ := hzs
    replace hc := roomC_spec hc
    obtain ⟨hu, i, hi, rfl, rfl⟩ := eltT_spec he
    have hz' : i.zero = some z := by unfold zeroT at hz0; rw [hi] at hz0; exact hz0
    have hzs : z.cells.size = i.size := by simpa [zcells] using hz
    obtain ⟨⟨ex, sx, bx⟩, htx⟩ := Option.isSome_iff_exists.1 htx
    have hdx := (eltT_spec htx).1
    obtain ⟨A, hvs⟩ := VR.nils_inv (hs ▸ ev_VR hsr s)
    obtain ⟨A', c', hvx, hcase⟩ := VR.ref_inv (hx ▸ ev_VR hsr x)
    obtain ⟨news, hnl, hnr, hna⟩ := obj_cellsN hsr hob hcl hcase
    have hmul : m ≤ m * i.bytes := Nat.le_mul_of_pos_right _ hby
    have h63 : 0 + m ≤ maxLen := by simp only [maxLen]; omega
    have hlen : ∀ w0 : World, (Builtin.lenOf (a.eval x)).run P w0 = .ok m w0 := fun w0 => by rw [hvx]; simp [Builtin.lenOf]
    have hfirst : ∀ d, (Builtin.firstCells i.size m (a.eval x)).run P { w with drawn := d } = .ok news.toArray { w with drawn := d } := fun d => by
      rw [hvx]
      exact run_first_cells hnl (fun hne => by
        obtain ⟨b, oo, h1, h2⟩ := hna hne
        exact ⟨b, oo, h1, h2⟩)
    have hR' : ∀ (j : Nat) (v : V), cs[j]? = some v → ∃ u, news[j]? = some u ∧ CellR S w β false v u := by
      intro j v hv
      have hj : j < news.length := by have := (List.getElem?_eq_some_iff.1 hv).1; omega
      exact ⟨_, List.getElem?_eq_getElem hj, hnr j v _ hv (List.getElem?_eq_getElem hj)⟩
    have hr : (execOp a.eval o).run P w = .ok (.value (.slice (some ⟨w.heap.size, 0, none⟩) (0 + m) (grownCap w (0 + m) 0 e)))
            (w.drew.alloc (.cells (([] ++ news).toArray ++ Builtin.zeroCells z.cells (grownCap w (0 + m) 0 e - (0 + m))) e)) := by
      have := run_append_g (P := P) (w := w) t tx o.type e i z _ hu hi hz' hdx rfl A 0 0 (a.eval x) m news [] hlen hfirst (fun dr => run_first_cells (by simp) (fun h => absurd rfl h)) w (fun h => by omega) (fun h => by omega) h63 (by simpa using hc)
      unfold execOp
      simp only [ho, resolve, invoke, builtin, Sem.run_bind, Sem.run_pure, Result.andThen_ok, List.map_toArray, List.map_cons, List.map_nil, hvs, this]
      rw [if_neg (by omega)]
      rfl
    have hge := grownCap_ge w (0 + m) 0 e
    generalize grownCap w (0 + m) 0 e = G at hr hge
    simp only [Nat.zero_add, List.nil_append] at hr hge
    have hsz : (news.toArray ++ Builtin.zeroCells z.cells (G - m)).size = m * i.size + (G - m) * z.cells.size := by
      rw [Array.size_append, size_zeroCells, List.size_toArray, hnl]
    obtain ⟨β', hs'⟩ := hsr.newobj (Nat.le_of_ble_eq_true hdn) false cs (news.toArray ++ Builtin.zeroCells z.cells (G - m)) e (0, 0) (w.drawn + 1) (nofz0 _) (by rw [hsz, hcl]; omega) (fun j v hv => by
        obtain ⟨u, hu', hr'⟩ := hR' j v hv
        refine ⟨u, ?_, hr'⟩
        rw [Array.getElem?_append_left (by simpa using (List.getElem?_eq_some_iff.1 hu').1)]
        simpa using hu')
      (v := .ref d 0 m i.size) (u := .slice (some ⟨w.heap.size, 0, none⟩) m G) (fun β' hb' S' w'' => .ref _ _ _ _ _ _ (.inr ⟨_, hb', by simp, hge, by
        simp only [hsz, hzs, ← Nat.add_mul, Nat.zero_add]
        exact Nat.mul_le_mul_right _ (by omega), by simp [hcl]⟩))
    exact ⟨_, _, S, β', .inl ⟨_, hr, by rw [hd]⟩, hs'⟩) k
end
end Go.Abs
