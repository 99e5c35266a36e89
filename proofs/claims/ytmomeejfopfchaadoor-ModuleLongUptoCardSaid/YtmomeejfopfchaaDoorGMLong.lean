/- A library of mine: append of a row of zeros. -/
import Derived.Test.YtmomeejfopfchaaDoorGTy
import Derived.Test.YtmomeejfopfchaaDoorDP
import Derived.Test.YtmomeejfopfchaaDoorGTabs
import Derived.Test.YtmomeejfopfchaaDoorCB
import Derived.Test.YtmomeejfopfchaaDoorGMErr
set_option linter.unusedSimpArgs false
set_option linter.unusedVariables false
namespace Go.Abs
set_option maxRecDepth 20000
open Go Go.RowKit
section
variable {P : Program} {C : Ctx} {S : Nat -> Prop} {β : Nat -> Option BI} {st : St} {a : Act} {w : World} {o : Oper} {Q : Exit -> St -> Prop} {ops : Array Oper} {rest : List Oper}
theorem run_append_z (t tx ty e : TypeId) (i : TypeInfo) (z : Value) (ht : P.underlying t = some (.slice e)) (hi : P.info? e = some i) (hz : i.zero = some z) (htx : P.underlying tx = some (.int .i64))
    (A : Option Addr) (n c : Nat) (N : Int) (m : Nat) (news olds : List Value) (hN : N = (m : Int)) (hnews : (Builtin.zeroCells z.cells m).toList = news) (hzs : z.cells.size = i.size)
    (ho : ∀ d, (Builtin.firstCells i.size n (.slice A n c)).run P { w with drawn := d } = .ok olds.toArray { w with drawn := d })
    (w1 : World) (hst : n + m <= c -> ∀ ad, A = some ad -> (storeCells (ad.add (n * i.size)) news).run P w = .ok () w1) (hst0 : n + m <= c -> A = none -> w1 = w)
    (h63 : n + m <= maxLen) (hbytes : (n + m) * i.bytes <= 140737488355328) (hby : 0 < i.bytes) :
    (Builtin.append_ #[t, tx] ty #[.slice A n c, .int .i64 N]).run P w =
      if n + m <= c then .ok (.slice A (n + m) c) w1
      else .ok (.slice (some ⟨w.heap.size, 0, none⟩) (n + m) (grownCap w (n + m) c e))
        (w.drew.alloc (.cells ((olds ++ news).toArray ++ Builtin.zeroCells z.cells (grownCap w (n + m) c e - (n + m))) e)) := by
  subst hN
  have hm : (n + m) <= (n + m) * i.bytes := Nat.le_mul_of_pos_right _ hby
  have hw : IntKind.i64.wrap (m : Int) = (m : Int) := wrap64_id _ (by omega) (by omega)
  have hm2 : m * i.bytes <= (n + m) * i.bytes := Nat.mul_le_mul_right _ (by omega)
  have hl0 : ¬ ((m : Int) < 0) := by omega
  have hl1 : ¬ (281474976710656 < (m : Int) * (i.bytes : Int)) := by
    have : ((m * i.bytes : Nat) : Int) = (m : Int) * (i.bytes : Int) := by simp
    omega
  have hzc : Builtin.zeroCells z.cells m = news.toArray := by rw [<- hnews, Array.toArray_toList]
  have key : ∀ (cz : Bool), decide (m * i.size = 0) = cz -> (if n + m <= c then True else True) -> (Builtin.append_ #[t, tx] ty #[.slice A n c, .int .i64 (m : Int)]).run P w =
      if n + m <= c then .ok (.slice A (n + m) c) w1
      else .ok (.slice (some ⟨w.heap.size, 0, none⟩) (n + m) (grownCap w (n + m) c e))
        (w.drew.alloc (.cells ((olds ++ news).toArray ++ Builtin.zeroCells z.cells (grownCap w (n + m) c e - (n + m))) e)) := by
    intro cz hcz _
    have hn0 : m * i.size = 0 -> news = [] := fun h => by
      have : (Builtin.zeroCells z.cells m).size = 0 := by rw [size_zeroCells, hzs]; exact h
      rw [hzc] at this
      exact List.eq_nil_of_length_eq_zero (by simpa using this)
    by_cases hroom : n + m <= c
    · rw [if_pos hroom]
      cases A with
      | none =>
        rw [hst0 hroom rfl]
        cases cz with
        | true =>
          have h0 := of_decide_eq_true hcz
          simp [Builtin.append_, run_underlying ht, run_underlying htx, sizeOf, typeInfo, hi, hroom, hw, hl0, hl1, hz, asInt, asIntOf, zeroValue, h0]
        | false =>
          have h0 := of_decide_eq_false hcz
          simp [Builtin.append_, run_underlying ht, run_underlying htx, sizeOf, typeInfo, hi, hroom, hw, hl0, hl1, hz, asInt, asIntOf, zeroValue, h0]
      | some ad =>
        have h2 := hst hroom ad rfl
        cases cz with
        | true =>
          have h0 := of_decide_eq_true hcz
          rw [hn0 h0] at h2
          simp [Builtin.append_, run_underlying ht, run_underlying htx, sizeOf, typeInfo, hi, hroom, hw, hl0, hl1, hz, asInt, asIntOf, zeroValue, h0, h2]
        | false =>
          have h0 := of_decide_eq_false hcz
          simp [Builtin.append_, run_underlying ht, run_underlying htx, sizeOf, typeInfo, hi, hroom, hw, hl0, hl1, hz, asInt, asIntOf, zeroValue, h0, hzc, h2]
    · rw [if_neg hroom]
      have h63' : ¬ (9223372036854775807 < (n : Int) + (m : Int)) := by simp only [maxLen] at h63; omega
      have hfit := growslice_fits (need := n + m) (old := c) (bytes := i.bytes) (by omega) hbytes
      have h48' : ¬ (281474976710656 < Builtin.nextslicecap (n + m) c * i.bytes) := by omega
      have h2 : (Builtin.firstCells i.size n (.slice A n c)).run P w.drew = .ok olds.toArray w.drew := ho (w.drawn + 1)
      cases cz with
      | true =>
        have h0 := of_decide_eq_true hcz
        simp [Builtin.append_, run_underlying ht, run_underlying htx, sizeOf, typeInfo, zeroValue, hi, hz, hroom, h63', h48', Question.forced, hw, hl0, hl1, asInt, asIntOf, h2, newRow, grownCap, h0, hn0 h0]
      | false =>
        have h0 := of_decide_eq_false hcz
        simp [Builtin.append_, run_underlying ht, run_underlying htx, sizeOf, typeInfo, zeroValue, hi, hz, hroom, h63', h48', Question.forced, hw, hl0, hl1, asInt, asIntOf, h2, newRow, grownCap, h0, hzc, <- Array.append_assoc]
  exact key _ rfl (by split <;> trivial)
theorem zero_values {kk : IntKind} {n0 : Int} {m : Nat} {xs : List V} {news : List Value} (hx : List.replicate m (V.int kk n0) = xs) (hn : (Builtin.zeroCells (Value.int kk n0).cells m).toList = news) :
    news.length = m * (Value.int kk n0).cells.size /\ xs.length = m * (Value.int kk n0).cells.size /\ ∀ (j : Nat) (v : V) (u : Value), xs[j]? = some v -> news[j]? = some u -> CellR S w β true v u := by
  have hc : (Value.int kk n0).cells = #[.int kk n0] := rfl
  have hl1 : news.length = m * (Value.int kk n0).cells.size := by rw [<- hn, Array.length_toList, size_zeroCells]
  have hl2 : xs.length = m * (Value.int kk n0).cells.size := by rw [<- hx, hc]; simp
  refine ⟨hl1, hl2, ?_⟩
  intro j v u hv hu
  rw [<- hx, List.getElem?_replicate] at hv
  split at hv <;> cases hv
  rw [<- hn] at hu
  unfold Builtin.zeroCells at hu
  rw [hc] at hu
  have hu2 : u = .int kk n0 := by
    simp [Nat.mod_one] at hu
    exact hu.2.symm
  subst hu2
  exact ⟨rfl, by rw [if_pos rfl]; exact ⟨rfl, .int _ _⟩⟩
theorem appendZ_sound {t tx : TypeId} {s : Operand} {d k n m sz : Nat} {e by_ : Nat} {kk : IntKind} {n0 : Int} {N : Int} {old : List V} (ho : o.op = .call { callee := .builtin .append, args := #[s, .const (.int .i64 N)], argTypes := #[t, tx] }) (hd : o.dst = some d) (hdn : d < st.n)
    (he : eltT P t = some (e, sz, by_)) (hz0 : zeroT P e = some (.int kk n0)) (hz1 : sz = 1) (hby : 0 < by_) (hti : P.underlying tx = some (.int .i64)) (hN : N = (m : Int)) (hhead : headOf st d sz (st.ev s) = some (k, n, old)) (hc : roomC by_ (n + m)) (hsr : SR C S β st a w) :
    Ends C P o a w ((st.repl k { flat := true, cs := old ++ List.replicate m (.int kk n0) }).put d (.ref k 0 (n + m) sz)) := by
  replace hc := roomC_spec hc
  obtain ⟨hu, i, hi, rfl, rfl⟩ := eltT_spec he
  obtain ⟨z, hzz⟩ : ∃ z, Value.int kk n0 = z := ⟨_, rfl⟩
  rw [hzz] at hz0
  have hz' : i.zero = some z := by unfold zeroT at hz0; rw [hi] at hz0; exact hz0
  have hzs : z.cells.size = i.size := by rw [<- hzz, hz1]; rfl
  obtain ⟨A, cp, olds, hvs, hncp, hol, hoL, hor, hoa, hcase⟩ := headOf_values hhead hsr (ev_VR hsr s)
  have hev : a.eval (.const (.int .i64 N)) = .int .i64 N := rfl
  obtain ⟨xs, hxs⟩ : ∃ xs, List.replicate m (V.int kk n0) = xs := ⟨_, rfl⟩
  rw [hxs]
  obtain ⟨news, hnews0⟩ : ∃ news, (Builtin.zeroCells z.cells m).toList = news := ⟨_, rfl⟩
  obtain ⟨hnl, hnL, hnr⟩ := zero_values (S := S) (w := w) (β := β) (kk := kk) (n0 := n0) (m := m) (xs := xs) (news := news) hxs (by rw [hzz]; exact hnews0)
  rw [hzz, hzs] at hnl hnL
  have hmul : n + m <= (n + m) * i.bytes := Nat.le_mul_of_pos_right _ hby
  have h63 : n + m <= maxLen := by simp only [maxLen]; omega
  have hall : (old ++ xs).length = (n + m) * i.size := by rw [List.length_append, hoL, hnL, Nat.add_mul]
  have hallu : (olds ++ news).length = (n + m) * i.size := by rw [List.length_append, hol, hnl, Nat.add_mul]
  have hR : ∀ (j : Nat) (v : V) (u : Value), (old ++ xs)[j]? = some v -> (olds ++ news)[j]? = some u -> CellR S w β true v u := by
    intro j v u hv hu
    by_cases hj : j < old.length
    · rw [List.getElem?_append_left hj] at hv
      rw [List.getElem?_append_left (by omega)] at hu
      exact hor j v u hv hu
    · rw [List.getElem?_append_right (by omega)] at hv
      rw [List.getElem?_append_right (by omega)] at hu
      rw [hol, <- hoL] at hu
      exact hnr _ v u hv hu
  have hR' : ∀ (j : Nat) (v : V), (old ++ xs)[j]? = some v -> ∃ u, (olds ++ news)[j]? = some u /\ CellR S w β true v u := by
    intro j v hv
    have hj : j < (olds ++ news).length := by have := (List.getElem?_eq_some_iff.1 hv).1; omega
    exact ⟨_, List.getElem?_eq_getElem hj, hR j v _ hv (List.getElem?_eq_getElem hj)⟩
  have h1c : ∀ u ∈ news, u.oneCell' = true := fun u hu => by
    obtain ⟨j, hj⟩ := List.mem_iff_getElem?.1 hu
    have hj' : j < xs.length := by have := (List.getElem?_eq_some_iff.1 hj).1; omega
    exact (hnr j _ u (List.getElem?_eq_getElem hj') hj).1
  have hrun : ∀ w1 : World, (n + m <= cp -> ∀ ad, A = some ad -> (storeCells (ad.add (n * i.size)) news).run P w = .ok () w1) -> (n + m <= cp -> A = none -> w1 = w) ->
      (execOp a.eval o).run P w = (if n + m <= cp then .ok (.value (.slice A (n + m) cp)) w1
        else .ok (.value (.slice (some ⟨w.heap.size, 0, none⟩) (n + m) (grownCap w (n + m) cp e)))
          (w.drew.alloc (.cells ((olds ++ news).toArray ++ Builtin.zeroCells z.cells (grownCap w (n + m) cp e - (n + m))) e))) := by
    intro w1 hst hst0
    have := run_append_z (P := P) (w := w) t tx o.type e i z hu hi hz' hti A n cp N m news olds hN hnews0 hzs (fun dr => run_first_cells hol hoa) w1 hst hst0 h63 hc hby
    unfold execOp
    simp only [ho, resolve, invoke, builtin, Sem.run_bind, Sem.run_pure, Result.andThen_ok, List.map_toArray, List.map_cons, List.map_nil, hvs, hev, this]
    split <;> rfl
  have grow : n + m > cp -> (execOp a.eval o).run P w = .ok (.value (.slice (some ⟨w.heap.size, 0, none⟩) (n + m) (grownCap w (n + m) cp e)))
          (w.drew.alloc (.cells ((olds ++ news).toArray ++ Builtin.zeroCells z.cells (grownCap w (n + m) cp e - (n + m))) e)) ->
      Ends C P o a w ((st.repl k { flat := true, cs := old ++ xs }).put d (.ref k 0 (n + m) i.size)) := by
    intro _ hr
    have hge := grownCap_ge w (n + m) cp e
    generalize hG : grownCap w (n + m) cp e = G at hr hge
    have hsz : ((olds ++ news).toArray ++ Builtin.zeroCells z.cells (G - (n + m))).size = (n + m) * i.size + (G - (n + m)) * z.cells.size := by
      rw [Array.size_append, size_zeroCells, List.size_toArray, hallu]
    have hs := hsr.create k true (old ++ xs) ((olds ++ news).toArray ++ Builtin.zeroCells z.cells (G - (n + m))) e (0, 0) (w.drawn + 1) (nofz0 _) (by rw [hsz, hall]; omega) (fun j v hv => by
      obtain ⟨u, hu', hr'⟩ := hR' j v hv
      refine ⟨u, ?_, hr'.1, hr'.2⟩
      rw [Array.getElem?_append_left (by simpa using (List.getElem?_eq_some_iff.1 hu').1)]
      simpa using hu')
    refine ⟨_, _, S, _, .inl ⟨_, hr, by rw [hd]⟩, hs.put hdn (.ref _ _ _ _ _ _ (.inr ⟨_, upd_same _ _ _, by simp, hge, ?_, by simp [hall]⟩))⟩
    rw [hsz, hzs, <- Nat.add_mul]
    simp only [Nat.zero_add]
    exact Nat.mul_le_mul_right _ (by omega)
  by_cases hroom : n + m <= cp
  · rcases hcase with ⟨hn0, hc0⟩ | ⟨off, ob, bi, hob, hfl, hold, hbi, hA, htot, hfit⟩
    · -- nothing at all
      have hm0 : m = 0 := by omega
      subst hn0 hc0 hm0
      have hnews : news = [] := List.eq_nil_of_length_eq_zero (by simpa using hnl)
      have hcs : old ++ xs = [] := List.eq_nil_of_length_eq_zero (by simpa using hall)
      have hr := hrun w (fun _ ad _ => by rw [hnews]; rfl) (fun _ _ => rfl)
      rw [if_pos hroom] at hr
      rw [hcs]
      exact ⟨_, w, S, _, .inl ⟨_, hr, by rw [hd]⟩, (hsr.empty k).put hdn (.ref _ _ _ _ _ _ (.inl ⟨rfl, rfl⟩))⟩
    · -- in place
      rcases hsr.objs k ob hob with ⟨_, _, h3⟩ | ⟨bi', cur, e', fz, hbi', horx⟩
      · rw [h3] at hbi; cases hbi
      rw [hbi'] at hbi; cases hbi
      have hsize := horx.size
      have hmn : (n + m) * i.size <= cp * i.size := Nat.mul_le_mul_right _ hroom
      have hadd : (n + m) * i.size = n * i.size + m * i.size := Nat.add_mul _ _ _
      have hst := run_storeCells_obj (P := P) horx (bi.off + off + n * i.size) news (by omega) h1c
      have hr := hrun _ (fun _ ad e => by rw [hA] at e; cases e; rw [add_addr]; exact hst) (fun _ e => by rw [hA] at e; cases e)
      rw [if_pos hroom] at hr
      obtain ⟨hos, htape, hout⟩ := setCells_rest bi.blk news (bi.off + off + n * i.size) w
      have hSb : ¬ S bi.blk := (hsr.own k bi (by simp [hob]) hbi').1
      have hSk : ∀ b, S b -> (w.setCells bi.blk (bi.off + off + n * i.size) news).heap[b]? = w.heap[b]? := fun b hb => setCells_other _ _ _ _ _ (fun e => hSb (e ▸ hb))
      have hs := hsr.repl k { flat := true, cs := old ++ xs } (some ⟨bi.blk, bi.off + off, bi.tot, (old ++ xs).length⟩) hos htape hout (Nat.le_of_eq (setCells_size _ _ _ _).symm)
        (fun b _ hbb => setCells_other _ _ _ _ _ (hbb bi (by simp [hob]) hbi')) (fun x hx => by cases hx; exact .inr ⟨by simp [hob], bi, hbi', rfl⟩)
        (.inr ⟨_, _, e', fz, upd_same _ _ _, setCells_heap _ _ _ _ _ _ _ horx.heap, by rw [setA_size]; exact hsize, by rw [setA_size]; exact horx.free, by show bi.off + off + (old ++ xs).length <= bi.tot; rw [hall]; omega, rfl, fun j v hv => by
          show ∃ u, (setA cur (bi.off + off + n * i.size) news)[bi.off + off + j]? = some u /\ _
          have hv : (old ++ xs)[j]? = some v := hv
          have hj : j < (n + m) * i.size := by have := (List.getElem?_eq_some_iff.1 hv).1; omega
          obtain ⟨u, hu', hr'⟩ := hR' j v hv
          refine ⟨u, ?_, hr'.1, ?_⟩
          · rw [setA_get _ _ _ _ (by omega)]
            by_cases hjn : j < n * i.size
            · rw [if_neg (by omega)]
              rw [List.getElem?_append_left (by omega)] at hu'
              obtain ⟨b, oo, hA2, hc2⟩ := hoa (by intro e; rw [e] at hol; simp at hol; omega)
              rw [hA] at hA2; cases hA2
              have := hc2 j u hu'
              rw [cell_of_ORs horx] at this
              exact this
            · rw [if_pos (by omega)]
              rw [List.getElem?_append_right (by omega), hol] at hu'
              have : bi.off + off + j - (bi.off + off + n * i.size) = j - n * i.size := by omega
              rw [this]; exact hu'
          · rw [if_pos rfl]
            have := hr'.2
            rw [if_pos rfl] at this
            exact ⟨this.1, this.2.step (fun _ h => h) hSk⟩⟩)
      refine ⟨_, _, S, _, .inl ⟨_, hr, by rw [hd]⟩, hs.put hdn (.ref _ _ _ _ _ _ (.inr ⟨_, upd_same _ _ _, by rw [hA]; rfl, hroom, ?_, by simp [hall]⟩))⟩
      simp only [Nat.add_zero]; exact htot
  · have hr := hrun w (fun h => absurd h hroom) (fun h => absurd h hroom)
    rw [if_neg hroom] at hr
    exact grow (by omega) hr
theorem AWL.appendZ {t tx : TypeId} {s : Operand} {d k n m sz : Nat} {e by_ : Nat} {kk : IntKind} {n0 : Int} {N : Int} {old : List V} (hg : o.guard = none) (ho : o.op = .call { callee := .builtin .append, args := #[s, .const (.int .i64 N)], argTypes := #[t, tx] }) (hd : o.dst = some d) (hdn : Nat.ble (d + 1) st.n = true)
    (he : eltT P t = some (e, sz, by_)) (hz0 : zeroT P e = some (.int kk n0)) (hz1 : sz = 1) (hby : 0 < by_) (hti : P.underlying tx = some (.int .i64)) (hN : N = (m : Int)) (hhead : headOf st d sz (st.ev s) = some (k, n, old)) (hc : roomC by_ (n + m))
    (k' : AWL P ops rest Q ((st.repl k { flat := true, cs := old ++ List.replicate m (.int kk n0) }).put d (.ref k 0 (n + m) sz))) : AWL P ops (o :: rest) Q st :=
  AWL.ends hg (fun C S β a w hs => by
    obtain ⟨a', w', S', β', hr, hs'⟩ := appendZ_sound ho hd (Nat.le_of_ble_eq_true hdn) he hz0 hz1 hby hti hN hhead hc hs
    exact ⟨a', w', S', β', hr, hs'⟩) k'
end
end Go.Abs
namespace Go.Proofs.YtmomeejfopfchaaDoor
set_option maxRecDepth 20000
open Go Go.Abs Nat
attribute [local irreducible] AW AWL AC FW CW CWr IntKind.wrap
abbrev hd12 : List Int := [0, 97, 115, 109, 1, 0, 0, 0, 0, 245, 127, 0]
def XL (b : List Int) (i : Nat) : List Int := hd12 ++ (b.take i ++ List.replicate (16372 - i) 0)
theorem xl_cells : nums .u8 [0, 97, 115, 109, 1, 0, 0, 0, 0, 245, 127] ++ List.replicate 16373 (V.int .u8 0) = nums .u8 (XL [] 0) := by
  unfold XL nums
  rw [List.take_nil, List.nil_append, List.map_append, List.map_replicate]
  rw [show (16373 : Nat) = 16372 + 1 from rfl, List.replicate_succ]
  simp only [List.map_cons, List.map_nil, List.cons_append, List.nil_append, Nat.sub_zero]
theorem xl_zero (b : List Int) : XL b 0 = XL [] 0 := by
  unfold XL; rw [List.take_nil, List.take_zero]
theorem xl_len (b : List Int) {i : Nat} (h : i <= b.length) (h2 : i <= 16372) : (XL b i).length = 16384 := by
  unfold XL
  rw [List.length_append, List.length_append, List.length_take, List.length_replicate]
  simp only [List.length_cons, List.length_nil]; omega
theorem xl_bytes {b : List Int} (hb : bytes b) (i : Nat) : bytes (XL b i) := by
  intro x hx
  unfold XL at hx
  rcases List.mem_append.1 hx with hx | hx
  · simp only [List.mem_cons, List.not_mem_nil, or_false] at hx
    unfold byte; omega
  · rcases List.mem_append.1 hx with hx | hx
    · exact hb x (List.mem_of_mem_take hx)
    · have := (List.mem_replicate.1 hx).2
      subst this; exact ⟨by omega, by omega⟩
theorem xl_set (b t : List Int) {i : Nat} (h : i < b.length) (h2 : i < 16372) : setI (XL b i ++ t) (12 + i) (b.getD i 0) = XL b (i + 1) ++ t := by
  unfold XL setI
  obtain ⟨k, hk⟩ : ∃ k, 16372 - i = k + 1 := ⟨16372 - i - 1, by omega⟩
  rw [hk, show 16372 - (i + 1) = k by omega, take_snoc _ _ h, List.replicate_succ]
  have e : 12 + i = (hd12 ++ b.take i).length := by rw [List.length_append, List.length_take]; simp only [List.length_cons, List.length_nil]; omega
  have e2 : hd12 ++ (b.take i ++ 0 :: List.replicate k 0) ++ t = (hd12 ++ b.take i) ++ (0 :: (List.replicate k 0 ++ t)) := by simp only [List.append_assoc, List.cons_append]
  rw [e2, e, List.take_left, List.drop_append, List.drop_of_length_le (by omega), List.nil_append, show (hd12 ++ b.take i).length + 1 - (hd12 ++ b.take i).length = 1 by omega, List.drop_succ_cons, List.drop_zero]
  simp only [List.append_assoc, List.cons_append, List.nil_append]
theorem long_any (w : List Int) (hb : bytes (hd12 ++ w)) (hw : w.length = 16372) : decS (hd12 ++ w) = (modS, 0) := by
  obtain ⟨c, hc⟩ : ∃ c, hd12 ++ w = c := ⟨_, rfl⟩
  have hl : c.length = 16384 := by rw [<- hc, List.length_append, hw]; rfl
  have ht : c.take 12 = hd12.take 12 := by rw [<- hc]; rfl
  have hh : headT c hd8 0 = .ok ((), 8) := by
    have e := head_agree (b := hd12) (c := c) (k := 12) (by decide) ht (by omega) hd8 0 (Int.le_refl _) (by decide)
    rw [e]; rfl
  have hd9 : c.drop 9 = 245 :: 127 :: 0 :: w := by rw [<- hc]; rfl
  have hd11 : c.drop 11 = 0 :: w := by rw [<- hc]; rfl
  have hg : c.getD 8 0 = 0 := by rw [<- hc]; rfl
  have hn9 : nmT c 9 = .ok (16373, 11) := by
    unfold nmT
    rw [uSpec_in (by omega), show (9 : Int).toNat = 9 from rfl, hd9]
    rfl
  have hn11 : nmT c 11 = .ok (0, 12) := by
    unfold nmT
    rw [uSpec_in (by omega), show (11 : Int).toNat = 11 from rfl, hd11]
    rfl
  have hs : sec1 c 0 modS 8 = .ok ((0, modS), (c.length : Int)) := by
    unfold sec1 byteT
    rw [if_neg (by omega), bnd_ok, show (8 : Int).toNat = 8 from rfl, hg]
    unfold partT partN
    rw [show (8 : Int) + 1 = 9 from rfl, hn9, bnd_ok, if_neg (by omega), bnd_ok, if_pos rfl]
    unfold inT
    simp only
    have hca : c.take ((11 : Int) + 16373).toNat = c := List.take_of_length_le (by omega)
    have hnm : nameT c 11 = .ok (toS [], 12) := by
      unfold nameT bytesT partT partN
      rw [hn11, bnd_ok, if_neg (by omega), bnd_ok, bnd_ok]
      rfl
    rw [hca, hnm, bnd_ok, hl]
    rfl
  rw [hc] at hb ⊢
  rw [dec_any (by omega), any_end hb hh (by omega) (.cons hs (.nil _ _ _))]
  rfl
def G6 (Z : Nat) (b : List Int) (i : Nat) : St := { n := 73, slots := [(0, .view b.length 1 (nums .u8 b)), (3, .ref 3 0 Z 1), (4, .ref 4 0 (Z + 1) 1), (5, .int .i64 (i : Int))], mem := [(3, ⟨true, nums .u8 (XL b i)⟩), (4, ⟨true, nums .u8 (XL b i ++ [0])⟩)] }
theorem MMLong.NM : type_of% @NSX /\ type_of% @St.keepS.eq_1 /\ type_of% @TY /\ type_of% @SLS /\ type_of% @nums_length :=
  ⟨NSX, St.keepS.eq_1, @TY, @SLS, @nums_length⟩
open MMLong
theorem K1MLong.kp {P : Program} {c : Code} {Q : Exit -> St -> Prop} {st : St} (h : AW P c Q (st.keepS [0, 1])) : AW P c Q st := AW.keepS _ h
theorem K1MLong.sd {p : Prop} (h : p := by first | exact sd1eb496) : p := h
open K1MLong in
set_option maxHeartbeats 3200000 in
theorem most_raw : AC Tryd.prog 13 [] (fun r m => r = .ref 0 0 16384 1 /\ m = [(0, nums .u8 [0, 97, 115, 109, 1, 0, 0, 0, 0, 245, 127] ++ List.replicate 16373 (.int .u8 0))]) := by
  refine AC.enter Tryd.func13 rfl (Nat.le_of_ble_eq_true rfl) ?_
  simp only [Tryd.f13]
  have nx : True := trivial
  refine' st7d05e7
  all_goals first
    | exact ⟨rfl, rfl⟩
    | trace_state
end Go.Proofs.YtmomeejfopfchaaDoor
