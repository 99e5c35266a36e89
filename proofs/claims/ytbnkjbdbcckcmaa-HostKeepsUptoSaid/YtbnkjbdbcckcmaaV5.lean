/- A library of mine, for walks over abstract states: part 5. It imports the kit alone. -/
import Derived.Test.YtbnkjbdbcckcmaaV4
/- A library of mine, its forty-seventh text: other names of an object that is made anew: they keep their length. -/
namespace Go.Abs
set_option linter.unusedSimpArgs false
set_option linter.unusedVariables false
open Go Go.RowKit

theorem lk_mapk {α γ : Type} (f : Nat → α → γ) (l : List (Nat × α)) (i : Nat) : lk (l.map fun p => (p.1, f p.1 p.2)) i = (lk l i).map (f i) := by
  induction l with
  | nil => rfl
  | cons p l ih =>
    simp only [List.map_cons, lk]
    by_cases h : p.1 = i
    · subst h; simp
    · rw [show (p.1 == i) = false from by simpa using h]; simpa using ih
/-- all names of the object k but the slot i's: from now on those of an object that nobody has -/
def St.dead (st : St) (i k kd : Nat) : St :=
  { st with slots := st.slots.map fun p => (p.1, bif p.1 == i then p.2.wipe kd 4 else p.2.ren k kd 4), mem := rm (st.mem.map fun p => (p.1, p.2.wipe kd)) kd, lent := unpin kd st.lent }
section
variable {P : Program} {C : Ctx} {S : Nat → Prop} {β : Nat → Option BI} {st st' : St} {a : Act} {w w' : World} {rest : List Oper} {o : Oper} {Q : Exit → St → Prop} {ops : Array Oper}
theorem St.get_dead (st : St) (i k kd j : Nat) : (st.dead i k kd).get j = ((lk st.slots j).map fun v => bif j == i then v.wipe kd 4 else v.ren k kd 4).getD .any := by
  simp only [St.get, St.dead]
  rw [lk_mapk (fun n v => bif n == i then V.wipe kd 4 v else V.ren k kd 4 v)]
theorem St.obj_dead (st : St) (i k kd j : Nat) : (st.dead i k kd).obj j = if j = kd then none else (st.obj j).map (Obj1.wipe kd) := by
  simp only [St.obj, St.dead, lk_rm, lk_map]
theorem SR.dead (h : SR C S β st a w) (i k kd : Nat) (hne : k ≠ kd) : SR C S (upd β kd (β k)) (st.dead i k kd) a w := by
  have hoth : ∀ j, j ≠ kd → upd β kd (β k) j = β j := fun j hj => upd_other β kd j _ hj
  have hsome : ∀ {j}, ((st.dead i k kd).obj j).isSome = true → j ≠ kd ∧ (st.obj j).isSome = true := by
    intro j hj
    rw [St.obj_dead] at hj
    by_cases e : j = kd
    · rw [if_pos e] at hj; cases hj
    · rw [if_neg e] at hj; exact ⟨e, by simpa using hj⟩
  exact {
    tsize := h.tsize
    slots := fun j => by
      rw [St.get_dead]
      have hi := h.slots j
      unfold St.get at hi
      cases hl : lk st.slots j with
      | none => exact .any _
      | some v =>
        rw [hl] at hi
        show VR S w (upd β kd (β k)) (bif j == i then v.wipe kd 4 else v.ren k kd 4) _
        cases j == i with
        | true => exact VR.wipe hoth 4 hi
        | false => exact VR.ren (upd_same _ _ _) (fun j _ hj => hoth j hj) 4 hi
    defers := h.defers
    objs := fun j o ho => by
      rw [St.obj_dead] at ho
      by_cases e : j = kd
      · rw [if_pos e] at ho; cases ho
      · rw [if_neg e, Option.map_eq_some_iff] at ho
        obtain ⟨o0, ho0, rfl⟩ := ho
        exact OR.step (h.objs j o0 ho0) (fun _ h => h) (fun _ _ => rfl) (fun _ _ => rfl) (hoth j e) _ (fun v u hv => VR.wipe hoth 3 hv)
    inj := fun j j' bj bj' hj hj' hbj hbj' hblk => by
      obtain ⟨e1, s1⟩ := hsome hj
      obtain ⟨e2, s2⟩ := hsome hj'
      rw [hoth j e1] at hbj
      rw [hoth j' e2] at hbj'
      exact h.inj j j' bj bj' s1 s2 hbj hbj' hblk
    own := fun j bj hj hbj => by
      obtain ⟨e1, s1⟩ := hsome hj
      rw [hoth j e1] at hbj
      refine ⟨(h.own j bj s1 hbj).1, (h.own j bj s1 hbj).2.imp id (fun hL => ⟨hL.1, ?_⟩)⟩
      show hasK (unpin kd st.lent) j = true
      rw [hasK_unpin]; exact hL.2
    pins := fun j bj hj => by
      obtain ⟨hn, hm⟩ := mem_unpin hj
      rw [hoth j hn]; exact h.pins j bj hm
    sub := h.sub
    snew := h.snew
    slt := h.slt
    frame := h.frame }
theorem AW.dead {c : Code} (i k kd : Nat) (hne : (k == kd) = false) (h : AW P c Q (st.dead i k kd)) : AW P c Q st := fun C a w ⟨S, β, hs⟩ => h C a w ⟨S, _, hs.dead i k kd (by simpa using hne)⟩
/-- does another slot name the object k? -/
def St.others (st : St) (i k : Nat) : Bool := st.slots.any fun p => p.1 != i && (match p.2 with | .ref j _ _ _ => j == k | _ => false)
/-- ahead of the operation that names the slot d -/
theorem AWL.deadAt (d i k kd : Nat) (hd : o.dst = some d) (hne : (k == kd) = false) (ho : st.others i k = true) (h : AWL P ops (o :: rest) Q (st.dead i k kd)) : AWL P ops (o :: rest) Q st := fun C a w ⟨S, β, hs⟩ => h C a w ⟨S, _, hs.dead i k kd (by simpa using hne)⟩
/-- slots that are not asked any more are forgotten -/
def St.keepS (st : St) (is : List Nat) : St := { n := st.n, slots := is.map fun i => (i, st.get i), mem := st.mem, lent := st.lent }
theorem SR.keepS (h : SR C S β st a w) (is : List Nat) : SR C S β (st.keepS is) a w := by
  refine h.forget rfl rfl (fun i => ?_) (fun k o ho => ho)
  have := lk_keep st.get is i
  simp only [St.get, St.keepS] at this ⊢
  rw [this]
  split
  · exact .inl rfl
  · exact .inr rfl
theorem AW.keepS {c : Code} (is : List Nat) (h : AW P c Q (st.keepS is)) : AW P c Q st := fun C a w ⟨S, β, hs⟩ => h C a w ⟨S, β, hs.keepS is⟩
end
end Go.Abs

/- A library of mine, its forty-eighth text: what is to be shown behind a code gets a name, so that goals stay small. -/
namespace Go.Abs
set_option linter.unusedSimpArgs false
set_option linter.unusedVariables false
open Go Go.RowKit

def QEq (a b : Exit → St → Prop) : Prop := a = b
theorem QEq.mp {a b : Exit → St → Prop} (h : QEq a b) {e : Exit} {st : St} (k : b e st) : a e st := by rw [show a = b from h]; exact k
theorem QEq.pan {a b : Exit → St → Prop} (h : QEq a b) (k : PanOk b) : PanOk a := by rw [show a = b from h]; exact k
section
variable {P : Program} {st : St} {Q : Exit → St → Prop}
def notAB : Op → Bool
  | .alloc _ | .box _ _ => false
  | _ => true
theorem AWL.opN {ops : Array Oper} {o : Oper} {rest : List Oper} {st' : St} {sl : TypeId → List (Nat × Nat)} {c : Prop} (hg : o.guard = none) (hn : notAB o.op = true) (h : aop P sl o st = some (c, st')) (hc : c) (k : AWL P ops rest Q st') : AWL P ops (o :: rest) Q st := AWL.op hg h hc k
theorem AW.seqQ {x y : Code} (h : ∀ Q', QEq Q' (thenQ (AW P y Q) Q) → AW P x Q' st) : AW P (.seq x y) Q st := AW.seq (h _ rfl)
theorem AW.blockQ {id : Nat} {c : Code} (h : ∀ Q', QEq Q' (Go.Abs.blockQ id Q) → AW P c Q' st) : AW P (.block id c) Q st := AW.block (h _ rfl)
end
end Go.Abs

/- A library of mine, its forty-ninth text: more rules of normal forms, as one with the others. -/
namespace Go.Abs
set_option linter.unusedSimpArgs false
set_option linter.unusedVariables false
open Go Go.RowKit

theorem NSa : (((type_of% @ints_nums ∧ type_of% @ints_nil) ∧ (type_of% @ints_cons ∧ type_of% @eqL_nil)) ∧ ((type_of% @eqL_cons ∧ type_of% @eqS_int) ∧ (type_of% @eqS_bool ∧ type_of% @eqS_str))) :=
  ⟨⟨⟨@ints_nums, @ints_nil⟩, ⟨@ints_cons, @eqL_nil⟩⟩, ⟨⟨@eqL_cons, @eqS_int⟩, ⟨@eqS_bool, @eqS_str⟩⟩⟩
theorem NSb : (((type_of% @setI_nums ∧ type_of% @setI_nums2) ∧ (type_of% @List.filterMap_cons.{0, 0} ∧ type_of% @List.filterMap_nil.{0, 0})) ∧ ((type_of% @Option.map_some.{0, 0} ∧ type_of% @Option.map_none.{0, 0}) ∧ (type_of% @St.add.eq_1 ∧ type_of% @St.wm.eq_1))) :=
  ⟨⟨⟨@setI_nums, @setI_nums2⟩, ⟨@List.filterMap_cons, @List.filterMap_nil⟩⟩, ⟨⟨@Option.map_some, @Option.map_none⟩, ⟨@St.add.eq_1, @St.wm.eq_1⟩⟩⟩
theorem NSc : (((type_of% @St.wipe1.eq_1 ∧ type_of% @St.wipeL.eq_1) ∧ (type_of% @St.wipeL.eq_2 ∧ type_of% @callObjs.eq_1)) ∧ ((type_of% @callObjs.eq_2 ∧ type_of% @callKs.eq_1) ∧ (type_of% @callKs.eq_2 ∧ type_of% @NS))) :=
  ⟨⟨⟨@St.wipe1.eq_1, @St.wipeL.eq_1⟩, ⟨@St.wipeL.eq_2, @callObjs.eq_1⟩⟩, ⟨⟨@callObjs.eq_2, @callKs.eq_1⟩, ⟨@callKs.eq_2, @NS⟩⟩⟩
theorem NSX : type_of% @NSa ∧ type_of% @NSb ∧ type_of% @NSc := ⟨@NSa, @NSb, @NSc⟩
end Go.Abs
