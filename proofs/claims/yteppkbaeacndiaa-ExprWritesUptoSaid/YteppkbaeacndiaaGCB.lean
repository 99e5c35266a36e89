/- A library of mine, for walks over abstract states: part 5. It imports the kit alone. -/
import Derived.Test.YteppkbaeacndiaaV4
import Derived.Test.YteppkbaeacndiaaProg
set_option linter.unusedSimpArgs false
set_option linter.unusedVariables false
namespace Go.Abs
open Go Go.RowKit
section
variable {P : Program} {C : Ctx} {S : Nat -> Prop} {β : Nat -> Option BI} {st st' : St} {a : Act} {w w' : World} {rest : List Oper} {o : Oper} {Q : Exit -> St -> Prop} {ops : Array Oper}
def St.keepS (st : St) (is : List Nat) : St := { n := st.n, slots := is.map fun i => (i, st.get i), mem := st.mem, lent := st.lent }
theorem SR.keepS (h : SR C S β st a w) (is : List Nat) : SR C S β (st.keepS is) a w := by
  refine h.forget rfl rfl (fun i => ?_) (fun k o ho => ho)
  have := lk_keep st.get is i
  simp only [St.get, St.keepS] at this ⊢
  rw [this]
  split
  · exact .inl rfl
  · exact .inr rfl
theorem AW.keepS {c : Code} (is : List Nat) (h : AW P c Q (st.keepS is)) : AW P c Q st := fun C a w ⟨S, β, hs⟩ => h C a w ⟨S, β, hs.keepS is⟩
end
end Go.Abs
namespace Go.Abs
open Go Go.RowKit
def QEq (a b : Exit -> St -> Prop) : Prop := a = b
theorem QEq.mp {a b : Exit -> St -> Prop} (h : QEq a b) {e : Exit} {st : St} (k : b e st) : a e st := by rw [show a = b from h]; exact k
theorem QEq.pan {a b : Exit -> St -> Prop} (h : QEq a b) (k : PanOk b) : PanOk a := by rw [show a = b from h]; exact k
section
variable {P : Program} {st : St} {Q : Exit -> St -> Prop}
def notAB : Op -> Bool
  | .alloc _ | .box _ _ => false
  | _ => true
theorem AWL.opN {ops : Array Oper} {o : Oper} {rest : List Oper} {st' : St} {sl : TypeId -> List (Nat × Nat)} {c : Prop} (hg : o.guard = none) (hn : notAB o.op = true) (h : aop P sl o st = some (c, st')) (hc : c) (k : AWL P ops rest Q st') : AWL P ops (o :: rest) Q st := AWL.op hg h hc k
theorem AW.seqQ {x y : Code} (h : ∀ Q', QEq Q' (thenQ (AW P y Q) Q) -> AW P x Q' st) : AW P (.seq x y) Q st := AW.seq (h _ rfl)
theorem AW.blockQ {id : Nat} {c : Code} (h : ∀ Q', QEq Q' (Go.Abs.blockQ id Q) -> AW P c Q' st) : AW P (.block id c) Q st := AW.block (h _ rfl)
end
end Go.Abs
namespace Go.Abs
open Go Go.RowKit
theorem NSa : (((type_of% @ints_nums /\ type_of% @ints_nil) /\ (type_of% @ints_cons /\ type_of% @eqL_nil)) /\ ((type_of% @eqL_cons /\ type_of% @eqS_int) /\ (type_of% @eqS_bool /\ type_of% @eqS_str))) :=
  ⟨⟨⟨@ints_nums, @ints_nil⟩, ⟨@ints_cons, @eqL_nil⟩⟩, ⟨⟨@eqL_cons, @eqS_int⟩, ⟨@eqS_bool, @eqS_str⟩⟩⟩
theorem NSb : (((type_of% @setI_nums /\ type_of% @setI_nums2) /\ (type_of% @List.filterMap_cons.{0, 0} /\ type_of% @List.filterMap_nil.{0, 0})) /\ ((type_of% @Option.map_some.{0, 0} /\ type_of% @Option.map_none.{0, 0}) /\ (type_of% @St.add.eq_1 /\ type_of% @St.wm.eq_1))) :=
  ⟨⟨⟨@setI_nums, @setI_nums2⟩, ⟨@List.filterMap_cons, @List.filterMap_nil⟩⟩, ⟨⟨@Option.map_some, @Option.map_none⟩, ⟨@St.add.eq_1, @St.wm.eq_1⟩⟩⟩
theorem NSc : (((type_of% @St.wipe1.eq_1 /\ type_of% @St.wipeL.eq_1) /\ (type_of% @St.wipeL.eq_2 /\ type_of% @callObjs.eq_1)) /\ ((type_of% @callObjs.eq_2 /\ type_of% @callKs.eq_1) /\ (type_of% @callKs.eq_2 /\ type_of% @NS))) :=
  ⟨⟨⟨@St.wipe1.eq_1, @St.wipeL.eq_1⟩, ⟨@St.wipeL.eq_2, @callObjs.eq_1⟩⟩, ⟨⟨@callObjs.eq_2, @callKs.eq_1⟩, ⟨@callKs.eq_2, @NS⟩⟩⟩
theorem NSX : type_of% @NSa /\ type_of% @NSb /\ type_of% @NSc := ⟨@NSa, @NSb, @NSc⟩
end Go.Abs
namespace Go.Abs
open Go Go.RowKit
def isEager (o : Oper) : Bool :=
  match o.op with
  | .extract .. => o.guard.isNone && o.dst.isSome
  | _ => false
def EG (l : List Oper) (i : Nat) : Prop := ∃ o, l[i]? = some o /\ isEager o = true
def eagerFree (ops : List Oper) (i : Nat) : Bool :=
  match ops[i]? with
  | some o => !isEager o || (List.range ops.length).all fun j => i == j || ((masks ops).getD i 0).testBit j || (match ops[j]? with
    | some p => o.apart ops.toArray p || p.after.toList.any fun e => Region.binds .any e && e.on == i
    | none => true)
  | none => true
structure ChkE (l : List Oper) (k : Nat) : Prop where
  le : k <= l.length
  topo : ∀ i o j, l[i]? = some o -> dirs o j -> j < i
  dist : ∀ i j o p d, i < k -> j < k -> ¬FL l i -> ¬FL l j -> l[i]? = some o -> l[j]? = some p -> o.dst = some d -> p.dst = some d -> i = j
  reads : ∀ i j o p d, i < k -> j < k -> ¬FL l i -> ¬FL l j -> l[i]? = some o -> l[j]? = some p -> p.dst = some d -> d ∈ o.looksAt l.toArray -> ((masks l).getD i 0).testBit j = true
  tail : ∀ i j, k <= i -> i < l.length -> j < i -> ((masks l).getD i 0).testBit j = true \/ j ∈ floats l k \/ (j < k /\ EG l j)
  nosel : Region.noSelect l.toArray = true
  fl : chkF l (Array.replicate l.length false) (floats l k) = true
  free : ∀ i, i < k -> eagerFree l i = true
section
variable {P : Program} {C : Ctx} {S : Nat -> Prop} {β : Nat -> Option BI} {st st' : St} {a : Act} {w w' : World} {l : List Oper} {rest : List Oper} {o : Oper} {Q : Exit -> St -> Prop}
end
end Go.Abs
namespace Go.Abs
open Go Go.RowKit
section
variable {P : Program} {C : Ctx} {S : Nat -> Prop} {β : Nat -> Option BI} {st st' : St} {a : Act} {w w' : World} {l : List Oper} {rest : List Oper} {o : Oper}
end
section
variable {P : Program} {b : Bool} {nq ms F : List Nat} {M : List (Nat × Obj1)} {U : List (Nat × Nat)} {i : Nat} {o : Oper} {rest : List Oper} {ops : Array Oper} {Q : Exit -> St -> Prop} {st : St}
end
end Go.Abs
namespace Go.Abs
open Go Go.RowKit
section
variable {P : Program} {C : Ctx} {S : Nat -> Prop} {β β' : Nat -> Option BI} {st st' : St} {a : Act} {w w' : World} {o : Oper} {Q : Exit -> St -> Prop} {ops : Array Oper} {rest : List Oper}
end
end Go.Abs
namespace Go.Abs
open Go Go.RowKit
section
variable {P : Program} {C : Ctx} {S : Nat -> Prop} {β : Nat -> Option BI} {st st' : St} {a : Act} {w w' : World} {Q : Exit -> St -> Prop} {ops : Array Oper} {rest : List Oper} {o : Oper} {b : Bool}
end
theorem AWL.frzSt {P : Program} {st : St} {Q : Exit -> St -> Prop} {ops : Array Oper} {rest : List Oper} {o : Oper} (k : Nat) (_hd : o.dst = none) (_hk : (st.obj k).isSome = true) (h : AWL P ops (o :: rest) Q (st.freeze k)) : AWL P ops (o :: rest) Q st := AWL.frz k h
section
variable {P : Program} {C : Ctx} {S : Nat -> Prop} {β : Nat -> Option BI} {st st' : St} {a : Act} {w w' : World} {Q : Exit -> St -> Prop} {ops : Array Oper} {rest : List Oper} {o : Oper} {b : Bool}
end
section
variable {P : Program} {C : Ctx} {S : Nat -> Prop} {β : Nat -> Option BI} {st st' : St} {a : Act} {w w' : World} {Q : Exit -> St -> Prop} {ops : Array Oper} {rest : List Oper} {o : Oper} {b : Bool}
theorem SR.lentD (h : SR C S β st a w) {k : Nat} {l : List (Nat × Option BI)} (hl : st.lent = (k, none) :: l) (hk : hasK l k = true) : SR C S β { st with lent := l } a w :=
  { tsize := h.tsize, slots := h.slots, defers := h.defers, objs := h.objs, inj := h.inj,
    own := fun j bi hj hb => by
      obtain ⟨h1, h2⟩ := h.own j bi hj hb
      refine ⟨h1, h2.imp id (fun hL => ⟨hL.1, ?_⟩)⟩
      have h3 := hL.2
      rw [hl] at h3
      simp only [hasK, Bool.or_eq_true, beq_iff_eq] at h3
      rcases h3 with h3 | h3
      · rw [<- h3]; exact hk
      · exact h3
    pins := fun j bi hj => h.pins j bi (by rw [hl]; exact List.mem_cons_of_mem _ hj)
    sub := h.sub, snew := h.snew, slt := h.slt, frame := h.frame }
theorem AWL.lentD {l : List Oper} {k : Nat} {r : List (Nat × Option BI)} (hl : st.lent = (k, none) :: r) (hk : hasK r k = true) (h : AWL P ops l Q { st with lent := r }) : AWL P ops l Q st := fun C a w ⟨S, β, hs⟩ => h C a w ⟨S, β, hs.lentD hl hk⟩
end
def Wk (v' v : V) : Prop := ∀ (S : Nat -> Prop) (w : World) (β : Nat -> Option BI) (u : Value), VR S w β v' u -> VR S w β v u
inductive WkL : List V -> List V -> Prop
  | nil : WkL [] []
  | cons {v' v : V} {l' l : List V} (h : Wk v' v) (hl : WkL l' l) : WkL (v' :: l') (v :: l)
theorem Wk.refl (v : V) : Wk v v := fun _ _ _ _ h => h
theorem Wk.nils (sz : Nat) : Wk .nils (.view 0 sz []) := fun S w β u h => by
  cases h with
  | flat h => cases h with
    | nils A => exact .flat (.view 0 sz [] A 0 (fun _ => undef) (by simp) (Nat.le_refl _) (fun h => absurd rfl h) (fun j v h => by simp at h) (fun j v h => by simp at h))
theorem Wk.fagg (cs : List V) : Wk (.fagg cs) (.agg cs) := fun S w β u h => by
  cases h with
  | flat h => cases h with
    | fagg _ us hl hr h1 => exact .agg cs us hl (fun j v u hv hu => .flat (hr j v u hv hu))
theorem WkL.length {l' l : List V} (h : WkL l' l) : l'.length = l.length := by
  induction h with
  | nil => rfl
  | cons _ _ ih => simp [ih]
theorem WkL.at {l' l : List V} (h : WkL l' l) : ∀ {j : Nat} {v : V}, l[j]? = some v -> ∃ v', l'[j]? = some v' /\ Wk v' v := by
  induction h with
  | nil => intro j v hv; simp at hv
  | cons h _ ih =>
    intro j v hv
    cases j with
    | zero => simp at hv; subst hv; exact ⟨_, rfl, h⟩
    | succ j => exact ih hv
theorem Wk.agg {cs' cs : List V} (h : WkL cs' cs) : Wk (.agg cs') (.agg cs) := fun S w β u hv => by
  have key : ∀ {us : Array Value}, cs'.length = us.size -> (∀ (j : Nat) (v : V) (u : Value), cs'[j]? = some v -> us[j]? = some u -> VR S w β v u) -> VR S w β (.agg cs) (.agg us) := fun {us} hl hr =>
    .agg cs us (by rw [<- h.length]; exact hl) (fun j v u hv hu => by
      obtain ⟨v', h1, h2⟩ := h.at hv
      exact h2 S w β u (hr j v' u h1 hu))
  cases hv with
  | flat h => cases h
  | agg _ us hl hr => exact key hl hr
theorem WkL.refl : ∀ l : List V, WkL l l
  | [] => .nil
  | v :: l => .cons (Wk.refl v) (WkL.refl l)
theorem AC.wk {P : Program} {f : FuncId} {args args' : List V} {R : V -> List (Nat × List V) -> Prop} (h : AC P f args R) (hw : WkL args' args) : AC P f args' R :=
  fun S w us h1 h2 h3 => h S w us h1 (by rw [<- hw.length]; exact h2) (fun j v u hv hu => by
    obtain ⟨v', e1, e2⟩ := hw.at hv
    exact e2 S w _ u (h3 j v' u e1 hu))
def Fk (v' v : V) : Prop := (∀ (S : Nat -> Prop) (w : World) (u : Value), FR S w v' u -> FR S w v u) /\ v.cell1 = v'.cell1
inductive FkL : List V -> List V -> Prop
  | nil : FkL [] []
  | cons {v' v : V} {l' l : List V} (h : Fk v' v) (hl : FkL l' l) : FkL (v' :: l') (v :: l)
theorem Fk.refl (v : V) : Fk v v := ⟨fun _ _ _ h => h, rfl⟩
theorem Fk.nils (sz : Nat) : Fk .nils (.view 0 sz []) := ⟨fun S w u h => by
  cases h with
  | nils A => exact .view 0 sz [] A 0 (fun _ => undef) (by simp) (Nat.le_refl _) (fun h => absurd rfl h) (fun j v h => by simp at h) (fun j v h => by simp at h), rfl⟩
theorem FkL.app {a' a b' b : List V} (h : FkL a' a) (h2 : FkL b' b) : FkL (a' ++ b') (a ++ b) := by
  induction h with
  | nil => exact h2
  | cons h _ ih => exact .cons h ih
theorem FkL.length {l' l : List V} (h : FkL l' l) : l'.length = l.length := by
  induction h with
  | nil => rfl
  | cons _ _ ih => simp [ih]
theorem FkL.at {l' l : List V} (h : FkL l' l) : ∀ {j : Nat} {v : V}, l[j]? = some v -> ∃ v', l'[j]? = some v' /\ Fk v' v := by
  induction h with
  | nil => intro j v hv; simp at hv
  | cons h _ ih =>
    intro j v hv
    cases j with
    | zero => simp at hv; subst hv; exact ⟨_, rfl, h⟩
    | succ j => exact ih hv
theorem Wk.view {n sz : Nat} {cs' cs : List V} (h : FkL cs' cs) : Wk (.view n sz cs') (.view n sz cs) := fun S w β u hv => by
  cases hv with
  | flat hv => cases hv with
    | view _ _ _ A c us hl hc ha hr h1 =>
      refine .flat (.view n sz cs A c us (by rw [<- h.length]; exact hl) hc (fun hne => ?_) (fun j v hj => ?_) (fun j v hj => ?_))
      · obtain ⟨b, o, e1, e2, e3⟩ := ha (fun e => hne (List.eq_nil_of_length_eq_zero (by rw [<- h.length, e]; rfl)))
        exact ⟨b, o, e1, e2, fun j v hj => by
          obtain ⟨v', hv', _⟩ := h.at hj
          exact e3 j v' hv'⟩
      · obtain ⟨v', hv', hk⟩ := h.at hj
        exact hk.1 S w _ (hr j v' hv')
      · obtain ⟨v', hv', hk⟩ := h.at hj
        rw [hk.2]; exact h1 j v' hv'
end Go.Abs
namespace Go.Abs
open Go Go.RowKit
section
variable {P : Program} {C : Ctx} {st st' : St} {Q : Exit -> St -> Prop} {ops : Array Oper} {rest : List Oper} {o : Oper}
theorem AW.seqP {x y : Code} (hp : PanOk Q) (h : ∀ Q', QEq Q' (thenQ (AW P y Q) Q) -> PanOk Q' -> AW P x Q' st) : AW P (.seq x y) Q st :=
  AW.seqQ fun Q' hq => h Q' hq (QEq.pan hq (panOk_then hp))
theorem AW.blockP {id : Nat} {c : Code} (hp : PanOk Q) (h : ∀ Q', QEq Q' (Go.Abs.blockQ id Q) -> PanOk Q' -> AW P c Q' st) : AW P (.block id c) Q st :=
  AW.blockQ fun Q' hq => h Q' hq (QEq.pan hq (panOk_block hp))
theorem AWL.frzG {f : FuncId} {args : Array Operand} {argTypes : Array TypeId} {k : Nat} (_hg : o.guard = none) (_ho : o.op = .call { callee := .value (.func f), args, argTypes }) (_hk : ownArg st (args.toList.map st.ev) = some k) (h : AWL P ops (o :: rest) Q (st.freeze k)) : AWL P ops (o :: rest) Q st := AWL.frz k h
theorem AWL.cM {f : FuncId} {args : Array Operand} {argTypes : Array TypeId} {d : Nat} (ρ : List (Nat × Nat)) {keep : List Nat} {mem : Mem} {cargs : List V} {R : V -> Mem -> Prop} (hf : callable P f = true) (hg : o.guard = none) (ho : o.op = .call { callee := .value (.func f), args, argTypes }) (hd : o.dst = some d)
    (hdn : Nat.ble (d + 1) st.n = true) (hl : lendM st ρ ρ = some mem) (hck : chkK st ρ keep = true) (hargs : args.toList.map (fun x => (st.ev x).rk (inv1 ρ) 4) = cargs) (hAM : AM P f cargs mem keep R) (k : ∀ r m, R r m -> chkB ρ d m = true /\ AWL P ops rest Q (st.back ρ keep d m r)) : AWL P ops (o :: rest) Q st :=
  AWL.callM ρ hg ho hd hf (Nat.le_of_ble_eq_true hdn) hl hck hargs hAM k
theorem AWL.cC {f : FuncId} {args : Array Operand} {argTypes : Array TypeId} {d : Nat} {R : V -> List (Nat × List V) -> Prop} (hf : callable P f = true) (hg : o.guard = none) (ho : o.op = .call { callee := .value (.func f), args, argTypes }) (hd : o.dst = some d) (hst : args.toList.foldl (fun st x => st.frzV (st.ev x)) st = st') (hdn : Nat.ble (d + 1) st'.n = true)
    (hfl : ((args.toList.map st'.ev).all flatV) = true) (hAC : AC P f (args.toList.map st'.ev) R) (k : ∀ r m, R r m -> AWL P ops rest Q ((st'.adoptL d m).put d (shiftV d 4 r))) : AWL P ops (o :: rest) Q st :=
  AWL.call hg ho hd hf hst (Nat.le_of_ble_eq_true hdn) hfl hAC k
end
theorem HCX : type_of% @beq_iff_eq.{0} /\ type_of% @bne_iff_ne.{0} /\ type_of% @decide_eq_true_eq /\ type_of% @decide_eq_false_iff_not /\ type_of% @beq_eq_false_iff_ne.{0} /\ type_of% @bne_eq_false_iff_eq.{0} /\ type_of% @ne_eq.{1} /\ type_of% @Bool.not_eq_true /\ type_of% @Bool.not_eq_false /\ type_of% @Bool.not_eq_eq_eq_not /\ type_of% @Bool.not_true /\ type_of% @Bool.not_false /\ type_of% @Decidable.not_not /\ type_of% @Int.not_lt /\ type_of% @Int.not_le /\ type_of% @decide_eq_decide /\ type_of% @not_true_eq_false :=
  ⟨beq_iff_eq, bne_iff_ne, decide_eq_true_eq, decide_eq_false_iff_not, beq_eq_false_iff_ne, bne_eq_false_iff_eq, ne_eq, Bool.not_eq_true, Bool.not_eq_false, Bool.not_eq_eq_eq_not, Bool.not_true, Bool.not_false, Decidable.not_not, Int.not_lt, Int.not_le, decide_eq_decide, not_true_eq_false⟩
end Go.Abs
namespace Go.Proofs.Yteppkbaeacndiaa
set_option maxRecDepth 20000
open Go Go.Abs
theorem z2 (h : 2 < Try.prog.types.size) : (Try.prog.types[2]'h).size = 1 := by kernel_rfl
theorem i2 : intT Try.prog 2 = some .i64 := by kernel_rfl
theorem d2 (v : V) : (castV Try.prog 2 v).1 = ∃ n, v = .int .i64 n := rfl
theorem c2 (v : V) : (castV Try.prog 2 v).2 = .int .i64 (vi v) := rfl
theorem z3 (h : 3 < Try.prog.types.size) : (Try.prog.types[3]'h).size = 1 := by kernel_rfl
theorem i3 : intT Try.prog 3 = some .i64 := by kernel_rfl
theorem d3 (v : V) : (castV Try.prog 3 v).1 = ∃ n, v = .int .i64 n := rfl
theorem c3 (v : V) : (castV Try.prog 3 v).2 = .int .i64 (vi v) := rfl
theorem z4 (h : 4 < Try.prog.types.size) : (Try.prog.types[4]'h).size = 1 := by kernel_rfl
theorem d4 (v : V) : (castV Try.prog 4 v).1 = ∃ b, v = .bool b := rfl
theorem c4 (v : V) : (castV Try.prog 4 v).2 = .bool (vb v) := rfl
theorem z5 (h : 5 < Try.prog.types.size) : (Try.prog.types[5]'h).size = 1 := by kernel_rfl
theorem i5 : intT Try.prog 5 = some .u8 := by kernel_rfl
theorem d5 (v : V) : (castV Try.prog 5 v).1 = ∃ n, v = .int .u8 n := rfl
theorem c5 (v : V) : (castV Try.prog 5 v).2 = .int .u8 (vi v) := rfl
theorem z9 (h : 9 < Try.prog.types.size) : (Try.prog.types[9]'h).size = 1 := by kernel_rfl
theorem d9 (v : V) : (castV Try.prog 9 v).1 = ∃ s, v = .str s := rfl
theorem c9 (v : V) : (castV Try.prog 9 v).2 = .str (vst v) := rfl
theorem z12 (h : 12 < Try.prog.types.size) : (Try.prog.types[12]'h).size = 1 := by kernel_rfl
theorem d12 (v : V) : (castV Try.prog 12 v).1 = ∃ n, v = .int .u64 n := rfl
theorem c12 (v : V) : (castV Try.prog 12 v).2 = .int .u64 (vi v) := rfl
theorem z17 (h : 17 < Try.prog.types.size) : (Try.prog.types[17]'h).size = 1 := by kernel_rfl
theorem z20 (h : 20 < Try.prog.types.size) : (Try.prog.types[20]'h).size = 1 := by kernel_rfl
theorem z21 (h : 21 < Try.prog.types.size) : (Try.prog.types[21]'h).size = 1 := by kernel_rfl
theorem d21 (v : V) : (castV Try.prog 21 v).1 = ∃ n, v = .int .i32 n := rfl
theorem c21 (v : V) : (castV Try.prog 21 v).2 = .int .i32 (vi v) := rfl
theorem z22 (h : 22 < Try.prog.types.size) : (Try.prog.types[22]'h).size = 1 := by kernel_rfl
theorem d22 (v : V) : (castV Try.prog 22 v).1 = ∃ n cs, v = .view n 1 cs := rfl
theorem c22 (v : V) : (castV Try.prog 22 v).2 = .view (vn v) 1 (vcs v) := rfl
theorem z24 (h : 24 < Try.prog.types.size) : (Try.prog.types[24]'h).size = 1 := by kernel_rfl
theorem d24 (v : V) : (castV Try.prog 24 v).1 = ∃ n cs, v = .view n 6 cs := rfl
theorem c24 (v : V) : (castV Try.prog 24 v).2 = .view (vn v) 6 (vcs v) := rfl
theorem z25 (h : 25 < Try.prog.types.size) : (Try.prog.types[25]'h).size = 1 := by kernel_rfl
theorem d25 (v : V) : (castV Try.prog 25 v).1 = ∃ n, v = .int .i64 n := rfl
theorem c25 (v : V) : (castV Try.prog 25 v).2 = .int .i64 (vi v) := rfl
theorem z33 (h : 33 < Try.prog.types.size) : (Try.prog.types[33]'h).size = 1 := by kernel_rfl
theorem d33 (v : V) : (castV Try.prog 33 v).1 = ∃ n, v = .int .u64 n := rfl
theorem c33 (v : V) : (castV Try.prog 33 v).2 = .int .u64 (vi v) := rfl
theorem z35 (h : 35 < Try.prog.types.size) : (Try.prog.types[35]'h).size = 1 := by kernel_rfl
theorem i35 : intT Try.prog 35 = some .u64 := by kernel_rfl
theorem d35 (v : V) : (castV Try.prog 35 v).1 = ∃ n, v = .int .u64 n := rfl
theorem c35 (v : V) : (castV Try.prog 35 v).2 = .int .u64 (vi v) := rfl
theorem z36 (h : 36 < Try.prog.types.size) : (Try.prog.types[36]'h).size = 1 := by kernel_rfl
theorem d36 (v : V) : (castV Try.prog 36 v).1 = ∃ n cs, v = .view n 1 cs := rfl
theorem c36 (v : V) : (castV Try.prog 36 v).2 = .view (vn v) 1 (vcs v) := rfl
theorem z37 (h : 37 < Try.prog.types.size) : (Try.prog.types[37]'h).size = 6 := by kernel_rfl
theorem z38 (h : 38 < Try.prog.types.size) : (Try.prog.types[38]'h).size = 6 := by kernel_rfl
theorem z41 (h : 41 < Try.prog.types.size) : (Try.prog.types[41]'h).size = 1 := by kernel_rfl
theorem z42 (h : 42 < Try.prog.types.size) : (Try.prog.types[42]'h).size = 4 := by kernel_rfl
theorem z43 (h : 43 < Try.prog.types.size) : (Try.prog.types[43]'h).size = 4 := by kernel_rfl
theorem z47 (h : 47 < Try.prog.types.size) : (Try.prog.types[47]'h).size = 5 := by kernel_rfl
theorem z48 (h : 48 < Try.prog.types.size) : (Try.prog.types[48]'h).size = 5 := by kernel_rfl
theorem z61 (h : 61 < Try.prog.types.size) : (Try.prog.types[61]'h).size = 1 := by kernel_rfl
theorem z65 (h : 65 < Try.prog.types.size) : (Try.prog.types[65]'h).size = 1 := by kernel_rfl
theorem d65 (v : V) : (castV Try.prog 65 v).1 = ∃ n cs, v = .view n 1 cs := rfl
theorem c65 (v : V) : (castV Try.prog 65 v).2 = .view (vn v) 1 (vcs v) := rfl
theorem z79 (h : 79 < Try.prog.types.size) : (Try.prog.types[79]'h).size = 1 := by kernel_rfl
theorem d79 (v : V) : (castV Try.prog 79 v).1 = ∃ n cs, v = .view n 1 cs := rfl
theorem c79 (v : V) : (castV Try.prog 79 v).2 = .view (vn v) 1 (vcs v) := rfl
theorem z81 (h : 81 < Try.prog.types.size) : (Try.prog.types[81]'h).size = 16 := by kernel_rfl
theorem z82 (h : 82 < Try.prog.types.size) : (Try.prog.types[82]'h).size = 16 := by kernel_rfl
theorem z84 (h : 84 < Try.prog.types.size) : (Try.prog.types[84]'h).size = 2 := by kernel_rfl
theorem z85 (h : 85 < Try.prog.types.size) : (Try.prog.types[85]'h).size = 2 := by kernel_rfl
theorem z88 (h : 88 < Try.prog.types.size) : (Try.prog.types[88]'h).size = 1 := by kernel_rfl
theorem d88 (v : V) : (castV Try.prog 88 v).1 = ∃ n cs, v = .view n 5 cs := rfl
theorem c88 (v : V) : (castV Try.prog 88 v).2 = .view (vn v) 5 (vcs v) := rfl
theorem z90 (h : 90 < Try.prog.types.size) : (Try.prog.types[90]'h).size = 5 := by kernel_rfl
theorem z91 (h : 91 < Try.prog.types.size) : (Try.prog.types[91]'h).size = 5 := by kernel_rfl
theorem z92 (h : 92 < Try.prog.types.size) : (Try.prog.types[92]'h).size = 1 := by kernel_rfl
theorem d92 (v : V) : (castV Try.prog 92 v).1 = ∃ n, v = .int .u32 n := rfl
theorem c92 (v : V) : (castV Try.prog 92 v).2 = .int .u32 (vi v) := rfl
theorem z97 (h : 97 < Try.prog.types.size) : (Try.prog.types[97]'h).size = 1 := by kernel_rfl
theorem d97 (v : V) : (castV Try.prog 97 v).1 = ∃ n cs, v = .view n 1 cs := rfl
theorem c97 (v : V) : (castV Try.prog 97 v).2 = .view (vn v) 1 (vcs v) := rfl
theorem z105 (h : 105 < Try.prog.types.size) : (Try.prog.types[105]'h).size = 1 := by kernel_rfl
theorem d105 (v : V) : (castV Try.prog 105 v).1 = ∃ n, v = .int .i8 n := rfl
theorem c105 (v : V) : (castV Try.prog 105 v).2 = .int .i8 (vi v) := rfl
theorem z115 (h : 115 < Try.prog.types.size) : (Try.prog.types[115]'h).size = 1 := by kernel_rfl
theorem TY : (∀ h : 2 < Try.prog.types.size, (Try.prog.types[2]'h).size = 1) /\
  (∀ v : V, (castV Try.prog 2 v).1 = ∃ n, v = .int .i64 n) /\
  (∀ v : V, (castV Try.prog 2 v).2 = .int .i64 (vi v)) /\
  (∀ h : 3 < Try.prog.types.size, (Try.prog.types[3]'h).size = 1) /\
  (∀ v : V, (castV Try.prog 3 v).1 = ∃ n, v = .int .i64 n) /\
  (∀ v : V, (castV Try.prog 3 v).2 = .int .i64 (vi v)) /\
  (∀ h : 4 < Try.prog.types.size, (Try.prog.types[4]'h).size = 1) /\
  (∀ v : V, (castV Try.prog 4 v).1 = ∃ b, v = .bool b) /\
  (∀ v : V, (castV Try.prog 4 v).2 = .bool (vb v)) /\
  (∀ h : 5 < Try.prog.types.size, (Try.prog.types[5]'h).size = 1) /\
  (∀ v : V, (castV Try.prog 5 v).1 = ∃ n, v = .int .u8 n) /\
  (∀ v : V, (castV Try.prog 5 v).2 = .int .u8 (vi v)) /\
  (∀ h : 9 < Try.prog.types.size, (Try.prog.types[9]'h).size = 1) /\
  (∀ v : V, (castV Try.prog 9 v).1 = ∃ s, v = .str s) /\
  (∀ v : V, (castV Try.prog 9 v).2 = .str (vst v)) /\
  (∀ h : 12 < Try.prog.types.size, (Try.prog.types[12]'h).size = 1) /\
  (∀ v : V, (castV Try.prog 12 v).1 = ∃ n, v = .int .u64 n) /\
  (∀ v : V, (castV Try.prog 12 v).2 = .int .u64 (vi v)) /\
  (∀ h : 17 < Try.prog.types.size, (Try.prog.types[17]'h).size = 1) /\
  (∀ h : 20 < Try.prog.types.size, (Try.prog.types[20]'h).size = 1) /\
  (∀ h : 21 < Try.prog.types.size, (Try.prog.types[21]'h).size = 1) /\
  (∀ v : V, (castV Try.prog 21 v).1 = ∃ n, v = .int .i32 n) /\
  (∀ v : V, (castV Try.prog 21 v).2 = .int .i32 (vi v)) /\
  (∀ h : 22 < Try.prog.types.size, (Try.prog.types[22]'h).size = 1) /\
  (∀ v : V, (castV Try.prog 22 v).1 = ∃ n cs, v = .view n 1 cs) /\
  (∀ v : V, (castV Try.prog 22 v).2 = .view (vn v) 1 (vcs v)) /\
  (∀ h : 24 < Try.prog.types.size, (Try.prog.types[24]'h).size = 1) /\
  (∀ v : V, (castV Try.prog 24 v).1 = ∃ n cs, v = .view n 6 cs) /\
  (∀ v : V, (castV Try.prog 24 v).2 = .view (vn v) 6 (vcs v)) /\
  (∀ h : 25 < Try.prog.types.size, (Try.prog.types[25]'h).size = 1) /\
  (∀ v : V, (castV Try.prog 25 v).1 = ∃ n, v = .int .i64 n) /\
  (∀ v : V, (castV Try.prog 25 v).2 = .int .i64 (vi v)) /\
  (∀ h : 33 < Try.prog.types.size, (Try.prog.types[33]'h).size = 1) /\
  (∀ v : V, (castV Try.prog 33 v).1 = ∃ n, v = .int .u64 n) /\
  (∀ v : V, (castV Try.prog 33 v).2 = .int .u64 (vi v)) /\
  (∀ h : 35 < Try.prog.types.size, (Try.prog.types[35]'h).size = 1) /\
  (∀ v : V, (castV Try.prog 35 v).1 = ∃ n, v = .int .u64 n) /\
  (∀ v : V, (castV Try.prog 35 v).2 = .int .u64 (vi v)) /\
  (∀ h : 36 < Try.prog.types.size, (Try.prog.types[36]'h).size = 1) /\
  (∀ v : V, (castV Try.prog 36 v).1 = ∃ n cs, v = .view n 1 cs) /\
  (∀ v : V, (castV Try.prog 36 v).2 = .view (vn v) 1 (vcs v)) /\
  (∀ h : 37 < Try.prog.types.size, (Try.prog.types[37]'h).size = 6) /\
  (∀ h : 38 < Try.prog.types.size, (Try.prog.types[38]'h).size = 6) /\
  (∀ h : 41 < Try.prog.types.size, (Try.prog.types[41]'h).size = 1) /\
  (∀ h : 42 < Try.prog.types.size, (Try.prog.types[42]'h).size = 4) /\
  (∀ h : 43 < Try.prog.types.size, (Try.prog.types[43]'h).size = 4) /\
  (∀ h : 47 < Try.prog.types.size, (Try.prog.types[47]'h).size = 5) /\
  (∀ h : 48 < Try.prog.types.size, (Try.prog.types[48]'h).size = 5) /\
  (∀ h : 61 < Try.prog.types.size, (Try.prog.types[61]'h).size = 1) /\
  (∀ h : 65 < Try.prog.types.size, (Try.prog.types[65]'h).size = 1) /\
  (∀ v : V, (castV Try.prog 65 v).1 = ∃ n cs, v = .view n 1 cs) /\
  (∀ v : V, (castV Try.prog 65 v).2 = .view (vn v) 1 (vcs v)) /\
  (∀ h : 79 < Try.prog.types.size, (Try.prog.types[79]'h).size = 1) /\
  (∀ v : V, (castV Try.prog 79 v).1 = ∃ n cs, v = .view n 1 cs) /\
  (∀ v : V, (castV Try.prog 79 v).2 = .view (vn v) 1 (vcs v)) /\
  (∀ h : 81 < Try.prog.types.size, (Try.prog.types[81]'h).size = 16) /\
  (∀ h : 82 < Try.prog.types.size, (Try.prog.types[82]'h).size = 16) /\
  (∀ h : 84 < Try.prog.types.size, (Try.prog.types[84]'h).size = 2) /\
  (∀ h : 85 < Try.prog.types.size, (Try.prog.types[85]'h).size = 2) /\
  (∀ h : 88 < Try.prog.types.size, (Try.prog.types[88]'h).size = 1) /\
  (∀ v : V, (castV Try.prog 88 v).1 = ∃ n cs, v = .view n 5 cs) /\
  (∀ v : V, (castV Try.prog 88 v).2 = .view (vn v) 5 (vcs v)) /\
  (∀ h : 90 < Try.prog.types.size, (Try.prog.types[90]'h).size = 5) /\
  (∀ h : 91 < Try.prog.types.size, (Try.prog.types[91]'h).size = 5) /\
  (∀ h : 92 < Try.prog.types.size, (Try.prog.types[92]'h).size = 1) /\
  (∀ v : V, (castV Try.prog 92 v).1 = ∃ n, v = .int .u32 n) /\
  (∀ v : V, (castV Try.prog 92 v).2 = .int .u32 (vi v)) /\
  (∀ h : 97 < Try.prog.types.size, (Try.prog.types[97]'h).size = 1) /\
  (∀ v : V, (castV Try.prog 97 v).1 = ∃ n cs, v = .view n 1 cs) /\
  (∀ v : V, (castV Try.prog 97 v).2 = .view (vn v) 1 (vcs v)) /\
  (∀ h : 105 < Try.prog.types.size, (Try.prog.types[105]'h).size = 1) /\
  (∀ v : V, (castV Try.prog 105 v).1 = ∃ n, v = .int .i8 n) /\
  (∀ v : V, (castV Try.prog 105 v).2 = .int .i8 (vi v)) /\
  (∀ h : 115 < Try.prog.types.size, (Try.prog.types[115]'h).size = 1) :=
  ⟨z2, d2, c2, z3, d3, c3, z4, d4, c4, z5, d5, c5, z9, d9, c9, z12, d12, c12, z17, z20, z21, d21, c21, z22, d22, c22, z24, d24, c24, z25, d25, c25, z33, d33, c33, z35, d35, c35, z36, d36, c36, z37, z38, z41, z42, z43, z47, z48, z61, z65, d65, c65, z79, d79, c79, z81, z82, z84, z85, z88, d88, c88, z90, z91, z92, d92, c92, z97, d97, c97, z105, d105, c105, z115⟩
end Go.Proofs.Yteppkbaeacndiaa
namespace Go.Proofs.Yteppkbaeacndiaa
open Go Go.Abs
theorem cb9 : callable Try.prog 9 = true := by kernel_rfl
theorem cb10 : callable Try.prog 10 = true := by kernel_rfl
theorem cb11 : callable Try.prog 11 = true := by kernel_rfl
theorem cb12 : callable Try.prog 12 = true := by kernel_rfl
theorem cb13 : callable Try.prog 13 = true := by kernel_rfl
theorem cb14 : callable Try.prog 14 = true := by kernel_rfl
theorem cb15 : callable Try.prog 15 = true := by kernel_rfl
theorem cb16 : callable Try.prog 16 = true := by kernel_rfl
theorem cb17 : callable Try.prog 17 = true := by kernel_rfl
theorem cb18 : callable Try.prog 18 = true := by kernel_rfl
theorem cb19 : callable Try.prog 19 = true := by kernel_rfl
theorem cb21 : callable Try.prog 21 = true := by kernel_rfl
theorem cb22 : callable Try.prog 22 = true := by kernel_rfl
theorem cb23 : callable Try.prog 23 = true := by kernel_rfl
theorem cb24 : callable Try.prog 24 = true := by kernel_rfl
theorem cb25 : callable Try.prog 25 = true := by kernel_rfl
theorem cb26 : callable Try.prog 26 = true := by kernel_rfl
theorem cb27 : callable Try.prog 27 = true := by kernel_rfl
theorem cb28 : callable Try.prog 28 = true := by kernel_rfl
theorem cb29 : callable Try.prog 29 = true := by kernel_rfl
theorem cb30 : callable Try.prog 30 = true := by kernel_rfl
theorem cb31 : callable Try.prog 31 = true := by kernel_rfl
theorem cb32 : callable Try.prog 32 = true := by kernel_rfl
theorem cb37 : callable Try.prog 37 = true := by kernel_rfl
theorem cb38 : callable Try.prog 38 = true := by kernel_rfl
theorem cb39 : callable Try.prog 39 = true := by kernel_rfl
theorem cb40 : callable Try.prog 40 = true := by kernel_rfl
theorem cb41 : callable Try.prog 41 = true := by kernel_rfl
theorem cb42 : callable Try.prog 42 = true := by kernel_rfl
theorem cb43 : callable Try.prog 43 = true := by kernel_rfl
theorem cb44 : callable Try.prog 44 = true := by kernel_rfl
theorem cb45 : callable Try.prog 45 = true := by kernel_rfl
theorem cb46 : callable Try.prog 46 = true := by kernel_rfl
theorem cb47 : callable Try.prog 47 = true := by kernel_rfl
theorem cb48 : callable Try.prog 48 = true := by kernel_rfl
theorem cb49 : callable Try.prog 49 = true := by kernel_rfl
theorem cb54 : callable Try.prog 54 = true := by kernel_rfl
theorem cb55 : callable Try.prog 55 = true := by kernel_rfl
theorem cb56 : callable Try.prog 56 = true := by kernel_rfl
theorem cb57 : callable Try.prog 57 = true := by kernel_rfl
theorem cb59 : callable Try.prog 59 = true := by kernel_rfl
theorem cb60 : callable Try.prog 60 = true := by kernel_rfl
theorem cb61 : callable Try.prog 61 = true := by kernel_rfl
end Go.Proofs.Yteppkbaeacndiaa
