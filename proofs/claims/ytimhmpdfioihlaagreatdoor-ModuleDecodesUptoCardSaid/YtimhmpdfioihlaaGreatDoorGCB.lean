/- A library of mine, for walks over abstract states: part 5. It imports the kit alone. -/
import Derived.Test.YtimhmpdfioihlaaGreatDoorV4
import Derived.Recover
import Derived.Test.YtimhmpdfioihlaaGreatDoorProg
set_option linter.unusedSimpArgs false
set_option linter.unusedVariables false
namespace Go.Abs
open Go Go.RowKit
section
variable {P : Program} {C : Ctx} {S : Nat -> Prop} {β : Nat -> Option BI} {st st' : St} {a : Act} {w w' : World} {rest : List Oper} {o : Oper} {Q : Exit -> St -> Prop} {ops : Array Oper}
def St.keepS (st : St) (is : List Nat) : St := { n := st.n, slots := is.map fun i => (i, st.get i), mem := st.mem, lent := st.lent }
theorem SR.keepS (h : SR C S β st a w) (is : List Nat) : SR C S β (st.keepS is) a w := by
 refine h.forget rfl rfl (fun i => ?_) (fun k o ho => ho)
 have := ZqQ st.get is i
 simp only [St.get, St.keepS] at this ⊢
 rw [this]
 split
 ·exact .inl rfl
 ·exact .inr rfl
theorem AW.keepS {c : Code} (is : List Nat) (h : AW P c Q (st.keepS is)) : AW P c Q st := fun C a w ⟨S, β, hs⟩ => h C a w ⟨S, β, hs.keepS is⟩
end
end Go.Abs
namespace Go.Abs
open Go Go.RowKit
def QEq (a b : Exit -> St -> Prop) : Prop := a = b
theorem QEq.mp {a b : Exit -> St -> Prop} (h : QEq a b) {e : Exit} {st : St} (k : b e st) : a e st := by rw [show a = b from h]; exact k
theorem QEq.pan {a b : Exit -> St -> Prop} (h : QEq a b) (k : Zcx b) : Zcx a := by rw [show a = b from h]; exact k
section
variable {P : Program} {st : St} {Q : Exit -> St -> Prop}
def ZCo : Op -> Bool
 | .alloc _ | .box _ _ => false
 | _ => true
theorem AWL.opN {ops : Array Oper} {o : Oper} {rest : List Oper} {st' : St} {sl : TypeId -> List (Nat × Nat)} {c : Prop} (hg : o.guard = none) (hn : ZCo o.op = true) (h : aop P sl o st = some (c, st')) (hc : c) (k : AWL P ops rest Q st') : AWL P ops (o :: rest) Q st := AWL.op hg h hc k
theorem AW.seqQ {x y : Code} (h : ∀ Q', QEq Q' (Zb1 (AW P y Q) Q) -> AW P x Q' st) : AW P (.seq x y) Q st := AW.seq (h _ rfl)
theorem AW.blockQ {id : Nat} {c : Code} (h : ∀ Q', QEq Q' (Go.Abs.blockQ id Q) -> AW P c Q' st) : AW P (.block id c) Q st := AW.block (h _ rfl)
end
end Go.Abs
namespace Go.Abs
open Go Go.RowKit
theorem NSa : (((type_of% @ZlT /\ type_of% @ZoI) /\ (type_of% @ZlU /\ type_of% @ZgQ)) /\ ((type_of% @Ze4 /\ type_of% @ZgR) /\ (type_of% @ZoJ /\ type_of% @ZgS))) :=
 ⟨⟨⟨@ZlT, @ZoI⟩, ⟨@ZlU, @ZgQ⟩⟩, ⟨⟨@Ze4, @ZgR⟩, ⟨@ZoJ, @ZgS⟩⟩⟩
theorem NSb : (((type_of% @ZlS /\ type_of% @ZjB) /\ (type_of% @List.filterMap_cons.{0, 0} /\ type_of% @List.filterMap_nil.{0, 0})) /\ ((type_of% @Option.map_some.{0, 0} /\ type_of% @Option.map_none.{0, 0}) /\ (type_of% @St.add.eq_1 /\ type_of% @St.wm.eq_1))) :=
 ⟨⟨⟨@ZlS, @ZjB⟩, ⟨@List.filterMap_cons, @List.filterMap_nil⟩⟩, ⟨⟨@Option.map_some, @Option.map_none⟩, ⟨@St.add.eq_1, @St.wm.eq_1⟩⟩⟩
theorem NSc : (((type_of% @St.wipe1.eq_1 /\ type_of% @St.wipeL.eq_1) /\ (type_of% @St.wipeL.eq_2 /\ type_of% @Zav.eq_1)) /\ ((type_of% @Zav.eq_2 /\ type_of% @Za4.eq_1) /\ (type_of% @Za4.eq_2 /\ type_of% @NS))) :=
 ⟨⟨⟨@St.wipe1.eq_1, @St.wipeL.eq_1⟩, ⟨@St.wipeL.eq_2, @Zav.eq_1⟩⟩, ⟨⟨@Zav.eq_2, @Za4.eq_1⟩, ⟨@Za4.eq_2, @NS⟩⟩⟩
theorem NSX : type_of% @NSa /\ type_of% @NSb /\ type_of% @NSc := ⟨@NSa, @NSb, @NSc⟩
end Go.Abs
namespace Go.Abs
open Go Go.RowKit
def Zsd (o : Oper) : Bool :=
 match o.op with
 | .extract .. => o.guard.isNone && o.dst.isSome
 | _ => false
def EG (l : List Oper) (i : Nat) : Prop := ∃ o, l[i]? = some o /\ Zsd o = true
def Zse (ops : List Oper) (i : Nat) : Bool :=
 match ops[i]? with
 | some o => !Zsd o || (List.range ops.length).all fun j => i == j || ((ZfD ops).getD i 0).testBit j || (match ops[j]? with
   | some p => o.apart ops.toArray p || p.after.toList.any fun e => Region.binds .any e && e.on == i
   | none => true)
 | none => true
structure ZFx (l : List Oper) (k : Nat) : Prop where
 le : k <= l.length
 topo : ∀ i o j, l[i]? = some o -> Zru o j -> j < i
 dist : ∀ i j o p d, i < k -> j < k -> ¬FL l i -> ¬FL l j -> l[i]? = some o -> l[j]? = some p -> o.dst = some d -> p.dst = some d -> i = j
 reads : ∀ i j o p d, i < k -> j < k -> ¬FL l i -> ¬FL l j -> l[i]? = some o -> l[j]? = some p -> p.dst = some d -> d ∈ o.looksAt l.toArray -> ((ZfD l).getD i 0).testBit j = true
 tail : ∀ i j, k <= i -> i < l.length -> j < i -> ((ZfD l).getD i 0).testBit j = true \/ j ∈ Zcp l k \/ (j < k /\ EG l j)
 nosel : Region.noSelect l.toArray = true
 fl : Zz1 l (Array.replicate l.length false) (Zcp l k) = true
 free : ∀ i, i < k -> Zse l i = true
section
variable {P : Program} {C : Ctx} {S : Nat -> Prop} {β : Nat -> Option BI} {st st' : St} {a : Act} {w w' : World} {l : List Oper} {rest : List Oper} {o : Oper} {Q : Exit -> St -> Prop}
end
end Go.Abs
namespace Go.Abs
open Go Go.RowKit
section
variable {P : Program} {C : Ctx} {S : Nat -> Prop} {β : Nat -> Option BI} {st st' : St} {a : Act} {w w' : World} {l : List Oper} {rest : List Oper} {o : Oper}
end
section
variable {P : Program} {b : Bool} {nq ms F : List Nat} {M : List (Nat × Zaz)} {U : List (Nat × Nat)} {i : Nat} {o : Oper} {rest : List Oper} {ops : Array Oper} {Q : Exit -> St -> Prop} {st : St}
end
end Go.Abs
namespace Go.Abs
open Go Go.RowKit
section
variable {P : Program} {C : Ctx} {S : Nat -> Prop} {β β' : Nat -> Option BI} {st st' : St} {a : Act} {w w' : World} {o : Oper} {Q : Exit -> St -> Prop} {ops : Array Oper} {rest : List Oper}
end
end Go.Abs
namespace Go.Abs
open Go Go.RowKit
section
variable {P : Program} {C : Ctx} {S : Nat -> Prop} {β : Nat -> Option BI} {st st' : St} {a : Act} {w w' : World} {Q : Exit -> St -> Prop} {ops : Array Oper} {rest : List Oper} {o : Oper} {b : Bool}
end
theorem AWL.frzSt {P : Program} {st : St} {Q : Exit -> St -> Prop} {ops : Array Oper} {rest : List Oper} {o : Oper} (k : Nat) (_hd : o.dst = none) (_hk : (st.obj k).isSome = true) (h : AWL P ops (o :: rest) Q (st.freeze k)) : AWL P ops (o :: rest) Q st := AWL.frz k h
section
variable {P : Program} {C : Ctx} {S : Nat -> Prop} {β : Nat -> Option BI} {st st' : St} {a : Act} {w w' : World} {Q : Exit -> St -> Prop} {ops : Array Oper} {rest : List Oper} {o : Oper} {b : Bool}
end
section
variable {P : Program} {C : Ctx} {S : Nat -> Prop} {β : Nat -> Option BI} {st st' : St} {a : Act} {w w' : World} {Q : Exit -> St -> Prop} {ops : Array Oper} {rest : List Oper} {o : Oper} {b : Bool}
theorem SR.lentD (h : SR C S β st a w) {k : Nat} {l : List (Nat × Option BI)} (hl : st.lent = (k, none) :: l) (hk : Zcu l k = true) : SR C S β { st with lent := l } a w :=
 { tsize := h.tsize, slots := h.slots, defers := h.defers, objs := h.objs, inj := h.inj,
   own := fun j bi hj hb => by
    obtain ⟨h1, h2⟩ := h.own j bi hj hb
    refine ⟨h1, h2.imp id (fun hL => ⟨hL.1, ?_⟩)⟩
    have h3 := hL.2
    rw [hl] at h3
    simp only [Zcu, Bool.or_eq_true, beq_iff_eq] at h3
    rcases h3 with h3 | h3
    ·rw [<- h3]; exact hk
    ·exact h3
   pins := fun j bi hj => h.pins j bi (by rw [hl]; exact Yaq _ hj)
   sub := h.sub, snew := h.snew, slt := h.slt, frame := h.frame }
theorem AWL.lentD {l : List Oper} {k : Nat} {r : List (Nat × Option BI)} (hl : st.lent = (k, none) :: r) (hk : Zcu r k = true) (h : AWL P ops l Q { st with lent := r }) : AWL P ops l Q st := fun C a w ⟨S, β, hs⟩ => h C a w ⟨S, β, hs.lentD hl hk⟩
end
def Wk (v' v : V) : Prop := ∀ (S : Nat -> Prop) (w : World) (β : Nat -> Option BI) (u : Value), VR S w β v' u -> VR S w β v u
inductive WkL : List V -> List V -> Prop
 | nil : WkL [] []
 | cons {v' v : V} {l' l : List V} (h : Wk v' v) (hl : WkL l' l) : WkL (v' :: l') (v :: l)
theorem Wk.refl (v : V) : Wk v v := fun _ _ _ _ h => h
theorem Wk.nils (sz : Nat) : Wk .nils (.view 0 sz []) := fun S w β u h => by
 cases h with
 | flat h => cases h with
   | nils A => exact .flat (.view 0 sz [] A 0 (fun _ => undef) (by simp) (Nat.le_refl _) (fun h => absurd rfl h) (fun j v h => by simp at h) (fun j v h => by simp at h))
theorem Wk.fagg (cs : List V) : Wk (.fagg cs) (.agg cs) := fun S w β u h => by
 cases h with
 | flat h => cases h with
   | fagg _ us hl hr h1 => exact .agg cs us hl (fun j v u hv hu => .flat (hr j v u hv hu))
theorem WkL.length {l' l : List V} (h : WkL l' l) : l'.length = l.length := by
 induction h with
 | nil => rfl
 | cons _ _ ih => simp [ih]
theorem WkL.at {l' l : List V} (h : WkL l' l) : ∀ {j : Nat} {v : V}, l[j]? = some v -> ∃ v', l'[j]? = some v' /\ Wk v' v := by
 induction h with
 | nil => intro j v hv; simp at hv
 | cons h _ ih =>
   intro j v hv
   cases j with
   | zero => simp at hv; subst hv; exact ⟨_, rfl, h⟩
   | succ j => exact ih hv
theorem Wk.agg {cs' cs : List V} (h : WkL cs' cs) : Wk (.agg cs') (.agg cs) := fun S w β u hv => by
 have key : ∀ {us : Array Value}, cs'.length = us.size -> (∀ (j : Nat) (v : V) (u : Value), cs'[j]? = some v -> us[j]? = some u -> VR S w β v u) -> VR S w β (.agg cs) (.agg us) := fun {us} hl hr =>
  .agg cs us (by rw [<- h.length]; exact hl) (fun j v u hv hu => by
   obtain ⟨v', h1, h2⟩ := h.at hv
   exact h2 S w β u (hr j v' u h1 hu))
 cases hv with
 | flat h => cases h
 | agg _ us hl hr => exact key hl hr
theorem WkL.refl : ∀ l : List V, WkL l l
 | [] => .nil
 | v :: l => .cons (Wk.refl v) (WkL.refl l)
def Fk (v' v : V) : Prop := (∀ (S : Nat -> Prop) (w : World) (u : Value), FR S w v' u -> FR S w v u) /\ v.cell1 = v'.cell1
inductive FkL : List V -> List V -> Prop
 | nil : FkL [] []
 | cons {v' v : V} {l' l : List V} (h : Fk v' v) (hl : FkL l' l) : FkL (v' :: l') (v :: l)
theorem Fk.nils (sz : Nat) : Fk .nils (.view 0 sz []) := ⟨fun S w u h => by
 cases h with
 | nils A => exact .view 0 sz [] A 0 (fun _ => undef) (by simp) (Nat.le_refl _) (fun h => absurd rfl h) (fun j v h => by simp at h) (fun j v h => by simp at h), rfl⟩
theorem FkL.length {l' l : List V} (h : FkL l' l) : l'.length = l.length := by
 induction h with
 | nil => rfl
 | cons _ _ ih => simp [ih]
theorem FkL.at {l' l : List V} (h : FkL l' l) : ∀ {j : Nat} {v : V}, l[j]? = some v -> ∃ v', l'[j]? = some v' /\ Fk v' v := by
 induction h with
 | nil => intro j v hv; simp at hv
 | cons h _ ih =>
   intro j v hv
   cases j with
   | zero => simp at hv; subst hv; exact ⟨_, rfl, h⟩
   | succ j => exact ih hv
theorem Wk.view {n sz : Nat} {cs' cs : List V} (h : FkL cs' cs) : Wk (.view n sz cs') (.view n sz cs) := fun S w β u hv => by
 cases hv with
 | flat hv => cases hv with
   | view _ _ _ A c us hl hc ha hr h1 =>
     refine .flat (.view n sz cs A c us (by rw [<- h.length]; exact hl) hc (fun hne => ?_) (fun j v hj => ?_) (fun j v hj => ?_))
     ·obtain ⟨b, o, e1, e2, e3⟩ := ha (fun e => hne (Yay (by rw [<- h.length, e]; rfl)))
      exact ⟨b, o, e1, e2, fun j v hj => by
       obtain ⟨v', hv', _⟩ := h.at hj
       exact e3 j v' hv'⟩
     ·obtain ⟨v', hv', hk⟩ := h.at hj
      exact hk.1 S w _ (hr j v' hv')
     ·obtain ⟨v', hv', hk⟩ := h.at hj
      rw [hk.2]; exact h1 j v' hv'
end Go.Abs
namespace Go.Abs
open Go Go.RowKit
section
variable {P : Program} {C : Ctx} {st st' : St} {Q : Exit -> St -> Prop} {ops : Array Oper} {rest : List Oper} {o : Oper}
theorem AW.seqP {x y : Code} (hp : Zcx Q) (h : ∀ Q', QEq Q' (Zb1 (AW P y Q) Q) -> Zcx Q' -> AW P x Q' st) : AW P (.seq x y) Q st :=
 AW.seqQ fun Q' hq => h Q' hq (QEq.pan hq (Zbo hp))
theorem AW.blockP {id : Nat} {c : Code} (hp : Zcx Q) (h : ∀ Q', QEq Q' (Go.Abs.blockQ id Q) -> Zcx Q' -> AW P c Q' st) : AW P (.block id c) Q st :=
 AW.blockQ fun Q' hq => h Q' hq (QEq.pan hq (Zat hp))
theorem AWL.frzG {f : FuncId} {args : Array Operand} {argTypes : Array TypeId} {k : Nat} (_hg : o.guard = none) (_ho : o.op = .call { callee := .value (.func f), args, argTypes }) (_hk : ZxN st (args.toList.map st.ev) = some k) (h : AWL P ops (o :: rest) Q (st.freeze k)) : AWL P ops (o :: rest) Q st := AWL.frz k h
theorem AWL.cM {f : FuncId} {args : Array Operand} {argTypes : Array TypeId} {d : Nat} (ρ : List (Nat × Nat)) {keep : List Nat} {mem : Mem} {cargs : List V} {R : V -> Mem -> Prop} (hf : Zc P f = true) (hg : o.guard = none) (ho : o.op = .call { callee := .value (.func f), args, argTypes }) (hd : o.dst = some d)
 (hdn : Nat.ble (d + 1) st.n = true) (hl : Zhw st ρ ρ = some mem) (hck : ZpW st ρ keep = true) (hargs : args.toList.map (fun x => (st.ev x).rk (ZhE ρ) 4) = cargs) (hAM : AM P f cargs mem keep R) (k : ∀ r m, R r m -> ZqM ρ d m = true /\ AWL P ops rest Q (st.back ρ keep d m r)) : AWL P ops (o :: rest) Q st :=
 AWL.callM ρ hg ho hd hf (Yaa hdn) hl hck hargs hAM k
theorem AWL.cC {f : FuncId} {args : Array Operand} {argTypes : Array TypeId} {d : Nat} {R : V -> List (Nat × List V) -> Prop} (hf : Zc P f = true) (hg : o.guard = none) (ho : o.op = .call { callee := .value (.func f), args, argTypes }) (hd : o.dst = some d) (hst : args.toList.foldl (fun st x => st.frzV (st.ev x)) st = st') (hdn : Nat.ble (d + 1) st'.n = true)
 (hfl : ((args.toList.map st'.ev).all Zcv) = true) (hAC : AC P f (args.toList.map st'.ev) R) (k : ∀ r m, R r m -> AWL P ops rest Q ((st'.adoptL d m).put d (Z1 d 4 r))) : AWL P ops (o :: rest) Q st :=
 AWL.call hg ho hd hf hst (Yaa hdn) hfl hAC k
end
theorem HCX : type_of% @beq_iff_eq.{0} /\ type_of% @bne_iff_ne.{0} /\ type_of% @Yaz /\ type_of% @decide_eq_false_iff_not /\ type_of% @Yam.{0} /\ type_of% @bne_eq_false_iff_eq.{0} /\ type_of% @ne_eq.{1} /\ type_of% @Bool.not_eq_true /\ type_of% @Bool.not_eq_false /\ type_of% @Bool.not_eq_eq_eq_not /\ type_of% @Bool.not_true /\ type_of% @Bool.not_false /\ type_of% @Decidable.not_not /\ type_of% @Int.not_lt /\ type_of% @Int.not_le /\ type_of% @decide_eq_decide /\ type_of% @not_true_eq_false :=
 ⟨beq_iff_eq, bne_iff_ne, Yaz, decide_eq_false_iff_not, Yam, bne_eq_false_iff_eq, ne_eq, Bool.not_eq_true, Bool.not_eq_false, Bool.not_eq_eq_eq_not, Bool.not_true, Bool.not_false, Decidable.not_not, Int.not_lt, Int.not_le, decide_eq_decide, not_true_eq_false⟩
end Go.Abs
namespace Go.Abs
open Go Go.RowKit
def AMP (P : Program) (f : FuncId) (args : List V) (mem : Mem) (keep : List Nat) (R : V -> Mem -> Prop) (E : List PanicEntry -> Mem -> Prop) : Prop :=
 ∀ (S : Nat -> Prop) (w : World) (β : Nat -> Option BI) (us : List Value), Sok S w -> args.length = us.length -> (∀ (j : Nat) (v : V) (u : Value), args[j]? = some v -> us[j]? = some u -> VR S w β v u) ->
   (∀ k o, (k, o) ∈ mem -> OR S w β k o) -> (∀ k o bi, (k, o) ∈ mem -> β k = some bi -> ¬ S bi.blk) ->
   (∀ k k' o o' bi bi', (k, o) ∈ mem -> (k', o') ∈ mem -> β k = some bi -> β k' = some bi' -> bi.blk = bi'.blk -> k = k') ->
   (mem.map (·.1)).Nodup -> (∀ k ∈ keep, ∃ bi, β k = some bi) ->
   Calls P f us.toArray w (fun e w' => (∃ r m u, R r m /\ e = .returned u /\ ZuQ S w w' β (mem.map (·.1)) keep r m u) \/ (∃ ch m u, E ch m /\ e = .panicked ch /\ ZuQ S w w' β (mem.map (·.1)) keep .any m u))
theorem AMP.mono {P : Program} {f : FuncId} {args : List V} {mem : Mem} {keep : List Nat} {R R' : V -> Mem -> Prop} {E E' : List PanicEntry -> Mem -> Prop} (h : AMP P f args mem keep R E) (hr : ∀ r m, R r m -> R' r m) (he : ∀ c m, E c m -> E' c m) : AMP P f args mem keep R' E' :=
 fun S w β us h1 h2 h3 h4 h5 h6 h7 h8 => (h S w β us h1 h2 h3 h4 h5 h6 h7 h8).mono fun _ _ h => h.imp (fun ⟨r, m, u, hR, e, o⟩ => ⟨r, m, u, hr _ _ hR, e, o⟩) (fun ⟨c, m, u, hE, e, o⟩ => ⟨c, m, u, he _ _ hE, e, o⟩)
def ZmB (P : Program) (rs : List ResultVar) (keep : List Nat) (pn : Nat -> Option BI) (R : V -> Mem -> Prop) (E : List PanicEntry -> Mem -> Prop) : Exit -> St -> Prop := fun e st =>
 Zjx P rs keep pn R e st \/ ∃ ch ks m, e = .panic ch /\ Zhv st ks = some m /\ (ZlF ks m && decide ks.Nodup && keep.all ks.contains) = true /\ (∀ k ∈ keep, lk st.lent k = some (pn k)) /\ E ch m
theorem ZmB.pan {P : Program} {st : St} {rs : List ResultVar} {keep : List Nat} {pn : Nat -> Option BI} {R : V -> Mem -> Prop} {E : List PanicEntry -> Mem -> Prop} {ch : List PanicEntry} {m : Mem} (ks : List Nat) (hm : Zhv st ks = some m) (hchk : (ZlF ks m && decide ks.Nodup && keep.all ks.contains) = true) (hp : ∀ k ∈ keep, lk st.lent k = some (pn k)) (hE : E ch m) : ZmB P rs keep pn R E (.panic ch) st :=
 .inr ⟨ch, ks, m, rfl, hm, hchk, hp, hE⟩
section
variable {P : Program} {C : Ctx} {S : Nat -> Prop} {β : Nat -> Option BI} {st st' : St} {a : Act} {w w' : World} {Q : Exit -> St -> Prop} {ops : Array Oper} {rest : List Oper} {o : Oper}
theorem Zbp {rs : List ResultVar} {keep : List Nat} {pn : Nat -> Option BI} {R : V -> Mem -> Prop} {E : List PanicEntry -> Mem -> Prop} : Zcx (ZmB P rs keep pn R E) := fun c st d h => by
 rcases h with h | ⟨ch, ks, m, e, h1, h2, h3, h4⟩
 ·obtain ⟨he, _⟩ := h
  rcases he with he | he <;> cases he
 ·refine .inr ⟨ch, ks, m, e, ?_, h2, h3, h4⟩
  rw [<- h1]
  have : ∀ l : List Nat, Zhv (st.put d .any) l = Zhv st l := fun l => by
   induction l with
   | nil => rfl
   | cons k l ih => simp only [Zhv, ih]; rfl
  exact this ks
theorem ZmX {st' : St} {S' : Nat -> Prop} {β' : Nat -> Option BI} {a' : Act} {mem m : Mem} {keep ks : List Nat} {pn : Nat -> Option BI} {r : V} {u : Value} (hkeep : ∀ k ∈ keep, ∃ bi, β k = some bi)
 {ok : Sok S w} {sep : ∀ b, S b -> ¬ (∃ k0 ∈ mem.map (·.1), ∃ b0, β k0 = some b0 /\ b = b0.blk)} (hs : SR ⟨S, w, fun b => ∃ k0 ∈ mem.map (·.1), ∃ b0, β k0 = some b0 /\ b = b0.blk, ok, sep, []⟩ S' β' st' a' w') (hpn : ∀ k, pn k = β k) (hout : Zhv st' ks = some m) (hchk : (ZlF ks m && decide ks.Nodup && keep.all ks.contains) = true) (hpin : ∀ k ∈ keep, lk st'.lent k = some (pn k))
 (hvr : ∀ βo : Nat -> Option BI, (∀ k ∈ ks, βo k = β' k) -> VR S' w' βo r u) : ZuQ S w w' β (mem.map (·.1)) keep r m u := by
 obtain ⟨m1, m2⟩ := Zik hout
 simp only [Yao, Yaz, Yat] at hchk
 obtain ⟨⟨hsh, hndk⟩, hkk⟩ := hchk
 have hin : ∀ k o, (k, o) ∈ m -> k ∈ ks := fun k o hk => by rw [<- m2]; exact Ya3.2 ⟨_, hk, rfl⟩
 let βo : Nat -> Option BI := fun k => if k ∈ ks then β' k else none
 have hβo : ∀ k ∈ ks, βo k = β' k := fun k hk => if_pos hk
 refine ⟨⟨S', βo, hs.sub, fun b hb => ?_, ?_, ?_, ?_, ?_, ?_, by rw [m2]; exact hndk, ?_⟩, hs.frame⟩
 ·rcases hs.snew b hb with h1 | h1
  ·exact .inl h1
  ·exact .inr ⟨h1, hs.slt b hb⟩
 ·exact hvr βo hβo
 ·intro k o hk
  rcases hs.objs k _ (m1 k o hk) with ⟨h1, h2, h3⟩ | ⟨bi, cur, e', fz, hbi, hr⟩
  ·exact .inl ⟨h1, h2, (hβo k (hin k o hk)).trans h3⟩
  ·refine .inr ⟨bi, cur, e', fz, (hβo k (hin k o hk)).trans hbi, hr.heap, hr.size, hr.free, hr.fits, hr.len, ?_⟩
   intro i v hv
   obtain ⟨u, hu, h1, hr'⟩ := hr.cells i v hv
   refine ⟨u, hu, h1, ?_⟩
   split at hr'
   ·rename_i hfl; rw [if_pos hfl]; exact hr'
   ·rename_i hfl
    rw [if_neg hfl]
    rcases Zil hsh k o hk with hfl' | ⟨js', hjs', hsub⟩
    ·exact absurd hfl' hfl
    ·obtain ⟨kv, h1, h2⟩ := ZgM hjs' v (Ya0 hv)
     exact VR.restrictA 3 h1 (fun k hk => hβo k (hsub k (h2 k hk))) hr'
 ·intro k o bi hk hbi
  rw [hβo k (hin k o hk)] at hbi
  have := hs.own k bi (by rw [m1 k o hk]; rfl) hbi
  refine ⟨this.1, ?_⟩
  rcases this.2 with h1 | ⟨⟨k0, hk0, b0, hb0, e0⟩, _⟩
  ·exact .inl h1
  ·exact .inr ⟨k0, hk0, b0, hb0, e0⟩
 ·intro k k' o o' bi bi' hk hk' hbi hbi' hblk
  rw [hβo k (hin k o hk)] at hbi
  rw [hβo k' (hin k' o' hk')] at hbi'
  exact hs.inj k k' bi bi' (by rw [m1 k o hk]; rfl) (by rw [m1 k' o' hk']; rfl) hbi hbi' hblk
 ·intro k hk
  refine if_neg fun hkk => ?_
  rw [<- m2] at hkk
  obtain ⟨p, hp, rfl⟩ := Ya3.1 hkk
  exact hk p.2 hp
 ·intro k hk
  have hmem : k ∈ ks := List.contains_iff_mem.1 (hkk k hk)
  obtain ⟨bi, hbi⟩ := hkeep k hk
  have hp := hpin k hk
  rw [hpn, hbi] at hp
  refine ⟨?_, ?_⟩
  ·rw [<- m2] at hmem
   obtain ⟨q, hq, rfl⟩ := Ya3.1 hmem
   exact ⟨q.2, hq⟩
  ·rw [hβo k hmem, hbi]; exact hs.pins k bi (Zaf hp)
theorem AMP.enter {f : FuncId} {fn : Func} {c : Code} {args : List V} {mem : Mem} {keep : List Nat} {R : V -> Mem -> Prop} {E : List PanicEntry -> Mem -> Prop} (hf : P.funcs[f]? = some fn) (hb : fn.body = some c) (hn : args.length <= fn.ntmps)
 (h : ∀ pn : Nat -> Option BI, AW P c (ZmB P fn.results.toList keep pn R E) (ZmP fn.ntmps args mem (Zb3 pn keep mem))) : AMP P f args mem keep R E := by
 intro S w β us hS hl hargs hor hns hinj hnd hkeep
 refine calls_of_wp hf hb ?_
 let L : Nat -> Prop := fun b => ∃ k0 ∈ mem.map (·.1), ∃ b0, β k0 = some b0 /\ b = b0.blk
 let C : Ctx := ⟨S, w, L, hS, fun b hb ⟨k0, hk0, b0, hb0, e⟩ => by
  obtain ⟨p, hp, e1⟩ := Ya3.1 hk0
  subst e1
  exact hns p.1 p.2 b0 hp hb0 (e ▸ hb), []⟩
 have hinit : SR C S β (ZmP fn.ntmps args mem (Zb3 β keep mem)) { tmps := us.toArray ++ Array.replicate (fn.ntmps - us.toArray.size) undef, defers := [] } w := {
  tsize := by simp [ZmP]; omega
  slots := fun i => by
   simp only [St.get, ZmP, ZbM, Nat.zero_le, if_true, Nat.sub_zero]
   cases hi : args[i]? with
   | none => exact .any _
   | some v =>
     have hlt : i < us.length := by rw [<- hl]; exact (Yak.1 hi).1
     have hu : us[i]? = some us[i] := Yab hlt
     have : (us.toArray ++ Array.replicate (fn.ntmps - us.toArray.size) undef).getD i undef = us[i] := by
      rw [Yan, Array.getElem?_append_left (by simpa using hlt)]
      simp [hlt]
     rw [this]
     exact hargs i v _ hi hu
  defers := rfl
  objs := fun k o ho => hor k o (Zaf ho)
  inj := fun k k' bi bi' hk hk' hb hb' e => by
   obtain ⟨o, ho⟩ := Yax.1 hk
   obtain ⟨o', ho'⟩ := Yax.1 hk'
   exact hinj k k' o o' bi bi' (Zaf ho) (Zaf ho') hb hb' e
  own := fun k bi hk hb => by
   obtain ⟨o, ho⟩ := Yax.1 hk
   exact ⟨hns k o bi (Zaf ho) hb, .inr ⟨⟨k, Ya3.2 ⟨_, Zaf ho, rfl⟩, bi, hb, rfl⟩, ZdP (Zaf ho)⟩⟩
  pins := fun k bi hk => Zf8 hk
  sub := fun b hb => hb
  snew := fun b hb => .inl hb
  slt := hS.1
  frame := ⟨rfl, rfl, rfl, Nat.le_refl _, fun _ _ _ => rfl⟩ }
 refine wp_mono (h β C _ w ⟨S, _, hinit⟩) fun e a' w' ⟨st', he, S', β', hs⟩ => ?_
 rcases he with ⟨he, cc, r, ks, js, m, hres, hcc, hjs, hout, hchk, hpin, hR⟩ | ⟨ch, ks, m, rfl, hout, hchk, hpin, hE⟩
 ·obtain ⟨u, hrun, hv⟩ := Zdt hs hres hcc
  simp only [Yao, Yaz] at hchk
  obtain ⟨⟨⟨hj1, hsh⟩, hndk⟩, hkk⟩ := hchk
  have hOut := ZmX (r := r) (u := u) hkeep hs (fun _ => rfl) hout (by simp only [Yao, Yaz]; exact ⟨⟨hsh, hndk⟩, hkk⟩) hpin (fun βo hβo => VR.restrictA 4 hjs (fun k hk => hβo k (List.contains_iff_mem.1 (Yat.1 hj1 k hk))) hv)
  rcases he with rfl | rfl
  ·exact ⟨hs.defers, u, hrun, .inl ⟨r, m, u, hR, rfl, hOut⟩⟩
  ·exact ⟨hs.defers, u, hrun, .inl ⟨r, m, u, hR, rfl, hOut⟩⟩
 ·exact ⟨hs.defers, .inr ⟨ch, m, undef, hE, rfl, ZmX hkeep hs (fun _ => rfl) hout hchk hpin (fun _ _ => .any _)⟩⟩
theorem AWL.callMP {f : FuncId} {args : Array Operand} {argTypes : Array TypeId} {d : Nat} (ρ : List (Nat × Nat)) {keep : List Nat} {mem : Mem} {cargs : List V} {R : V -> Mem -> Prop} {E : List PanicEntry -> Mem -> Prop} (hg : o.guard = none) (ho : o.op = .call { callee := .value (.func f), args, argTypes }) (hd : o.dst = some d) (hf : Zc P f = true)
 (hdn : d < st.n) (hl : Zhw st ρ ρ = some mem) (hck : ZpW st ρ keep = true) (hargs : args.toList.map (fun x => (st.ev x).rk (ZhE ρ) 4) = cargs) (hAM : AMP P f cargs mem keep R E)
 (kp : ∀ ch m, E ch m -> ZqM ρ d m = true /\ Q (.panic ch) ((st.back ρ keep d m .any).put d .any))
 (k : ∀ r m, R r m -> ZqM ρ d m = true /\ AWL P ops rest Q (st.back ρ keep d m r)) : AWL P ops (o :: rest) Q st := fun C a w ⟨S, β, hs⟩ => by
 refine wpList_plain hg fun K hK => ?_
 unfold Oper.wp
 rw [Ze1 ho hf]
 subst hargs
 obtain ⟨hm1, hm2⟩ := Zdv hl
 have hck' := hck
 simp only [ZpW, Yao, Yaz, Yat] at hck'
 obtain ⟨⟨hn1, hn2⟩, hkp⟩ := hck'
 let βc : Nat -> Option BI := fun k => (lk ρ k).bind β
 have hσ : ∀ K j, ZhE ρ K = some j -> β K = none \/ βc j = β K := fun K j hj => .inr (by simp only [βc, ZaB hn1 (Ze3 hj)]; rfl)
 have hc := hAM S w βc (args.toList.map a.eval) hs.sok (by simp) (fun j v u hv hu => by
  rw [Yas, Yaj] at hv hu
  obtain ⟨x, hx, rfl⟩ := hv
  obtain ⟨y, hy, rfl⟩ := hu
  rw [hx] at hy; cases hy
  exact VR.rk hσ 4 (Zac hs x)) (fun k o hk => by
  obtain ⟨K, o', e1, e2, rfl⟩ := hm2 k o hk
  exact OR.rk hσ (hs.objs K o' e2) (by simp only [βc, ZaB hn1 e1]; rfl)) (fun k o bi hk hb => by
  obtain ⟨K, o', e1, e2, rfl⟩ := hm2 k o hk
  simp only [βc, ZaB hn1 e1] at hb
  exact (hs.own K bi (by rw [e2]; rfl) hb).1) (fun k k' o o' bi bi' hk hk' hb hb' e => by
  obtain ⟨K, o1, e1, e2, rfl⟩ := hm2 k o hk
  obtain ⟨K', o1', e1', e2', rfl⟩ := hm2 k' o' hk'
  simp only [βc, ZaB hn1 e1] at hb
  simp only [βc, ZaB hn1 e1'] at hb'
  have hKK := hs.inj K K' bi bi' (by rw [e2]; rfl) (by rw [e2']; rfl) hb hb' e
  subst hKK
  exact ZgP hn2 e1 e1') (by rw [hm1]; exact hn1) (fun k hk => by
  have := hkp k hk
  split at this
  ·rename_i o ho
   rw [Option.bind_eq_some_iff] at ho
   obtain ⟨K, hK1, hK2⟩ := ho
   rcases hs.objs K o hK2 with ⟨q1, q2, _⟩ | ⟨bi, _, _, _, hbi, _⟩
   ·rw [q1, q2] at this; cases this
   ·exact ⟨bi, by simp only [βc, hK1]; exact hbi⟩
  ·cases this)
 have e : (args.toList.map a.eval).toArray = args.map a.eval := by rw [<- Array.toList_map]
 rw [e] at hc
 refine Calls.mono hc ?_
 rintro e' w' (⟨r, m, u, hR, rfl, hout⟩ | ⟨ch, m, u, hE, rfl, hout⟩)
 ·obtain ⟨hcb, hk⟩ := k r m hR
  have := hs.calledM (d := d) hdn hl hck hcb (fun _ => rfl) hout
  show K (a.put o.dst u) w'
  rw [hd]
  exact hK _ _ (hk C _ w' this)
 ·obtain ⟨hcb, hq⟩ := kp ch m hE
  obtain ⟨S', β', this⟩ := hs.calledM (d := d) hdn hl hck hcb (fun _ => rfl) hout
  exact ⟨_, hq, S', β', this.unput⟩
theorem ZmB.mk {rs : List ResultVar} {keep : List Nat} {pn : Nat -> Option BI} {R : V -> Mem -> Prop} {E : List PanicEntry -> Mem -> Prop} {e : Exit} (h : Zjx P rs keep pn R e st) : ZmB P rs keep pn R E e st := .inl h
theorem AWL.cMP {f : FuncId} {args : Array Operand} {argTypes : Array TypeId} {d : Nat} (ρ : List (Nat × Nat)) {keep : List Nat} {mem : Mem} {cargs : List V} {R : V -> Mem -> Prop} {E : List PanicEntry -> Mem -> Prop} (hf : Zc P f = true) (hg : o.guard = none) (ho : o.op = .call { callee := .value (.func f), args, argTypes }) (hd : o.dst = some d)
 (hdn : Nat.ble (d + 1) st.n = true) (hl : Zhw st ρ ρ = some mem) (hck : ZpW st ρ keep = true) (hargs : args.toList.map (fun x => (st.ev x).rk (ZhE ρ) 4) = cargs) (hAM : AMP P f cargs mem keep R E)
 (kp : ∀ ch m, E ch m -> ZqM ρ d m = true /\ Q (.panic ch) ((st.back ρ keep d m .any).put d .any))
 (k : ∀ r m, R r m -> ZqM ρ d m = true /\ AWL P ops rest Q (st.back ρ keep d m r)) : AWL P ops (o :: rest) Q st :=
 AWL.callMP ρ hg ho hd hf (Yaa hdn) hl hck hargs hAM kp k
theorem AWL.cFP {f : FuncId} {x : Operand} {argTypes : Array TypeId} {d : Nat} {cap : List V} (ρ : List (Nat × Nat)) {keep : List Nat} {mem : Mem} {cargs : List V} {R : V -> Mem -> Prop} {E : List PanicEntry -> Mem -> Prop} (hg : o.guard = none) (ho : o.op = .call { callee := .value x, args := #[], argTypes }) (hx : st.ev x = .fn f cap) (hd : o.dst = some d)
 (hf : Zc P f = true) (hdn : Nat.ble (d + 1) st.n = true) (hl : Zhw st ρ ρ = some mem) (hck : ZpW st ρ keep = true) (hargs : cap.map (fun v => v.rk (ZhE ρ) 4) = cargs) (hAM : AMP P f cargs mem keep R E)
 (kp : ∀ ch m, E ch m -> ZqM ρ d m = true /\ Q (.panic ch) ((st.back ρ keep d m .any).put d .any))
 (k : ∀ r m, R r m -> ZqM ρ d m = true /\ AWL P ops rest Q (st.back ρ keep d m r)) : AWL P ops (o :: rest) Q st := fun C a w ⟨S, β, hs⟩ => by
 obtain ⟨fs, us, hu, hlen, hcell⟩ : ∃ fs us, a.eval x = .func (.func f) fs us /\ cap.length = (fs ++ us).size /\ ∀ (j : Nat) (v : V) (u : Value), cap[j]? = some v -> (fs ++ us)[j]? = some u -> VR S w β v u := by
  have h := hx ▸ Zac hs x
  generalize a.eval x = X at h
  cases h with
  | flat h => cases h with
    | fn => exact ⟨#[], #[], rfl, rfl, fun j v u hj => by simp at hj⟩
  | fn _ _ us hl hr => exact ⟨#[], us, rfl, by simpa using hl, by rw [Array.empty_append]; exact hr⟩
  | mfn _ _ us hl hr => exact ⟨us, #[], rfl, by simpa using hl, by rw [Array.append_empty]; exact hr⟩
 refine wpList_plain hg fun K hK => ?_
 unfold Oper.wp
 rw [ZrA ho hu hf]
 subst hargs
 obtain ⟨hm1, hm2⟩ := Zdv hl
 have hck' := hck
 simp only [ZpW, Yao, Yaz, Yat] at hck'
 obtain ⟨⟨hn1, hn2⟩, hkp⟩ := hck'
 let βc : Nat -> Option BI := fun k => (lk ρ k).bind β
 have hσ : ∀ K j, ZhE ρ K = some j -> β K = none \/ βc j = β K := fun K j hj => .inr (by simp only [βc, ZaB hn1 (Ze3 hj)]; rfl)
 have hc := hAM S w βc (fs ++ us).toList hs.sok (by simp [hlen]) (fun j v u hv hu => by
  rw [Yas, Yaj] at hv
  obtain ⟨x, hx, rfl⟩ := hv
  rw [Array.getElem?_toList] at hu
  exact VR.rk hσ 4 (hcell j x u hx hu)) (fun k o hk => by
  obtain ⟨K, o', e1, e2, rfl⟩ := hm2 k o hk
  exact OR.rk hσ (hs.objs K o' e2) (by simp only [βc, ZaB hn1 e1]; rfl)) (fun k o bi hk hb => by
  obtain ⟨K, o', e1, e2, rfl⟩ := hm2 k o hk
  simp only [βc, ZaB hn1 e1] at hb
  exact (hs.own K bi (by rw [e2]; rfl) hb).1) (fun k k' o o' bi bi' hk hk' hb hb' e => by
  obtain ⟨K, o1, e1, e2, rfl⟩ := hm2 k o hk
  obtain ⟨K', o1', e1', e2', rfl⟩ := hm2 k' o' hk'
  simp only [βc, ZaB hn1 e1] at hb
  simp only [βc, ZaB hn1 e1'] at hb'
  have hKK := hs.inj K K' bi bi' (by rw [e2]; rfl) (by rw [e2']; rfl) hb hb' e
  subst hKK
  exact ZgP hn2 e1 e1') (by rw [hm1]; exact hn1) (fun k hk => by
  have := hkp k hk
  split at this
  ·rename_i o ho
   rw [Option.bind_eq_some_iff] at ho
   obtain ⟨K, hK1, hK2⟩ := ho
   rcases hs.objs K o hK2 with ⟨q1, q2, _⟩ | ⟨bi, _, _, _, hbi, _⟩
   ·rw [q1, q2] at this; cases this
   ·exact ⟨bi, by simp only [βc, hK1]; exact hbi⟩
  ·cases this)
 have e : (fs ++ us).toList.toArray = fs ++ (#[] : Array Operand).map a.eval ++ us := by simp
 rw [e] at hc
 refine Calls.mono hc ?_
 rintro e' w' (⟨r, m, u, hR, rfl, hout⟩ | ⟨ch, m, u, hE, rfl, hout⟩)
 ·obtain ⟨hcb, hk⟩ := k r m hR
  have := hs.calledM (d := d) (Yaa hdn) hl hck hcb (fun _ => rfl) hout
  show K (a.put o.dst u) w'
  rw [hd]
  exact hK _ _ (hk C _ w' this)
 ·obtain ⟨hcb, hq⟩ := kp ch m hE
  obtain ⟨S', β', this⟩ := hs.calledM (d := d) (Yaa hdn) hl hck hcb (fun _ => rfl) hout
  exact ⟨_, hq, S', β', this.unput⟩
theorem AWL.mkM {f : FuncId} {first : Array Operand} {d : Nat} (hg : o.guard = none) (ho : o.op = .makeFunc (.func f) first #[]) (hd : o.dst = some d) (hdn : Nat.ble (d + 1) st.n = true) (k : AWL P ops rest Q (st.put d (.fn f (first.toList.map st.ev)))) : AWL P ops (o :: rest) Q st := by
 refine AWL.ends hg (fun C S β a w hs => ?_) k
 refine ⟨_, w, S, β, .inl ⟨.func (.func f) (first.map a.eval) #[], ?_, by rw [hd]⟩, hs.put (Yaa hdn) (.mfn f _ _ (by simp) fun j v u hv hu => ?_)⟩
 ·unfold execOp
  simp [ho, Instr.makeFunc]
 ·rw [Yas, Yaj] at hv
  obtain ⟨x, hx, rfl⟩ := hv
  rw [Array.getElem?_map, Yaj] at hu
  obtain ⟨y, hy, rfl⟩ := hu
  rw [Array.getElem?_toList, hy] at hx
  cases hx
  exact Zac hs x
def Zit : List V -> Option (List Value)
 | [] => some []
 | .int k n :: l => (Zit l).map (Value.int k n :: ·)
 | _ => none
theorem Ziu {S : Nat -> Prop} {w : World} {β : Nat -> Option BI} : ∀ {cs : List V} {l : List Value} {us : List Value}, Zit cs = some l -> cs.length = us.length -> (∀ (j : Nat) (v : V) (u : Value), cs[j]? = some v -> us[j]? = some u -> VR S w β v u) -> us = l
 | [], l, us, h, hl, _ => by
   cases h
   exact Yay hl.symm
 | v :: cs, l, us, h, hl, hr => by
   cases v <;> first | (cases h; done) | skip
   rename_i k n
   simp only [Zit, Yaj] at h
   obtain ⟨l', h', rfl⟩ := h
   cases us with
   | nil => simp at hl
   | cons u us =>
     have h0 := hr 0 _ u rfl rfl
     rw [VR.int_inv h0]
     congr 1
     exact Ziu h' (by simpa using hl) fun j v u hv hu => hr (j + 1) v u (by simpa using hv) (by simpa using hu)
def Ziv (P : Program) (t : TypeId) : Bool := match P.underlying t with
 | some (.interface _) => true
 | some _ => false
 | none => true
theorem AWL.mkI {t : TypeId} {x : Operand} {d : Nat} {cs : List V} {l : List Value} (hg : o.guard = none) (ho : o.op = .makeInterface t x) (hd : o.dst = some d) (hdn : Nat.ble (d + 1) st.n = true) (hx : st.ev x = .agg cs) (hl : Zit cs = some l) (ht : Ziv P t = false)
 (k : AWL P ops rest Q (st.put d (.con (.iface t (.agg l.toArray))))) : AWL P ops (o :: rest) Q st := by
 refine AWL.ends hg (fun C S β a w hs => ?_) k
 obtain ⟨us, hu, hlen, hr⟩ := VR.agg_inv (hx ▸ Zac hs x)
 have hus : us.toList = l := Ziu hl (by simpa using hlen) fun j v u hv hu => hr j v u hv (by simpa using hu)
 have hus : us = l.toArray := by rw [<- hus]
 subst hus
 refine ⟨_, w, S, β, .inl ⟨.iface t (.agg l.toArray), ?_, by rw [hd]⟩, hs.put (Yaa hdn) (.flat (.con _))⟩
 unfold Ziv at ht
 split at ht <;> first | (cases ht; done) | skip
 rename_i D hne hD
 have hm : (Instr.makeInterface t (.agg l.toArray)).run P w = .ok (.iface t (.agg l.toArray)) w := by
  unfold Instr.makeInterface
  simp only [Sem.run_bind, run_underlying hD, Result.andThen_ok]
  cases D <;> first | rfl | (rename_i i; exact absurd hD (hne i))
 unfold execOp
 simp only [ho, hu, Sem.run_bind, hm, Result.andThen_ok, Sem.run_pure]
theorem AWL.pan {x : Operand} {v : Value} (hg : o.guard = none) (ho : o.op = .panic x) (hx : st.ev x = .con v) (hi : ∃ t u, v = .iface t u) (k : Q (.panic [{ v := v, recovered := false }]) st) : AWL P ops (o :: rest) Q st := fun C a w ⟨S, β, hs⟩ => by
 have hv := VR.con_inv (hx ▸ Zac hs x)
 obtain ⟨t, u, rfl⟩ := hi
 refine wpList_plain hg fun K hK => ?_
 unfold Oper.wp
 have : (execOp a.eval o).run P w = .halt (.panic (.iface t u)) w := by
  unfold execOp
  simp [ho, hv, Instr.panic]
 rw [this]
 exact ⟨st, k, S, β, hs⟩
theorem AWL.slice3 {t : TypeId} {x h m : Operand} {d : Nat} {n sz : Nat} {cs : List V} {e : TypeId} {by_ : Nat} {k1 k2 : IntKind} {hi mx : Int} (hg : o.guard = none) (ho : o.op = .slice t x none (some h) (some m)) (hd : o.dst = some d) (hdn : Nat.ble (d + 1) st.n = true) (hx : st.ev x = .view n sz cs) (hh : st.ev h = .int k1 hi) (hm : st.ev m = .int k2 mx)
 (ht : ZfT P t = some (e, sz, by_)) (hc : hi = n /\ mx = n) (k : AWL P ops rest Q (st.put d (.view n sz cs))) : AWL P ops (o :: rest) Q st := by
 refine AWL.ends hg (fun C S β a w hs => ?_) k
 obtain ⟨rfl, rfl⟩ := hc
 obtain ⟨A, c, hu, hnc, hl, us, ha, hr, h1⟩ := VR.view_inv (hx ▸ Zac hs x)
 have e1 := VR.int_inv (hh ▸ Zac hs h)
 have e2 := VR.int_inv (hm ▸ Zac hs m)
 obtain ⟨hu1, i, hi, hsz, _⟩ := Zau ht
 have hb : (Instr.sliceBounds true n c none (some (.int k1 ↑n)) (some (.int k2 ↑n))).run P w = .ok (0, n, n) w := by
  have q1 : ¬ ((n : Int) < 0) := by omega
  have q2 : ¬ ((c : Int) < (n : Int)) := by omega
  simp [Instr.sliceBounds, Instr.sliceBound, asIntOf, q1, hnc]
 have hA : ∀ A' : Option Addr, A' = A.map (·.add (0 * i.size)) \/ A' = A -> VR S w β (.view n sz cs) (.slice A' n n) := fun A' h => by
  refine .flat (.view n sz cs A' n us hl (Nat.le_refl _) (fun hne => ?_) hr h1)
  obtain ⟨b, o, e0, e3⟩ := ha hne
  refine ⟨b, o, ?_, e3⟩
  rcases h with h | h
  ·rw [h, e0, Nat.zero_mul]; show some (Addr.add ⟨b, o, none⟩ 0) = _; rw [ZaG]; rfl
  ·rw [h, e0]
 refine ⟨_, w, S, β, .inl ⟨.slice (if n = 0 then A else A.map (·.add (0 * i.size))) n n, ?_, by rw [hd]⟩, hs.put (Yaa hdn) (hA _ (by split; exact .inr rfl; exact .inl rfl))⟩
 unfold execOp
 simp only [ho, hu, e1, e2, Option.map_none, Option.map_some, Instr.sliceAt, Sem.run_bind, run_underlying hu1, Result.andThen_ok, Instr.slice, hb, Zak hi, Sem.run_pure, Nat.sub_zero]
theorem AW.frzRet (k : Nat) {o1 : Zaz} (_h : st.obj k = some o1) (_hf : o1.flat = true) (h : AW P .ret Q (st.freeze k)) : AW P .ret Q st := AW.frz k h
end
end Go.Abs
namespace Go.Abs
open Go Go.RowKit
section
variable {P : Program} {C : Ctx} {S : Nat -> Prop} {β : Nat -> Option BI} {st st' : St} {a : Act} {w w' : World} {Q : Exit -> St -> Prop} {ops : Array Oper} {rest : List Oper} {o : Oper}
def ZyL : Value -> Option Bool
 | .iface _ _ => some true
 | .nilIface => some false
 | _ => none
theorem AWL.iNil {t z : TypeId} {x : Operand} {d : Nat} {v : Value} {r : Bool} (hg : o.guard = none) (ho : o.op = .binOp .neq t x (.const .nilIface) z) (hd : o.dst = some d) (hdn : Nat.ble (d + 1) st.n = true) (hx : st.ev x = .con v) (hr : ZyL v = some r) (ht : Ziv P t = true /\ (P.underlying t).isSome = true)
 (k : AWL P ops rest Q (st.put d (.bool r))) : AWL P ops (o :: rest) Q st := by
 refine AWL.ends hg (fun C S β a w hs => ?_) k
 have e1 := VR.con_inv (hx ▸ Zac hs x)
 have e2 : a.eval (.const .nilIface) = .nilIface := rfl
 refine ⟨_, w, S, β, .inl ⟨.bool r, ?_, by rw [hd]⟩, hs.put (Yaa hdn) VR.bool⟩
 obtain ⟨i, hi⟩ : ∃ i, P.underlying t = some (.interface i) := by
  obtain ⟨D, hD⟩ := Yax.1 ht.2
  have := ht.1
  unfold Ziv at this
  rw [hD] at this
  cases D <;> first | exact ⟨_, hD⟩ | (simp at this)
 unfold execOp
 have hG : (eqGuard .neq t x (.const .nilIface) v .nilIface).run P w = .ok () w := by
  unfold eqGuard
  cases v <;> first | (cases hr; done) | simp
 have hE : ∀ d, (Op.equalIn (d + 1) t v .nilIface).run P w = .ok (!r) w := fun d => by
  cases v <;> first | (cases hr; done) | skip
  ·cases hr; simp [Op.equalIn, run_underlying hi]
  ·cases hr; simp [Op.equalIn, run_underlying hi]
 have hB : (binOp .neq t v .nilIface).run P w = .ok (.bool r) w := by
  have hE := hE 9999
  simp only [binOp, Op.equal, Op.maxDepth, Sem.run_bind, hE, Result.andThen_ok, Sem.run_pure, Bool.not_not]
 simp only [ho, e1, e2, Sem.run_bind, hG, hB, Result.andThen_ok, Sem.run_pure]
theorem AWL.tassert {xt t : TypeId} {x : Operand} {d : Nat} {l : List Value} {cs : List V} (hg : o.guard = none) (ho : o.op = .typeAssert x xt t true) (hd : o.dst = some d) (hdn : Nat.ble (d + 1) st.n = true) (hx : st.ev x = .con (.iface t (.agg l.toArray))) (hl : Zit cs = some l) (hi : Ziv P t = false)
 (k : AWL P ops rest Q (st.put d (.tup [.agg cs, .bool true]))) : AWL P ops (o :: rest) Q st := by
 refine AWL.ends hg (fun C S β a w hs => ?_) k
 have e1 := VR.con_inv (hx ▸ Zac hs x)
 have key : ∀ {cs : List V} {l : List Value}, Zit cs = some l -> cs.length = l.length /\ ∀ (j : Nat) (v : V) (u : Value), cs[j]? = some v -> l[j]? = some u -> VR S w β v u := by
  intro cs
  induction cs with
  | nil => intro l h; cases h; exact ⟨rfl, fun j v u hj => by simp at hj⟩
  | cons v cs ih =>
    intro l h
    cases v <;> first | (cases h; done) | skip
    rename_i k n
    simp only [Zit, Yaj] at h
    obtain ⟨l', h', rfl⟩ := h
    obtain ⟨h1, h2⟩ := ih h'
    refine ⟨by simp [h1], fun j v u hj hu => ?_⟩
    cases j with
    | zero => simp at hj hu; subst hj hu; exact .int
    | succ j => exact h2 j v u (by simpa using hj) (by simpa using hu)
 obtain ⟨k1, k2⟩ := key hl
 refine ⟨_, w, S, β, .inl ⟨.tuple #[.agg l.toArray, .bool true], ?_, by rw [hd]⟩, hs.put (Yaa hdn) (.tup _ _ rfl fun j v u hj hu => ?_)⟩
 ·unfold Ziv at hi
  split at hi <;> first | (cases hi; done) | skip
  rename_i D hne hD
  have hm : (Instr.typeAssert (.iface t (.agg l.toArray)) xt t true).run P w = .ok (.tuple #[.agg l.toArray, .bool true]) w := by
   unfold Instr.typeAssert
   simp only [Sem.run_bind, run_underlying hD, Result.andThen_ok]
   cases D <;> first | (rename_i i; exact absurd hD (hne i)) | simp
  unfold execOp
  simp only [ho, e1, Sem.run_bind, hm, Result.andThen_ok, Sem.run_pure]
 ·match j with
  | 0 => simp at hj hu; subst hj hu; exact .agg cs _ (by simpa using k1) (fun j v u hj hu => k2 j v u hj (by simpa using hu))
  | 1 => simp at hj hu; subst hj hu; exact .bool
  | j + 2 => simp at hj
def AMD (P : Program) (f : FuncId) (args : List V) (mem : Mem) (keep : List Nat) (u u' : FrameMode) (m' : Mem) : Prop :=
 ∀ (S : Nat -> Prop) (w : World) (β : Nat -> Option BI) (us : List Value), Sok S w -> args.length = us.length -> (∀ (j : Nat) (v : V) (u : Value), args[j]? = some v -> us[j]? = some u -> VR S w β v u) ->
   (∀ k o, (k, o) ∈ mem -> OR S w β k o) -> (∀ k o bi, (k, o) ∈ mem -> β k = some bi -> ¬ S bi.blk) ->
   (∀ k k' o o' bi bi', (k, o) ∈ mem -> (k', o') ∈ mem -> β k = some bi -> β k' = some bi' -> bi.blk = bi'.blk -> k = k') ->
   (mem.map (·.1)).Nodup -> (∀ k ∈ keep, ∃ bi, β k = some bi) ->
   CallsD P f us.toArray u w (fun e um w' => (∃ v, e = .returned v) /\ um = u' /\ ZuQ S w w' β (mem.map (·.1)) keep .any m' undef)
theorem AMD.enter {f : FuncId} {fn : Func} {c2 : Code} {id : Nat} {oR oA : Oper} {d0 d1 : Nat} {args : List V} {mem m' : Mem} {keep : List Nat} {u u' : FrameMode} {rv : Value} (hf : P.funcs[f]? = some fn) (hb : fn.body = some (.seq (.region id #[oR, oA] false) c2)) (hn : args.length <= fn.ntmps)
 (hR : oR.op = .call { callee := .builtin .recover, args := #[], argTypes := #[] } /\ oR.dst = some d0 /\ oR.guard = none) (hA : oA.op = .assign (.tmp d0) /\ oA.dst = some d1 /\ oA.guard = none) (hd0 : d0 < fn.ntmps) (hd1 : d1 < fn.ntmps)
 (hu : ∀ (c0 : Frame) (cs : List Frame), c0.mode = u -> recoverD (c0 :: cs) = some (rv, { c0 with mode := u' } :: cs) \/ (recoverD (c0 :: cs) = none /\ rv = .nilIface /\ u' = u))
 (h : ∀ pn : Nat -> Option BI, AW P c2 (Zjx P fn.results.toList keep pn (fun _ m => m = m')) (((ZmP fn.ntmps args mem (Zb3 pn keep mem)).put d0 (.con rv)).put d1 (.con rv))) : AMD P f args mem keep u u' m' := by
 intro S w β us hS hl hargs hor hns hinj hnd hkeep
 refine callsD_of_wpS hf hb fun c0 cs hc0 => ?_
 let L : Nat -> Prop := fun b => ∃ k0 ∈ mem.map (·.1), ∃ b0, β k0 = some b0 /\ b = b0.blk
 let C : Ctx := ⟨S, w, L, hS, fun b hb ⟨k0, hk0, b0, hb0, e⟩ => by
  obtain ⟨p, hp, e1⟩ := Ya3.1 hk0
  subst e1
  exact hns p.1 p.2 b0 hp hb0 (e ▸ hb), []⟩
 have hinit : SR C S β (ZmP fn.ntmps args mem (Zb3 β keep mem)) { tmps := us.toArray ++ Array.replicate (fn.ntmps - us.toArray.size) undef, defers := [] } w := {
  tsize := by simp [ZmP]; omega
  slots := fun i => by
   simp only [St.get, ZmP, ZbM, Nat.zero_le, if_true, Nat.sub_zero]
   cases hi : args[i]? with
   | none => exact .any _
   | some v =>
     have hlt : i < us.length := by rw [<- hl]; exact (Yak.1 hi).1
     have hu : us[i]? = some us[i] := Yab hlt
     have : (us.toArray ++ Array.replicate (fn.ntmps - us.toArray.size) undef).getD i undef = us[i] := by
      rw [Yan, Array.getElem?_append_left (by simpa using hlt)]
      simp [hlt]
     rw [this]
     exact hargs i v _ hi hu
  defers := rfl
  objs := fun k o ho => hor k o (Zaf ho)
  inj := fun k k' bi bi' hk hk' hb hb' e => by
   obtain ⟨o, ho⟩ := Yax.1 hk
   obtain ⟨o', ho'⟩ := Yax.1 hk'
   exact hinj k k' o o' bi bi' (Zaf ho) (Zaf ho') hb hb' e
  own := fun k bi hk hb => by
   obtain ⟨o, ho⟩ := Yax.1 hk
   exact ⟨hns k o bi (Zaf ho) hb, .inr ⟨⟨k, Ya3.2 ⟨_, Zaf ho, rfl⟩, bi, hb, rfl⟩, ZdP (Zaf ho)⟩⟩
  pins := fun k bi hk => Zf8 hk
  sub := fun b hb => hb
  snew := fun b hb => .inl hb
  slt := hS.1
  frame := ⟨rfl, rfl, rfl, Nat.le_refl _, fun _ _ _ => rfl⟩ }
 have hput := (hinit.put (d := d0) (v := .con rv) (u := rv) hd0 (.flat (.con _))).put (d := d1) (v := .con rv) (u := rv) hd1 (.flat (.con _))
 refine wpS_seq ?_
 refine wpS_region ?_
 have hrec : ∀ a w, (execOp (Act.eval a) oR).run P w = .ok .recover w := fun a w => by
  unfold execOp
  simp [hR.1, resolve, invoke, builtin]
 have hend : c2.wpS P (bodyPostS P fn c0 cs fun e um w' => (∃ v, e = .returned v) /\ um = u' /\ ZuQ S w w' β (mem.map (·.1)) keep .any m' undef) (({ tmps := us.toArray ++ Array.replicate (fn.ntmps - us.toArray.size) undef, defers := [] } : Act).put (some d0) rv |>.put (some d1) rv) ({ c0 with mode := u' } :: cs) w := by
  refine wpS_of_wp (wp_mono (h β C _ w ⟨S, _, hput⟩) fun e a' w' ⟨st', he, S', β', hs⟩ => ?_)
  obtain ⟨he, cc, r, ks, js, m, hres, hcc, hjs, hout, hchk, hpin, rfl⟩ := he
  obtain ⟨uu, hrun, hv⟩ := Zdt hs hres hcc
  simp only [Yao, Yaz] at hchk
  obtain ⟨⟨⟨hj1, hsh⟩, hndk⟩, hkk⟩ := hchk
  have hOut := ZmX (r := .any) (u := undef) hkeep hs (fun _ => rfl) hout (by simp only [Yao, Yaz]; exact ⟨⟨hsh, hndk⟩, hkk⟩) hpin (fun _ _ => .any _)
  rcases he with rfl | rfl
  ·exact ⟨hs.defers, u', rfl, uu, hrun, ⟨uu, rfl⟩, rfl, hOut⟩
  ·exact ⟨hs.defers, u', rfl, uu, hrun, ⟨uu, rfl⟩, rfl, hOut⟩
 show wpOpsS P #[oR, oA] _ [0, 1] _ _ _
 have hA2 : ∀ a w, (execOp (Act.eval a) oA).run P w = .ok (.value (a.eval (.tmp d0))) w := fun a w => by
  unfold execOp
  simp [hA.1]
 have h1 : ∀ ys, Region.wanted oR ys = true := fun ys => by simp [Region.wanted, hR.2.2]
 have h2 : ∀ ys, Region.wanted oA ys = true := fun ys => by simp [Region.wanted, hA.2.2]
 have hlast : ∀ cs', cs' = { c0 with mode := u' } :: cs -> wpOpsS P #[oR, oA] (Exit.thenS (c2.wpS P (bodyPostS P fn c0 cs fun e um w' => (∃ v, e = .returned v) /\ um = u' /\ ZuQ S w w' β (mem.map (·.1)) keep .any m' undef)) (bodyPostS P fn c0 cs fun e um w' => (∃ v, e = .returned v) /\ um = u' /\ ZuQ S w w' β (mem.map (·.1)) keep .any m' undef)) [1] (({ tmps := us.toArray ++ Array.replicate (fn.ntmps - us.toArray.size) undef, defers := [] } : Act).put (some d0) rv) cs' w := by
  rintro cs' rfl
  simp only [wpOpsS, List.getElem?_toArray, List.getElem?_cons_succ, List.getElem?_cons_zero, h2, if_true, hA2]
  simp only [Oper.upon]
  rw [hA.2.1]
  have e : (({ tmps := us.toArray ++ Array.replicate (fn.ntmps - us.toArray.size) undef, defers := [] } : Act).put (some d0) rv).eval (.tmp d0) = rv := by
   have hsz := hinit.tsize
   simp only [ZmP] at hsz
   simp only [Act.eval, Act.put]
   rw [Yan, Array.getElem?_setIfInBounds]
   simp only [if_true]
   rw [if_pos (by rw [hsz]; exact hd0)]
   rfl
  rw [e]
  exact hend
 unfold wpOpsS
 simp only [List.getElem?_toArray, List.getElem?_cons_zero, h1, if_true, hrec]
 rcases hu c0 cs hc0 with hr | ⟨hr, rfl, rfl⟩
 ·rw [hr, hR.2.1]
  exact hlast _ rfl
 ·rw [hr, hR.2.1]
  have e : ({ c0 with mode := u' } : Frame) = c0 := by subst hc0; rfl
  exact hlast _ (by rw [e])
theorem ZoK {fn : Func} {R : V -> List (Nat × List V) -> Prop} {S' : Nat -> Prop} {β' : Nat -> Option BI} {a' : Act} {st' : St} {e : Exit} {ok : Sok S w} {sep : ∀ b, S b -> ¬ False} {ds : List Deferred}
 (hs : SR ⟨S, w, fun _ => False, ok, sep, ds⟩ S' β' st' a' w') (he : Zdi P fn.results.toList R e st') : ∃ u, (results fn a'.tmps).run P w' = .ok u w' /\ ∃ r m, R r m /\ Out S w w' r m u := by
 obtain ⟨_, cc, r, ks, m, hres, hcc, hks, hout, hR⟩ := he
 obtain ⟨u, hrun, hv⟩ := Zdt hs hres hcc
 obtain ⟨m1, m2, m3⟩ := ZjX hout
 have hin : ∀ k cs, (k, cs) ∈ m -> (if k ∈ ks then β' k else none) = β' k := fun k cs hk => if_pos (m2 k cs hk).1
 refine ⟨u, hrun, r, m, hR, ⟨S', fun k => if k ∈ ks then β' k else none, hs.sub, fun b hb => ?_, ?_, ?_, ?_, ?_, ?_, m3⟩, hs.frame⟩
 ·rcases hs.snew b hb with h1 | h1
  ·exact .inl h1
  ·exact .inr ⟨h1, hs.slt b hb⟩
 ·exact VR.restrict 4 hks (fun k hk => if_pos hk) hv
 ·intro k cs hk
  rcases hs.objs k _ (m2 k cs hk).2 with ⟨h1, h2, h3⟩ | ⟨bi, cur, e', fz, hbi, hr⟩
  ·exact .inl ⟨h1, h2, (hin k cs hk).trans h3⟩
  ·refine .inr ⟨bi, cur, e', fz, (hin k cs hk).trans hbi, hr.heap, hr.size, hr.free, hr.fits, hr.len, ?_⟩
   intro i v hv
   obtain ⟨u, hu, h1, hr'⟩ := hr.cells i v hv
   exact ⟨u, hu, h1, by rw [if_pos rfl] at hr' ⊢; exact hr'⟩
 ·intro k cs bi hk hbi
  replace hbi := (hin k cs hk).symm.trans hbi
  have := hs.own k bi (by rw [(m2 k cs hk).2]; rfl) hbi
  exact ⟨this.2.resolve_right (fun h => h.1), this.1⟩
 ·intro k k' cs cs' bi bi' hk hk' hbi hbi' hblk
  replace hbi := (hin k cs hk).symm.trans hbi
  replace hbi' := (hin k' cs' hk').symm.trans hbi'
  exact hs.inj k k' bi bi' (by rw [(m2 k cs hk).2]; rfl) (by rw [(m2 k' cs' hk').2]; rfl) hbi hbi' hblk
 ·intro k hk
  refine if_neg fun hkk => ?_
  obtain ⟨cs, h⟩ := m1 k hkk
  exact hk cs h
theorem Zjd {id : Nat} {mk df : Oper} {g : FuncId} {caps : Array Operand} {dm : Nat} {Qw : Exit -> Act -> World -> Prop} (hm : mk.op = .makeFunc (.func g) #[] caps /\ mk.dst = some dm /\ mk.guard = none) (hd : df.op = .defer { callee := .value (.tmp dm), args := #[], argTypes := #[] } /\ df.dst = none /\ df.guard = none) (hdm : dm < a.tmps.size)
 (k : Qw .normal { a.put (some dm) (.func (.func g) #[] (caps.map a.eval)) with defers := { target := .fn (.func g) (caps.map a.eval), args := #[] } :: a.defers } w) : (Code.region id #[mk, df] false).wp P Qw a w := by
 refine wp_region_lit (l := [mk, df]) ?_
 refine wpList_plain hm.2.2 fun K hK => ?_
 have h1 : (execOp a.eval mk).run P w = .ok (.value (.func (.func g) #[] (caps.map a.eval))) w := by
  unfold execOp
  simp [hm.1, Instr.makeFunc]
 unfold Oper.wp
 rw [h1]
 show K (a.put mk.dst _) w
 rw [hm.2.1]
 refine hK _ _ ?_
 refine wpList_plain hd.2.2 fun K2 hK2 => ?_
 have e : (a.put (some dm) (.func (.func g) #[] (caps.map a.eval))).eval (.tmp dm) = .func (.func g) #[] (caps.map a.eval) := by
  simp only [Act.eval, Act.put]
  rw [Yan, Array.getElem?_setIfInBounds]
  simp [hdm]
 have h2 : (execOp (a.put (some dm) (.func (.func g) #[] (caps.map a.eval))).eval df).run P w = .ok (.defer { target := .fn (.func g) (caps.map a.eval), args := #[] }) w := by
  unfold execOp
  simp [hd.1, resolve, Deferred.ofValue, e]
 unfold Oper.wp
 rw [h2]
 show K2 (({ a.put (some dm) (.func (.func g) #[] (caps.map a.eval)) with defers := { target := .fn (.func g) (caps.map a.eval), args := #[] } :: (a.put (some dm) (.func (.func g) #[] (caps.map a.eval))).defers } : Act).put df.dst undef) w
 rw [hd.2.1]
 exact hK2 _ _ (wpList_nil k)
def ZmC (P : Program) (fn : Func) (g : FuncId) (ρ : List (Nat × Nat)) (keep : List Nat) (d : Nat) (R : V -> List (Nat × List V) -> Prop) (pn : Nat -> Option BI) : Exit -> St -> Prop := fun e st =>
 ∃ u u' mem m', ((e = .ret /\ u = .returning) \/ ∃ ch, e = .panic ch /\ u = .panicking ch) /\ settle u' = .returning /\ Zhw st ρ ρ = some mem /\ ZpW st ρ keep = true /\ d < st.n /\ (∀ p ∈ ρ, lk st.lent p.2 = some (pn p.2)) /\
   AMD P g (ρ.map fun p => .ptr p.1 0) mem keep u u' m' /\ ZqM ρ d m' = true /\ Zdi P fn.results.toList R .ret ((st.back ρ keep d m' .any).put d .any)
theorem ZmC.mk {fn : Func} {g : FuncId} {ρ : List (Nat × Nat)} {keep : List Nat} {d : Nat} {R : V -> List (Nat × List V) -> Prop} {pn : Nat -> Option BI} {e : Exit} {u u' : FrameMode} {mem m' : Mem} (h1 : (e = .ret /\ u = .returning) \/ ∃ ch, e = .panic ch /\ u = .panicking ch) (h2 : settle u' = .returning) (h3 : Zhw st ρ ρ = some mem) (h4 : ZpW st ρ keep = true) (h5 : d < st.n) (h6 : ∀ p ∈ ρ, lk st.lent p.2 = some (pn p.2))
 (h7 : AMD P g (ρ.map fun p => .ptr p.1 0) mem keep u u' m') (h8 : ZqM ρ d m' = true) (h9 : Zdi P fn.results.toList R .ret ((st.back ρ keep d m' .any).put d .any)) : ZmC P fn g ρ keep d R pn e st := ⟨u, u', mem, m', h1, h2, h3, h4, h5, h6, h7, h8, h9⟩
theorem ZmY {fn : Func} {g : FuncId} {ρ : List (Nat × Nat)} {keep : List Nat} {d : Nat} {R : V -> List (Nat × List V) -> Prop} {pn : Nat -> Option BI} {e : Exit} {us : Array Value} {ok : Sok S w} {sep : ∀ b, S b -> ¬ False} (hcg : Zc P g = true)
 (hus : us.size = ρ.length /\ ∀ (j : Nat) (p : Nat × Nat) (u : Value), ρ[j]? = some p -> us[j]? = some u -> ∃ bi, pn p.2 = some bi /\ u = .pointer (some ⟨bi.blk, bi.off, none⟩))
 {S' : Nat -> Prop} {β' : Nat -> Option BI} {a' : Act} {st' : St} (hs : SR ⟨S, w, fun _ => False, ok, sep, [{ target := .fn (.func g) us, args := #[] }]⟩ S' β' st' a' w') (he : ZmC P fn g ρ keep d R pn e st') :
 bodyPostD P fn (fun e w' => ∃ r mem u, R r mem /\ e = .returned u /\ Out S w w' r mem u) e a' w' := by
 obtain ⟨u, u', mem, m', h1, h2, h3, h4, h5, h6, h7, h8, h9⟩ := he
 have hinv : (invoke (.fn (.func g) us) #[]).run P w' = .ok (.enter g us) w' := by
  unfold Zc at hcg
  split at hcg <;> first | (cases hcg; done) | skip
  rename_i fn' hfn
  simp only [Yao, bne_iff_ne, ne_eq] at hcg
  have h2 : ¬ fn'.body = none := by intro e; rw [e] at hcg; simp at hcg
  simp [invoke, callFunc, hfn, hcg.1, h2]
 have key : u ≠ .run -> Leaves P fn a'.tmps (fun e w' => ∃ r mem u, R r mem /\ e = .returned u /\ Out S w w' r mem u) a'.defers u w' := by
  intro hu
  rw [hs.defers]
  refine leaves_cons hu hinv ?_
  obtain ⟨hm1, hm2⟩ := Zdv h3
  have hck' := h4
  simp only [ZpW, Yao, Yaz, Yat] at hck'
  obtain ⟨⟨hn1, hn2⟩, hkp⟩ := hck'
  let βc : Nat -> Option BI := fun k => (lk ρ k).bind β'
  have hpk : ∀ p ∈ ρ, βc p.1 = pn p.2 /\ β' p.2 = pn p.2 := fun p hp => by
   have e1 : lk ρ p.1 = some p.2 := ZaB hn1 hp
   have e2 := h6 p hp
   obtain ⟨j, hj, hj2⟩ := List.getElem_of_mem hp
   obtain ⟨bi, hb1, _⟩ := hus.2 j p _ (by rw [Yab hj, hj2]) (Array.getElem?_eq_getElem (by rw [hus.1]; exact hj))
   rw [hb1] at e2 ⊢
   have e3 := hs.pins p.2 bi (Zaf e2)
   exact ⟨by simp only [βc, e1]; exact e3, e3⟩
  have hc := h7 S' w' βc us.toList hs.sok (by simp [hus.1]) (fun j v u hv hu => by
   rw [Yas, Yaj] at hv
   obtain ⟨p, hp, rfl⟩ := hv
   rw [Array.getElem?_toList] at hu
   obtain ⟨bi, e1, rfl⟩ := hus.2 j p u hp hu
   have := (hpk p (Ya0 hp)).1
   exact .ptr p.1 0 bi (this.trans e1)) (fun k o hk => by
   obtain ⟨K, o', e1, e2, rfl⟩ := hm2 k o hk
   exact OR.rk (fun K j hj => .inr (by simp only [βc, ZaB hn1 (Ze3 hj)]; rfl)) (hs.objs K o' e2) (by simp only [βc, ZaB hn1 e1]; rfl)) (fun k o bi hk hb => by
   obtain ⟨K, o', e1, e2, rfl⟩ := hm2 k o hk
   simp only [βc, ZaB hn1 e1] at hb
   exact (hs.own K bi (by rw [e2]; rfl) hb).1) (fun k k' o o' bi bi' hk hk' hb hb' e => by
   obtain ⟨K, o1, e1, e2, rfl⟩ := hm2 k o hk
   obtain ⟨K', o1', e1', e2', rfl⟩ := hm2 k' o' hk'
   simp only [βc, ZaB hn1 e1] at hb
   simp only [βc, ZaB hn1 e1'] at hb'
   have hKK := hs.inj K K' bi bi' (by rw [e2]; rfl) (by rw [e2']; rfl) hb hb' e
   subst hKK
   exact ZgP hn2 e1 e1') (by rw [hm1]; exact hn1) (fun k hk => by
   have := hkp k hk
   split at this
   ·rename_i o ho
    rw [Option.bind_eq_some_iff] at ho
    obtain ⟨K, hK1, hK2⟩ := ho
    rcases hs.objs K o hK2 with ⟨q1, q2, _⟩ | ⟨bi, _, _, _, hbi, _⟩
    ·rw [q1, q2] at this; cases this
    ·exact ⟨bi, by simp only [βc, hK1]; exact hbi⟩
   ·cases this)
  refine CallsD.mono hc ?_
  rintro e'' um w'' ⟨⟨v, rfl⟩, rfl, hout⟩
  obtain ⟨S2, β2, hs2⟩ := hs.calledM (d := d) h5 h3 h4 h8 (fun _ => rfl) hout
  obtain ⟨uu, hr, r, m, hR, hO⟩ := ZoK hs2.unput h9
  show Leaves P fn a'.tmps _ [] (settle um) w''
  rw [h2]
  exact ⟨uu, hr, r, m, uu, hR, rfl, hO⟩
 rcases h1 with ⟨rfl, rfl⟩ | ⟨ch, rfl, rfl⟩
 ·exact key (by simp)
 ·exact key (by simp)
theorem AWL.convSame {t e : TypeId} {x : Operand} {d k n by_ : Nat} {ob : Zaz} (hg : o.guard = none) (ho : o.op = .convert t t x) (hd : o.dst = some d) (hdn : Nat.ble (d + 1) st.n = true) (hx : st.ev x = .ref k 0 n 1) (hob : st.obj k = some ob) (hne : ob.cs ≠ []) (hn : 0 < n) (ht : ZfT P t = some (e, 1, by_)) (he : Zhr P e = some .u8)
 (k' : AWL P ops rest Q ((st.setObj k ob).put d (.ref k 0 n 1))) : AWL P ops (o :: rest) Q st := by
 refine AWL.ends hg (fun C S β a w hs => ?_) k'
 have hv := hx ▸ Zac hs x
 obtain ⟨A, c, hu, hr⟩ := VR.ref_inv hv
 rcases hr with ⟨h0, _⟩ | ⟨bi, hbi, hA, h1, h2, h3⟩
 ·omega
 rcases hs.objs k ob hob with ⟨_, h0, _⟩ | ⟨bi', cur, e', fz, hbi', hor⟩
 ·exact absurd h0 hne
 rw [hbi] at hbi'
 cases hbi'
 obtain ⟨hu1, i, hi, _, _⟩ := Zau ht
 have hu2 := Zbb he
 have hsh : w.shape? bi.blk = some (e', cur.size) := by simp [World.shape?, hor.heap]
 have hb : bi.blk < w.heap.size := ZfA hor.heap
 let fz' : Nat × Nat := if fz.1 == fz.2 then (cur.size, cur.size + 1) else (min fz.1 cur.size, max fz.2 (cur.size + 1))
 have hw' : (w.freeze ⟨bi.blk, cur.size, none⟩ 1).heap[bi.blk]? = some (.cells cur e' fz') := by
  unfold World.freeze
  rw [if_neg (by decide)]
  show (w.heap.modify bi.blk _)[bi.blk]? = _
  rw [Array.getElem?_modify, if_pos rfl, hor.heap]
  rfl
 have hoth : ∀ b, b ≠ bi.blk -> (w.freeze ⟨bi.blk, cur.size, none⟩ 1).heap[b]? = w.heap[b]? := fun b hne => by
  unfold World.freeze
  rw [if_neg (by decide)]
  show (w.heap.modify bi.blk _)[b]? = _
  rw [Array.getElem?_modify, if_neg (fun h => hne h.symm)]
 have hsz : w.heap.size = (w.freeze ⟨bi.blk, cur.size, none⟩ 1).heap.size := by
  unfold World.freeze
  rw [if_neg (by decide)]
  show _ = (w.heap.modify bi.blk _).size
  rw [Array.size_modify]
 have hnf : ZzY fz' cur.size := by
  obtain ⟨q1, q2⟩ := hor.free
  show ZzY (if fz.1 == fz.2 then (cur.size, cur.size + 1) else (min fz.1 cur.size, max fz.2 (cur.size + 1))) cur.size
  by_cases hq : fz.1 = fz.2
  ·rw [if_pos (by simpa using hq)]
   exact ⟨Nat.le_succ _, fun j hj h => by have := h.1; simp only at this; omega⟩
  ·rw [if_neg (by simpa using hq)]
   have hlo : cur.size <= fz.1 := Nat.le_of_not_lt fun hlt => q2 fz.1 hlt ⟨Nat.le_refl _, by omega⟩
   refine ⟨by simp only; omega, fun j hj h => ?_⟩
   have := h.1
   simp only at this
   omega
 have hor' : ORs S (w.freeze ⟨bi.blk, cur.size, none⟩ 1) β ob bi cur e' fz' := by
  have hS : ∀ b, S b -> (w.freeze ⟨bi.blk, cur.size, none⟩ 1).heap[b]? = w.heap[b]? := fun b hb => hoth b fun e => (hs.own k bi (by rw [hob]; rfl) hbi).1 (e ▸ hb)
  refine ⟨hw', hor.size, hnf, hor.fits, hor.len, fun j v hv => ?_⟩
  obtain ⟨u, h1, h2, h3⟩ := hor.cells j v hv
  refine ⟨u, h1, h2, ?_⟩
  split at h3
  ·rename_i hf; rw [if_pos hf]; exact ⟨h3.1, h3.2.step (fun _ h => h) hS⟩
  ·rename_i hf; rw [if_neg hf]; exact h3.step (fun _ h => h) hS
 have hs2 := hs.write k ob (by rw [hob]; rfl) (w' := w.freeze ⟨bi.blk, cur.size, none⟩ 1) (by unfold World.freeze; rw [if_neg (by decide)]) (by unfold World.freeze; rw [if_neg (by decide)]) (by unfold World.freeze; rw [if_neg (by decide)]) hsz (fun b _ hne => hoth b (hne bi hbi)) (.inr ⟨bi, cur, e', fz', hbi, hor'⟩)
 have hn0 : ¬ n = 0 := by omega
 refine ⟨_, w.freeze ⟨bi.blk, cur.size, none⟩ 1, S, β, .inl ⟨a.eval x, ?_, by rw [hd]⟩, hs2.put (Yaa hdn) (by rw [hu]; exact .ref k 0 n 1 A c (.inr ⟨bi, hbi, hA, h1, h2, h3⟩))⟩
 unfold execOp
 subst hA
 simp [ho, hu, convert, run_underlying hu1, run_underlying hu2, markStringish, hsh]
theorem SR.wkO (h : SR C S β st a w) {k : Nat} {cs cs' : List V} (ho : st.obj k = some ⟨false, cs⟩) (hw : WkL cs cs') : SR C S β (st.setObj k ⟨false, cs'⟩) a w := by
 have hsome : ∀ j, ((st.setObj k ⟨false, cs'⟩).obj j).isSome = (st.obj j).isSome := by
  intro j
  rw [St.obj_setObj]
  by_cases hj : j = k
  ·subst hj; rw [if_pos rfl, ho]; rfl
  ·rw [if_neg hj]
 refine { tsize := h.tsize, slots := h.slots, defers := h.defers, objs := ?_, inj := ?_, own := ?_, pins := h.pins, sub := h.sub, snew := h.snew, slt := h.slt, frame := h.frame }
 ·intro j o' ho'
  rw [St.obj_setObj] at ho'
  by_cases hj : j = k
  ·subst hj
   rw [if_pos rfl] at ho'
   cases ho'
   rcases h.objs j _ ho with ⟨h1, _, _⟩ | ⟨bi, cur, e, fz, hbi, hor⟩
   ·cases h1
   ·refine .inr ⟨bi, cur, e, fz, hbi, hor.heap, hor.size, hor.free, by have := hor.fits; simpa [hw.length] using this, by have := hor.len; simpa [hw.length] using this, ?_⟩
    intro i v hv
    obtain ⟨v', hv', hwk⟩ := hw.at hv
    obtain ⟨u, hu, hu1, hr⟩ := hor.cells i v' hv'
    refine ⟨u, hu, hu1, ?_⟩
    rw [if_neg (by simp)] at hr ⊢
    exact hwk _ _ _ _ hr
  ·rw [if_neg hj] at ho'
   exact h.objs j o' ho'
 ·intro j j' bi bi' h1 h2
  rw [hsome] at h1 h2
  exact h.inj j j' bi bi' h1 h2
 ·intro j bi h1
  rw [hsome] at h1
  exact h.own j bi h1
theorem AW.wkO {c : Code} (k : Nat) {cs cs' : List V} (ho : st.obj k = some ⟨false, cs⟩) (hw : WkL cs cs') (h : AW P c Q (st.setObj k ⟨false, cs'⟩)) : AW P c Q st := fun C a w ⟨S, β, hs⟩ => h C a w ⟨S, β, hs.wkO ho hw⟩
end
end Go.Abs
namespace Go.Proofs.YtimhmpdfioihlaaGreatDoor
set_option maxRecDepth 20000
open Go Go.Abs
theorem i2 : Zhr Tryz.prog 2 = some .i64 := by kernel_rfl
theorem i3 : Zhr Tryz.prog 3 = some .i64 := by kernel_rfl
theorem i5 : Zhr Tryz.prog 5 = some .u8 := by kernel_rfl
theorem i12 : Zhr Tryz.prog 12 = some .u64 := by kernel_rfl
theorem i21 : Zhr Tryz.prog 21 = some .i32 := by kernel_rfl
theorem i35 : Zhr Tryz.prog 35 = some .i64 := by kernel_rfl
theorem i48 : Zhr Tryz.prog 48 = some .u64 := by kernel_rfl
theorem ZFy : Zhr Tryz.prog 148 = some .u64 := by kernel_rfl
theorem ZFz : Zhr Tryz.prog 216 = some .u32 := by kernel_rfl
theorem ZFA : Zhr Tryz.prog 221 = some .i8 := by kernel_rfl
theorem TY : (∀ h : 2 < Tryz.prog.types.size, (Tryz.prog.types[2]'h).size = 1) /\
 (∀ v : V, (Z0 Tryz.prog 2 v).1 = ∃ n, v = .int .i64 n) /\
 (∀ v : V, (Z0 Tryz.prog 2 v).2 = .int .i64 (vi v)) /\
 (∀ h : 3 < Tryz.prog.types.size, (Tryz.prog.types[3]'h).size = 1) /\
 (∀ v : V, (Z0 Tryz.prog 3 v).1 = ∃ n, v = .int .i64 n) /\
 (∀ v : V, (Z0 Tryz.prog 3 v).2 = .int .i64 (vi v)) /\
 (∀ h : 4 < Tryz.prog.types.size, (Tryz.prog.types[4]'h).size = 1) /\
 (∀ v : V, (Z0 Tryz.prog 4 v).1 = ∃ b, v = .bool b) /\
 (∀ v : V, (Z0 Tryz.prog 4 v).2 = .bool (vb v)) /\
 (∀ h : 5 < Tryz.prog.types.size, (Tryz.prog.types[5]'h).size = 1) /\
 (∀ v : V, (Z0 Tryz.prog 5 v).1 = ∃ n, v = .int .u8 n) /\
 (∀ v : V, (Z0 Tryz.prog 5 v).2 = .int .u8 (vi v)) /\
 (∀ h : 9 < Tryz.prog.types.size, (Tryz.prog.types[9]'h).size = 1) /\
 (∀ v : V, (Z0 Tryz.prog 9 v).1 = ∃ s, v = .str s) /\
 (∀ v : V, (Z0 Tryz.prog 9 v).2 = .str (vst v)) /\
 (∀ h : 12 < Tryz.prog.types.size, (Tryz.prog.types[12]'h).size = 1) /\
 (∀ v : V, (Z0 Tryz.prog 12 v).1 = ∃ n, v = .int .u64 n) /\
 (∀ v : V, (Z0 Tryz.prog 12 v).2 = .int .u64 (vi v)) /\
 (∀ h : 20 < Tryz.prog.types.size, (Tryz.prog.types[20]'h).size = 1) /\
 (∀ h : 21 < Tryz.prog.types.size, (Tryz.prog.types[21]'h).size = 1) /\
 (∀ v : V, (Z0 Tryz.prog 21 v).1 = ∃ n, v = .int .i32 n) /\
 (∀ v : V, (Z0 Tryz.prog 21 v).2 = .int .i32 (vi v)) /\
 (∀ h : 22 < Tryz.prog.types.size, (Tryz.prog.types[22]'h).size = 1) /\
 (∀ v : V, (Z0 Tryz.prog 22 v).1 = ∃ n cs, v = .view n 2 cs) /\
 (∀ v : V, (Z0 Tryz.prog 22 v).2 = .view (vn v) 2 (vcs v)) /\
 (∀ h : 23 < Tryz.prog.types.size, (Tryz.prog.types[23]'h).size = 1) /\
 (∀ v : V, (Z0 Tryz.prog 23 v).1 = ∃ n cs, v = .view n 3 cs) /\
 (∀ v : V, (Z0 Tryz.prog 23 v).2 = .view (vn v) 3 (vcs v)) /\
 (∀ h : 24 < Tryz.prog.types.size, (Tryz.prog.types[24]'h).size = 1) /\
 (∀ v : V, (Z0 Tryz.prog 24 v).1 = ∃ n cs, v = .view n 1 cs) /\
 (∀ v : V, (Z0 Tryz.prog 24 v).2 = .view (vn v) 1 (vcs v)) /\
 (∀ h : 25 < Tryz.prog.types.size, (Tryz.prog.types[25]'h).size = 1) /\
 (∀ v : V, (Z0 Tryz.prog 25 v).1 = ∃ n cs, v = .view n 2 cs) /\
 (∀ v : V, (Z0 Tryz.prog 25 v).2 = .view (vn v) 2 (vcs v)) /\
 (∀ h : 26 < Tryz.prog.types.size, (Tryz.prog.types[26]'h).size = 1) /\
 (∀ v : V, (Z0 Tryz.prog 26 v).1 = ∃ n cs, v = .view n 3 cs) /\
 (∀ v : V, (Z0 Tryz.prog 26 v).2 = .view (vn v) 3 (vcs v)) /\
 (∀ h : 27 < Tryz.prog.types.size, (Tryz.prog.types[27]'h).size = 1) /\
 (∀ v : V, (Z0 Tryz.prog 27 v).1 = ∃ n cs, v = .view n 3 cs) /\
 (∀ v : V, (Z0 Tryz.prog 27 v).2 = .view (vn v) 3 (vcs v)) /\
 (∀ h : 28 < Tryz.prog.types.size, (Tryz.prog.types[28]'h).size = 1) /\
 (∀ v : V, (Z0 Tryz.prog 28 v).1 = ∃ n cs, v = .view n 2 cs) /\
 (∀ v : V, (Z0 Tryz.prog 28 v).2 = .view (vn v) 2 (vcs v)) /\
 (∀ h : 29 < Tryz.prog.types.size, (Tryz.prog.types[29]'h).size = 1) /\
 (∀ v : V, (Z0 Tryz.prog 29 v).1 = ∃ n cs, v = .view n 2 cs) /\
 (∀ v : V, (Z0 Tryz.prog 29 v).2 = .view (vn v) 2 (vcs v)) /\
 (∀ h : 30 < Tryz.prog.types.size, (Tryz.prog.types[30]'h).size = 1) /\
 (∀ v : V, (Z0 Tryz.prog 30 v).1 = ∃ n cs, v = .view n 2 cs) /\
 (∀ v : V, (Z0 Tryz.prog 30 v).2 = .view (vn v) 2 (vcs v)) /\
 (∀ h : 31 < Tryz.prog.types.size, (Tryz.prog.types[31]'h).size = 11) /\
 (∀ h : 32 < Tryz.prog.types.size, (Tryz.prog.types[32]'h).size = 11) /\
 (∀ h : 34 < Tryz.prog.types.size, (Tryz.prog.types[34]'h).size = 1) /\
 (∀ v : V, (Z0 Tryz.prog 34 v).1 = ∃ n cs, v = .view n 1 cs) /\
 (∀ v : V, (Z0 Tryz.prog 34 v).2 = .view (vn v) 1 (vcs v)) /\
 (∀ h : 35 < Tryz.prog.types.size, (Tryz.prog.types[35]'h).size = 1) /\
 (∀ v : V, (Z0 Tryz.prog 35 v).1 = ∃ n, v = .int .i64 n) /\
 (∀ v : V, (Z0 Tryz.prog 35 v).2 = .int .i64 (vi v)) /\
 (∀ h : 43 < Tryz.prog.types.size, (Tryz.prog.types[43]'h).size = 2) /\
 (∀ h : 44 < Tryz.prog.types.size, (Tryz.prog.types[44]'h).size = 2) /\
 (∀ h : 45 < Tryz.prog.types.size, (Tryz.prog.types[45]'h).size = 8) /\
 (∀ h : 46 < Tryz.prog.types.size, (Tryz.prog.types[46]'h).size = 3) /\
 (∀ h : 47 < Tryz.prog.types.size, (Tryz.prog.types[47]'h).size = 3) /\
 (∀ h : 48 < Tryz.prog.types.size, (Tryz.prog.types[48]'h).size = 1) /\
 (∀ v : V, (Z0 Tryz.prog 48 v).1 = ∃ n, v = .int .u64 n) /\
 (∀ v : V, (Z0 Tryz.prog 48 v).2 = .int .u64 (vi v)) /\
 (∀ h : 49 < Tryz.prog.types.size, (Tryz.prog.types[49]'h).size = 6) /\
 (∀ h : 50 < Tryz.prog.types.size, (Tryz.prog.types[50]'h).size = 6) /\
 (∀ h : 51 < Tryz.prog.types.size, (Tryz.prog.types[51]'h).size = 1) /\
 (∀ v : V, (Z0 Tryz.prog 51 v).1 = ∃ n cs, v = .view n 6 cs) /\
 (∀ v : V, (Z0 Tryz.prog 51 v).2 = .view (vn v) 6 (vcs v)) /\
 (∀ h : 52 < Tryz.prog.types.size, (Tryz.prog.types[52]'h).size = 2) /\
 (∀ h : 53 < Tryz.prog.types.size, (Tryz.prog.types[53]'h).size = 2) /\
 (∀ h : 54 < Tryz.prog.types.size, (Tryz.prog.types[54]'h).size = 3) /\
 (∀ h : 55 < Tryz.prog.types.size, (Tryz.prog.types[55]'h).size = 3) /\
 (∀ h : 56 < Tryz.prog.types.size, (Tryz.prog.types[56]'h).size = 2) /\
 (∀ h : 57 < Tryz.prog.types.size, (Tryz.prog.types[57]'h).size = 2) /\
 (∀ h : 58 < Tryz.prog.types.size, (Tryz.prog.types[58]'h).size = 2) /\
 (∀ h : 59 < Tryz.prog.types.size, (Tryz.prog.types[59]'h).size = 2) /\
 (∀ h : 76 < Tryz.prog.types.size, (Tryz.prog.types[76]'h).size = 2) /\
 (∀ h : 77 < Tryz.prog.types.size, (Tryz.prog.types[77]'h).size = 2) /\
 (∀ h : 81 < Tryz.prog.types.size, (Tryz.prog.types[81]'h).size = 3) /\
 (∀ h : 82 < Tryz.prog.types.size, (Tryz.prog.types[82]'h).size = 3) /\
 (∀ h : 95 < Tryz.prog.types.size, (Tryz.prog.types[95]'h).size = 1) /\
 (∀ h : 96 < Tryz.prog.types.size, (Tryz.prog.types[96]'h).size = 1) /\
 (∀ h : 98 < Tryz.prog.types.size, (Tryz.prog.types[98]'h).size = 1) /\
 (∀ h : 99 < Tryz.prog.types.size, (Tryz.prog.types[99]'h).size = 3) /\
 (∀ h : 100 < Tryz.prog.types.size, (Tryz.prog.types[100]'h).size = 3) /\
 (∀ h : 106 < Tryz.prog.types.size, (Tryz.prog.types[106]'h).size = 1) /\
 (∀ h : 140 < Tryz.prog.types.size, (Tryz.prog.types[140]'h).size = 1) /\
 (∀ h : 141 < Tryz.prog.types.size, (Tryz.prog.types[141]'h).size = 4) /\
 (∀ h : 142 < Tryz.prog.types.size, (Tryz.prog.types[142]'h).size = 4) /\
 (∀ h : 148 < Tryz.prog.types.size, (Tryz.prog.types[148]'h).size = 1) /\
 (∀ v : V, (Z0 Tryz.prog 148 v).1 = ∃ n, v = .int .u64 n) /\
 (∀ v : V, (Z0 Tryz.prog 148 v).2 = .int .u64 (vi v)) /\
 (∀ h : 150 < Tryz.prog.types.size, (Tryz.prog.types[150]'h).size = 256) /\
 (∀ h : 151 < Tryz.prog.types.size, (Tryz.prog.types[151]'h).size = 2) /\
 (∀ h : 152 < Tryz.prog.types.size, (Tryz.prog.types[152]'h).size = 2) /\
 (∀ h : 153 < Tryz.prog.types.size, (Tryz.prog.types[153]'h).size = 32) /\
 (∀ h : 168 < Tryz.prog.types.size, (Tryz.prog.types[168]'h).size = 5) /\
 (∀ h : 169 < Tryz.prog.types.size, (Tryz.prog.types[169]'h).size = 5) /\
 (∀ h : 179 < Tryz.prog.types.size, (Tryz.prog.types[179]'h).size = 1) /\
 (∀ v : V, (Z0 Tryz.prog 179 v).1 = ∃ n cs, v = .view n 5 cs) /\
 (∀ v : V, (Z0 Tryz.prog 179 v).2 = .view (vn v) 5 (vcs v)) /\
 (∀ h : 181 < Tryz.prog.types.size, (Tryz.prog.types[181]'h).size = 5) /\
 (∀ h : 182 < Tryz.prog.types.size, (Tryz.prog.types[182]'h).size = 5) /\
 (∀ h : 184 < Tryz.prog.types.size, (Tryz.prog.types[184]'h).size = 16) /\
 (∀ h : 185 < Tryz.prog.types.size, (Tryz.prog.types[185]'h).size = 16) /\
 (∀ h : 187 < Tryz.prog.types.size, (Tryz.prog.types[187]'h).size = 2) /\
 (∀ h : 188 < Tryz.prog.types.size, (Tryz.prog.types[188]'h).size = 2) /\
 (∀ h : 192 < Tryz.prog.types.size, (Tryz.prog.types[192]'h).size = 1) /\
 (∀ h : 193 < Tryz.prog.types.size, (Tryz.prog.types[193]'h).size = 4) /\
 (∀ h : 194 < Tryz.prog.types.size, (Tryz.prog.types[194]'h).size = 4) /\
 (∀ h : 206 < Tryz.prog.types.size, (Tryz.prog.types[206]'h).size = 1) /\
 (∀ h : 209 < Tryz.prog.types.size, (Tryz.prog.types[209]'h).size = 1) /\
 (∀ v : V, (Z0 Tryz.prog 209 v).1 = ∃ n cs, v = .view n 1 cs) /\
 (∀ v : V, (Z0 Tryz.prog 209 v).2 = .view (vn v) 1 (vcs v)) /\
 (∀ h : 216 < Tryz.prog.types.size, (Tryz.prog.types[216]'h).size = 1) /\
 (∀ v : V, (Z0 Tryz.prog 216 v).1 = ∃ n, v = .int .u32 n) /\
 (∀ v : V, (Z0 Tryz.prog 216 v).2 = .int .u32 (vi v)) /\
 (∀ h : 221 < Tryz.prog.types.size, (Tryz.prog.types[221]'h).size = 1) /\
 (∀ v : V, (Z0 Tryz.prog 221 v).1 = ∃ n, v = .int .i8 n) /\
 (∀ v : V, (Z0 Tryz.prog 221 v).2 = .int .i8 (vi v)) :=
 ⟨fun _ => by kernel_rfl, fun _ => rfl, fun _ => rfl, fun _ => by kernel_rfl, fun _ => rfl, fun _ => rfl, fun _ => by kernel_rfl, fun _ => rfl, fun _ => rfl, fun _ => by kernel_rfl, fun _ => rfl, fun _ => rfl, fun _ => by kernel_rfl, fun _ => rfl, fun _ => rfl, fun _ => by kernel_rfl, fun _ => rfl, fun _ => rfl, fun _ => by kernel_rfl, fun _ => by kernel_rfl, fun _ => rfl, fun _ => rfl, fun _ => by kernel_rfl, fun _ => rfl, fun _ => rfl, fun _ => by kernel_rfl, fun _ => rfl, fun _ => rfl, fun _ => by kernel_rfl, fun _ => rfl, fun _ => rfl, fun _ => by kernel_rfl, fun _ => rfl, fun _ => rfl, fun _ => by kernel_rfl, fun _ => rfl, fun _ => rfl, fun _ => by kernel_rfl, fun _ => rfl, fun _ => rfl, fun _ => by kernel_rfl, fun _ => rfl, fun _ => rfl, fun _ => by kernel_rfl, fun _ => rfl, fun _ => rfl, fun _ => by kernel_rfl, fun _ => rfl, fun _ => rfl, fun _ => by kernel_rfl, fun _ => by kernel_rfl, fun _ => by kernel_rfl, fun _ => rfl, fun _ => rfl, fun _ => by kernel_rfl, fun _ => rfl, fun _ => rfl, fun _ => by kernel_rfl, fun _ => by kernel_rfl, fun _ => by kernel_rfl, fun _ => by kernel_rfl, fun _ => by kernel_rfl, fun _ => by kernel_rfl, fun _ => rfl, fun _ => rfl, fun _ => by kernel_rfl, fun _ => by kernel_rfl, fun _ => by kernel_rfl, fun _ => rfl, fun _ => rfl, fun _ => by kernel_rfl, fun _ => by kernel_rfl, fun _ => by kernel_rfl, fun _ => by kernel_rfl, fun _ => by kernel_rfl, fun _ => by kernel_rfl, fun _ => by kernel_rfl, fun _ => by kernel_rfl, fun _ => by kernel_rfl, fun _ => by kernel_rfl, fun _ => by kernel_rfl, fun _ => by kernel_rfl, fun _ => by kernel_rfl, fun _ => by kernel_rfl, fun _ => by kernel_rfl, fun _ => by kernel_rfl, fun _ => by kernel_rfl, fun _ => by kernel_rfl, fun _ => by kernel_rfl, fun _ => by kernel_rfl, fun _ => by kernel_rfl, fun _ => by kernel_rfl, fun _ => rfl, fun _ => rfl, fun _ => by kernel_rfl, fun _ => by kernel_rfl, fun _ => by kernel_rfl, fun _ => by kernel_rfl, fun _ => by kernel_rfl, fun _ => by kernel_rfl, fun _ => by kernel_rfl, fun _ => rfl, fun _ => rfl, fun _ => by kernel_rfl, fun _ => by kernel_rfl, fun _ => by kernel_rfl, fun _ => by kernel_rfl, fun _ => by kernel_rfl, fun _ => by kernel_rfl, fun _ => by kernel_rfl, fun _ => by kernel_rfl, fun _ => by kernel_rfl, fun _ => by kernel_rfl, fun _ => by kernel_rfl, fun _ => rfl, fun _ => rfl, fun _ => by kernel_rfl, fun _ => rfl, fun _ => rfl, fun _ => by kernel_rfl, fun _ => rfl, fun _ => rfl⟩
end Go.Proofs.YtimhmpdfioihlaaGreatDoor
namespace Go.Proofs.YtimhmpdfioihlaaGreatDoor
open Go Go.Abs
theorem ZED : Zc Tryz.prog 12 = true := by kernel_rfl
theorem ZBW : Zc Tryz.prog 13 = true := by kernel_rfl
theorem ZEE : Zc Tryz.prog 14 = true := by kernel_rfl
theorem ZEF : Zc Tryz.prog 15 = true := by kernel_rfl
theorem ZEG : Zc Tryz.prog 46 = true := by kernel_rfl
theorem Zya : Zc Tryz.prog 47 = true := by kernel_rfl
theorem Zyb : Zc Tryz.prog 48 = true := by kernel_rfl
theorem ZCp : Zc Tryz.prog 49 = true := by kernel_rfl
theorem Zp5 : Zc Tryz.prog 50 = true := by kernel_rfl
theorem ZBX : Zc Tryz.prog 51 = true := by kernel_rfl
theorem ZEH : Zc Tryz.prog 52 = true := by kernel_rfl
theorem ZD4 : Zc Tryz.prog 53 = true := by kernel_rfl
theorem ZEI : Zc Tryz.prog 54 = true := by kernel_rfl
theorem ZBY : Zc Tryz.prog 55 = true := by kernel_rfl
theorem ZD5 : Zc Tryz.prog 56 = true := by kernel_rfl
theorem ZEJ : Zc Tryz.prog 59 = true := by kernel_rfl
theorem Zyc : Zc Tryz.prog 74 = true := by kernel_rfl
theorem ZD6 : Zc Tryz.prog 76 = true := by kernel_rfl
theorem ZEK : Zc Tryz.prog 77 = true := by kernel_rfl
theorem ZEL : Zc Tryz.prog 78 = true := by kernel_rfl
theorem ZEM : Zc Tryz.prog 79 = true := by kernel_rfl
theorem ZEN : Zc Tryz.prog 80 = true := by kernel_rfl
theorem ZEO : Zc Tryz.prog 81 = true := by kernel_rfl
theorem ZBZ : Zc Tryz.prog 82 = true := by kernel_rfl
theorem ZEP : Zc Tryz.prog 83 = true := by kernel_rfl
theorem ZEQ : Zc Tryz.prog 84 = true := by kernel_rfl
theorem ZD7 : Zc Tryz.prog 85 = true := by kernel_rfl
theorem ZER : Zc Tryz.prog 86 = true := by kernel_rfl
theorem ZES : Zc Tryz.prog 87 = true := by kernel_rfl
theorem ZET : Zc Tryz.prog 88 = true := by kernel_rfl
theorem ZEU : Zc Tryz.prog 89 = true := by kernel_rfl
theorem ZEV : Zc Tryz.prog 90 = true := by kernel_rfl
theorem ZEW : Zc Tryz.prog 91 = true := by kernel_rfl
theorem ZEX : Zc Tryz.prog 92 = true := by kernel_rfl
theorem ZEY : Zc Tryz.prog 93 = true := by kernel_rfl
theorem ZEZ : Zc Tryz.prog 94 = true := by kernel_rfl
theorem ZE0 : Zc Tryz.prog 95 = true := by kernel_rfl
theorem ZE1 : Zc Tryz.prog 96 = true := by kernel_rfl
theorem ZoL : Zc Tryz.prog 97 = true := by kernel_rfl
theorem Zyd : Zc Tryz.prog 98 = true := by kernel_rfl
theorem Zp6 : Zc Tryz.prog 99 = true := by kernel_rfl
theorem ZAh : Zc Tryz.prog 100 = true := by kernel_rfl
theorem Zvb : Zc Tryz.prog 101 = true := by kernel_rfl
theorem Zsf : Zc Tryz.prog 102 = true := by kernel_rfl
theorem ZCq : Zc Tryz.prog 103 = true := by kernel_rfl
theorem Zvc : Zc Tryz.prog 114 = true := by kernel_rfl
theorem Zvd : Zc Tryz.prog 115 = true := by kernel_rfl
theorem Zve : Zc Tryz.prog 116 = true := by kernel_rfl
theorem Zvf : Zc Tryz.prog 117 = true := by kernel_rfl
theorem Zj0 : Zc Tryz.prog 118 = true := by kernel_rfl
theorem Zsg : Zc Tryz.prog 119 = true := by kernel_rfl
theorem ZAi : Zc Tryz.prog 120 = true := by kernel_rfl
theorem ZCr : Zc Tryz.prog 121 = true := by kernel_rfl
theorem ZAj : Zc Tryz.prog 122 = true := by kernel_rfl
theorem ZAk : Zc Tryz.prog 123 = true := by kernel_rfl
theorem ZyM : Zc Tryz.prog 124 = true := by kernel_rfl
theorem Zvg : Zc Tryz.prog 125 = true := by kernel_rfl
theorem ZCs : Zc Tryz.prog 126 = true := by kernel_rfl
theorem ZCt : Zc Tryz.prog 127 = true := by kernel_rfl
theorem ZCu : Zc Tryz.prog 128 = true := by kernel_rfl
theorem ZCv : Zc Tryz.prog 136 = true := by kernel_rfl
theorem ZAl : Zc Tryz.prog 142 = true := by kernel_rfl
theorem ZCw : Zc Tryz.prog 143 = true := by kernel_rfl
theorem ZCx : Zc Tryz.prog 144 = true := by kernel_rfl
theorem ZCy : Zc Tryz.prog 146 = true := by kernel_rfl
theorem ZAm : Zc Tryz.prog 147 = true := by kernel_rfl
theorem ZCz : Zc Tryz.prog 148 = true := by kernel_rfl
theorem Zvh : Zc Tryz.prog 153 = true := by kernel_rfl
theorem Zvi : Zc Tryz.prog 154 = true := by kernel_rfl
theorem Zj1 : Zc Tryz.prog 155 = true := by kernel_rfl
theorem ZCA : Zc Tryz.prog 156 = true := by kernel_rfl
theorem ZCB : Zc Tryz.prog 157 = true := by kernel_rfl
theorem ZCC : Zc Tryz.prog 158 = true := by kernel_rfl
theorem ZCD : Zc Tryz.prog 160 = true := by kernel_rfl
theorem ZCE : Zc Tryz.prog 165 = true := by kernel_rfl
theorem ZAn : Zc Tryz.prog 166 = true := by kernel_rfl
theorem ZCF : Zc Tryz.prog 167 = true := by kernel_rfl
theorem ZCG : Zc Tryz.prog 170 = true := by kernel_rfl
theorem ZAo : Zc Tryz.prog 171 = true := by kernel_rfl
theorem ZAp : Zc Tryz.prog 172 = true := by kernel_rfl
theorem ZCH : Zc Tryz.prog 173 = true := by kernel_rfl
theorem ZCI : Zc Tryz.prog 174 = true := by kernel_rfl
end Go.Proofs.YtimhmpdfioihlaaGreatDoor
