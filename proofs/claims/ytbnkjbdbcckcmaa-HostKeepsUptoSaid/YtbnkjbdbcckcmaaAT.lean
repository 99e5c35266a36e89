/- A library of mine: regions that draw their order, walked order by order. -/
import Derived.Test.YtbnkjbdbcckcmaaV5
import Derived.Test.YtbnkjbdbcckcmaaPre
namespace Go.Abs
set_option linter.unusedSimpArgs false
set_option linter.unusedVariables false
open Go Go.RowKit

section
variable {P : Program} {C : Ctx} {st st' : St} {a : Act} {w : World} {l : List Oper} {o : Oper} {Q : Exit → St → Prop} {L : Array Bool} {n : Nat}

/-- what is left of a region, with what is done told -/
def AT (P : Program) (l : List Oper) (Q : Exit → St → Prop) (L : Array Bool) (n : Nat) (st : St) : Prop :=
  ∀ (C : Ctx) (a : Act) (w : World) (ls : List Nat), Lists l L ls → SRx C st a w → wpAny P .any l.toArray (AQ C Q) n L a w
theorem memL1 {p : Nat → Prop} {a : Nat} (h : p a) : ∀ j ∈ [a], p j := fun j hj => by rw [List.mem_singleton.1 hj]; exact h
theorem memL2 {p : Nat → Prop} {a b : Nat} (h : p a) (h2 : p b) : ∀ j ∈ [a, b], p j := fun j hj => by
  rcases List.mem_cons.1 hj with rfl | hj
  · exact h
  · exact memL1 h2 j hj
theorem memL3 {p : Nat → Prop} {a b c : Nat} (h : p a) (h2 : p b) (h3 : p c) : ∀ j ∈ [a, b, c], p j := fun j hj => by
  rcases List.mem_cons.1 hj with rfl | hj
  · exact h
  · exact memL2 h2 h3 j hj
/-- one operation; behind it X -/
def ATQ (Q : Exit → St → Prop) (X : St → Prop) : Exit → St → Prop := fun e s => match e with
  | .normal => X s
  | e => Q e s
theorem upon_eq {K : Act → World → Prop} {Q1 Q2 : Exit → Act → World → Prop} (h1 : ∀ c, Q1 (.panic c) = Q2 (.panic c)) (h2 : Q1 .outgrown = Q2 .outgrown) (r : Result Next) : o.upon P a K Q1 r = o.upon P a K Q2 r := by
  have h3 : LetsOut Q1 = LetsOut Q2 := by unfold LetsOut; rw [h2]
  unfold Oper.upon
  split <;> simp only [h1, h3]
theorem wpList_one {X : St → Prop} {K : Act → World → Prop} {i : Nat} (hK : ∀ a w, (∃ s, X s ∧ SRx C s a w) → K a w) (ho : l[i]? = some o) (h : wpList P l.toArray (AQ C (ATQ Q X)) [o] a w) : wpOp P l.toArray (AQ C Q) i K a w := by
  unfold wpOp
  rw [show l.toArray[i]? = some o from by simpa using ho]
  simp only
  have h : (if Region.wanted o (yielded l.toArray a.tmps) then o.wp P a w (wpList P l.toArray (AQ C (ATQ Q X)) []) (AQ C (ATQ Q X)) ∨ (o.asks P a w ∧ LetsOut (AQ C (ATQ Q X))) else wpList P l.toArray (AQ C (ATQ Q X)) [] (a.put o.dst undef) w) := h
  have hk : ∀ a w, wpList P l.toArray (AQ C (ATQ Q X)) [] a w → K a w := fun a w ⟨s, hs, hr⟩ => hK a w ⟨s, hs, hr⟩
  split at h
  · rename_i hw
    rw [if_pos hw]
    rcases h with h | ⟨h1, h2⟩
    · refine .inl (Oper.wp_mono hk ?_)
      unfold Oper.wp at h ⊢
      have e := upon_eq (P := P) (o := o) (a := a) (K := wpList P l.toArray (AQ C (ATQ Q X)) []) (Q1 := AQ C (ATQ Q X)) (Q2 := AQ C Q) (fun _ => rfl) rfl ((execOp a.eval o).run P w)
      rw [e] at h
      exact h
    · exact .inr ⟨h1, h2⟩
  · rename_i hw
    rw [if_neg hw]
    exact hk _ _ h
theorem AW.drawT {id : Nat} {L0 : Array Bool} (hL : Array.replicate l.length false = L0) (hm : P.follows .mixedOrders = true) (h : AT P l Q L0 l.length st) : AW P (.region id l.toArray true) Q st := fun C a w hs => by
  subst hL
  refine wp_region_any hm ?_
  have hsz : l.toArray.size = l.length := by simp
  rw [hsz]
  have hnone0 : ∀ j, ¬ LS (Array.replicate l.length false) j := fun j hL => by
    unfold LS at hL
    simp only [Array.getD_eq_getD_getElem?, Array.getElem?_replicate] at hL
    split at hL <;> cases hL
  obtain ⟨S, β, hs⟩ := hs
  refine h C a _ [] ⟨by simp, List.nodup_nil, fun j => ?_, fun j hj => (by cases hj), fun i o _ hL => absurd hL (hnone0 _)⟩ (hs.drawn _)
  constructor
  · intro h; cases h
  · intro h; exact absurd h (hnone0 _)
/-- any of those that may be next -/
theorem AT.step (R : List Nat) (hR : Region.ready .any l.toArray L = R) (hne : R ≠ [])
    (h : ∀ i ∈ R, ∃ o L', l[i]? = some o ∧ L.setIfInBounds i true = L' ∧ AWL P l.toArray [o] (ATQ Q (AT P l Q L' n)) st) : AT P l Q L (n + 1) st := fun C a w ls hl hs => by
  refine wpAny_all hR hne fun i hi => ?_
  obtain ⟨o, L', ho, rfl, hA⟩ := h i hi
  have hi' : i ∈ Region.ready .any l.toArray L := by rw [hR]; exact hi
  exact wpList_one (fun a' w' ⟨s, h1, h2⟩ => h1 C a' w' _ (hl.step hi') h2) ho (hA C a w hs)
theorem AT.done (hR : Region.ready .any l.toArray L = []) (h : Q .normal st) : AT P l Q L n st := fun C a w ls hl hs => wpAny_done hR ⟨st, h, hs⟩ n
theorem hpanT (hpan : PanOk Q) {d : Nat} {v : Value} : ∀ c (a : Act) (w : World), AQ C Q (.panic c) (a.put (some d) v) w → AQ C Q (.panic c) a w := fun c a w ⟨s, hq, S, β, hs⟩ => ⟨_, hpan c s d hq, S, β, hs.unput⟩
/-- a variable that is read may be read first -/
theorem AT.takeM (i : Nat) {L' : Array Bool} {d : Nat} {x : Operand} (ho : l[i]? = some o) (hg : o.guard = none) (hd : o.dst = some d) (hop : o.op = .move x) (hdn : Nat.ble (d + 1) st.n = true) (hpan : PanOk Q)
    (hchk : (Region.noSelect l.toArray && Region.free .any l.toArray L i && (Region.ready .any l.toArray L).contains i) = true) (hL : L.setIfInBounds i true = L') (h : AT P l Q L' n (st.put d (st.ev x))) : AT P l Q L (n + 1) st := fun C a w ls hl ⟨S, β, hs⟩ => by
  subst hL
  simp only [Bool.and_eq_true] at hchk
  refine wpAny_take (v := a.eval x) (by simpa using ho) hchk.1.1 hchk.1.2 hchk.2 ?_ (.inl ⟨by simp [Region.wanted, hg], fun w => ?_⟩) ?_
  · rw [hd]; exact hpanT hpan
  · unfold execOp; simp [hop]
  · rw [hd]
    exact h C _ w _ (hl.step (by simpa using hchk.2)) ⟨S, β, hs.put (Nat.le_of_ble_eq_true hdn) (ev_VR hs x)⟩
/-- a part of an answer may be taken out first -/
theorem AT.takeX (i : Nat) {L' : Array Bool} {d k : Nat} {x : Operand} {vs : List V} {v : V} (ho : l[i]? = some o) (hg : o.guard = none) (hd : o.dst = some d) (hop : o.op = .extract x k) (hx : st.ev x = .tup vs) (hv : vs[k]? = some v) (hdn : Nat.ble (d + 1) st.n = true) (hpan : PanOk Q)
    (hchk : (Region.noSelect l.toArray && Region.free .any l.toArray L i && (Region.ready .any l.toArray L).contains i) = true) (hL : L.setIfInBounds i true = L') (h : AT P l Q L' n (st.put d v)) : AT P l Q L (n + 1) st := fun C a w ls hl ⟨S, β, hs⟩ => by
  subst hL
  simp only [Bool.and_eq_true] at hchk
  have h0 := ev_VR hs x
  rw [hx] at h0
  generalize hu : a.eval x = u at h0
  cases h0 with
  | flat h0 => cases h0
  | tup _ us hlen hr =>
    have hk : k < us.size := by rw [← hlen]; exact (List.getElem?_eq_some_iff.1 hv).1
    refine wpAny_take (v := us[k]) (by simpa using ho) hchk.1.1 hchk.1.2 hchk.2 ?_ (.inl ⟨by simp [Region.wanted, hg], fun w => ?_⟩) ?_
    · rw [hd]; exact hpanT hpan
    · unfold execOp; simp [hop, hu, Instr.extract, hk]
    · rw [hd]
      exact h C _ w _ (hl.step (by simpa using hchk.2)) ⟨S, β, hs.put (Nat.le_of_ble_eq_true hdn) (hr k v _ hv (by simp [hk]))⟩
/-- so may a pointer that isn't nil -/
theorem AT.takeN (i : Nat) {L' : Array Bool} {d k off : Nat} {x : Operand} (ho : l[i]? = some o) (hg : o.guard = none) (hd : o.dst = some d) (hop : o.op = .nilCheck x) (hx : st.ev x = .ptr k off) (hdn : Nat.ble (d + 1) st.n = true) (hpan : PanOk Q)
    (hchk : (Region.noSelect l.toArray && Region.free .any l.toArray L i && (Region.ready .any l.toArray L).contains i) = true) (hL : L.setIfInBounds i true = L') (h : AT P l Q L' n (st.put d (.ptr k off))) : AT P l Q L (n + 1) st := fun C a w ls hl ⟨S, β, hs⟩ => by
  subst hL
  simp only [Bool.and_eq_true] at hchk
  have h0 := ev_VR hs x
  rw [hx] at h0
  obtain ⟨bi, hbi, hu⟩ := VR.ptr_inv h0
  refine wpAny_take (v := .pointer (some ⟨bi.blk, bi.off + off, none⟩)) (by simpa using ho) hchk.1.1 hchk.1.2 hchk.2 ?_ (.inl ⟨by simp [Region.wanted, hg], fun w => ?_⟩) ?_
  · rw [hd]; exact hpanT hpan
  · unfold execOp; simp [hop, hu]
  · rw [hd]
    exact h C _ w _ (hl.step (by simpa using hchk.2)) ⟨S, β, hs.put (Nat.le_of_ble_eq_true hdn) (.ptr k off bi hbi)⟩
/-- by a state between -/
theorem AT.via (L1 : Array Bool) (n1 : Nat) (s1 : St) (h1 : AT P l Q L1 n1 s1) (h2 : AT P l Q L1 n1 s1 → AT P l Q L n st) : AT P l Q L n st := h2 h1
theorem AT.keep (is ks : List Nat) (h : AT P l Q L n (st.keep is ks)) : AT P l Q L n st := fun C a w ls hl ⟨S, β, hs⟩ => h C a w ls hl ⟨S, β, hs.keep is ks⟩
end
end Go.Abs
