/- The document's tape: text, kind. -/
import Derived.Test.YtimhmpdfioihlaaGreatDoorDP
import Derived.Test.YtimhmpdfioihlaaGreatDoorGWords
import Derived.Test.YtimhmpdfioihlaaGreatDoorGCB
import Derived.Test.YtimhmpdfioihlaaGreatDoorGRS
import Derived.Test.YtimhmpdfioihlaaGreatDoorGMSec
set_option linter.unusedSimpArgs false
set_option linter.unusedVariables false
set_option maxHeartbeats 12800000
namespace Go.Proofs.YtimhmpdfioihlaaGreatDoor
set_option maxRecDepth 20000
open Go Go.Abs Nat
attribute [local irreducible] AW AWL AC FW CW CWr IntKind.wrap
section
structure okQ (xs : List Int) (t : Tq) : Prop where
 p0 : 0 <= t.p
 p1 : t.p <= xs.length
theorem Zc1 (t : Tq) (e : Int) : (Za2 t e).p = t.p := by unfold Za2; split <;> rfl
theorem Zhd (c : Bool) (t : Tq) : (Z5 c t).p = t.p := by unfold Z5; split; rfl; exact Zc1 t 10
theorem Zus {xs : List Int} {t : Tq} (h : 0 <= t.p /\ t.p <= xs.length) : t.p <= (ZbZ xs t).2.p /\ (ZbZ xs t).2.p <= xs.length := by
 unfold ZbZ
 split
 ·rw [Zc1]; exact ⟨Int.le_refl _, h.2⟩
 ·rename_i c
  simp only; omega
theorem Zgz {xs : List Int} (hb : bytes xs) {t : Tq} (h : 0 <= t.p /\ t.p <= xs.length) : (t.p <= (Zaj xs t).2.p /\ (Zaj xs t).2.p <= xs.length) /\ 0 <= (Zaj xs t).1 /\ (Zaj xs t).1 < 4294967296 := by
 unfold Zaj
 split
 ·exact ⟨⟨Int.le_refl _, h.2⟩, by simp⟩
 ·split
  ·rw [Zc1]; exact ⟨⟨Int.le_refl _, h.2⟩, by simp⟩
  ·rename_i c
   unfold Zar at c ⊢
   by_cases hz : (ZaM xs t.p 32).2.2 ≠ 0
   ·rw [if_pos hz] at c; exact absurd (by decide) c
   ·have := ZaO hb h (Classical.not_not.1 hz)
    rw [if_neg hz]
    exact ⟨⟨by simp only; omega, this.2.2⟩, this.1⟩
open MB
theorem ZDH.cl {p : Prop} (h : p := by
 first
  | refine AWL.cM (f := 118) [(0, 0)] Zj0 rfl rfl rfl rfl rfl rfl rfl (hfail) ?_
  | refine AWL.cM (f := 118) [(0, 0)] Zj0 rfl rfl rfl rfl rfl rfl rfl (hfail2) ?_
  | refine AWL.cM (f := 99) [(0, 0)] Zp6 rfl rfl rfl rfl rfl rfl rfl (hnum) ?_
  | refine AWL.frzG rfl rfl rfl ?_
 all_goals (apply_rules (newGoals := .nonDependentOnly) only [dep]; exact ())) : p := h
theorem ZDI.cl {p : Prop} (h : p := by
 first
  | refine AWL.cM (f := 118) [(0, 0)] Zj0 rfl rfl rfl rfl rfl rfl rfl (hfail) ?_
  | refine AWL.cM (f := 118) [(0, 0)] Zj0 rfl rfl rfl rfl rfl rfl rfl (hfail2) ?_
  | refine AWL.cM (f := 98) [(0, 0)] Zyd rfl rfl rfl rfl rfl rfl rfl (hone) ?_
  | refine AWL.cM (f := 97) [(0, 0)] ZoL rfl rfl rfl rfl rfl rfl rfl (hmust) ?_
  | refine AWL.frzG rfl rfl rfl ?_
 all_goals (apply_rules (newGoals := .nonDependentOnly) only [dep]; exact ())) : p := h
open ZDH ZiL ZFE ZiP in
theorem ZpC {b : List Int} {en : Nat} {t : Tq} (h : okT b t.p en) : UF 120 [] b en t (.view (ZcD (b.take en) t).1.length 1 (Zh .u8 (ZcD (b.take en) t).1)) (ZcD (b.take en) t).2 := by
 have hnum := Zb0 h
 have hnp := Zgz h.byt (t := t) ⟨h.p0, by rw [h.len]; exact h.p1⟩
 have hlen := h.len
 have he := h.he
 have hl := h.hl
 have h0 := h.p0
 obtain ⟨A, hA⟩ : ∃ A, ZcD (b.take en) t = A := ⟨_, rfl⟩
 rw [hA]
 unfold ZcD at hA
 rw [hlen] at hA hnp
 generalize Zaj (b.take en) t = z at hnum hA hnp
 obtain ⟨n, t1⟩ := z
 have hfail := Zdg b en t1 10
 have hfail2 : True := trivial
 have hone : True := trivial
 have hmust : True := trivial
 have htext : True := trivial
 have hutf : True := trivial
 obtain ⟨p, er⟩ := t
 obtain ⟨p1, e1⟩ := t1
 simp only at hA hnp h0
 unfold UF rtM at *
 clear h
 refine AM.enter Tryz.func120 rfl (Yaa rfl) (fun pn => ?_)
 simp only [Tryz.f120]
 have ew : IntKind.i64.wrap ((en : Int) - p1) = (en : Int) - p1 := Zb _ (by omega) (by omega)
 by_cases c : e1 = 0 /\ n > en - p1
 ·rw [if_pos c] at hA
  subst hA
  obtain ⟨rfl, c⟩ := c
  rw [show Za2 ⟨p1, 0⟩ 10 = ⟨p1, 10⟩ from rfl] at hfail ⊢
  have nx := aI @ew trivial
  refine' Zks
  all_goals first | exact ⟨trivial, trivial⟩ | exact ⟨rfl, trivial⟩ | exact ⟨rfl, rfl⟩ | exact ⟨trivial, rfl⟩ | (exfalso; omega) | trace_state
 rw [if_neg c] at hA
 by_cases c2 : e1 ≠ 0
 ·rw [if_pos c2] at hA
  subst hA
  have nx := aI @ew trivial
  refine' Zks
  all_goals first | exact ⟨trivial, trivial⟩ | exact ⟨rfl, trivial⟩ | exact ⟨rfl, rfl⟩ | exact ⟨trivial, rfl⟩ | (exfalso; omega) | trace_state
 ·rw [if_neg c2] at hA
  subst hA
  have c3 : e1 = 0 := Classical.not_not.1 c2
  subst c3
  have c4 : ¬ (n > (en : Int) - p1) := fun h => c ⟨rfl, h⟩
  obtain ⟨s, rfl⟩ : ∃ s : Nat, p1 = s := ⟨p1.toNat, by omega⟩
  obtain ⟨k, rfl⟩ : ∃ k : Nat, n = k := ⟨n.toNat, by omega⟩
  have ew3 : IntKind.i64.wrap ((s : Int) + (k : Int)) = (s : Int) + k := Zb _ (by omega) (by omega)
  have nx := aI @ew (aI @ew3 trivial)
  refine' Zks
  all_goals exact ⟨(Zpm (en := en) (by omega) (by omega)).trans (by rw [show ((s : Int) + (k : Int) - (s : Int)).toNat = k by omega]), trivial⟩
open ZDI ZcA ZFE ZiP in
theorem ZkM {b : List Int} {en : Nat} {t : Tq} (h : okT b t.p en) : UF 124 [] b en t (.int .i64 (Zc0 (b.take en) t).1) (Zc0 (b.take en) t).2 := by
 have hone := Zec h
 have hnum : True := trivial
 have hfail2 : True := trivial
 have htext : True := trivial
 have hutf : True := trivial
 obtain ⟨A, hA⟩ : ∃ A, Zc0 (b.take en) t = A := ⟨_, rfl⟩
 rw [hA]
 unfold Zc0 at hA
 generalize ZbZ (b.take en) t = z at hone hA
 obtain ⟨c, t1⟩ := z
 simp only at hA
 have hfail := Zdg b en t1 11
 by_cases c1 : c = 125 \/ c = 124
 ·rw [if_pos c1] at hA
  have hmust := Zae b en (Za2 t1 11) (decide (c = 127 \/ c = 126 \/ c = 123))
  rw [show decide (c = 127 \/ c = 126 \/ c = 123) = false from Yaf (by omega)] at hA hmust
  generalize Za2 t1 11 = t2 at hA hfail hmust
  generalize Z5 false t2 = t3 at hA hmust
  subst hA
  obtain ⟨p, e⟩ := t
  obtain ⟨p1, e1⟩ := t1
  obtain ⟨p2, e2⟩ := t2
  obtain ⟨p3, e3⟩ := t3
  unfold UF rtM at *
  clear h
  rcases c1 with rfl | rfl
  all_goals
   refine AM.enter Tryz.func124 rfl (Yaa rfl) (fun pn => ?_)
   simp only [Tryz.f124]
   have nx := trivial
   refine' ZbV
   all_goals first | exact ⟨trivial, trivial⟩ | exact ⟨rfl, trivial⟩ | exact ⟨rfl, rfl⟩ | exact ⟨trivial, rfl⟩ | (exfalso; omega) | trace_state
 ·rw [if_neg c1] at hA
  have hmust := Zae b en t1 (decide (c = 127 \/ c = 126 \/ c = 123))
  generalize hB : decide (c = 127 \/ c = 126 \/ c = 123) = B at hA hmust
  generalize Z5 B t1 = t3 at hA hmust
  subst hA
  obtain ⟨p, e⟩ := t
  obtain ⟨p1, e1⟩ := t1
  obtain ⟨p3, e3⟩ := t3
  unfold UF rtM at *
  clear h
  have d4 : (c == 125) = false := by rw [Yam]; omega
  have d5 : (c == 124) = false := by rw [Yam]; omega
  by_cases c2 : c = 127 \/ c = 126 \/ c = 123
  ·rw [Yae c2] at hB
   subst hB
   rcases c2 with rfl | rfl | rfl
   all_goals
    refine AM.enter Tryz.func124 rfl (Yaa rfl) (fun pn => ?_)
    simp only [Tryz.f124]
    have nx := trivial
    refine' ZbV
    all_goals first | exact ⟨trivial, trivial⟩ | exact ⟨rfl, trivial⟩ | exact ⟨rfl, rfl⟩ | exact ⟨trivial, rfl⟩ | (exfalso; omega) | trace_state
  ·rw [Yaf c2] at hB
   subst hB
   have d1 : (c == 127) = false := by rw [Yam]; omega
   have d2 : (c == 126) = false := by rw [Yam]; omega
   have d3 : (c == 123) = false := by rw [Yam]; omega
   refine AM.enter Tryz.func124 rfl (Yaa rfl) (fun pn => ?_)
   simp only [Tryz.f124]
   have nx := aI @d1 (aI @d2 (aI @d3 (aI @d4 (aI @d5 trivial))))
   refine' ZbV
   all_goals first | exact ⟨trivial, trivial⟩ | exact ⟨rfl, trivial⟩ | exact ⟨rfl, rfl⟩ | exact ⟨trivial, rfl⟩ | (exfalso; omega) | trace_state
end
end Go.Proofs.YtimhmpdfioihlaaGreatDoor
