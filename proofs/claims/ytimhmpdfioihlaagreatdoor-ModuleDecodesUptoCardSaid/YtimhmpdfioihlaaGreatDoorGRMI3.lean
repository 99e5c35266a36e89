/- The document's tape: item, case 7. -/
import Derived.Test.YtimhmpdfioihlaaGreatDoorDP
import Derived.Test.YtimhmpdfioihlaaGreatDoorGWords
import Derived.Test.YtimhmpdfioihlaaGreatDoorGCB
import Derived.Test.YtimhmpdfioihlaaGreatDoorGMSec
import Derived.Test.YtimhmpdfioihlaaGreatDoorGRMI2
set_option linter.unusedSimpArgs false
set_option linter.unusedVariables false
set_option maxHeartbeats 12800000
namespace Go.Proofs.YtimhmpdfioihlaaGreatDoor
set_option maxRecDepth 20000
open Go Go.Abs Nat
attribute [local irreducible] AW AWL AC FW CW CWr IntKind.wrap
open MB
theorem ZBI.cl {p : Prop} (h : p := by
 first
  | refine AWL.cM (f := 101) [(0, 0)] Zvb rfl rfl rfl rfl rfl rfl rfl (hc0) ?_
  | refine AWL.cM (f := 98) [(0, 0)] Zyd rfl rfl rfl rfl rfl rfl rfl (hc1) ?_
  | refine AWL.cM (f := 97) [(0, 0)] ZoL rfl rfl rfl rfl rfl rfl rfl (hc2) ?_
  | refine AWL.cM (f := 99) [(0, 0)] Zp6 rfl rfl rfl rfl rfl rfl rfl (hc3) ?_
 all_goals (apply_rules (newGoals := .nonDependentOnly) only [dep]; exact ())) : p := h
open ZBI Zca ZFD Zs5 in
theorem ZBJ {b : List Int} {en : Nat} {t : Tq} (h : okT b t.p en) (m : Mod) (hl : m.exports.length <= 512) : AM Tryz.prog 103 [.ptr 0 0, .int .i64 7, .ptr 1 0] (rtM 0 b en t ++ ((1, ⟨false, mdC 2000 m⟩) :: mdL 2000 m)) [0, 1] (fun r mm => r = .tup [] /\ mm = rtM 0 b en (ZqH (b.take en) t).2 ++ ((1, ⟨false, mdC 2000 { m with exports := m.exports ++ [(ZqH (b.take en) t).1] }⟩) :: mdL 2000 { m with exports := m.exports ++ [(ZqH (b.take en) t).1] })) := by
 have hcut : List.take (m.exports.length * 3) (m.exports.flatMap Zhq) = m.exports.flatMap Zhq := Yad (by rw [Zq Zfi]; omega)
 unfold ZqH ZaV
 have hc0 := ZhX h
 have hk1 := h.mvs (Zhf h.byt)
 generalize ZeV (b.take en) t = z at hc0 hk1 ⊢
 obtain ⟨w0, t1⟩ := z
 simp only at hc0 hk1 ⊢
 obtain ⟨xn, rfl⟩ : ∃ x, x = w0 := ⟨_, rfl⟩
 have hc1 := Zec hk1
 have hk2 := hk1.mvs ZdE
 generalize ZbZ (b.take en) t1 = z at hc1 hk2 ⊢
 obtain ⟨w1, t2⟩ := z
 simp only at hc1 hk2 ⊢
 obtain ⟨c, rfl⟩ : ∃ x, x = w1 := ⟨_, rfl⟩
 have hc2 := Zae b en t2 (decide (c <= 3))
 have hk3 := hk2.mu (decide (c <= 3))
 generalize Z5 (decide (c <= 3)) t2 = t3 at hc2 hk3 ⊢
 have hc3 := Zb0 hk3
 have hk4 := hk3.mvs (ZdF h.byt)
 generalize Zaj (b.take en) t3 = z at hc3 hk4 ⊢
 obtain ⟨w3, t4⟩ := z
 simp only at hc3 hk4 ⊢
 obtain ⟨xi, rfl⟩ : ∃ x, x = w3 := ⟨_, rfl⟩
 have hl2 : (m.exports ++ [(⟨xn, c, xi⟩ : Zmg)]).length = m.exports.length + 1 := by simp
 have hs2 : m.exports.flatMap Zhq ++ [.str xn, .int .i64 c, .int .i64 xi] = (m.exports ++ [(⟨xn, c, xi⟩ : Zmg)]).flatMap Zhq := (Zai (f := Zhq) m.exports (⟨xn, c, xi⟩ : Zmg)).symm
 unfold mdC mdL
 simp only [hl2]
 rw [<- hs2]
 obtain ⟨p0, e0⟩ := t
 obtain ⟨p1, e1⟩ := t1
 obtain ⟨p2, e2⟩ := t2
 obtain ⟨p3, e3⟩ := t3
 obtain ⟨p4, e4⟩ := t4
 unfold UF rtM at *
 simp only [List.cons_append, List.nil_append, Nat.reduceAdd] at *
 clear hk1 hk2 hk3 hk4
 refine AM.enter Tryz.func103 rfl (Yaa rfl) (fun pn => ?_)
 simp only [Tryz.f103]
 have nx := trivial
 refine' Zv0
 refine AW.drawT (L0 := (bA 11 0)) (by decide +kernel) ZfU ?_
 have nx := aI @hcut trivial
 refine' Zck
 all_goals
  (repeat (first | refine QEq.mp (by assumption) ?_ | simp only [Zb1, Go.Abs.blockQ, ↓reduceIte, Nat.reduceEqDiff]))
  have nx := trivial
  refine' Zcj
  all_goals first | exact ⟨trivial, trivial⟩ | exact ⟨rfl, trivial⟩ | exact ⟨rfl, rfl⟩ | exact ⟨trivial, rfl⟩ | (exfalso; omega) | trace_state
theorem ZBM.cl {p : Prop} (h : p := by
 first
  | refine AWL.cM (f := 99) [(0, 0)] Zp6 rfl rfl rfl rfl rfl rfl rfl (hc0) ?_
 all_goals (apply_rules (newGoals := .nonDependentOnly) only [dep]; exact ())) : p := h
open ZBM Zca ZFG Zl in
theorem ZBN {b : List Int} {en : Nat} {t : Tq} (h : okT b t.p en) (m : Mod) (hl : m.funcs.length <= 512) : AM Tryz.prog 103 [.ptr 0 0, .int .i64 3, .ptr 1 0] (rtM 0 b en t ++ ((1, ⟨false, mdC 2000 m⟩) :: mdL 2000 m)) [0, 1] (fun r mm => r = .tup [] /\ mm = rtM 0 b en (Zaj (b.take en) t).2 ++ ((1, ⟨false, mdC 2000 { m with funcs := m.funcs ++ [(Zaj (b.take en) t).1] }⟩) :: mdL 2000 { m with funcs := m.funcs ++ [(Zaj (b.take en) t).1] })) := by
 have hcut : List.take m.funcs.length (Zh .i64 m.funcs) = Zh .i64 m.funcs := Yad (by rw [Za]; exact Nat.le_refl _)
 have hc0 := Zb0 h
 have hk1 := h.mvs (ZdF h.byt)
 generalize Zaj (b.take en) t = z at hc0 hk1 ⊢
 obtain ⟨w0, t1⟩ := z
 simp only at hc0 hk1 ⊢
 obtain ⟨c, rfl⟩ : ∃ x, x = w0 := ⟨_, rfl⟩
 have hl2 : (m.funcs ++ [c]).length = m.funcs.length + 1 := by simp
 unfold mdC mdL
 simp only [hl2]
 obtain ⟨p0, e0⟩ := t
 obtain ⟨p1, e1⟩ := t1
 unfold UF rtM at *
 simp only [List.cons_append, List.nil_append, Nat.reduceAdd] at *
 clear hk1
 refine AM.enter Tryz.func103 rfl (Yaa rfl) (fun pn => ?_)
 simp only [Tryz.f103]
 have nx := trivial
 refine' ZvW
 refine AW.drawT (L0 := (bA 12 0)) (by decide +kernel) ZfU ?_
 have nx := aI @hcut trivial
 refine' Zck
 all_goals
  (repeat (first | refine QEq.mp (by assumption) ?_ | simp only [Zb1, Go.Abs.blockQ, ↓reduceIte, Nat.reduceEqDiff]))
  have nx := trivial
  refine' Zcj
  all_goals first | exact ⟨trivial, trivial⟩ | exact ⟨rfl, trivial⟩ | exact ⟨rfl, rfl⟩ | exact ⟨trivial, rfl⟩ | (exfalso; omega) | trace_state
end Go.Proofs.YtimhmpdfioihlaaGreatDoor
