/- The document's tape: item, case 6. -/
import Derived.Test.YtimhmpdfioihlaaGreatDoorDP
import Derived.Test.YtimhmpdfioihlaaGreatDoorGWords
import Derived.Test.YtimhmpdfioihlaaGreatDoorGCB
import Derived.Test.YtimhmpdfioihlaaGreatDoorGRMI5
import Derived.Test.YtimhmpdfioihlaaGreatDoorGMSec
import Derived.Test.YtimhmpdfioihlaaGreatDoorGRMI2
set_option linter.unusedSimpArgs false
set_option linter.unusedVariables false
set_option maxHeartbeats 12800000
namespace Go.Proofs.YtimhmpdfioihlaaGreatDoor
set_option maxRecDepth 20000
open Go Go.Abs Nat
attribute [local irreducible] AW AWL AC FW CW CWr IntKind.wrap
open MB
theorem ZBG.cl {p : Prop} (h : p := by
 first
  | refine AWL.cM (f := 124) [(0, 0)] ZyM rfl rfl rfl rfl rfl rfl rfl (hc0) ?_
  | refine AWL.cM (f := 98) [(0, 0)] Zyd rfl rfl rfl rfl rfl rfl rfl (hc1) ?_
  | refine AWL.cM (f := 97) [(0, 0)] ZoL rfl rfl rfl rfl rfl rfl rfl (hc2) ?_
  | refine AWL.cM (f := 125) [(0, 0)] Zvg rfl rfl rfl rfl rfl rfl rfl (hc3) ?_
 all_goals (apply_rules (newGoals := .nonDependentOnly) only [dep]; exact ())) : p := h
open ZBG Zca ZFD Zs4 in
theorem ZBH {b : List Int} {en : Nat} {t : Tq} (h : okT b t.p en) (m : Mod) (hl : m.globals.length <= 512) : AM Tryz.prog 103 [.ptr 0 0, .int .i64 6, .ptr 1 0] (rtM 0 b en t ++ ((1, ⟨false, mdC 2000 m⟩) :: mdL 2000 m)) [0, 1] (fun r mm => r = .tup [] /\ mm = rtM 0 b en (Zg9 (b.take en) t).2 ++ ((1, ⟨false, mdC 2000 { m with globals := m.globals ++ [(Zg9 (b.take en) t).1] }⟩) :: mdL 2000 { m with globals := m.globals ++ [(Zg9 (b.take en) t).1] })) := by
 have hcut : List.take (m.globals.length * 3) (m.globals.flatMap Zcd) = m.globals.flatMap Zcd := Yad (by rw [Zq ZeQ]; omega)
 unfold Zg9 ZaV
 have hc0 := ZkM h
 have hk1 := h.mvs ZnS
 generalize Zc0 (b.take en) t = z at hc0 hk1 ⊢
 obtain ⟨w0, t1⟩ := z
 simp only at hc0 hk1 ⊢
 obtain ⟨xt, rfl⟩ : ∃ x, x = w0 := ⟨_, rfl⟩
 have hc1 := Zec hk1
 have hk2 := hk1.mvs ZdE
 generalize ZbZ (b.take en) t1 = z at hc1 hk2 ⊢
 obtain ⟨w1, t2⟩ := z
 simp only at hc1 hk2 ⊢
 obtain ⟨c, rfl⟩ : ∃ x, x = w1 := ⟨_, rfl⟩
 have hc2 := Zae b en t2 (decide (c <= 1))
 have hk3 := hk2.mu (decide (c <= 1))
 generalize Z5 (decide (c <= 1)) t2 = t3 at hc2 hk3 ⊢
 have hc3 := ZhY hk3
 have hk4 := hk3.mvs (Zhg h.byt)
 generalize ZbP (b.take en) t3 = z at hc3 hk4 ⊢
 obtain ⟨w3, t4⟩ := z
 simp only at hc3 hk4 ⊢
 obtain ⟨xc, rfl⟩ : ∃ x, x = w3 := ⟨_, rfl⟩
 unfold ZkG at hc3
 have hl2 : (m.globals ++ [(⟨xt, c == 1, xc⟩ : ZeM)]).length = m.globals.length + 1 := by simp
 have hs2 : m.globals.flatMap Zcd ++ [.int .i64 xt, .bool (c == 1), .view xc.length 6 (Zah xc)] = (m.globals ++ [(⟨xt, c == 1, xc⟩ : ZeM)]).flatMap Zcd := (Zai (f := Zcd) m.globals (⟨xt, c == 1, xc⟩ : ZeM)).symm
 unfold mdC mdL
 simp only [hl2]
 rw [<- hs2]
 obtain ⟨p0, e0⟩ := t
 obtain ⟨p1, e1⟩ := t1
 obtain ⟨p2, e2⟩ := t2
 obtain ⟨p3, e3⟩ := t3
 obtain ⟨p4, e4⟩ := t4
 unfold UF rtM at *
 simp only [List.cons_append, List.nil_append, Nat.reduceAdd] at *
 clear hk1 hk2 hk3 hk4
 refine AM.enter Tryz.func103 rfl (Yaa rfl) (fun pn => ?_)
 simp only [Tryz.f103]
 have nx := trivial
 refine' ZvO
 refine AW.drawT (L0 := (bA 11 0)) (by decide +kernel) ZfU ?_
 have nx := aI @hcut trivial
 refine' Zck
 all_goals
  (repeat (first | refine QEq.mp (by assumption) ?_ | simp only [Zb1, Go.Abs.blockQ, ↓reduceIte, Nat.reduceEqDiff]))
  have nx := trivial
  refine' Zcj
  all_goals first | exact ⟨trivial, trivial⟩ | exact ⟨rfl, trivial⟩ | exact ⟨rfl, rfl⟩ | exact ⟨trivial, rfl⟩ | (exfalso; omega) | trace_state
theorem ZBK.cl {p : Prop} (h : p := by
 first
  | refine AWL.cM (f := 99) [(0, 0)] Zp6 rfl rfl rfl rfl rfl rfl rfl (hc0) ?_
  | refine AWL.cM (f := 97) [(0, 0)] ZoL rfl rfl rfl rfl rfl rfl rfl (hc1) ?_
  | refine AWL.cM (f := 125) [(0, 0)] Zvg rfl rfl rfl rfl rfl rfl rfl (hc2) ?_
  | refine AWL.cM (f := 126) [(0, 0)] ZCs rfl rfl rfl rfl rfl rfl rfl (hc3) ?_
 all_goals (apply_rules (newGoals := .nonDependentOnly) only [dep]; exact ())) : p := h
open ZBK Zca ZFD Zl in
theorem ZBL {b : List Int} {en : Nat} {t : Tq} (h : okT b t.p en) (m : Mod) (hl : m.elems.length <= 512) : AM Tryz.prog 103 [.ptr 0 0, .int .i64 9, .ptr 1 0] (rtM 0 b en t ++ ((1, ⟨false, mdC 2000 m⟩) :: mdL 2000 m)) [0, 1] (fun r mm => r = .tup [] /\ mm = rtM 0 b en (Zha (b.take en) t).2 ++ ((1, ⟨false, mdC 2000 { m with elems := m.elems ++ [(Zha (b.take en) t).1] }⟩) :: mdL 2000 { m with elems := m.elems ++ [(Zha (b.take en) t).1] })) := by
 have hcut : List.take (m.elems.length * 2) (m.elems.flatMap Zce) = m.elems.flatMap Zce := Yad (by rw [Zq ZeR]; omega)
 unfold Zha ZaV
 have hc0 := Zb0 h
 have hk1 := h.mvs (ZdF h.byt)
 generalize Zaj (b.take en) t = z at hc0 hk1 ⊢
 obtain ⟨w0, t1⟩ := z
 simp only at hc0 hk1 ⊢
 obtain ⟨c, rfl⟩ : ∃ x, x = w0 := ⟨_, rfl⟩
 have hc1 := Zae b en t1 (c == 0)
 have hk2 := hk1.mu (c == 0)
 generalize Z5 (c == 0) t1 = t2 at hc1 hk2 ⊢
 have hc2 := ZhY hk2
 have hk3 := hk2.mvs (Zhg h.byt)
 generalize ZbP (b.take en) t2 = z at hc2 hk3 ⊢
 obtain ⟨w2, t3⟩ := z
 simp only at hc2 hk3 ⊢
 obtain ⟨xc, rfl⟩ : ∃ x, x = w2 := ⟨_, rfl⟩
 unfold ZkG at hc2
 have hc3 := Zxv hk3 1024
 have hk4 := hk3.mvs (ZuK h.byt 1024)
 generalize Zg8 (b.take en) 1024 t3 = z at hc3 hk4 ⊢
 obtain ⟨w3, t4⟩ := z
 simp only at hc3 hk4 ⊢
 obtain ⟨xf, rfl⟩ : ∃ x, x = w3 := ⟨_, rfl⟩
 have hl2 : (m.elems ++ [(⟨xc, xf⟩ : Zfs)]).length = m.elems.length + 1 := by simp
 have hs2 : m.elems.flatMap Zce ++ [.view xc.length 6 (Zah xc), .view xf.length 1 (Zh .i64 xf)] = (m.elems ++ [(⟨xc, xf⟩ : Zfs)]).flatMap Zce := (Zai (f := Zce) m.elems (⟨xc, xf⟩ : Zfs)).symm
 unfold mdC mdL
 simp only [hl2]
 rw [<- hs2]
 obtain ⟨p0, e0⟩ := t
 obtain ⟨p1, e1⟩ := t1
 obtain ⟨p2, e2⟩ := t2
 obtain ⟨p3, e3⟩ := t3
 obtain ⟨p4, e4⟩ := t4
 unfold UF rtM at *
 simp only [List.cons_append, List.nil_append, Nat.reduceAdd] at *
 clear hk1 hk2 hk3 hk4
 refine AM.enter Tryz.func103 rfl (Yaa rfl) (fun pn => ?_)
 simp only [Tryz.f103]
 have nx := trivial
 refine' ZvJ
 refine AW.drawT (L0 := (bA 11 0)) (by decide +kernel) ZfU ?_
 have nx := aI @hcut trivial
 refine' Zck
 all_goals
  (repeat (first | refine QEq.mp (by assumption) ?_ | simp only [Zb1, Go.Abs.blockQ, ↓reduceIte, Nat.reduceEqDiff]))
  have nx := trivial
  refine' Zcj
  all_goals first | exact ⟨trivial, trivial⟩ | exact ⟨rfl, trivial⟩ | exact ⟨rfl, rfl⟩ | exact ⟨trivial, rfl⟩ | (exfalso; omega) | trace_state
end Go.Proofs.YtimhmpdfioihlaaGreatDoor
