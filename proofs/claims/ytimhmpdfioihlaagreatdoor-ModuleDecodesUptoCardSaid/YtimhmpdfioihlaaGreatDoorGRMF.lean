/- The document's tape: item, case 11. -/
import Derived.Test.YtimhmpdfioihlaaGreatDoorDP
import Derived.Test.YtimhmpdfioihlaaGreatDoorGWords
import Derived.Test.YtimhmpdfioihlaaGreatDoorGCB
import Derived.Test.YtimhmpdfioihlaaGreatDoorGRMI5
import Derived.Test.YtimhmpdfioihlaaGreatDoorGMSec
import Derived.Test.YtimhmpdfioihlaaGreatDoorGRMI2
import Derived.Test.YtimhmpdfioihlaaGreatDoorGRMI3
import Derived.Test.YtimhmpdfioihlaaGreatDoorGRMI9
set_option linter.unusedSimpArgs false
set_option linter.unusedVariables false
set_option maxHeartbeats 12800000
namespace Go.Proofs.YtimhmpdfioihlaaGreatDoor
set_option maxRecDepth 20000
open Go Go.Abs Nat
attribute [local irreducible] AW AWL AC FW CW CWr IntKind.wrap
open MB
theorem ZzR.cl {p : Prop} (h : p := by
 first
  | refine AWL.cM (f := 99) [(0, 0)] Zp6 rfl rfl rfl rfl rfl rfl rfl (hc0) ?_
  | refine AWL.cM (f := 97) [(0, 0)] ZoL rfl rfl rfl rfl rfl rfl rfl (hc1) ?_
  | refine AWL.cM (f := 125) [(0, 0)] Zvg rfl rfl rfl rfl rfl rfl rfl (hc2) ?_
  | refine AWL.cM (f := 120) [(0, 0)] ZAi rfl rfl rfl rfl rfl rfl rfl (hc3) ?_
 all_goals (apply_rules (newGoals := .nonDependentOnly) only [dep]; exact ())) : p := h
open ZzR Zca ZFD Zl in
theorem ZzS {b : List Int} {en : Nat} {t : Tq} (h : okT b t.p en) (m : Mod) (hl : m.datas.length <= 512) : AM Tryz.prog 103 [.ptr 0 0, .int .i64 11, .ptr 1 0] (rtM 0 b en t ++ ((1, ⟨false, mdC 2000 m⟩) :: mdL 2000 m)) [0, 1] (fun r mm => r = .tup [] /\ mm = rtM 0 b en (Zhb (b.take en) t).2 ++ ((1, ⟨false, mdC 2000 { m with datas := m.datas ++ [(Zhb (b.take en) t).1] }⟩) :: mdL 2000 { m with datas := m.datas ++ [(Zhb (b.take en) t).1] })) := by
 have hcut : List.take (m.datas.length * 2) (m.datas.flatMap Zcf) = m.datas.flatMap Zcf := Yad (by rw [Zq ZeS]; omega)
 unfold Zhb ZaV
 have hc0 := Zb0 h
 have hk1 := h.mvs (ZdF h.byt)
 generalize Zaj (b.take en) t = z at hc0 hk1 ⊢
 obtain ⟨w0, t1⟩ := z
 simp only at hc0 hk1 ⊢
 obtain ⟨c, rfl⟩ : ∃ x, x = w0 := ⟨_, rfl⟩
 have hc1 := Zae b en t1 (c == 0)
 have hk2 := hk1.mu (c == 0)
 generalize Z5 (c == 0) t1 = t2 at hc1 hk2 ⊢
 have hc2 := ZhY hk2
 have hk3 := hk2.mvs (Zhg h.byt)
 generalize ZbP (b.take en) t2 = z at hc2 hk3 ⊢
 obtain ⟨w2, t3⟩ := z
 simp only at hc2 hk3 ⊢
 obtain ⟨xc, rfl⟩ : ∃ x, x = w2 := ⟨_, rfl⟩
 unfold ZkG at hc2
 have hc3 := ZpC hk3
 have hk4 := hk3.mvs (ZnR h.byt)
 generalize ZcD (b.take en) t3 = z at hc3 hk4 ⊢
 obtain ⟨w3, t4⟩ := z
 simp only at hc3 hk4 ⊢
 obtain ⟨xb, rfl⟩ : ∃ x, x = w3 := ⟨_, rfl⟩
 have hl2 : (m.datas ++ [(⟨xc, xb⟩ : Zft)]).length = m.datas.length + 1 := by simp
 have hs2 : m.datas.flatMap Zcf ++ [.view xc.length 6 (Zah xc), .view xb.length 1 (Zh .u8 xb)] = (m.datas ++ [(⟨xc, xb⟩ : Zft)]).flatMap Zcf := (Zai (f := Zcf) m.datas (⟨xc, xb⟩ : Zft)).symm
 unfold mdC mdL
 simp only [hl2]
 rw [<- hs2]
 obtain ⟨p0, e0⟩ := t
 obtain ⟨p1, e1⟩ := t1
 obtain ⟨p2, e2⟩ := t2
 obtain ⟨p3, e3⟩ := t3
 obtain ⟨p4, e4⟩ := t4
 unfold UF rtM at *
 simp only [List.cons_append, List.nil_append, Nat.reduceAdd] at *
 clear hk1 hk2 hk3 hk4
 refine AM.enter Tryz.func103 rfl (Yaa rfl) (fun pn => ?_)
 simp only [Tryz.f103]
 have nx := trivial
 refine' ZvS
 refine AW.drawT (L0 := (bA 11 0)) (by decide +kernel) ZfU ?_
 have nx := aI @hcut trivial
 refine' Zck
 all_goals
  (repeat (first | refine QEq.mp (by assumption) ?_ | simp only [Zb1, Go.Abs.blockQ, ↓reduceIte, Nat.reduceEqDiff]))
  have nx := trivial
  refine' Zcj
  all_goals first | exact ⟨trivial, trivial⟩ | exact ⟨rfl, trivial⟩ | exact ⟨rfl, rfl⟩ | exact ⟨trivial, rfl⟩ | (exfalso; omega) | trace_state
theorem ZzP.cl {p : Prop} (h : p := by
 first
  | refine AWL.cM (f := 127) [(0, 0)] ZCt rfl rfl rfl rfl rfl rfl rfl (hc0) ?_
 all_goals (apply_rules (newGoals := .nonDependentOnly) only [dep]; exact ())) : p := h
open ZzP Zca ZFG Zl in
theorem ZzQ {b : List Int} {en : Nat} {t : Tq} (h : okT b t.p en) (m : Mod) (hl : m.codes.length <= 512) : AM Tryz.prog 103 [.ptr 0 0, .int .i64 10, .ptr 1 0] (rtM 0 b en t ++ ((1, ⟨false, mdC 2000 m⟩) :: mdL 2000 m)) [0, 1] (fun r mm => r = .tup [] /\ mm = rtM 0 b en (ZeW (b.take en) t).2 ++ ((1, ⟨false, mdC 2000 { m with codes := m.codes ++ [(ZeW (b.take en) t).1] }⟩) :: mdL 2000 { m with codes := m.codes ++ [(ZeW (b.take en) t).1] })) := by
 have hcut : List.take (m.codes.length * 2) (m.codes.flatMap ZgE) = m.codes.flatMap ZgE := Yad (by rw [Zq Zgs]; omega)
 have hc0 := Zxw h
 have hk1 := h.mvs (ZuL h.byt)
 generalize ZeW (b.take en) t = z at hc0 hk1 ⊢
 obtain ⟨w0, t1⟩ := z
 simp only at hc0 hk1 ⊢
 obtain ⟨xl, xc⟩ := w0
 unfold ZgE at hc0
 have hl2 : (m.codes ++ [(⟨xl, xc⟩ : Zd6)]).length = m.codes.length + 1 := by simp
 have hs2 : m.codes.flatMap ZgE ++ [.view xl.length 1 (Zh .i64 xl), .view xc.length 6 (Zah xc)] = (m.codes ++ [(⟨xl, xc⟩ : Zd6)]).flatMap ZgE := (Zai (f := ZgE) m.codes (⟨xl, xc⟩ : Zd6)).symm
 unfold mdC mdL
 simp only [hl2]
 rw [<- hs2]
 obtain ⟨p0, e0⟩ := t
 obtain ⟨p1, e1⟩ := t1
 unfold UF rtM at *
 simp only [List.cons_append, List.nil_append, Nat.reduceAdd] at *
 clear hk1
 refine AM.enter Tryz.func103 rfl (Yaa rfl) (fun pn => ?_)
 simp only [Tryz.f103]
 have nx := trivial
 refine' ZvU
 refine AW.drawT (L0 := (bA 12 0)) (by decide +kernel) ZfU ?_
 have nx := aI @hcut trivial
 refine' Zck
 all_goals
  (repeat (first | refine QEq.mp (by assumption) ?_ | simp only [Zb1, Go.Abs.blockQ, ↓reduceIte, Nat.reduceEqDiff]))
  have nx := trivial
  refine' Zcj
  all_goals first | exact ⟨trivial, trivial⟩ | exact ⟨rfl, trivial⟩ | exact ⟨rfl, rfl⟩ | exact ⟨trivial, rfl⟩ | (exfalso; omega) | trace_state
end Go.Proofs.YtimhmpdfioihlaaGreatDoor
namespace Go.Proofs.YtimhmpdfioihlaaGreatDoor
set_option maxRecDepth 20000
open Go Go.Abs
def ZuM (id : Int) (m : Mod) : Nat := if id = 1 then m.types.length else if id = 2 then m.imports.length else if id = 3 then m.funcs.length else if id = 4 then m.tables.length else if id = 5 then m.mems.length else if id = 6 then m.globals.length else if id = 7 then m.exports.length else if id = 9 then m.elems.length else if id = 10 then m.codes.length else if id = 11 then m.datas.length else 0
def itU (xs : List Int) (id : Int) (m : Mod) (t : Tq) : Mod × Tq := if id = 1 then ({ m with types := m.types ++ [((ZqE xs) t).1] }, ((ZqE xs) t).2) else if id = 2 then ({ m with imports := m.imports ++ [((ZqF xs) t).1] }, ((ZqF xs) t).2) else if id = 3 then ({ m with funcs := m.funcs ++ [((Zaj xs) t).1] }, ((Zaj xs) t).2) else if id = 4 then ({ m with tables := m.tables ++ [((ZqG xs) t).1] }, ((ZqG xs) t).2) else if id = 5 then ({ m with mems := m.mems ++ [((Zi3 xs 16) t).1] }, ((Zi3 xs 16) t).2) else if id = 6 then ({ m with globals := m.globals ++ [((Zg9 xs) t).1] }, ((Zg9 xs) t).2) else if id = 7 then ({ m with exports := m.exports ++ [((ZqH xs) t).1] }, ((ZqH xs) t).2) else if id = 9 then ({ m with elems := m.elems ++ [((Zha xs) t).1] }, ((Zha xs) t).2) else if id = 10 then ({ m with codes := m.codes ++ [((ZeW xs) t).1] }, ((ZeW xs) t).2) else if id = 11 then ({ m with datas := m.datas ++ [((Zhb xs) t).1] }, ((Zhb xs) t).2) else (m, t)
def Zjh (id : Int) : Int := if id = 1 then 256 else 512
def isI (id : Int) : Prop := id = 1 \/ id = 2 \/ id = 3 \/ id = 4 \/ id = 5 \/ id = 6 \/ id = 7 \/ id = 9 \/ id = 10 \/ id = 11
def Zed (xs : List Int) (id : Int) : Nat -> Mod -> Tq -> Mod × Tq
 | 0, m, t => (m, t)
 | n + 1, m, t => if t.e = 0 then Zed xs id n (itU xs id m t).1 (itU xs id m t).2 else (m, t)
theorem Zxx {b : List Int} {en : Nat} {t : Tq} (h : okT b t.p en) (m : Mod) {id : Int} (hid : isI id) (hl : ZuM id m <= 512) : AM Tryz.prog 103 [.ptr 0 0, .int .i64 id, .ptr 1 0] (rtM 0 b en t ++ ((1, ⟨false, mdC 2000 m⟩) :: mdL 2000 m)) [0, 1] (fun r mm => r = .tup [] /\ mm = rtM 0 b en (itU (b.take en) id m t).2 ++ ((1, ⟨false, mdC 2000 (itU (b.take en) id m t).1⟩) :: mdL 2000 (itU (b.take en) id m t).1)) := by
 rcases hid with rfl | rfl | rfl | rfl | rfl | rfl | rfl | rfl | rfl | rfl
 ·exact ZBz h m hl
 ·exact ZBB h m hl
 ·exact ZBN h m hl
 ·exact ZBD h m hl
 ·exact ZBF h m hl
 ·exact ZBH h m hl
 ·exact ZBJ h m hl
 ·exact ZBL h m hl
 ·exact ZzQ h m hl
 ·exact ZzS h m hl
theorem ZBO {xs : List Int} (hb : bytes xs) (id : Int) (m : Mod) : Mvs xs (itU xs id m) := by
 intro t h
 unfold itU
 by_cases c1 : id = 1
 ·rw [if_pos c1]; exact ZBu hb t h
 rw [if_neg c1]
 by_cases c2 : id = 2
 ·rw [if_pos c2]; exact ZBv hb t h
 rw [if_neg c2]
 by_cases c3 : id = 3
 ·rw [if_pos c3]; exact ZdF hb t h
 rw [if_neg c3]
 by_cases c4 : id = 4
 ·rw [if_pos c4]; exact ZBw hb t h
 rw [if_neg c4]
 by_cases c5 : id = 5
 ·rw [if_pos c5]; exact ZpM hb 16 t h
 rw [if_neg c5]
 by_cases c6 : id = 6
 ·rw [if_pos c6]; exact ZzM hb t h
 rw [if_neg c6]
 by_cases c7 : id = 7
 ·rw [if_pos c7]; exact ZBx hb t h
 rw [if_neg c7]
 by_cases c9 : id = 9
 ·rw [if_pos c9]; exact ZzN hb t h
 rw [if_neg c9]
 by_cases c10 : id = 10
 ·rw [if_pos c10]; exact ZuL hb t h
 rw [if_neg c10]
 by_cases c11 : id = 11
 ·rw [if_pos c11]; exact ZzO hb t h
 rw [if_neg c11]
 exact h
theorem ZzT (xs : List Int) {id : Int} (hid : isI id) (m : Mod) (t : Tq) : ZuM id (itU xs id m t).1 = ZuM id m + 1 := by
 rcases hid with rfl | rfl | rfl | rfl | rfl | rfl | rfl | rfl | rfl | rfl
 ·show (m.types ++ [((ZqE xs) t).1]).length = m.types.length + 1
  simp
 ·show (m.imports ++ [((ZqF xs) t).1]).length = m.imports.length + 1
  simp
 ·show (m.funcs ++ [((Zaj xs) t).1]).length = m.funcs.length + 1
  simp
 ·show (m.tables ++ [((ZqG xs) t).1]).length = m.tables.length + 1
  simp
 ·show (m.mems ++ [((Zi3 xs 16) t).1]).length = m.mems.length + 1
  simp
 ·show (m.globals ++ [((Zg9 xs) t).1]).length = m.globals.length + 1
  simp
 ·show (m.exports ++ [((ZqH xs) t).1]).length = m.exports.length + 1
  simp
 ·show (m.elems ++ [((Zha xs) t).1]).length = m.elems.length + 1
  simp
 ·show (m.codes ++ [((ZeW xs) t).1]).length = m.codes.length + 1
  simp
 ·show (m.datas ++ [((Zhb xs) t).1]).length = m.datas.length + 1
  simp
theorem ZEt (xs : List Int) : ∀ (n : Nat) (m : Mod) (t : Tq), Zed xs 1 n m t = ({ m with types := m.types ++ (ZbL (ZqE xs) n t).1 }, (ZbL (ZqE xs) n t).2)
 | 0, m, t => by rw [Zed, ZbL]; simp
 | n + 1, m, t => by
   rw [Zed, ZbL]
   by_cases c : t.e = 0
   ·rw [if_pos c, if_pos c, ZEt xs n]
    show ({ m with types := (m.types ++ [((ZqE xs) t).1]) ++ _ }, _) = _
    rw [Ya6]
    rfl
   ·rw [if_neg c, if_neg c]; simp
theorem ZEu (xs : List Int) : ∀ (n : Nat) (m : Mod) (t : Tq), Zed xs 2 n m t = ({ m with imports := m.imports ++ (ZbL (ZqF xs) n t).1 }, (ZbL (ZqF xs) n t).2)
 | 0, m, t => by rw [Zed, ZbL]; simp
 | n + 1, m, t => by
   rw [Zed, ZbL]
   by_cases c : t.e = 0
   ·rw [if_pos c, if_pos c, ZEu xs n]
    show ({ m with imports := (m.imports ++ [((ZqF xs) t).1]) ++ _ }, _) = _
    rw [Ya6]
    rfl
   ·rw [if_neg c, if_neg c]; simp
theorem ZEv (xs : List Int) : ∀ (n : Nat) (m : Mod) (t : Tq), Zed xs 3 n m t = ({ m with funcs := m.funcs ++ (ZbL (Zaj xs) n t).1 }, (ZbL (Zaj xs) n t).2)
 | 0, m, t => by rw [Zed, ZbL]; simp
 | n + 1, m, t => by
   rw [Zed, ZbL]
   by_cases c : t.e = 0
   ·rw [if_pos c, if_pos c, ZEv xs n]
    show ({ m with funcs := (m.funcs ++ [((Zaj xs) t).1]) ++ _ }, _) = _
    rw [Ya6]
    rfl
   ·rw [if_neg c, if_neg c]; simp
theorem ZEw (xs : List Int) : ∀ (n : Nat) (m : Mod) (t : Tq), Zed xs 4 n m t = ({ m with tables := m.tables ++ (ZbL (ZqG xs) n t).1 }, (ZbL (ZqG xs) n t).2)
 | 0, m, t => by rw [Zed, ZbL]; simp
 | n + 1, m, t => by
   rw [Zed, ZbL]
   by_cases c : t.e = 0
   ·rw [if_pos c, if_pos c, ZEw xs n]
    show ({ m with tables := (m.tables ++ [((ZqG xs) t).1]) ++ _ }, _) = _
    rw [Ya6]
    rfl
   ·rw [if_neg c, if_neg c]; simp
theorem ZEx (xs : List Int) : ∀ (n : Nat) (m : Mod) (t : Tq), Zed xs 5 n m t = ({ m with mems := m.mems ++ (ZbL (Zi3 xs 16) n t).1 }, (ZbL (Zi3 xs 16) n t).2)
 | 0, m, t => by rw [Zed, ZbL]; simp
 | n + 1, m, t => by
   rw [Zed, ZbL]
   by_cases c : t.e = 0
   ·rw [if_pos c, if_pos c, ZEx xs n]
    show ({ m with mems := (m.mems ++ [((Zi3 xs 16) t).1]) ++ _ }, _) = _
    rw [Ya6]
    rfl
   ·rw [if_neg c, if_neg c]; simp
theorem ZEy (xs : List Int) : ∀ (n : Nat) (m : Mod) (t : Tq), Zed xs 6 n m t = ({ m with globals := m.globals ++ (ZbL (Zg9 xs) n t).1 }, (ZbL (Zg9 xs) n t).2)
 | 0, m, t => by rw [Zed, ZbL]; simp
 | n + 1, m, t => by
   rw [Zed, ZbL]
   by_cases c : t.e = 0
   ·rw [if_pos c, if_pos c, ZEy xs n]
    show ({ m with globals := (m.globals ++ [((Zg9 xs) t).1]) ++ _ }, _) = _
    rw [Ya6]
    rfl
   ·rw [if_neg c, if_neg c]; simp
theorem ZEz (xs : List Int) : ∀ (n : Nat) (m : Mod) (t : Tq), Zed xs 7 n m t = ({ m with exports := m.exports ++ (ZbL (ZqH xs) n t).1 }, (ZbL (ZqH xs) n t).2)
 | 0, m, t => by rw [Zed, ZbL]; simp
 | n + 1, m, t => by
   rw [Zed, ZbL]
   by_cases c : t.e = 0
   ·rw [if_pos c, if_pos c, ZEz xs n]
    show ({ m with exports := (m.exports ++ [((ZqH xs) t).1]) ++ _ }, _) = _
    rw [Ya6]
    rfl
   ·rw [if_neg c, if_neg c]; simp
theorem ZEA (xs : List Int) : ∀ (n : Nat) (m : Mod) (t : Tq), Zed xs 9 n m t = ({ m with elems := m.elems ++ (ZbL (Zha xs) n t).1 }, (ZbL (Zha xs) n t).2)
 | 0, m, t => by rw [Zed, ZbL]; simp
 | n + 1, m, t => by
   rw [Zed, ZbL]
   by_cases c : t.e = 0
   ·rw [if_pos c, if_pos c, ZEA xs n]
    show ({ m with elems := (m.elems ++ [((Zha xs) t).1]) ++ _ }, _) = _
    rw [Ya6]
    rfl
   ·rw [if_neg c, if_neg c]; simp
theorem ZBP (xs : List Int) : ∀ (n : Nat) (m : Mod) (t : Tq), Zed xs 10 n m t = ({ m with codes := m.codes ++ (ZbL (ZeW xs) n t).1 }, (ZbL (ZeW xs) n t).2)
 | 0, m, t => by rw [Zed, ZbL]; simp
 | n + 1, m, t => by
   rw [Zed, ZbL]
   by_cases c : t.e = 0
   ·rw [if_pos c, if_pos c, ZBP xs n]
    show ({ m with codes := (m.codes ++ [((ZeW xs) t).1]) ++ _ }, _) = _
    rw [Ya6]
    rfl
   ·rw [if_neg c, if_neg c]; simp
theorem ZBQ (xs : List Int) : ∀ (n : Nat) (m : Mod) (t : Tq), Zed xs 11 n m t = ({ m with datas := m.datas ++ (ZbL (Zhb xs) n t).1 }, (ZbL (Zhb xs) n t).2)
 | 0, m, t => by rw [Zed, ZbL]; simp
 | n + 1, m, t => by
   rw [Zed, ZbL]
   by_cases c : t.e = 0
   ·rw [if_pos c, if_pos c, ZBQ xs n]
    show ({ m with datas := (m.datas ++ [((Zhb xs) t).1]) ++ _ }, _) = _
    rw [Ya6]
    rfl
   ·rw [if_neg c, if_neg c]; simp
theorem ZzU (xs : List Int) {id : Int} (hid : isI id) {m : Mod} (h0 : ZuM id m = 0) (t : Tq) : Zyw xs id m t = Zed xs id (ZaK xs (Zjh id) t).1.toNat m (ZaK xs (Zjh id) t).2 := by
 rcases hid with rfl | rfl | rfl | rfl | rfl | rfl | rfl | rfl | rfl | rfl
 ·have h0 : m.types = [] := Yay h0
  rw [ZEt, h0, List.nil_append]; rfl
 ·have h0 : m.imports = [] := Yay h0
  rw [ZEu, h0, List.nil_append]; rfl
 ·have h0 : m.funcs = [] := Yay h0
  rw [ZEv, h0, List.nil_append]; rfl
 ·have h0 : m.tables = [] := Yay h0
  rw [ZEw, h0, List.nil_append]; rfl
 ·have h0 : m.mems = [] := Yay h0
  rw [ZEx, h0, List.nil_append]; rfl
 ·have h0 : m.globals = [] := Yay h0
  rw [ZEy, h0, List.nil_append]; rfl
 ·have h0 : m.exports = [] := Yay h0
  rw [ZEz, h0, List.nil_append]; rfl
 ·have h0 : m.elems = [] := Yay h0
  rw [ZEA, h0, List.nil_append]; rfl
 ·have h0 : m.codes = [] := Yay h0
  rw [ZBP, h0, List.nil_append]; rfl
 ·have h0 : m.datas = [] := Yay h0
  rw [ZBQ, h0, List.nil_append]; rfl
def EA (last : Int) (m : Mod) : Prop := ∀ id, isI id -> last < id -> ZuM id m = 0
theorem ZzV (s : Int) : EA 0 { ZeN with start := s } := fun id hid _ => by
 rcases hid with rfl | rfl | rfl | rfl | rfl | rfl | rfl | rfl | rfl | rfl <;> rfl
theorem Zxy {last id : Int} {m : Mod} (h : EA last m) (hi : last < id) (s : Int) : EA id { m with start := s } := fun i hid h2 => by
 have := h i hid (by omega)
 rcases hid with rfl | rfl | rfl | rfl | rfl | rfl | rfl | rfl | rfl | rfl <;> exact this
theorem Zxz (xs : List Int) {id i : Int} (hid : isI id) (hi : isI i) (hne : i ≠ id) (m : Mod) (t : Tq) : ZuM i (itU xs id m t).1 = ZuM i m := by
 rcases hid with rfl | rfl | rfl | rfl | rfl | rfl | rfl | rfl | rfl | rfl <;> rcases hi with rfl | rfl | rfl | rfl | rfl | rfl | rfl | rfl | rfl | rfl <;> first | rfl | exact absurd rfl hne
theorem Zmy (xs : List Int) {id i : Int} (hid : isI id) (hi : isI i) (hne : i ≠ id) : ∀ (n : Nat) (m : Mod) (t : Tq), ZuM i (Zed xs id n m t).1 = ZuM i m
 | 0, m, t => rfl
 | n + 1, m, t => by
   rw [Zed]
   split
   ·rw [Zmy xs hid hi hne n, Zxz xs hid hi hne]
   ·rfl
theorem ZBR {xs : List Int} {last id : Int} {m : Mod} (h : EA last m) (hi : last < id) (hid : isI id) (n : Nat) (t : Tq) : EA id (Zed xs id n m t).1 := fun i hi2 h2 => by
 rw [Zmy xs hid hi2 (by omega)]
 exact h i hi2 (by omega)
def Zja (b : List Int) (n : Nat) (last : Int) (m : Mod) (t : Tq) : Mod × Tq := ZaV (Zi8 b n last m t) fun m t => (m, Z5 (decide (m.codes.length = m.funcs.length)) t)
theorem Zfo {b : List Int} {n : Nat} {last : Int} {m : Mod} {t : Tq} (h : t.e ≠ 0) : ZmD (Zja b n last m t) = (ZeN, t.e) := by
 unfold Zja ZaV
 have h1 := ZkK b n last m t h
 generalize Zi8 b n last m t = z at h1
 obtain ⟨m2, t2⟩ := z
 simp only at h1 ⊢
 subst h1
 rw [Za9 h]
 unfold ZmD
 rw [if_pos h]
theorem ZuN {b : List Int} {n : Nat} {last : Int} {m : Mod} {t : Tq} (h : t.p < b.length) (h0 : t.e = 0) : Zja b (n + 1) last m t = Zja b n (Zmu b last m t).1.1 (Zmu b last m t).1.2 (Zmu b last m t).2 := by
 unfold Zja
 rw [Zi8, if_pos ⟨h, h0⟩]
theorem ZxA {b : List Int} {n : Nat} {last : Int} {m : Mod} {t : Tq} (h : ¬ (t.p < b.length /\ t.e = 0)) : Zja b n last m t = (m, Z5 (decide (m.codes.length = m.funcs.length)) t) := by
 unfold Zja
 cases n with
 | zero => rfl
 | succ n => rw [Zi8, if_neg h]; rfl
end Go.Proofs.YtimhmpdfioihlaaGreatDoor
