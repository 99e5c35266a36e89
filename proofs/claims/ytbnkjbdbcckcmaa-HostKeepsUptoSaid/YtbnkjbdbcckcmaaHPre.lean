/- The host in plain: replies, log, code. -/
import Derived.Test.YtbnkjbdbcckcmaaV5
import Derived.Test.YtbnkjbdbcckcmaaCutl
namespace Go.Proofs.Ytbnkjbdbcckcmaa
set_option linter.unusedSimpArgs false
set_option linter.unusedVariables false
open Go Go.Abs

abbrev Ev := Int × List Int
def tev (e : Ev) : List V := [.int .i64 e.1, .view e.2.length 1 (nums .u64 e.2)]
def logC (l : List Ev) : List V := l.flatMap tev
theorem logC_nil : logC [] = [] := rfl
theorem logC_len (l : List Ev) : (logC l).length = 2 * l.length := by
  induction l with
  | nil => rfl
  | cons e l ih =>
    have : logC (e :: l) = tev e ++ logC l := rfl
    rw [this, List.length_append, ih]; simp only [tev, List.length_cons, List.length_nil]; omega
theorem logC_app1 (l : List Ev) (i : Int) (x : List Int) : logC l ++ [.int .i64 i, .view x.length 1 (nums .u64 x)] = logC (l ++ [(i, x)]) := by
  simp [logC, tev]
theorem logC_drop (l : List Ev) (k : Nat) : List.drop (k * 2) (logC l) = logC (l.drop k) := by
  induction l generalizing k with
  | nil => simp [logC]
  | cons e l ih =>
    cases k with
    | zero => rfl
    | succ k =>
      have : logC (e :: l) = tev e ++ logC l := rfl
      rw [this, List.drop_succ_cons, ← ih k, show (k + 1) * 2 = k * 2 + 2 by omega]; rfl
theorem logC_at (l : List Ev) {k : Nat} (h : k < l.length) : List.drop (k * 2) (logC l) = .int .i64 (l.getD k (0, [])).1 :: .view (l.getD k (0, [])).2.length 1 (nums .u64 (l.getD k (0, [])).2) :: logC (l.drop (k + 1)) := by
  rw [logC_drop]
  have e : l.drop k = l.getD k (0, []) :: l.drop (k + 1) := by
    rw [List.drop_eq_getElem_cons h, List.getD_eq_getElem?_getD, List.getElem?_eq_getElem h]; rfl
  rw [e]; rfl
structure Hs where
  R : List Int
  L : List Ev
  C : Int
  deriving DecidableEq
/-- the host's objects: its own, and its log's -/
def hostM (k kl : Nat) (h : Hs) : Mem := [(k, ⟨false, [.view h.R.length 1 (nums .u64 h.R), .ref kl 0 h.L.length 2, .int .u32 h.C]⟩), (kl, ⟨true, logC h.L⟩)]
structure okHs (h : Hs) : Prop where
  r : h.R.length ≤ 4096
  u : u64s h.R
  l : h.L.length ≤ 1024
  c : 0 ≤ h.C ∧ h.C < 4294967296
/-- a reply for a half of a type, and the host behind it -/
def nextS (h : Hs) (t : Int) : Int × Hs :=
  match h.R with
  | [] => (0, h)
  | x :: R => (if t = 127 then x % 4294967296 else x, { h with R := R })
/-- replies for the halves of types -/
def giveS : List Int → Hs → List Int × Hs
  | [], h => ([], h)
  | t :: ts, h =>
    if t = 123 then ((nextS h t).1 :: (nextS (nextS h t).2 t).1 :: (giveS ts (nextS (nextS h t).2 t).2).1, (giveS ts (nextS (nextS h t).2 t).2).2)
    else ((nextS h t).1 :: (giveS ts (nextS h t).2).1, (giveS ts (nextS h t).2).2)
/-- a call -/
def callS (h : Hs) (i : Int) (mo na : List UInt8) (ins outs xs : List Int) : List Int × Int × Hs :=
  if ¬ (okTs ins = true ∧ widthL ins = xs.length ∧ okTs outs = true) then ([], 1, h)
  else if 1024 ≤ h.L.length then ([], 29, h)
  else if mo = [104, 111, 115, 116] ∧ na = [101, 120, 105, 116] then
    ([], 28, { h with L := h.L ++ [(i, putL ins (takeL ins xs))], C := if 0 < (putL ins (takeL ins xs)).length then (putL ins (takeL ins xs)).getD 0 0 % 4294967296 else 0 })
  else ((giveS outs { h with L := h.L ++ [(i, putL ins (takeL ins xs))] }).1, 0, (giveS outs { h with L := h.L ++ [(i, putL ins (takeL ins xs))] }).2)
end Go.Proofs.Ytbnkjbdbcckcmaa
