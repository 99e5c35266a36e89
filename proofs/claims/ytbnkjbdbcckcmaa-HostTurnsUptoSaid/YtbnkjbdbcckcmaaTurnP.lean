/- What the calls of HostTurns come to, in plain. -/
import Derived.Test.YtbnkjbdbcckcmaaV5
import Derived.Test.YtbnkjbdbcckcmaaHRep
namespace Go.Proofs.Ytbnkjbdbcckcmaa
set_option linter.unusedSimpArgs false
set_option linter.unusedVariables false
open Go Go.Abs

def nS (gv : List Int) (j : Nat) : Nat := (gv.getD j 0 % 4).toNat
def atS (gv : List Int) : Nat → Nat
  | 0 => 0
  | i + 1 => atS gv i + nS gv i
def mS (tk : List Int) (j : Nat) : Nat := if tk.length = 0 then 0 else j % min tk.length 5
def logS (tk : List Int) (i : Nat) : List Ev := (List.range i).map fun (j : Nat) => ((j : Int), tk.take (mS tk j))
def hS (rs tk gv : List Int) (i : Nat) : Hs := ⟨(rs.take 4096).drop (atS gv i), logS tk i, 0⟩
def outS (rs gv : List Int) (i : Nat) : List Int := (List.range (nS gv i)).map fun k => ((rs.take 4096).drop (atS gv i)).getD k 0
theorem nS_le (gv : List Int) (j : Nat) : nS gv j ≤ 3 := by unfold nS; omega
theorem atS_le (gv : List Int) (i : Nat) : atS gv i ≤ 3 * i := by
  induction i with
  | zero => exact Nat.le_refl _
  | succ i ih => have := nS_le gv i; simp only [atS]; omega
theorem mS_le (tk : List Int) (j : Nat) : mS tk j ≤ tk.length ∧ mS tk j ≤ 5 := by
  unfold mS; split
  · omega
  · have := Nat.mod_lt j (show 0 < min tk.length 5 by omega); omega
theorem logS_len (tk : List Int) (i : Nat) : (logS tk i).length = i := by simp [logS]
theorem logS_succ (tk : List Int) (i : Nat) : logS tk i ++ [((i : Int), tk.take (mS tk i))] = logS tk (i + 1) := by
  simp [logS, List.range_succ]
theorem logS_at (tk : List Int) {i k : Nat} (h : k < i) : (logS tk i).getD k (0, []) = ((k : Int), tk.take (mS tk k)) := by
  simp [logS, List.getD_eq_getElem?_getD, h]
theorem hS_ok {rs tk gv : List Int} (hu : u64s rs) {i : Nat} (hi : i ≤ 1024) : okHs (hS rs tk gv i) :=
  ⟨by simp only [hS, List.length_drop, List.length_take]; omega, fun x hx => hu x (List.mem_of_mem_take (List.mem_of_mem_drop hx)), by simp only [hS, logS_len]; exact hi, by simp [hS]⟩
theorem callS_turn {rs tk gv : List Int} (ht : u64s tk) {i : Nat} (hi : i < 1024) :
    callS (hS rs tk gv i) i [104, 111, 115, 116] [108, 111, 103] (List.replicate (mS tk i) 126) (List.replicate (nS gv i) 126) (tk.take (mS tk i)) = (outS rs gv i, 0, hS rs tk gv (i + 1)) := by
  have hm : (tk.take (mS tk i)).length = mS tk i := by have := mS_le tk i; rw [List.length_take]; omega
  have hp := rep_put (xs := tk.take (mS tk i)) (fun x hx => ht x (List.mem_of_mem_take hx))
  rw [hm] at hp
  unfold callS
  rw [if_neg (fun h => h ⟨rep_ok _, by rw [rep_width, hm], rep_ok _⟩), if_neg (by simp only [hS, logS_len]; omega), if_neg (by decide), hp, give_rep]
  simp only [hS, outS, logS_succ, List.drop_drop, atS]
theorem outS_len (rs gv : List Int) (i : Nat) : (outS rs gv i).length = nS gv i := by simp [outS]
theorem outS_at (rs gv : List Int) (i : Nat) {k : Nat} (hk : k < nS gv i) : (outS rs gv i).getD k 0 = if atS gv i + k < rs.length ∧ atS gv i + k < 4096 then rs.getD (atS gv i + k) 0 else 0 := by
  simp only [outS, List.getD_eq_getElem?_getD, List.getElem?_map, List.getElem?_range hk, Option.map_some, Option.getD_some, List.getElem?_drop, List.getElem?_take]
  by_cases h1 : atS gv i + k < 4096
  · rw [if_pos h1]
    by_cases h2 : atS gv i + k < rs.length
    · rw [if_pos ⟨h2, h1⟩]
    · rw [if_neg (fun h => h2 h.1), List.getElem?_eq_none (by omega)]; rfl
  · rw [if_neg h1, if_neg (fun h => h1 h.2)]; rfl
theorem evC0 {l : List V} {n : Nat} {v d : V} {r : List V} (h : l.drop n = v :: r) : l.getD n d = v := by
  have := congrArg (fun x => x[0]?) h
  simp only [List.getElem?_drop, Nat.add_zero, List.getElem?_cons_zero] at this
  rw [List.getD_eq_getElem?_getD, this]; rfl
theorem evC1 {l : List V} {n : Nat} {v u d : V} {r : List V} (h : l.drop n = v :: u :: r) : l.getD (n + 1) d = u := by
  have := congrArg (fun x => x[1]?) h
  simp only [List.getElem?_drop, List.getElem?_cons_succ, List.getElem?_cons_zero] at this
  rw [List.getD_eq_getElem?_getD, this]; rfl
end Go.Proofs.Ytbnkjbdbcckcmaa
