/- Programs of cells. -/
import Derived.Test.YtgogfiojmmohoaaV5
import Derived.Test.YtgogfiojmmohoaaArity
namespace Go.Proofs.Ytgogfiojmmohoaa
set_option linter.unusedSimpArgs false
set_option linter.unusedVariables false
open Go Go.Abs

def rowsC {α : Type} (e : α → List V) : List α → List V
  | [] => []
  | x :: l => e x ++ rowsC e l
theorem rows_len {α : Type} {e : α → List V} {n : Nat} (he : ∀ x, (e x).length = n) (l : List α) : (rowsC e l).length = l.length * n := by
  induction l with
  | nil => simp [rowsC]
  | cons x l ih => rw [rowsC, List.length_append, ih, he, List.length_cons, Nat.add_mul, Nat.one_mul, Nat.add_comm]
theorem rows_drop {α : Type} {e : α → List V} {n : Nat} (he : ∀ x, (e x).length = n) (d : α) {l : List α} {k : Nat} (hk : k < l.length) : (rowsC e l).drop (k * n) = e (l.getD k d) ++ rowsC e (l.drop (k + 1)) := by
  induction l generalizing k with
  | nil => exact absurd hk (Nat.not_lt_zero _)
  | cons x l ih =>
    cases k with
    | zero => simp [rowsC]
    | succ k =>
      rw [rowsC, show (k + 1) * n = (e x).length + k * n from by rw [he, Nat.add_mul, Nat.one_mul, Nat.add_comm], List.drop_append, List.drop_of_length_le (by omega), List.nil_append, Nat.add_sub_cancel_left, ih (by simpa using hk)]
      simp
theorem getD_mem {α : Type} {l : List α} {k : Nat} (d : α) (h : k < l.length) : l.getD k d ∈ l := by
  rw [show l.getD k d = l[k] from by simp [List.getD, h]]; exact List.getElem_mem _
/-- types; cells; functions; programs -/
abbrev Sg := List Int × List Int
abbrev Cl := Int × Int × Int
structure Fn where
  h : Int
  s : Int
  i : Int
  o : Int
  l : Int
  cs : List Cl
  ms : List Int
structure Pg where
  sg : List Sg
  fs : List Fn
def sg0 : Sg := ([], [])
def cl0 : Cl := (0, 0, 0)
def fn0 : Fn := ⟨0, 0, 0, 0, 0, [], []⟩
def tsig (s : Sg) : List V := [.view s.1.length 1 (nums .i64 s.1), .view s.2.length 1 (nums .i64 s.2)]
def tcel (c : Cl) : List V := [.int .i64 c.1, .int .i64 c.2.1, .int .u64 c.2.2]
def sigC (l : List Sg) : List V := rowsC tsig l
def celC (l : List Cl) : List V := rowsC tcel l
def tfun (f : Fn) : List V := [.int .i64 f.h, .int .i64 f.s, .int .i64 f.i, .int .i64 f.o, .int .i64 f.l, .view f.cs.length 3 (celC f.cs), .view f.ms.length 1 (nums .i64 f.ms)]
def funC (l : List Fn) : List V := rowsC tfun l
theorem sigC_len (l : List Sg) : (sigC l).length = l.length * 2 := rows_len (e := tsig) (n := 2) (fun _ => rfl) l
theorem celC_len (l : List Cl) : (celC l).length = l.length * 3 := rows_len (e := tcel) (n := 3) (fun _ => rfl) l
theorem funC_len (l : List Fn) : (funC l).length = l.length * 7 := rows_len (e := tfun) (n := 7) (fun _ => rfl) l
theorem sig_drop {l : List Sg} {k : Nat} (h : k < l.length) : (sigC l).drop (k * 2) = tsig (l.getD k sg0) ++ sigC (l.drop (k + 1)) := rows_drop (e := tsig) (n := 2) (fun _ => rfl) _ h
theorem cel_drop {l : List Cl} {k : Nat} (h : k < l.length) : (celC l).drop (k * 3) = tcel (l.getD k cl0) ++ celC (l.drop (k + 1)) := rows_drop (e := tcel) (n := 3) (fun _ => rfl) _ h
theorem fun_drop {l : List Fn} {k : Nat} (h : k < l.length) : (funC l).drop (k * 7) = tfun (l.getD k fn0) ++ funC (l.drop (k + 1)) := rows_drop (e := tfun) (n := 7) (fun _ => rfl) _ h
/-- what numbers may be -/
def okI (x : Int) : Prop := -9223372036854775808 ≤ x ∧ x < 9223372036854775808
def okC (c : Cl) : Prop := okI c.1 ∧ okI c.2.1 ∧ 0 ≤ c.2.2 ∧ c.2.2 < 18446744073709551616
def okF (f : Fn) : Prop := f.cs.length ≤ 2000000 ∧ f.ms.length ≤ 2000000 ∧ okI f.h ∧ okI f.s ∧ okI f.i ∧ okI f.o ∧ okI f.l ∧ ∀ c ∈ f.cs, okC c
def okS (s : Sg) : Prop := s.1.length ≤ 2000000 ∧ s.2.length ≤ 2000000
def okP (p : Pg) : Prop := p.sg.length ≤ 2000000 ∧ p.fs.length ≤ 2000000 ∧ (∀ s ∈ p.sg, okS s) ∧ ∀ f ∈ p.fs, okF f
/-- takes, gives, is it one -/
def fxS (op : Int) : Int × Int × Bool :=
  if op = 0 ∨ op = 12 ∨ op = 257 then (0, 0, true)
  else if op = 13 ∨ op = 14 ∨ op = 26 ∨ op = 33 ∨ op = 36 then (1, 0, true)
  else if op = 27 then (3, 1, true)
  else if op = 32 ∨ op = 35 ∨ op = 63 ∨ op = 66 then (0, 1, true)
  else if op = 34 ∨ op = 64 ∨ op = 40 ∨ op = 41 ∨ (44 ≤ op ∧ op ≤ 53) then (1, 1, true)
  else if op = 54 ∨ op = 55 ∨ (58 ≤ op ∧ op ≤ 62) then (2, 0, true)
  else if arS op > 0 then (arS op, 1, true) else (0, 0, false)
theorem fx_bound (op : Int) : 0 ≤ (fxS op).1 ∧ (fxS op).1 ≤ 3 ∧ 0 ≤ (fxS op).2.1 ∧ (fxS op).2.1 ≤ 1 := by
  have ha : 0 ≤ arS op ∧ arS op ≤ 2 := by
    unfold arS; split
    · omega
    · split <;> omega
  unfold fxS
  repeat' split
  all_goals (simp only; omega)
def scS (op : Int) : Bool := (fxS op).2.2 || decide (op = 15) || decide (op = 16) || decide (op = 17) || decide (op = 256)
def numS (l : List Int) : Bool := l.all fun t => decide (t = 127 ∨ t = 126)
def mayS (nF nS nC : Nat) (i l : Int) (at_ : Int) (c : Cl) : Bool :=
  if c.1 = 12 ∨ c.1 = 13 then decide (0 ≤ c.2.1 ∧ c.2.1 < nC)
  else if c.1 = 14 then decide (0 ≤ c.2.1 ∧ c.2.1 < nC - at_ - 1)
  else if c.1 = 16 then decide (0 ≤ c.2.1 ∧ c.2.1 < nF)
  else if c.1 = 17 then decide (0 ≤ c.2.1 ∧ c.2.1 < nS)
  else if c.1 = 32 ∨ c.1 = 33 ∨ c.1 = 34 then decide (0 ≤ c.2.1 ∧ c.2.1 < i + l)
  else if c.1 = 35 ∨ c.1 = 36 then decide (0 ≤ c.2.1)
  else if c.1 = 256 then decide (0 ≤ c.2.1 ∧ c.2.1 ≤ 1048576 ∧ c.2.2 ≤ 1048576)
  else scS c.1
def celS (nF nS : Nat) (f : Fn) : Bool := (List.range f.cs.length).all fun k => mayS nF nS f.cs.length f.i f.l k (f.cs.getD k cl0)
def hedS (p : Pg) (f : Fn) : Bool := decide (-1 ≤ f.h ∧ 0 ≤ f.s ∧ f.s < p.sg.length ∧ 0 ≤ f.l ∧ f.l ≤ 4096 ∧ (f.h = -1 ↔ 0 < f.cs.length)) &&
  decide (f.i = (p.sg.getD f.s.toNat sg0).1.length ∧ f.o = (p.sg.getD f.s.toNat sg0).2.length)
def funS (p : Pg) (f : Fn) : Bool := hedS p f && celS p.fs.length p.sg.length f
def sgsS (l : List Sg) : Bool := l.all fun s => numS s.1 && numS s.2
def chkS (p : Pg) : Bool := sgsS p.sg && p.fs.all (funS p)
def errS (p : Pg) : Int := if chkS p then 0 else 1
/-- what a cell takes and gives -/
def effS (p : Pg) (f : Nat) (c : Cl) : Int × Int :=
  if c.1 = 15 then ((p.fs.getD f fn0).o, 0)
  else if c.1 = 16 ∧ 0 ≤ c.2.1 ∧ c.2.1 < p.fs.length then ((p.fs.getD c.2.1.toNat fn0).i, (p.fs.getD c.2.1.toNat fn0).o)
  else if c.1 = 17 ∧ 0 ≤ c.2.1 ∧ c.2.1 < p.sg.length then (1 + (p.sg.getD c.2.1.toNat sg0).1.length, (p.sg.getD c.2.1.toNat sg0).2.length)
  else if c.1 = 256 ∧ 0 ≤ c.2.1 ∧ c.2.1 ≤ 1048576 ∧ c.2.2 ≤ 1048576 then (c.2.1 + c.2.2, c.2.1)
  else ((fxS c.1).1, (fxS c.1).2.1)
def outS (p : Pg) (f : Int) (c : Cl) : Int × Int := if f < 0 ∨ f ≥ p.fs.length ∨ errS p ≠ 0 then (0, 0) else effS p f.toNat c
/-- where one may go -/
def nextS (c : Cl) (at_ : Nat) : List Int :=
  if c.1 = 0 ∨ c.1 = 15 then []
  else if c.1 = 12 then [c.2.1]
  else if c.1 = 13 then [c.2.1, (at_ : Int) + 1]
  else if c.1 = 14 then (List.range (c.2.1 + 1).toNat).map fun (i : Nat) => ((at_ : Int) + 1 + i)
  else [(at_ : Int) + 1]
/-- the neighbours of a cell get its height -/
def put1 (n : Nat) (h : Int) : List Int → List Int → List Int → Option (List Int × List Int)
  | [], hs, wk => some (hs, wk)
  | t :: ts, hs, wk => if t ≥ n then none else if hs.getD t.toNat 0 = -1 then put1 n h ts (setI hs t.toNat h) (wk ++ [t]) else if hs.getD t.toNat 0 ≠ h then none else put1 n h ts hs wk
def runS (p : Pg) (f : Nat) (cs : List Cl) : Nat → List Int → List Int → Option (List Int)
  | 0, _, _ => none
  | m + 1, hs, wk =>
    if wk = [] then some hs else
    let at_ := (wk.getD (wk.length - 1) 0).toNat
    let e := effS p f (cs.getD at_ cl0)
    if e.1 > hs.getD at_ 0 then none else
    match put1 cs.length (hs.getD at_ 0 - e.1 + e.2) (nextS (cs.getD at_ cl0) at_) hs (wk.take (wk.length - 1)) with
    | none => none
    | some x => runS p f cs m x.1 x.2
def hs0 (n : Nat) : List Int := setI (List.replicate n (-1)) 0 0
def heiS (p : Pg) (f : Int) : Option (List Int) :=
  if errS p ≠ 0 ∨ f < 0 ∨ f ≥ p.fs.length ∨ (p.fs.getD f.toNat fn0).cs.length = 0 then none
  else runS p f.toNat (p.fs.getD f.toNat fn0).cs ((p.fs.getD f.toNat fn0).cs.length + 1) (hs0 (p.fs.getD f.toNat fn0).cs.length) [0]
end Go.Proofs.Ytgogfiojmmohoaa
