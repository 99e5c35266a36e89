/- LebWrites, for all inputs that hold together at most 1048576 values and letters: the call returns true, and its arguments read behind it as they read before. No further condition. -/
import Derived.Test.YticidhkilfkgbaaRows
import Derived.Test.YticidhkilfkgbaaSh
import Derived.Test.YticidhkilfkgbaaLWrites
namespace Go.Proofs.Yticidhkilfkgbaa.lawLebWrites
set_option linter.unusedSimpArgs false
set_option linter.unusedVariables false
open Go Go.Abs Go.ChangeShapes Go.WideShapes Go.ChangeAt Go.RowKit
theorem bulky (H : Type) : Bulky (Rows.uptoBulk (H := H)) (Rows.uptoBulkAll (H := H)) where
  str := fun s => by simp [Rows.uptoBulk]
  lit := fun l => by cases l <;> simp [Rows.uptoBulk]
  nil := by simp [Rows.uptoBulk]
  slice := fun a b => by simp [Rows.uptoBulk]
  agg := fun a => by simp [Rows.uptoBulk]
  lnil := by simp [Rows.uptoBulkAll]
  lcons := fun d l => by simp [Rows.uptoBulkAll]
theorem own : ownKnob Try.prog.godebug = none := by kernel_rfl
theorem laid : laidOutB Try.prog = true := by kernel_rfl
def shs : List Sh := [.sl (.int .u64), .sl (.int .i64)]
theorem fits : FitsL Try.prog shs Try.f4.params.toList := ⟨⟨fits31, by kernel_rfl, by kernel_rfl⟩, ⟨fits32, by kernel_rfl, by kernel_rfl⟩, trivial⟩
theorem readable : ∀ t ∈ Try.f4.params.toList, Try.prog.readableRec t = true ∧ t < Try.prog.types.size := by
  intro t ht
  have h : (Try.f4.params.toList.all fun t => Try.prog.readableRec t && decide (t < Try.prog.types.size)) = true := by kernel_rfl
  simpa using List.all_eq_true.1 h t ht
theorem answer (H : Type) : ∀ ds : List (DataW H), ds.length = Try.f4.params.toList.length → Rows.lebWritesSpec.fn H ds = { results := [.lit (.bool true)], args := ds } := by
  intro ds h
  match ds, h with
  | [d0, d1], _ => rfl
theorem argsOk (y : ShsT shs) (hg : goodL shs y) (hb : bulkL shs y ≤ 1048576) : AC Try.prog 4 (valsL shs y) (fun r m => r = .bool true ∧ m = []) := by
  obtain ⟨us, ss, u⟩ := y
  have h1 := bulk_ints (k := .u64) us
  have h2 := bulk_ints (k := .i64) ss
  simp only [shs, bulkL] at hb
  have := lebWrites_ok us ss (fun x hx => good_u64 (hg.1 x hx)) (fun x hx => good_i64 (hg.2.1 x hx)) (by omega) (by omega)
  rw [← val_ints, ← val_ints] at this
  exact this
set_option maxRecDepth 100000 in
theorem lifted (os : Os) (started : os.Started) (H : Type) (enc : TypeId × Value → H) (F : Stop.Interp) :
    ReturnsInHanded {} Try.checked os 4 .any ((Rows.OpenSpec.upto Rows.lebWritesSpec).pre6 enc Try.prog Try.f4 Rows.lebWritesUptoRow.domain false) (((Rows.OpenSpec.upto Rows.lebWritesSpec).at F).post enc Try.prog Try.f4 false true false false) := by
  refine returnsInHanded_of_cond (C := Try.checked) (s := Rows.OpenSpec.upto Rows.lebWritesSpec) (k := Rows.uptoSmall) rfl own started (by kernel_rfl) Try.func4
    (OpenSpec.witness (enc := enc) (C := Try.checked) (s := Rows.OpenSpec.upto Rows.lebWritesSpec) (k := Rows.uptoSmall) rfl false ⟨#[], #[.slice none 0 0, .slice none 0 0], []⟩ 8 (by kernel_rfl) (by kernel_rfl) (by kernel_rfl)
      (x := ([.nil, .nil], [], [])) (by kernel_rfl) rfl (by kernel_rfl)) ?_
  intro W base args ds gs before hval hW _ hk _
  have hb : Rows.uptoBulkAll (ds ++ gs) ≤ 1048576 := of_decide_eq_true hk
  exact law_calls (enc := enc) (shs := shs) (bulky H) (N := 1048576) argsOk fits rfl (answer H) rfl Try.underlying4 laid readable hval hW hb
theorem over : Rows.lebWritesUptoRow.holds Try.pinned (Rows.OpenSpec.upto Rows.lebWritesSpec) :=
  OpenClaim.holds_of_cond 4 Try.f4 rfl rfl rfl rfl rfl rfl rfl ⟨rfl, rfl, rfl, rfl, rfl⟩ rfl rfl rfl rfl rfl (by kernel_rfl) Try.func4 (by kernel_rfl)
    (of_decide_eq_true (by kernel_rfl)) (by unfold Func.isWrapper; first | (rw [if_pos (by decide +kernel)]; kernel_rfl) | (rw [if_neg (by decide +kernel)]; exact ⟨rfl, rfl⟩))
    (fun os started H enc _ F => lifted os started H enc F)
/-- the statement -/
theorem proved : Rows.LebWritesUptoSaid := over
end Go.Proofs.Yticidhkilfkgbaa.lawLebWrites
