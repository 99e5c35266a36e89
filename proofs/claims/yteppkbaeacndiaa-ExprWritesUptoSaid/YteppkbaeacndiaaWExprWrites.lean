/- ExprWrites, for all inputs that hold together at most 1048576 values and letters: the call returns true, and its arguments read behind it as they read before. No further condition. -/
import Derived.Test.YteppkbaeacndiaaRows
import Derived.Test.YteppkbaeacndiaaSh
import Derived.Test.YteppkbaeacndiaaLWrites
namespace Go.Proofs.Yteppkbaeacndiaa.lawExprWrites
set_option linter.unusedSimpArgs false
set_option linter.unusedVariables false
open Go Go.Abs Go.ChangeShapes Go.WideShapes Go.ChangeAt Go.RowKit
theorem bulky (H : Type) : Bulky (Rows.uptoBulk (H := H)) (Rows.uptoBulkAll (H := H)) where
  str := fun s => by simp [Rows.uptoBulk]
  lit := fun l => by cases l <;> simp [Rows.uptoBulk]
  nil := by simp [Rows.uptoBulk]
  slice := fun a b => by simp [Rows.uptoBulk]
  agg := fun a => by simp [Rows.uptoBulk]
  lnil := by simp [Rows.uptoBulkAll]
  lcons := fun d l => by simp [Rows.uptoBulkAll]
theorem own : ownKnob Try.prog.godebug = none := by kernel_rfl
theorem laid : laidOutB Try.prog = true := by kernel_rfl
def shs : List Sh := [.sl (.pair (.int .i64) (.pair (.int .i64) (.pair (.int .i64) (.pair (.int .u64) (.pair (.int .u64) (.sl (.int .i64)))))))]
theorem fits : FitsL Try.prog shs Try.f4.params.toList := ⟨⟨fits24, by kernel_rfl, by kernel_rfl⟩, trivial⟩
theorem readable : ∀ t ∈ Try.f4.params.toList, Try.prog.readableRec t = true ∧ t < Try.prog.types.size := by
  intro t ht
  have h : (Try.f4.params.toList.all fun t => Try.prog.readableRec t && decide (t < Try.prog.types.size)) = true := by kernel_rfl
  simpa using List.all_eq_true.1 h t ht
theorem answer (H : Type) : ∀ ds : List (DataW H), ds.length = Try.f4.params.toList.length → Rows.exprWritesSpec.fn H ds = { results := [.lit (.bool true)], args := ds } := by
  intro ds h
  match ds, h with
  | [d0], _ => rfl
theorem argsOk (y : ShsT shs) (hg : goodL shs y) (hb : bulkL shs y ≤ 1048576) : AC Try.prog 4 (valsL shs y) (fun r m => r = .bool true ∧ m = []) := by
  obtain ⟨x, u⟩ := y
  have hb' : Sh.bulk (.sl shIn) x + 0 ≤ 1048576 := hb
  have h := ok_code x hg.1 (by omega)
  have := exprWrites_ok (toCode x) h.1 h.2
  rw [← val_code] at this
  exact this
set_option maxRecDepth 100000 in
theorem lifted (os : Os) (started : os.Started) (H : Type) (enc : TypeId × Value → H) (F : Stop.Interp) :
    ReturnsInHanded {} Try.checked os 4 .any ((Rows.OpenSpec.upto Rows.exprWritesSpec).pre6 enc Try.prog Try.f4 Rows.exprWritesUptoRow.domain false) (((Rows.OpenSpec.upto Rows.exprWritesSpec).at F).post enc Try.prog Try.f4 false true false false) := by
  refine returnsInHanded_of_cond (C := Try.checked) (s := Rows.OpenSpec.upto Rows.exprWritesSpec) (k := Rows.uptoSmall) rfl own started (by kernel_rfl) Try.func4
    (OpenSpec.witness (enc := enc) (C := Try.checked) (s := Rows.OpenSpec.upto Rows.exprWritesSpec) (k := Rows.uptoSmall) rfl false ⟨#[], #[.slice none 0 0], []⟩ 8 (by kernel_rfl) (by kernel_rfl) (by kernel_rfl)
      (x := ([.nil], [], [])) (by kernel_rfl) rfl (by kernel_rfl)) ?_
  intro W base args ds gs before hval hW _ hk _
  have hb : Rows.uptoBulkAll (ds ++ gs) ≤ 1048576 := of_decide_eq_true hk
  exact law_calls (enc := enc) (shs := shs) (bulky H) (N := 1048576) argsOk fits rfl (answer H) rfl Try.underlying4 laid readable hval hW hb
theorem over : Rows.exprWritesUptoRow.holds Try.pinned (Rows.OpenSpec.upto Rows.exprWritesSpec) :=
  OpenClaim.holds_of_cond 4 Try.f4 rfl rfl rfl rfl rfl rfl rfl ⟨rfl, rfl, rfl, rfl, rfl⟩ rfl rfl rfl rfl rfl (by kernel_rfl) Try.func4 (by kernel_rfl)
    (of_decide_eq_true (by kernel_rfl)) (by unfold Func.isWrapper; first | (rw [if_pos (by decide +kernel)]; kernel_rfl) | (rw [if_neg (by decide +kernel)]; exact ⟨rfl, rfl⟩))
    (fun os started H enc _ F => lifted os started H enc F)
/-- the statement -/
theorem proved : Rows.ExprWritesUptoSaid := over
end Go.Proofs.Yteppkbaeacndiaa.lawExprWrites
