/- PairLanes, for all inputs that hold together at most 1048576 values and letters: the call returns true, and its arguments read behind it as they read before. No further condition. -/
import Derived.Test.YtopdealfmajbhaaRows
import Derived.Test.YtopdealfmajbhaaSh
import Derived.Test.YtopdealfmajbhaaLLanes
namespace Go.Proofs.Ytopdealfmajbhaa.lawPairLanes
set_option linter.unusedSimpArgs false
set_option linter.unusedVariables false
open Go Go.Abs Go.ChangeShapes Go.WideShapes Go.ChangeAt Go.RowKit
theorem bulky (H : Type) : Bulky (Rows.uptoBulk (H := H)) (Rows.uptoBulkAll (H := H)) where
  str := fun s => by simp [Rows.uptoBulk]
  lit := fun l => by cases l <;> simp [Rows.uptoBulk]
  nil := by simp [Rows.uptoBulk]
  slice := fun a b => by simp [Rows.uptoBulk]
  agg := fun a => by simp [Rows.uptoBulk]
  lnil := by simp [Rows.uptoBulkAll]
  lcons := fun d l => by simp [Rows.uptoBulkAll]
theorem own : ownKnob Try.prog.godebug = none := by kernel_rfl
theorem laid : laidOutB Try.prog = true := by kernel_rfl
def shs : List Sh := [.sl (.pair (.arr 16 (.int .u8)) (.pair (.int .i64) (.pair (.int .i64) (.int .u64))))]
theorem fits : FitsL Try.prog shs Try.f6.params.toList := ⟨⟨fits44, by kernel_rfl, by kernel_rfl⟩, trivial⟩
theorem readable : ∀ t ∈ Try.f6.params.toList, Try.prog.readableRec t = true ∧ t < Try.prog.types.size := by
  intro t ht
  have h : (Try.f6.params.toList.all fun t => Try.prog.readableRec t && decide (t < Try.prog.types.size)) = true := by kernel_rfl
  simpa using List.all_eq_true.1 h t ht
theorem answer (H : Type) : ∀ ds : List (DataW H), ds.length = Try.f6.params.toList.length → Rows.pairLanesSpec.fn H ds = { results := [.lit (.bool true)], args := ds } := by
  intro ds h
  match ds, h with
  | [d0], _ => rfl
theorem flat_ats (l : List AtS) : List.flatMap (Sh.enc (.pair (.arr 16 (.int .u8)) (.pair (.int .i64) (.pair (.int .i64) (.int .u64))))) l = atC l := by
  induction l with
  | nil => rfl
  | cons x l ih =>
    rw [List.flatMap_cons, ih, atC, at1]
    show (List.flatMap (Sh.enc (.int .u8)) x.1 ++ ([V.int .i64 x.2.1] ++ ([V.int .i64 x.2.2.1] ++ [V.int .u64 x.2.2.2]))) ++ atC l = _
    rw [flat_ints]; rfl
theorem val_ats (l : List AtS) : Sh.val (.sl (.pair (.arr 16 (.int .u8)) (.pair (.int .i64) (.pair (.int .i64) (.int .u64))))) l = .view l.length 19 (atC l) := by
  simp only [Sh.val, Sh.size]
  rw [flat_ats]
theorem argsOk (y : ShsT shs) (hg : goodL shs y) (hb : bulkL shs y ≤ 1048576) : AC Try.prog 6 (valsL shs y) (fun r m => r = .bool true ∧ m = []) := by
  obtain ⟨l, u⟩ := y
  have h1 := bulk_sl (s := .pair (.arr 16 (.int .u8)) (.pair (.int .i64) (.pair (.int .i64) (.int .u64)))) l
  simp only [shs, bulkL] at hb
  have := pairLanes_ok l (fun x hx => by
    have h := hg.1 x hx
    have h4 := good_u64 h.2.2.2
    exact ⟨h.1.1, fun y hy => good_u8 (h.1.2 y hy), h4.1, h4.2⟩) (by omega)
  rw [← val_ats] at this
  exact this
set_option maxRecDepth 100000 in
theorem lifted (os : Os) (started : os.Started) (H : Type) (enc : TypeId × Value → H) (F : Stop.Interp) :
    ReturnsInHanded {} Try.checked os 6 .any ((Rows.OpenSpec.upto Rows.pairLanesSpec).pre6 enc Try.prog Try.f6 Rows.pairLanesUptoRow.domain false) (((Rows.OpenSpec.upto Rows.pairLanesSpec).at F).post enc Try.prog Try.f6 false true false false) := by
  refine returnsInHanded_of_cond (C := Try.checked) (s := Rows.OpenSpec.upto Rows.pairLanesSpec) (k := Rows.uptoSmall) rfl own started (by kernel_rfl) Try.func6
    (OpenSpec.witness (enc := enc) (C := Try.checked) (s := Rows.OpenSpec.upto Rows.pairLanesSpec) (k := Rows.uptoSmall) rfl false ⟨#[], #[.slice none 0 0], []⟩ 8 (by kernel_rfl) (by kernel_rfl) (by kernel_rfl)
      (x := ([.nil], [], [])) (by kernel_rfl) rfl (by kernel_rfl)) ?_
  intro W base args ds gs before hval hW _ hk _
  have hb : Rows.uptoBulkAll (ds ++ gs) ≤ 1048576 := of_decide_eq_true hk
  exact law_calls (enc := enc) (shs := shs) (bulky H) (N := 1048576) argsOk fits rfl (answer H) rfl Try.underlying4 laid readable hval hW hb
theorem over : Rows.pairLanesUptoRow.holds Try.pinned (Rows.OpenSpec.upto Rows.pairLanesSpec) :=
  OpenClaim.holds_of_cond 6 Try.f6 rfl rfl rfl rfl rfl rfl rfl ⟨rfl, rfl, rfl, rfl, rfl⟩ rfl rfl rfl rfl rfl (by kernel_rfl) Try.func6 (by kernel_rfl)
    (of_decide_eq_true (by kernel_rfl)) (by unfold Func.isWrapper; first | (rw [if_pos (by decide +kernel)]; kernel_rfl) | (rw [if_neg (by decide +kernel)]; exact ⟨rfl, rfl⟩))
    (fun os started H enc _ F => lifted os started H enc F)
/-- the statement -/
theorem proved : Rows.PairLanesUptoSaid := over
end Go.Proofs.Ytopdealfmajbhaa.lawPairLanes
