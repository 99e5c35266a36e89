/- SplitBack, for all inputs that hold together at most 1048576 values and letters: the call returns true, and its arguments read behind it as they read before. No further condition. -/
import Derived.Test.YtbdmieljkgcpcaaRows
import Derived.Test.YtbdmieljkgcpcaaSh
import Derived.Test.YtbdmieljkgcpcaaLSBack
namespace Go.Proofs.Ytbdmieljkgcpcaa.lawSplitBack
set_option linter.unusedSimpArgs false
set_option linter.unusedVariables false
open Go Go.Abs Go.ChangeShapes Go.WideShapes Go.ChangeAt Go.RowKit
theorem bulky (H : Type) : Bulky (Rows.uptoBulk (H := H)) (Rows.uptoBulkAll (H := H)) where
  str := fun s => by simp [Rows.uptoBulk]
  lit := fun l => by cases l <;> simp [Rows.uptoBulk]
  nil := by simp [Rows.uptoBulk]
  slice := fun a b => by simp [Rows.uptoBulk]
  agg := fun a => by simp [Rows.uptoBulk]
  lnil := by simp [Rows.uptoBulkAll]
  lcons := fun d l => by simp [Rows.uptoBulkAll]
theorem own : ownKnob Try.prog.godebug = none := by kernel_rfl
theorem laid : laidOutB Try.prog = true := by kernel_rfl
def shs : List Sh := [.sl (.int .i64), .sl (.arr 16 (.int .u8))]
theorem fits : FitsL Try.prog shs Try.f8.params.toList := ⟨⟨fits22, by kernel_rfl, by kernel_rfl⟩, ⟨fits47, by kernel_rfl, by kernel_rfl⟩, trivial⟩
theorem readable : ∀ t ∈ Try.f8.params.toList, Try.prog.readableRec t = true ∧ t < Try.prog.types.size := by
  intro t ht
  have h : (Try.f8.params.toList.all fun t => Try.prog.readableRec t && decide (t < Try.prog.types.size)) = true := by kernel_rfl
  simpa using List.all_eq_true.1 h t ht
theorem answer (H : Type) : ∀ ds : List (DataW H), ds.length = Try.f8.params.toList.length → Rows.splitBackSpec.fn H ds = { results := [.lit (.bool true)], args := ds } := by
  intro ds h
  match ds, h with
  | [d0, d1], _ => rfl
theorem flat_vecs (vs : List (List Int)) : List.flatMap (Sh.enc (.arr 16 (.int .u8))) vs = vecC vs := by
  induction vs with
  | nil => rfl
  | cons v vs ih =>
    rw [List.flatMap_cons, ih, vecC]
    show List.flatMap (Sh.enc (.int .u8)) v ++ vecC vs = _
    rw [flat_ints]
theorem val_vecs (vs : List (List Int)) : Sh.val (.sl (.arr 16 (.int .u8))) vs = .view vs.length 16 (vecC vs) := by
  simp only [Sh.val, Sh.size]
  rw [flat_vecs]
theorem argsOk (y : ShsT shs) (hg : goodL shs y) (hb : bulkL shs y ≤ 1048576) : AC Try.prog 8 (valsL shs y) (fun r m => r = .bool true ∧ m = []) := by
  obtain ⟨ts, vs, u⟩ := y
  have h1 := bulk_ints (k := .i64) ts
  simp only [shs, bulkL] at hb
  have := splitBack_ok ts vs (fun v hv => ⟨(hg.2.1 v hv).1, fun x hx => good_u8 ((hg.2.1 v hv).2 x hx)⟩) (by omega)
  rw [← val_ints, ← val_vecs] at this
  exact this
set_option maxRecDepth 100000 in
theorem lifted (os : Os) (started : os.Started) (H : Type) (enc : TypeId × Value → H) (F : Stop.Interp) :
    ReturnsInHanded {} Try.checked os 8 .any ((Rows.OpenSpec.upto Rows.splitBackSpec).pre6 enc Try.prog Try.f8 Rows.splitBackUptoRow.domain false) (((Rows.OpenSpec.upto Rows.splitBackSpec).at F).post enc Try.prog Try.f8 false true false false) := by
  refine returnsInHanded_of_cond (C := Try.checked) (s := Rows.OpenSpec.upto Rows.splitBackSpec) (k := Rows.uptoSmall) rfl own started (by kernel_rfl) Try.func8
    (OpenSpec.witness (enc := enc) (C := Try.checked) (s := Rows.OpenSpec.upto Rows.splitBackSpec) (k := Rows.uptoSmall) rfl false ⟨#[], #[.slice none 0 0, .slice none 0 0], []⟩ 8 (by kernel_rfl) (by kernel_rfl) (by kernel_rfl)
      (x := ([.nil, .nil], [], [])) (by kernel_rfl) rfl (by kernel_rfl)) ?_
  intro W base args ds gs before hval hW _ hk _
  have hb : Rows.uptoBulkAll (ds ++ gs) ≤ 1048576 := of_decide_eq_true hk
  exact law_calls (enc := enc) (shs := shs) (bulky H) (N := 1048576) argsOk fits rfl (answer H) rfl Try.underlying4 laid readable hval hW hb
theorem over : Rows.splitBackUptoRow.holds Try.pinned (Rows.OpenSpec.upto Rows.splitBackSpec) :=
  OpenClaim.holds_of_cond 8 Try.f8 rfl rfl rfl rfl rfl rfl rfl ⟨rfl, rfl, rfl, rfl, rfl⟩ rfl rfl rfl rfl rfl (by kernel_rfl) Try.func8 (by kernel_rfl)
    (of_decide_eq_true (by kernel_rfl)) (by unfold Func.isWrapper; first | (rw [if_pos (by decide +kernel)]; kernel_rfl) | (rw [if_neg (by decide +kernel)]; exact ⟨rfl, rfl⟩))
    (fun os started H enc _ F => lifted os started H enc F)
/-- the statement -/
theorem proved : Rows.SplitBackUptoSaid := over
end Go.Proofs.Ytbdmieljkgcpcaa.lawSplitBack
