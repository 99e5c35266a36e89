/- SplitCanon, for all inputs that hold together at most 1048576 values and letters: the call returns true, and its arguments read behind it as they read before. No further condition. -/
import Derived.Test.YtbdmieljkgcpcaaRows
import Derived.Test.YtbdmieljkgcpcaaSh
import Derived.Test.YtbdmieljkgcpcaaLCanon
namespace Go.Proofs.Ytbdmieljkgcpcaa.lawSplitCanon
set_option linter.unusedSimpArgs false
set_option linter.unusedVariables false
open Go Go.Abs Go.ChangeShapes Go.WideShapes Go.ChangeAt Go.RowKit
theorem bulky (H : Type) : Bulky (Rows.uptoBulk (H := H)) (Rows.uptoBulkAll (H := H)) where
  str := fun s => by simp [Rows.uptoBulk]
  lit := fun l => by cases l <;> simp [Rows.uptoBulk]
  nil := by simp [Rows.uptoBulk]
  slice := fun a b => by simp [Rows.uptoBulk]
  agg := fun a => by simp [Rows.uptoBulk]
  lnil := by simp [Rows.uptoBulkAll]
  lcons := fun d l => by simp [Rows.uptoBulkAll]
theorem own : ownKnob Try.prog.godebug = none := by kernel_rfl
theorem laid : laidOutB Try.prog = true := by kernel_rfl
def shs : List Sh := [.sl (.pair (.sl (.int .i64)) (.sl (.int .i64))), .int .i64, .int .i64]
theorem fits : FitsL Try.prog shs Try.f6.params.toList := ⟨⟨fits32, by kernel_rfl, by kernel_rfl⟩, ⟨fits3, by kernel_rfl, by kernel_rfl⟩, ⟨fits3, by kernel_rfl, by kernel_rfl⟩, trivial⟩
theorem readable : ∀ t ∈ Try.f6.params.toList, Try.prog.readableRec t = true ∧ t < Try.prog.types.size := by
  intro t ht
  have h : (Try.f6.params.toList.all fun t => Try.prog.readableRec t && decide (t < Try.prog.types.size)) = true := by kernel_rfl
  simpa using List.all_eq_true.1 h t ht
theorem answer (H : Type) : ∀ ds : List (DataW H), ds.length = Try.f6.params.toList.length → Rows.splitCanonSpec.fn H ds = { results := [.lit (.bool true)], args := ds } := by
  intro ds h
  match ds, h with
  | [d0, d1, d2], _ => rfl
theorem flat_sigs (ts : List Sg) : List.flatMap (Sh.enc (.pair (.sl (.int .i64)) (.sl (.int .i64)))) ts = sigC ts := by
  induction ts with
  | nil => rfl
  | cons s ts ih =>
    rw [List.flatMap_cons, ih]
    show ([V.view s.1.length 1 (List.flatMap (Sh.enc (.int .i64)) s.1)] ++ [V.view s.2.length 1 (List.flatMap (Sh.enc (.int .i64)) s.2)]) ++ sigC ts = _
    rw [flat_ints, flat_ints]; rfl
theorem val_sigs (ts : List Sg) : Sh.val (.sl (.pair (.sl (.int .i64)) (.sl (.int .i64)))) ts = .view ts.length 2 (sigC ts) := by
  simp only [Sh.val, Sh.size]
  rw [flat_sigs]
theorem bulk_sigs (ts : List Sg) (h : Sh.bulk (.sl (.pair (.sl (.int .i64)) (.sl (.int .i64)))) ts ≤ 1048576) : small ts ∧ ts.length ≤ 1048576 := by
  have h1 := bulk_sl (s := .pair (.sl (.int .i64)) (.sl (.int .i64))) ts
  refine ⟨fun s hs => ?_, by omega⟩
  have h2 := bulk_sl_mem (s := .pair (.sl (.int .i64)) (.sl (.int .i64))) hs
  have h3 := bulk_ints (k := .i64) s.1
  have h4 := bulk_ints (k := .i64) s.2
  have h5 : Sh.bulk (.pair (.sl (.int .i64)) (.sl (.int .i64))) s = Sh.bulk (.sl (.int .i64)) s.1 + Sh.bulk (.sl (.int .i64)) s.2 := rfl
  omega
theorem argsOk (y : ShsT shs) (_ : goodL shs y) (hb : bulkL shs y ≤ 1048576) : AC Try.prog 6 (valsL shs y) (fun r m => r = .bool true ∧ m = []) := by
  obtain ⟨ts, i, k, u⟩ := y
  simp only [shs, bulkL] at hb
  obtain ⟨h1, h2⟩ := bulk_sigs ts (by omega)
  have : AC Try.prog 6 [.view ts.length 2 (sigC ts), .int .i64 i, .int .i64 k] (fun r m => r = .bool true ∧ m = []) := by
    rcases num_any ts i with ha | ha | ⟨n, rfl, hn, ha⟩ <;> rcases num_any ts k with hb | hb | ⟨n2, rfl, hn2, hb⟩
    all_goals first
      | exact splitCanon_out ts h1 h2 _ _ _ _ _ _ _ _ ha hb rfl rfl rfl
      | exact splitCanon_in ts h1 h2 n n2 hn hn2
  rw [← val_sigs] at this
  exact this
set_option maxRecDepth 100000 in
theorem lifted (os : Os) (started : os.Started) (H : Type) (enc : TypeId × Value → H) (F : Stop.Interp) :
    ReturnsInHanded {} Try.checked os 6 .any ((Rows.OpenSpec.upto Rows.splitCanonSpec).pre6 enc Try.prog Try.f6 Rows.splitCanonUptoRow.domain false) (((Rows.OpenSpec.upto Rows.splitCanonSpec).at F).post enc Try.prog Try.f6 false true false false) := by
  refine returnsInHanded_of_cond (C := Try.checked) (s := Rows.OpenSpec.upto Rows.splitCanonSpec) (k := Rows.uptoSmall) rfl own started (by kernel_rfl) Try.func6
    (OpenSpec.witness (enc := enc) (C := Try.checked) (s := Rows.OpenSpec.upto Rows.splitCanonSpec) (k := Rows.uptoSmall) rfl false ⟨#[], #[.slice none 0 0, .int .i64 0, .int .i64 0], []⟩ 8 (by kernel_rfl) (by kernel_rfl) (by kernel_rfl)
      (x := ([.nil, .lit (.int .i64 0), .lit (.int .i64 0)], [], [])) (by kernel_rfl) rfl (by kernel_rfl)) ?_
  intro W base args ds gs before hval hW _ hk _
  have hb : Rows.uptoBulkAll (ds ++ gs) ≤ 1048576 := of_decide_eq_true hk
  exact law_calls (enc := enc) (shs := shs) (bulky H) (N := 1048576) argsOk fits rfl (answer H) rfl Try.underlying4 laid readable hval hW hb
theorem over : Rows.splitCanonUptoRow.holds Try.pinned (Rows.OpenSpec.upto Rows.splitCanonSpec) :=
  OpenClaim.holds_of_cond 6 Try.f6 rfl rfl rfl rfl rfl rfl rfl ⟨rfl, rfl, rfl, rfl, rfl⟩ rfl rfl rfl rfl rfl (by kernel_rfl) Try.func6 (by kernel_rfl)
    (of_decide_eq_true (by kernel_rfl)) (by unfold Func.isWrapper; first | (rw [if_pos (by decide +kernel)]; kernel_rfl) | (rw [if_neg (by decide +kernel)]; exact ⟨rfl, rfl⟩))
    (fun os started H enc _ F => lifted os started H enc F)
/-- the statement -/
theorem proved : Rows.SplitCanonUptoSaid := over
end Go.Proofs.Ytbdmieljkgcpcaa.lawSplitCanon
