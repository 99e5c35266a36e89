/- ModulePads, for all inputs that hold together at most 1048576 values and letters: the call returns true, and its arguments read behind it as they read before; the tables of unicode/utf8 hold what the program's text lays. No further condition. -/
import Derived.Test.YtmomeejfopfchaaDoorCards
import Derived.Test.YtmomeejfopfchaaDoorTie
import Derived.Test.YtmomeejfopfchaaDoorGTabs
import Derived.Test.YtmomeejfopfchaaDoorGMCut
import Derived.Deep.DeepHandedRow
import Derived.Test.YtmomeejfopfchaaDoorMLPads
namespace Go.Proofs.YtmomeejfopfchaaDoor.lawModulePads
set_option linter.unusedSimpArgs false
set_option linter.unusedVariables false
open Go Go.Abs Go.ChangeShapes Go.WideShapes Go.ChangeAt Go.RowKit
theorem bulky (H : Type) : Bulky (Rows.uptoBulk (H := H)) (Rows.uptoBulkAll (H := H)) where
  str := fun s => by simp [Rows.uptoBulk]
  lit := fun l => by cases l <;> simp [Rows.uptoBulk]
  nil := by simp [Rows.uptoBulk]
  slice := fun a b => by simp [Rows.uptoBulk]
  agg := fun a => by simp [Rows.uptoBulk]
  lnil := by simp [Rows.uptoBulkAll]
  lcons := fun d l => by simp [Rows.uptoBulkAll]
theorem own : ownKnob Tryd.prog.godebug = none := by kernel_rfl
theorem laid : laidOutB Tryd.prog = true := by kernel_rfl
def shs : List Sh := [.sl (.int .u8), .int .i64, .str]
theorem fits : FitsL Tryd.prog shs Tryd.f3.params.toList := ⟨⟨fits22, by kernel_rfl, by kernel_rfl⟩, ⟨fits3, by kernel_rfl, by kernel_rfl⟩, ⟨fits9, by kernel_rfl, by kernel_rfl⟩, trivial⟩
theorem readable : ∀ t ∈ Tryd.f3.params.toList, Tryd.prog.readableRec t = true ∧ t < Tryd.prog.types.size := by
  intro t ht
  have h : (Tryd.f3.params.toList.all fun t => Tryd.prog.readableRec t && decide (t < Tryd.prog.types.size)) = true := by kernel_rfl
  simpa using List.all_eq_true.1 h t ht
theorem answer (H : Type) : ∀ ds : List (DataW H), ds.length = Tryd.f3.params.toList.length → Rows.modulePadsSpec.fn H ds = { results := [.lit (.bool true)], args := ds } := by
  intro ds h
  match ds, h with
  | [d0, d1, d2], _ => rfl
theorem argsOk (y : ShsT shs) (hg : goodL shs y) (hb : bulkL shs y ≤ 1048576) : AC Tryd.prog 3 (valsL shs y) (fun r m => r = .bool true ∧ m = []) := by
  obtain ⟨xs, a, w, u⟩ := y
  have h1 := bulk_ints (k := .u8) xs
  simp only [shs, bulkL] at hb
  have hby : bytes xs := fun x hx => good_u8 (hg.1 x hx)
  have := mpads_ok xs hby (by omega) a w
  rw [← val_ints] at this
  exact this
/-- a world for the witness -/
def layC (l : List Int) : Obj → Obj
  | .cells _ t frozen => .cells (l.map (Value.int .u8)).toArray t frozen
  | o => o
noncomputable def laidWorld (os : Os) : World :=
  { World.holding Tryd.prog os ⟨#[], #[], []⟩ with heap := ((World.holding Tryd.prog os ⟨#[], #[], []⟩).heap.modify 0 (layC firstI)).modify 1 (layC acceptI) }
theorem laid_met (os : Os) : laidMet Tryd.prog Rows.modulePadsUptoRow.laid ((laidWorld os).forCall (fun _ _ => 0) ⟨#[], #[.slice none 0 0, .int .i64 0, .string ⟨#[]⟩], []⟩).memory :=
  laidMet_of_run' 8 (by kernel_rfl) (by kernel_rfl)
theorem reads (os : Os) {H : Type} (enc : TypeId × Value → H) : ∃ places, DataW.whole enc Tryd.prog ((laidWorld os).forCall (fun _ _ => 0) ⟨#[], #[.slice none 0 0, .int .i64 0, .string ⟨#[]⟩], []⟩).memory Tryd.f3.params.toList Rows.modulePadsSpec.vars false (#[.slice none 0 0, .int .i64 0, .string ⟨#[]⟩] : Array Value).toList 8 = some ([.nil, .lit (.int .i64 0), .lit (.string [])], [], places) :=
  ⟨[], by kernel_rfl⟩
set_option maxRecDepth 100000 in
theorem lifted (os : Os) (started : os.Started) (H : Type) (enc : TypeId × Value → H) (F : Stop.Interp) :
    ReturnsInHanded {} Tryd.checked os 3 .any ((Rows.OpenSpec.upto Rows.modulePadsSpec).preRow enc Tryd.prog Tryd.f3 Rows.modulePadsUptoRow.domain false Rows.modulePadsUptoRow.laid) (((Rows.OpenSpec.upto Rows.modulePadsSpec).at F).post enc Tryd.prog Tryd.f3 false true false false) := by
  obtain ⟨places, hx⟩ := reads os enc
  refine returnsInHanded_of_row (C := Tryd.checked) (s := Rows.OpenSpec.upto Rows.modulePadsSpec) own started (by kernel_rfl) Tryd.func3
    (witness_row_at (enc := enc) (C := Tryd.checked) false (laidWorld os) #[.slice none 0 0, .int .i64 0, .string ⟨#[]⟩] rfl (by kernel_rfl) (by kernel_rfl) (by kernel_rfl)
      (OpenSpec.preRow_of_cond 8 hx (by kernel_rfl) (fun k hk => by cases hk; kernel_rfl) (by kernel_rfl) (laid_met os))) ?_
  intro W base args ds gs before hval hW h1 h2 h3 hL h4 h5
  have hb : Rows.uptoBulkAll (ds ++ gs) ≤ 1048576 := by first | exact of_decide_eq_true (h1 _ rfl) | exact of_decide_eq_true (h2 _ rfl) | exact of_decide_eq_true (h3 _ rfl) | exact of_decide_eq_true (h4 _ rfl)
  have hm : laidMet Tryd.prog Rows.modulePadsUptoRow.laid W := hL
  exact law_calls (enc := enc) (shs := shs) (bulky H) (N := 1048576) (gt_of hm (.tail _ (.head _)) (.head _)) argsOk fits rfl (answer H) rfl Tryd.underlying4 laid readable hval hW hb
theorem over : Rows.modulePadsUptoRow.holds Tryd.pinned (Rows.OpenSpec.upto Rows.modulePadsSpec) :=
  OpenClaim.holds_of_cond 3 Tryd.f3 rfl rfl rfl rfl rfl rfl rfl ⟨rfl, rfl, rfl, rfl, rfl⟩ rfl rfl rfl rfl rfl (by kernel_rfl) Tryd.func3 (by kernel_rfl)
    (of_decide_eq_true (by kernel_rfl)) (by unfold Func.isWrapper; first | (rw [if_pos (by decide +kernel)]; kernel_rfl) | (rw [if_neg (by decide +kernel)]; exact ⟨rfl, rfl⟩))
    (fun os started H enc _ F => by rw [OpenClaim.pre_eq_preRow]; exact lifted os started H enc F)
theorem plain (f : FuncId) (fn : Func) (hf : Tryd.pinned.checked.prog.funcNamed "plait/plaitlaw13.ModulePads" = some f) (hfn : Tryd.pinned.checked.prog.funcs[f]? = some fn) :
    true = Tryd.pinned.checked.prog.looks [] ∧ ∀ (j : Nat) t, fn.params[j]? = some t → Tryd.pinned.checked.prog.wantsStandIn t = false := by
  obtain rfl : f = 3 := Option.some.inj ((show Tryd.prog.funcNamed "plait/plaitlaw13.ModulePads" = some 3 by kernel_rfl).symm.trans hf) |>.symm
  obtain rfl : fn = Tryd.f3 := (Option.some.inj (Tryd.func3.symm.trans hfn)).symm
  refine ⟨by kernel_rfl, fun j t ht => ?_⟩
  have h : (Tryd.f3.params.toList.all fun t => !Tryd.prog.wantsStandIn t) = true := by kernel_rfl
  have hm := List.all_eq_true.1 h t (by rw [← Array.getElem?_toList] at ht; exact List.mem_of_getElem? ht)
  have hm : Tryd.prog.wantsStandIn t = false := by simpa using hm
  exact hm
set_option maxRecDepth 100000 in
/-- the statement -/
theorem proved : Rows.ModulePadsUptoCardSaid :=
  Claim7.holds_tied_plain_at .later [] _ _ _ _ over (fun _ h => by cases h) (by kernel_rfl) (fun _ h => by cases h) modulePadsUpto_row_tie rfl ⟨rfl, rfl⟩ (by kernel_rfl) rfl plain (by kernel_rfl)
end Go.Proofs.YtmomeejfopfchaaDoor.lawModulePads
