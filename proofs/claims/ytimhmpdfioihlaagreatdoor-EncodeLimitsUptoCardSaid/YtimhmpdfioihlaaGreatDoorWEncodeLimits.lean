/- EncodeLimits, for all inputs that hold together at most 1048576 values and letters: the call returns true, and its arguments read behind it as they read before; the tables of unicode/utf8 hold what the program's text lays. No further condition. -/
import Derived.Test.YtimhmpdfioihlaaGreatDoorCards
import Derived.Test.YtimhmpdfioihlaaGreatDoorTie
import Derived.Test.YtimhmpdfioihlaaGreatDoorGPreV
import Derived.Test.YtimhmpdfioihlaaGreatDoorGRefpre
import Derived.Deep.DeepHandedRow
import Derived.Test.YtimhmpdfioihlaaGreatDoorLELim
namespace Go.Proofs.YtimhmpdfioihlaaGreatDoor.lawEncodeLimits
set_option linter.unusedSimpArgs false
set_option linter.unusedVariables false
open Go Go.Abs Go.ChangeShapes Go.WideShapes Go.ChangeAt Go.RowKit
theorem bulky (H : Type) : Zrn (Rows.uptoBulk (H := H)) (Rows.uptoBulkAll (H := H)) where
  str := fun s => by simp [Rows.uptoBulk]
  lit := fun l => by cases l <;> simp [Rows.uptoBulk]
  nil := by simp [Rows.uptoBulk]
  slice := fun a b => by simp [Rows.uptoBulk]
  agg := fun a => by simp [Rows.uptoBulk]
  lnil := by simp [Rows.uptoBulkAll]
  lcons := fun d l => by simp [Rows.uptoBulkAll]
theorem own : ownKnob Tryz.prog.godebug = none := by kernel_rfl
theorem laid : laidOutB Tryz.prog = true := by kernel_rfl
def shs : List Sh := [.int .u8, .int .u8]
theorem fits : ZwP Tryz.prog shs Tryz.f7.params.toList := ⟨⟨ZCx, by kernel_rfl, by kernel_rfl⟩, ⟨ZCx, by kernel_rfl, by kernel_rfl⟩, trivial⟩
theorem readable : ∀ t ∈ Tryz.f7.params.toList, Tryz.prog.readableRec t = true ∧ t < Tryz.prog.types.size := by
  intro t ht
  have h : (Tryz.f7.params.toList.all fun t => Tryz.prog.readableRec t && decide (t < Tryz.prog.types.size)) = true := by kernel_rfl
  simpa using List.all_eq_true.1 h t ht
theorem answer (H : Type) : ∀ ds : List (DataW H), ds.length = Tryz.f7.params.toList.length → Rows.encodeLimitsSpec.fn H ds = { results := [.lit (.bool true)], args := ds } := by
  intro ds h
  match ds, h with
  | [d0, d1], _ => rfl
theorem argsOk (y : Zkl shs) (hg : Zfb shs y) (hb : Zdk shs y ≤ 1048576) : AC Tryz.prog 7 (ZdM shs y) (fun r m => r = .bool true ∧ m = []) := by
  obtain ⟨k, mo, u⟩ := y
  exact ZGj k mo (Zdm hg.1) (Zdm hg.2.1)
/-- a world for the witness -/
def layC (l : List Int) : Obj → Obj
  | .cells _ t frozen => .cells (l.map (Value.int .u8)).toArray t frozen
  | o => o
noncomputable def laidWorld (os : Os) : World :=
  { World.holding Tryz.prog os ⟨#[], #[], []⟩ with heap := ((World.holding Tryz.prog os ⟨#[], #[], []⟩).heap.modify 0 (layC Zca)).modify 1 (layC Z5) }
theorem laid_met (os : Os) : laidMet Tryz.prog Rows.encodeLimitsUptoRow.laid ((laidWorld os).forCall (fun _ _ => 0) ⟨#[], #[.int .u8 0, .int .u8 0], []⟩).memory :=
  laidMet_of_run' 8 (by kernel_rfl) (by kernel_rfl)
theorem reads (os : Os) {H : Type} (enc : TypeId × Value → H) : ∃ places, DataW.whole enc Tryz.prog ((laidWorld os).forCall (fun _ _ => 0) ⟨#[], #[.int .u8 0, .int .u8 0], []⟩).memory Tryz.f7.params.toList Rows.encodeLimitsSpec.vars false (#[.int .u8 0, .int .u8 0] : Array Value).toList 8 = some ([.lit (.int .u8 0), .lit (.int .u8 0)], [], places) :=
  ⟨[], by kernel_rfl⟩
set_option maxRecDepth 100000 in
theorem lifted (os : Os) (started : os.Started) (H : Type) (enc : TypeId × Value → H) (F : Stop.Interp) :
    ReturnsInHanded {} Tryz.checked os 7 .any ((Rows.OpenSpec.upto Rows.encodeLimitsSpec).preRow enc Tryz.prog Tryz.f7 Rows.encodeLimitsUptoRow.domain false Rows.encodeLimitsUptoRow.laid) (((Rows.OpenSpec.upto Rows.encodeLimitsSpec).at F).post enc Tryz.prog Tryz.f7 false true false false) := by
  obtain ⟨places, hx⟩ := reads os enc
  refine returnsInHanded_of_row (C := Tryz.checked) (s := Rows.OpenSpec.upto Rows.encodeLimitsSpec) own started (by kernel_rfl) Tryz.func7
    (witness_row_at (enc := enc) (C := Tryz.checked) false (laidWorld os) #[.int .u8 0, .int .u8 0] rfl (by kernel_rfl) (by kernel_rfl) (by kernel_rfl)
      (OpenSpec.preRow_of_cond 8 hx (by kernel_rfl) (fun k hk => by cases hk; kernel_rfl) (by kernel_rfl) (laid_met os))) ?_
  intro W base args ds gs before hval hW h1 h2 h3 hL h4 h5
  have hb : Rows.uptoBulkAll (ds ++ gs) ≤ 1048576 := by first | exact of_decide_eq_true (h1 _ rfl) | exact of_decide_eq_true (h2 _ rfl) | exact of_decide_eq_true (h3 _ rfl) | exact of_decide_eq_true (h4 _ rfl)
  have hm : laidMet Tryz.prog Rows.encodeLimitsUptoRow.laid W := hL
  exact law_calls (enc := enc) (shs := shs) (bulky H) (N := 1048576) (ZFj hm (.tail _ (.head _)) (.head _)) argsOk fits rfl (answer H) rfl Tryz.underlying4 laid readable hval hW hb
theorem over : Rows.encodeLimitsUptoRow.holds Tryz.pinned (Rows.OpenSpec.upto Rows.encodeLimitsSpec) :=
  OpenClaim.holds_of_cond 7 Tryz.f7 rfl rfl rfl rfl rfl rfl rfl ⟨rfl, rfl, rfl, rfl, rfl⟩ rfl rfl rfl rfl rfl (by kernel_rfl) Tryz.func7 (by kernel_rfl)
    (of_decide_eq_true (by kernel_rfl)) (by unfold Func.isWrapper; first | (rw [if_pos (by decide +kernel)]; kernel_rfl) | (rw [if_neg (by decide +kernel)]; exact ⟨rfl, rfl⟩))
    (fun os started H enc _ F => by rw [OpenClaim.pre_eq_preRow]; exact lifted os started H enc F)
theorem plain (f : FuncId) (fn : Func) (hf : Tryz.pinned.checked.prog.funcNamed "plait/plaitlaw14.EncodeLimits" = some f) (hfn : Tryz.pinned.checked.prog.funcs[f]? = some fn) :
    true = Tryz.pinned.checked.prog.looks [] ∧ ∀ (j : Nat) t, fn.params[j]? = some t → Tryz.pinned.checked.prog.wantsStandIn t = false := by
  obtain rfl : f = 7 := Option.some.inj ((show Tryz.prog.funcNamed "plait/plaitlaw14.EncodeLimits" = some 7 by kernel_rfl).symm.trans hf) |>.symm
  obtain rfl : fn = Tryz.f7 := (Option.some.inj (Tryz.func7.symm.trans hfn)).symm
  refine ⟨by kernel_rfl, fun j t ht => ?_⟩
  have h : (Tryz.f7.params.toList.all fun t => !Tryz.prog.wantsStandIn t) = true := by kernel_rfl
  have hm := List.all_eq_true.1 h t (by rw [← Array.getElem?_toList] at ht; exact List.mem_of_getElem? ht)
  have hm : Tryz.prog.wantsStandIn t = false := by simpa using hm
  exact hm
set_option maxRecDepth 100000 in
/-- the statement -/
theorem proved : Rows.EncodeLimitsUptoCardSaid :=
  Claim7.holds_tied_plain_at .later [] _ _ _ _ over (fun _ h => by cases h) (by kernel_rfl) (fun _ h => by cases h) encodeLimitsUpto_row_tie rfl ⟨rfl, rfl⟩ (by kernel_rfl) rfl plain (by kernel_rfl)
end Go.Proofs.YtimhmpdfioihlaaGreatDoor.lawEncodeLimits
