/- What the walks of put share. -/
import Derived.Test.YteppkbaeacndiaaGCB
import Derived.Test.YteppkbaeacndiaaWR1
import Derived.Test.YteppkbaeacndiaaWR2o
import Derived.Test.YteppkbaeacndiaaWR2t
import Derived.Test.YteppkbaeacndiaaGEFld2
set_option linter.unusedSimpArgs false
set_option linter.unusedVariables false
namespace Go.Proofs.Yteppkbaeacndiaa
set_option maxRecDepth 20000
open Go Go.Abs
theorem const_ok (out : List Int) (ho : out.length <= 1000000000) (i : Ins) (hi : okIns i) (form : Int) :
    AM Try.prog 45 [.ref 0 0 out.length 1, .agg (insC i), .int .i64 form] [(0, ⟨true, nums .u8 out⟩)] [] (fun v m => v = .tup [.ref 6 0 (constP out i form).1.length 1, .bool (constP out i form).2] /\ m = [(6, ⟨true, nums .u8 (constP out i form).1⟩)]) := by
  by_cases h : form = 13
  · subst h
    exact const13 out ho i hi
  · exact constO out ho i hi form h
def T8w (i : Ins) (z : InfoS) (o : List Int) : St := { n := 185, slots := [(1, .ptr 1 0), (4, .ptr 4 0), (5, .bool true), (6, .ref 6 0 o.length 1)], mem := [(1, ⟨false, [.int .i64 i.op, .int .i64 i.a, .int .i64 i.b, .int .u64 i.lo, .int .u64 i.hi, .view i.l.length 1 (nums .i64 i.l)]⟩), (4, ⟨false, [.int .i64 z.1, .int .i64 z.2.1, .bool z.2.2.1, .view z.2.2.2.1.length 1 (nums .i64 z.2.2.2.1), .view z.2.2.2.2.length 1 (nums .i64 z.2.2.2.2)]⟩), (6, ⟨true, nums .u8 o⟩)] }
def S1w (x : Nat) (i : Ins) (N : Nat) (o : List Int) : St := { n := 185, slots := [(1, .ptr 1 0), (x, .ref 6 0 N 1)], mem := [(1, ⟨false, [.int .i64 i.op, .int .i64 i.a, .int .i64 i.b, .int .u64 i.lo, .int .u64 i.hi, .view i.l.length 1 (nums .i64 i.l)]⟩), (6, ⟨true, nums .u8 o⟩)] }
def S2w (x y : Nat) (b : Bool) (i : Ins) (N : Nat) (o : List Int) : St := { n := 185, slots := [(1, .ptr 1 0), (x, .ref 6 0 N 1), (y, .bool b)], mem := [(1, ⟨false, [.int .i64 i.op, .int .i64 i.a, .int .i64 i.b, .int .u64 i.lo, .int .u64 i.hi, .view i.l.length 1 (nums .i64 i.l)]⟩), (6, ⟨true, nums .u8 o⟩)] }
theorem uB_len (n : Int) : (uB n).length <= 10 := by
  unfold uB
  exact putU_len 9 _ (by simp only [Nat.reduceAdd, Nat.reduceMul, Nat.reducePow]; omega)
theorem uB_mod (n : Int) : uB (n % 18446744073709551616) = uB n := by unfold uB; rw [Int.emod_emod_of_dvd n (Int.dvd_refl _)]
theorem opB_len (n : Int) : (opB n).length <= 11 := by
  unfold opB; split
  · have := uB_len (n - 64768); simp only [List.length_cons]; omega
  · simp
theorem pu_n (n : Int) : AC Try.prog 42 [.view 1 1 (nums .u64 [n % 18446744073709551616])] (fun r m => r = .view (uB n).length 1 (nums .u8 (uB n)) /\ m = []) := by
  have := pu_1 (n % 18446744073709551616) ⟨by omega, by omega⟩
  rw [uB_mod] at this
  exact this
def PutR (A : List Int × Bool) (v : V) (m : List (Nat × List V)) : Prop :=
  (A.1 = [] /\ v = .tup [.nils, .bool A.2] /\ m = []) \/ ∃ k, v = .tup [.ref k 0 A.1.length 1, .bool A.2] /\ m = [(k, nums .u8 A.1)]
end Go.Proofs.Yteppkbaeacndiaa
namespace Go.Abs
set_option maxRecDepth 20000
open Go Go.RowKit
section
variable {P : Program} {C : Ctx} {st st' : St} {a : Act} {w : World} {l : List Oper} {o : Oper} {Q : Exit -> St -> Prop} {L : Array Bool} {n : Nat}
theorem AT.takeC (i : Nat) {L' : Array Bool} {d : Nat} {k k' : IntKind} {m : Int} {src dst : TypeId} {x : Operand} (ho : l[i]? = some o) (hg : o.guard = none) (hd : o.dst = some d) (hop : o.op = .convert src dst x) (hx : st.ev x = .int k m) (hk : intT P dst = some k') (hsr : (P.underlying src).isSome = true) (hdn : Nat.ble (d + 1) st.n = true) (hpan : PanOk Q)
    (hchk : (Region.noSelect l.toArray && Region.free .any l.toArray L i && (Region.ready .any l.toArray L).contains i) = true) (hL : L.setIfInBounds i true = L') (h : AT P l Q L' n (st.put d (.int k' (k'.wrap m)))) : AT P l Q L (n + 1) st := fun C a w ls hl ⟨S, β, hs⟩ => by
  subst hL
  simp only [Bool.and_eq_true] at hchk
  have h0 := ev_VR hs x
  rw [hx] at h0
  have hu := VR.int_inv h0
  obtain ⟨u, hu2⟩ := Option.isSome_iff_exists.1 hsr
  refine wpAny_take (v := .int k' (k'.wrap m)) (by simpa using ho) hchk.1.1 hchk.1.2 hchk.2 ?_ (.inl ⟨by simp [Region.wanted, hg], fun w => ?_⟩) ?_
  · rw [hd]; exact hpanT hpan
  · unfold execOp; simp [hop, hu, convert, run_underlying hu2, run_underlying (intT_spec hk), Conv.intToInt]
  · rw [hd]
    exact h C _ w _ (hl.step (by simpa using hchk.2)) ⟨S, β, hs.put (Nat.le_of_ble_eq_true hdn) .int⟩
end
end Go.Abs
