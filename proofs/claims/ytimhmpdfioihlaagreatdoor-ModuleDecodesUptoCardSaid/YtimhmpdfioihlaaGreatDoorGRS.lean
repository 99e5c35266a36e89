/- Zgi, number. -/
import Derived.Test.YtimhmpdfioihlaaGreatDoorDP
import Derived.Test.YtimhmpdfioihlaaGreatDoorGWords
import Derived.Test.YtimhmpdfioihlaaGreatDoorGCB
import Derived.Test.YtimhmpdfioihlaaGreatDoorGXP
import Derived.Test.YtimhmpdfioihlaaGreatDoorGRMP
set_option linter.unusedSimpArgs false
set_option linter.unusedVariables false
set_option maxHeartbeats 12800000
namespace Go.Proofs.YtimhmpdfioihlaaGreatDoor
set_option maxRecDepth 20000
open Go Go.Abs Nat
theorem ZDb : Zc Tryz.prog 175 = true := by kernel_rfl
theorem ZDA : Zc Tryz.prog 177 = true := by kernel_rfl
theorem ZEl : Zc Tryz.prog 75 = true := by kernel_rfl
attribute [local irreducible] AW AWL AC FW CW CWr IntKind.wrap
open MB
theorem ZDk.cl {p : Prop} (h : p := by
 first
  | refine AWL.cMP (f := 74) [] Zyc rfl rfl rfl rfl rfl rfl rfl (hfail) ?_ ?_
  | refine AWL.frzG rfl rfl rfl ?_
 all_goals (apply_rules (newGoals := .nonDependentOnly) only [dep]; exact ())) : p := h
theorem ZDl.cl {p : Prop} (h : p := by
 first
  | refine AWL.cMP (f := 74) [] Zyc rfl rfl rfl rfl rfl rfl rfl (hfail) ?_ ?_
  | refine AWL.frzG rfl rfl rfl ?_
  | refine AWL.cC (f := 75) ZEl rfl rfl rfl rfl rfl rfl (hu) ?_
 all_goals (apply_rules (newGoals := .nonDependentOnly) only [dep]; exact ())) : p := h
open ZDk ZiN Zl in
theorem ZcK {b : List Int} {p : Int} {en : Nat} (h : okT b p en) : TF 48 [] b en p (Zba (b.take en) p) (.int .u8) := by
 have hfail := ZcX 10
 have hlen := h.len
 obtain ⟨hb, hl, he, p0, p1⟩ := h
 obtain ⟨k, rfl⟩ : ∃ k : Nat, p = k := ⟨p.toNat, by omega⟩
 have ew : IntKind.i64.wrap ((k : Int) + 1) = (k : Int) + 1 := Zb _ (by omega) (by omega)
 have ew2 : IntKind.i64.wrap ((k : Int) + 1 - 1) = (k : Int) := by rw [Zb _ (by omega) (by omega)]; omega
 obtain ⟨A, hA⟩ : ∃ A, Zba (b.take en) k = A := ⟨_, rfl⟩
 rw [hA]
 unfold Zba at hA
 rw [hlen] at hA
 unfold TF OKR ERR tpM
 by_cases c : (k : Int) >= en
 ·rw [if_pos c] at hA
  subst hA
  refine AMP.enter Tryz.func48 rfl (Yaa rfl) (fun pn => ?_)
  simp only [Tryz.f48]
  have nx := trivial
  refine' ZhJ
  all_goals first | exact ⟨trivial, trivial⟩ | exact ⟨rfl, trivial⟩ | exact ⟨rfl, rfl⟩ | exact ⟨trivial, rfl⟩ | (exfalso; omega) | trace_state
 ·rw [if_neg c, Yap, show (b.take en).getD k 0 = b.getD k 0 by simp only [Yah]; rw [List.getElem?_take_of_lt (by omega)]] at hA
  have hx := hb _ (Z8 (show k < b.length by omega))
  subst hA
  refine AMP.enter Tryz.func48 rfl (Yaa rfl) (fun pn => ?_)
  simp only [Tryz.f48]
  have nx := aI @ew (aI @ew2 trivial)
  refine' ZhJ
  all_goals first | exact ⟨trivial, trivial⟩ | exact ⟨rfl, trivial⟩ | exact ⟨rfl, rfl⟩ | exact ⟨trivial, rfl⟩ | (exfalso; omega) | trace_state
open ZDl ZgY Zl in
theorem Zcb {b : List Int} {p : Int} {en : Nat} (h : okT b p en) : TF 50 [] b en p (nmT (b.take en) p) (.int .i64) := by
 have hfail := ZcX 10
 have hu := ZEh (b.take en) h.byt (by rw [h.len]; have := h.hl; have := h.he; omega) p 32
 have hus := fun h9 => ZaO h.byt ⟨h.p0, by rw [h.len]; exact h.p1⟩ h9
 have hlen := h.len
 have htk : List.take en (Zh .u8 b) = Zh .u8 (b.take en) := by simp only [Zh, List.map_take]
 obtain ⟨hb, hl, he, p0, p1⟩ := h
 obtain ⟨A, hA⟩ : ∃ A, nmT (b.take en) p = A := ⟨_, rfl⟩
 rw [hA]
 unfold nmT at hA
 rw [hlen] at hu
 generalize ZaM (b.take en) p 32 = z at hu hus hA
 obtain ⟨n, to, e⟩ := z
 simp only at hu hus hA
 unfold TF OKR ERR tpM
 by_cases c : e ≠ 0
 ·rw [if_pos c] at hA
  subst hA
  refine AMP.enter Tryz.func50 rfl (Yaa rfl) (fun pn => ?_)
  simp only [Tryz.f50]
  have nx := aI @htk trivial
  refine' ZhJ
  all_goals first | exact ⟨trivial, trivial⟩ | exact ⟨rfl, trivial⟩ | exact ⟨rfl, rfl⟩ | exact ⟨trivial, rfl⟩ | (exfalso; omega) | trace_state
 ·rw [if_neg c] at hA
  subst hA
  have hus := hus (Classical.not_not.1 c)
  have ew : IntKind.i64.wrap n = n := Zb _ (by omega) (by omega)
  refine AMP.enter Tryz.func50 rfl (Yaa rfl) (fun pn => ?_)
  simp only [Tryz.f50]
  have nx := aI @htk (aI @ew trivial)
  refine' ZhJ
  all_goals first | exact ⟨trivial, trivial⟩ | exact ⟨rfl, trivial⟩ | exact ⟨rfl, rfl⟩ | exact ⟨trivial, rfl⟩ | (exfalso; omega) | trace_state
end Go.Proofs.YtimhmpdfioihlaaGreatDoor
namespace Go.Proofs.YtimhmpdfioihlaaGreatDoor
set_option maxRecDepth 20000
open Go Go.Abs
def ZkV {α : Type} (x : Res α) (enc : α -> V) (b : List Int) (en : Nat) (v : V) (m : Mem) : Prop := match x with
 | .ok (a, t) => v = enc a /\ m = tpM 0 b t en ++ [(3, ⟨false, [.ptr 0 0]⟩)]
 | .error _ => False
def ZkW {α : Type} (x : Res α) (b : List Int) (en : Nat) (ch : List PanicEntry) (m : Mem) : Prop := match x with
 | .ok _ => False
 | .error (e, t) => ch = ZwG e /\ m = tpM 0 b t en ++ [(3, ⟨false, [.ptr 0 0]⟩)]
theorem Zd8 {α : Type} (x : Res (List α)) : bnd x (fun r t => .ok ([] ++ r, t)) = x := by
 rcases x with e | ⟨a, t⟩ <;> rfl
theorem Zd9 {α : Type} (x : Res (List α)) (l : List α) (a : α) : bnd (bnd x fun r t => .ok (a :: r, t)) (fun r t => .ok (l ++ r, t)) = bnd x (fun r t => .ok (l ++ [a] ++ r, t)) := by
 rcases x with e | ⟨r, t⟩
 ·rfl
 ·simp [bnd]
theorem Zq {α : Type} {f : α -> List V} {k : Nat} (hf : ∀ x, (f x).length = k) (l : List α) : (l.flatMap f).length = l.length * k := by
 induction l with
 | nil => simp
 | cons x l ih => rw [List.flatMap_cons, Yal, hf, ih, Yag, Nat.succ_mul]; omega
theorem Zai {α : Type} {f : α -> List V} (l : List α) (x : α) : (l ++ [x]).flatMap f = l.flatMap f ++ f x := by simp
end Go.Proofs.YtimhmpdfioihlaaGreatDoor
namespace Go.Proofs.YtimhmpdfioihlaaGreatDoor
set_option maxRecDepth 20000
open Go Go.Abs Nat
attribute [local irreducible] AW AWL AC FW CW CWr IntKind.wrap
section
def ZnH : List V := [.nils, .nils, .nils, .nils, .nils, .nils, .nils, .int .i64 0, .nils, .nils, .nils]
theorem ZFj.NM : type_of% @MB.NM /\ type_of% @ZnH.eq_1 :=
 ⟨MB.NM, @ZnH.eq_1⟩
open ZFj
theorem ZDu.att {p : Prop} (h : p := by
 first
  | (first | (refine AT.takeF (L := (bA 5 0)) (L' := (bA 5 2)) 1 rfl rfl rfl rfl rfl rfl rfl rfl Zda (by decide +kernel) (by decide +kernel) ?_; (try refine' Zi)) | refine AT.step (L := (bA 5 2)) [0, 2] (by decide +kernel) (by decide) (ZfM ⟨_, (bA 5 3), rfl, (by decide +kernel), ?_⟩ ⟨_, (bA 5 6), rfl, (by decide +kernel), ?_⟩) | refine AT.step (L := (bA 5 6)) [0] (by decide +kernel) (by decide) (Za8 ⟨_, (bA 5 7), rfl, (by decide +kernel), ?_⟩) | refine AT.step (L := (bA 5 7)) [3] (by decide +kernel) (by decide) (Za8 ⟨_, (bA 5 15), rfl, (by decide +kernel), ?_⟩) | refine AT.step (L := (bA 5 15)) [4] (by decide +kernel) (by decide) (Za8 ⟨_, (bA 5 31), rfl, (by decide +kernel), ?_⟩) | refine AT.done (L := (bA 5 31)) (by decide +kernel) ?_ | refine AT.step (L := (bA 5 3)) [2, 3] (by decide +kernel) (by decide) (ZfM ⟨_, (bA 5 7), rfl, (by decide +kernel), ?_⟩ ⟨_, (bA 5 11), rfl, (by decide +kernel), ?_⟩) | refine AT.step (L := (bA 5 11)) [2] (by decide +kernel) (by decide) (Za8 ⟨_, (bA 5 15), rfl, (by decide +kernel), ?_⟩) | (refine AT.takeM (L := (bA 8 0)) (L' := (bA 8 1)) 0 rfl rfl rfl rfl rfl Zda (by decide +kernel) (by decide +kernel) ?_; (try refine' Zi)) | refine AT.step (L := (bA 8 1)) [1, 5] (by decide +kernel) (by decide) (ZfM ⟨_, (bA 8 3), rfl, (by decide +kernel), ?_⟩ ⟨_, (bA 8 33), rfl, (by decide +kernel), ?_⟩) | refine AT.step (L := (bA 8 33)) [1] (by decide +kernel) (by decide) (Za8 ⟨_, (bA 8 35), rfl, (by decide +kernel), ?_⟩) | (refine AT.takeM (L := (bA 8 35)) (L' := (bA 8 39)) 2 rfl rfl rfl rfl rfl Zda (by decide +kernel) (by decide +kernel) ?_; (try refine' Zi)) | (refine AT.takeX (L := (bA 8 39)) (L' := (bA 8 47)) 3 rfl rfl rfl rfl rfl rfl rfl Zda (by decide +kernel) (by decide +kernel) ?_; (try refine' Zi)) | (refine AT.takeX (L := (bA 8 47)) (L' := (bA 8 63)) 4 rfl rfl rfl rfl rfl rfl rfl Zda (by decide +kernel) (by decide +kernel) ?_; (try refine' Zi)) | refine AT.step (L := (bA 8 63)) [6] (by decide +kernel) (by decide) (Za8 ⟨_, (bA 8 127), rfl, (by decide +kernel), ?_⟩) | refine AT.step (L := (bA 8 127)) [7] (by decide +kernel) (by decide) (Za8 ⟨_, (bA 8 255), rfl, (by decide +kernel), ?_⟩) | refine AT.done (L := (bA 8 255)) (by decide +kernel) ?_ | (refine AT.takeM (L := (bA 8 3)) (L' := (bA 8 7)) 2 rfl rfl rfl rfl rfl Zda (by decide +kernel) (by decide +kernel) ?_; (try refine' Zi)) | (refine AT.takeX (L := (bA 8 7)) (L' := (bA 8 15)) 3 rfl rfl rfl rfl rfl rfl rfl Zda (by decide +kernel) (by decide +kernel) ?_; (try refine' Zi)) | (refine AT.takeX (L := (bA 8 15)) (L' := (bA 8 31)) 4 rfl rfl rfl rfl rfl rfl rfl Zda (by decide +kernel) (by decide +kernel) ?_; (try refine' Zi)) | refine AT.step (L := (bA 8 31)) [5] (by decide +kernel) (by decide) (Za8 ⟨_, (bA 8 63), rfl, (by decide +kernel), ?_⟩))
 all_goals (apply_rules (newGoals := .nonDependentOnly) only [dep]; exact ())) : p := h
open Znu Zs6 in
theorem Zzk (v0 v1 v2 v3 v4 v5 v6 v7 v8 v9 : List V) (n0 n1 n2 n3 n4 n5 n6 n7 n8 n9 s0 s1 s2 s3 s4 s5 s6 s7 s8 s9 : Nat) (x e : Int) : AMD Tryz.prog 46 [.ptr 0 0, .ptr 1 0]
 [(0, ⟨false, [.view n0 s0 v0, .view n1 s1 v1, .view n2 s2 v2, .view n3 s3 v3, .view n4 s4 v4, .view n5 s5 v5, .view n6 s6 v6, .int .i64 x, .view n7 s7 v7, .view n8 s8 v8, .view n9 s9 v9]⟩), (1, ⟨false, [.int .i64 e]⟩)] [0, 1] .returning .returning
 [(0, ⟨false, [.view n0 s0 v0, .view n1 s1 v1, .view n2 s2 v2, .view n3 s3 v3, .view n4 s4 v4, .view n5 s5 v5, .view n6 s6 v6, .int .i64 x, .view n7 s7 v7, .view n8 s8 v8, .view n9 s9 v9]⟩), (1, ⟨false, [.int .i64 e]⟩)] := by
 refine AMD.enter Tryz.func46 (rv := .nilIface) rfl (Yaa rfl) ⟨rfl, rfl, rfl⟩ ⟨rfl, rfl, rfl⟩ (Yaa rfl) (Yaa rfl) (fun c0 cs h => .inr ⟨by simp [recoverD, h], rfl, rfl⟩) (fun pn => ?_)
 simp only [Tryz.f46]
 have nx := trivial
 refine' Zwe
open ZDu Znu Zs6 in
theorem ZcZ (v0 v1 v2 v3 v4 v5 v6 v7 v8 v9 : List V) (n0 n1 n2 n3 n4 n5 n6 n7 n8 n9 s0 s1 s2 s3 s4 s5 s6 s7 s8 s9 : Nat) (x e0 e : Int) : AMD Tryz.prog 46 [.ptr 0 0, .ptr 1 0]
 [(0, ⟨false, [.view n0 s0 v0, .view n1 s1 v1, .view n2 s2 v2, .view n3 s3 v3, .view n4 s4 v4, .view n5 s5 v5, .view n6 s6 v6, .int .i64 x, .view n7 s7 v7, .view n8 s8 v8, .view n9 s9 v9]⟩), (1, ⟨false, [.int .i64 e0]⟩)] [0, 1] (.panicking (ZwG e)) (.panicking [{ v := .iface 96 (.agg #[.int .i64 e]), recovered := true }])
 [(0, ⟨false, ZnH⟩), (1, ⟨false, [.int .i64 e]⟩)] := by
 refine AMD.enter Tryz.func46 (rv := .iface 96 (.agg #[.int .i64 e])) rfl (Yaa rfl) ⟨rfl, rfl, rfl⟩ ⟨rfl, rfl, rfl⟩ (Yaa rfl) (Yaa rfl) (fun c0 cs h => .inl (by simp [recoverD, h, ZwG])) (fun pn => ?_)
 simp only [Tryz.f46]
 have nx := trivial
 refine' ZvM
 refine AW.drawT (L0 := (bA 5 0)) (by decide +kernel) ZfU ?_
 have nx := trivial
 refine' ZvQ
end
section
theorem ZBb {v : List Int} : get v 64 0 = lo v := by
 unfold get lo; rw [if_pos (by decide)]; rfl
theorem ZBc {v : List Int} (hl : v.length = 16) : get v 64 1 = hi v := by
 unfold get hi; rw [if_pos (by decide)]
 show le ((v.drop 8).take 8) = _
 rw [Yad (by rw [Yaw]; omega)]
theorem ZzA.NM : type_of% @NSX /\ type_of% @St.keepS.eq_1 /\ type_of% @TY /\ type_of% @SLS /\ type_of% @Zas /\ type_of% @Za5 /\ type_of% @dz /\ type_of% @Za :=
 ⟨NSX, St.keepS.eq_1, @TY, @SLS, @Zas, @Za5, @dz, @Za⟩
open ZzA
theorem Zpy.cl {p : Prop} (h : p := by
 first
  | refine AWL.frzG rfl rfl rfl ?_
  | refine AWL.cC (f := 177) ZDA rfl rfl rfl rfl rfl rfl (Zud _ hl hb _ _) ?_
 all_goals (apply_rules (newGoals := .nonDependentOnly) only [dep]; exact ())) : p := h
theorem Zpy.sd {p : Prop} (h : p := by first | exact Zvm) : p := h
open Zpy Zs0 in
theorem Zue (v : List Int) (hl : v.length = 16) (hb : bytes v) : AC Tryz.prog 173 [.fagg (Zh .u8 v)] (fun r m => r = .agg [.int .u64 (lo v), .int .u64 (hi v)] /\ m = []) := by
 refine AC.enter Tryz.func173 rfl (Yaa rfl) ?_
 simp only [Tryz.f173]
 have nx := aI @hl trivial
 refine' ZvT
 all_goals first | exact ⟨trivial, trivial⟩ | exact ⟨rfl, trivial⟩ | exact ⟨rfl, rfl⟩ | exact ⟨trivial, rfl⟩ | exact ⟨by rw [ZBb, ZBc hl], trivial⟩ | (exfalso; omega) | trace_state
end
end Go.Proofs.YtimhmpdfioihlaaGreatDoor
namespace Go.Proofs.YtimhmpdfioihlaaGreatDoor
set_option maxRecDepth 20000
open Go Go.Abs Nat
attribute [local irreducible] AW AWL AC FW CW CWr IntKind.wrap
open MB
theorem ZDe.cl {p : Prop} (h : p := by
 first
  | refine AWL.cM (f := 155) [(0, 0), (1002, 1002)] Zj1 rfl rfl rfl rfl rfl rfl rfl (hfail) ?_
  | refine AWL.frzG rfl rfl rfl ?_
 all_goals (apply_rules (newGoals := .nonDependentOnly) only [dep]; exact ())) : p := h
theorem ZDf.cl {p : Prop} (h : p := by
 first
  | refine AWL.cM (f := 155) [(0, 0), (1002, 1002)] Zj1 rfl rfl rfl rfl rfl rfl rfl (hfail) ?_
  | refine AWL.frzG rfl rfl rfl ?_
  | refine AWL.cC (f := 75) ZEl rfl rfl rfl rfl rfl rfl (hu) ?_
 all_goals (apply_rules (newGoals := .nonDependentOnly) only [dep]; exact ())) : p := h
theorem ZDg.cl {p : Prop} (h : p := by
 first
  | refine AWL.cM (f := 155) [(0, 0), (1002, 1002)] Zj1 rfl rfl rfl rfl rfl rfl rfl (hfail) ?_
  | refine AWL.frzG rfl rfl rfl ?_
  | refine AWL.cC (f := 175) ZDb rfl rfl rfl rfl rfl rfl (hs) ?_
 all_goals (apply_rules (newGoals := .nonDependentOnly) only [dep]; exact ())) : p := h
open ZDe ZiN ZeE in
theorem ZeK (b : List Int) (hb : bytes b) (hlen : b.length <= 1000000000) (r : Rd) (hr : Zb6 b r) : AM Tryz.prog 153 [.ptr 0 0] (rdM 0 1002 b r) [0] (fun v m => v = .int .i64 (Z7 b r).1 /\ m = rdM 0 1002 b (Z7 b r).2) := by
 have hfail := ZaS b r 10
 obtain ⟨p, o, j, er⟩ := r
 obtain ⟨h0, h1⟩ := hr
 simp only at h0 h1
 obtain ⟨k, rfl⟩ : ∃ k : Nat, p = k := ⟨p.toNat, by omega⟩
 have ew : IntKind.i64.wrap ((k : Int) + 1) = (k : Int) + 1 := Zb _ (by omega) (by omega)
 have ew2 : IntKind.i64.wrap ((k : Int) + 1 - 1) = (k : Int) := by rw [Zb _ (by omega) (by omega)]; omega
 obtain ⟨A, hA⟩ : ∃ A, Z7 b ⟨k, o, j, er⟩ = A := ⟨_, rfl⟩
 rw [hA]
 unfold rdM at hfail ⊢
 by_cases h : er ≠ 0 \/ (k : Int) >= b.length
 ·have hA' : A = (0, Z4 ⟨k, o, j, er⟩ 10) := by rw [<- hA]; exact if_pos h
  subst hA'
  generalize Z4 ⟨k, o, j, er⟩ 10 = r2 at hfail
  obtain ⟨p2, o2, j2, e2⟩ := r2
  refine AM.enter Tryz.func153 rfl (Yaa rfl) (fun pn => ?_)
  simp only [Tryz.f153]
  have nx := trivial
  refine' ZoZ
  all_goals first | exact ⟨trivial, trivial⟩ | exact ⟨rfl, trivial⟩ | exact ⟨rfl, rfl⟩ | exact ⟨trivial, rfl⟩ | (exfalso; omega) | trace_state
 ·have hA' : A = (b.getD k 0, ⟨(k : Int) + 1, o, j, er⟩) := by rw [<- hA]; exact if_neg h
  have hx := hb _ (Z8 (show k < b.length by omega))
  have ex : IntKind.i64.wrap (b.getD k 0) = b.getD k 0 := Zb _ (by have := hx.1; omega) (by have := hx.2; omega)
  subst hA'
  clear hA
  refine AM.enter Tryz.func153 rfl (Yaa rfl) (fun pn => ?_)
  simp only [Tryz.f153]
  have nx := aI @ew (aI @ew2 (aI @ex trivial))
  refine' ZoZ
  all_goals first | exact ⟨trivial, trivial⟩ | exact ⟨rfl, trivial⟩ | exact ⟨rfl, rfl⟩ | exact ⟨trivial, rfl⟩ | (exfalso; omega) | trace_state
open ZDf ZgY ZeE in
theorem ZbI (b : List Int) (hb : bytes b) (hlen : b.length <= 1000000000) (r : Rd) (hr : Zb6 b r) : AM Tryz.prog 154 [.ptr 0 0] (rdM 0 1002 b r) [0] (fun v m => v = .int .i64 (Zab b r).1 /\ m = rdM 0 1002 b (Zab b r).2) := by
 have hfail := ZaS b r 10
 have hu := ZEh b hb (by omega) r.pos 32
 have hus := fun h => ZaO hb ⟨hr.p0, hr.p1⟩ h
 obtain ⟨p, o, j, er⟩ := r
 obtain ⟨h0, h1⟩ := hr
 simp only at h0 h1 hu hus
 obtain ⟨A, hA⟩ : ∃ A, Zab b ⟨p, o, j, er⟩ = A := ⟨_, rfl⟩
 rw [hA]
 unfold Zab at hA
 simp only at hA
 generalize ZaM b p 32 = z at hu hus hA
 obtain ⟨n, to, e⟩ := z
 simp only at hu hus hA
 unfold rdM at hfail ⊢
 refine AM.enter Tryz.func154 rfl (Yaa rfl) (fun pn => ?_)
 simp only [Tryz.f154]
 by_cases h : er ≠ 0
 ·rw [if_pos h] at hA
  subst hA
  have nx := trivial
  refine' Zkr
  all_goals first | exact ⟨trivial, trivial⟩ | exact ⟨rfl, trivial⟩ | exact ⟨rfl, rfl⟩ | exact ⟨trivial, rfl⟩ | (exfalso; omega) | trace_state
 ·rw [if_neg h] at hA
  by_cases c : e ≠ 0
  ·rw [if_pos c] at hA
   subst hA
   generalize Z4 ⟨p, o, j, er⟩ 10 = r2 at hfail
   obtain ⟨p2, o2, j2, e2⟩ := r2
   have nx := trivial
   refine' Zkr
   all_goals first | exact ⟨trivial, trivial⟩ | exact ⟨rfl, trivial⟩ | exact ⟨rfl, rfl⟩ | exact ⟨trivial, rfl⟩ | (exfalso; omega) | trace_state
  ·rw [if_neg c] at hA
   subst hA
   have hus := hus (Classical.not_not.1 c)
   have ew : IntKind.i64.wrap n = n := Zb _ (by omega) (by omega)
   have nx := aI @ew trivial
   refine' Zkr
   all_goals first | exact ⟨trivial, trivial⟩ | exact ⟨rfl, trivial⟩ | exact ⟨rfl, rfl⟩ | exact ⟨trivial, rfl⟩ | (exfalso; omega) | trace_state
open ZDg Zno ZeE in
theorem Zkz (b : List Int) (hb : bytes b) (hlen : b.length <= 1000000000) (n : Int) (r : Rd) : AM Tryz.prog 171 [.ptr 0 0, .int .i64 n] (rdM 0 1002 b r) [0] (fun v m => v = .int .i64 (Zfd b n r).1 /\ m = rdM 0 1002 b (Zfd b n r).2) := by
 have hfail := ZaS b r 10
 have hs := ZE3 b hb (by omega) r.pos n
 obtain ⟨p, o, j, er⟩ := r
 simp only at hs
 obtain ⟨A, hA⟩ : ∃ A, Zfd b n ⟨p, o, j, er⟩ = A := ⟨_, rfl⟩
 rw [hA]
 unfold Zfd at hA
 simp only at hA
 generalize Zad b p n = z at hs hA
 obtain ⟨x, to, e⟩ := z
 simp only at hs hA
 unfold rdM at hfail ⊢
 refine AM.enter Tryz.func171 rfl (Yaa rfl) (fun pn => ?_)
 simp only [Tryz.f171]
 by_cases h : er ≠ 0
 ·rw [if_pos h] at hA
  subst hA
  have nx := trivial
  refine' Zkh
  all_goals first | exact ⟨trivial, trivial⟩ | exact ⟨rfl, trivial⟩ | exact ⟨rfl, rfl⟩ | exact ⟨trivial, rfl⟩ | (exfalso; omega) | trace_state
 ·rw [if_neg h] at hA
  by_cases c : e ≠ 0
  ·rw [if_pos c] at hA
   subst hA
   generalize Z4 ⟨p, o, j, er⟩ 10 = r2 at hfail
   obtain ⟨p2, o2, j2, e2⟩ := r2
   have nx := trivial
   refine' Zkh
   all_goals first | exact ⟨trivial, trivial⟩ | exact ⟨rfl, trivial⟩ | exact ⟨rfl, rfl⟩ | exact ⟨trivial, rfl⟩ | (exfalso; omega) | trace_state
  ·rw [if_neg c] at hA
   subst hA
   have nx := trivial
   refine' Zkh
   all_goals first | exact ⟨trivial, trivial⟩ | exact ⟨rfl, trivial⟩ | exact ⟨rfl, rfl⟩ | exact ⟨trivial, rfl⟩ | (exfalso; omega) | trace_state
end Go.Proofs.YtimhmpdfioihlaaGreatDoor
namespace Go.Proofs.YtimhmpdfioihlaaGreatDoor
set_option maxRecDepth 20000
open Go Go.Abs Nat
attribute [local irreducible] AW AWL AC FW CW CWr IntKind.wrap
section
theorem Za6 {b : List Int} {p : Int} {en : Nat} (h : okT b p en) {n t : Int} (he : nmT (b.take en) p = .ok (n, t)) : okT b t en /\ p < t /\ 0 <= n /\ n < 4294967296 := by
 unfold nmT at he
 split at he
 ·cases he
 ·rename_i c
  have := ZaO h.byt ⟨h.p0, by rw [h.len]; exact h.p1⟩ (Classical.not_not.1 c)
  rw [h.len] at this
  simp only [Except.ok.injEq, Yai] at he
  obtain ⟨rfl, rfl⟩ := he
  exact ⟨h.mv (by omega) this.2.2, this.2.1, this.1.1, this.1.2⟩
theorem ZaQ {b : List Int} {p : Int} {en : Nat} (h : okT b p en) {n t : Int} (he : Zba (b.take en) p = .ok (n, t)) : okT b t en /\ t = p + 1 /\ Zgi n := by
 unfold Zba at he
 rw [h.len] at he
 split at he
 ·cases he
 ·rename_i c
  simp only [Except.ok.injEq, Yai] at he
  obtain ⟨rfl, rfl⟩ := he
  have h0 := h.p0
  exact ⟨h.mv (by omega) (by omega), rfl, h.byt _ (Z8 (by rw [h.len]; omega))⟩
open MB
theorem ZDm.cl {p : Prop} (h : p := by
 first
  | refine AWL.cMP (f := 74) [] Zyc rfl rfl rfl rfl rfl rfl rfl (hfail) ?_ ?_
  | refine AWL.cMP (f := 50) [(0, 0)] Zp5 rfl rfl rfl rfl rfl rfl rfl (hnum) ?_ ?_
 all_goals (apply_rules (newGoals := .nonDependentOnly) only [dep]; exact ())) : p := h
theorem ZA1.kp : type_of% (@Zs [0, 2, 3, 6]) := @Zs [0, 2, 3, 6]
theorem ZA1.cl {p : Prop} (h : p := by
 first
  | refine AWL.cMP (f := 74) [] Zyc rfl rfl rfl rfl rfl rfl rfl (hfail) ?_ ?_
  | refine AWL.cMP (f := 48) [(0, 0)] Zyb rfl rfl rfl rfl rfl rfl rfl (hbyte) ?_ ?_
 all_goals (apply_rules (newGoals := .nonDependentOnly) only [dep]; exact ())) : p := h
open ZDm ZfK Zl in
theorem Zbk {b : List Int} {p : Int} {en : Nat} (h : okT b p en) (most : Int) : TF 115 [.int .i64 most] b en p (Zg5 (b.take en) most p) (.int .i64) := by
 have hfail := ZcX 3
 have hnum := Zcb h
 obtain ⟨A, hA⟩ : ∃ A, Zg5 (b.take en) most p = A := ⟨_, rfl⟩
 rw [hA]
 unfold Zg5 at hA
 unfold TF OKR ERR tpM at hnum
 unfold TF OKR ERR tpM
 rcases hz : nmT (b.take en) p with ⟨e, t⟩ | ⟨n, t⟩
 all_goals
  rw [hz] at hA hnum
  simp only [bnd] at hA hnum
 ·subst hA
  refine AMP.enter Tryz.func115 rfl (Yaa rfl) (fun pn => ?_)
  simp only [Tryz.f115]
  have nx := trivial
  refine' ZdY
  all_goals first | exact ⟨trivial, trivial⟩ | exact ⟨rfl, trivial⟩ | exact ⟨rfl, rfl⟩ | exact ⟨trivial, rfl⟩ | (exfalso; omega) | trace_state
 ·by_cases c : n > most
  ·rw [if_pos c] at hA
   subst hA
   refine AMP.enter Tryz.func115 rfl (Yaa rfl) (fun pn => ?_)
   simp only [Tryz.f115]
   have nx := trivial
   refine' ZdY
   all_goals first | exact ⟨trivial, trivial⟩ | exact ⟨rfl, trivial⟩ | exact ⟨rfl, rfl⟩ | exact ⟨trivial, rfl⟩ | (exfalso; omega) | trace_state
  ·rw [if_neg c] at hA
   subst hA
   refine AMP.enter Tryz.func115 rfl (Yaa rfl) (fun pn => ?_)
   simp only [Tryz.f115]
   have nx := trivial
   refine' ZdY
   all_goals first | exact ⟨trivial, trivial⟩ | exact ⟨rfl, trivial⟩ | exact ⟨rfl, rfl⟩ | exact ⟨trivial, rfl⟩ | (exfalso; omega) | trace_state
open Znq ZFH Zl in
theorem Zpl {b : List Int} {p : Int} {en : Nat} (h : okT b p en) : TF 53 [] b en p (Zg7 (b.take en) () p) (fun _ => .tup []) := by
 have hfail := ZcX 10
 have hlen := h.len
 obtain ⟨A, hA⟩ : ∃ A, Zg7 (b.take en) () p = A := ⟨_, rfl⟩
 rw [hA]
 unfold Zg7 ZaJ at hA
 rw [hlen] at hA
 unfold TF OKR ERR tpM
 by_cases c : p = en
 ·rw [if_pos c] at hA
  subst hA
  refine AMP.enter Tryz.func53 rfl (Yaa rfl) (fun pn => ?_)
  simp only [Tryz.f53]
  have nx := trivial
  refine' Zkm
  all_goals first | exact ⟨trivial, trivial⟩ | exact ⟨rfl, trivial⟩ | exact ⟨rfl, rfl⟩ | exact ⟨trivial, rfl⟩ | (exfalso; omega) | trace_state
 ·rw [if_neg c] at hA
  subst hA
  refine AMP.enter Tryz.func53 rfl (Yaa rfl) (fun pn => ?_)
  simp only [Tryz.f53]
  have nx := trivial
  refine' Zkm
  all_goals first | exact ⟨trivial, trivial⟩ | exact ⟨rfl, trivial⟩ | exact ⟨rfl, rfl⟩ | exact ⟨trivial, rfl⟩ | (exfalso; omega) | trace_state
open ZfK ZFH Zl in
theorem ZkF {b : List Int} {p : Int} {en : Nat} (h : okT b p en) (n : Int) (hn : 0 <= n /\ n < 4294967296) : AMP Tryz.prog 49 [.ptr 0 0, .int .i64 n] (tpM 0 b p en) [0]
 (fun v m => (n <= en - p) /\ v = .ptr 33 0 /\ m = tpM 0 b (p + n) en ++ [(33, ⟨false, [.view b.length 1 (Zh .u8 b), .int .i64 p, .int .i64 (p + n)]⟩)]) (fun ch m => ¬ (n <= en - p) /\ ch = ZwG 10 /\ m = tpM 0 b p en) := by
 have hfail := ZcX 10
 obtain ⟨hb, hl, he, p0, p1⟩ := h
 unfold tpM
 have e1 : IntKind.i64.wrap ((en : Int) - p) = en - p := Zb _ (by omega) (by omega)
 have e2 : IntKind.i64.wrap (p + n) = p + n := Zb _ (by omega) (by omega)
 refine AMP.enter Tryz.func49 rfl (Yaa rfl) (fun pn => ?_)
 simp only [Tryz.f49]
 have nx := aI @e1 (aI @e2 trivial)
 refine' Zkm
 all_goals first
  | exact ⟨by omega, rfl, rfl⟩
open ZA1 Zl in
theorem ZhQ {b : List Int} {p : Int} {en : Nat} (h : okT b p en) : TF 116 [] b en p (ZdB (b.take en) p) (.int .i64) := by
 have hbyte := ZcK h
 have hbm := fun n t => ZaQ h (n := n) (t := t)
 have hfail : True := trivial
 obtain ⟨A, hA⟩ : ∃ A, ZdB (b.take en) p = A := ⟨_, rfl⟩
 rw [hA]
 unfold ZdB at hA
 unfold TF OKR ERR tpM at hbyte
 unfold TF OKR ERR tpM
 rcases hz : Zba (b.take en) p with ⟨e, t⟩ | ⟨n, t⟩
 all_goals
  rw [hz] at hA hbyte hbm
  simp only [bnd] at hA hbyte
 ·subst hA
  refine AMP.enter Tryz.func116 rfl (Yaa rfl) (fun pn => ?_)
  simp only [Tryz.f116]
  have nx := trivial
  refine' ZdY
  all_goals first | exact ⟨trivial, trivial⟩ | exact ⟨rfl, trivial⟩ | exact ⟨rfl, rfl⟩ | exact ⟨trivial, rfl⟩ | (exfalso; omega) | trace_state
 ·have hx := (hbm _ _ rfl).2.2
  have ew : IntKind.i64.wrap n = n := Zb _ (by have := hx.1; omega) (by have := hx.2; omega)
  by_cases c : n = 127 \/ n = 126 \/ n = 123
  ·rw [if_pos c] at hA
   subst hA
   rcases c with rfl | rfl | rfl
   all_goals
    refine AMP.enter Tryz.func116 rfl (Yaa rfl) (fun pn => ?_)
    simp only [Tryz.f116]
    have nx := aI @ew trivial
    refine' ZdY
    all_goals first | exact ⟨trivial, trivial⟩ | exact ⟨rfl, trivial⟩ | exact ⟨rfl, rfl⟩ | exact ⟨trivial, rfl⟩ | (exfalso; omega) | trace_state
  ·rw [if_neg c] at hA
   by_cases c2 : n = 125 \/ n = 124
   ·rw [if_pos c2] at hA
    subst hA
    have hfail := ZcX 11
    rcases c2 with rfl | rfl
    all_goals
     refine AMP.enter Tryz.func116 rfl (Yaa rfl) (fun pn => ?_)
     simp only [Tryz.f116]
     have nx := trivial
     refine' ZdY
     all_goals first | exact ⟨trivial, trivial⟩ | exact ⟨rfl, trivial⟩ | exact ⟨rfl, rfl⟩ | exact ⟨trivial, rfl⟩ | (exfalso; omega) | trace_state
   ·rw [if_neg c2] at hA
    subst hA
    have hfail := ZcX 10
    have d1 : (n == 127) = false := by rw [Yam]; omega
    have d2 : (n == 126) = false := by rw [Yam]; omega
    have d3 : (n == 123) = false := by rw [Yam]; omega
    have d4 : (n == 125) = false := by rw [Yam]; omega
    have d5 : (n == 124) = false := by rw [Yam]; omega
    refine AMP.enter Tryz.func116 rfl (Yaa rfl) (fun pn => ?_)
    simp only [Tryz.f116]
    have nx := aI @d1 (aI @d2 (aI @d3 (aI @d4 (aI @d5 trivial))))
    refine' ZdY
    all_goals first | exact ⟨trivial, trivial⟩ | exact ⟨rfl, trivial⟩ | exact ⟨rfl, rfl⟩ | exact ⟨trivial, rfl⟩ | (exfalso; omega) | trace_state
end
end Go.Proofs.YtimhmpdfioihlaaGreatDoor
namespace Go.Proofs.YtimhmpdfioihlaaGreatDoor
set_option maxRecDepth 20000
open Go Go.Abs Nat
attribute [local irreducible] AW AWL AC FW CW CWr IntKind.wrap
open MB
theorem ZAU.kp : type_of% (@Zs [0, 2, 3, 4, 25]) := @Zs [0, 2, 3, 4, 25]
theorem ZAU.cl {p : Prop} (h : p := by
 first
  | refine AWL.cM (f := 155) [(0, 0), (1002, 1002)] Zj1 rfl rfl rfl rfl rfl rfl rfl (hf11) ?_
  | refine AWL.cM (f := 155) [(0, 0), (1002, 1002)] Zj1 rfl rfl rfl rfl rfl rfl rfl (hf10) ?_
  | refine AWL.cM (f := 171) [(0, 0), (1002, 1002)] ZAo rfl rfl rfl rfl rfl rfl rfl (hsg) ?_
 all_goals (apply_rules (newGoals := .nonDependentOnly) only [dep]; exact ())) : p := h
open ZAU ZeE in
theorem Ztx (b : List Int) (hb : bytes b) (hlen : b.length <= 1000000000) (r : Rd) (hr : Zb6 b r) : AM Tryz.prog 170 [.ptr 0 0] (rdM 0 1002 b r) [0] (fun v m => v = .int .i64 (Zfr b r).1 /\ m = rdM 0 1002 b (Zfr b r).2) := by
 have hf11 := ZaS b r 11
 have hsg := Zkz b hb hlen 33 r
 have hf10 := ZaS b (Zfd b 33 r).2 10
 obtain ⟨A, hA⟩ : ∃ A, Zfr b r = A := ⟨_, rfl⟩
 obtain ⟨B, hB⟩ : ∃ B, ZiT b r = B := ⟨_, rfl⟩
 rw [hA]
 unfold Zfr at hA
 rw [hB] at hA
 unfold ZiT at hB
 have hp0 := hr.p0
 have hp1 := hr.p1
 generalize Zfd b 33 r = z at hsg hf10 hB
 obtain ⟨n, r1⟩ := z
 simp only at hsg hf10 hB
 have hB2 : B = (n, if n < 0 then Z4 r1 10 else r1) := hB.symm
 clear hB
 generalize Z4 r1 10 = r2 at hf10 hB2
 generalize Z4 r 11 = r3 at hf11 hA
 obtain ⟨p, o, j, er⟩ := r
 obtain ⟨p1, o1, j1, er1⟩ := r1
 obtain ⟨p2, o2, j2, er2⟩ := r2
 obtain ⟨p3, o3, j3, er3⟩ := r3
 simp only at hp0 hp1 hA
 obtain ⟨k, rfl⟩ : ∃ k : Nat, p = k := ⟨p.toNat, by omega⟩
 have ew : IntKind.i64.wrap ((k : Int) + 1) = (k : Int) + 1 := Zb _ (by omega) (by omega)
 rw [Yap] at hA
 unfold rdM at hf11 hf10 hsg ⊢
 refine AM.enter Tryz.func170 rfl (Yaa rfl) (fun pn => ?_)
 simp only [Tryz.f170]
 by_cases h : (k : Int) < b.length
 ·rw [if_pos h] at hA
  have hx := hb _ (Z8 (show k < b.length by omega))
  obtain ⟨x, hxx⟩ : ∃ x, b.getD k 0 = x := ⟨_, rfl⟩
  rw [hxx] at hA hx
  have hx1 := hx.1
  have hx2 := hx.2
  have ex : IntKind.i64.wrap x = x := Zb _ (by omega) (by omega)
  have ex2 : IntKind.i64.wrap (x - 128) = x - 128 := Zb _ (by omega) (by omega)
  by_cases c1 : Zg3 x
  ·rw [if_pos c1] at hA
   subst hA
   unfold Zg3 at c1
   rcases c1 with rfl | rfl | rfl | rfl
   all_goals
    have nx := aI @ew (aI @hxx (aI @ex (aI @ex2 trivial)))
    refine' Ze7
    all_goals first | exact ⟨trivial, trivial⟩ | exact ⟨rfl, trivial⟩ | exact ⟨rfl, rfl⟩ | exact ⟨trivial, rfl⟩ | (exfalso; omega) | trace_state
  ·rw [if_neg c1] at hA
   by_cases c2 : Zeh x
   ·rw [if_pos c2] at hA
    subst hA
    unfold Zeh at c2
    rcases c2 with rfl | rfl
    all_goals
     have nx := aI @ew (aI @hxx (aI @ex (aI @ex2 trivial)))
     refine' Ze7
     all_goals first | exact ⟨trivial, trivial⟩ | exact ⟨rfl, trivial⟩ | exact ⟨rfl, rfl⟩ | exact ⟨trivial, rfl⟩ | (exfalso; omega) | trace_state
   ·rw [if_neg c2] at hA
    subst hA
    unfold Zg3 at c1
    unfold Zeh at c2
    by_cases hn : n < 0
    ·rw [if_pos hn] at hB2
     subst hB2
     have nx := aI @ew (aI @hxx (aI @ex (aI @ex2 trivial)))
     refine' Ze7
     all_goals first | exact ⟨trivial, trivial⟩ | exact ⟨rfl, trivial⟩ | exact ⟨rfl, rfl⟩ | exact ⟨trivial, rfl⟩ | (exfalso; omega) | trace_state
    ·rw [if_neg hn] at hB2
     subst hB2
     have nx := aI @ew (aI @hxx (aI @ex (aI @ex2 trivial)))
     refine' Ze7
     all_goals first | exact ⟨trivial, trivial⟩ | exact ⟨rfl, trivial⟩ | exact ⟨rfl, rfl⟩ | exact ⟨trivial, rfl⟩ | (exfalso; omega) | trace_state
 ·rw [if_neg h] at hA
  subst hA
  by_cases hn : n < 0
  ·rw [if_pos hn] at hB2
   subst hB2
   have nx := aI @ew trivial
   refine' Ze7
   all_goals first | exact ⟨trivial, trivial⟩ | exact ⟨rfl, trivial⟩ | exact ⟨rfl, rfl⟩ | exact ⟨trivial, rfl⟩ | (exfalso; omega) | trace_state
  ·rw [if_neg hn] at hB2
   subst hB2
   have nx := aI @ew trivial
   refine' Ze7
   all_goals first | exact ⟨trivial, trivial⟩ | exact ⟨rfl, trivial⟩ | exact ⟨rfl, rfl⟩ | exact ⟨trivial, rfl⟩ | (exfalso; omega) | trace_state
end Go.Proofs.YtimhmpdfioihlaaGreatDoor
namespace Go.Proofs.YtimhmpdfioihlaaGreatDoor
set_option maxRecDepth 20000
open Go Go.Abs Nat
attribute [local irreducible] AW AWL AC FW CW CWr IntKind.wrap
section
theorem ZwH {b : List Int} {s k en : Nat} (h : s + k <= en) : List.take k (List.drop s (List.take en b)) = List.take k (List.drop s b) := by
 rw [List.drop_take, List.take_take, Nat.min_eq_left (by omega)]
theorem Zpm {b : List Int} {s k en : Nat} (h : s + k <= en) (he : en <= b.length) : V.view (((s : Int) + (k : Int)).toNat - s) 1 (Zh .u8 (List.take (((s : Int) + (k : Int)).toNat - s) (List.take (((s : Int) + (k : Int)).toNat - s) (List.drop s b)))) = V.view (List.take ((s : Int) + (k : Int) - (s : Int)).toNat (List.drop s (List.take en b))).length 1 (Zh .u8 (List.take ((s : Int) + (k : Int) - (s : Int)).toNat (List.drop s (List.take en b)))) := by
 rw [show ((s : Int) + (k : Int)).toNat - s = k by omega, show ((s : Int) + (k : Int) - (s : Int)).toNat = k by omega, ZwH h, List.take_take, Nat.min_self]
 congr 1
 rw [Yar, Yaw]; omega
open MB
theorem ZDn.cl {p : Prop} (h : p := by
 first
  | refine AWL.cMP (f := 50) [(0, 0)] Zp5 rfl rfl rfl rfl rfl rfl rfl (hnum) ?_ ?_
  | refine AWL.cMP (f := 49) [(0, 0)] ZCp rfl rfl rfl rfl rfl rfl rfl (hpart) ?_ ?_
 all_goals (apply_rules (newGoals := .nonDependentOnly) only [dep]; exact ())) : p := h
open ZDn ZcA ZFE Zl in
theorem Zmh {b : List Int} {p : Int} {en : Nat} (h : okT b p en) : TF 76 [] b en p (Zdc (b.take en) p) (fun l => .view l.length 1 (Zh .u8 l)) := by
 have hnum := Zcb h
 have hnm := fun n t => Za6 h (n := n) (t := t)
 have hlen := h.len
 obtain ⟨A, hA⟩ : ∃ A, Zdc (b.take en) p = A := ⟨_, rfl⟩
 rw [hA]
 unfold Zdc ZdA at hA
 unfold TF OKR ERR tpM at hnum
 unfold TF OKR ERR tpM
 rcases hz : nmT (b.take en) p with ⟨e, t⟩ | ⟨n, t⟩
 all_goals
  rw [hz] at hA hnum hnm
  simp only [bnd, Zhy] at hA hnum
 ·subst hA
  have hpart : True := trivial
  refine AMP.enter Tryz.func76 rfl (Yaa rfl) (fun pn => ?_)
  simp only [Tryz.f76]
  have nx := trivial
  refine' Zku
  all_goals first | exact ⟨trivial, trivial⟩ | exact ⟨rfl, trivial⟩ | exact ⟨rfl, rfl⟩ | exact ⟨trivial, rfl⟩ | (exfalso; omega) | trace_state
 ·obtain ⟨h2, h3, h4⟩ := hnm _ _ rfl
  have hpart := ZkF h2 n h4
  rw [hlen] at hA
  by_cases c : n <= en - t
  ·rw [if_neg (by omega)] at hA
   unfold tpM at hpart
   simp only [c, true_and, not_true_eq_false, false_and] at hpart
   obtain ⟨s, rfl⟩ : ∃ s : Nat, t = s := ⟨t.toNat, by have := h2.p0; omega⟩
   obtain ⟨k, rfl⟩ : ∃ k : Nat, n = k := ⟨n.toNat, by omega⟩
   have he := h2.he
   subst hA
   refine AMP.enter Tryz.func76 rfl (Yaa rfl) (fun pn => ?_)
   simp only [Tryz.f76]
   have nx := trivial
   refine' Zku
   all_goals exact ⟨Zpm (by omega) (by omega), trivial⟩
  ·rw [if_pos (by omega)] at hA
   unfold tpM at hpart
   simp only [c, not_false_eq_true, true_and, false_and] at hpart
   subst hA
   refine AMP.enter Tryz.func76 rfl (Yaa rfl) (fun pn => ?_)
   simp only [Tryz.f76]
   have nx := trivial
   refine' Zku
   all_goals first | exact ⟨trivial, trivial⟩ | exact ⟨rfl, trivial⟩ | exact ⟨rfl, rfl⟩ | exact ⟨trivial, rfl⟩ | (exfalso; omega) | trace_state
end
end Go.Proofs.YtimhmpdfioihlaaGreatDoor
namespace Go.Proofs.YtimhmpdfioihlaaGreatDoor
set_option maxRecDepth 20000
open Go Go.Abs
attribute [local irreducible] AW AWL AC FW CW CWr IntKind.wrap Zbj
def S12 (o : Nat) (l : List Int) (to e n i : Int) : St :=
 { n := 45, slots := [(9, .ref 9 0 l.length 1), (10, .int .i64 to), (11, .int .i64 e), (12, .int .u64 n), (13, .int .i64 i)], mem := [(o, ⟨true, Zh .i64 l⟩)] }
theorem ZE5.sd {p : Prop} (h : p := by first | exact Zvz | exact ZvG) : p := h
open ZE5 Zca in
set_option maxRecDepth 4000 in
theorem ZC2 (xs : List Int) (hb : bytes xs) (hlen : xs.length <= 1000000000000000) (at_ bits : Int) :
 AC Tryz.prog 136 [.view xs.length 1 (Zh .u8 xs), .int .i64 at_, .int .i64 bits] (fun r m => r = .tup [.int .u64 (val ((Zbj false xs at_ bits).1.take 64)), .int .i64 (Zbj false xs at_ bits).2.1, .int .i64 (Zbj false xs at_ bits).2.2] /\ m = []) := by
 have h01 := Zo9 false xs at_ bits
 have hln := (ZiR false xs at_ bits).1
 refine AC.enter Tryz.func136 rfl (Yaa rfl) ?_
 simp only [Tryz.f136]
 have nx := trivial
 refine' ZoU
 generalize Zbj false xs at_ bits = q at *
 obtain ⟨l, to, e⟩ := q
 simp only at h01 hln ⊢
 refine AW.loop [9, 10, 11, 12, 13] [9] (fun w st => ∃ i : Nat, st = S12 9 l to e (val (l.take i)) i /\ i <= l.length /\ i <= 64 /\ w = 64 - i) ?_ ?_
 ·exact ⟨_, 0, rfl, by omega, by omega, rfl⟩
 ·rintro w st ⟨i, rfl, hi, h64, rfl⟩
  by_cases hil : i < l.length
  ·have hbi := h01 _ (Z8 hil)
   have ht01 : ZcW (l.take i) := fun b hb => h01 b (List.mem_of_mem_take hb)
   have hst := fun h => Zkx (i := i) (b := l.getD i 0) ht01 (by rw [Yar]; omega) h hbi
   rw [<- Zeq _ _ hil] at hst
   have e1 : IntKind.u64.wrap (i : Int) = i := ZaC rfl (by omega) (by show _ < (18446744073709551616 : Int); omega)
   have e2 : IntKind.u64.wrap (l.getD i 0) = l.getD i 0 := ZaC rfl (by omega) (by show _ < (18446744073709551616 : Int); omega)
   have hOw : (Zh .i64 l).getD i .any = .int .i64 (l.getD i 0) := ZhN hil
   by_cases h63 : i < 64
   ·have hst := hst h63
    have nx := aI @e1 (aI @e2 (aI @hOw trivial))
    refine' ZoN
    all_goals try simp (disch := omega) only [NSX, St.keepS, Nat.reduceBEq, Nat.reduceAdd, Nat.reduceMul, Int.reduceToNat, Nat.reduceSub, TY, SLS, List.set_cons_zero, List.set_cons_succ, Za, S12, e1, e2, hOw, Yap]
    refine ⟨64 - (i + 1), by omega, i + 1, ?_, by omega, by omega, rfl⟩
    rw [hst, Zb _ (by omega) (by omega)]; rfl
   ·have hi64 : i = 64 := by omega
    have nx := aI @e1 (aI @e2 (aI @hOw trivial))
    refine' ZoN
    all_goals try simp (disch := omega) only [NSX, St.keepS, Nat.reduceBEq, Nat.reduceAdd, Nat.reduceMul, Int.reduceToNat, Nat.reduceSub, TY, SLS, List.set_cons_zero, List.set_cons_succ, Za, S12, e1, e2, hOw, Yap]
    rw [hi64]; exact ⟨rfl, trivial⟩
  ·have nx := trivial
   refine' ZoU
   all_goals try simp (disch := omega) only [NSX, St.keepS, Nat.reduceBEq, Nat.reduceAdd, Nat.reduceMul, Int.reduceToNat, Nat.reduceSub, TY, SLS, List.set_cons_zero, List.set_cons_succ, Za, S12]
   rw [Yad (by omega), Yad (by omega)]; exact ⟨rfl, trivial⟩
def Zd2 (l : List Int) (i : Nat) : List Int := (l ++ List.replicate 64 (l.getD (l.length - 1) 0)).take i
theorem Zl3 (l : List Int) (i : Nat) (h : i <= 64) : (Zd2 l i).length = i := by
 rw [Zd2, Yar, Yal, List.length_replicate]; omega
theorem Zpa {l : List Int} (h : ZcW l) (i : Nat) : ZcW (Zd2 l i) := by
 intro b hb
 have := List.mem_of_mem_take hb
 rcases List.mem_append.1 this with hm | hm
 ·exact h b hm
 ·rw [(List.mem_replicate.1 hm).2]
  by_cases hl : l.length - 1 < l.length
  ·exact h _ (Z8 hl)
  ·left; have : l = [] := Yay (by omega); subst this; rfl
theorem Zwr {l : List Int} {i : Nat} (hi : i < 64) (h : i < l.length) : Zd2 l (i + 1) = Zd2 l i ++ [l.getD i 0] := by
 rw [Zd2, Zeq _ _ (by rw [Yal, List.length_replicate]; omega), Zd2]
 congr 2
 rw [Yah, Ya1 h, <- Yah]
theorem Ztm {l : List Int} {i : Nat} (hi : i < 64) (h : l.length <= i) : Zd2 l (i + 1) = Zd2 l i ++ [l.getD (l.length - 1) 0] := by
 rw [Zd2, Zeq _ _ (by rw [Yal, List.length_replicate]; omega), Zd2]
 congr 2
 rw [Yah, Ya8 h, List.getElem?_replicate, if_pos (by omega)]; rfl
def S14 (l : List Int) (to e n i : Int) : St :=
 { n := 54, slots := [(9, .ref 9 0 l.length 1), (10, .int .i64 to), (11, .int .i64 e), (12, .int .u64 n), (13, .int .i64 i)], mem := [(9, ⟨true, Zh .i64 l⟩)] }
theorem ZEj.kp : type_of% (@Zs [0, 1, 2, 6, 7, 8, 9, 10, 11, 12, 13, 14]) := @Zs [0, 1, 2, 6, 7, 8, 9, 10, 11, 12, 13, 14]
theorem ZEj.sd {p : Prop} (h : p := by first | exact Zvp | exact ZvE) : p := h
open ZEj in
set_option maxRecDepth 4000 in
theorem ZC3 (xs : List Int) (hb : bytes xs) (hlen : xs.length <= 1000000000000000) (at_ bits : Int) :
 AC Tryz.prog 142 [.view xs.length 1 (Zh .u8 xs), .int .i64 at_, .int .i64 bits] (fun r m => r = (if (Zbj true xs at_ bits).2.2 = 0 then .tup [.int .i64 (IntKind.i64.wrap (val (Zd2 (Zbj true xs at_ bits).1 64))), .int .i64 (Zbj true xs at_ bits).2.1, .int .i64 0] else .tup [.int .i64 0, .int .i64 0, .int .i64 (Zbj true xs at_ bits).2.2]) /\ m = []) := by
 have h01 := Zo9 true xs at_ bits
 have hln := (ZiR true xs at_ bits).1
 have hne := (ZiR true xs at_ bits).2
 refine AC.enter Tryz.func142 rfl (Yaa rfl) ?_
 simp only [Tryz.f142]
 have nx := trivial
 refine' ZvY
 ·rw [if_neg (by assumption)]; exact ⟨rfl, trivial⟩
 generalize Zbj true xs at_ bits = q at *
 obtain ⟨l, to, e⟩ := q
 simp only at h01 hln hne ⊢
 have hl1 : 1 <= l.length := List.length_pos_iff.2 (hne (by assumption))
 refine AW.loop [9, 10, 11, 12, 13] [9] (fun w st => ∃ i : Nat, st = S14 l to e (val (Zd2 l i)) i /\ i <= 64 /\ w = 64 - i) ?_ ?_
 ·exact ⟨_, 0, rfl, by omega, rfl⟩
 ·rintro w st ⟨i, rfl, h64, rfl⟩
  have e1 : IntKind.u64.wrap (i : Int) = i := ZaC rfl (by omega) (by show _ < (18446744073709551616 : Int); omega)
  have hOw : ∀ j, j < l.length -> (Zh .i64 l).getD j .any = .int .i64 (l.getD j 0) := fun j h => ZhN h
  have eL : IntKind.i64.wrap ((l.length : Int) - 1) = ((l.length - 1 : Nat) : Int) := by rw [Zb _ (by omega) (by omega)]; omega
  have e2 : ∀ j, j < l.length -> IntKind.u64.wrap (l.getD j 0) = l.getD j 0 := fun j h => by
   have := h01 _ (Z8 h)
   exact ZaC rfl (by omega) (by show _ < (18446744073709551616 : Int); omega)
  have nx := aI @e1 (aI @e2 (aI @hOw (aI @eL trivial)))
  refine' Zv4
  all_goals try simp (disch := omega) only [NSX, St.keepS, Nat.reduceBEq, Nat.reduceAdd, Nat.reduceMul, Int.reduceToNat, Nat.reduceSub, TY, SLS, List.set_cons_zero, List.set_cons_succ, Za, S14, e1, e2, hOw, eL, Yap]
  ·have hst := Zkx (i := i) (b := l.getD i 0) (Zpa h01 i) (Zl3 l i h64) (by omega) (h01 _ (Z8 (by omega)))
   refine ⟨64 - (i + 1), by omega, i + 1, ?_, by omega, rfl⟩
   rw [hst, Zb _ (by omega) (by omega), <- Zwr (by omega) (by omega)]; rfl
  ·have hst := Zkx (i := i) (b := l.getD (l.length - 1) 0) (Zpa h01 i) (Zl3 l i h64) (by omega) (h01 _ (Z8 (by omega)))
   refine ⟨64 - (i + 1), by omega, i + 1, ?_, by omega, rfl⟩
   rw [hst, Zb _ (by omega) (by omega), <- Ztm (by omega) (by omega)]; rfl
  ·have hi64 : i = 64 := by omega
   rw [hi64, if_pos (by assumption)]; exact ⟨rfl, trivial⟩
end Go.Proofs.YtimhmpdfioihlaaGreatDoor
