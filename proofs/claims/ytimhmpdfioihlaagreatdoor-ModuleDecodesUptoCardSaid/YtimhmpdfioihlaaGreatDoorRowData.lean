/- row[plait/api.Data]. -/
import Derived.Test.YtimhmpdfioihlaaGreatDoorDP
import Derived.Test.YtimhmpdfioihlaaGreatDoorGWords
import Derived.Test.YtimhmpdfioihlaaGreatDoorGCB
import Derived.Test.YtimhmpdfioihlaaGreatDoorGRowCod
import Derived.Test.YtimhmpdfioihlaaGreatDoorGRS
set_option linter.unusedSimpArgs false
set_option linter.unusedVariables false
set_option maxHeartbeats 12800000
namespace Go.Proofs.YtimhmpdfioihlaaGreatDoor
set_option maxRecDepth 20000
open Go Go.Abs Nat
attribute [local irreducible] AW AWL AC FW CW CWr IntKind.wrap
section
def Zcf : Zft -> List V
 | ⟨xc, xb⟩ => [.view xc.length 6 (Zah xc), .view xb.length 1 (Zh .u8 xb)]
theorem ZeS (x : Zft) : (Zcf x).length = 2 := rfl
def ZwS (pn : Nat -> Option BI) (f1 : FuncId) (b : List Int) (en : Nat) (t : Int) (l : List Zft) (n : Nat) : St := { n := 22, slots := [(0, .ptr 0 0), (2, .fn f1 [.ptr 0 0]), (7, .ref 7 0 l.length 2), (8, .int .i64 (n : Int))], mem := [(0, ⟨false, [.view b.length 1 (Zh .u8 b), .int .i64 t, .int .i64 en]⟩), (7, ⟨true, l.flatMap Zcf⟩)], lent := [(0, pn 0)] }
theorem ZwT.NM : type_of% @MB.NM /\ type_of% @ZwS.eq_1 :=
 ⟨MB.NM, @ZwS.eq_1⟩
open ZwT
open ZdV ZFC ZFB Zl in
theorem Zqs {b : List Int} {p : Int} {en : Nat} (h : okT b p en) (most : Int) (hm : most <= 100000) {f1 : FuncId} (hcb : Zc Tryz.prog f1 = true) {one : Int -> Res Zft}
 (hone : ∀ t, okT b t en -> AMP Tryz.prog f1 [.ptr 0 0] (tpM 0 b t en) [0] (OKR (one t) (fun x => .agg (Zcf x)) b en) (ERR (one t) b en))
 (hmv : ∀ t a q, okT b t en -> one t = .ok (a, q) -> okT b q en) :
 AMP Tryz.prog 95 [.ptr 0 0, .int .i64 most, .fn f1 [.ptr 0 0]] (tpM 0 b p en) [0] (OKR (Zv (b.take en) most one p) (fun l => .view l.length 2 (l.flatMap Zcf)) b en) (ERR (Zv (b.take en) most one p) b en) := by
 have hcount := Zbk h most
 have hcm := fun n q => Zcc h (most := most) (n := n) (t := q)
 obtain ⟨A, hA⟩ : ∃ A, Zv (b.take en) most one p = A := ⟨_, rfl⟩
 rw [hA]
 unfold Zv at hA
 unfold TF OKR ERR tpM at hcount
 unfold OKR ERR tpM at hone
 unfold OKR ERR tpM
 rcases hz : Zg5 (b.take en) most p with ⟨e, q⟩ | ⟨n, q⟩
 all_goals
  rw [hz] at hA hcount hcm
  simp only [Zg, Zd] at hA hcount
  refine AMP.enter Tryz.func95 rfl (Yaa rfl) (fun pn => ?_)
  simp only [Tryz.f95]
 ·subst hA
  have nx := trivial
  refine' Zj
  all_goals first | exact ⟨trivial, trivial⟩ | exact ⟨rfl, trivial⟩ | exact ⟨rfl, rfl⟩ | exact ⟨trivial, rfl⟩ | (exfalso; omega) | trace_state
 obtain ⟨h2, h3, h4⟩ := hcm _ _ rfl
 obtain ⟨n0, rfl⟩ : ∃ n0 : Nat, n = n0 := ⟨n.toNat, by omega⟩
 have hA : bnd (ZcJ one n0 q) (fun r t => .ok ([] ++ r, t)) = A := by rw [<- hA, Yap]; exact Zd8 _
 have hn0 : n0 <= 100000 := by omega
 clear hcm hz h4
 have nx := trivial
 refine' Zj
 refine AW.loop [0, 2, 7, 8] [0, 7] (fun m st => ∃ (n : Nat) (t : Int) (l : List Zft), st = ZwS pn f1 b en t l n /\ okT b t en /\ l.length + n = n0 /\ bnd (ZcJ one n t) (fun r t => .ok (l ++ r, t)) = A /\ n = m) ?_ ?_
 ·exact ⟨_, n0, q, [], rfl, h2, by simp, hA, rfl⟩
 rintro m st ⟨n, t, l, rfl, ht, hln, hA, rfl⟩
 clear hcount
 rcases n with _ | n
 ·rw [ZcJ] at hA
  simp only [Zg, List.append_nil] at hA
  subst hA
  have hcut : List.take (l.length * 2) (l.flatMap Zcf) = l.flatMap Zcf := Yad (by rw [Zq ZeS]; omega)
  have nx := aI @hcut trivial
  refine' Zj
  all_goals first | exact ⟨trivial, trivial⟩ | exact ⟨rfl, trivial⟩ | exact ⟨rfl, rfl⟩ | exact ⟨trivial, rfl⟩ | (exfalso; omega) | trace_state
 ·have hone := hone t ht
  have hmv := hmv t
  have e1 : IntKind.i64.wrap (((n + 1 : Nat) : Int) - 1) = (n : Int) := by rw [Zb _ (by omega) (by omega)]; omega
  have d1 : decide (((n + 1 : Nat) : Int) > 0) = true := Yae (by omega)
  have hcut : List.take (l.length * 2) (l.flatMap Zcf) = l.flatMap Zcf := Yad (by rw [Zq ZeS]; omega)
  rw [ZcJ] at hA
  rcases hz1 : one t with ⟨e, q⟩ | ⟨x, q⟩
  all_goals
   rw [hz1] at hA hone
   simp only [Zg, Zd] at hA hone
  ·subst hA
   have nx := aI @e1 (aI @d1 (aI @hcut trivial))
   refine' Zj
   all_goals first | exact ⟨trivial, trivial⟩ | exact ⟨rfl, trivial⟩ | exact ⟨rfl, rfl⟩ | exact ⟨trivial, rfl⟩ | (exfalso; omega) | trace_state
  ·have ht2 := hmv _ _ ht hz1
   rw [Zd9] at hA
   have hl2 : (l ++ [x]).length = l.length + 1 := by simp
   obtain ⟨xc, xb⟩ := x
   have hs2 : l.flatMap Zcf ++ [.view xc.length 6 (Zah xc), .view xb.length 1 (Zh .u8 xb)] = (l ++ ([⟨xc, xb⟩] : List Zft)).flatMap Zcf := (Zai (f := Zcf) l (⟨xc, xb⟩ : Zft)).symm
   (try unfold Zcf at hone)
   have nx := aI @e1 (aI @d1 (aI @hcut trivial))
   refine' Zj
   all_goals first
    | exact ⟨n, by omega, n, q, l ++ [⟨xc, xb⟩], by rw [ZwS, hl2, <- hs2]; rfl, ht2, by rw [hl2]; omega, hA, rfl⟩
end
end Go.Proofs.YtimhmpdfioihlaaGreatDoor
