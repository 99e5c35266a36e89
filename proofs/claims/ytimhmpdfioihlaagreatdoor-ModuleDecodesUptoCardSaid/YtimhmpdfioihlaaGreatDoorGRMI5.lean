/- The document's tape: Zh, limits, expr. -/
import Derived.Test.YtimhmpdfioihlaaGreatDoorDP
import Derived.Test.YtimhmpdfioihlaaGreatDoorGWords
import Derived.Test.YtimhmpdfioihlaaGreatDoorGCB
import Derived.Test.YtimhmpdfioihlaaGreatDoorGRMI2
import Derived.Test.YtimhmpdfioihlaaGreatDoorGRowCod
import Derived.Test.YtimhmpdfioihlaaGreatDoorXR5
import Derived.Test.YtimhmpdfioihlaaGreatDoorGMSec
set_option linter.unusedSimpArgs false
set_option linter.unusedVariables false
set_option maxHeartbeats 12800000
namespace Go.Proofs.YtimhmpdfioihlaaGreatDoor
set_option maxRecDepth 20000
open Go Go.Abs Nat
theorem ZDW : Zc Tryz.prog 137 = true := by kernel_rfl
attribute [local irreducible] AW AWL AC FW CW CWr IntKind.wrap
section
def TN (pn : Nat -> Option BI) (b : List Int) (en : Nat) (t : Tq) (l : List Int) (N i : Nat) : St := { n := 29, slots := [(0, .ptr 0 0), (5, .ref 5 0 l.length 1), (6, .int .i64 (N : Int)), (7, .int .i64 (i : Int))], mem := [(0, ⟨false, [.view b.length 1 (Zh .u8 b), .int .i64 t.p, .int .i64 en, .int .i64 t.e]⟩), (5, ⟨true, Zh .i64 l⟩)], lent := [(0, pn 0)] }
theorem ZFt.NM : type_of% @MB.NM /\ type_of% @TN.eq_1 :=
 ⟨MB.NM, @TN.eq_1⟩
open ZFt
theorem ZDX.cl {p : Prop} (h : p := by
 first
  | refine AWL.cM (f := 99) [(0, 0)] Zp6 rfl rfl rfl rfl rfl rfl rfl (hnum) ?_
  | refine AWL.cM (f := 102) [(0, 0)] Zsf rfl rfl rfl rfl rfl rfl rfl (hmost) ?_
  | refine AWL.frzG rfl rfl rfl ?_
 all_goals (apply_rules (newGoals := .nonDependentOnly) only [dep]; exact ())) : p := h
theorem ZDY.cl {p : Prop} (h : p := by
 first
  | refine AWL.cM (f := 99) [(0, 0)] Zp6 rfl rfl rfl rfl rfl rfl rfl (hnum) ?_
  | refine AWL.cM (f := 98) [(0, 0)] Zyd rfl rfl rfl rfl rfl rfl rfl (hone) ?_
  | refine AWL.cM (f := 97) [(0, 0)] ZoL rfl rfl rfl rfl rfl rfl rfl (hmust) ?_
  | refine AWL.cM (f := 102) [(0, 0)] Zsf rfl rfl rfl rfl rfl rfl rfl (hmost) ?_
  | refine AWL.frzG rfl rfl rfl ?_
 all_goals (apply_rules (newGoals := .nonDependentOnly) only [dep]; exact ())) : p := h
theorem ZDZ.cl {p : Prop} (h : p := by
 first
  | refine AWL.cM (f := 118) [(0, 0)] Zj0 rfl rfl rfl rfl rfl rfl rfl (hfail) ?_
  | refine AWL.frzG rfl rfl rfl ?_
  | refine AWL.cC (f := 137) ZDW rfl rfl rfl rfl rfl rfl (hread) ?_
 all_goals (apply_rules (newGoals := .nonDependentOnly) only [dep]; exact ())) : p := h
open ZDX Zno ZFJ Zl in
theorem Zxv {b : List Int} {en : Nat} {t : Tq} (h : okT b t.p en) (most : Int) : UF 126 [.int .i64 most] b en t (.view (Zg8 (b.take en) most t).1.length 1 (Zh .i64 (Zg8 (b.take en) most t).1)) (Zg8 (b.take en) most t).2 := by
 have hmost := Zfn h most
 obtain ⟨hp1, hn0, hn1⟩ := Zhe h.byt h.rg most
 have h2 := h.at hp1
 have hfail : True := trivial
 have hnum : True := trivial
 have hone : True := trivial
 have hmust : True := trivial
 have hread : True := trivial
 obtain ⟨A, hA⟩ : ∃ A, Zg8 (b.take en) most t = A := ⟨_, rfl⟩
 rw [hA]
 unfold Zg8 at hA
 generalize ZaK (b.take en) most t = z at hmost hA h2 hn0 hn1
 obtain ⟨n, t1⟩ := z
 simp only at hmost hA h2 hn0 hn1
 obtain ⟨N, rfl⟩ : ∃ N : Nat, n = N := ⟨n.toNat, by omega⟩
 rw [Yap] at hA
 clear h hp1
 obtain ⟨p, er⟩ := t
 unfold UF rtM at *
 refine AM.enter Tryz.func126 rfl (Yaa rfl) (fun pn => ?_)
 simp only [Tryz.f126]
 have nx := trivial
 refine' ZbV
 refine AW.loop [0, 5, 6, 7] [0, 5] (fun m st => ∃ (i : Nat) (l : List Int) (t : Tq), st = TN pn b en t l N i /\ i <= N /\ l.length = i /\ okT b t.p en /\ (l ++ (ZbL (Zaj (b.take en)) (N - i) t).1, (ZbL (Zaj (b.take en)) (N - i) t).2) = A /\ m = N - i) ?_ ?_
 ·exact ⟨_, 0, [], t1, rfl, Nat.zero_le _, rfl, h2, by rw [<- hA]; rfl, rfl⟩
 clear hA h2 hmost
 rintro m st ⟨i, l, t, rfl, hi, hl, ht, hA, rfl⟩
 have hcut : List.take l.length (Zh .i64 l) = Zh .i64 l := Yad (by rw [Za]; omega)
 by_cases hin : i < N
 ·have d1 : decide ((i : Int) < (N : Int)) = true := Yae (by omega)
  have e7 : IntKind.i64.wrap ((i : Int) + 1) = ((i + 1 : Nat) : Int) := Zb _ (by omega) (by omega)
  obtain ⟨k, hk⟩ : ∃ k, N - i = k + 1 := ⟨N - i - 1, by omega⟩
  rw [hk, ZbL] at hA
  by_cases he : t.e = 0
  ·rw [if_pos he] at hA
   have hnum := Zb0 ht
   have hp2 := (Zgz ht.byt ht.rg).1
   have ht2 := ht.at hp2
   generalize Zaj (b.take en) t = y at hA hnum ht2
   obtain ⟨c, t2⟩ := y
   simp only at hA hnum ht2
   obtain ⟨q, e⟩ := t
   simp only at he
   subst he
   unfold UF rtM at hnum
   clear hp2
   have hl2 : (l ++ [c]).length = l.length + 1 := by simp
   have hs2 : Zh .i64 l ++ [.int .i64 c] = Zh .i64 (l ++ [c]) := by simp [Zh]
   have nx := aI @d1 (aI @e7 (aI @hcut trivial))
   refine' ZbV
   all_goals first
    | exact ⟨N - (i + 1), by omega, i + 1, l ++ [c], t2, by rw [TN, hl2, <- hs2]; rfl, by omega, by rw [hl2, hl], ht2, by rw [show N - (i + 1) = k by omega, Ya6]; exact hA, rfl⟩
  ·rw [if_neg he] at hA
   simp only [List.append_nil] at hA
   subst hA
   obtain ⟨q, e⟩ := t
   simp only at he
   have d2 : (e == 0) = false := Yam.2 he
   have nx := aI @d1 (aI @d2 (aI @hcut trivial))
   refine' ZbV
   all_goals first | exact ⟨trivial, trivial⟩ | exact ⟨rfl, trivial⟩ | exact ⟨rfl, rfl⟩ | exact ⟨trivial, rfl⟩ | (exfalso; omega) | trace_state
 ·have d1 : decide ((i : Int) < (N : Int)) = false := Yaf (by omega)
  obtain rfl : i = N := by omega
  rw [Nat.sub_self, ZbL] at hA
  simp only [List.append_nil] at hA
  subst hA
  obtain ⟨q, e⟩ := t
  have nx := aI @d1 (aI @hcut trivial)
  refine' ZbV
  all_goals first | exact ⟨trivial, trivial⟩ | exact ⟨rfl, trivial⟩ | exact ⟨rfl, rfl⟩ | exact ⟨trivial, rfl⟩ | (exfalso; omega) | trace_state
open ZDY Zs2 ZFJ Zl in
theorem ZjN {b : List Int} {en : Nat} {t : Tq} (h : okT b t.p en) (most : Int) : UF 123 [.int .i64 most] b en t (.agg (Zc3 (Zi3 (b.take en) most t).1)) (Zi3 (b.take en) most t).2 := by
 have hone := Zec h
 have ho := Zus h.rg
 have h1 := h.at ho
 have hfail : True := trivial
 have hread : True := trivial
 obtain ⟨A, hA⟩ : ∃ A, Zi3 (b.take en) most t = A := ⟨_, rfl⟩
 rw [hA]
 unfold Zi3 at hA
 generalize ZbZ (b.take en) t = z at hone hA h1
 obtain ⟨c, t1⟩ := z
 simp only at hone hA h1
 have hmust := Zae b en t1 (decide (c <= 1))
 have h2 : okT b (Z5 (decide (c <= 1)) t1).p en := by rw [Zhd]; exact h1
 generalize hB : decide (c <= 1) = B at hmust hA h2
 generalize Z5 B t1 = t2 at hmust hA h2
 have hmost := Zfn h2 most
 have hm := (Zhe h2.byt h2.rg most).1
 have h3 := h2.at hm
 generalize ZaK (b.take en) most t2 = z at hmost hA h3
 obtain ⟨n, t3⟩ := z
 simp only at hmost hA h3
 have hnum := Zb0 h3
 generalize Zaj (b.take en) t3 = z at hnum hA
 obtain ⟨x, t4⟩ := z
 simp only at hnum hA
 obtain ⟨p, er⟩ := t
 obtain ⟨p1, e1⟩ := t1
 obtain ⟨p2, e2⟩ := t2
 obtain ⟨p3, e3⟩ := t3
 obtain ⟨p4, e4⟩ := t4
 unfold UF rtM at *
 clear h ho h1 h2 h3 hm
 refine AM.enter Tryz.func123 rfl (Yaa rfl) (fun pn => ?_)
 simp only [Tryz.f123]
 by_cases c1 : c = 1
 ·rw [if_pos c1] at hA
  subst hA
  have d1 : (c == 1) = true := beq_iff_eq.2 c1
  unfold Zc3
  have nx := aI @hB (aI @d1 trivial)
  refine' Zkq
  all_goals first | exact ⟨trivial, trivial⟩ | exact ⟨rfl, trivial⟩ | exact ⟨rfl, rfl⟩ | exact ⟨trivial, rfl⟩ | (exfalso; omega) | trace_state
 ·rw [if_neg c1] at hA
  subst hA
  have d1 : (c == 1) = false := Yam.2 c1
  unfold Zc3
  have nx := aI @hB (aI @d1 trivial)
  refine' Zkq
  all_goals first | exact ⟨trivial, trivial⟩ | exact ⟨rfl, trivial⟩ | exact ⟨rfl, rfl⟩ | exact ⟨trivial, rfl⟩ | (exfalso; omega) | trace_state
open ZDZ ZgY ZFJ Zl in
theorem ZhY {b : List Int} {en : Nat} {t : Tq} (h : okT b t.p en) : UF 125 [] b en t (ZkG (ZbP (b.take en) t).1) (ZbP (b.take en) t).2 := by
 have hl := h.hl; have he := h.he
 have hread := Zw9 (b.take en) h.byt (by rw [h.len]; omega) t.p
 have hlen := h.len
 have htk : List.take en (Zh .u8 b) = Zh .u8 (b.take en) := by simp only [Zh, List.map_take]
 have hnum : True := trivial
 have hone : True := trivial
 have hmust : True := trivial
 have hmost : True := trivial
 obtain ⟨A, hA⟩ : ∃ A, ZbP (b.take en) t = A := ⟨_, rfl⟩
 rw [hA]
 unfold ZbP at hA
 rw [hlen] at hread
 generalize Z6 (b.take en) t.p = z at hread hA
 obtain ⟨c, to, e⟩ := z
 simp only at hread hA
 have hfail := Zdg b en t e
 generalize Za2 t e = t2 at hfail hA
 obtain ⟨p, er⟩ := t
 obtain ⟨p2, e2⟩ := t2
 simp only at hread hA
 unfold UF rtM ZkG at *
 clear h
 refine AM.enter Tryz.func125 rfl (Yaa rfl) (fun pn => ?_)
 simp only [Tryz.f125]
 by_cases c0 : er ≠ 0
 ·rw [if_pos c0] at hA
  subst hA
  have d0 : (er == 0) = false := Yam.2 c0
  have nx := aI @d0 (aI @htk trivial)
  refine' Zkt
  all_goals first | exact ⟨trivial, trivial⟩ | exact ⟨rfl, trivial⟩ | exact ⟨rfl, rfl⟩ | exact ⟨trivial, rfl⟩ | (exfalso; omega) | trace_state
 rw [if_neg c0] at hA
 obtain rfl : er = 0 := Classical.not_not.1 c0
 by_cases c1 : e ≠ 0
 ·rw [if_pos c1] at hA
  subst hA
  have d1 : (e == 0) = false := Yam.2 c1
  have nx := aI @d1 (aI @htk trivial)
  refine' Zkt
  all_goals first | exact ⟨trivial, trivial⟩ | exact ⟨rfl, trivial⟩ | exact ⟨rfl, rfl⟩ | exact ⟨trivial, rfl⟩ | (exfalso; omega) | trace_state
 ·rw [if_neg c1] at hA
  subst hA
  obtain rfl : e = 0 := Classical.not_not.1 c1
  have nx := aI @htk trivial
  refine' Zkt
  all_goals first | exact ⟨trivial, trivial⟩ | exact ⟨rfl, trivial⟩ | exact ⟨rfl, rfl⟩ | exact ⟨trivial, rfl⟩ | (exfalso; omega) | trace_state
end
end Go.Proofs.YtimhmpdfioihlaaGreatDoor
namespace Go.Proofs.YtimhmpdfioihlaaGreatDoor
set_option maxRecDepth 20000
open Go Go.Abs Nat
attribute [local irreducible] AW AWL AC FW CW CWr IntKind.wrap DWL
section
theorem ZD1.NM : type_of% @MB.NM /\ type_of% @Uc.eq_1 /\ type_of% @Ui.eq_1 :=
 ⟨MB.NM, @Uc.eq_1, @Ui.eq_1⟩
open ZD1
theorem Zyz.kp : type_of% (@Zs [0, 2, 3, 4, 5, 6, 7, 8, 9, 10]) := @Zs [0, 2, 3, 4, 5, 6, 7, 8, 9, 10]
theorem Zyz.cl {p : Prop} (h : p := by
 first
  | refine AWL.cM (f := 99) [(0, 0)] Zp6 rfl rfl rfl rfl rfl rfl rfl (hnum) ?_
  | refine AWL.cM (f := 100) [(0, 0)] ZAh rfl rfl rfl rfl rfl rfl rfl (hpart) ?_
  | refine AWL.cM (f := 99) [(0, 26015)] Zp6 rfl rfl rfl rfl rfl rfl rfl (hnum2) ?_
  | refine AWL.cM (f := 102) [(0, 26015)] Zsf rfl rfl rfl rfl rfl rfl rfl (hmost) ?_
  | refine AWL.cM (f := 124) [(0, 26015)] ZyM rfl rfl rfl rfl rfl rfl rfl (hkind) ?_
  | refine AWL.cM (f := 125) [(0, 26015)] Zvg rfl rfl rfl rfl rfl rfl rfl (hexpr) ?_
  | refine AWL.cM (f := 97) [(0, 26015)] ZoL rfl rfl rfl rfl rfl rfl rfl (hmust) ?_
 all_goals (apply_rules (newGoals := .nonDependentOnly) only [dep]; exact ())) : p := h
open Zyz ZFI Zl in
theorem Zxw {b : List Int} {en : Nat} {t : Tq} (h : okT b t.p en) : UF 127 [] b en t (.agg (ZgE (ZeW (b.take en) t).1)) (ZeW (b.take en) t).2 := by
 have hnum := Zb0 h
 obtain ⟨hp1, hn0, hn1⟩ := Zgz h.byt h.rg
 have h1 := h.at hp1
 have hfail : True := trivial
 have hmost : True := trivial
 have hkind : True := trivial
 have hexpr : True := trivial
 have hmust : True := trivial
 obtain ⟨A, hA⟩ : ∃ A, ZeW (b.take en) t = A := ⟨_, rfl⟩
 rw [hA]
 unfold ZeW at hA
 clear hp1 h
 generalize Zaj (b.take en) t = z at hnum hA h1 hn0 hn1
 obtain ⟨n, t1⟩ := z
 simp only at hnum hA h1 hn0 hn1
 have hpart := ZpL h1 n ⟨hn0, hn1⟩
 obtain ⟨E, hE, hEe, h2, h3⟩ := ZuG h1 n hn0
 generalize Zct (b.take en) n t1 = z at hpart hA hE h2 h3
 obtain ⟨ts, pe, t2⟩ := z
 simp only at hpart hA hE h2 h3
 subst hE
 have hpart : AM Tryz.prog 100 [.ptr 0 0, .int .i64 n] (rtM 0 b en t1) [0] (fun r m => r = .ptr 25 0 /\ m = rtM 0 b en t2 ++ [(25, ⟨false, [.view b.length 1 (Zh .u8 b), .int .i64 ts.p, .int .i64 (E : Int), .int .i64 ts.e]⟩)]) := hpart
 have hys : (b.take en).take E = b.take E := by rw [List.take_take, Nat.min_eq_left hEe]
 unfold ZkX at hA
 simp only [Yap] at hA
 rw [hys] at hA
 obtain ⟨B, hB⟩ : ∃ B, ZqD (b.take E) (E : Int) ts = B := ⟨_, rfl⟩
 rw [hB] at hA
 have hB2 : ZuH (b.take E) (E : Int) (Zgw (b.take E) (Zaj (b.take E) ts).1.toNat [] (Zaj (b.take E) ts).2) = B := hB
 have hnum2 := Zb0 h2
 obtain ⟨hp2, hm0, hm1⟩ := Zgz h2.byt h2.rg
 have h4 := h2.at hp2
 clear hp2 hys h1
 generalize Zaj (b.take E) ts = z at hnum2 hB2 h4 hm0 hm1
 obtain ⟨R, t3⟩ := z
 simp only at hnum2 hB2 h4 hm0 hm1
 obtain ⟨R, rfl⟩ : ∃ K : Nat, R = K := ⟨R.toNat, by omega⟩
 rw [Yap] at hB2
 obtain ⟨p, er⟩ := t
 obtain ⟨p1, e1⟩ := t1
 obtain ⟨ps, es⟩ := ts
 unfold UF rtM at *
 have hR9 : ∀ z : Int, z = (R : Int) -> z < 4294967296 := fun z hz => by omega
 clear h2 hm1 hm0 hn0 hn1
 refine AM.enter Tryz.func127 rfl (Yaa rfl) (fun pn => ?_)
 simp only [Tryz.f127]
 have nx := trivial
 refine' Zgc
 refine AW.loop [0, 2, 4, 5, 6, 7] [0, 2, 3000, 26015, 5, 6000] (fun m st => ∃ (i : Nat) (l : List Int) (t : Tq), st = Uc pn b en E t2 t l R i /\ i <= R /\ (∀ z : Int, z = (l.length : Int) -> z <= 512) /\ okT b t.p E /\ ZuH (b.take E) (E : Int) (Zgw (b.take E) (R - i) l t) = B /\ m = R - i) ?_ ?_
 ·exact ⟨_, 0, [], t3, rfl, Nat.zero_le _, fun z hz => by subst hz; decide, h4, by rw [Nat.sub_zero]; exact hB2, rfl⟩
 clear hB2 hB h4 hnum hnum2 hpart
 rintro m st ⟨i, l, t, rfl, hi, hl, ht, hB, rfl⟩
 have hcut : List.take l.length (Zh .i64 l) = Zh .i64 l := Yad (by rw [Za]; exact Nat.le_refl _)
 have hl0 := hl _ rfl
 by_cases hin : i < R /\ t.e = 0
 ·obtain ⟨hin, he⟩ := hin
  have d1 : decide ((i : Int) < (R : Int)) = true := Yae (by omega)
  have hR0 := hR9 _ rfl
  have e7 : IntKind.i64.wrap ((i : Int) + 1) = ((i + 1 : Nat) : Int) := Zb _ (by omega) (by omega)
  have e1 : IntKind.i64.wrap (512 - (l.length : Int)) = 512 - (l.length : Int) := Zb _ (by omega) (by omega)
  obtain ⟨q, hq⟩ : ∃ q, R - i = q + 1 := ⟨R - i - 1, by omega⟩
  rw [hq, Zgw, if_pos he] at hB
  have hmost := Zfn ht (512 - (l.length : Int))
  have hm := Zhe ht.byt ht.rg (512 - (l.length : Int))
  have hle := ZpK (xs := b.take E) (t := t) (m := 512 - (l.length : Int)) (by omega)
  have h5 := ht.at hm.1
  have hm0 := hm.2.1
  clear hm
  generalize ZaK (b.take E) (512 - (l.length : Int)) t = y at hB hmost h5 hle hm0
  obtain ⟨k, u1⟩ := y
  simp only at hB hmost h5 hle hm0
  have hkind := ZkM h5
  have h6 := h5.at (ZnQ h5.rg)
  generalize Zc0 (b.take E) u1 = y at hB hkind h6
  obtain ⟨c, u2⟩ := y
  simp only at hB hkind h6
  obtain ⟨K, rfl⟩ : ∃ K : Nat, k = K := ⟨k.toNat, by omega⟩
  rw [Yap] at hB
  have hKl : ∀ z : Int, z = (l.length : Int) + (K : Int) -> z <= 512 := fun z hz => by omega
  obtain ⟨p3, e3⟩ := t
  simp only at he
  subst he
  obtain ⟨p4, e4⟩ := u1
  unfold UF rtM at hmost hkind
  clear hle hm0 hR0 h5 hl0
  have nx := aI @d1 (aI @e1 trivial)
  refine' Zgc
  refine AW.loop [0, 2, 4, 5, 6, 7, 8, 9, 10] [0, 2, 3000, 26015, 5, 6000] (fun m st => ∃ j : Nat, st = Ui pn b en E t2 u2 (l ++ List.replicate j c) R i K c j /\ j <= K /\ (u2.e ≠ 0 -> j = 0) /\ m = K - j) ?_ ?_
  ·exact ⟨_, 0, by simp only [List.replicate_zero, List.append_nil]; rfl, Nat.zero_le _, fun _ => rfl, rfl⟩
  clear hmost hkind
  rintro m st ⟨j, rfl, hj, hj0, rfl⟩
  have hLl : (l ++ List.replicate j c).length = l.length + j := by rw [Yal, List.length_replicate]
  have hcut2 : List.take (l ++ List.replicate j c).length (Zh .i64 (l ++ List.replicate j c)) = Zh .i64 (l ++ List.replicate j c) := Yad (by rw [Za]; exact Nat.le_refl _)
  have hK0 := hKl _ rfl
  by_cases hjk : j < K /\ u2.e = 0
  ·obtain ⟨hjk, he2⟩ := hjk
   have d2 : decide ((j : Int) < (K : Int)) = true := Yae (by omega)
   have e8 : IntKind.i64.wrap ((j : Int) + 1) = ((j + 1 : Nat) : Int) := Zb _ (by omega) (by omega)
   have hj1 : l ++ List.replicate (j + 1) c = l ++ List.replicate j c ++ [c] := by rw [List.replicate_succ', Ya6]
   have hl1 : (l ++ List.replicate j c ++ [c]).length = (l ++ List.replicate j c).length + 1 := by rw [Yal]; rfl
   have hLb : ∀ z : Int, z = ((l ++ List.replicate j c).length : Int) -> z <= 512 := fun z hz => by omega
   obtain ⟨p5, e5⟩ := u2
   simp only at he2
   subst he2
   generalize l ++ List.replicate j c = L at hj1 hl1 hcut2 hLb
   have hLb2 := hLb _ rfl
   have nx := aI @e8 (aI @d2 (aI @hcut2 trivial))
   refine' Zgc
   all_goals first
    | exact ⟨K - (j + 1), by omega, j + 1, by rw [hj1, Ui, hl1]; simp only [Zh, List.map_append, List.map_cons, List.map_nil]; rfl, by omega, fun h => absurd rfl h, rfl⟩
  ·have hfin : ZuH (b.take E) (E : Int) (Zgw (b.take E) q (l ++ List.replicate j c) u2) = B := by
    by_cases he2 : u2.e = 0
    ·have : j = K := by
      apply Classical.byContradiction; intro h; exact hjk ⟨by omega, he2⟩
     rw [this]
     rw [if_pos he2] at hB; exact hB
    ·rw [hj0 he2, List.replicate_zero, List.append_nil]
     rw [if_neg he2] at hB; exact hB
   have hLb : ∀ z : Int, z = ((l ++ List.replicate j c).length : Int) -> z <= 512 := fun z hz => by omega
   clear hK0
   by_cases hj1 : j < K
   ·have d2 : decide ((j : Int) < (K : Int)) = true := Yae (by omega)
    have d3 : (u2.e == 0) = false := Yam.2 fun h => hjk ⟨hj1, h⟩
    have nx := aI @e7 (aI @d2 (aI @d3 trivial))
    refine' Zgc
    all_goals first
     | exact ⟨R - (i + 1), by omega, i + 1, l ++ List.replicate j c, u2, rfl, by omega, hLb, h6, by rw [show R - (i + 1) = q by omega]; exact hfin, rfl⟩
   ·have d2 : decide ((j : Int) < (K : Int)) = false := Yaf (by omega)
    have nx := aI @e7 (aI @d2 trivial)
    refine' Zgc
    all_goals first
     | exact ⟨R - (i + 1), by omega, i + 1, l ++ List.replicate j c, u2, rfl, by omega, hLb, h6, by rw [show R - (i + 1) = q by omega]; exact hfin, rfl⟩
 ·have hB : ZuH (b.take E) (E : Int) (l, t) = B := by
   rw [<- hB]
   rcases h : R - i with _ | q
   ·rfl
   ·rw [Zgw, if_neg (fun he => hin ⟨by omega, he⟩)]
  unfold ZuH at hB
  simp only at hB
  have hexpr := ZhY ht
  generalize ZbP (b.take E) t = y at hB hexpr
  obtain ⟨c, t4⟩ := y
  simp only at hB hexpr
  have hmust := Zae b E t4 (decide (t4.p = (E : Int)))
  generalize hD : decide (t4.p = (E : Int)) = D at hB hmust
  generalize Z5 D t4 = t5 at hB hmust
  subst hB
  simp only at hA
  subst hA
  obtain ⟨p3, e3⟩ := t
  obtain ⟨p4, e4⟩ := t4
  obtain ⟨p5, e5⟩ := t5
  simp only at hD
  have hD : (p4 == (E : Int)) = D := by rw [<- hD]; rfl
  unfold UF rtM ZkG at hexpr
  unfold UF rtM at hmust
  clear hl0
  by_cases hi1 : i < R
  ·have d1 : decide ((i : Int) < (R : Int)) = true := Yae (by omega)
   have d2 : (e3 == 0) = false := Yam.2 fun h => hin ⟨hi1, h⟩
   have nx := aI @d1 (aI @d2 (aI @hD (aI @hcut trivial)))
   refine' ZoP
   all_goals first | exact ⟨trivial, trivial⟩ | exact ⟨rfl, trivial⟩ | exact ⟨rfl, rfl⟩ | exact ⟨trivial, rfl⟩ | (exfalso; omega) | trace_state
  ·have d1 : decide ((i : Int) < (R : Int)) = false := Yaf (by omega)
   have nx := aI @d1 (aI @hD (aI @hcut trivial))
   refine' ZoP
   all_goals first | exact ⟨trivial, trivial⟩ | exact ⟨rfl, trivial⟩ | exact ⟨rfl, rfl⟩ | exact ⟨trivial, rfl⟩ | (exfalso; omega) | trace_state
end
end Go.Proofs.YtimhmpdfioihlaaGreatDoor
namespace Go.Proofs.YtimhmpdfioihlaaGreatDoor
set_option maxRecDepth 20000
open Go Go.Abs Nat
attribute [local irreducible] AW AWL AC FW CW CWr IntKind.wrap
open MB
theorem ZBC.cl {p : Prop} (h : p := by
 first
  | refine AWL.cM (f := 98) [(0, 0)] Zyd rfl rfl rfl rfl rfl rfl rfl (hc0) ?_
  | refine AWL.cM (f := 97) [(0, 0)] ZoL rfl rfl rfl rfl rfl rfl rfl (hc1) ?_
  | refine AWL.cM (f := 123) [(0, 0)] ZAk rfl rfl rfl rfl rfl rfl rfl (hc2) ?_
 all_goals (apply_rules (newGoals := .nonDependentOnly) only [dep]; exact ())) : p := h
open ZBC Zca ZFG Zns in
theorem ZBD {b : List Int} {en : Nat} {t : Tq} (h : okT b t.p en) (m : Mod) (hl : m.tables.length <= 512) : AM Tryz.prog 103 [.ptr 0 0, .int .i64 4, .ptr 1 0] (rtM 0 b en t ++ ((1, ⟨false, mdC 2000 m⟩) :: mdL 2000 m)) [0, 1] (fun r mm => r = .tup [] /\ mm = rtM 0 b en (ZqG (b.take en) t).2 ++ ((1, ⟨false, mdC 2000 { m with tables := m.tables ++ [(ZqG (b.take en) t).1] }⟩) :: mdL 2000 { m with tables := m.tables ++ [(ZqG (b.take en) t).1] })) := by
 have hcut : List.take (m.tables.length * 2) (m.tables.flatMap Zc3) = m.tables.flatMap Zc3 := Yad (by rw [Zq Zde]; omega)
 unfold ZqG ZaV
 have hc0 := Zec h
 have hk1 := h.mvs ZdE
 generalize ZbZ (b.take en) t = z at hc0 hk1 ⊢
 obtain ⟨w0, t1⟩ := z
 simp only at hc0 hk1 ⊢
 obtain ⟨c, rfl⟩ : ∃ x, x = w0 := ⟨_, rfl⟩
 have hc1 := Zae b en t1 (c == 112)
 have hk2 := hk1.mu (c == 112)
 generalize Z5 (c == 112) t1 = t2 at hc1 hk2 ⊢
 have hc2 := ZjN hk2 1024
 have hk3 := hk2.mvs (ZpM h.byt 1024)
 generalize Zi3 (b.take en) 1024 t2 = z at hc2 hk3 ⊢
 obtain ⟨w2, t3⟩ := z
 simp only at hc2 hk3 ⊢
 obtain ⟨xa, xb⟩ := w2
 unfold Zc3 at hc2
 have hl2 : (m.tables ++ [(xa, xb)]).length = m.tables.length + 1 := by simp
 have hs2 : m.tables.flatMap Zc3 ++ [.int .i64 xa, .int .i64 xb] = (m.tables ++ [(xa, xb)]).flatMap Zc3 := (Zai (f := Zc3) m.tables (xa, xb)).symm
 unfold mdC mdL
 simp only [hl2]
 rw [<- hs2]
 obtain ⟨p0, e0⟩ := t
 obtain ⟨p1, e1⟩ := t1
 obtain ⟨p2, e2⟩ := t2
 obtain ⟨p3, e3⟩ := t3
 unfold UF rtM at *
 simp only [List.cons_append, List.nil_append, Nat.reduceAdd] at *
 clear hk1 hk2 hk3
 refine AM.enter Tryz.func103 rfl (Yaa rfl) (fun pn => ?_)
 simp only [Tryz.f103]
 have nx := trivial
 refine' Zwd
 refine AW.drawT (L0 := (bA 12 0)) (by decide +kernel) ZfU ?_
 have nx := aI @hcut trivial
 refine' Zck
 all_goals
  (repeat (first | refine QEq.mp (by assumption) ?_ | simp only [Zb1, Go.Abs.blockQ, ↓reduceIte, Nat.reduceEqDiff]))
  have nx := trivial
  refine' Zcj
  all_goals first | exact ⟨trivial, trivial⟩ | exact ⟨rfl, trivial⟩ | exact ⟨rfl, rfl⟩ | exact ⟨trivial, rfl⟩ | (exfalso; omega) | trace_state
theorem ZBE.cl {p : Prop} (h : p := by
 first
  | refine AWL.cM (f := 123) [(0, 0)] ZAk rfl rfl rfl rfl rfl rfl rfl (hc0) ?_
 all_goals (apply_rules (newGoals := .nonDependentOnly) only [dep]; exact ())) : p := h
open ZBE Zca ZFG Zns in
theorem ZBF {b : List Int} {en : Nat} {t : Tq} (h : okT b t.p en) (m : Mod) (hl : m.mems.length <= 512) : AM Tryz.prog 103 [.ptr 0 0, .int .i64 5, .ptr 1 0] (rtM 0 b en t ++ ((1, ⟨false, mdC 2000 m⟩) :: mdL 2000 m)) [0, 1] (fun r mm => r = .tup [] /\ mm = rtM 0 b en (Zi3 (b.take en) 16 t).2 ++ ((1, ⟨false, mdC 2000 { m with mems := m.mems ++ [(Zi3 (b.take en) 16 t).1] }⟩) :: mdL 2000 { m with mems := m.mems ++ [(Zi3 (b.take en) 16 t).1] })) := by
 have hcut : List.take (m.mems.length * 2) (m.mems.flatMap Zc3) = m.mems.flatMap Zc3 := Yad (by rw [Zq Zde]; omega)
 have hc0 := ZjN h 16
 have hk1 := h.mvs (ZpM h.byt 16)
 generalize Zi3 (b.take en) 16 t = z at hc0 hk1 ⊢
 obtain ⟨w0, t1⟩ := z
 simp only at hc0 hk1 ⊢
 obtain ⟨xa, xb⟩ := w0
 unfold Zc3 at hc0
 have hl2 : (m.mems ++ [(xa, xb)]).length = m.mems.length + 1 := by simp
 have hs2 : m.mems.flatMap Zc3 ++ [.int .i64 xa, .int .i64 xb] = (m.mems ++ [(xa, xb)]).flatMap Zc3 := (Zai (f := Zc3) m.mems (xa, xb)).symm
 unfold mdC mdL
 simp only [hl2]
 rw [<- hs2]
 obtain ⟨p0, e0⟩ := t
 obtain ⟨p1, e1⟩ := t1
 unfold UF rtM at *
 simp only [List.cons_append, List.nil_append, Nat.reduceAdd] at *
 clear hk1
 refine AM.enter Tryz.func103 rfl (Yaa rfl) (fun pn => ?_)
 simp only [Tryz.f103]
 have nx := trivial
 refine' ZvX
 refine AW.drawT (L0 := (bA 12 0)) (by decide +kernel) ZfU ?_
 have nx := aI @hcut trivial
 refine' Zck
 all_goals
  (repeat (first | refine QEq.mp (by assumption) ?_ | simp only [Zb1, Go.Abs.blockQ, ↓reduceIte, Nat.reduceEqDiff]))
  have nx := trivial
  refine' Zcj
  all_goals first | exact ⟨trivial, trivial⟩ | exact ⟨rfl, trivial⟩ | exact ⟨rfl, rfl⟩ | exact ⟨trivial, rfl⟩ | (exfalso; omega) | trace_state
end Go.Proofs.YtimhmpdfioihlaaGreatDoor
