/- The document's tape: name, kinds, Zh. -/
import Derived.Test.YtimhmpdfioihlaaGreatDoorDP
import Derived.Test.YtimhmpdfioihlaaGreatDoorGWords
import Derived.Test.YtimhmpdfioihlaaGreatDoorGCB
import Derived.Test.YtimhmpdfioihlaaGreatDoorGRowCod
import Derived.Test.YtimhmpdfioihlaaGreatDoorRM2
import Derived.Test.YtimhmpdfioihlaaGreatDoorRUtf
import Derived.Test.YtimhmpdfioihlaaGreatDoorGMCode
import Derived.Test.YtimhmpdfioihlaaGreatDoorGXP
import Derived.Test.YtimhmpdfioihlaaGreatDoorGMSec
set_option linter.unusedSimpArgs false
set_option linter.unusedVariables false
set_option maxHeartbeats 12800000
namespace Go.Proofs.YtimhmpdfioihlaaGreatDoor
set_option maxRecDepth 20000
open Go Go.Abs Nat
attribute [local irreducible] AW AWL AC FW CW CWr IntKind.wrap
section
theorem Zhe {xs : List Int} (hb : bytes xs) {t : Tq} (h : 0 <= t.p /\ t.p <= xs.length) (m : Int) : (t.p <= (ZaK xs m t).2.p /\ (ZaK xs m t).2.p <= xs.length) /\ 0 <= (ZaK xs m t).1 /\ (ZaK xs m t).1 < 4294967296 := by
 have h1 := Zgz hb h
 unfold ZaK
 split
 ·rw [Zc1]; exact ⟨h1.1, by simp⟩
 ·exact h1
theorem ZnQ {xs : List Int} {t : Tq} (h : 0 <= t.p /\ t.p <= xs.length) : t.p <= (Zc0 xs t).2.p /\ (Zc0 xs t).2.p <= xs.length := by
 have h1 := Zus h
 unfold Zc0
 simp only
 rw [Zhd]
 split
 ·rw [Zc1]; exact h1
 ·exact h1
theorem ZuF {xs : List Int} (hb : bytes xs) {t : Tq} (h : 0 <= t.p /\ t.p <= xs.length) : (t.p <= (ZcD xs t).2.p /\ (ZcD xs t).2.p <= xs.length) /\ bytes (ZcD xs t).1 /\ (ZcD xs t).1.length <= xs.length := by
 have h1 := Zgz hb h
 unfold ZcD
 split
 ·rw [Zc1]; exact ⟨h1.1, (fun x hx => by cases hx), Nat.zero_le _⟩
 ·split
  ·exact ⟨h1.1, (fun x hx => by cases hx), Nat.zero_le _⟩
  ·rename_i c1 c2
   have c3 := Classical.not_not.1 c2
   have c4 : ¬ ((Zaj xs t).1 > xs.length - (Zaj xs t).2.p) := fun h => c1 ⟨c3, h⟩
   refine ⟨by simp only; omega, fun x hx => hb x (List.mem_of_mem_drop (List.mem_of_mem_take hx)), ?_⟩
   rw [Yar, Yaw]; omega
theorem okT.at {b : List Int} {p q : Int} {en : Nat} (h : okT b p en) (hq : p <= q /\ q <= (b.take en).length) : okT b q en := h.mv hq.1 (by rw [h.len] at hq; exact hq.2)
theorem okT.rg {b : List Int} {p : Int} {en : Nat} (h : okT b p en) : 0 <= p /\ p <= (b.take en).length := ⟨h.p0, by rw [h.len]; exact h.p1⟩
def TK (pn : Nat -> Option BI) (b : List Int) (en : Nat) (t : Tq) (l : List Int) (N i : Nat) : St := { n := 26, slots := [(0, .ptr 0 0), (3, .ref 3 0 l.length 1), (4, .int .i64 (N : Int)), (5, .int .i64 (i : Int))], mem := [(0, ⟨false, [.view b.length 1 (Zh .u8 b), .int .i64 t.p, .int .i64 en, .int .i64 t.e]⟩), (3, ⟨true, Zh .i64 l⟩)], lent := [(0, pn 0)] }
theorem ZFs.NM : type_of% @MB.NM /\ type_of% @TK.eq_1 :=
 ⟨MB.NM, @TK.eq_1⟩
open ZFs
theorem ZDU.cl {p : Prop} (h : p := by
 first
  | refine AWL.cM (f := 97) [(0, 0)] ZoL rfl rfl rfl rfl rfl rfl rfl (hmust) ?_
  | refine AWL.cM (f := 120) [(0, 0)] ZAi rfl rfl rfl rfl rfl rfl rfl (htext) ?_
  | refine AWL.frzG rfl rfl rfl ?_
  | refine AWL.cC (f := 121) ZCr rfl rfl rfl rfl rfl rfl (hutf) ?_
 all_goals (apply_rules (newGoals := .nonDependentOnly) only [dep]; exact ())) : p := h
theorem ZDV.cl {p : Prop} (h : p := by
 first
  | refine AWL.cM (f := 102) [(0, 0)] Zsf rfl rfl rfl rfl rfl rfl rfl (hmost) ?_
  | refine AWL.cM (f := 124) [(0, 0)] ZyM rfl rfl rfl rfl rfl rfl rfl (hkind) ?_
  | refine AWL.frzG rfl rfl rfl ?_
 all_goals (apply_rules (newGoals := .nonDependentOnly) only [dep]; exact ())) : p := h
open ZDU ZcA ZFE ZiP in
theorem ZhX {b : List Int} {en : Nat} {t : Tq} (h : okT b t.p en) : UF 101 [] b en t (.str (ZeV (b.take en) t).1) (ZeV (b.take en) t).2 := by
 have htext := ZpC h
 obtain ⟨-, hby, hll⟩ := ZuF h.byt h.rg
 have hfail : True := trivial
 have hnum : True := trivial
 have hone : True := trivial
 have hmost : True := trivial
 have hkind : True := trivial
 have hlen := h.len
 have hl := h.hl
 have he := h.he
 unfold ZeV
 simp only
 generalize ZcD (b.take en) t = z at htext hby hll
 obtain ⟨l, t1⟩ := z
 simp only at htext hby hll
 have hutf := ZBs l hby (by omega)
 have hmust := Zae b en t1 (ZaU l)
 generalize Z5 (ZaU l) t1 = t2 at hmust
 generalize ZaU l = B at hutf hmust
 obtain ⟨p, er⟩ := t
 obtain ⟨p1, e1⟩ := t1
 obtain ⟨p2, e2⟩ := t2
 unfold UF rtM toS at *
 clear h
 refine AM.enter Tryz.func101 rfl (Yaa rfl) (fun pn => ?_)
 simp only [Tryz.f101]
 have nx := trivial
 refine' Zkq
 all_goals first | exact ⟨trivial, trivial⟩ | exact ⟨rfl, trivial⟩ | exact ⟨rfl, rfl⟩ | exact ⟨trivial, rfl⟩ | (exfalso; omega) | trace_state
open ZDV ZgY ZFE ZiP in
theorem Zmx {b : List Int} {en : Nat} {t : Tq} (h : okT b t.p en) : UF 122 [] b en t (.view (Zcs (b.take en) t).1.length 1 (Zh .i64 (Zcs (b.take en) t).1)) (Zcs (b.take en) t).2 := by
 have hmost := Zfn h 32
 obtain ⟨hp1, hn0, hn1⟩ := Zhe h.byt h.rg 32
 have h2 := h.at hp1
 have hfail : True := trivial
 have hnum : True := trivial
 have hone : True := trivial
 have hkind : True := trivial
 have htext : True := trivial
 have hmust : True := trivial
 have hutf : True := trivial
 obtain ⟨A, hA⟩ : ∃ A, Zcs (b.take en) t = A := ⟨_, rfl⟩
 rw [hA]
 unfold Zcs at hA
 generalize ZaK (b.take en) 32 t = z at hmost hA h2 hn0 hn1
 obtain ⟨n, t1⟩ := z
 simp only at hmost hA h2 hn0 hn1
 obtain ⟨N, rfl⟩ : ∃ N : Nat, n = N := ⟨n.toNat, by omega⟩
 rw [Yap] at hA
 clear h hp1
 obtain ⟨p, er⟩ := t
 unfold UF rtM at *
 refine AM.enter Tryz.func122 rfl (Yaa rfl) (fun pn => ?_)
 simp only [Tryz.f122]
 have nx := trivial
 refine' ZbV
 refine AW.loop [0, 3, 4, 5] [0, 3] (fun m st => ∃ (i : Nat) (l : List Int) (t : Tq), st = TK pn b en t l N i /\ i <= N /\ l.length = i /\ okT b t.p en /\ (l ++ (ZbL (Zc0 (b.take en)) (N - i) t).1, (ZbL (Zc0 (b.take en)) (N - i) t).2) = A /\ m = N - i) ?_ ?_
 ·exact ⟨_, 0, [], t1, rfl, Nat.zero_le _, rfl, h2, by rw [<- hA]; rfl, rfl⟩
 clear hA h2 hmost
 rintro m st ⟨i, l, t, rfl, hi, hl, ht, hA, rfl⟩
 have hcut : List.take l.length (Zh .i64 l) = Zh .i64 l := Yad (by rw [Za]; omega)
 by_cases hin : i < N
 ·have d1 : decide ((i : Int) < (N : Int)) = true := Yae (by omega)
  have e7 : IntKind.i64.wrap ((i : Int) + 1) = ((i + 1 : Nat) : Int) := Zb _ (by omega) (by omega)
  obtain ⟨k, hk⟩ : ∃ k, N - i = k + 1 := ⟨N - i - 1, by omega⟩
  rw [hk, ZbL] at hA
  by_cases he : t.e = 0
  ·rw [if_pos he] at hA
   have hkind := ZkM ht
   have hp2 := ZnQ ht.rg
   have ht2 := ht.at hp2
   generalize Zc0 (b.take en) t = y at hA hkind ht2
   obtain ⟨c, t2⟩ := y
   simp only at hA hkind ht2
   obtain ⟨q, e⟩ := t
   simp only at he
   subst he
   unfold UF rtM at hkind
   clear hp2
   have hl2 : (l ++ [c]).length = l.length + 1 := by simp
   have hs2 : Zh .i64 l ++ [.int .i64 c] = Zh .i64 (l ++ [c]) := by simp [Zh]
   have nx := aI @d1 (aI @e7 (aI @hcut trivial))
   refine' ZbV
   all_goals first
    | exact ⟨N - (i + 1), by omega, i + 1, l ++ [c], t2, by rw [TK, hl2, <- hs2]; rfl, by omega, by rw [hl2, hl], ht2, by rw [show N - (i + 1) = k by omega, Ya6]; exact hA, rfl⟩
  ·rw [if_neg he] at hA
   simp only [List.append_nil] at hA
   subst hA
   obtain ⟨q, e⟩ := t
   simp only at he
   have d2 : (e == 0) = false := Yam.2 he
   have nx := aI @d1 (aI @d2 (aI @hcut trivial))
   refine' ZbV
   all_goals first | exact ⟨trivial, trivial⟩ | exact ⟨rfl, trivial⟩ | exact ⟨rfl, rfl⟩ | exact ⟨trivial, rfl⟩ | (exfalso; omega) | trace_state
 ·have d1 : decide ((i : Int) < (N : Int)) = false := Yaf (by omega)
  obtain rfl : i = N := by omega
  rw [Nat.sub_self, ZbL] at hA
  simp only [List.append_nil] at hA
  subst hA
  obtain ⟨q, e⟩ := t
  have nx := aI @d1 (aI @hcut trivial)
  refine' ZbV
  all_goals first | exact ⟨trivial, trivial⟩ | exact ⟨rfl, trivial⟩ | exact ⟨rfl, rfl⟩ | exact ⟨trivial, rfl⟩ | (exfalso; omega) | trace_state
end
section
theorem ZuG {b : List Int} {en : Nat} {t : Tq} (h : okT b t.p en) (n : Int) (hn : 0 <= n) : ∃ E : Nat, (Zct (b.take en) n t).2.1 = E /\ E <= en /\ okT b (Zct (b.take en) n t).1.p E /\ okT b (Zct (b.take en) n t).2.2.p en := by
 obtain ⟨hb, hl, he, p0, p1⟩ := h
 have hlen : (b.take en).length = en := by rw [Yar]; omega
 unfold Zct
 rw [hlen]
 by_cases c : t.e ≠ 0 \/ n > (en : Int) - t.p
 ·rw [if_pos c]
  refine ⟨t.p.toNat, by simp only; omega, by omega, ⟨hb, hl, by omega, p0, by simp only; omega⟩, ⟨hb, hl, he, by simp only [Zc1]; exact p0, by simp only [Zc1]; exact p1⟩⟩
 ·rw [if_neg c]
  have : ¬ (n > (en : Int) - t.p) := fun h => c (.inr h)
  refine ⟨(t.p + n).toNat, by simp only; omega, by omega, ⟨hb, hl, by omega, p0, by simp only; omega⟩, ⟨hb, hl, he, by simp only; omega, by simp only; omega⟩⟩
def Uc (pn : Nat -> Option BI) (b : List Int) (en E : Nat) (t2 t : Tq) (l : List Int) (R i : Nat) : St := { n := 79, slots := [(0, .ptr 0 0), (2, .ptr 2 0), (4, .ptr 26015 0), (5, .ptr 5 0), (6, .int .i64 (R : Int)), (7, .int .i64 (i : Int))], mem := [(0, ⟨false, [.view b.length 1 (Zh .u8 b), .int .i64 t2.p, .int .i64 en, .int .i64 t2.e]⟩), (2, ⟨false, [.ref 3000 0 0 1, .nils]⟩), (3000, ⟨true, []⟩), (26015, ⟨false, [.view b.length 1 (Zh .u8 b), .int .i64 t.p, .int .i64 (E : Int), .int .i64 t.e]⟩), (5, ⟨false, [.ref 6000 0 l.length 1, .nils]⟩), (6000, ⟨true, Zh .i64 l⟩)], lent := [(26015, none), (0, pn 0)] }
def Ui (pn : Nat -> Option BI) (b : List Int) (en E : Nat) (t2 t : Tq) (l : List Int) (R i : Nat) (k c : Int) (j : Nat) : St := { n := 79, slots := [(0, .ptr 0 0), (2, .ptr 2 0), (4, .ptr 26015 0), (5, .ptr 5 0), (6, .int .i64 (R : Int)), (7, .int .i64 (i : Int)), (8, .int .i64 k), (9, .int .i64 c), (10, .int .i64 (j : Int))], mem := [(0, ⟨false, [.view b.length 1 (Zh .u8 b), .int .i64 t2.p, .int .i64 en, .int .i64 t2.e]⟩), (2, ⟨false, [.ref 3000 0 0 1, .nils]⟩), (3000, ⟨true, []⟩), (26015, ⟨false, [.view b.length 1 (Zh .u8 b), .int .i64 t.p, .int .i64 (E : Int), .int .i64 t.e]⟩), (5, ⟨false, [.ref 6000 0 l.length 1, .nils]⟩), (6000, ⟨true, Zh .i64 l⟩)], lent := [(26015, none), (0, pn 0)] }
def ZuH (ys : List Int) (en : Int) (x : List Int × Tq) : Zd6 × Tq := (⟨x.1, (ZbP ys x.2).1⟩, Z5 (decide ((ZbP ys x.2).2.p = en)) (ZbP ys x.2).2)
theorem ZpK {xs : List Int} {t : Tq} {m : Int} (hm : 0 <= m) : (ZaK xs m t).1 <= m := by
 unfold ZaK
 split
 ·exact hm
 ·omega
def PUR (b : List Int) (en : Nat) (z : Tq × Int × Tq) (r : V) (m : Mem) : Prop := r = .ptr 25 0 /\ m = rtM 0 b en z.2.2 ++ [(25, ⟨false, [.view b.length 1 (Zh .u8 b), .int .i64 z.1.p, .int .i64 z.2.1, .int .i64 z.1.e]⟩)]
theorem ZFu.NM : type_of% @MB.NM /\ type_of% @Uc.eq_1 /\ type_of% @Ui.eq_1 :=
 ⟨MB.NM, @Uc.eq_1, @Ui.eq_1⟩
open ZFu
theorem ZD0.cl {p : Prop} (h : p := by
 first
  | refine AWL.cM (f := 118) [(0, 0)] Zj0 rfl rfl rfl rfl rfl rfl rfl (hfail) ?_
 all_goals (apply_rules (newGoals := .nonDependentOnly) only [dep]; exact ())) : p := h
open ZD0 ZfK ZFI Zl in
theorem ZpL {b : List Int} {en : Nat} {t : Tq} (h : okT b t.p en) (n : Int) (hn : 0 <= n /\ n < 4294967296) : AM Tryz.prog 100 [.ptr 0 0, .int .i64 n] (rtM 0 b en t) [0] (PUR b en (Zct (b.take en) n t)) := by
 have hlen := h.len
 obtain ⟨hb, hl, he, p0, p1⟩ := h
 obtain ⟨A, hA⟩ : ∃ A, Zct (b.take en) n t = A := ⟨_, rfl⟩
 rw [hA]
 unfold Zct at hA
 rw [hlen] at hA
 have hfail := Zdg b en t 10
 generalize Za2 t 10 = t2 at hfail hA
 obtain ⟨p, er⟩ := t
 obtain ⟨p2, e2⟩ := t2
 have hnum : True := trivial
 have hpart : True := trivial
 have hnum2 : True := trivial
 have hmost : True := trivial
 have hkind : True := trivial
 have hexpr : True := trivial
 have hmust : True := trivial
 simp only at p0 p1 hA
 have ew1 : IntKind.i64.wrap (p + n) = p + n := Zb _ (by omega) (by omega)
 have ew2 : IntKind.i64.wrap ((en : Int) - p) = (en : Int) - p := Zb _ (by omega) (by omega)
 unfold UF rtM at hfail
 unfold PUR rtM
 refine AM.enter Tryz.func100 rfl (Yaa rfl) (fun pn => ?_)
 simp only [Tryz.f100]
 by_cases c0 : er ≠ 0
 ·rw [if_pos (.inl c0)] at hA
  subst hA
  have d0 : (er == 0) = false := Yam.2 c0
  have nx := aI @ew1 (aI @ew2 (aI @d0 trivial))
  refine' Zkj
  all_goals first | exact ⟨trivial, trivial⟩ | exact ⟨rfl, trivial⟩ | exact ⟨rfl, rfl⟩ | exact ⟨trivial, rfl⟩ | (exfalso; omega) | trace_state
 obtain rfl : er = 0 := Classical.not_not.1 c0
 by_cases c1 : n > (en : Int) - p
 ·rw [if_pos (.inr c1)] at hA
  subst hA
  have d1 : decide (n > (en : Int) - p) = true := Yae c1
  have nx := aI @ew1 (aI @ew2 (aI @d1 trivial))
  refine' Zkj
  all_goals first | exact ⟨trivial, trivial⟩ | exact ⟨rfl, trivial⟩ | exact ⟨rfl, rfl⟩ | exact ⟨trivial, rfl⟩ | (exfalso; omega) | trace_state
 ·rw [if_neg (fun h => h.elim (fun h => h rfl) c1)] at hA
  subst hA
  have d1 : decide (n > (en : Int) - p) = false := Yaf c1
  have nx := aI @ew1 (aI @ew2 (aI @d1 trivial))
  refine' Zkj
  all_goals first | exact ⟨trivial, trivial⟩ | exact ⟨rfl, trivial⟩ | exact ⟨rfl, rfl⟩ | exact ⟨trivial, rfl⟩ | (exfalso; omega) | trace_state
end
end Go.Proofs.YtimhmpdfioihlaaGreatDoor
namespace Go.Proofs.YtimhmpdfioihlaaGreatDoor
set_option maxRecDepth 20000
open Go Go.Abs
def Mvs {α : Type} (xs : List Int) (f : Tq -> α × Tq) : Prop := ∀ t : Tq, 0 <= t.p /\ t.p <= (xs.length : Int) -> 0 <= (f t).2.p /\ (f t).2.p <= (xs.length : Int)
theorem ZbO {α β : Type} {xs : List Int} {f : Tq -> α × Tq} {g : α -> Tq -> β × Tq} (hf : Mvs xs f) (hg : ∀ a, Mvs xs (g a)) : Mvs xs (fun t => ZaV (f t) g) := fun t h => hg _ _ (hf t h)
theorem ZfS {α : Type} {xs : List Int} {f : Tq -> α × Tq} (hf : Mvs xs f) (c : Bool) : Mvs xs (fun t => f (Z5 c t)) := fun t h => hf _ (by rw [Zhd]; exact h)
theorem ZjO {α : Type} {xs : List Int} (a : α) : Mvs xs (fun t => (a, t)) := fun _ h => h
theorem ZdE {xs : List Int} : Mvs xs (ZbZ xs) := fun t h => by have := Zus h; omega
theorem ZdF {xs : List Int} (hb : bytes xs) : Mvs xs (Zaj xs) := fun t h => by have := (Zgz hb h).1; omega
theorem ZuI {xs : List Int} (hb : bytes xs) (m : Int) : Mvs xs (ZaK xs m) := fun t h => by have := (Zhe hb h m).1; omega
theorem ZnR {xs : List Int} (hb : bytes xs) : Mvs xs (ZcD xs) := fun t h => by have := (ZuF hb h).1; omega
theorem ZnS {xs : List Int} : Mvs xs (Zc0 xs) := fun t h => by have := ZnQ h; omega
theorem Zhf {xs : List Int} (hb : bytes xs) : Mvs xs (ZeV xs) := fun t h => by
 unfold ZeV
 rw [Zhd]
 exact ZnR hb t h
theorem ZyA {α : Type} {xs : List Int} {one : Tq -> α × Tq} (h1 : Mvs xs one) : ∀ n, Mvs xs (ZbL one n)
 | 0 => fun t h => h
 | n + 1 => fun t h => by
   rw [ZbL]
   split
   ·exact ZyA h1 n _ (h1 t h)
   ·exact h
theorem ZuJ {α : Type} {xs : List Int} (hb : bytes xs) {one : Tq -> α × Tq} (h1 : Mvs xs one) (m : Int) : Mvs xs (Zhc xs m one) := fun t h => ZyA h1 _ _ (ZuI hb m t h)
theorem ZhZ {xs : List Int} (hb : bytes xs) : Mvs xs (Zcs xs) := ZuJ hb ZnS 32
theorem ZuK {xs : List Int} (hb : bytes xs) (m : Int) : Mvs xs (Zg8 xs m) := ZuJ hb (ZdF hb) m
theorem ZpM {xs : List Int} (hb : bytes xs) (m : Int) : Mvs xs (Zi3 xs m) := fun t h => by
 have h1 := ZdE (xs := xs) t h
 have h2 := ZuI hb m (Z5 (decide ((ZbZ xs t).1 <= 1)) (ZbZ xs t).2) (by rw [Zhd]; exact h1)
 unfold Zi3
 split
 ·exact ZdF hb _ h2
 ·exact h2
theorem Zhg {xs : List Int} (hb : bytes xs) : Mvs xs (ZbP xs) := fun t h => by
 unfold ZbP
 split
 ·exact h
 ·by_cases c : (Z6 xs t.p).2.2 ≠ 0
  ·rw [if_pos c]
   show 0 <= (Za2 _ _).p /\ (Za2 _ _).p <= _
   rw [Zc1]; exact h
  ·rw [if_neg c]
   have h1 : ¬ (t.p < 0 \/ t.p > (xs.length : Int)) := by omega
   have c0 := Classical.not_not.1 c
   have hr : Z6 xs t.p = ZcB xs (xs.length + 1) ⟨t.p, [], [], 0⟩ [] := if_neg h1
   rw [hr] at c0
   have := ZeP hb _ _ _ _ _ ⟨h.1, h.2⟩ (Prod.ext rfl (Prod.ext rfl c0))
   simp only [hr]
   generalize ZcB xs (xs.length + 1) ⟨t.p, [], [], 0⟩ [] = z at this
   obtain ⟨z1, z2, z3⟩ := z
   simp only at this ⊢
   omega
theorem ZBt {α : Type} {xs : List Int} (hb : bytes xs) (f : List Int -> Int -> Tq -> α × Tq) : Mvs xs (fun t => ZkX xs f (Zct xs (Zaj xs t).1 (Zaj xs t).2)) := fun t h => by
 obtain ⟨h1, h2, h3⟩ := Zgz hb h
 show 0 <= (ZkX xs f (Zct xs (Zaj xs t).1 (Zaj xs t).2)).2.p /\ (ZkX xs f (Zct xs (Zaj xs t).1 (Zaj xs t).2)).2.p <= (xs.length : Int)
 generalize Zaj xs t = y at h1 h2 h3 ⊢
 obtain ⟨n, u⟩ := y
 simp only at h1 h2 h3 ⊢
 unfold ZkX Zct
 split
 ·show 0 <= (Za2 _ _).p /\ (Za2 _ _).p <= _
  rw [Zc1]; omega
 ·rename_i c
  have c2 : ¬ n > xs.length - u.p := fun h => c (.inr h)
  show 0 <= u.p + n /\ u.p + n <= _
  omega
theorem ZuL {xs : List Int} (hb : bytes xs) : Mvs xs (ZeW xs) := ZBt hb ZqD
theorem ZBu {xs : List Int} (hb : bytes xs) : Mvs xs (ZqE xs) := ZbO ZdE fun c => ZfS (ZbO (ZhZ hb) fun i => ZbO (ZhZ hb) fun o => ZjO _) _
theorem ZBv {xs : List Int} (hb : bytes xs) : Mvs xs (ZqF xs) := ZbO (Zhf hb) fun m => ZbO (Zhf hb) fun n => ZbO ZdE fun c => ZfS (ZbO (ZdF hb) fun i => ZjO _) _
theorem ZBw {xs : List Int} (hb : bytes xs) : Mvs xs (ZqG xs) := ZbO ZdE fun c => ZfS (ZpM hb 1024) _
theorem ZzM {xs : List Int} (hb : bytes xs) : Mvs xs (Zg9 xs) := ZbO ZnS fun k => ZbO ZdE fun c => ZfS (ZbO (Zhg hb) fun e => ZjO _) _
theorem ZBx {xs : List Int} (hb : bytes xs) : Mvs xs (ZqH xs) := ZbO (Zhf hb) fun n => ZbO ZdE fun c => ZfS (ZbO (ZdF hb) fun i => ZjO _) _
theorem ZzN {xs : List Int} (hb : bytes xs) : Mvs xs (Zha xs) := ZbO (ZdF hb) fun c => ZfS (ZbO (Zhg hb) fun e => ZbO (ZuK hb 1024) fun f => ZjO _) _
theorem ZzO {xs : List Int} (hb : bytes xs) : Mvs xs (Zhb xs) := ZbO (ZdF hb) fun c => ZfS (ZbO (Zhg hb) fun e => ZbO (ZnR hb) fun f => ZjO _) _
theorem okT.mvs {α : Type} {b : List Int} {en : Nat} {t : Tq} (h : okT b t.p en) {f : Tq -> α × Tq} (hf : Mvs (b.take en) f) : okT b (f t).2.p en := by
 have := hf t h.rg
 rw [h.len] at this
 exact ⟨h.hb, h.hl, h.he, this.1, this.2⟩
theorem okT.mu {b : List Int} {en : Nat} {t : Tq} (h : okT b t.p en) (c : Bool) : okT b (Z5 c t).p en := by rw [Zhd]; exact h
end Go.Proofs.YtimhmpdfioihlaaGreatDoor
namespace Go.Proofs.YtimhmpdfioihlaaGreatDoor
set_option maxRecDepth 20000
open Go Go.Abs Nat
attribute [local irreducible] AW AWL AC FW CW CWr IntKind.wrap
open MB
theorem ZBy.cl {p : Prop} (h : p := by
 first
  | refine AWL.cM (f := 98) [(0, 0)] Zyd rfl rfl rfl rfl rfl rfl rfl (hc0) ?_
  | refine AWL.cM (f := 97) [(0, 0)] ZoL rfl rfl rfl rfl rfl rfl rfl (hc1) ?_
  | refine AWL.cM (f := 122) [(0, 0)] ZAj rfl rfl rfl rfl rfl rfl rfl (hc2) ?_
  | refine AWL.cM (f := 122) [(0, 0)] ZAj rfl rfl rfl rfl rfl rfl rfl (hc3) ?_
 all_goals (apply_rules (newGoals := .nonDependentOnly) only [dep]; exact ())) : p := h
open ZBy Zca ZFD Zl in
theorem ZBz {b : List Int} {en : Nat} {t : Tq} (h : okT b t.p en) (m : Mod) (hl : m.types.length <= 512) : AM Tryz.prog 103 [.ptr 0 0, .int .i64 1, .ptr 1 0] (rtM 0 b en t ++ ((1, ⟨false, mdC 2000 m⟩) :: mdL 2000 m)) [0, 1] (fun r mm => r = .tup [] /\ mm = rtM 0 b en (ZqE (b.take en) t).2 ++ ((1, ⟨false, mdC 2000 { m with types := m.types ++ [(ZqE (b.take en) t).1] }⟩) :: mdL 2000 { m with types := m.types ++ [(ZqE (b.take en) t).1] })) := by
 have hcut : List.take (m.types.length * 2) (m.types.flatMap ZfV) = m.types.flatMap ZfV := Yad (by rw [Zq Zfg]; omega)
 unfold ZqE ZaV
 have hc0 := Zec h
 have hk1 := h.mvs ZdE
 generalize ZbZ (b.take en) t = z at hc0 hk1 ⊢
 obtain ⟨w0, t1⟩ := z
 simp only at hc0 hk1 ⊢
 obtain ⟨c, rfl⟩ : ∃ x, x = w0 := ⟨_, rfl⟩
 have hc1 := Zae b en t1 (c == 96)
 have hk2 := hk1.mu (c == 96)
 generalize Z5 (c == 96) t1 = t2 at hc1 hk2 ⊢
 have hc2 := Zmx hk2
 have hk3 := hk2.mvs (ZhZ h.byt)
 generalize Zcs (b.take en) t2 = z at hc2 hk3 ⊢
 obtain ⟨w2, t3⟩ := z
 simp only at hc2 hk3 ⊢
 obtain ⟨xi, rfl⟩ : ∃ x, x = w2 := ⟨_, rfl⟩
 have hc3 := Zmx hk3
 have hk4 := hk3.mvs (ZhZ h.byt)
 generalize Zcs (b.take en) t3 = z at hc3 hk4 ⊢
 obtain ⟨w3, t4⟩ := z
 simp only at hc3 hk4 ⊢
 obtain ⟨xo, rfl⟩ : ∃ x, x = w3 := ⟨_, rfl⟩
 have hl2 : (m.types ++ [(⟨xi, xo⟩ : Zmf)]).length = m.types.length + 1 := by simp
 have hs2 : m.types.flatMap ZfV ++ [.view xi.length 1 (Zh .i64 xi), .view xo.length 1 (Zh .i64 xo)] = (m.types ++ [(⟨xi, xo⟩ : Zmf)]).flatMap ZfV := (Zai (f := ZfV) m.types (⟨xi, xo⟩ : Zmf)).symm
 unfold mdC mdL
 simp only [hl2]
 rw [<- hs2]
 obtain ⟨p0, e0⟩ := t
 obtain ⟨p1, e1⟩ := t1
 obtain ⟨p2, e2⟩ := t2
 obtain ⟨p3, e3⟩ := t3
 obtain ⟨p4, e4⟩ := t4
 unfold UF rtM at *
 simp only [List.cons_append, List.nil_append, Nat.reduceAdd] at *
 clear hk1 hk2 hk3 hk4
 refine AM.enter Tryz.func103 rfl (Yaa rfl) (fun pn => ?_)
 simp only [Tryz.f103]
 have nx := trivial
 refine' ZvH
 refine AW.drawT (L0 := (bA 11 0)) (by decide +kernel) ZfU ?_
 have nx := aI @hcut trivial
 refine' Zck
 all_goals
  (repeat (first | refine QEq.mp (by assumption) ?_ | simp only [Zb1, Go.Abs.blockQ, ↓reduceIte, Nat.reduceEqDiff]))
  have nx := trivial
  refine' Zcj
  all_goals first | exact ⟨trivial, trivial⟩ | exact ⟨rfl, trivial⟩ | exact ⟨rfl, rfl⟩ | exact ⟨trivial, rfl⟩ | (exfalso; omega) | trace_state
theorem ZBA.cl {p : Prop} (h : p := by
 first
  | refine AWL.cM (f := 101) [(0, 0)] Zvb rfl rfl rfl rfl rfl rfl rfl (hc0) ?_
  | refine AWL.cM (f := 101) [(0, 0)] Zvb rfl rfl rfl rfl rfl rfl rfl (hc1) ?_
  | refine AWL.cM (f := 98) [(0, 0)] Zyd rfl rfl rfl rfl rfl rfl rfl (hc2) ?_
  | refine AWL.cM (f := 97) [(0, 0)] ZoL rfl rfl rfl rfl rfl rfl rfl (hc3) ?_
  | refine AWL.cM (f := 99) [(0, 0)] Zp6 rfl rfl rfl rfl rfl rfl rfl (hc4) ?_
 all_goals (apply_rules (newGoals := .nonDependentOnly) only [dep]; exact ())) : p := h
open ZBA Zca ZFD Zs3 in
theorem ZBB {b : List Int} {en : Nat} {t : Tq} (h : okT b t.p en) (m : Mod) (hl : m.imports.length <= 512) : AM Tryz.prog 103 [.ptr 0 0, .int .i64 2, .ptr 1 0] (rtM 0 b en t ++ ((1, ⟨false, mdC 2000 m⟩) :: mdL 2000 m)) [0, 1] (fun r mm => r = .tup [] /\ mm = rtM 0 b en (ZqF (b.take en) t).2 ++ ((1, ⟨false, mdC 2000 { m with imports := m.imports ++ [(ZqF (b.take en) t).1] }⟩) :: mdL 2000 { m with imports := m.imports ++ [(ZqF (b.take en) t).1] })) := by
 have hcut : List.take (m.imports.length * 3) (m.imports.flatMap Zhp) = m.imports.flatMap Zhp := Yad (by rw [Zq Zfh]; omega)
 unfold ZqF ZaV
 have hc0 := ZhX h
 have hk1 := h.mvs (Zhf h.byt)
 generalize ZeV (b.take en) t = z at hc0 hk1 ⊢
 obtain ⟨w0, t1⟩ := z
 simp only at hc0 hk1 ⊢
 obtain ⟨xm, rfl⟩ : ∃ x, x = w0 := ⟨_, rfl⟩
 have hc1 := ZhX hk1
 have hk2 := hk1.mvs (Zhf h.byt)
 generalize ZeV (b.take en) t1 = z at hc1 hk2 ⊢
 obtain ⟨w1, t2⟩ := z
 simp only at hc1 hk2 ⊢
 obtain ⟨xn, rfl⟩ : ∃ x, x = w1 := ⟨_, rfl⟩
 have hc2 := Zec hk2
 have hk3 := hk2.mvs ZdE
 generalize ZbZ (b.take en) t2 = z at hc2 hk3 ⊢
 obtain ⟨w2, t3⟩ := z
 simp only at hc2 hk3 ⊢
 obtain ⟨c, rfl⟩ : ∃ x, x = w2 := ⟨_, rfl⟩
 have hc3 := Zae b en t3 (c == 0)
 have hk4 := hk3.mu (c == 0)
 generalize Z5 (c == 0) t3 = t4 at hc3 hk4 ⊢
 have hc4 := Zb0 hk4
 have hk5 := hk4.mvs (ZdF h.byt)
 generalize Zaj (b.take en) t4 = z at hc4 hk5 ⊢
 obtain ⟨w4, t5⟩ := z
 simp only at hc4 hk5 ⊢
 obtain ⟨xt, rfl⟩ : ∃ x, x = w4 := ⟨_, rfl⟩
 have hl2 : (m.imports ++ [(⟨xm, xn, xt⟩ : ZkT)]).length = m.imports.length + 1 := by simp
 have hs2 : m.imports.flatMap Zhp ++ [.str xm, .str xn, .int .i64 xt] = (m.imports ++ [(⟨xm, xn, xt⟩ : ZkT)]).flatMap Zhp := (Zai (f := Zhp) m.imports (⟨xm, xn, xt⟩ : ZkT)).symm
 unfold mdC mdL
 simp only [hl2]
 rw [<- hs2]
 obtain ⟨p0, e0⟩ := t
 obtain ⟨p1, e1⟩ := t1
 obtain ⟨p2, e2⟩ := t2
 obtain ⟨p3, e3⟩ := t3
 obtain ⟨p4, e4⟩ := t4
 obtain ⟨p5, e5⟩ := t5
 unfold UF rtM at *
 simp only [List.cons_append, List.nil_append, Nat.reduceAdd] at *
 clear hk1 hk2 hk3 hk4 hk5
 refine AM.enter Tryz.func103 rfl (Yaa rfl) (fun pn => ?_)
 simp only [Tryz.f103]
 have nx := trivial
 refine' Zv1
 refine AW.drawT (L0 := (bA 11 0)) (by decide +kernel) ZfU ?_
 have nx := aI @hcut trivial
 refine' Zck
 all_goals
  (repeat (first | refine QEq.mp (by assumption) ?_ | simp only [Zb1, Go.Abs.blockQ, ↓reduceIte, Nat.reduceEqDiff]))
  have nx := trivial
  refine' Zcj
  all_goals first | exact ⟨trivial, trivial⟩ | exact ⟨rfl, trivial⟩ | exact ⟨rfl, rfl⟩ | exact ⟨trivial, rfl⟩ | (exfalso; omega) | trace_state
end Go.Proofs.YtimhmpdfioihlaaGreatDoor
