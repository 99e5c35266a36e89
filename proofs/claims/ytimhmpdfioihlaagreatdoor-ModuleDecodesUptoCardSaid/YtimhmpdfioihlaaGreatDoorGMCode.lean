/- The document's reader in plain: parts, bodies, things, sections. -/
import Derived.Test.YtimhmpdfioihlaaGreatDoorGCB
import Derived.Test.YtimhmpdfioihlaaGreatDoorGRowCod
import Derived.Test.YtimhmpdfioihlaaGreatDoorGRMP
import Derived.Test.YtimhmpdfioihlaaGreatDoorGMT2
import Derived.Test.YtimhmpdfioihlaaGreatDoorDP
import Derived.Test.YtimhmpdfioihlaaGreatDoorGWords
import Derived.Test.YtimhmpdfioihlaaGreatDoorRowData
set_option linter.unusedSimpArgs false
set_option linter.unusedVariables false
set_option maxHeartbeats 12800000
namespace Go.Proofs.YtimhmpdfioihlaaGreatDoor
set_option maxRecDepth 20000
open Go Go.Abs
def Zct (xs : List Int) (n : Int) (t : Tq) : Tq × Int × Tq :=
 if t.e ≠ 0 \/ n > xs.length - t.p then (⟨t.p, (Za2 t 10).e⟩, t.p, Za2 t 10) else (⟨t.p, 0⟩, t.p + n, ⟨t.p + n, 0⟩)
def Zgw (ys : List Int) : Nat -> List Int -> Tq -> List Int × Tq
 | 0, l, t => (l, t)
 | n + 1, l, t => if t.e = 0 then
     Zgw ys n (if (Zc0 ys (ZaK ys (512 - l.length) t).2).2.e = 0 then l ++ List.replicate (ZaK ys (512 - l.length) t).1.toNat (Zc0 ys (ZaK ys (512 - l.length) t).2).1 else l) (Zc0 ys (ZaK ys (512 - l.length) t).2).2
  else (l, t)
def ZkX {α : Type} (xs : List Int) (f : List Int -> Int -> Tq -> α × Tq) (z : Tq × Int × Tq) : α × Tq := ((f (xs.take z.2.1.toNat) z.2.1 z.1).1, ⟨z.2.2.p, (f (xs.take z.2.1.toNat) z.2.1 z.1).2.e⟩)
def ZqD (ys : List Int) (en : Int) (t : Tq) : Zd6 × Tq :=
 (⟨(Zgw ys (Zaj ys t).1.toNat [] (Zaj ys t).2).1, (ZbP ys (Zgw ys (Zaj ys t).1.toNat [] (Zaj ys t).2).2).1⟩,
   Z5 (decide ((ZbP ys (Zgw ys (Zaj ys t).1.toNat [] (Zaj ys t).2).2).2.p = en)) (ZbP ys (Zgw ys (Zaj ys t).1.toNat [] (Zaj ys t).2).2).2)
def ZeW (xs : List Int) (t : Tq) : Zd6 × Tq := ZkX xs ZqD (Zct xs (Zaj xs t).1 (Zaj xs t).2)
def ZaV {α β : Type} (x : α × Tq) (f : α -> Tq -> β × Tq) : β × Tq := f x.1 x.2
def ZqE (xs : List Int) (t : Tq) : Zmf × Tq := ZaV (ZbZ xs t) fun c t => ZaV (Zcs xs (Z5 (c == 96) t)) fun i t => ZaV (Zcs xs t) fun o t => (⟨i, o⟩, t)
def ZqF (xs : List Int) (t : Tq) : ZkT × Tq := ZaV (ZeV xs t) fun m t => ZaV (ZeV xs t) fun n t => ZaV (ZbZ xs t) fun c t => ZaV (Zaj xs (Z5 (c == 0) t)) fun i t => (⟨m, n, i⟩, t)
def ZqG (xs : List Int) (t : Tq) : (Int × Int) × Tq := ZaV (ZbZ xs t) fun c t => Zi3 xs 1024 (Z5 (c == 112) t)
def Zg9 (xs : List Int) (t : Tq) : ZeM × Tq := ZaV (Zc0 xs t) fun k t => ZaV (ZbZ xs t) fun c t => ZaV (ZbP xs (Z5 (decide (c <= 1)) t)) fun e t => (⟨k, c == 1, e⟩, t)
def ZqH (xs : List Int) (t : Tq) : Zmg × Tq := ZaV (ZeV xs t) fun n t => ZaV (ZbZ xs t) fun c t => ZaV (Zaj xs (Z5 (decide (c <= 3)) t)) fun i t => (⟨n, c, i⟩, t)
def Zha (xs : List Int) (t : Tq) : Zfs × Tq := ZaV (Zaj xs t) fun c t => ZaV (ZbP xs (Z5 (c == 0) t)) fun e t => ZaV (Zg8 xs 1024 t) fun f t => (⟨e, f⟩, t)
def Zhb (xs : List Int) (t : Tq) : Zft × Tq := ZaV (Zaj xs t) fun c t => ZaV (ZbP xs (Z5 (c == 0) t)) fun e t => ZaV (ZcD xs t) fun b t => (⟨e, b⟩, t)
def Stk {α : Type} (f : Tq -> α × Tq) : Prop := ∀ t, t.e ≠ 0 -> (f t).2 = t
def Zdq {α : Type} (xs : List Int) (x : Int -> Res α) (f : Tq -> α × Tq) : Prop := ∀ p : Int, 0 <= p /\ p <= (xs.length : Int) -> Agr (x p) (f ⟨p, 0⟩) /\ ∀ (a : α) (t : Int), x p = .ok (a, t) -> 0 <= t /\ t <= (xs.length : Int)
theorem Zfk {t : Tq} (h : t.e ≠ 0) (e : Int) : Za2 t e = t := if_neg h
theorem Za9 {t : Tq} (h : t.e ≠ 0) (c : Bool) : Z5 c t = t := by unfold Z5; split; rfl; exact Zfk h 10
theorem ZfQ (xs : List Int) : Stk (ZbZ xs) := fun t h => by rw [ZzC xs h]
theorem Zch (xs : List Int) : Stk (Zaj xs) := fun t h => by rw [Zi4 xs h]
theorem Zfl (xs : List Int) (m : Int) : Stk (ZaK xs m) := fun t h => by
 unfold ZaK
 rw [Zi4 xs h]
 split
 ·exact Zfk h 3
 ·rfl
theorem ZhU (xs : List Int) : Stk (ZcD xs) := fun t h => by
 unfold ZcD
 rw [Zi4 xs h, if_neg (fun c => h c.1), if_pos h]
theorem Zpz (xs : List Int) : Stk (ZeV xs) := fun t h => by
 unfold ZeV
 simp only
 rw [ZhU xs t h, Za9 h]
theorem Zxc (xs : List Int) : Stk (Zc0 xs) := fun t h => by
 unfold Zc0
 simp only
 rw [ZfQ xs t h, Zfk h, ite_self, Za9 h]
theorem Zcl (xs : List Int) : Stk (ZbP xs) := fun t h => by
 unfold ZbP; rw [if_pos h]
theorem Zi5 {α : Type} (one : Tq -> α × Tq) (n : Nat) : Stk (ZbL one n) := fun t h => by
 cases n with
 | zero => rfl
 | succ n => rw [ZbL, if_neg h]
theorem ZeX (xs : List Int) : Stk (Zcs xs) := fun t h => by
 unfold Zcs
 have e := Zfl xs 32 t h
 rw [e]; exact Zi5 _ _ _ h
theorem ZkI (xs : List Int) (m : Int) : Stk (Zg8 xs m) := fun t h => by
 unfold Zg8
 have e := Zfl xs m t h
 rw [e]; exact Zi5 _ _ _ h
theorem Zui (xs : List Int) (m : Int) : Stk (Zi3 xs m) := fun t h => by
 unfold Zi3
 rw [ZfQ xs t h, Za9 h, Zfl xs m t h, Zch xs t h]
 split <;> rfl
theorem Zw {α β : Type} {f : Tq -> α × Tq} {g : α -> Tq -> β × Tq} (hf : Stk f) (hg : ∀ a, Stk (g a)) : Stk (fun t => ZaV (f t) g) := fun t h => by
 show (g (f t).1 (f t).2).2 = t
 rw [hf t h]; exact hg _ t h
theorem ZbA {α : Type} {f : Tq -> α × Tq} (hf : Stk f) (c : Bool) : Stk (fun t => f (Z5 c t)) := fun t h => by
 show (f (Z5 c t)).2 = t
 rw [Za9 h]; exact hf t h
theorem Zz {α : Type} (a : α) : Stk (fun t => (a, t)) := fun _ _ => rfl
theorem Z3 {α β : Type} {xs : List Int} {x : Int -> Res α} {f : Tq -> α × Tq} {y : α -> Int -> Res β} {g : α -> Tq -> β × Tq} (hf : Zdq xs x f) (hg : ∀ a, Zdq xs (y a) (g a)) (hs : ∀ a, Stk (g a)) : Zdq xs (fun p => bnd (x p) y) (fun t => ZaV (f t) g) := fun p hp => by
 obtain ⟨h1, h2⟩ := hf p hp
 show Agr (bnd (x p) y) (ZaV (f ⟨p, 0⟩) g) /\ ∀ a t, bnd (x p) y = .ok (a, t) -> 0 <= t /\ t <= xs.length
 rcases hx : x p with ⟨e, t⟩ | ⟨a, t⟩
 ·rw [hx] at h1
  refine ⟨?_, fun a t h => by rw [Zd] at h; cases h⟩
  obtain ⟨h1, he⟩ := h1
  rw [Zd]
  refine ⟨?_, he⟩
  show (g _ (f ⟨p, 0⟩).2).2 = _
  rw [hs _ _ (by rw [h1]; exact he), h1]
 ·rw [hx] at h1
  have h1 : f ⟨p, 0⟩ = (a, ⟨t, 0⟩) := h1
  have h3 := hg a t (h2 _ _ hx)
  rw [Zg]
  unfold ZaV
  rw [h1]
  exact h3
theorem Zcm {α : Type} {xs : List Int} {x : Int -> Res α} {f : Tq -> α × Tq} (hf : Zdq xs x f) (hs : Stk f) {c : Prop} [Decidable c] {c' : Bool} (hc : c ↔ c' = true) : Zdq xs (ZaJ c x) (fun t => f (Z5 c' t)) := fun p hp => by
 unfold ZaJ
 cases c' with
 | true => rw [if_pos (hc.2 rfl)]; exact hf p hp
 | false =>
   rw [if_neg (fun h => by have := hc.1 h; cases this)]
   refine ⟨⟨?_, by decide⟩, fun a t h => by cases h⟩
   show (f (Za2 ⟨p, 0⟩ 10)).2 = _
   exact hs ⟨p, 10⟩ (show (10 : Int) ≠ 0 by decide)
theorem Za3 {α : Type} (xs : List Int) (a : α) : Zdq xs (fun t => .ok (a, t)) (fun t => (a, t)) := fun p hp => ⟨rfl, fun a t h => by cases h; exact hp⟩
theorem ZcL (xs : List Int) : Zdq xs (Zba xs) (ZbZ xs) := fun p hp => ⟨Zxa xs p, fun a t h => by
 unfold Zba at h
 split at h
 ·cases h
 ·rename_i c
  cases h; omega⟩
theorem ZbJ {xs : List Int} (hb : bytes xs) : Zdq xs (nmT xs) (Zaj xs) := fun p hp => ⟨Zxb hb hp, fun a t h => by
 unfold nmT at h
 split at h
 ·cases h
 ·rename_i c
  have := ZaO hb hp (Classical.not_not.1 c)
  cases h; omega⟩
theorem Zi6 {xs : List Int} (hb : bytes xs) (m : Int) : Zdq xs (Zg5 xs m) (ZaK xs m) := fun p hp => by
 obtain ⟨h1, h2⟩ := ZbJ hb p hp
 unfold Zg5 ZaK
 rcases hx : nmT xs p with ⟨e, t⟩ | ⟨a, t⟩
 ·rw [hx] at h1
  rw [Zd]
  refine ⟨⟨?_, h1.2⟩, fun a t h => by cases h⟩
  split
  ·show Za2 (Zaj xs ⟨p, 0⟩).2 3 = _
   rw [h1.1]; exact Zfk h1.2 3
  ·exact h1.1
 ·rw [hx] at h1
  have h1 : Zaj xs ⟨p, 0⟩ = (a, ⟨t, 0⟩) := h1
  rw [Zg, h1]
  simp only
  by_cases c : a > m
  ·rw [if_pos c, if_pos c]; exact ⟨⟨rfl, by decide⟩, fun a t h => by cases h⟩
  ·rw [if_neg c, if_neg c]; exact ⟨rfl, fun a t h => by cases h; exact h2 _ _ hx⟩
theorem Zmq {xs : List Int} (hb : bytes xs) : Zdq xs (Zdc xs) (ZcD xs) := fun p hp => by
 obtain ⟨h1, h2⟩ := ZbJ hb p hp
 unfold Zdc ZdA ZcD
 rcases hx : nmT xs p with ⟨e, t⟩ | ⟨a, t⟩
 ·rw [hx] at h1
  rw [Zd, Zd]
  refine ⟨⟨?_, h1.2⟩, fun a t h => by cases h⟩
  rw [if_neg (fun c => by have := h1.1 ▸ c.1; exact h1.2 this), if_pos (by rw [h1.1]; exact h1.2)]
  exact h1.1
 ·have h3 := h2 _ _ hx
  rw [hx] at h1
  have h1 : Zaj xs ⟨p, 0⟩ = (a, ⟨t, 0⟩) := h1
  have ha : 0 <= a := by
   unfold nmT at hx
   split at hx
   ·cases hx
   ·rename_i c
    have := ZaO hb hp (Classical.not_not.1 c)
    cases hx; exact this.1.1
  rw [Zg, h1]
  unfold Zhy
  simp only
  by_cases c : a > (xs.length : Int) - t
  ·rw [if_pos c, if_pos ⟨trivial, c⟩, Zd]; exact ⟨⟨rfl, by decide⟩, fun a t h => by cases h⟩
  ·rw [if_neg c, if_neg (fun h => c h.2), if_neg (by simp), Zg]
   refine ⟨?_, fun x y h => by cases h; omega⟩
   show _ = (_, _)
   rw [show t + a - t = a by omega]
theorem Zgx {xs : List Int} (hb : bytes xs) : Zdq xs (Zej xs) (ZeV xs) := fun p hp => by
 obtain ⟨h1, h2⟩ := Zmq hb p hp
 unfold Zej ZeV
 rcases hx : Zdc xs p with ⟨e, t⟩ | ⟨l, t⟩
 ·rw [hx] at h1
  rw [Zd]
  refine ⟨⟨?_, h1.2⟩, fun a t h => by cases h⟩
  show Z5 _ (ZcD xs ⟨p, 0⟩).2 = _
  rw [h1.1]; exact Za9 h1.2 _
 ·rw [hx] at h1
  have h1 : ZcD xs ⟨p, 0⟩ = (l, ⟨t, 0⟩) := h1
  rw [Zg, h1]
  simp only
  by_cases c : ZaU l = true
  ·rw [if_pos c, c]; exact ⟨rfl, fun a t h => by cases h; exact h2 _ _ hx⟩
  ·rw [if_neg c, Bool.eq_false_iff.2 c]; exact ⟨⟨rfl, by decide⟩, fun a t h => by cases h⟩
theorem Zi7 (xs : List Int) : Zdq xs (ZdB xs) (Zc0 xs) := fun p hp => by
 obtain ⟨h1, h2⟩ := ZcL xs p hp
 unfold ZdB Zc0
 rcases hx : Zba xs p with ⟨e, t⟩ | ⟨c, t⟩
 ·rw [hx] at h1
  rw [Zd]
  refine ⟨⟨?_, h1.2⟩, fun a t h => by cases h⟩
  show Z5 _ (if _ then Za2 (ZbZ xs ⟨p, 0⟩).2 11 else (ZbZ xs ⟨p, 0⟩).2) = _
  rw [h1.1, Zfk h1.2, ite_self]; exact Za9 h1.2 _
 ·rw [hx] at h1
  have h1 : ZbZ xs ⟨p, 0⟩ = (c, ⟨t, 0⟩) := h1
  rw [Zg, h1]
  simp only
  by_cases c1 : c = 127 \/ c = 126 \/ c = 123
  ·rw [if_pos c1, if_neg (show ¬ (c = 125 \/ c = 124) by omega), Yae c1]
   exact ⟨rfl, fun a t h => by cases h; exact h2 _ _ hx⟩
  ·rw [if_neg c1, Yaf c1]
   by_cases c2 : c = 125 \/ c = 124
   ·rw [if_pos c2, if_pos c2]; exact ⟨⟨rfl, by decide⟩, fun a t h => by cases h⟩
   ·rw [if_neg c2, if_neg c2]; exact ⟨⟨rfl, by decide⟩, fun a t h => by cases h⟩
theorem ZpA {α : Type} {xs : List Int} {x : Int -> Res α} {f : Tq -> α × Tq} (hf : Zdq xs x f) : ∀ n, Zdq xs (ZcJ x n) (ZbL f n)
 | 0 => Za3 xs []
 | n + 1 => fun p hp => by
   obtain ⟨h1, h2⟩ := hf p hp
   rw [ZcJ, ZbL, if_pos rfl]
   rcases hx : x p with ⟨e, t⟩ | ⟨a, t⟩
   ·rw [hx] at h1
    rw [Zd]
    refine ⟨⟨?_, h1.2⟩, fun a t h => by cases h⟩
    show (ZbL f n (f ⟨p, 0⟩).2).2 = _
    rw [h1.1]; exact Zi5 f n _ h1.2
   ·rw [hx] at h1
    have h1 : f ⟨p, 0⟩ = (a, ⟨t, 0⟩) := h1
    obtain ⟨h3, h4⟩ := ZpA hf n t (h2 _ _ hx)
    rw [Zg, h1]
    simp only
    rcases hy : ZcJ x n t with ⟨e, q⟩ | ⟨l, q⟩
    ·rw [hy] at h3
     rw [Zd]
     exact ⟨⟨h3.1, h3.2⟩, fun a t h => by cases h⟩
    ·rw [hy] at h3
     have h3 : ZbL f n ⟨t, 0⟩ = (l, ⟨q, 0⟩) := h3
     rw [Zg, h3]
     exact ⟨rfl, fun a t h => by cases h; exact h4 _ _ hy⟩
theorem Za7 {α : Type} {xs : List Int} (hb : bytes xs) {x : Int -> Res α} {f : Tq -> α × Tq} (hf : Zdq xs x f) (m : Int) : Zdq xs (Zv xs m x) (fun t => ZbL f (ZaK xs m t).1.toNat (ZaK xs m t).2) :=
 Z3 (α := Int) (x := Zg5 xs m) (f := ZaK xs m) (y := fun (n : Int) t => ZcJ x n.toNat t) (g := fun (n : Int) t => ZbL f n.toNat t) (Zi6 hb m) (fun n => ZpA hf n.toNat) (fun n => Zi5 f n.toNat)
theorem ZjM {xs : List Int} (hb : bytes xs) : Zdq xs (Zv xs 32 (ZdB xs)) (Zcs xs) := Za7 hb (Zi7 xs) 32
theorem Zuj {xs : List Int} (hb : bytes xs) (m : Int) : Zdq xs (Zv xs m (nmT xs)) (Zg8 xs m) := Za7 hb (ZbJ hb) m
theorem Zgy {xs : List Int} (hb : bytes xs) : Zdq xs (Zek xs) (ZbP xs) := fun p hp => by
 rw [show ZbP xs ⟨p, 0⟩ = if (Z6 xs p).2.2 ≠ 0 then ([], Za2 ⟨p, 0⟩ (Z6 xs p).2.2) else ((Z6 xs p).1, ⟨(Z6 xs p).2.1, 0⟩) from if_neg (fun h => h rfl)]
 unfold Zek
 by_cases c : (Z6 xs p).2.2 ≠ 0
 ·rw [if_pos c, if_pos c]
  exact ⟨⟨rfl, c⟩, fun a t h => by cases h⟩
 ·rw [if_neg c, if_neg c]
  refine ⟨rfl, fun a t h => ?_⟩
  have h1 : ¬ (p < 0 \/ p > (xs.length : Int)) := by omega
  have c0 := Classical.not_not.1 c
  have hr : Z6 xs p = ZcB xs (xs.length + 1) ⟨p, [], [], 0⟩ [] := if_neg h1
  rw [hr] at c0 h
  have := ZeP hb _ _ _ _ _ ⟨hp.1, hp.2⟩ (Prod.ext rfl (Prod.ext rfl c0))
  generalize ZcB xs (xs.length + 1) ⟨p, [], [], 0⟩ [] = z at this h
  obtain ⟨z1, z2, z3⟩ := z
  cases h
  simp only at this ⊢
  omega
theorem ZpB {xs : List Int} (hb : bytes xs) (m : Int) : Zdq xs (Zme xs m) (Zi3 xs m) := fun p hp => by
 obtain ⟨h1, h2⟩ := ZcL xs p hp
 unfold Zme Zi3
 rcases hx : Zba xs p with ⟨e, t⟩ | ⟨c, t⟩
 ·rw [hx] at h1
  rw [Zd]
  refine ⟨⟨?_, h1.2⟩, fun a t h => by cases h⟩
  rw [h1.1, Za9 h1.2, Zfl xs m _ h1.2, Zch xs _ h1.2]
  split <;> rfl
 rw [hx] at h1
 have h1 : ZbZ xs ⟨p, 0⟩ = (c, ⟨t, 0⟩) := h1
 rw [Zg, h1]
 simp only
 have hc0 : 0 <= c := by
  unfold Zba at hx
  split at hx
  ·cases hx
  ·cases hx; exact (hb _ (Z8 (by omega))).1
 by_cases c1 : c > 1
 ·rw [if_pos c1, if_neg (show ¬ c = 1 by omega), Yaf (show ¬ c <= 1 by omega)]
  refine ⟨⟨?_, by decide⟩, fun a t h => by cases h⟩
  exact Zfl xs m ⟨t, 10⟩ (show (10 : Int) ≠ 0 by decide)
 rw [if_neg c1, Yae (show c <= 1 by omega)]
 obtain ⟨h3, h4⟩ := Zi6 hb m t (h2 _ _ hx)
 rw [show Z5 true ⟨t, 0⟩ = ⟨t, 0⟩ from rfl]
 rcases hy : Zg5 xs m t with ⟨e, q⟩ | ⟨n, q⟩
 ·rw [hy] at h3
  rw [Zd]
  refine ⟨⟨?_, h3.2⟩, fun a t h => by cases h⟩
  split
  ·show (Zaj xs (ZaK xs m ⟨t, 0⟩).2).2 = _
   rw [Zch xs _ (by rw [h3.1]; exact h3.2), h3.1]
  ·exact h3.1
 rw [hy] at h3
 have h3 : ZaK xs m ⟨t, 0⟩ = (n, ⟨q, 0⟩) := h3
 rw [Zg, h3]
 simp only
 by_cases c2 : c = 1
 ·rw [if_pos c2, if_pos c2]
  obtain ⟨h5, h6⟩ := ZbJ hb q (h4 _ _ hy)
  rcases hz : nmT xs q with ⟨e, r⟩ | ⟨x, r⟩
  ·rw [hz] at h5
   rw [Zd]
   exact ⟨⟨h5.1, h5.2⟩, fun a t h => by cases h⟩
  ·rw [hz] at h5
   have h5 : Zaj xs ⟨q, 0⟩ = (x, ⟨r, 0⟩) := h5
   rw [Zg, h5]
   exact ⟨rfl, fun a t h => by cases h; exact h6 _ _ hz⟩
 ·rw [if_neg c2, if_neg c2]
  exact ⟨rfl, fun a t h => by cases h; exact h4 _ _ hy⟩
theorem Zxd {xs : List Int} (hb : bytes xs) : Zdq xs (ZtH xs) (ZqE xs) :=
 Z3 (ZcL xs) (fun c => Zcm (f := fun t => ZaV (Zcs xs t) fun i t => ZaV (Zcs xs t) fun o t => ((⟨i, o⟩ : Zmf), t)) (Z3 (ZjM hb) (fun i => Z3 (ZjM hb) (fun o => Za3 xs _) (fun o => Zz _)) (fun i => Zw (ZeX xs) fun o => Zz _)) (Zw (ZeX xs) fun i => Zw (ZeX xs) fun o => Zz _) beq_iff_eq.symm)
  (fun c => ZbA (f := fun t => ZaV (Zcs xs t) fun i t => ZaV (Zcs xs t) fun o t => ((⟨i, o⟩ : Zmf), t)) (Zw (ZeX xs) fun i => Zw (ZeX xs) fun o => Zz _) _)
theorem Zxe {xs : List Int} (hb : bytes xs) : Zdq xs (ZuT xs) (ZqF xs) :=
 Z3 (Zgx hb) (fun m => Z3 (Zgx hb) (fun n => Z3 (ZcL xs)
  (fun c => Zcm (f := fun t => ZaV (Zaj xs t) fun i t => ((⟨m, n, i⟩ : ZkT), t)) (Z3 (ZbJ hb) (fun i => Za3 xs _) (fun i => Zz _)) (Zw (Zch xs) fun i => Zz _) beq_iff_eq.symm)
  (fun c => ZbA (f := fun t => ZaV (Zaj xs t) fun i t => ((⟨m, n, i⟩ : ZkT), t)) (Zw (Zch xs) fun i => Zz _) _))
  (fun n => Zw (ZfQ xs) fun c => ZbA (f := fun t => ZaV (Zaj xs t) fun i t => ((⟨m, n, i⟩ : ZkT), t)) (Zw (Zch xs) fun i => Zz _) _))
  (fun m => Zw (Zpz xs) fun n => Zw (ZfQ xs) fun c => ZbA (f := fun t => ZaV (Zaj xs t) fun i t => ((⟨m, n, i⟩ : ZkT), t)) (Zw (Zch xs) fun i => Zz _) _)
theorem Zxf {xs : List Int} (hb : bytes xs) : Zdq xs (ZtI xs) (ZqG xs) :=
 Z3 (ZcL xs) (fun c => Zcm (ZpB hb 1024) (Zui xs 1024) beq_iff_eq.symm) (fun c => ZbA (Zui xs 1024) _)
theorem ZkJ {c : Prop} [Decidable c] : c ↔ decide c = true := decide_eq_true_iff.symm
theorem Zuk {xs : List Int} (hb : bytes xs) : Zdq xs (ZiU xs) (Zg9 xs) :=
 Z3 (Zi7 xs) (fun k => Z3 (ZcL xs)
  (fun c => Zcm (f := fun t => ZaV (ZbP xs t) fun e t => ((⟨k, c == 1, e⟩ : ZeM), t)) (Z3 (Zgy hb) (fun e => Za3 xs _) (fun e => Zz _)) (Zw (Zcl xs) fun e => Zz _) ZkJ)
  (fun c => ZbA (f := fun t => ZaV (ZbP xs t) fun e t => ((⟨k, c == 1, e⟩ : ZeM), t)) (Zw (Zcl xs) fun e => Zz _) _))
  (fun k => Zw (ZfQ xs) fun c => ZbA (f := fun t => ZaV (ZbP xs t) fun e t => ((⟨k, c == 1, e⟩ : ZeM), t)) (Zw (Zcl xs) fun e => Zz _) _)
theorem Zxg {xs : List Int} (hb : bytes xs) : Zdq xs (ZuU xs) (ZqH xs) :=
 Z3 (Zgx hb) (fun n => Z3 (ZcL xs)
  (fun c => Zcm (f := fun t => ZaV (Zaj xs t) fun i t => ((⟨n, c, i⟩ : Zmg), t)) (Z3 (ZbJ hb) (fun i => Za3 xs _) (fun i => Zz _)) (Zw (Zch xs) fun i => Zz _) ZkJ)
  (fun c => ZbA (f := fun t => ZaV (Zaj xs t) fun i t => ((⟨n, c, i⟩ : Zmg), t)) (Zw (Zch xs) fun i => Zz _) _))
  (fun n => Zw (ZfQ xs) fun c => ZbA (f := fun t => ZaV (Zaj xs t) fun i t => ((⟨n, c, i⟩ : Zmg), t)) (Zw (Zch xs) fun i => Zz _) _)
theorem Zul {xs : List Int} (hb : bytes xs) : Zdq xs (ZiV xs) (Zha xs) :=
 Z3 (ZbJ hb) (fun c => Zcm (f := fun t => ZaV (ZbP xs t) fun e t => ZaV (Zg8 xs 1024 t) fun f t => ((⟨e, f⟩ : Zfs), t)) (Z3 (Zgy hb) (fun e => Z3 (Zuj hb 1024) (fun f => Za3 xs _) (fun f => Zz _)) (fun e => Zw (ZkI xs 1024) fun f => Zz _)) (Zw (Zcl xs) fun e => Zw (ZkI xs 1024) fun f => Zz _) beq_iff_eq.symm)
  (fun c => ZbA (f := fun t => ZaV (ZbP xs t) fun e t => ZaV (Zg8 xs 1024 t) fun f t => ((⟨e, f⟩ : Zfs), t)) (Zw (Zcl xs) fun e => Zw (ZkI xs 1024) fun f => Zz _) _)
theorem Zum {xs : List Int} (hb : bytes xs) : Zdq xs (ZiW xs) (Zhb xs) :=
 Z3 (ZbJ hb) (fun c => Zcm (f := fun t => ZaV (ZbP xs t) fun e t => ZaV (ZcD xs t) fun b t => ((⟨e, b⟩ : Zft), t)) (Z3 (Zgy hb) (fun e => Z3 (Zmq hb) (fun f => Za3 xs _) (fun f => Zz _)) (fun e => Zw (ZhU xs) fun f => Zz _)) (Zw (Zcl xs) fun e => Zw (ZhU xs) fun f => Zz _) beq_iff_eq.symm)
  (fun c => ZbA (f := fun t => ZaV (ZbP xs t) fun e t => ZaV (ZcD xs t) fun b t => ((⟨e, b⟩ : Zft), t)) (Zw (Zcl xs) fun e => Zw (ZhU xs) fun f => Zz _) _)
theorem ZhV (ys : List Int) (n : Nat) (l : List Int) : Stk (Zgw ys n l) := fun t h => by
 cases n with
 | zero => rfl
 | succ n => rw [Zgw, if_neg h]
theorem Zmr {ys : List Int} (hb : bytes ys) : ∀ (n : Nat) (l : List Int), Zdq ys (Zhz ys n l) (Zgw ys n l)
 | 0, l => Za3 ys l
 | n + 1, l => fun p hp => by
   obtain ⟨h1, h2⟩ := Zi6 hb (512 - (l.length : Int)) p hp
   rw [Zhz, Zgw, if_pos rfl]
   rcases hx : Zg5 ys (512 - (l.length : Int)) p with ⟨e, t⟩ | ⟨k, t⟩
   ·rw [hx] at h1
    rw [Zd]
    refine ⟨⟨?_, h1.2⟩, fun a t h => by cases h⟩
    rw [h1.1, Zxc ys _ h1.2]
    exact ZhV ys n _ _ h1.2
   rw [hx] at h1
   have h1 : ZaK ys (512 - (l.length : Int)) ⟨p, 0⟩ = (k, ⟨t, 0⟩) := h1
   obtain ⟨h3, h4⟩ := Zi7 ys t (h2 _ _ hx)
   rw [Zg, h1]
   simp only
   rcases hy : ZdB ys t with ⟨e, q⟩ | ⟨c, q⟩
   ·rw [hy] at h3
    rw [Zd]
    refine ⟨⟨?_, h3.2⟩, fun a t h => by cases h⟩
    rw [h3.1]
    exact ZhV ys n _ _ h3.2
   rw [hy] at h3
   have h3 : Zc0 ys ⟨t, 0⟩ = (c, ⟨q, 0⟩) := h3
   rw [Zg, h3]
   simp only [if_true]
   exact Zmr hb n _ q (h4 _ _ hy)
theorem Zfm {α : Type} (a : α) (en : Int) : Stk (fun t => (a, Z5 (decide (t.p = en)) t)) := fun t h => Za9 h _
theorem Zms {α : Type} (xs : List Int) (a : α) : Zdq xs (Zg7 xs a) (fun t => (a, Z5 (decide (t.p = (xs.length : Int))) t)) := fun p hp => by
 unfold Zg7 ZaJ
 simp only
 by_cases c : p = xs.length
 ·rw [if_pos c, Yae c]; exact ⟨rfl, fun a t h => by cases h; exact hp⟩
 ·rw [if_neg c, Yaf c]; exact ⟨⟨rfl, by decide⟩, fun a t h => by cases h⟩
theorem Zxh (ys : List Int) (en : Int) : Stk (ZqD ys en) := fun t h => by
 unfold ZqD
 simp only
 rw [Zch ys t h, ZhV ys _ _ t h, Zcl ys t h, Za9 h]
theorem Zun {ys : List Int} (hb : bytes ys) : Zdq ys (Zqn ys) (ZqD ys ys.length) := by
 exact Z3 (ZbJ hb) (fun n => Z3 (Zmr hb n.toNat []) (fun l => Z3 (Zgy hb) (fun c => Zms ys (⟨l, c⟩ : Zd6)) (fun c => Zfm _ _)) (fun l => Zw (Zcl ys) fun c => Zfm _ _)) (fun n => Zw (ZhV ys _ _) fun l => Zw (Zcl ys) fun c => Zfm _ _)
theorem Zxi {α : Type} {xs : List Int} (hb : bytes xs) {x : List Int -> Int -> Res α} {f : List Int -> Int -> Tq -> α × Tq} (hf : ∀ ys : List Int, bytes ys -> Zdq ys (x ys) (f ys ys.length)) (hs : ∀ ys en, Stk (f ys en)) (n : Int) (hn : 0 <= n) : Zdq xs (fun p => bnd (Zhy xs n p) (inT xs x)) (fun t => ZkX xs f (Zct xs n t)) := fun p hp => by
 unfold Zhy Zct
 simp only
 by_cases c : n > (xs.length : Int) - p
 ·rw [if_pos c, if_pos (.inr c), Zd]
  refine ⟨⟨?_, by decide⟩, fun a t h => by cases h⟩
  unfold ZkX
  simp only
  rw [hs _ _ _ (show (10 : Int) ≠ 0 by decide)]
  rfl
 ·rw [if_neg c, if_neg (fun h => h.elim (fun h => h rfl) c), Zg]
  obtain ⟨k, rfl⟩ : ∃ k : Nat, p = k := ⟨p.toNat, by omega⟩
  obtain ⟨j, rfl⟩ : ∃ j : Nat, n = j := ⟨n.toNat, by omega⟩
  have hl : (xs.take (k + j)).length = k + j := by rw [Yar]; omega
  obtain ⟨h1, h2⟩ := hf (xs.take (k + j)) (fun y hy => hb y (List.mem_of_mem_take hy)) k (by rw [hl]; omega)
  rw [hl] at h1
  have e1 : ((k : Int) + (j : Int)).toNat = k + j := by omega
  have e2 : ((k : Int) + (j : Int)) = ((k + j : Nat) : Int) := by omega
  unfold inT ZkX
  simp only
  rw [e1, e2]
  rcases hx : x (xs.take (k + j)) k with ⟨e, q⟩ | ⟨a, q⟩
  ·rw [hx] at h1
   simp only
   refine ⟨⟨?_, h1.2⟩, fun a t h => by cases h⟩
   rw [h1.1]
  ·rw [hx] at h1
   have h1 : f (xs.take (k + j)) ((k + j : Nat) : Int) ⟨k, 0⟩ = (a, ⟨q, 0⟩) := h1
   simp only
   rw [h1]
   exact ⟨rfl, fun a t h => by cases h; omega⟩
theorem Zuo {α : Type} {xs : List Int} {f : List Int -> Int -> Tq -> α × Tq} (hs : ∀ ys en, Stk (f ys en)) (n : Int) : Stk (fun t => ZkX xs f (Zct xs n t)) := fun t h => by
 unfold Zct ZkX
 simp only
 rw [if_pos (.inl h)]
 simp only
 rw [Zfk h, hs _ _ _ h]
theorem Zxj {α : Type} (xs : List Int) (x : List Int -> Int -> Res α) (p : Int) : bnd (ZdA xs p) (inT xs x) = bnd (nmT xs p) (fun n t => bnd (Zhy xs n t) (inT xs x)) := by
 unfold ZdA
 cases nmT xs p <;> rfl
theorem Zmt {α : Type} {xs : List Int} (hb : bytes xs) {x : List Int -> Int -> Res α} {f : List Int -> Int -> Tq -> α × Tq} (hf : ∀ ys : List Int, bytes ys -> Zdq ys (x ys) (f ys ys.length)) (hs : ∀ ys en, Stk (f ys en)) : Zdq xs (fun p => bnd (ZdA xs p) (inT xs x)) (fun t => ZkX xs f (Zct xs (Zaj xs t).1 (Zaj xs t).2)) := fun p hp => by
 show Agr (bnd (ZdA xs p) (inT xs x)) _ /\ ∀ a t, bnd (ZdA xs p) (inT xs x) = .ok (a, t) -> _
 rw [Zxj]
 obtain ⟨h1, h2⟩ := ZbJ hb p hp
 rcases hx : nmT xs p with ⟨e, t⟩ | ⟨n, t⟩
 ·rw [hx] at h1
  rw [Zd]
  refine ⟨⟨?_, h1.2⟩, fun a t h => by cases h⟩
  have := Zuo (xs := xs) hs (Zaj xs ⟨p, 0⟩).1 (Zaj xs ⟨p, 0⟩).2 (by rw [h1.1]; exact h1.2)
  exact this.trans h1.1
 ·have ht := h2 _ _ hx
  have ha : 0 <= n := by
   unfold nmT at hx
   split at hx
   ·cases hx
   ·rename_i c
    have := ZaO hb hp (Classical.not_not.1 c)
    cases hx; exact this.1.1
  rw [hx] at h1
  have h1 : Zaj xs ⟨p, 0⟩ = (n, ⟨t, 0⟩) := h1
  rw [Zg]
  show Agr (bnd (Zhy xs n t) (inT xs x)) (ZkX xs f (Zct xs (Zaj xs ⟨p, 0⟩).1 (Zaj xs ⟨p, 0⟩).2)) /\ _
  rw [h1]
  exact Zxi hb hf hs n ha t ht
theorem Zxk {α : Type} {xs : List Int} {f : List Int -> Int -> Tq -> α × Tq} (hs : ∀ ys en, Stk (f ys en)) : Stk (fun t => ZkX xs f (Zct xs (Zaj xs t).1 (Zaj xs t).2)) := fun t h => by
 show (ZkX xs f (Zct xs (Zaj xs t).1 (Zaj xs t).2)).2 = t
 rw [Zch xs t h]; exact Zuo hs _ t h
theorem Zup {xs : List Int} (hb : bytes xs) : Zdq xs (ZiX xs) (ZeW xs) := Zmt hb (fun ys hy => Zun hy) Zxh
def Zhc {α : Type} (xs : List Int) (most : Int) (one : Tq -> α × Tq) (t : Tq) : List α × Tq := ZbL one (ZaK xs most t).1.toNat (ZaK xs most t).2
theorem Zcn {α : Type} (xs : List Int) (most : Int) (one : Tq -> α × Tq) : Stk (Zhc xs most one) := fun t h => by
 unfold Zhc
 rw [Zfl xs most t h]; exact Zi5 _ _ _ h
def Zyw (xs : List Int) (id : Int) (m : Mod) (t : Tq) : Mod × Tq :=
 if id = 1 then ZaV (Zhc xs 256 (ZqE xs) t) fun l t => ({ m with types := l }, t)
 else if id = 2 then ZaV (Zhc xs 512 (ZqF xs) t) fun l t => ({ m with imports := l }, t)
 else if id = 3 then ZaV (Zhc xs 512 (Zaj xs) t) fun l t => ({ m with funcs := l }, t)
 else if id = 4 then ZaV (Zhc xs 512 (ZqG xs) t) fun l t => ({ m with tables := l }, t)
 else if id = 5 then ZaV (Zhc xs 512 (Zi3 xs 16) t) fun l t => ({ m with mems := l }, t)
 else if id = 6 then ZaV (Zhc xs 512 (Zg9 xs) t) fun l t => ({ m with globals := l }, t)
 else if id = 7 then ZaV (Zhc xs 512 (ZqH xs) t) fun l t => ({ m with exports := l }, t)
 else if id = 8 then ZaV (Zaj xs t) fun l t => ({ m with start := l }, t)
 else if id = 9 then ZaV (Zhc xs 512 (Zha xs) t) fun l t => ({ m with elems := l }, t)
 else if id = 10 then ZaV (Zhc xs 512 (ZeW xs) t) fun l t => ({ m with codes := l }, t)
 else if id = 11 then ZaV (Zhc xs 512 (Zhb xs) t) fun l t => ({ m with datas := l }, t)
 else (m, t)
theorem ZnK (xs : List Int) (id : Int) (m : Mod) : Stk (Zyw xs id m) := by
 have key : ∀ {α : Type} (f : Tq -> α × Tq) (g : α -> Mod), Stk f -> Stk (fun t => ZaV (f t) fun l t => (g l, t)) := fun f g hf => Zw hf fun a => Zz _
 intro t h
 unfold Zyw
 by_cases c1 : id = 1
 ·rw [if_pos c1]; exact key _ (fun l => { m with types := l }) (Zcn _ _ _) t h
 rw [if_neg c1]
 by_cases c2 : id = 2
 ·rw [if_pos c2]; exact key _ (fun l => { m with imports := l }) (Zcn _ _ _) t h
 rw [if_neg c2]
 by_cases c3 : id = 3
 ·rw [if_pos c3]; exact key _ (fun l => { m with funcs := l }) (Zcn _ _ _) t h
 rw [if_neg c3]
 by_cases c4 : id = 4
 ·rw [if_pos c4]; exact key _ (fun l => { m with tables := l }) (Zcn _ _ _) t h
 rw [if_neg c4]
 by_cases c5 : id = 5
 ·rw [if_pos c5]; exact key _ (fun l => { m with mems := l }) (Zcn _ _ _) t h
 rw [if_neg c5]
 by_cases c6 : id = 6
 ·rw [if_pos c6]; exact key _ (fun l => { m with globals := l }) (Zcn _ _ _) t h
 rw [if_neg c6]
 by_cases c7 : id = 7
 ·rw [if_pos c7]; exact key _ (fun l => { m with exports := l }) (Zcn _ _ _) t h
 rw [if_neg c7]
 by_cases c8 : id = 8
 ·rw [if_pos c8]; exact key _ (fun l => { m with start := l }) (Zch _) t h
 rw [if_neg c8]
 by_cases c9 : id = 9
 ·rw [if_pos c9]; exact key _ (fun l => { m with elems := l }) (Zcn _ _ _) t h
 rw [if_neg c9]
 by_cases c10 : id = 10
 ·rw [if_pos c10]; exact key _ (fun l => { m with codes := l }) (Zcn _ _ _) t h
 rw [if_neg c10]
 by_cases c11 : id = 11
 ·rw [if_pos c11]; exact key _ (fun l => { m with datas := l }) (Zcn _ _ _) t h
 rw [if_neg c11]
theorem Zxl {xs : List Int} (hb : bytes xs) (id : Int) (m : Mod) : Zdq xs (ZnE xs id m) (Zyw xs id m) := by
 have key : ∀ {α : Type} {x : Int -> Res α} {f : Tq -> α × Tq} (g : α -> Mod), Zdq xs x f -> Zdq xs (fun p => bnd (x p) fun l t => .ok (g l, t)) (fun t => ZaV (f t) fun l t => (g l, t)) := fun g hf => Z3 hf (fun a => Za3 xs _) (fun a => Zz _)
 intro p hp
 unfold ZnE Zyw
 by_cases c1 : id = 1
 ·rw [if_pos c1, if_pos c1]; exact key (fun l => { m with types := l }) (Za7 hb (Zxd hb) 256) p hp
 rw [if_neg c1, if_neg c1]
 by_cases c2 : id = 2
 ·rw [if_pos c2, if_pos c2]; exact key (fun l => { m with imports := l }) (Za7 hb (Zxe hb) 512) p hp
 rw [if_neg c2, if_neg c2]
 by_cases c3 : id = 3
 ·rw [if_pos c3, if_pos c3]; exact key (fun l => { m with funcs := l }) (Za7 hb (ZbJ hb) 512) p hp
 rw [if_neg c3, if_neg c3]
 by_cases c4 : id = 4
 ·rw [if_pos c4, if_pos c4]; exact key (fun l => { m with tables := l }) (Za7 hb (Zxf hb) 512) p hp
 rw [if_neg c4, if_neg c4]
 by_cases c5 : id = 5
 ·rw [if_pos c5, if_pos c5]; exact key (fun l => { m with mems := l }) (Za7 hb (ZpB hb 16) 512) p hp
 rw [if_neg c5, if_neg c5]
 by_cases c6 : id = 6
 ·rw [if_pos c6, if_pos c6]; exact key (fun l => { m with globals := l }) (Za7 hb (Zuk hb) 512) p hp
 rw [if_neg c6, if_neg c6]
 by_cases c7 : id = 7
 ·rw [if_pos c7, if_pos c7]; exact key (fun l => { m with exports := l }) (Za7 hb (Zxg hb) 512) p hp
 rw [if_neg c7, if_neg c7]
 by_cases c8 : id = 8
 ·rw [if_pos c8, if_pos c8]; exact key (fun l => { m with start := l }) (ZbJ hb) p hp
 rw [if_neg c8, if_neg c8]
 by_cases c9 : id = 9
 ·rw [if_pos c9, if_pos c9]; exact key (fun l => { m with elems := l }) (Za7 hb (Zul hb) 512) p hp
 rw [if_neg c9, if_neg c9]
 by_cases c10 : id = 10
 ·rw [if_pos c10, if_pos c10]; exact key (fun l => { m with codes := l }) (Za7 hb (Zup hb) 512) p hp
 rw [if_neg c10, if_neg c10]
 by_cases c11 : id = 11
 ·rw [if_pos c11, if_pos c11]; exact key (fun l => { m with datas := l }) (Za7 hb (Zum hb) 512) p hp
 rw [if_neg c11, if_neg c11]
 exact Za3 xs m p hp
def Zyx (last : Int) (m : Mod) (id : Int) (ys : List Int) (en : Int) (t : Tq) : (Int × Mod) × Tq :=
 if id = 0 then ZaV (ZeV ys t) fun _ t => ((last, m), t)
 else ZaV (Zyw ys id m (Z5 (decide (id > last /\ id <= 11)) t)) fun m t => ((id, m), Z5 (decide (t.p = en)) t)
def ZBh (last : Int) (m : Mod) (id : Int) (ys : List Int) (p : Int) : Res (Int × Mod) :=
 if id = 0 then bnd (Zej ys p) fun _ t => .ok ((last, m), t)
 else ZaJ (id > last /\ id <= 11) (fun p => bnd (ZnE ys id m p) fun m t => Zg7 ys (id, m) t) p
theorem Zuq (last : Int) (m : Mod) (id : Int) (ys : List Int) (en : Int) : Stk (Zyx last m id ys en) := fun t h => by
 unfold Zyx
 split
 ·exact Zw (Zpz ys) (fun _ => Zz _) t h
 ·exact Zw (ZbA (ZnK ys id m) _) (fun m => Zfm _ _) t h
theorem Zxm (last : Int) (m : Mod) (id : Int) {ys : List Int} (hb : bytes ys) : Zdq ys (ZBh last m id ys) (Zyx last m id ys ys.length) := fun p hp => by
 unfold ZBh Zyx
 by_cases c : id = 0
 ·rw [if_pos c, if_pos c]
  exact Z3 (Zgx hb) (fun _ => Za3 ys _) (fun _ => Zz _) p hp
 ·rw [if_neg c, if_neg c]
  exact Zcm (f := fun t => ZaV (Zyw ys id m t) fun m t => ((id, m), Z5 (decide (t.p = (ys.length : Int))) t)) (Z3 (Zxl hb id m) (fun m => Zms ys _) (fun m => Zfm _ _)) (Zw (ZnK ys id m) fun m => Zfm _ _) ZkJ p hp
def Zmu (xs : List Int) (last : Int) (m : Mod) (t : Tq) : (Int × Mod) × Tq :=
 ZaV (ZbZ xs t) fun id t => ZkX xs (Zyx last m id) (Zct xs (Zaj xs t).1 (Zaj xs t).2)
theorem ZzD (xs : List Int) (last : Int) (m : Mod) (p : Int) : Zqo xs last m p = bnd (Zba xs p) fun id t => bnd (ZdA xs t) (inT xs (ZBh last m id)) := by
 unfold Zqo
 rcases Zba xs p with e | ⟨id, t⟩
 ·rfl
 rw [Zg, Zg]
 rcases ZdA xs t with e | ⟨s, q⟩
 ·rfl
 rw [Zg, Zg]
 unfold ZBh
 by_cases c : id = 0
 ·rw [if_pos c]; simp only [if_pos c]
 ·rw [if_neg c]; simp only [if_neg c]
theorem Zur {xs : List Int} (hb : bytes xs) (last : Int) (m : Mod) : Zdq xs (Zqo xs last m) (Zmu xs last m) := fun p hp => by
 rw [ZzD]
 exact Z3 (y := fun id t => bnd (ZdA xs t) (inT xs (ZBh last m id))) (g := fun id t => ZkX xs (Zyx last m id) (Zct xs (Zaj xs t).1 (Zaj xs t).2)) (ZcL xs) (fun id => Zmt hb (fun ys hy => Zxm last m id hy) (fun ys en => Zuq last m id ys en)) (fun id => Zxk (fun ys en => Zuq last m id ys en)) p hp
def Zi8 (xs : List Int) : Nat -> Int -> Mod -> Tq -> Mod × Tq
 | 0, _, m, t => (m, t)
 | n + 1, last, m, t => if t.p < xs.length /\ t.e = 0 then Zi8 xs n (Zmu xs last m t).1.1 (Zmu xs last m t).1.2 (Zmu xs last m t).2 else (m, t)
theorem ZkK (xs : List Int) (n : Nat) (last : Int) (m : Mod) : Stk (Zi8 xs n last m) := fun t h => by
 cases n with
 | zero => rfl
 | succ n => rw [Zi8, if_neg (fun c => h c.2)]
theorem Zmv {xs : List Int} (hb : bytes xs) : ∀ (n : Nat) (last : Int) (m : Mod), Zdq xs (Zgp xs n last m) (Zi8 xs n last m)
 | 0, _, m => Za3 xs m
 | n + 1, last, m => fun p hp => by
   rw [Zgp, Zi8]
   by_cases c : p < xs.length
   ·rw [if_pos c, if_pos ⟨c, rfl⟩]
    exact Z3 (y := fun x t => Zgp xs n x.1 x.2 t) (g := fun x t => Zi8 xs n x.1 x.2 t) (Zur hb last m) (fun x => Zmv hb n x.1 x.2) (fun x => ZkK xs n x.1 x.2) p hp
   ·rw [if_neg c, if_neg (fun h => c h.1)]
    exact Za3 xs m p hp
def ZnL (xs : List Int) : List Int -> Tq -> Unit × Tq
 | [], t => ((), t)
 | c :: l, t => ZaV (ZbZ xs t) fun x t => ZnL xs l (Z5 (x == c) t)
theorem ZkL (xs : List Int) : ∀ l, Stk (ZnL xs l)
 | [] => Zz ()
 | c :: l => Zw (ZfQ xs) fun x => ZbA (ZkL xs l) _
theorem Zmw (xs : List Int) : ∀ l, Zdq xs (ZiY xs l) (ZnL xs l)
 | [] => Za3 xs ()
 | c :: l => Z3 (ZcL xs) (fun x => Zcm (Zmw xs l) (ZkL xs l) beq_iff_eq.symm) (fun x => ZbA (ZkL xs l) _)
def ZzE (xs : List Int) : Mod × Tq := ZaV (ZnL xs [0, 97, 115, 109, 1, 0, 0, 0] ⟨0, 0⟩) fun _ t => ZaV (Zi8 xs xs.length 0 { ZeN with start := -1 } t) fun m t => (m, Z5 (decide (m.codes.length = m.funcs.length)) t)
theorem Zxn {xs : List Int} (hb : bytes xs) : Agr (ZqO xs) (ZzE xs) := by
 have h := Z3 (xs := xs) (Zmw xs [0, 97, 115, 109, 1, 0, 0, 0]) (fun _ => Z3 (Zmv hb xs.length 0 { ZeN with start := -1 }) (fun m => Zcm (Za3 xs m) (Zz m) (c := m.codes.length = m.funcs.length) ZkJ) (fun m => ZbA (Zz m) _)) (fun _ => Zw (ZkK xs _ _ _) fun m => ZbA (Zz m) _)
 exact (h 0 ⟨Int.le_refl _, by omega⟩).1
def ZmD (x : Mod × Tq) : Mod × Int := if x.2.e ≠ 0 then (ZeN, x.2.e) else (x.1, 0)
theorem ZBi {xs : List Int} (hb : bytes xs) : ZmD (ZzE xs) = match ZqO xs with
 | .ok (m, _) => (m, 0)
 | .error (e, _) => (ZeN, e) := by
 have h := Zxn hb
 unfold ZmD
 rcases hx : ZqO xs with ⟨e, t⟩ | ⟨m, t⟩
 ·rw [hx] at h
  simp only
  rw [if_pos (by rw [h.1]; exact h.2), h.1]
 ·rw [hx] at h
  have h : ZzE xs = (m, ⟨t, 0⟩) := h
  rw [h]; rfl
theorem Zfz : AMP Tryz.prog 47 [.bool true] [] [] (fun v m => v = .tup [] /\ m = []) (fun _ _ => False) :=
 (ZtJ true).mono (fun _ _ h => h.2) (fun _ _ h => absurd h.1 (by decide))
theorem ZeT : AMP Tryz.prog 47 [.bool false] [] [] (fun _ _ => False) (fun ch m => ch = ZwG 10 /\ m = []) :=
 (ZtJ false).mono (fun _ _ h => absurd h.1 (by decide)) (fun _ _ h => h.2)
theorem ZhT (l : List Int) : l.flatMap ZqP = Zh .i64 l := by
 induction l with
 | nil => rfl
 | cons x l ih => rw [List.flatMap_cons, ih]; rfl
theorem Zfj {b : List Int} {p : Int} {en : Nat} (h : okT b p en) {l : List UInt8} {t : Int} (he : Zej (b.take en) p = .ok (l, t)) : okT b t en /\ p < t /\ ∃ l0, l = toS l0 /\ bytes l0 /\ ZaU l0 = true /\ l0.length <= b.length := by
 unfold Zej at he
 rcases hz : Zdc (b.take en) p with ⟨e, q⟩ | ⟨n, q⟩
 ·rw [hz, Zd] at he; cases he
 ·rw [hz, Zg] at he
  obtain ⟨h2, h3, h4, h5⟩ := Zgq h hz
  split at he
  ·simp only [Except.ok.injEq, Yai] at he
   obtain ⟨rfl, rfl⟩ := he
   rename_i hv
   exact ⟨h2, h3, _, rfl, h4, hv, h5⟩
  ·cases he
theorem ZbY {b : List Int} {p : Int} {en : Nat} (h : okT b p en) {n t : Int} (he : ZdB (b.take en) p = .ok (n, t)) : okT b t en /\ p < t /\ (n = 127 \/ n = 126 \/ n = 123) := by
 unfold ZdB at he
 rcases hz : Zba (b.take en) p with ⟨e, q⟩ | ⟨m, q⟩
 ·rw [hz, Zd] at he; cases he
 ·rw [hz, Zg] at he
  obtain ⟨h2, h3, h4⟩ := ZaQ h hz
  split at he
  ·simp only [Except.ok.injEq, Yai] at he
   obtain ⟨rfl, rfl⟩ := he
   rename_i hv
   exact ⟨h2, by omega, hv⟩
  ·split at he <;> cases he
theorem ZtX {α : Type} {b : List Int} {en : Nat} {one : Int -> Res α} (hone : ∀ t a q, okT b t en -> one t = .ok (a, q) -> okT b q en /\ t <= q) : ∀ (n : Nat) (p : Int) (l : List α) (t : Int), okT b p en -> ZcJ one n p = .ok (l, t) -> okT b t en /\ p <= t /\ l.length = n
 | 0, p, l, t, h, he => by
   simp only [ZcJ, Except.ok.injEq, Yai] at he
   obtain ⟨rfl, rfl⟩ := he
   exact ⟨h, Int.le_refl _, rfl⟩
 | n + 1, p, l, t, h, he => by
   rw [ZcJ] at he
   rcases hz : one p with ⟨e, q⟩ | ⟨a, q⟩
   ·rw [hz, Zd] at he; cases he
   ·rw [hz, Zg] at he
    obtain ⟨h2, h3⟩ := hone _ _ _ h hz
    rcases hz2 : ZcJ one n q with ⟨e, r⟩ | ⟨m, r⟩
    ·rw [hz2, Zd] at he; cases he
    ·rw [hz2, Zg] at he
     obtain ⟨h4, h5, h6⟩ := ZtX hone n q m r h2 hz2
     simp only [Except.ok.injEq, Yai] at he
     obtain ⟨rfl, rfl⟩ := he
     exact ⟨h4, by omega, by simp [h6]⟩
theorem Za1 {α : Type} {b : List Int} {p : Int} {en : Nat} {one : Int -> Res α} {most : Int} (h : okT b p en) (hone : ∀ t a q, okT b t en -> one t = .ok (a, q) -> okT b q en /\ t <= q) {l : List α} {t : Int} (he : Zv (b.take en) most one p = .ok (l, t)) : okT b t en /\ p < t /\ (l.length : Int) <= most := by
 unfold Zv at he
 rcases hz : Zg5 (b.take en) most p with ⟨e, q⟩ | ⟨n, q⟩
 ·rw [hz, Zd] at he; cases he
 ·rw [hz, Zg] at he
  obtain ⟨h2, h3, h4⟩ := Zcc h hz
  obtain ⟨h5, h6, h7⟩ := ZtX hone _ _ _ _ h2 he
  exact ⟨h5, by omega, by omega⟩
end Go.Proofs.YtimhmpdfioihlaaGreatDoor
namespace Go.Proofs.YtimhmpdfioihlaaGreatDoor
set_option maxRecDepth 20000
open Go Go.Abs Nat
attribute [local irreducible] AW AWL AC FW CW CWr IntKind.wrap
section
theorem ZdD (l : List Int) (h : l.length <= 1000000000000) : AC Tryz.prog 55 [.view l.length 1 (Zh .i64 l), .view l.length 1 (Zh .i64 l)] (fun r m => r = .bool true /\ m = []) := by
 have := Zxr l l (by omega)
 rwa [Yae rfl] at this
open MB
theorem ZBp.cl {p : Prop} (h : p := by
 first
  | refine AWL.frzG rfl rfl rfl ?_
  | refine AWL.cC (f := 55) ZBY rfl rfl rfl rfl rfl rfl (ht1) ?_
  | refine AWL.cC (f := 55) ZBY rfl rfl rfl rfl rfl rfl (ht2) ?_
 all_goals (apply_rules (newGoals := .nonDependentOnly) only [dep]; exact ())) : p := h
open ZBp Znu Zl in
theorem ZzK (s : Zmf) (h1 : s.i.length <= 1000000000000) (h2 : s.o.length <= 1000000000000) : AC Tryz.prog 57 [.fagg (ZfV s), .fagg (ZfV s)] (fun r m => r = .bool true /\ m = []) := by
 obtain ⟨i, o⟩ := s
 simp only at h1 h2
 have ht1 := ZdD i h1
 have ht2 := ZdD o h2
 unfold ZfV
 refine AC.enter Tryz.func57 rfl (Yaa rfl) ?_
 simp only [Tryz.f57]
 have nx := trivial
 refine' Zo4
 all_goals first | exact ⟨trivial, trivial⟩ | exact ⟨rfl, trivial⟩ | exact ⟨rfl, rfl⟩ | exact ⟨trivial, rfl⟩ | (exfalso; omega) | trace_state
end
end Go.Proofs.YtimhmpdfioihlaaGreatDoor
namespace Go.Proofs.YtimhmpdfioihlaaGreatDoor
set_option maxRecDepth 20000
open Go Go.Abs
def Zdf (m : Mod) : List V := [.view m.types.length 2 (m.types.flatMap ZfV), .view m.imports.length 3 (m.imports.flatMap Zhp), .view m.funcs.length 1 (Zh .i64 m.funcs), .view m.tables.length 2 (m.tables.flatMap Zc3), .view m.mems.length 2 (m.mems.flatMap Zc3), .view m.globals.length 3 (m.globals.flatMap Zcd), .view m.exports.length 3 (m.exports.flatMap Zhq), .int .i64 m.start, .view m.elems.length 2 (m.elems.flatMap Zce), .view m.codes.length 2 (m.codes.flatMap ZgE), .view m.datas.length 2 (m.datas.flatMap Zcf)]
end Go.Proofs.YtimhmpdfioihlaaGreatDoor
namespace Go.Proofs.YtimhmpdfioihlaaGreatDoor
set_option maxRecDepth 20000
open Go Go.Abs Nat
attribute [local irreducible] AW AWL AC FW CW CWr IntKind.wrap
open MB
theorem ZwU.cl {p : Prop} (h : p := by
 first
  | refine AWL.cMP (f := 48) [(0, 0)] Zyb rfl rfl rfl rfl rfl rfl rfl (q0) ?_ ?_
  | refine AWL.cMP (f := 47) [] Zya rfl rfl rfl rfl rfl rfl rfl (q1) ?_ ?_
  | refine AWL.cMP (f := 82) [(0, 0)] ZBZ rfl rfl rfl rfl rfl rfl rfl (q2) ?_ ?_
  | refine AWL.cMP (f := 82) [(0, 0)] ZBZ rfl rfl rfl rfl rfl rfl rfl (q3) ?_ ?_
 all_goals (apply_rules (newGoals := .nonDependentOnly) only [dep]; exact ())) : p := h
open ZwU ZcA Zl in
theorem Zzi {b : List Int} {p : Int} {en : Nat} (h : okT b p en) : TF 79 [] b en p (ZtH (b.take en) p) (fun x => .agg (ZfV x)) := by
 have q0 : True := trivial
 have d1 : True := trivial
 have q1 : True := trivial
 have q2 : True := trivial
 have q3 : True := trivial
 obtain ⟨A, hA⟩ : ∃ A, ZtH (b.take en) p = A := ⟨_, rfl⟩
 rw [hA]
 unfold ZtH at hA
 unfold TF OKR ERR tpM
 simp only [ZaJ] at hA
 have q0 := ZcK h
 have m0 := fun x y => ZaQ h (n := x) (t := y)
 (try unfold TF at q0)
 unfold OKR ERR tpM at q0
 rcases z0 : Zba (b.take en) p with ⟨e, t0⟩ | ⟨c, t0⟩
 all_goals
  rw [z0] at hA q0
  simp only [Zg, Zd] at hA q0
 case' error => subst hA
 case' ok =>
  obtain ⟨h0, _, cb⟩ := m0 _ _ z0
  by_cases c1 : c = 96
  case' neg =>
   have q1 := ZeT
   have d1 : (c == 96) = false := by first | exact Yaf c1 | (rw [Yam]; exact c1)
   rw [if_neg c1] at hA
   subst hA
  case' pos =>
   have q1 := Zfz
   have d1 : (c == 96) = true := by first | exact Yae c1 | (rw [beq_iff_eq]; exact c1)
   rw [if_pos c1] at hA
   (try simp only at hA)
   have q2 := Zgr h0 32 (by decide) Zve (one := ZdB (b.take en)) (fun t ht => ZhQ ht) (fun t a q ht hq => (ZbY ht hq).1)
   have m2 := fun x y => Za1 (most := 32) h0 (fun t a q ht hq => ⟨(ZbY ht hq).1, Int.le_of_lt (ZbY ht hq).2.1⟩) (l := x) (t := y)
   (try unfold TF at q2)
   unfold OKR ERR tpM at q2
   rcases z2 : Zv (b.take en) 32 (ZdB (b.take en)) t0 with ⟨e, t2⟩ | ⟨i, t2⟩
   all_goals
    rw [z2] at hA q2
    simp only [Zg, Zd, ZhT] at hA q2
   case' error => subst hA
   case' ok =>
    obtain ⟨h2, ib⟩ := m2 _ _ z2
    have q3 := Zgr h2 32 (by decide) Zve (one := ZdB (b.take en)) (fun t ht => ZhQ ht) (fun t a q ht hq => (ZbY ht hq).1)
    have m3 := fun x y => Za1 (most := 32) h2 (fun t a q ht hq => ⟨(ZbY ht hq).1, Int.le_of_lt (ZbY ht hq).2.1⟩) (l := x) (t := y)
    (try unfold TF at q3)
    unfold OKR ERR tpM at q3
    rcases z3 : Zv (b.take en) 32 (ZdB (b.take en)) t2 with ⟨e, t3⟩ | ⟨o, t3⟩
    all_goals
     rw [z3] at hA q3
     simp only [Zg, Zd, ZhT] at hA q3
    case' error => subst hA
    case' ok =>
     obtain ⟨h3, ob⟩ := m3 _ _ z3
     subst hA
 all_goals
  (try unfold ZfV)
  refine AMP.enter Tryz.func79 rfl (Yaa rfl) (fun pn => ?_)
  simp only [Tryz.f79]
  have nx := aI @d1 trivial
  refine' ZoT
  all_goals first | exact ⟨trivial, trivial⟩ | exact ⟨rfl, trivial⟩ | exact ⟨rfl, rfl⟩ | exact ⟨trivial, rfl⟩ | (exfalso; omega) | trace_state
theorem ZwV.cl {p : Prop} (h : p := by
 first
  | refine AWL.cMP (f := 51) [(0, 0)] ZBX rfl rfl rfl rfl rfl rfl rfl (q0) ?_ ?_
  | refine AWL.cMP (f := 51) [(0, 0)] ZBX rfl rfl rfl rfl rfl rfl rfl (q1) ?_ ?_
  | refine AWL.cMP (f := 48) [(0, 0)] Zyb rfl rfl rfl rfl rfl rfl rfl (q2) ?_ ?_
  | refine AWL.cMP (f := 47) [] Zya rfl rfl rfl rfl rfl rfl rfl (q3) ?_ ?_
  | refine AWL.cMP (f := 50) [(0, 0)] Zp5 rfl rfl rfl rfl rfl rfl rfl (q4) ?_ ?_
 all_goals (apply_rules (newGoals := .nonDependentOnly) only [dep]; exact ())) : p := h
open ZwV ZcA Zl in
theorem Zml {b : List Int} {p : Int} {en : Nat} (h : okT b p en) : TF 81 [] b en p (ZuT (b.take en) p) (fun x => .agg (Zhp x)) := by
 have q0 : True := trivial
 have q1 : True := trivial
 have q2 : True := trivial
 have d3 : True := trivial
 have q3 : True := trivial
 have q4 : True := trivial
 obtain ⟨A, hA⟩ : ∃ A, ZuT (b.take en) p = A := ⟨_, rfl⟩
 rw [hA]
 unfold ZuT at hA
 unfold TF OKR ERR tpM
 simp only [ZaJ] at hA
 have q0 := ZhS h
 have m0 := fun x y => Zfj h (l := x) (t := y)
 (try unfold TF at q0)
 unfold OKR ERR tpM at q0
 rcases z0 : Zej (b.take en) p with ⟨e, t0⟩ | ⟨m, t0⟩
 all_goals
  rw [z0] at hA q0
  simp only [Zg, Zd] at hA q0
 case' error => subst hA
 case' ok =>
  obtain ⟨h0, _, mb⟩ := m0 _ _ z0
  have q1 := ZhS h0
  have m1 := fun x y => Zfj h0 (l := x) (t := y)
  (try unfold TF at q1)
  unfold OKR ERR tpM at q1
  rcases z1 : Zej (b.take en) t0 with ⟨e, t1⟩ | ⟨n, t1⟩
  all_goals
   rw [z1] at hA q1
   simp only [Zg, Zd] at hA q1
  case' error => subst hA
  case' ok =>
   obtain ⟨h1, _, nb⟩ := m1 _ _ z1
   have q2 := ZcK h1
   have m2 := fun x y => ZaQ h1 (n := x) (t := y)
   (try unfold TF at q2)
   unfold OKR ERR tpM at q2
   rcases z2 : Zba (b.take en) t1 with ⟨e, t2⟩ | ⟨c, t2⟩
   all_goals
    rw [z2] at hA q2
    simp only [Zg, Zd] at hA q2
   case' error => subst hA
   case' ok =>
    obtain ⟨h2, _, cb⟩ := m2 _ _ z2
    by_cases c3 : c = 0
    case' neg =>
     have q3 := ZeT
     have d3 : (c == 0) = false := by first | exact Yaf c3 | (rw [Yam]; exact c3)
     rw [if_neg c3] at hA
     subst hA
    case' pos =>
     have q3 := Zfz
     have d3 : (c == 0) = true := by first | exact Yae c3 | (rw [beq_iff_eq]; exact c3)
     rw [if_pos c3] at hA
     (try simp only at hA)
     have q4 := Zcb h2
     have m4 := fun x y => Za6 h2 (n := x) (t := y)
     (try unfold TF at q4)
     unfold OKR ERR tpM at q4
     rcases z4 : nmT (b.take en) t2 with ⟨e, t4⟩ | ⟨i, t4⟩
     all_goals
      rw [z4] at hA q4
      simp only [Zg, Zd] at hA q4
     case' error => subst hA
     case' ok =>
      obtain ⟨h4, _, ib⟩ := m4 _ _ z4
      subst hA
 all_goals
  (try unfold Zhp)
  refine AMP.enter Tryz.func81 rfl (Yaa rfl) (fun pn => ?_)
  simp only [Tryz.f81]
  have nx := aI @d3 trivial
  refine' ZbH
  all_goals first | exact ⟨trivial, trivial⟩ | exact ⟨rfl, trivial⟩ | exact ⟨rfl, rfl⟩ | exact ⟨trivial, rfl⟩ | (exfalso; omega) | trace_state
theorem ZtY.cl {p : Prop} (h : p := by
 first
  | refine AWL.cMP (f := 116) [(0, 0)] Zve rfl rfl rfl rfl rfl rfl rfl (q0) ?_ ?_
  | refine AWL.cMP (f := 48) [(0, 0)] Zyb rfl rfl rfl rfl rfl rfl rfl (q1) ?_ ?_
  | refine AWL.cMP (f := 47) [] Zya rfl rfl rfl rfl rfl rfl rfl (q2) ?_ ?_
  | refine AWL.cMP (f := 117) [(0, 0)] Zvf rfl rfl rfl rfl rfl rfl rfl (q3) ?_ ?_
 all_goals (apply_rules (newGoals := .nonDependentOnly) only [dep]; exact ())) : p := h
open ZtY ZiL Zl in
theorem Zqt {b : List Int} {p : Int} {en : Nat} (h : okT b p en) : TF 88 [] b en p (ZiU (b.take en) p) (fun x => .agg (Zcd x)) := by
 have q0 : True := trivial
 have q1 : True := trivial
 have d2 : True := trivial
 have q2 : True := trivial
 have q3 : True := trivial
 obtain ⟨A, hA⟩ : ∃ A, ZiU (b.take en) p = A := ⟨_, rfl⟩
 rw [hA]
 unfold ZiU at hA
 unfold TF OKR ERR tpM
 simp only [ZaJ] at hA
 have q0 := ZhQ h
 have m0 := fun x y => ZbY h (n := x) (t := y)
 (try unfold TF at q0)
 unfold OKR ERR tpM at q0
 rcases z0 : ZdB (b.take en) p with ⟨e, t0⟩ | ⟨k, t0⟩
 all_goals
  rw [z0] at hA q0
  simp only [Zg, Zd] at hA q0
 case' error => subst hA
 case' ok =>
  obtain ⟨h0, _, kb⟩ := m0 _ _ z0
  have q1 := ZcK h0
  have m1 := fun x y => ZaQ h0 (n := x) (t := y)
  (try unfold TF at q1)
  unfold OKR ERR tpM at q1
  rcases z1 : Zba (b.take en) t0 with ⟨e, t1⟩ | ⟨c, t1⟩
  all_goals
   rw [z1] at hA q1
   simp only [Zg, Zd] at hA q1
  case' error => subst hA
  case' ok =>
   obtain ⟨h1, _, cb⟩ := m1 _ _ z1
   by_cases c2 : c <= 1
   case' neg =>
    have q2 := ZeT
    have d2 : (decide (c <= 1)) = false := by first | exact Yaf c2 | (rw [Yam]; exact c2)
    rw [if_neg c2] at hA
    subst hA
   case' pos =>
    have q2 := Zfz
    have d2 : (decide (c <= 1)) = true := by first | exact Yae c2 | (rw [beq_iff_eq]; exact c2)
    rw [if_pos c2] at hA
    (try simp only at hA)
    have q3 := ZhR h1
    have m3 := fun x y => Zd7 h1 (c := x) (t := y)
    (try unfold TF at q3)
    unfold OKR ERR tpM at q3
    rcases z3 : Zek (b.take en) t1 with ⟨e, t3⟩ | ⟨e, t3⟩
    all_goals
     rw [z3] at hA q3
     simp only [Zg, Zd] at hA q3
    case' error => subst hA
    case' ok =>
     obtain ⟨h3, eb⟩ := m3 _ _ z3
     subst hA
 all_goals
  (try unfold Zcd)
  refine AMP.enter Tryz.func88 rfl (Yaa rfl) (fun pn => ?_)
  simp only [Tryz.f88]
  have nx := aI @d2 trivial
  refine' ZbH
  all_goals first | exact ⟨trivial, trivial⟩ | exact ⟨rfl, trivial⟩ | exact ⟨rfl, rfl⟩ | exact ⟨trivial, rfl⟩ | (exfalso; omega) | trace_state
theorem ZwW.cl {p : Prop} (h : p := by
 first
  | refine AWL.cMP (f := 51) [(0, 0)] ZBX rfl rfl rfl rfl rfl rfl rfl (q0) ?_ ?_
  | refine AWL.cMP (f := 48) [(0, 0)] Zyb rfl rfl rfl rfl rfl rfl rfl (q1) ?_ ?_
  | refine AWL.cMP (f := 47) [] Zya rfl rfl rfl rfl rfl rfl rfl (q2) ?_ ?_
  | refine AWL.cMP (f := 50) [(0, 0)] Zp5 rfl rfl rfl rfl rfl rfl rfl (q3) ?_ ?_
 all_goals (apply_rules (newGoals := .nonDependentOnly) only [dep]; exact ())) : p := h
open ZwW ZcA Zl in
theorem Zqu {b : List Int} {p : Int} {en : Nat} (h : okT b p en) : TF 90 [] b en p (ZuU (b.take en) p) (fun x => .agg (Zhq x)) := by
 have q0 : True := trivial
 have q1 : True := trivial
 have e1 : True := trivial
 have d2 : True := trivial
 have q2 : True := trivial
 have q3 : True := trivial
 obtain ⟨A, hA⟩ : ∃ A, ZuU (b.take en) p = A := ⟨_, rfl⟩
 rw [hA]
 unfold ZuU at hA
 unfold TF OKR ERR tpM
 simp only [ZaJ] at hA
 have q0 := ZhS h
 have m0 := fun x y => Zfj h (l := x) (t := y)
 (try unfold TF at q0)
 unfold OKR ERR tpM at q0
 rcases z0 : Zej (b.take en) p with ⟨e, t0⟩ | ⟨n, t0⟩
 all_goals
  rw [z0] at hA q0
  simp only [Zg, Zd] at hA q0
 case' error => subst hA
 case' ok =>
  obtain ⟨h0, _, nb⟩ := m0 _ _ z0
  have q1 := ZcK h0
  have m1 := fun x y => ZaQ h0 (n := x) (t := y)
  (try unfold TF at q1)
  unfold OKR ERR tpM at q1
  rcases z1 : Zba (b.take en) t0 with ⟨e, t1⟩ | ⟨c, t1⟩
  all_goals
   rw [z1] at hA q1
   simp only [Zg, Zd] at hA q1
  case' error => subst hA
  case' ok =>
   obtain ⟨h1, _, cb⟩ := m1 _ _ z1
   have e1 : IntKind.i64.wrap c = c := Zb _ (by have := cb.1; omega) (by have := cb.2; omega)
   by_cases c2 : c <= 3
   case' neg =>
    have q2 := ZeT
    have d2 : (decide (c <= 3)) = false := by first | exact Yaf c2 | (rw [Yam]; exact c2)
    rw [if_neg c2] at hA
    subst hA
   case' pos =>
    have q2 := Zfz
    have d2 : (decide (c <= 3)) = true := by first | exact Yae c2 | (rw [beq_iff_eq]; exact c2)
    rw [if_pos c2] at hA
    (try simp only at hA)
    have q3 := Zcb h1
    have m3 := fun x y => Za6 h1 (n := x) (t := y)
    (try unfold TF at q3)
    unfold OKR ERR tpM at q3
    rcases z3 : nmT (b.take en) t1 with ⟨e, t3⟩ | ⟨i, t3⟩
    all_goals
     rw [z3] at hA q3
     simp only [Zg, Zd] at hA q3
    case' error => subst hA
    case' ok =>
     obtain ⟨h3, _, ib⟩ := m3 _ _ z3
     subst hA
 all_goals
  (try unfold Zhq)
  refine AMP.enter Tryz.func90 rfl (Yaa rfl) (fun pn => ?_)
  simp only [Tryz.f90]
  have nx := aI @e1 (aI @d2 trivial)
  refine' ZbH
  all_goals first | exact ⟨trivial, trivial⟩ | exact ⟨rfl, trivial⟩ | exact ⟨rfl, rfl⟩ | exact ⟨trivial, rfl⟩ | (exfalso; omega) | trace_state
theorem ZtZ.cl {p : Prop} (h : p := by
 first
  | refine AWL.cMP (f := 50) [(0, 0)] Zp5 rfl rfl rfl rfl rfl rfl rfl (q0) ?_ ?_
  | refine AWL.cMP (f := 47) [] Zya rfl rfl rfl rfl rfl rfl rfl (q1) ?_ ?_
  | refine AWL.cMP (f := 117) [(0, 0)] Zvf rfl rfl rfl rfl rfl rfl rfl (q2) ?_ ?_
  | refine AWL.cMP (f := 82) [(0, 0)] ZBZ rfl rfl rfl rfl rfl rfl rfl (q3) ?_ ?_
 all_goals (apply_rules (newGoals := .nonDependentOnly) only [dep]; exact ())) : p := h
open ZtZ ZcA Zl in
theorem ZwX {b : List Int} {p : Int} {en : Nat} (h : okT b p en) : TF 92 [] b en p (ZiV (b.take en) p) (fun x => .agg (Zce x)) := by
 have q0 : True := trivial
 have d1 : True := trivial
 have q1 : True := trivial
 have q2 : True := trivial
 have q3 : True := trivial
 obtain ⟨A, hA⟩ : ∃ A, ZiV (b.take en) p = A := ⟨_, rfl⟩
 rw [hA]
 unfold ZiV at hA
 unfold TF OKR ERR tpM
 simp only [ZaJ] at hA
 have q0 := Zcb h
 have m0 := fun x y => Za6 h (n := x) (t := y)
 (try unfold TF at q0)
 unfold OKR ERR tpM at q0
 rcases z0 : nmT (b.take en) p with ⟨e, t0⟩ | ⟨c, t0⟩
 all_goals
  rw [z0] at hA q0
  simp only [Zg, Zd] at hA q0
 case' error => subst hA
 case' ok =>
  obtain ⟨h0, _, cb⟩ := m0 _ _ z0
  by_cases c1 : c = 0
  case' neg =>
   have q1 := ZeT
   have d1 : (c == 0) = false := by first | exact Yaf c1 | (rw [Yam]; exact c1)
   rw [if_neg c1] at hA
   subst hA
  case' pos =>
   have q1 := Zfz
   have d1 : (c == 0) = true := by first | exact Yae c1 | (rw [beq_iff_eq]; exact c1)
   rw [if_pos c1] at hA
   (try simp only at hA)
   have q2 := ZhR h0
   have m2 := fun x y => Zd7 h0 (c := x) (t := y)
   (try unfold TF at q2)
   unfold OKR ERR tpM at q2
   rcases z2 : Zek (b.take en) t0 with ⟨e, t2⟩ | ⟨e, t2⟩
   all_goals
    rw [z2] at hA q2
    simp only [Zg, Zd] at hA q2
   case' error => subst hA
   case' ok =>
    obtain ⟨h2, eb⟩ := m2 _ _ z2
    have q3 := Zgr h2 1024 (by decide) Zp5 (one := nmT (b.take en)) (fun t ht => Zcb ht) (fun t a q ht hq => (Za6 ht hq).1)
    have m3 := fun x y => Za1 (most := 1024) h2 (fun t a q ht hq => ⟨(Za6 ht hq).1, Int.le_of_lt (Za6 ht hq).2.1⟩) (l := x) (t := y)
    (try unfold TF at q3)
    unfold OKR ERR tpM at q3
    rcases z3 : Zv (b.take en) 1024 (nmT (b.take en)) t2 with ⟨e, t3⟩ | ⟨f, t3⟩
    all_goals
     rw [z3] at hA q3
     simp only [Zg, Zd, ZhT] at hA q3
    case' error => subst hA
    case' ok =>
     obtain ⟨h3, fb⟩ := m3 _ _ z3
     subst hA
 all_goals
  (try unfold Zce)
  refine AMP.enter Tryz.func92 rfl (Yaa rfl) (fun pn => ?_)
  simp only [Tryz.f92]
  have nx := aI @d1 trivial
  refine' ZoT
  all_goals first | exact ⟨trivial, trivial⟩ | exact ⟨rfl, trivial⟩ | exact ⟨rfl, rfl⟩ | exact ⟨trivial, rfl⟩ | (exfalso; omega) | trace_state
theorem Zt0.cl {p : Prop} (h : p := by
 first
  | refine AWL.cMP (f := 50) [(0, 0)] Zp5 rfl rfl rfl rfl rfl rfl rfl (q0) ?_ ?_
  | refine AWL.cMP (f := 47) [] Zya rfl rfl rfl rfl rfl rfl rfl (q1) ?_ ?_
  | refine AWL.cMP (f := 117) [(0, 0)] Zvf rfl rfl rfl rfl rfl rfl rfl (q2) ?_ ?_
  | refine AWL.cMP (f := 76) [(0, 0)] ZD6 rfl rfl rfl rfl rfl rfl rfl (q3) ?_ ?_
 all_goals (apply_rules (newGoals := .nonDependentOnly) only [dep]; exact ())) : p := h
open Zt0 ZcA Zl in
theorem ZwY {b : List Int} {p : Int} {en : Nat} (h : okT b p en) : TF 96 [] b en p (ZiW (b.take en) p) (fun x => .agg (Zcf x)) := by
 have q0 : True := trivial
 have d1 : True := trivial
 have q1 : True := trivial
 have q2 : True := trivial
 have q3 : True := trivial
 obtain ⟨A, hA⟩ : ∃ A, ZiW (b.take en) p = A := ⟨_, rfl⟩
 rw [hA]
 unfold ZiW at hA
 unfold TF OKR ERR tpM
 simp only [ZaJ] at hA
 have q0 := Zcb h
 have m0 := fun x y => Za6 h (n := x) (t := y)
 (try unfold TF at q0)
 unfold OKR ERR tpM at q0
 rcases z0 : nmT (b.take en) p with ⟨e, t0⟩ | ⟨c, t0⟩
 all_goals
  rw [z0] at hA q0
  simp only [Zg, Zd] at hA q0
 case' error => subst hA
 case' ok =>
  obtain ⟨h0, _, cb⟩ := m0 _ _ z0
  by_cases c1 : c = 0
  case' neg =>
   have q1 := ZeT
   have d1 : (c == 0) = false := by first | exact Yaf c1 | (rw [Yam]; exact c1)
   rw [if_neg c1] at hA
   subst hA
  case' pos =>
   have q1 := Zfz
   have d1 : (c == 0) = true := by first | exact Yae c1 | (rw [beq_iff_eq]; exact c1)
   rw [if_pos c1] at hA
   (try simp only at hA)
   have q2 := ZhR h0
   have m2 := fun x y => Zd7 h0 (c := x) (t := y)
   (try unfold TF at q2)
   unfold OKR ERR tpM at q2
   rcases z2 : Zek (b.take en) t0 with ⟨e, t2⟩ | ⟨e, t2⟩
   all_goals
    rw [z2] at hA q2
    simp only [Zg, Zd] at hA q2
   case' error => subst hA
   case' ok =>
    obtain ⟨h2, eb⟩ := m2 _ _ z2
    have q3 := Zmh h2
    have m3 := fun x y => Zgq h2 (l := x) (t := y)
    (try unfold TF at q3)
    unfold OKR ERR tpM at q3
    rcases z3 : Zdc (b.take en) t2 with ⟨e, t3⟩ | ⟨y, t3⟩
    all_goals
     rw [z3] at hA q3
     simp only [Zg, Zd] at hA q3
    case' error => subst hA
    case' ok =>
     obtain ⟨h3, _, yb⟩ := m3 _ _ z3
     subst hA
 all_goals
  (try unfold Zcf)
  refine AMP.enter Tryz.func96 rfl (Yaa rfl) (fun pn => ?_)
  simp only [Tryz.f96]
  have nx := aI @d1 trivial
  refine' ZbH
  all_goals first | exact ⟨trivial, trivial⟩ | exact ⟨rfl, trivial⟩ | exact ⟨rfl, rfl⟩ | exact ⟨trivial, rfl⟩ | (exfalso; omega) | trace_state
end Go.Proofs.YtimhmpdfioihlaaGreatDoor
namespace Go.Proofs.YtimhmpdfioihlaaGreatDoor
set_option maxRecDepth 20000
open Go Go.Abs
section
theorem Zay {α β : Type} {x : Res α} {f : α -> Int -> Res β} {z : β × Int} (h : bnd x f = .ok z) : ∃ a t, x = .ok (a, t) /\ f a t = .ok z := by
 rcases x with e | ⟨a, t⟩
 ·cases h
 ·exact ⟨a, t, rfl, h⟩
theorem ZcY {c : Prop} [Decidable c] {α : Type} {x : Int -> Res α} {t : Int} {z : α × Int} (h : ZaJ c x t = .ok z) : c /\ x t = .ok z := by
 unfold ZaJ at h
 split at h
 ·rename_i hc; exact ⟨hc, h⟩
 ·cases h
theorem Zgt {α : Type} {a b : α} {t u : Int} (h : (.ok (a, t) : Res α) = .ok (b, u)) : a = b /\ t = u := by
 simp only [Except.ok.injEq, Yai] at h; exact h
section
variable {b : List Int} {p t : Int} {en : Nat}
theorem ZnG {most : Int} (h : okT b p en) {x : Int × Int} (he : Zme (b.take en) most p = .ok (x, t)) : okT b t en /\ p <= t := by
 unfold Zme at he
 obtain ⟨f, t0, z0, he⟩ := Zay he
 obtain ⟨h0, e0, _⟩ := ZaQ h z0
 split at he
 ·cases he
 obtain ⟨n, t1, z1, he⟩ := Zay he
 obtain ⟨h1, e1, _⟩ := Zcc h0 z1
 split at he
 ·obtain ⟨n, t2, z2, he⟩ := Zay he
  obtain ⟨h2, e2, _⟩ := Za6 h1 z2
  obtain ⟨_, rfl⟩ := Zgt he
  exact ⟨h2, by omega⟩
 ·obtain ⟨_, rfl⟩ := Zgt he
  exact ⟨h1, by omega⟩
theorem Zt1 (h : okT b p en) {x : Int × Int} (he : ZtI (b.take en) p = .ok (x, t)) : okT b t en /\ p <= t := by
 unfold ZtI at he
 obtain ⟨f, t0, z0, he⟩ := Zay he
 obtain ⟨h0, e0, _⟩ := ZaQ h z0
 obtain ⟨_, he⟩ := ZcY he
 obtain ⟨h1, e1⟩ := ZnG h0 he
 exact ⟨h1, by omega⟩
theorem Zpq (h : okT b p en) {l : List Int} (he : Zv (b.take en) 32 (ZdB (b.take en)) p = .ok (l, t)) : okT b t en /\ p <= t := by
 obtain ⟨h1, e1, _⟩ := Za1 (most := 32) h (fun t a q ht hq => ⟨(ZbY ht hq).1, Int.le_of_lt (ZbY ht hq).2.1⟩) he
 exact ⟨h1, Int.le_of_lt e1⟩
theorem Zt2 (h : okT b p en) {x : Zmf} (he : ZtH (b.take en) p = .ok (x, t)) : okT b t en /\ p <= t := by
 unfold ZtH at he
 obtain ⟨f, t0, z0, he⟩ := Zay he
 obtain ⟨h0, e0, _⟩ := ZaQ h z0
 obtain ⟨_, he⟩ := ZcY he
 obtain ⟨i, t1, z1, he⟩ := Zay he
 obtain ⟨h1, e1⟩ := Zpq h0 z1
 obtain ⟨i, t2, z2, he⟩ := Zay he
 obtain ⟨h2, e2⟩ := Zpq h1 z2
 obtain ⟨_, rfl⟩ := Zgt he
 exact ⟨h2, by omega⟩
theorem Zt3 (h : okT b p en) {x : ZkT} (he : ZuT (b.take en) p = .ok (x, t)) : okT b t en /\ p <= t := by
 unfold ZuT at he
 obtain ⟨f, t0, z0, he⟩ := Zay he
 obtain ⟨h0, e0, _⟩ := Zfj h z0
 obtain ⟨i, t1, z1, he⟩ := Zay he
 obtain ⟨h1, e1, _⟩ := Zfj h0 z1
 obtain ⟨i, t2, z2, he⟩ := Zay he
 obtain ⟨h2, e2, _⟩ := ZaQ h1 z2
 obtain ⟨_, he⟩ := ZcY he
 obtain ⟨i, t3, z3, he⟩ := Zay he
 obtain ⟨h3, e3, _⟩ := Za6 h2 z3
 obtain ⟨_, rfl⟩ := Zgt he
 exact ⟨h3, by omega⟩
theorem Zpr (h : okT b p en) {x : ZeM} (he : ZiU (b.take en) p = .ok (x, t)) : okT b t en /\ p <= t := by
 unfold ZiU at he
 obtain ⟨f, t0, z0, he⟩ := Zay he
 obtain ⟨h0, e0, _⟩ := ZbY h z0
 obtain ⟨i, t1, z1, he⟩ := Zay he
 obtain ⟨h1, e1, _⟩ := ZaQ h0 z1
 obtain ⟨_, he⟩ := ZcY he
 obtain ⟨i, t2, z2, he⟩ := Zay he
 obtain ⟨h2, e2⟩ := Zd7 h1 z2
 obtain ⟨_, rfl⟩ := Zgt he
 exact ⟨h2, by omega⟩
theorem Zt4 (h : okT b p en) {x : Zmg} (he : ZuU (b.take en) p = .ok (x, t)) : okT b t en /\ p <= t := by
 unfold ZuU at he
 obtain ⟨f, t0, z0, he⟩ := Zay he
 obtain ⟨h0, e0, _⟩ := Zfj h z0
 obtain ⟨i, t1, z1, he⟩ := Zay he
 obtain ⟨h1, e1, _⟩ := ZaQ h0 z1
 obtain ⟨_, he⟩ := ZcY he
 obtain ⟨i, t2, z2, he⟩ := Zay he
 obtain ⟨h2, e2, _⟩ := Za6 h1 z2
 obtain ⟨_, rfl⟩ := Zgt he
 exact ⟨h2, by omega⟩
theorem Zps (h : okT b p en) {x : Zfs} (he : ZiV (b.take en) p = .ok (x, t)) : okT b t en /\ p <= t := by
 unfold ZiV at he
 obtain ⟨f, t0, z0, he⟩ := Zay he
 obtain ⟨h0, e0, _⟩ := Za6 h z0
 obtain ⟨_, he⟩ := ZcY he
 obtain ⟨i, t1, z1, he⟩ := Zay he
 obtain ⟨h1, e1⟩ := Zd7 h0 z1
 obtain ⟨i, t2, z2, he⟩ := Zay he
 obtain ⟨h2, e2, _⟩ := Za1 (most := 1024) h1 (fun t a q ht hq => ⟨(Za6 ht hq).1, Int.le_of_lt (Za6 ht hq).2.1⟩) z2
 obtain ⟨_, rfl⟩ := Zgt he
 exact ⟨h2, by omega⟩
theorem Zpt (h : okT b p en) {x : Zft} (he : ZiW (b.take en) p = .ok (x, t)) : okT b t en /\ p <= t := by
 unfold ZiW at he
 obtain ⟨f, t0, z0, he⟩ := Zay he
 obtain ⟨h0, e0, _⟩ := Za6 h z0
 obtain ⟨_, he⟩ := ZcY he
 obtain ⟨i, t1, z1, he⟩ := Zay he
 obtain ⟨h1, e1⟩ := Zd7 h0 z1
 obtain ⟨i, t2, z2, he⟩ := Zay he
 obtain ⟨h2, e2, _⟩ := Zgq h1 z2
 obtain ⟨_, rfl⟩ := Zgt he
 exact ⟨h2, by omega⟩
theorem ZA4 {α : Type} {f : List Int -> Int -> Res α} {xs : List Int} {s u : Int} {x : α} (he : inT xs f s u = .ok (x, t)) : t = u := by
 unfold inT at he
 split at he
 ·exact (Zgt he).2.symm
 ·cases he
theorem Zpu (h : okT b p en) {x : Zd6} (he : ZiX (b.take en) p = .ok (x, t)) : okT b t en /\ p <= t := by
 unfold ZiX at he
 obtain ⟨s, u, z0, he⟩ := Zay he
 obtain ⟨h0, e0, e1⟩ := Zpo h z0
 obtain rfl := ZA4 he
 exact ⟨h0, by omega⟩
end
end
end Go.Proofs.YtimhmpdfioihlaaGreatDoor
namespace Go.Proofs.YtimhmpdfioihlaaGreatDoor
set_option maxRecDepth 20000
open Go Go.Abs Nat
attribute [local irreducible] AW AWL AC FW CW CWr IntKind.wrap
open MB
theorem ZA5.cl {p : Prop} (h : p := by
 first
  | refine AWL.cMP (f := 47) [] Zya rfl rfl rfl rfl rfl rfl rfl (q1) ?_ ?_
  | refine AWL.cMP (f := 48) [(0, 0)] Zyb rfl rfl rfl rfl rfl rfl rfl (q0) ?_ ?_
  | refine AWL.cMP (f := 85) [(0, 0)] ZD7 rfl rfl rfl rfl rfl rfl rfl (q2) ?_ ?_
 all_goals (apply_rules (newGoals := .nonDependentOnly) only [dep]; exact ())) : p := h
theorem ZA6.cl {p : Prop} (h : p := by
 first
  | refine AWL.cMP (f := 85) [(0, 0)] ZD7 rfl rfl rfl rfl rfl rfl rfl (q2) ?_ ?_
 all_goals (apply_rules (newGoals := .nonDependentOnly) only [dep]; exact ())) : p := h
open ZA5 ZiM Zl in
theorem ZwZ {b : List Int} {p : Int} {en : Nat} (h : okT b p en) : AMP Tryz.prog 84 [.ptr 3 0] (tpM 0 b p en ++ [(3, ⟨false, [.ptr 0 0]⟩)]) [0, 3] (ZkV (ZtI (b.take en) p) (fun x => .agg (Zc3 x)) b en) (ZkW (ZtI (b.take en) p) b en) := by
 have q0 := ZcK h
 have m0 := fun x y => ZaQ h (n := x) (t := y)
 have q1 : True := trivial
 have q2 : True := trivial
 have d1 : True := trivial
 obtain ⟨A, hA⟩ : ∃ A, ZtI (b.take en) p = A := ⟨_, rfl⟩
 rw [hA]
 unfold ZtI ZaJ at hA
 unfold TF OKR ERR tpM at q0
 unfold ZkV ZkW tpM
 rcases z0 : Zba (b.take en) p with ⟨e, t0⟩ | ⟨c, t0⟩
 all_goals
  rw [z0] at hA q0
  simp only [Zg, Zd] at hA q0
 case' error => subst hA
 case' ok =>
  obtain ⟨h0, _, cb⟩ := m0 _ _ z0
  by_cases c1 : c = 112
  case' neg =>
   have q1 := ZeT
   have d1 : (c == 112) = false := by rw [Yam]; exact c1
   rw [if_neg c1] at hA
   subst hA
  case' pos =>
   have q1 := Zfz
   have d1 : (c == 112) = true := by rw [beq_iff_eq]; exact c1
   rw [if_pos c1] at hA
   have q2 := ZtQ h0 1024
   unfold TF OKR ERR tpM at q2
   rcases z2 : Zme (b.take en) 1024 t0 with ⟨e, t1⟩ | ⟨x, t1⟩
   all_goals
    rw [z2] at hA q2
    simp only at q2
    subst hA
 all_goals
  refine AMP.enter Tryz.func84 rfl (Yaa rfl) (fun pn => ?_)
  simp only [Tryz.f84]
  (try simp only [ZA3] at q2)
  have nx := aI @d1 trivial
  refine' ZoO
  all_goals first | exact ⟨trivial, trivial⟩ | exact ⟨rfl, trivial⟩ | exact ⟨rfl, rfl⟩ | exact ⟨trivial, rfl⟩ | (exfalso; omega) | trace_state
open ZA6 ZiM Zl in
theorem Zw0 {b : List Int} {p : Int} {en : Nat} (h : okT b p en) : AMP Tryz.prog 86 [.ptr 3 0] (tpM 0 b p en ++ [(3, ⟨false, [.ptr 0 0]⟩)]) [0, 3] (ZkV (Zme (b.take en) 16 p) (fun x => .agg (Zc3 x)) b en) (ZkW (Zme (b.take en) 16 p) b en) := by
 have q2 := ZtQ h 16
 have q1 : True := trivial
 have q0 : True := trivial
 obtain ⟨A, hA⟩ : ∃ A, Zme (b.take en) 16 p = A := ⟨_, rfl⟩
 rw [hA]
 unfold TF OKR ERR tpM at q2
 unfold ZkV ZkW tpM
 rcases z2 : Zme (b.take en) 16 p with ⟨e, t1⟩ | ⟨x, t1⟩
 all_goals
  rw [z2] at hA q2
  simp only at q2
  subst hA
  refine AMP.enter Tryz.func86 rfl (Yaa rfl) (fun pn => ?_)
  simp only [Tryz.f86]
  (try simp only [ZA3] at q2)
  have nx := trivial
  refine' ZoO
  all_goals first | exact ⟨trivial, trivial⟩ | exact ⟨rfl, trivial⟩ | exact ⟨rfl, rfl⟩ | exact ⟨trivial, rfl⟩ | (exfalso; omega) | trace_state
end Go.Proofs.YtimhmpdfioihlaaGreatDoor
namespace Go.Proofs.YtimhmpdfioihlaaGreatDoor
set_option maxRecDepth 20000
open Go Go.Abs Nat
attribute [local irreducible] AW AWL AC FW CW CWr IntKind.wrap
section
def Tc (pn : Nat -> Option BI) (b : List Int) (en T : Nat) (q : Int) (l : List Int) (runs : Nat) : St := { n := 42, slots := [(2, .ptr 2 0), (3, .ptr 34011 0), (4, .ptr 4 0), (5, .int .i64 (runs : Int))], mem := [(0, ⟨false, [.view b.length 1 (Zh .u8 b), .int .i64 T, .int .i64 en]⟩), (2, ⟨false, [.ref 3000 0 0 1, .nils]⟩), (3000, ⟨true, []⟩), (34011, ⟨false, [.view b.length 1 (Zh .u8 b), .int .i64 q, .int .i64 T]⟩), (4, ⟨false, [.ref 5000 0 l.length 1, .nils]⟩), (5000, ⟨true, Zh .i64 l⟩)], lent := [(34011, none), (0, pn 0)] }
def Ti (pn : Nat -> Option BI) (b : List Int) (en T : Nat) (q : Int) (l : List Int) (runs k j : Nat) (c : Int) : St := { n := 42, slots := [(2, .ptr 2 0), (3, .ptr 34011 0), (4, .ptr 4 0), (5, .int .i64 (runs : Int)), (7, .int .i64 c), (26, .int .i64 (k : Int)), (27, .int .i64 (j : Int))], mem := [(0, ⟨false, [.view b.length 1 (Zh .u8 b), .int .i64 T, .int .i64 en]⟩), (2, ⟨false, [.ref 3000 0 0 1, .nils]⟩), (3000, ⟨true, []⟩), (34011, ⟨false, [.view b.length 1 (Zh .u8 b), .int .i64 q, .int .i64 T]⟩), (4, ⟨false, [.ref 5000 0 l.length 1, .nils]⟩), (5000, ⟨true, Zh .i64 l⟩)], lent := [(34011, none), (0, pn 0)] }
def inR {α : Type} (T : Int) (x : Res α) : Res α := match x with
 | .ok (a, _) => .ok (a, T)
 | .error (e, _) => .error (e, T)
def Zt5 (ys : List Int) (x : Res (List Int)) : Res Zd6 := bnd x fun l t => bnd (Zek ys t) fun c t => ZaJ (t = ys.length) (fun t => .ok (⟨l, c⟩, t)) t
theorem ZA7.NM : type_of% @MB.NM /\ type_of% @Tc.eq_1 /\ type_of% @Ti.eq_1 :=
 ⟨MB.NM, @Tc.eq_1, @Ti.eq_1⟩
open ZA7
theorem Zt6.kp : type_of% (@Zs [0, 2, 3, 4, 5, 6, 7, 26, 27]) := @Zs [0, 2, 3, 4, 5, 6, 7, 26, 27]
theorem Zt6.cl {p : Prop} (h : p := by
 first
  | refine AWL.cMP (f := 50) [(0, 0)] Zp5 rfl rfl rfl rfl rfl rfl rfl (hn) ?_ ?_
  | refine AWL.cMP (f := 49) [(0, 0)] ZCp rfl rfl rfl rfl rfl rfl rfl (hp) ?_ ?_
  | refine AWL.cMP (f := 50) [(0, 34011)] Zp5 rfl rfl rfl rfl rfl rfl rfl (hr) ?_ ?_
  | refine AWL.cMP (f := 115) [(0, 34011)] Zvd rfl rfl rfl rfl rfl rfl rfl (hc) ?_ ?_
  | refine AWL.cMP (f := 116) [(0, 34011)] Zve rfl rfl rfl rfl rfl rfl rfl (hk) ?_ ?_
  | refine AWL.cMP (f := 117) [(0, 34011)] Zvf rfl rfl rfl rfl rfl rfl rfl (he) ?_ ?_
  | refine AWL.cMP (f := 53) [(0, 34011)] ZD4 rfl rfl rfl rfl rfl rfl rfl (hd) ?_ ?_
 all_goals (apply_rules (newGoals := .nonDependentOnly) only [dep]; exact ())) : p := h
open Zt6 ZFI Zl in
theorem Zw1 {b : List Int} {p : Int} {en : Nat} (h : okT b p en) : TF 94 [] b en p (ZiX (b.take en) p) (fun x => .agg (ZgE x)) := by
 have hn := Zcb h
 have hnm := fun n t => Za6 h (n := n) (t := t)
 have hlen := h.len
 have hp : True := trivial
 have hr : True := trivial
 have hc : True := trivial
 have hk : True := trivial
 have he : True := trivial
 have hd : True := trivial
 obtain ⟨A, hA⟩ : ∃ A, ZiX (b.take en) p = A := ⟨_, rfl⟩
 rw [hA]
 unfold ZiX ZdA at hA
 unfold TF OKR ERR tpM at hn
 unfold TF OKR ERR tpM
 rcases hz : nmT (b.take en) p with ⟨e, t⟩ | ⟨n, t⟩
 all_goals
  rw [hz] at hA hn hnm
  simp only [Zg, Zd] at hA hn
 ·subst hA
  refine AMP.enter Tryz.func94 rfl (Yaa rfl) (fun pn => ?_)
  simp only [Tryz.f94]
  have nx := trivial
  refine' Zj
  all_goals first | exact ⟨trivial, trivial⟩ | exact ⟨rfl, trivial⟩ | exact ⟨rfl, rfl⟩ | exact ⟨trivial, rfl⟩ | (exfalso; omega) | trace_state
 obtain ⟨h2, h3, h4⟩ := hnm _ _ rfl
 have hp := ZkF h2 n h4
 unfold tpM at hp
 unfold Zhy at hA
 rw [hlen] at hA
 by_cases c : n <= en - t
 case neg =>
  rw [if_pos (by omega)] at hA
  simp only [c, not_false_eq_true, true_and, false_and] at hp
  subst hA
  refine AMP.enter Tryz.func94 rfl (Yaa rfl) (fun pn => ?_)
  simp only [Tryz.f94]
  have nx := trivial
  refine' Zj
  all_goals first | exact ⟨trivial, trivial⟩ | exact ⟨rfl, trivial⟩ | exact ⟨rfl, rfl⟩ | exact ⟨trivial, rfl⟩ | (exfalso; omega) | trace_state
 rw [if_neg (by omega), Zg] at hA
 simp only [c, true_and, not_true_eq_false, false_and] at hp
 obtain ⟨T, hT⟩ : ∃ T : Nat, t + n = T := ⟨(t + n).toNat, by have := h2.p0; omega⟩
 rw [hT] at hA hp
 have hys : (b.take en).take T = b.take T := by rw [List.take_take, Nat.min_eq_left (by have := h2.p1; omega)]
 have ho : okT b t T := ⟨h2.hb, h2.hl, by have := h2.he; omega, h2.p0, by omega⟩
 unfold inT at hA
 rw [Yap, hys] at hA
 obtain ⟨B, hB⟩ : ∃ B, Zqn (b.take T) t = B := ⟨_, rfl⟩
 rw [hB] at hA
 have hA : inR T B = A := hA
 unfold Zqn at hB
 have hr := Zcb ho
 have hrm := fun n t => Za6 ho (n := n) (t := t)
 unfold TF OKR ERR tpM at hr
 clear hnm
 rcases hz2 : nmT (b.take T) t with ⟨e, q⟩ | ⟨runs, q⟩
 all_goals
  rw [hz2] at hB hr hrm
  simp only [Zg, Zd] at hB hr
 ·subst hB
  simp only [inR] at hA
  subst hA
  refine AMP.enter Tryz.func94 rfl (Yaa rfl) (fun pn => ?_)
  simp only [Tryz.f94]
  have nx := trivial
  refine' Zj
  all_goals first | exact ⟨trivial, trivial⟩ | exact ⟨rfl, trivial⟩ | exact ⟨rfl, rfl⟩ | exact ⟨trivial, rfl⟩ | (exfalso; omega) | trace_state
 obtain ⟨h5, h6, h7⟩ := hrm _ _ rfl
 obtain ⟨R, rfl⟩ : ∃ R : Nat, runs = R := ⟨runs.toNat, by omega⟩
 have hB : Zt5 (b.take T) (Zhz (b.take T) R [] q) = B := hB
 clear hrm hz2 hz
 refine AMP.enter Tryz.func94 rfl (Yaa rfl) (fun pn => ?_)
 simp only [Tryz.f94]
 have nx := trivial
 refine' Zj
 refine AW.loop [2, 3, 4, 5] [0, 2, 3000, 34011, 4, 5000] (fun m st => ∃ (R : Nat) (q : Int) (l : List Int), st = Tc pn b en T q l R /\ okT b q T /\ l.length <= 512 /\ (R : Int) < 4294967296 /\ Zt5 (b.take T) (Zhz (b.take T) R l q) = B /\ R = m) ?_ ?_
 ·exact ⟨_, R, q, [], rfl, h5, Nat.zero_le _, h7.2, hB, rfl⟩
 clear hB h5 h6 h7 hr hn hp
 rintro m st ⟨R, q, l, rfl, hq, hl, hR, hB, rfl⟩
 rcases R with _ | R
 ·rw [Zhz] at hB
  simp only [Zt5, Zg] at hB
  have he := ZhR hq
  have hem := fun n t => Zd7 hq (c := n) (t := t)
  have hcut : List.take l.length (Zh .i64 l) = Zh .i64 l := Yad (by rw [Za]; omega)
  unfold TF OKR ERR tpM ZkG at he
  rcases hz3 : Zek (b.take T) q with ⟨e, r⟩ | ⟨cd, r⟩
  all_goals
   rw [hz3] at hB he hem
   simp only [Zg, Zd] at hB he
  case' error =>
   subst hB
   simp only [inR] at hA
   subst hA
  case' ok =>
   obtain ⟨h8, h9⟩ := hem _ _ rfl
   have hd := Zpl h8
   unfold TF OKR ERR tpM Zg7 at hd
   simp only [ZaJ] at hB hd
   by_cases c4 : r = ((b.take T).length : Int)
   case' neg =>
    rw [if_neg c4] at hB hd
    subst hB
    simp only [inR] at hA
    subst hA
   case' pos =>
    rw [if_pos c4] at hB hd
    simp only at hd
    subst hB
    simp only [inR] at hA
    subst hA
  all_goals
   have nx := aI @hcut trivial
   refine' Zj
   all_goals first | exact ⟨trivial, trivial⟩ | exact ⟨rfl, trivial⟩ | exact ⟨rfl, rfl⟩ | exact ⟨trivial, rfl⟩ | (exfalso; omega) | trace_state
 ·have hc := Zbk hq (512 - (l.length : Int))
  have hcm := fun n t => Zcc hq (most := 512 - (l.length : Int)) (n := n) (t := t)
  have e1 : IntKind.i64.wrap (512 - (l.length : Int)) = 512 - (l.length : Int) := Zb _ (by omega) (by omega)
  have e2 : IntKind.i64.wrap (((R + 1 : Nat) : Int) - 1) = (R : Int) := by rw [Zb _ (by omega) (by omega)]; omega
  have d1 : decide (((R + 1 : Nat) : Int) > 0) = true := Yae (by omega)
  rw [Zhz] at hB
  unfold TF OKR ERR tpM at hc
  rcases hz3 : Zg5 (b.take T) (512 - (l.length : Int)) q with ⟨e, r⟩ | ⟨k, r⟩
  all_goals
   rw [hz3] at hB hc hcm
   simp only [Zt5, Zg, Zd] at hB hc
  ·subst hB
   simp only [inR] at hA
   subst hA
   have nx := aI @e1 (aI @d1 trivial)
   refine' Zj
   all_goals first | exact ⟨trivial, trivial⟩ | exact ⟨rfl, trivial⟩ | exact ⟨rfl, rfl⟩ | exact ⟨trivial, rfl⟩ | (exfalso; omega) | trace_state
  obtain ⟨h8, h9, h10⟩ := hcm _ _ rfl
  obtain ⟨K, rfl⟩ : ∃ K : Nat, k = K := ⟨k.toNat, by omega⟩
  have hk := ZhQ h8
  have hkm := fun n t => ZbY h8 (n := n) (t := t)
  unfold TF OKR ERR tpM at hk
  rcases hz4 : ZdB (b.take T) r with ⟨e, s⟩ | ⟨cc, s⟩
  all_goals
   rw [hz4] at hB hk hkm
   simp only [Zg, Zd] at hB hk
  ·subst hB
   simp only [inR] at hA
   subst hA
   have nx := aI @e1 (aI @d1 trivial)
   refine' Zj
   all_goals first | exact ⟨trivial, trivial⟩ | exact ⟨rfl, trivial⟩ | exact ⟨rfl, rfl⟩ | exact ⟨trivial, rfl⟩ | (exfalso; omega) | trace_state
  obtain ⟨h11, h12, h13⟩ := hkm _ _ rfl
  rw [Yap] at hB
  have hB : Zt5 (b.take T) (Zhz (b.take T) R (l ++ List.replicate K cc) s) = B := hB
  clear hkm hcm hz3 hz4
  have nx := aI @e1 (aI @d1 trivial)
  refine' Zj
  refine AW.loop [2, 3, 4, 5, 7, 26, 27] [0, 2, 3000, 34011, 4, 5000] (fun m st => ∃ (j : Nat), st = Ti pn b en T s (l ++ List.replicate j cc) (R + 1) K j cc /\ j <= K /\ m = K - j) ?_ ?_
  ·exact ⟨_, 0, by simp only [List.replicate_zero, List.append_nil]; rfl, Nat.zero_le _, rfl⟩
  clear hc hk
  rintro m st ⟨j, rfl, hj, rfl⟩
  have hjl : (l ++ List.replicate j cc).length <= 512 := by rw [Yal, List.length_replicate]; omega
  by_cases hjk : j < K
  ·have e7 : IntKind.i64.wrap ((j : Int) + 1) = ((j + 1 : Nat) : Int) := by rw [Zb _ (by omega) (by omega)]; omega
   have d2 : decide ((j : Int) < (K : Int)) = true := Yae (by omega)
   have hj1 : l ++ List.replicate (j + 1) cc = l ++ List.replicate j cc ++ [cc] := by rw [List.replicate_succ', Ya6]
   have hl1 : (l ++ List.replicate j cc ++ [cc]).length = (l ++ List.replicate j cc).length + 1 := by rw [Yal]; rfl
   generalize l ++ List.replicate j cc = L at hjl hj1 hl1
   have hcut : List.take L.length (Zh .i64 L) = Zh .i64 L := Yad (by rw [Za]; omega)
   have nx := aI @e7 (aI @d2 (aI @hcut trivial))
   refine' Zj
   all_goals first
    | exact ⟨K - (j + 1), by omega, j + 1, by rw [hj1, Ti, hl1]; simp only [Zh, List.map_append, List.map_cons, List.map_nil]; rfl, by omega, rfl⟩
  ·have d2 : decide ((j : Int) < (K : Int)) = false := Yaf (by omega)
   obtain rfl : j = K := by omega
   have nx := aI @e2 (aI @d2 trivial)
   refine' Zj
   all_goals first
    | exact ⟨R, by omega, R, s, l ++ List.replicate j cc, rfl, h11, hjl, by omega, hB, rfl⟩
end
end Go.Proofs.YtimhmpdfioihlaaGreatDoor
