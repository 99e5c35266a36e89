/- Where sections stand in a module's bytes, in plain: beginnings, and what is read alike. -/
import Derived.Test.YtimhmpdfioihlaaGreatDoorGCB
import Derived.Test.YtimhmpdfioihlaaGreatDoorGRMP
import Derived.Test.YtimhmpdfioihlaaGreatDoorGMT2
import Derived.Test.YtimhmpdfioihlaaGreatDoorMT6wc
import Derived.Test.YtimhmpdfioihlaaGreatDoorMT6wd
import Derived.Test.YtimhmpdfioihlaaGreatDoorDP
import Derived.Test.YtimhmpdfioihlaaGreatDoorGWords
import Derived.Test.YtimhmpdfioihlaaGreatDoorGRS
import Derived.Test.YtimhmpdfioihlaaGreatDoorEIns
set_option linter.unusedSimpArgs false
set_option linter.unusedVariables false
set_option maxHeartbeats 12800000
namespace Go.Proofs.YtimhmpdfioihlaaGreatDoor
set_option maxRecDepth 20000
open Go Go.Abs
theorem ZDo : Zc Tryz.prog 135 = true := by kernel_rfl
theorem Zuv (bits : Int) : ∀ (xs : List Int) (d : Nat) (v at_ : Int), (uRd bits xs d v at_).2.2 = 0 -> at_ < (uRd bits xs d v at_).2.1 /\ (uRd bits xs d v at_).2.1 <= at_ + xs.length
 | [], _, _, _, h => by simp [uRd] at h
 | x :: t, d, v, at_, h => by
   rw [uRd] at h ⊢
   split at h
   ·simp at h
   ·rename_i c
    rw [if_neg c]
    split at h
    ·rename_i c2
     rw [if_pos c2]
     simp only [Yag]; omega
    ·rename_i c2
     rw [if_neg c2]
     have := Zuv bits t _ _ _ h
     simp only [Yag]; omega
theorem Zxo {xs : List Int} {p : Int} (h : 0 <= p /\ p <= xs.length) : ZaM xs p 32 = uRd 32 (xs.drop p.toNat) 0 0 p := by
 unfold ZaM; rw [if_neg (by omega)]
theorem ZBk {b : List Int} {p n q : Int} (hp : 0 <= p /\ p <= b.length) (h : nmT b p = .ok (n, q)) : p < q /\ q <= b.length := by
 unfold nmT at h
 by_cases e : (ZaM b p 32).2.2 ≠ 0
 ·rw [if_pos e] at h; cases h
 rw [if_neg e] at h
 have e := Classical.not_not.1 e
 cases h
 rw [Zxo hp] at e ⊢
 have := Zuv 32 _ _ _ _ e
 rw [Yaw] at this
 omega
theorem ZBl {b : List Int} (hb : bytes b) {p n q : Int} (hp : 0 <= p /\ p <= b.length) (h : nmT b p = .ok (n, q)) : 0 <= n := by
 unfold nmT at h
 split at h
 ·cases h
 ·rename_i c
  have := ZaO hb hp (Classical.not_not.1 c)
  cases h; exact this.1.1
structure Sec (b : List Int) (p : Int) (id n s t : Int) : Prop where
 lt : p < b.length
 id : b.getD p.toNat 0 = id
 nm : nmT b (p + 1) = .ok (n, s)
 tt : t = s + n
 tl : t <= b.length
theorem ZpD {b : List Int} {last : Int} {m : Mod} {p : Int} {x : Int × Mod} {t : Int} (h : Zqo b last m p = .ok (x, t)) : ∃ id n s, Sec b p id n s t /\ (if id = 0 then x = (last, m) else x.1 = id /\ id > last /\ id <= 11) /\
 Zqo b last m p = (if id = 0 then inT b (fun ys p => bnd (Zej ys p) fun _ t => .ok ((last, m), t)) s t else inT b (fun ys p => ZaJ (id > last /\ id <= 11) (fun p => bnd (ZnE ys id m p) fun m t => Zg7 ys (id, m) t) p) s t) := by
 have h0 := h
 unfold Zqo Zba at h
 by_cases c : p >= b.length
 ·rw [if_pos c, Zd] at h; cases h
 rw [if_neg c, Zg] at h
 unfold ZdA at h
 rcases hn : nmT b (p + 1) with e | ⟨n, s⟩
 ·rw [hn, Zd, Zd] at h; cases h
 rw [hn, Zg] at h
 unfold Zhy at h
 by_cases c2 : n > (b.length : Int) - s
 ·rw [if_pos c2, Zd] at h; cases h
 rw [if_neg c2, Zg] at h
 have ht : t = s + n := by
  split at h
  all_goals
   unfold inT at h
   split at h <;> cases h
   rfl
 refine ⟨b.getD p.toNat 0, n, s, ⟨by omega, rfl, hn, ht, by omega⟩, ?_, ?_⟩
 ·by_cases c3 : b.getD p.toNat 0 = 0
  ·rw [if_pos c3] at h ⊢
   unfold inT at h
   simp only at h
   rcases hy : Zej (b.take (s + n).toNat) s with e | ⟨a, q⟩
   ·rw [hy] at h; simp only [Zd] at h; cases h
   ·rw [hy] at h; simp only [Zg] at h; cases h; rfl
  ·rw [if_neg c3] at h ⊢
   unfold inT ZaJ at h
   simp only at h
   by_cases c4 : b.getD p.toNat 0 > last /\ b.getD p.toNat 0 <= 11
   ·rw [if_pos c4] at h
    rcases hy : ZnE (b.take (s + n).toNat) (b.getD p.toNat 0) m s with e | ⟨a, q⟩
    ·rw [hy] at h; simp only [Zd] at h; cases h
    ·rw [hy] at h; simp only [Zg] at h
     unfold Zg7 ZaJ at h
     by_cases c5 : q = ((b.take (s + n).toNat).length : Int)
     ·rw [if_pos c5] at h; cases h; exact ⟨rfl, c4⟩
     ·rw [if_neg c5] at h; cases h
   ·rw [if_neg c4] at h; cases h
 ·unfold Zqo Zba
  rw [if_neg c, Zg]
  unfold ZdA Zhy
  rw [hn, Zg, if_neg c2, Zg, ht]
inductive Run (b : List Int) : Int -> Mod -> Int -> List Int -> Int -> Mod -> Int -> Prop
 | nil (last : Int) (m : Mod) (p : Int) : Run b last m p [p] last m p
 | cons {last : Int} {m : Mod} {p l1 : Int} {m1 : Mod} {t : Int} {ps : List Int} {l2 : Int} {m2 : Mod} {q : Int} (h : Zqo b last m p = .ok ((l1, m1), t)) (hr : Run b l1 m1 t ps l2 m2 q) : Run b last m p (p :: ps) l2 m2 q
theorem Zuw {b : List Int} (hb : bytes b) {last : Int} {m : Mod} {p : Int} {x : Int × Mod} {t : Int} (hp : 0 <= p) (h : Zqo b last m p = .ok (x, t)) : p + 2 <= t /\ t <= b.length := by
 obtain ⟨id, n, s, hs, _, _⟩ := ZpD h
 have h1 := hs.lt
 have h2 := ZBk (by omega) hs.nm
 have h3 := ZBl hb (by omega) hs.nm
 have h4 := hs.tt
 exact ⟨by omega, hs.tl⟩
theorem ZpE {b : List Int} (hb : bytes b) : ∀ (n : Nat) {last : Int} {m : Mod} {p : Int} {m2 : Mod} {q : Int}, 0 <= p -> p <= b.length -> (b.length : Int) - p <= n -> Zgp b n last m p = .ok (m2, q) -> ∃ ps l2, Run b last m p ps l2 m2 q /\ ¬ q < b.length
 | 0, last, m, p, m2, q, hp, hp1, hn, h => by
   rw [Zgp] at h; cases h
   exact ⟨_, _, .nil _ _ _, by omega⟩
 | n + 1, last, m, p, m2, q, hp, hp1, hn, h => by
   rw [Zgp] at h
   by_cases c : p < b.length
   ·rw [if_pos c] at h
    rcases hx : Zqo b last m p with e | ⟨⟨l1, m1⟩, t⟩
    ·rw [hx, Zd] at h; cases h
    ·rw [hx, Zg] at h
     have ht := Zuw hb hp hx
     obtain ⟨ps, l2, hr, hq⟩ := ZpE hb n (by omega) ht.2 (by omega) h
     exact ⟨_, _, .cons hx hr, hq⟩
   ·rw [if_neg c] at h; cases h
    exact ⟨_, _, .nil _ _ _, by omega⟩
theorem ZzF {b : List Int} {last : Int} {m : Mod} {p l2 : Int} {m2 : Mod} {q : Int} {ps : List Int} (hr : Run b last m p ps l2 m2 q) (hb : bytes b) (hp : 0 <= p /\ p <= b.length) : p <= q /\ q <= b.length := by
 induction hr with
 | nil => exact ⟨Int.le_refl _, hp.2⟩
 | cons h hr ih =>
   have := Zuw hb hp.1 h
   have := ih ⟨by omega, this.2⟩
   omega
abbrev hd8 : List Int := [0, 97, 115, 109, 1, 0, 0, 0]
def ZFq : Mod := { ZeN with start := -1 }
theorem Zux (b : List Int) : ∀ (l : List Int) (p : Int) {u : Unit} {q : Int}, 0 <= p -> ZiY b l p = .ok (u, q) -> q = p + l.length /\ (l ≠ [] -> q <= b.length)
 | [], p, u, q, _, h => by rw [ZiY] at h; cases h; exact ⟨by simp, fun h => absurd rfl h⟩
 | c :: l, p, u, q, hp, h => by
   rw [ZiY] at h
   unfold Zba at h
   split at h
   ·cases h
   ·rename_i c0
    rw [Zg] at h
    unfold ZaJ at h
    split at h
    ·have := Zux b l _ (by omega) h
     rw [Yag]
     refine ⟨by omega, fun _ => ?_⟩
     rcases l with _ | ⟨y, l⟩
     ·simp at this; omega
     ·exact this.2 (by simp)
    ·cases h
theorem ZzG {b : List Int} (hb : bytes b) {m : Mod} {q : Int} (h : ZqO b = .ok (m, q)) : ZiY b hd8 0 = .ok ((), 8) /\ 8 <= b.length /\ ∃ ps l2, Run b 0 ZFq 8 ps l2 m b.length /\ m.codes.length = m.funcs.length := by
 unfold ZqO at h
 rcases hx : ZiY b hd8 0 with e | ⟨⟨⟩, t⟩
 ·rw [hx, Zd] at h; cases h
 obtain ⟨rfl, ht⟩ := Zux b _ _ (Int.le_refl _) hx
 have ht := ht (by simp)
 rw [hx, Zg] at h
 simp only [Yag, List.length_nil] at ht h
 rcases hy : Zgp b b.length 0 { ZeN with start := -1 } (0 + ((0 + 1 + 1 + 1 + 1 + 1 + 1 + 1 + 1 : Nat) : Int)) with e | ⟨m', t⟩
 ·rw [hy, Zd] at h; cases h
 rw [hy, Zg] at h
 unfold ZaJ at h
 split at h
 ·rename_i hl
  cases h
  obtain ⟨ps, l2, hr, hq⟩ := ZpE hb b.length (by omega) (by omega) (by omega) hy
  have := ZzF hr hb (by omega)
  obtain rfl : q = b.length := by omega
  exact ⟨rfl, by omega, ps, l2, hr, hl⟩
 ·cases h
theorem Zuy {b : List Int} (hl : b.length <= 16384) : ZkU b = match ZqO b with
 | .ok (m, _) => (m, 0)
 | .error (e, _) => (ZeN, e) := if_neg (by omega)
structure Emp (last : Int) (m : Mod) : Prop where
 t : last < 1 -> m.types = []
 f : last < 3 -> m.funcs = []
 c : last < 10 -> m.codes = []
structure SmC (c : List Ins) : Prop where
 n : c.length <= 1000000000000
 l : ∀ i ∈ c, i.l.length <= 1000000000000
theorem ZzH {b : List Int} (hb : bytes b) (r : Rd) : 0 <= (Zab b r).1 /\ (Zab b r).1 < 4294967296 := by
 unfold Zab
 split
 ·simp
 ·split
  ·simp
  ·rename_i c
   have c := Classical.not_not.1 c
   by_cases h : 0 <= r.pos /\ r.pos <= b.length
   ·exact (ZaO hb h c).1
   ·unfold ZaM at c ⊢
    rw [if_pos (by omega)] at c
    simp at c
theorem ZpF (b : List Int) : ∀ (n : Nat) (r : Rd) (l : List Int), (ZgD b n r l).1.length <= l.length + n
 | 0, r, l => by rw [ZgD]; exact Nat.le_refl _
 | n + 1, r, l => by
   rw [ZgD]
   split
   ·have := ZpF b n (Zab b r).2 (l ++ [(Zab b r).1])
    rw [Yal] at this
    simp only [Yag, List.length_nil] at this
    omega
   ·simp only; omega
theorem Zuz {b : List Int} (hb : bytes b) (form : Int) (r : Rd) (i : Ins) : (Zn b form r i).1.l.length <= i.l.length + 4294967296 := by
 unfold Zn
 repeat' split
 all_goals first
  | (show i.l.length <= _; omega)
  | skip
 have h1 := ZpF b (Zab b r).1.toNat (Zab b r).2 i.l
 have h2 := ZzH hb r
 simp only
 omega
theorem Zxp {b : List Int} (hb : bytes b) (r : Rd) : (ZaE b r).1.l.length <= 4294967296 := by
 unfold ZaE Zdp
 simp only
 split
 ·exact Nat.le_trans (Zuz hb _ _ _) (by simp)
 ·simp
theorem ZkN {b : List Int} (hb : bytes b) : ∀ (n : Nat) (r : Rd) (l : List Ins), (∀ i ∈ l, i.l.length <= 1000000000000) -> (ZcB b n r l).1.length <= l.length + n /\ ∀ i ∈ (ZcB b n r l).1, i.l.length <= 1000000000000
 | 0, r, l, hl => by rw [ZcB]; exact ⟨by simp, fun i hi => by cases hi⟩
 | n + 1, r, l, hl => by
   have h1 : ∀ i ∈ l ++ [(ZaE b r).1], i.l.length <= 1000000000000 := by
    intro i hi
    rcases List.mem_append.1 hi with hi | hi
    ·exact hl i hi
    ·simp at hi; subst hi; exact Nat.le_trans (Zxp hb r) (by decide)
   have e : (l ++ [(ZaE b r).1]).length = l.length + 1 := by simp
   rw [ZcB]
   split
   ·exact ⟨by simp, fun i hi => by cases hi⟩
   ·split
    ·split
     ·exact ⟨by simp only; omega, h1⟩
     ·have := ZkN hb n (Zdz (ZaE b r).2).2 _ h1
      exact ⟨by omega, this.2⟩
    ·have := ZkN hb n (ZaE b r).2 _ h1
     exact ⟨by omega, this.2⟩
theorem Zxq {b : List Int} (hb : bytes b) (hl : b.length <= 100000000) (p : Int) : SmC (Z6 b p).1 := by
 unfold Z6
 split
 ·exact ⟨by simp, fun i hi => by cases hi⟩
 ·have := ZkN hb (b.length + 1) ⟨p, [], [], 0⟩ [] (fun i hi => by cases hi)
  exact ⟨by have := this.1; simp only [List.length_nil] at this; omega, this.2⟩
structure SmM (m : Mod) : Prop where
 ty : m.types.length <= 1000000000000
 tys : ∀ s ∈ m.types, s.i.length <= 1000000000000 /\ s.o.length <= 1000000000000
 im : m.imports.length <= 1000000000000
 fu : m.funcs.length <= 1000000000000
 ta : m.tables.length <= 1000000000000
 me : m.mems.length <= 1000000000000
 gl : m.globals.length <= 1000000000000
 gls : ∀ g ∈ m.globals, SmC g.c
 ex : m.exports.length <= 1000000000000
 el : m.elems.length <= 1000000000000
 els : ∀ e ∈ m.elems, SmC e.c /\ e.f.length <= 1000000000000
 co : m.codes.length <= 1000000000000
 cos : ∀ c ∈ m.codes, c.l.length <= 1000000000000 /\ SmC c.c
 da : m.datas.length <= 1000000000000
 das : ∀ d ∈ m.datas, SmC d.c /\ bytes d.b
theorem ZeY {α β : Type} {x : Res α} {f : α -> Int -> Res β} {b : β} {t : Int} (h : bnd x f = .ok (b, t)) : ∃ a q, x = .ok (a, q) /\ f a q = .ok (b, t) := by
 rcases x with e | ⟨a, q⟩
 ·rw [Zd] at h; cases h
 ·exact ⟨a, q, rfl, h⟩
theorem ZnN {α : Type} {c : Prop} [Decidable c] {x : Int -> Res α} {t : Int} {z : α × Int} (h : ZaJ c x t = .ok z) : c /\ x t = .ok z := by
 unfold ZaJ at h
 split at h
 ·rename_i hc; exact ⟨hc, h⟩
 ·cases h
theorem ZEr {xs : List Int} {most p n t : Int} (h : Zg5 xs most p = .ok (n, t)) : n <= most := by
 unfold Zg5 at h
 obtain ⟨a, q, h1, h2⟩ := ZeY h
 split at h2
 ·cases h2
 ·cases h2; omega
theorem ZpG {α : Type} {one : Int -> Res α} {P : α -> Prop} (h : ∀ p a t, one p = .ok (a, t) -> P a) : ∀ (n : Nat) (p : Int) (l : List α) (t : Int), ZcJ one n p = .ok (l, t) -> l.length = n /\ ∀ a ∈ l, P a
 | 0, p, l, t, he => by rw [ZcJ] at he; cases he; exact ⟨rfl, fun a ha => by cases ha⟩
 | n + 1, p, l, t, he => by
   rw [ZcJ] at he
   obtain ⟨a, q, h1, h2⟩ := ZeY he
   obtain ⟨l', q', h3, h4⟩ := ZeY h2
   cases h4
   obtain ⟨h5, h6⟩ := ZpG h n q l' _ h3
   refine ⟨by simp [h5], fun x hx => ?_⟩
   rcases Yav.1 hx with rfl | hx
   ·exact h _ _ _ h1
   ·exact h6 x hx
theorem ZaT {α : Type} {xs : List Int} {most : Int} {one : Int -> Res α} {P : α -> Prop} (h : ∀ p a t, one p = .ok (a, t) -> P a) {p : Int} {l : List α} {t : Int} (he : Zv xs most one p = .ok (l, t)) (hm : most <= 1000000000000) : l.length <= 1000000000000 /\ ∀ a ∈ l, P a := by
 unfold Zv at he
 obtain ⟨n, q, h1, h2⟩ := ZeY he
 have := ZEr h1
 obtain ⟨h3, h4⟩ := ZpG h _ _ _ _ h2
 exact ⟨by omega, h4⟩
theorem ZhW {xs : List Int} (hb : bytes xs) (hl : xs.length <= 100000000) {p : Int} {c : List Ins} {t : Int} (h : Zek xs p = .ok (c, t)) : SmC c := by
 unfold Zek at h
 split at h
 ·cases h
 ·cases h; exact Zxq hb hl p
theorem ZpH {ys : List Int} : ∀ (n : Nat) (l : List Int) (p : Int) (l' : List Int) (t : Int), l.length <= 512 -> Zhz ys n l p = .ok (l', t) -> l'.length <= 512
 | 0, l, p, l', t, hl, h => by rw [Zhz] at h; cases h; exact hl
 | n + 1, l, p, l', t, hl, h => by
   rw [Zhz] at h
   obtain ⟨k, q, h1, h2⟩ := ZeY h
   obtain ⟨c, q', h3, h4⟩ := ZeY h2
   have := ZEr h1
   exact ZpH n _ _ _ _ (by rw [Yal, List.length_replicate]; omega) h4
theorem ZzI {ys : List Int} (hb : bytes ys) (hl : ys.length <= 100000000) {id : Int} {m m1 : Mod} {p t : Int} (hm : SmM m) (h : ZnE ys id m p = .ok (m1, t)) : SmM m1 := by
 unfold ZnE at h
 by_cases c1 : id = 1
 ·rw [if_pos c1] at h; obtain ⟨l, q, h1, h2⟩ := ZeY h; cases h2
  obtain ⟨k1, k2⟩ := ZaT (P := fun s => s.i.length <= 1000000000000 /\ s.o.length <= 1000000000000) (fun p a t h => by
   unfold ZtH at h
   obtain ⟨_, _, _, h⟩ := ZeY h
   obtain ⟨_, h⟩ := ZnN h
   obtain ⟨i, _, h3, h⟩ := ZeY h
   obtain ⟨o, _, h4, h⟩ := ZeY h
   cases h
   exact ⟨(ZaT (P := fun _ => True) (fun _ _ _ _ => trivial) h3 (by decide)).1, (ZaT (P := fun _ => True) (fun _ _ _ _ => trivial) h4 (by decide)).1⟩) h1 (by decide)
  exact { hm with ty := k1, tys := k2 }
 rw [if_neg c1] at h
 by_cases c2 : id = 2
 ·rw [if_pos c2] at h; obtain ⟨l, q, h1, h2⟩ := ZeY h; cases h2
  exact { hm with im := (ZaT (P := fun _ => True) (fun _ _ _ _ => trivial) h1 (by decide)).1 }
 rw [if_neg c2] at h
 by_cases c3 : id = 3
 ·rw [if_pos c3] at h; obtain ⟨l, q, h1, h2⟩ := ZeY h; cases h2
  exact { hm with fu := (ZaT (P := fun _ => True) (fun _ _ _ _ => trivial) h1 (by decide)).1 }
 rw [if_neg c3] at h
 by_cases c4 : id = 4
 ·rw [if_pos c4] at h; obtain ⟨l, q, h1, h2⟩ := ZeY h; cases h2
  exact { hm with ta := (ZaT (P := fun _ => True) (fun _ _ _ _ => trivial) h1 (by decide)).1 }
 rw [if_neg c4] at h
 by_cases c5 : id = 5
 ·rw [if_pos c5] at h; obtain ⟨l, q, h1, h2⟩ := ZeY h; cases h2
  exact { hm with me := (ZaT (P := fun _ => True) (fun _ _ _ _ => trivial) h1 (by decide)).1 }
 rw [if_neg c5] at h
 by_cases c6 : id = 6
 ·rw [if_pos c6] at h; obtain ⟨l, q, h1, h2⟩ := ZeY h; cases h2
  obtain ⟨k1, k2⟩ := ZaT (P := fun g => SmC g.c) (fun p a t h => by
   unfold ZiU at h
   obtain ⟨_, _, _, h⟩ := ZeY h
   obtain ⟨_, _, _, h⟩ := ZeY h
   obtain ⟨_, h⟩ := ZnN h
   obtain ⟨e, _, h3, h⟩ := ZeY h
   cases h
   exact ZhW hb hl h3) h1 (by decide)
  exact { hm with gl := k1, gls := k2 }
 rw [if_neg c6] at h
 by_cases c7 : id = 7
 ·rw [if_pos c7] at h; obtain ⟨l, q, h1, h2⟩ := ZeY h; cases h2
  exact { hm with ex := (ZaT (P := fun _ => True) (fun _ _ _ _ => trivial) h1 (by decide)).1 }
 rw [if_neg c7] at h
 by_cases c8 : id = 8
 ·rw [if_pos c8] at h; obtain ⟨l, q, h1, h2⟩ := ZeY h; cases h2
  exact { hm with }
 rw [if_neg c8] at h
 by_cases c9 : id = 9
 ·rw [if_pos c9] at h; obtain ⟨l, q, h1, h2⟩ := ZeY h; cases h2
  obtain ⟨k1, k2⟩ := ZaT (P := fun e => SmC e.c /\ e.f.length <= 1000000000000) (fun p a t h => by
   unfold ZiV at h
   obtain ⟨_, _, _, h⟩ := ZeY h
   obtain ⟨_, h⟩ := ZnN h
   obtain ⟨e, _, h3, h⟩ := ZeY h
   obtain ⟨f, _, h4, h⟩ := ZeY h
   cases h
   exact ⟨ZhW hb hl h3, (ZaT (P := fun _ => True) (fun _ _ _ _ => trivial) h4 (by decide)).1⟩) h1 (by decide)
  exact { hm with el := k1, els := k2 }
 rw [if_neg c9] at h
 by_cases c10 : id = 10
 ·rw [if_pos c10] at h; obtain ⟨l, q, h1, h2⟩ := ZeY h; cases h2
  obtain ⟨k1, k2⟩ := ZaT (P := fun c => c.l.length <= 1000000000000 /\ SmC c.c) (fun p a t h => by
   unfold ZiX at h
   obtain ⟨s, t1, _, h⟩ := ZeY h
   unfold inT at h
   rcases hy : Zqn (ys.take t1.toNat) s with e | ⟨a', q⟩
   ·rw [hy] at h; cases h
   ·rw [hy] at h
    cases h
    unfold Zqn at hy
    obtain ⟨_, _, _, hy⟩ := ZeY hy
    obtain ⟨l2, _, h3, hy⟩ := ZeY hy
    obtain ⟨c, _, h4, hy⟩ := ZeY hy
    obtain ⟨_, hy⟩ := ZnN hy
    cases hy
    exact ⟨Nat.le_trans (ZpH _ _ _ _ _ (by simp) h3) (by decide), ZhW (Zbq hb _) (by rw [Yar]; omega) h4⟩) h1 (by decide)
  exact { hm with co := k1, cos := k2 }
 rw [if_neg c10] at h
 by_cases c11 : id = 11
 ·rw [if_pos c11] at h; obtain ⟨l, q, h1, h2⟩ := ZeY h; cases h2
  obtain ⟨k1, k2⟩ := ZaT (P := fun d => SmC d.c /\ bytes d.b) (fun p a t h => by
   unfold ZiW at h
   obtain ⟨_, _, _, h⟩ := ZeY h
   obtain ⟨_, h⟩ := ZnN h
   obtain ⟨e, _, h3, h⟩ := ZeY h
   obtain ⟨f, _, h4, h⟩ := ZeY h
   cases h
   unfold Zdc at h4
   obtain ⟨_, _, _, h4⟩ := ZeY h4
   cases h4
   exact ⟨ZhW hb hl h3, fun x hx => hb x (List.mem_of_mem_drop (List.mem_of_mem_take hx))⟩) h1 (by decide)
  exact { hm with da := k1, das := k2 }
 rw [if_neg c11] at h
 cases h; exact hm
theorem sm0 (s : Int) : SmM { ZeN with start := s } := by
 constructor <;> first
  | (show ([] : List _).length <= _; simp)
  | (intro x hx; cases hx)
theorem ZzJ {b : List Int} (hb : bytes b) (hl : b.length <= 100000000) {last : Int} {m : Mod} {p l1 : Int} {m1 : Mod} {t : Int} (hm : SmM m) (h : Zqo b last m p = .ok ((l1, m1), t)) : SmM m1 := by
 obtain ⟨id, n, s, hs, hx, he⟩ := ZpD h
 by_cases c : id = 0
 ·rw [if_pos c] at hx; cases hx; exact hm
 ·rw [if_neg c] at hx he
  rw [he] at h
  unfold inT at h
  simp only at h
  rcases hy : ZaJ (id > last /\ id <= 11) (fun p => bnd (ZnE (b.take t.toNat) id m p) fun m t_1 => Zg7 (b.take t.toNat) (id, m) t_1) s with e | ⟨a, q⟩
  ·rw [hy] at h; cases h
  ·rw [hy] at h
   cases h
   obtain ⟨_, hy⟩ := ZnN hy
   obtain ⟨m2, _, h3, hy⟩ := ZeY hy
   unfold Zg7 at hy
   obtain ⟨_, hy⟩ := ZnN hy
   cases hy
   exact ZzI (Zbq hb _) (by rw [Yar]; omega) hm h3
theorem ZBm {b : List Int} (hb : bytes b) (hl : b.length <= 100000000) {last : Int} {m : Mod} {p l2 : Int} {m2 : Mod} {q : Int} {ps : List Int} (hr : Run b last m p ps l2 m2 q) : SmM m -> SmM m2 := by
 induction hr with
 | nil => exact id
 | cons h hr ih => exact fun hm => ih (ZzJ hb hl hm h)
theorem ZBn {b : List Int} (hb : bytes b) : SmM (ZkU b).1 := by
 by_cases hl : b.length <= 16384
 ·rw [Zuy hl]
  rcases hx : ZqO b with ⟨e, t⟩ | ⟨m, t⟩
  ·exact sm0 0
  ·obtain ⟨_, _, ps, l2, hr, _⟩ := ZzG hb hx
   exact ZBm hb (by omega) hr (sm0 _)
 ·unfold ZkU
  rw [if_pos (by omega)]
  exact sm0 0
theorem ZwM (l : List Int) (hb : bytes l) (hl : l.length <= 1000000000) : AC Tryz.prog 77 [.view l.length 1 (Zh .u8 l)] (fun r m => r = .bool (ZaU l) /\ m = []) := ZdW.2 ⟨vwc⟩ ⟨vwd⟩ l hb hl
end Go.Proofs.YtimhmpdfioihlaaGreatDoor
namespace Go.Proofs.YtimhmpdfioihlaaGreatDoor
set_option maxRecDepth 20000
open Go Go.Abs Nat
attribute [local irreducible] AW AWL AC FW CW CWr IntKind.wrap
section
theorem ZtS {l : List Int} (h : bytes l) : Zh .u8 l = ((Zh .u8 l).map Abs.byteOf).map Zhs := by
 induction l with
 | nil => rfl
 | cons x l ih =>
   have hx := h x (List.mem_cons_self ..)
   have := ih (fun y hy => h y (Yaq _ hy))
   simp only [Zh, List.map_cons] at this ⊢
   rw [<- this]
   congr 1
   unfold Zgi at hx
   have e : (UInt8.ofNat x.toNat).toNat = x.toNat := by
    rw [UInt8.toNat_ofNat']; exact Nat.mod_eq_of_lt (by omega)
   simp only [Abs.byteOf, Zhs, e, Int.toNat_of_nonneg hx.1]
theorem Zpo {b : List Int} {p : Int} {en : Nat} (h : okT b p en) {s t : Int} (he : ZdA (b.take en) p = .ok (s, t)) : okT b t en /\ p < s /\ s <= t := by
 unfold ZdA at he
 rcases hz : nmT (b.take en) p with ⟨e, q⟩ | ⟨n, q⟩
 ·rw [hz] at he; simp only [bnd] at he; cases he
 ·rw [hz] at he
  obtain ⟨h2, h3, h4⟩ := Za6 h hz
  simp only [bnd, Zhy, h.len] at he
  split at he
  ·cases he
  ·simp only [Except.ok.injEq, Yai] at he
   obtain ⟨rfl, rfl⟩ := he
   exact ⟨h2.mv (by omega) (by omega), h3, by omega⟩
theorem Zgq {b : List Int} {p : Int} {en : Nat} (h : okT b p en) {l : List Int} {t : Int} (he : Zdc (b.take en) p = .ok (l, t)) : okT b t en /\ p < t /\ bytes l /\ l.length <= b.length := by
 unfold Zdc at he
 rcases hz : ZdA (b.take en) p with ⟨e, q⟩ | ⟨n, q⟩
 ·rw [hz] at he; simp only [bnd] at he; cases he
 ·rw [hz] at he
  obtain ⟨h2, h3, h4⟩ := Zpo h hz
  simp only [bnd, Except.ok.injEq, Yai] at he
  obtain ⟨rfl, rfl⟩ := he
  exact ⟨h2, by omega, fun x hx => h.byt x (List.mem_of_mem_drop (List.mem_of_mem_take hx)), by rw [Yar, Yaw, h.len]; have := h.he; omega⟩
open MB
theorem ZDs.cl {p : Prop} (h : p := by
 first
  | refine AWL.cMP (f := 74) [] Zyc rfl rfl rfl rfl rfl rfl rfl (hfail) ?_ ?_
  | refine AWL.cMP (f := 76) [(0, 0)] ZD6 rfl rfl rfl rfl rfl rfl rfl (hbytes) ?_ ?_
  | refine AWL.frzG rfl rfl rfl ?_
  | refine AWL.cC (f := 77) ZEK rfl rfl rfl rfl rfl rfl (hval) ?_
 all_goals (apply_rules (newGoals := .nonDependentOnly) only [dep]; exact ())) : p := h
open ZDs ZcA ZiP in
theorem ZhS {b : List Int} {p : Int} {en : Nat} (h : okT b p en) : TF 51 [] b en p (Zej (b.take en) p) .str := by
 have hbytes := Zmh h
 have hfail := ZcX 10
 have hbm := fun l t => Zgq h (l := l) (t := t)
 obtain ⟨A, hA⟩ : ∃ A, Zej (b.take en) p = A := ⟨_, rfl⟩
 rw [hA]
 unfold Zej at hA
 unfold TF OKR ERR tpM at hbytes
 unfold TF OKR ERR tpM
 rcases hz : Zdc (b.take en) p with ⟨e, t⟩ | ⟨l, t⟩
 all_goals
  rw [hz] at hA hbytes hbm
  simp only [bnd] at hA hbytes
 ·subst hA
  have hval : True := trivial
  refine AMP.enter Tryz.func51 rfl (Yaa rfl) (fun pn => ?_)
  simp only [Tryz.f51]
  have nx := trivial
  refine' ZbH
  all_goals first | exact ⟨trivial, trivial⟩ | exact ⟨rfl, trivial⟩ | exact ⟨rfl, rfl⟩ | exact ⟨trivial, rfl⟩ | (exfalso; omega) | trace_state
 ·obtain ⟨_, _, hby, hll⟩ := hbm _ _ rfl
  have hval := ZwM l hby (by have := h.hl; omega)
  rcases hv : ZaU l with _ | _
  ·rw [hv] at hval
   rw [if_neg (by rw [hv]; decide)] at hA
   subst hA
   refine AMP.enter Tryz.func51 rfl (Yaa rfl) (fun pn => ?_)
   simp only [Tryz.f51]
   have nx := trivial
   refine' ZbH
   all_goals first | exact ⟨trivial, trivial⟩ | exact ⟨rfl, trivial⟩ | exact ⟨rfl, rfl⟩ | exact ⟨trivial, rfl⟩ | (exfalso; omega) | trace_state
  ·rw [hv] at hval
   rw [if_pos hv] at hA
   subst hA
   unfold toS
   refine AMP.enter Tryz.func51 rfl (Yaa rfl) (fun pn => ?_)
   simp only [Tryz.f51]
   have nx := trivial
   refine' ZbH
   all_goals first | exact ⟨trivial, trivial⟩ | exact ⟨rfl, trivial⟩ | exact ⟨rfl, rfl⟩ | exact ⟨trivial, rfl⟩ | (exfalso; omega) | trace_state
end
section
theorem Zqm (h : 50 < Tryz.prog.types.size) : (Tryz.prog.types[50]'h).bytes = 64 := by kernel_rfl
def T8r (b : List Int) (r : Rd) (l : List Ins) : St := { n := 49, slots := [(7, .ptr 21 0), (8, .ref 8 0 l.length 6)], mem := [(21, ⟨false, [.view b.length 1 (Zh .u8 b), .int .i64 r.pos, .ref 22002 0 r.op.length 1, .int .i64 r.err]⟩), (22002, ⟨true, Zh .i64 (r.op ++ r.jk)⟩), (8, ⟨true, Zah l⟩)] }
theorem Zmd {b : List Int} {p : Int} (h : p < 0 \/ p > b.length) : Z6 b p = ([], 0, 1) := if_pos h
theorem ZA0.NM : type_of% @MB.NM /\ type_of% @T8r.eq_1 /\ type_of% @Zqm :=
 ⟨MB.NM, @T8r.eq_1, @Zqm⟩
open ZA0
theorem ZtF.cl {p : Prop} (h : p := by
 first
  | refine AWL.cM (f := 143) [(0, 21), (1002, 22002)] ZCw rfl rfl rfl rfl rfl rfl rfl (hin) ?_
  | refine AWL.cM (f := 144) [(0, 21), (1002, 22002)] ZCx rfl rfl rfl rfl rfl rfl rfl (hcl) ?_
 all_goals (apply_rules (newGoals := .nonDependentOnly) only [dep]; exact ())) : p := h
theorem ZtF.sd {p : Prop} (h : p := by first | exact Zvs) : p := h
open ZtF Zs1 in
theorem ZtG (b : List Int) (hb : bytes b) (hlen : b.length <= 100000000) (p : Int) :
 AC Tryz.prog 135 [.view b.length 1 (Zh .u8 b), .int .i64 p] (fun v m => ((Z6 b p).1 = [] /\ v = .tup [.nils, .int .i64 (Z6 b p).2.1, .int .i64 (Z6 b p).2.2] /\ m = []) \/ ∃ k, v = .tup [.ref k 0 (Z6 b p).1.length 6, .int .i64 (Z6 b p).2.1, .int .i64 (Z6 b p).2.2] /\ m = [(k, Zah (Z6 b p).1)]) := by
 have hin : True := trivial
 have hcl : True := trivial
 obtain ⟨A, hA⟩ : ∃ A, Z6 b p = A := ⟨_, rfl⟩
 rw [hA]
 by_cases hp : p < 0 \/ p > b.length
 ·rw [Zmd hp] at hA
  subst hA
  refine AC.enter Tryz.func135 rfl (Yaa rfl) ?_
  simp only [Tryz.f135]
  have nx := trivial
  refine' Ze9
  all_goals first | exact ⟨trivial, trivial⟩ | exact ⟨rfl, trivial⟩ | exact ⟨rfl, rfl⟩ | exact ⟨trivial, rfl⟩ | exact .inr ⟨4, rfl, rfl⟩ | (exfalso; omega) | trace_state
 ·unfold Z6 at hA
  rw [if_neg hp] at hA
  refine AC.enter Tryz.func135 rfl (Yaa rfl) ?_
  simp only [Tryz.f135]
  have hlc := Zgo
  have nx := trivial
  refine' Ze9
  refine AW.loop [7, 8] [21, 22002, 8] (fun m st => ∃ (n : Nat) (r : Rd) (l : List Ins), st = T8r b r l /\ Zb6 b r /\ r.err = 0 /\ r.op.length <= 128 /\ (l.length : Int) <= r.pos /\ (b.length : Int) + 1 <= n + r.pos /\ ZcB b n r l = A /\ n = m) ?_ ?_
  ·exact ⟨_, b.length + 1, ⟨p, [], [], 0⟩, [], rfl, ⟨by simp only; omega, by simp only; omega⟩, rfl, Nat.zero_le _, by simp only [List.length_nil]; omega, by simp only; omega, hA, rfl⟩
  rintro m st ⟨n, r, l, rfl, hr, he, hol, hll, hn, hL, rfl⟩
  obtain ⟨n', rfl⟩ : ∃ n', n = n' + 1 := ⟨n - 1, by have := hr.p1; omega⟩
  have hin := Zqi b hb (by omega) r hr (by omega)
  have had := ZjG hb hr
  have hlen2 := Zql (b := b) hol
  rw [ZcB] at hL
  generalize ZaE b r = z at hin had hlen2 hL
  obtain ⟨i, r2⟩ := z
  simp only at had hlen2 hL
  have hcl := Zqe b r2
  have hp1 := hr.p1
  have hp2 := had.1.ok.p1
  unfold rdM ZDh at hin
  by_cases he2 : r2.err ≠ 0
  ·rw [if_pos he2] at hL
   subst hL
   have nx := trivial
   refine' Ze9
   all_goals first | exact ⟨trivial, trivial⟩ | exact ⟨rfl, trivial⟩ | exact ⟨rfl, rfl⟩ | exact ⟨trivial, rfl⟩ | exact .inl ⟨trivial, trivial, trivial⟩ | (exfalso; omega) | trace_state
  ·rw [if_neg he2] at hL
   obtain ⟨hadv, hpos⟩ := had
   have he3 : r2.err = 0 := Classical.not_not.1 he2
   have hpos := hpos he3
   have hol2 := hlen2 he3
   have hcl := hcl (by omega)
   have hla : (l ++ [i]).length = l.length + 1 := by simp
   have hld : Zfy i = [.int .i64 i.op, .int .i64 i.a, .int .i64 i.b, .int .u64 i.lo, .int .u64 i.hi, .view i.l.length 1 (Zh .i64 i.l)] := rfl
   have hsn : Zah l ++ [.int .i64 i.op, .int .i64 i.a, .int .i64 i.b, .int .u64 i.lo, .int .u64 i.hi, .view i.l.length 1 (Zh .i64 i.l)] = Zah (l ++ [i]) := ZjH l i
   have hcut : List.take (l.length * 6) (Zah l) = Zah l := Yad (by rw [hlc]; omega)
   unfold rdM at hcl
   by_cases h11 : i.op = 11
   ·rw [if_pos h11] at hL
    unfold Zdz at hL hcl
    by_cases h0 : r2.op.length = 0
    ·rw [if_pos h0] at hL hcl
     simp only [↓reduceIte] at hL
     subst hL
     have nx := aI @Yau.{0} (aI @hsn (aI @hcut trivial))
     refine' Ze9
     all_goals first | exact ⟨trivial, trivial⟩ | exact ⟨rfl, trivial⟩ | exact ⟨rfl, rfl⟩ | exact ⟨trivial, rfl⟩ | exact .inr ⟨8, by rw [hla], rfl⟩ | (exfalso; omega) | trace_state
    ·rw [if_neg h0] at hL hcl
     simp only at hL
     rw [if_neg (by decide)] at hL
     have nx := aI @Yau.{0} (aI @hsn (aI @hcut trivial))
     refine' Ze9
     all_goals first
      | exact ⟨n', by omega, n', { r2 with op := r2.op.take (r2.op.length - 1), jk := r2.op.drop (r2.op.length - 1) ++ r2.jk }, l ++ [i], by rw [T8r, hla]; rfl, ⟨hadv.ok.p0, hadv.ok.p1⟩, he3, by simp only [Yar]; omega, by rw [hla]; simp only; omega, by simp only; omega, hL, rfl⟩
   ·rw [if_neg h11] at hL
    have nx := aI @Yau.{0} (aI @hsn (aI @hcut trivial))
    refine' Ze9
    all_goals first
     | exact ⟨n', by omega, n', r2, l ++ [i], by rw [T8r, hla]; rfl, hadv.ok, he3, hol2, by rw [hla]; omega, by omega, hL, rfl⟩
theorem ZwF (b : List Int) (hb : bytes b) (hlen : b.length <= 100000000) (p : Int) :
 AC Tryz.prog 135 [.view b.length 1 (Zh .u8 b), .int .i64 p] (fun v m => v = .tup [.view (Z6 b p).1.length 6 (Zah (Z6 b p).1), .int .i64 (Z6 b p).2.1, .int .i64 (Z6 b p).2.2] /\ m = []) := by
 refine (ZtG b hb hlen p).out fun v m h => ?_
 rcases h with ⟨h0, rfl, rfl⟩ | ⟨k, rfl, rfl⟩
 ·refine ⟨_, _, ⟨rfl, rfl⟩, fun S w w' u ho => ho.wk (Wk.tup ?_)⟩
  rw [h0]
  exact .cons (Wk.nils 6) (WkL.refl _)
 ·refine ⟨_, _, ⟨rfl, rfl⟩, fun S w w' u ho => ?_⟩
  have h2 := ho.frz
  have e : ZpV k (Zah (Z6 b p).1) (.tup [.ref k 0 (Z6 b p).1.length 6, .int .i64 (Z6 b p).2.1, .int .i64 (Z6 b p).2.2]) = .tup [.view (Z6 b p).1.length 6 (Zah (Z6 b p).1), .int .i64 (Z6 b p).2.1, .int .i64 (Z6 b p).2.2] := by
   simp only [ZpV, V.frz, V.wipe, List.map_cons, List.map_nil, Ya4, cond_true, List.drop_zero, Yad (Nat.le_of_eq (Zgo (Z6 b p).1))]
  rw [e] at h2; exact h2
end
section
def ZA3 (x : Int × Int) : V := .agg [.int .i64 x.1, .int .i64 x.2]
def ZkG (c : List Ins) : V := .view c.length 6 (Zah c)
theorem Zcc {b : List Int} {p : Int} {en : Nat} {most : Int} (h : okT b p en) {n t : Int} (he : Zg5 (b.take en) most p = .ok (n, t)) : okT b t en /\ p < t /\ 0 <= n /\ n <= most := by
 unfold Zg5 at he
 rcases hz : nmT (b.take en) p with ⟨e, q⟩ | ⟨m, q⟩
 ·rw [hz] at he; simp only [bnd] at he; cases he
 ·rw [hz] at he
  obtain ⟨h2, h3, h4⟩ := Za6 h hz
  simp only [bnd] at he
  split at he
  ·cases he
  ·simp only [Except.ok.injEq, Yai] at he
   obtain ⟨rfl, rfl⟩ := he
   exact ⟨h2, h3, h4.1, by omega⟩
theorem Zff (r : Rd) : (Zdz r).2.pos = r.pos := by unfold Zdz; split <;> rfl
theorem ZeP {b : List Int} (hb : bytes b) : ∀ (n : Nat) (r : Rd) (l code : List Ins) (to : Int), Zb6 b r -> ZcB b n r l = (code, to, 0) -> r.pos + 1 <= to /\ to <= b.length
 | 0, r, l, code, to, _, h => by rw [ZcB] at h; simp at h
 | n + 1, r, l, code, to, hr, h => by
   obtain ⟨h1, h2⟩ := ZjG hb hr
   rw [ZcB] at h
   split at h
   ·rename_i c
    simp only [Yai] at h
    exact absurd h.2.2 c
   ·rename_i c
    have h2 := h2 (Classical.not_not.1 c)
    have ho : Zb6 b (Zdz (ZaE b r).2).2 := ⟨by rw [Zff]; exact h1.ok.p0, by rw [Zff]; exact h1.ok.p1⟩
    split at h
    ·split at h
     ·simp only [Yai] at h
      obtain ⟨_, rfl, _⟩ := h
      exact ⟨by rw [Zff]; exact h2, ho.p1⟩
     ·have := ZeP hb n _ _ code to ho h
      rw [Zff] at this
      omega
    ·have := ZeP hb n _ _ code to h1.ok h
     omega
theorem Zd7 {b : List Int} {p : Int} {en : Nat} (h : okT b p en) {c : List Ins} {t : Int} (he : Zek (b.take en) p = .ok (c, t)) : okT b t en /\ p < t := by
 unfold Zek at he
 split at he
 ·cases he
 ·rename_i c0
  simp only [Except.ok.injEq, Yai] at he
  obtain ⟨rfl, rfl⟩ := he
  have h1 : ¬ (p < 0 \/ p > ((b.take en).length : Int)) := by rw [h.len]; have := h.p0; have := h.p1; omega
  have c0 := Classical.not_not.1 c0
  have hr : Z6 (b.take en) p = ZcB (b.take en) ((b.take en).length + 1) ⟨p, [], [], 0⟩ [] := if_neg h1
  rw [hr] at c0 ⊢
  have := ZeP h.byt _ _ _ _ _ ⟨h.p0, by rw [h.len]; exact h.p1⟩ (Prod.ext rfl (Prod.ext rfl c0))
  generalize ZcB (b.take en) ((b.take en).length + 1) ⟨p, [], [], 0⟩ [] = z at this ⊢
  obtain ⟨z1, z2, z3⟩ := z
  rw [h.len] at this
  simp only at this ⊢
  exact ⟨h.mv (by omega) this.2, by omega⟩
open MB
theorem ZDp.cl {p : Prop} (h : p := by
 first
  | refine AWL.cMP (f := 74) [] Zyc rfl rfl rfl rfl rfl rfl rfl (hfail) ?_ ?_
  | refine AWL.cMP (f := 50) [(0, 0)] Zp5 rfl rfl rfl rfl rfl rfl rfl (hnum) ?_ ?_
  | refine AWL.cMP (f := 115) [(0, 0)] Zvd rfl rfl rfl rfl rfl rfl rfl (hcount) ?_ ?_
  | refine AWL.cMP (f := 48) [(0, 0)] Zyb rfl rfl rfl rfl rfl rfl rfl (hbyte) ?_ ?_
  | refine AWL.frzG rfl rfl rfl ?_
 all_goals (apply_rules (newGoals := .nonDependentOnly) only [dep]; exact ())) : p := h
theorem ZDq.cl {p : Prop} (h : p := by
 first
  | refine AWL.cMP (f := 74) [] Zyc rfl rfl rfl rfl rfl rfl rfl (hfail) ?_ ?_
  | refine AWL.frzG rfl rfl rfl ?_
  | refine AWL.cC (f := 135) ZDo rfl rfl rfl rfl rfl rfl (hread) ?_
 all_goals (apply_rules (newGoals := .nonDependentOnly) only [dep]; exact ())) : p := h
open ZDp Zs2 Zl in
theorem ZtQ {b : List Int} {p : Int} {en : Nat} (h : okT b p en) (most : Int) : TF 85 [.int .i64 most] b en p (Zme (b.take en) most p) ZA3 := by
 have hbyte := ZcK h
 have hbm := fun n t => ZaQ h (n := n) (t := t)
 have hfail := ZcX 10
 have hcount : True := trivial
 have hnum : True := trivial
 obtain ⟨A, hA⟩ : ∃ A, Zme (b.take en) most p = A := ⟨_, rfl⟩
 rw [hA]
 unfold Zme at hA
 unfold TF OKR ERR tpM at hbyte
 unfold TF OKR ERR tpM
 rcases hz : Zba (b.take en) p with ⟨e, t⟩ | ⟨f, t⟩
 all_goals
  rw [hz] at hA hbyte hbm
  simp only [bnd] at hA hbyte
 ·subst hA
  refine AMP.enter Tryz.func85 rfl (Yaa rfl) (fun pn => ?_)
  simp only [Tryz.f85]
  have nx := trivial
  refine' ZbH
  all_goals first | exact ⟨trivial, trivial⟩ | exact ⟨rfl, trivial⟩ | exact ⟨rfl, rfl⟩ | exact ⟨trivial, rfl⟩ | (exfalso; omega) | trace_state
 obtain ⟨h2, h3, h4⟩ := hbm _ _ rfl
 by_cases c : f > 1
 ·rw [if_pos c] at hA
  subst hA
  refine AMP.enter Tryz.func85 rfl (Yaa rfl) (fun pn => ?_)
  simp only [Tryz.f85]
  have nx := trivial
  refine' ZbH
  all_goals first | exact ⟨trivial, trivial⟩ | exact ⟨rfl, trivial⟩ | exact ⟨rfl, rfl⟩ | exact ⟨trivial, rfl⟩ | (exfalso; omega) | trace_state
 rw [if_neg c] at hA
 have hcount := Zbk h2 most
 have hcm := fun n q => Zcc h2 (most := most) (n := n) (t := q)
 unfold TF OKR ERR tpM at hcount
 rcases hz2 : Zg5 (b.take en) most t with ⟨e, q⟩ | ⟨n, q⟩
 all_goals
  rw [hz2] at hA hcount hcm
  simp only at hA hcount
 ·subst hA
  refine AMP.enter Tryz.func85 rfl (Yaa rfl) (fun pn => ?_)
  simp only [Tryz.f85]
  have nx := trivial
  refine' ZbH
  all_goals first | exact ⟨trivial, trivial⟩ | exact ⟨rfl, trivial⟩ | exact ⟨rfl, rfl⟩ | exact ⟨trivial, rfl⟩ | (exfalso; omega) | trace_state
 obtain ⟨h5, h6, h7⟩ := hcm _ _ rfl
 by_cases c1 : f = 1
 case neg =>
  rw [if_neg c1] at hA
  subst hA
  have d1 : (f == 1) = false := by rw [Yam]; exact c1
  unfold ZA3
  refine AMP.enter Tryz.func85 rfl (Yaa rfl) (fun pn => ?_)
  simp only [Tryz.f85]
  have nx := aI @d1 trivial
  refine' ZbH
  all_goals first | exact ⟨trivial, trivial⟩ | exact ⟨rfl, trivial⟩ | exact ⟨rfl, rfl⟩ | exact ⟨trivial, rfl⟩ | (exfalso; omega) | trace_state
 rw [if_pos c1] at hA
 subst c1
 have hnum := Zcb h5
 unfold TF OKR ERR tpM at hnum
 rcases hz3 : nmT (b.take en) q with ⟨e, r⟩ | ⟨x, r⟩
 all_goals
  rw [hz3] at hA hnum
  simp only at hA hnum
  subst hA
  (try unfold ZA3)
  refine AMP.enter Tryz.func85 rfl (Yaa rfl) (fun pn => ?_)
  simp only [Tryz.f85]
  have nx := trivial
  refine' ZbH
  all_goals first | exact ⟨trivial, trivial⟩ | exact ⟨rfl, trivial⟩ | exact ⟨rfl, rfl⟩ | exact ⟨trivial, rfl⟩ | (exfalso; omega) | trace_state
open ZDq ZgY Zl in
theorem ZhR {b : List Int} {p : Int} {en : Nat} (h : okT b p en) : TF 117 [] b en p (Zek (b.take en) p) ZkG := by
 have hl := h.hl; have he := h.he
 have hread := ZwF (b.take en) h.byt (by rw [h.len]; omega) p
 have hlen := h.len
 have htk : List.take en (Zh .u8 b) = Zh .u8 (b.take en) := by simp only [Zh, List.map_take]
 obtain ⟨A, hA⟩ : ∃ A, Zek (b.take en) p = A := ⟨_, rfl⟩
 rw [hA]
 unfold Zek at hA
 rw [hlen] at hread
 generalize Z6 (b.take en) p = z at hread hA
 obtain ⟨c, to, e⟩ := z
 simp only at hread hA
 have hfail := ZcX e
 unfold TF OKR ERR tpM
 by_cases c1 : e ≠ 0
 ·rw [if_pos c1] at hA
  subst hA
  refine AMP.enter Tryz.func117 rfl (Yaa rfl) (fun pn => ?_)
  simp only [Tryz.f117]
  have nx := aI @htk trivial
  refine' ZoX
  all_goals first | exact ⟨trivial, trivial⟩ | exact ⟨rfl, trivial⟩ | exact ⟨rfl, rfl⟩ | exact ⟨trivial, rfl⟩ | (exfalso; omega) | trace_state
 ·rw [if_neg c1] at hA
  subst hA
  unfold ZkG
  refine AMP.enter Tryz.func117 rfl (Yaa rfl) (fun pn => ?_)
  simp only [Tryz.f117]
  have nx := aI @htk trivial
  refine' ZoX
  all_goals first | exact ⟨trivial, trivial⟩ | exact ⟨rfl, trivial⟩ | exact ⟨rfl, rfl⟩ | exact ⟨trivial, rfl⟩ | (exfalso; omega) | trace_state
end
section
def ZfV : Zmf -> List V
 | ⟨xi, xo⟩ => [.view xi.length 1 (Zh .i64 xi), .view xo.length 1 (Zh .i64 xo)]
theorem Zfg (x : Zmf) : (ZfV x).length = 2 := rfl
def ZB9 (pn : Nat -> Option BI) (f1 : FuncId) (b : List Int) (en : Nat) (t : Int) (l : List Zmf) (n : Nat) : St := { n := 22, slots := [(0, .ptr 0 0), (2, .fn f1 [.ptr 0 0]), (7, .ref 7 0 l.length 2), (8, .int .i64 (n : Int))], mem := [(0, ⟨false, [.view b.length 1 (Zh .u8 b), .int .i64 t, .int .i64 en]⟩), (7, ⟨true, l.flatMap ZfV⟩)], lent := [(0, pn 0)] }
theorem Zzc.NM : type_of% @MB.NM /\ type_of% @ZB9.eq_1 :=
 ⟨MB.NM, @ZB9.eq_1⟩
open Zzc
open ZdV ZFC ZFB Zl in
theorem ZtT {b : List Int} {p : Int} {en : Nat} (h : okT b p en) (most : Int) (hm : most <= 100000) {f1 : FuncId} (hcb : Zc Tryz.prog f1 = true) {one : Int -> Res Zmf}
 (hone : ∀ t, okT b t en -> AMP Tryz.prog f1 [.ptr 0 0] (tpM 0 b t en) [0] (OKR (one t) (fun x => .agg (ZfV x)) b en) (ERR (one t) b en))
 (hmv : ∀ t a q, okT b t en -> one t = .ok (a, q) -> okT b q en) :
 AMP Tryz.prog 78 [.ptr 0 0, .int .i64 most, .fn f1 [.ptr 0 0]] (tpM 0 b p en) [0] (OKR (Zv (b.take en) most one p) (fun l => .view l.length 2 (l.flatMap ZfV)) b en) (ERR (Zv (b.take en) most one p) b en) := by
 have hcount := Zbk h most
 have hcm := fun n q => Zcc h (most := most) (n := n) (t := q)
 obtain ⟨A, hA⟩ : ∃ A, Zv (b.take en) most one p = A := ⟨_, rfl⟩
 rw [hA]
 unfold Zv at hA
 unfold TF OKR ERR tpM at hcount
 unfold OKR ERR tpM at hone
 unfold OKR ERR tpM
 rcases hz : Zg5 (b.take en) most p with ⟨e, q⟩ | ⟨n, q⟩
 all_goals
  rw [hz] at hA hcount hcm
  simp only [Zg, Zd] at hA hcount
  refine AMP.enter Tryz.func78 rfl (Yaa rfl) (fun pn => ?_)
  simp only [Tryz.f78]
 ·subst hA
  have nx := trivial
  refine' Zj
  all_goals first | exact ⟨trivial, trivial⟩ | exact ⟨rfl, trivial⟩ | exact ⟨rfl, rfl⟩ | exact ⟨trivial, rfl⟩ | (exfalso; omega) | trace_state
 obtain ⟨h2, h3, h4⟩ := hcm _ _ rfl
 obtain ⟨n0, rfl⟩ : ∃ n0 : Nat, n = n0 := ⟨n.toNat, by omega⟩
 have hA : bnd (ZcJ one n0 q) (fun r t => .ok ([] ++ r, t)) = A := by rw [<- hA, Yap]; exact Zd8 _
 have hn0 : n0 <= 100000 := by omega
 clear hcm hz h4
 have nx := trivial
 refine' Zj
 refine AW.loop [0, 2, 7, 8] [0, 7] (fun m st => ∃ (n : Nat) (t : Int) (l : List Zmf), st = ZB9 pn f1 b en t l n /\ okT b t en /\ l.length + n = n0 /\ bnd (ZcJ one n t) (fun r t => .ok (l ++ r, t)) = A /\ n = m) ?_ ?_
 ·exact ⟨_, n0, q, [], rfl, h2, by simp, hA, rfl⟩
 rintro m st ⟨n, t, l, rfl, ht, hln, hA, rfl⟩
 clear hcount
 rcases n with _ | n
 ·rw [ZcJ] at hA
  simp only [Zg, List.append_nil] at hA
  subst hA
  have hcut : List.take (l.length * 2) (l.flatMap ZfV) = l.flatMap ZfV := Yad (by rw [Zq Zfg]; omega)
  have nx := aI @hcut trivial
  refine' Zj
  all_goals first | exact ⟨trivial, trivial⟩ | exact ⟨rfl, trivial⟩ | exact ⟨rfl, rfl⟩ | exact ⟨trivial, rfl⟩ | (exfalso; omega) | trace_state
 ·have hone := hone t ht
  have hmv := hmv t
  have e1 : IntKind.i64.wrap (((n + 1 : Nat) : Int) - 1) = (n : Int) := by rw [Zb _ (by omega) (by omega)]; omega
  have d1 : decide (((n + 1 : Nat) : Int) > 0) = true := Yae (by omega)
  have hcut : List.take (l.length * 2) (l.flatMap ZfV) = l.flatMap ZfV := Yad (by rw [Zq Zfg]; omega)
  rw [ZcJ] at hA
  rcases hz1 : one t with ⟨e, q⟩ | ⟨x, q⟩
  all_goals
   rw [hz1] at hA hone
   simp only [Zg, Zd] at hA hone
  ·subst hA
   have nx := aI @e1 (aI @d1 (aI @hcut trivial))
   refine' Zj
   all_goals first | exact ⟨trivial, trivial⟩ | exact ⟨rfl, trivial⟩ | exact ⟨rfl, rfl⟩ | exact ⟨trivial, rfl⟩ | (exfalso; omega) | trace_state
  ·have ht2 := hmv _ _ ht hz1
   rw [Zd9] at hA
   have hl2 : (l ++ [x]).length = l.length + 1 := by simp
   obtain ⟨xi, xo⟩ := x
   have hs2 : l.flatMap ZfV ++ [.view xi.length 1 (Zh .i64 xi), .view xo.length 1 (Zh .i64 xo)] = (l ++ ([⟨xi, xo⟩] : List Zmf)).flatMap ZfV := (Zai (f := ZfV) l (⟨xi, xo⟩ : Zmf)).symm
   (try unfold ZfV at hone)
   have nx := aI @e1 (aI @d1 (aI @hcut trivial))
   refine' Zj
   all_goals first
    | exact ⟨n, by omega, n, q, l ++ [⟨xi, xo⟩], by rw [ZB9, hl2, <- hs2]; rfl, ht2, by rw [hl2]; omega, hA, rfl⟩
end
section
theorem ZFg (h : 47 < Tryz.prog.types.size) : (Tryz.prog.types[47]'h).bytes = 40 := by kernel_rfl
def Zhp : ZkT -> List V
 | ⟨xm, xn, xt⟩ => [.str xm, .str xn, .int .i64 xt]
theorem Zfh (x : ZkT) : (Zhp x).length = 3 := rfl
def ZCa (pn : Nat -> Option BI) (f1 : FuncId) (b : List Int) (en : Nat) (t : Int) (l : List ZkT) (n : Nat) : St := { n := 22, slots := [(0, .ptr 0 0), (2, .fn f1 [.ptr 0 0]), (7, .ref 7 0 l.length 3), (8, .int .i64 (n : Int))], mem := [(0, ⟨false, [.view b.length 1 (Zh .u8 b), .int .i64 t, .int .i64 en]⟩), (7, ⟨true, l.flatMap Zhp⟩)], lent := [(0, pn 0)] }
theorem Zzd.NM : type_of% @MB.NM /\ type_of% @ZCa.eq_1 :=
 ⟨MB.NM, @ZCa.eq_1⟩
open Zzd
open ZdV ZFC ZFB Zs3 in
theorem ZtU {b : List Int} {p : Int} {en : Nat} (h : okT b p en) (most : Int) (hm : most <= 100000) {f1 : FuncId} (hcb : Zc Tryz.prog f1 = true) {one : Int -> Res ZkT}
 (hone : ∀ t, okT b t en -> AMP Tryz.prog f1 [.ptr 0 0] (tpM 0 b t en) [0] (OKR (one t) (fun x => .agg (Zhp x)) b en) (ERR (one t) b en))
 (hmv : ∀ t a q, okT b t en -> one t = .ok (a, q) -> okT b q en) :
 AMP Tryz.prog 80 [.ptr 0 0, .int .i64 most, .fn f1 [.ptr 0 0]] (tpM 0 b p en) [0] (OKR (Zv (b.take en) most one p) (fun l => .view l.length 3 (l.flatMap Zhp)) b en) (ERR (Zv (b.take en) most one p) b en) := by
 have hcount := Zbk h most
 have hcm := fun n q => Zcc h (most := most) (n := n) (t := q)
 obtain ⟨A, hA⟩ : ∃ A, Zv (b.take en) most one p = A := ⟨_, rfl⟩
 rw [hA]
 unfold Zv at hA
 unfold TF OKR ERR tpM at hcount
 unfold OKR ERR tpM at hone
 unfold OKR ERR tpM
 rcases hz : Zg5 (b.take en) most p with ⟨e, q⟩ | ⟨n, q⟩
 all_goals
  rw [hz] at hA hcount hcm
  simp only [Zg, Zd] at hA hcount
  refine AMP.enter Tryz.func80 rfl (Yaa rfl) (fun pn => ?_)
  simp only [Tryz.f80]
 ·subst hA
  have nx := trivial
  refine' Zj
  all_goals first | exact ⟨trivial, trivial⟩ | exact ⟨rfl, trivial⟩ | exact ⟨rfl, rfl⟩ | exact ⟨trivial, rfl⟩ | (exfalso; omega) | trace_state
 obtain ⟨h2, h3, h4⟩ := hcm _ _ rfl
 obtain ⟨n0, rfl⟩ : ∃ n0 : Nat, n = n0 := ⟨n.toNat, by omega⟩
 have hA : bnd (ZcJ one n0 q) (fun r t => .ok ([] ++ r, t)) = A := by rw [<- hA, Yap]; exact Zd8 _
 have hn0 : n0 <= 100000 := by omega
 clear hcm hz h4
 have nx := trivial
 refine' Zj
 refine AW.loop [0, 2, 7, 8] [0, 7] (fun m st => ∃ (n : Nat) (t : Int) (l : List ZkT), st = ZCa pn f1 b en t l n /\ okT b t en /\ l.length + n = n0 /\ bnd (ZcJ one n t) (fun r t => .ok (l ++ r, t)) = A /\ n = m) ?_ ?_
 ·exact ⟨_, n0, q, [], rfl, h2, by simp, hA, rfl⟩
 rintro m st ⟨n, t, l, rfl, ht, hln, hA, rfl⟩
 clear hcount
 rcases n with _ | n
 ·rw [ZcJ] at hA
  simp only [Zg, List.append_nil] at hA
  subst hA
  have hcut : List.take (l.length * 3) (l.flatMap Zhp) = l.flatMap Zhp := Yad (by rw [Zq Zfh]; omega)
  have nx := aI @hcut trivial
  refine' Zj
  all_goals first | exact ⟨trivial, trivial⟩ | exact ⟨rfl, trivial⟩ | exact ⟨rfl, rfl⟩ | exact ⟨trivial, rfl⟩ | (exfalso; omega) | trace_state
 ·have hone := hone t ht
  have hmv := hmv t
  have e1 : IntKind.i64.wrap (((n + 1 : Nat) : Int) - 1) = (n : Int) := by rw [Zb _ (by omega) (by omega)]; omega
  have d1 : decide (((n + 1 : Nat) : Int) > 0) = true := Yae (by omega)
  have hcut : List.take (l.length * 3) (l.flatMap Zhp) = l.flatMap Zhp := Yad (by rw [Zq Zfh]; omega)
  rw [ZcJ] at hA
  rcases hz1 : one t with ⟨e, q⟩ | ⟨x, q⟩
  all_goals
   rw [hz1] at hA hone
   simp only [Zg, Zd] at hA hone
  ·subst hA
   have nx := aI @e1 (aI @d1 (aI @hcut trivial))
   refine' Zj
   all_goals first | exact ⟨trivial, trivial⟩ | exact ⟨rfl, trivial⟩ | exact ⟨rfl, rfl⟩ | exact ⟨trivial, rfl⟩ | (exfalso; omega) | trace_state
  ·have ht2 := hmv _ _ ht hz1
   rw [Zd9] at hA
   have hl2 : (l ++ [x]).length = l.length + 1 := by simp
   obtain ⟨xm, xn, xt⟩ := x
   have hs2 : l.flatMap Zhp ++ [.str xm, .str xn, .int .i64 xt] = (l ++ ([⟨xm, xn, xt⟩] : List ZkT)).flatMap Zhp := (Zai (f := Zhp) l (⟨xm, xn, xt⟩ : ZkT)).symm
   (try unfold Zhp at hone)
   have nx := aI @e1 (aI @d1 (aI @hcut trivial))
   refine' Zj
   all_goals first
    | exact ⟨n, by omega, n, q, l ++ [⟨xm, xn, xt⟩], by rw [ZCa, hl2, <- hs2]; rfl, ht2, by rw [hl2]; omega, hA, rfl⟩
end
section
def ZqP : Int -> List V
 | x => [.int .i64 x]
theorem Zpp (x : Int) : (ZqP x).length = 1 := rfl
def ZCb (pn : Nat -> Option BI) (f1 : FuncId) (b : List Int) (en : Nat) (t : Int) (l : List Int) (n : Nat) : St := { n := 22, slots := [(0, .ptr 0 0), (2, .fn f1 [.ptr 0 0]), (7, .ref 7 0 l.length 1), (8, .int .i64 (n : Int))], mem := [(0, ⟨false, [.view b.length 1 (Zh .u8 b), .int .i64 t, .int .i64 en]⟩), (7, ⟨true, l.flatMap ZqP⟩)], lent := [(0, pn 0)] }
theorem Zze.NM : type_of% @MB.NM /\ type_of% @ZCb.eq_1 :=
 ⟨MB.NM, @ZCb.eq_1⟩
open Zze
open ZdV ZFC ZFB Zl in
theorem Zgr {b : List Int} {p : Int} {en : Nat} (h : okT b p en) (most : Int) (hm : most <= 100000) {f1 : FuncId} (hcb : Zc Tryz.prog f1 = true) {one : Int -> Res Int}
 (hone : ∀ t, okT b t en -> AMP Tryz.prog f1 [.ptr 0 0] (tpM 0 b t en) [0] (OKR (one t) (fun x => .int .i64 x) b en) (ERR (one t) b en))
 (hmv : ∀ t a q, okT b t en -> one t = .ok (a, q) -> okT b q en) :
 AMP Tryz.prog 82 [.ptr 0 0, .int .i64 most, .fn f1 [.ptr 0 0]] (tpM 0 b p en) [0] (OKR (Zv (b.take en) most one p) (fun l => .view l.length 1 (l.flatMap ZqP)) b en) (ERR (Zv (b.take en) most one p) b en) := by
 have hcount := Zbk h most
 have hcm := fun n q => Zcc h (most := most) (n := n) (t := q)
 obtain ⟨A, hA⟩ : ∃ A, Zv (b.take en) most one p = A := ⟨_, rfl⟩
 rw [hA]
 unfold Zv at hA
 unfold TF OKR ERR tpM at hcount
 unfold OKR ERR tpM at hone
 unfold OKR ERR tpM
 rcases hz : Zg5 (b.take en) most p with ⟨e, q⟩ | ⟨n, q⟩
 all_goals
  rw [hz] at hA hcount hcm
  simp only [Zg, Zd] at hA hcount
  refine AMP.enter Tryz.func82 rfl (Yaa rfl) (fun pn => ?_)
  simp only [Tryz.f82]
 ·subst hA
  have nx := trivial
  refine' Zj
  all_goals first | exact ⟨trivial, trivial⟩ | exact ⟨rfl, trivial⟩ | exact ⟨rfl, rfl⟩ | exact ⟨trivial, rfl⟩ | (exfalso; omega) | trace_state
 obtain ⟨h2, h3, h4⟩ := hcm _ _ rfl
 obtain ⟨n0, rfl⟩ : ∃ n0 : Nat, n = n0 := ⟨n.toNat, by omega⟩
 have hA : bnd (ZcJ one n0 q) (fun r t => .ok ([] ++ r, t)) = A := by rw [<- hA, Yap]; exact Zd8 _
 have hn0 : n0 <= 100000 := by omega
 clear hcm hz h4
 have nx := trivial
 refine' Zj
 refine AW.loop [0, 2, 7, 8] [0, 7] (fun m st => ∃ (n : Nat) (t : Int) (l : List Int), st = ZCb pn f1 b en t l n /\ okT b t en /\ l.length + n = n0 /\ bnd (ZcJ one n t) (fun r t => .ok (l ++ r, t)) = A /\ n = m) ?_ ?_
 ·exact ⟨_, n0, q, [], rfl, h2, by simp, hA, rfl⟩
 rintro m st ⟨n, t, l, rfl, ht, hln, hA, rfl⟩
 clear hcount
 rcases n with _ | n
 ·rw [ZcJ] at hA
  simp only [Zg, List.append_nil] at hA
  subst hA
  have hcut : List.take (l.length) (l.flatMap ZqP) = l.flatMap ZqP := Yad (by rw [Zq Zpp]; omega)
  have nx := aI @hcut trivial
  refine' Zj
  all_goals first | exact ⟨trivial, trivial⟩ | exact ⟨rfl, trivial⟩ | exact ⟨rfl, rfl⟩ | exact ⟨trivial, rfl⟩ | (exfalso; omega) | trace_state
 ·have hone := hone t ht
  have hmv := hmv t
  have e1 : IntKind.i64.wrap (((n + 1 : Nat) : Int) - 1) = (n : Int) := by rw [Zb _ (by omega) (by omega)]; omega
  have d1 : decide (((n + 1 : Nat) : Int) > 0) = true := Yae (by omega)
  have hcut : List.take (l.length) (l.flatMap ZqP) = l.flatMap ZqP := Yad (by rw [Zq Zpp]; omega)
  rw [ZcJ] at hA
  rcases hz1 : one t with ⟨e, q⟩ | ⟨x, q⟩
  all_goals
   rw [hz1] at hA hone
   simp only [Zg, Zd] at hA hone
  ·subst hA
   have nx := aI @e1 (aI @d1 (aI @hcut trivial))
   refine' Zj
   all_goals first | exact ⟨trivial, trivial⟩ | exact ⟨rfl, trivial⟩ | exact ⟨rfl, rfl⟩ | exact ⟨trivial, rfl⟩ | (exfalso; omega) | trace_state
  ·have ht2 := hmv _ _ ht hz1
   rw [Zd9] at hA
   have hl2 : (l ++ [x]).length = l.length + 1 := by simp
   obtain x := x
   have hs2 : l.flatMap ZqP ++ [.int .i64 x] = (l ++ ([x] : List Int)).flatMap ZqP := (Zai (f := ZqP) l (x : Int)).symm
   (try unfold ZqP at hone)
   have nx := aI @e1 (aI @d1 (aI @hcut trivial))
   refine' Zj
   all_goals first
    | exact ⟨n, by omega, n, q, l ++ [x], by rw [ZCb, hl2, <- hs2]; rfl, ht2, by rw [hl2]; omega, hA, rfl⟩
end
section
theorem ZFh (h : 77 < Tryz.prog.types.size) : (Tryz.prog.types[77]'h).bytes = 16 := by kernel_rfl
def Zc3 : (Int × Int) -> List V
 | ⟨xa, xb⟩ => [.int .i64 xa, .int .i64 xb]
theorem Zde (x : (Int × Int)) : (Zc3 x).length = 2 := rfl
def ZCc (pn : Nat -> Option BI) (f1 : FuncId) (b : List Int) (en : Nat) (t : Int) (l : List (Int × Int)) (n : Nat) : St := { n := 22, slots := [(0, .ptr 0 0), (2, .fn f1 [.ptr 3 0]), (7, .ref 7 0 l.length 2), (8, .int .i64 (n : Int))], mem := [(0, ⟨false, [.view b.length 1 (Zh .u8 b), .int .i64 t, .int .i64 en]⟩), (3, ⟨false, [.ptr 0 0]⟩), (7, ⟨true, l.flatMap Zc3⟩)], lent := [(0, pn 0), (3, pn 3)] }
theorem Zzf.NM : type_of% @MB.NM /\ type_of% @ZCc.eq_1 :=
 ⟨MB.NM, @ZCc.eq_1⟩
open Zzf
theorem ZwN.cl {p : Prop} (h : p := by
 first
  | refine AWL.cMP (f := 115) [(0, 0)] Zvd rfl rfl rfl rfl rfl rfl rfl (hcount) ?_ ?_
  | refine AWL.cFP [(0, 0), (3, 3)] rfl rfl rfl rfl hcb rfl rfl rfl rfl (hone) ?_ ?_
 all_goals (apply_rules (newGoals := .nonDependentOnly) only [dep]; exact ())) : p := h
open ZwN ZdV ZFB Zns in
theorem Zmk {b : List Int} {p : Int} {en : Nat} (h : okT b p en) (most : Int) (hm : most <= 100000) {f1 : FuncId} (hcb : Zc Tryz.prog f1 = true) {one : Int -> Res (Int × Int)}
 (hone : ∀ t, okT b t en -> AMP Tryz.prog f1 [.ptr 3 0] (tpM 0 b t en ++ [(3, ⟨false, [.ptr 0 0]⟩)]) [0, 3] (ZkV (one t) (fun x => .agg (Zc3 x)) b en) (ZkW (one t) b en))
 (hmv : ∀ t a q, okT b t en -> one t = .ok (a, q) -> okT b q en) :
 AMP Tryz.prog 83 [.ptr 0 0, .int .i64 most, .fn f1 [.ptr 3 0]] (tpM 0 b p en ++ [(3, ⟨false, [.ptr 0 0]⟩)]) [0, 3] (ZkV (Zv (b.take en) most one p) (fun l => .view l.length 2 (l.flatMap Zc3)) b en) (ZkW (Zv (b.take en) most one p) b en) := by
 have hcount := Zbk h most
 have hcm := fun n q => Zcc h (most := most) (n := n) (t := q)
 obtain ⟨A, hA⟩ : ∃ A, Zv (b.take en) most one p = A := ⟨_, rfl⟩
 rw [hA]
 unfold Zv at hA
 unfold TF OKR ERR tpM at hcount
 unfold ZkV ZkW tpM at hone
 unfold ZkV ZkW tpM
 rcases hz : Zg5 (b.take en) most p with ⟨e, q⟩ | ⟨n, q⟩
 all_goals
  rw [hz] at hA hcount hcm
  simp only [Zg, Zd] at hA hcount
  refine AMP.enter Tryz.func83 rfl (Yaa rfl) (fun pn => ?_)
  simp only [Tryz.f83]
 ·subst hA
  have nx := trivial
  refine' Zgg
  all_goals first | exact ⟨trivial, trivial⟩ | exact ⟨rfl, trivial⟩ | exact ⟨rfl, rfl⟩ | exact ⟨trivial, rfl⟩ | (exfalso; omega) | trace_state
 obtain ⟨h2, h3, h4⟩ := hcm _ _ rfl
 obtain ⟨n0, rfl⟩ : ∃ n0 : Nat, n = n0 := ⟨n.toNat, by omega⟩
 have hA : bnd (ZcJ one n0 q) (fun r t => .ok ([] ++ r, t)) = A := by rw [<- hA, Yap]; exact Zd8 _
 have hn0 : n0 <= 100000 := by omega
 clear hcm hz h4
 have nx := trivial
 refine' Zgg
 refine AW.loop [0, 2, 7, 8] [0, 3, 7] (fun m st => ∃ (n : Nat) (t : Int) (l : List (Int × Int)), st = ZCc pn f1 b en t l n /\ okT b t en /\ l.length + n = n0 /\ bnd (ZcJ one n t) (fun r t => .ok (l ++ r, t)) = A /\ n = m) ?_ ?_
 ·exact ⟨_, n0, q, [], rfl, h2, by simp, hA, rfl⟩
 rintro m st ⟨n, t, l, rfl, ht, hln, hA, rfl⟩
 clear hcount
 rcases n with _ | n
 ·rw [ZcJ] at hA
  simp only [Zg, List.append_nil] at hA
  subst hA
  have hcut : List.take (l.length * 2) (l.flatMap Zc3) = l.flatMap Zc3 := Yad (by rw [Zq Zde]; omega)
  have nx := aI @hcut trivial
  refine' Zgg
  all_goals first | exact ⟨trivial, trivial⟩ | exact ⟨rfl, trivial⟩ | exact ⟨rfl, rfl⟩ | exact ⟨trivial, rfl⟩ | (exfalso; omega) | trace_state
 ·have hone := hone t ht
  have hmv := hmv t
  have e1 : IntKind.i64.wrap (((n + 1 : Nat) : Int) - 1) = (n : Int) := by rw [Zb _ (by omega) (by omega)]; omega
  have d1 : decide (((n + 1 : Nat) : Int) > 0) = true := Yae (by omega)
  have hcut : List.take (l.length * 2) (l.flatMap Zc3) = l.flatMap Zc3 := Yad (by rw [Zq Zde]; omega)
  rw [ZcJ] at hA
  rcases hz1 : one t with ⟨e, q⟩ | ⟨x, q⟩
  all_goals
   rw [hz1] at hA hone
   simp only [Zg, Zd] at hA hone
  ·subst hA
   have nx := aI @e1 (aI @d1 (aI @hcut trivial))
   refine' Zgg
   all_goals first | exact ⟨trivial, trivial⟩ | exact ⟨rfl, trivial⟩ | exact ⟨rfl, rfl⟩ | exact ⟨trivial, rfl⟩ | (exfalso; omega) | trace_state
  ·have ht2 := hmv _ _ ht hz1
   rw [Zd9] at hA
   have hl2 : (l ++ [x]).length = l.length + 1 := by simp
   obtain ⟨xa, xb⟩ := x
   have hs2 : l.flatMap Zc3 ++ [.int .i64 xa, .int .i64 xb] = (l ++ ([⟨xa, xb⟩] : List (Int × Int))).flatMap Zc3 := (Zai (f := Zc3) l (⟨xa, xb⟩ : (Int × Int))).symm
   (try unfold Zc3 at hone)
   have nx := aI @e1 (aI @d1 (aI @hcut trivial))
   refine' Zgg
   all_goals first
    | exact ⟨n, by omega, n, q, l ++ [⟨xa, xb⟩], by rw [ZCc, hl2, <- hs2]; rfl, ht2, by rw [hl2]; omega, hA, rfl⟩
end
section
theorem ZEo (h : 82 < Tryz.prog.types.size) : (Tryz.prog.types[82]'h).bytes = 40 := by kernel_rfl
def Zcd : ZeM -> List V
 | ⟨xt, xm, xc⟩ => [.int .i64 xt, .bool xm, .view xc.length 6 (Zah xc)]
theorem ZeQ (x : ZeM) : (Zcd x).length = 3 := rfl
def ZwO (pn : Nat -> Option BI) (f1 : FuncId) (b : List Int) (en : Nat) (t : Int) (l : List ZeM) (n : Nat) : St := { n := 22, slots := [(0, .ptr 0 0), (2, .fn f1 [.ptr 0 0]), (7, .ref 7 0 l.length 3), (8, .int .i64 (n : Int))], mem := [(0, ⟨false, [.view b.length 1 (Zh .u8 b), .int .i64 t, .int .i64 en]⟩), (7, ⟨true, l.flatMap Zcd⟩)], lent := [(0, pn 0)] }
theorem ZwP.NM : type_of% @MB.NM /\ type_of% @ZwO.eq_1 :=
 ⟨MB.NM, @ZwO.eq_1⟩
open ZwP
open ZdV ZFC ZFB Zs4 in
theorem Zqq {b : List Int} {p : Int} {en : Nat} (h : okT b p en) (most : Int) (hm : most <= 100000) {f1 : FuncId} (hcb : Zc Tryz.prog f1 = true) {one : Int -> Res ZeM}
 (hone : ∀ t, okT b t en -> AMP Tryz.prog f1 [.ptr 0 0] (tpM 0 b t en) [0] (OKR (one t) (fun x => .agg (Zcd x)) b en) (ERR (one t) b en))
 (hmv : ∀ t a q, okT b t en -> one t = .ok (a, q) -> okT b q en) :
 AMP Tryz.prog 87 [.ptr 0 0, .int .i64 most, .fn f1 [.ptr 0 0]] (tpM 0 b p en) [0] (OKR (Zv (b.take en) most one p) (fun l => .view l.length 3 (l.flatMap Zcd)) b en) (ERR (Zv (b.take en) most one p) b en) := by
 have hcount := Zbk h most
 have hcm := fun n q => Zcc h (most := most) (n := n) (t := q)
 obtain ⟨A, hA⟩ : ∃ A, Zv (b.take en) most one p = A := ⟨_, rfl⟩
 rw [hA]
 unfold Zv at hA
 unfold TF OKR ERR tpM at hcount
 unfold OKR ERR tpM at hone
 unfold OKR ERR tpM
 rcases hz : Zg5 (b.take en) most p with ⟨e, q⟩ | ⟨n, q⟩
 all_goals
  rw [hz] at hA hcount hcm
  simp only [Zg, Zd] at hA hcount
  refine AMP.enter Tryz.func87 rfl (Yaa rfl) (fun pn => ?_)
  simp only [Tryz.f87]
 ·subst hA
  have nx := trivial
  refine' Zj
  all_goals first | exact ⟨trivial, trivial⟩ | exact ⟨rfl, trivial⟩ | exact ⟨rfl, rfl⟩ | exact ⟨trivial, rfl⟩ | (exfalso; omega) | trace_state
 obtain ⟨h2, h3, h4⟩ := hcm _ _ rfl
 obtain ⟨n0, rfl⟩ : ∃ n0 : Nat, n = n0 := ⟨n.toNat, by omega⟩
 have hA : bnd (ZcJ one n0 q) (fun r t => .ok ([] ++ r, t)) = A := by rw [<- hA, Yap]; exact Zd8 _
 have hn0 : n0 <= 100000 := by omega
 clear hcm hz h4
 have nx := trivial
 refine' Zj
 refine AW.loop [0, 2, 7, 8] [0, 7] (fun m st => ∃ (n : Nat) (t : Int) (l : List ZeM), st = ZwO pn f1 b en t l n /\ okT b t en /\ l.length + n = n0 /\ bnd (ZcJ one n t) (fun r t => .ok (l ++ r, t)) = A /\ n = m) ?_ ?_
 ·exact ⟨_, n0, q, [], rfl, h2, by simp, hA, rfl⟩
 rintro m st ⟨n, t, l, rfl, ht, hln, hA, rfl⟩
 clear hcount
 rcases n with _ | n
 ·rw [ZcJ] at hA
  simp only [Zg, List.append_nil] at hA
  subst hA
  have hcut : List.take (l.length * 3) (l.flatMap Zcd) = l.flatMap Zcd := Yad (by rw [Zq ZeQ]; omega)
  have nx := aI @hcut trivial
  refine' Zj
  all_goals first | exact ⟨trivial, trivial⟩ | exact ⟨rfl, trivial⟩ | exact ⟨rfl, rfl⟩ | exact ⟨trivial, rfl⟩ | (exfalso; omega) | trace_state
 ·have hone := hone t ht
  have hmv := hmv t
  have e1 : IntKind.i64.wrap (((n + 1 : Nat) : Int) - 1) = (n : Int) := by rw [Zb _ (by omega) (by omega)]; omega
  have d1 : decide (((n + 1 : Nat) : Int) > 0) = true := Yae (by omega)
  have hcut : List.take (l.length * 3) (l.flatMap Zcd) = l.flatMap Zcd := Yad (by rw [Zq ZeQ]; omega)
  rw [ZcJ] at hA
  rcases hz1 : one t with ⟨e, q⟩ | ⟨x, q⟩
  all_goals
   rw [hz1] at hA hone
   simp only [Zg, Zd] at hA hone
  ·subst hA
   have nx := aI @e1 (aI @d1 (aI @hcut trivial))
   refine' Zj
   all_goals first | exact ⟨trivial, trivial⟩ | exact ⟨rfl, trivial⟩ | exact ⟨rfl, rfl⟩ | exact ⟨trivial, rfl⟩ | (exfalso; omega) | trace_state
  ·have ht2 := hmv _ _ ht hz1
   rw [Zd9] at hA
   have hl2 : (l ++ [x]).length = l.length + 1 := by simp
   obtain ⟨xt, xm, xc⟩ := x
   have hs2 : l.flatMap Zcd ++ [.int .i64 xt, .bool xm, .view xc.length 6 (Zah xc)] = (l ++ ([⟨xt, xm, xc⟩] : List ZeM)).flatMap Zcd := (Zai (f := Zcd) l (⟨xt, xm, xc⟩ : ZeM)).symm
   (try unfold Zcd at hone)
   have nx := aI @e1 (aI @d1 (aI @hcut trivial))
   refine' Zj
   all_goals first
    | exact ⟨n, by omega, n, q, l ++ [⟨xt, xm, xc⟩], by rw [ZwO, hl2, <- hs2]; rfl, ht2, by rw [hl2]; omega, hA, rfl⟩
end
section
theorem ZFi (h : 55 < Tryz.prog.types.size) : (Tryz.prog.types[55]'h).bytes = 32 := by kernel_rfl
def Zhq : Zmg -> List V
 | ⟨xn, xk, xi⟩ => [.str xn, .int .i64 xk, .int .i64 xi]
theorem Zfi (x : Zmg) : (Zhq x).length = 3 := rfl
def ZCd (pn : Nat -> Option BI) (f1 : FuncId) (b : List Int) (en : Nat) (t : Int) (l : List Zmg) (n : Nat) : St := { n := 22, slots := [(0, .ptr 0 0), (2, .fn f1 [.ptr 0 0]), (7, .ref 7 0 l.length 3), (8, .int .i64 (n : Int))], mem := [(0, ⟨false, [.view b.length 1 (Zh .u8 b), .int .i64 t, .int .i64 en]⟩), (7, ⟨true, l.flatMap Zhq⟩)], lent := [(0, pn 0)] }
theorem Zzg.NM : type_of% @MB.NM /\ type_of% @ZCd.eq_1 :=
 ⟨MB.NM, @ZCd.eq_1⟩
open Zzg
open ZdV ZFC ZFB Zs5 in
theorem ZtV {b : List Int} {p : Int} {en : Nat} (h : okT b p en) (most : Int) (hm : most <= 100000) {f1 : FuncId} (hcb : Zc Tryz.prog f1 = true) {one : Int -> Res Zmg}
 (hone : ∀ t, okT b t en -> AMP Tryz.prog f1 [.ptr 0 0] (tpM 0 b t en) [0] (OKR (one t) (fun x => .agg (Zhq x)) b en) (ERR (one t) b en))
 (hmv : ∀ t a q, okT b t en -> one t = .ok (a, q) -> okT b q en) :
 AMP Tryz.prog 89 [.ptr 0 0, .int .i64 most, .fn f1 [.ptr 0 0]] (tpM 0 b p en) [0] (OKR (Zv (b.take en) most one p) (fun l => .view l.length 3 (l.flatMap Zhq)) b en) (ERR (Zv (b.take en) most one p) b en) := by
 have hcount := Zbk h most
 have hcm := fun n q => Zcc h (most := most) (n := n) (t := q)
 obtain ⟨A, hA⟩ : ∃ A, Zv (b.take en) most one p = A := ⟨_, rfl⟩
 rw [hA]
 unfold Zv at hA
 unfold TF OKR ERR tpM at hcount
 unfold OKR ERR tpM at hone
 unfold OKR ERR tpM
 rcases hz : Zg5 (b.take en) most p with ⟨e, q⟩ | ⟨n, q⟩
 all_goals
  rw [hz] at hA hcount hcm
  simp only [Zg, Zd] at hA hcount
  refine AMP.enter Tryz.func89 rfl (Yaa rfl) (fun pn => ?_)
  simp only [Tryz.f89]
 ·subst hA
  have nx := trivial
  refine' Zj
  all_goals first | exact ⟨trivial, trivial⟩ | exact ⟨rfl, trivial⟩ | exact ⟨rfl, rfl⟩ | exact ⟨trivial, rfl⟩ | (exfalso; omega) | trace_state
 obtain ⟨h2, h3, h4⟩ := hcm _ _ rfl
 obtain ⟨n0, rfl⟩ : ∃ n0 : Nat, n = n0 := ⟨n.toNat, by omega⟩
 have hA : bnd (ZcJ one n0 q) (fun r t => .ok ([] ++ r, t)) = A := by rw [<- hA, Yap]; exact Zd8 _
 have hn0 : n0 <= 100000 := by omega
 clear hcm hz h4
 have nx := trivial
 refine' Zj
 refine AW.loop [0, 2, 7, 8] [0, 7] (fun m st => ∃ (n : Nat) (t : Int) (l : List Zmg), st = ZCd pn f1 b en t l n /\ okT b t en /\ l.length + n = n0 /\ bnd (ZcJ one n t) (fun r t => .ok (l ++ r, t)) = A /\ n = m) ?_ ?_
 ·exact ⟨_, n0, q, [], rfl, h2, by simp, hA, rfl⟩
 rintro m st ⟨n, t, l, rfl, ht, hln, hA, rfl⟩
 clear hcount
 rcases n with _ | n
 ·rw [ZcJ] at hA
  simp only [Zg, List.append_nil] at hA
  subst hA
  have hcut : List.take (l.length * 3) (l.flatMap Zhq) = l.flatMap Zhq := Yad (by rw [Zq Zfi]; omega)
  have nx := aI @hcut trivial
  refine' Zj
  all_goals first | exact ⟨trivial, trivial⟩ | exact ⟨rfl, trivial⟩ | exact ⟨rfl, rfl⟩ | exact ⟨trivial, rfl⟩ | (exfalso; omega) | trace_state
 ·have hone := hone t ht
  have hmv := hmv t
  have e1 : IntKind.i64.wrap (((n + 1 : Nat) : Int) - 1) = (n : Int) := by rw [Zb _ (by omega) (by omega)]; omega
  have d1 : decide (((n + 1 : Nat) : Int) > 0) = true := Yae (by omega)
  have hcut : List.take (l.length * 3) (l.flatMap Zhq) = l.flatMap Zhq := Yad (by rw [Zq Zfi]; omega)
  rw [ZcJ] at hA
  rcases hz1 : one t with ⟨e, q⟩ | ⟨x, q⟩
  all_goals
   rw [hz1] at hA hone
   simp only [Zg, Zd] at hA hone
  ·subst hA
   have nx := aI @e1 (aI @d1 (aI @hcut trivial))
   refine' Zj
   all_goals first | exact ⟨trivial, trivial⟩ | exact ⟨rfl, trivial⟩ | exact ⟨rfl, rfl⟩ | exact ⟨trivial, rfl⟩ | (exfalso; omega) | trace_state
  ·have ht2 := hmv _ _ ht hz1
   rw [Zd9] at hA
   have hl2 : (l ++ [x]).length = l.length + 1 := by simp
   obtain ⟨xn, xk, xi⟩ := x
   have hs2 : l.flatMap Zhq ++ [.str xn, .int .i64 xk, .int .i64 xi] = (l ++ ([⟨xn, xk, xi⟩] : List Zmg)).flatMap Zhq := (Zai (f := Zhq) l (⟨xn, xk, xi⟩ : Zmg)).symm
   (try unfold Zhq at hone)
   have nx := aI @e1 (aI @d1 (aI @hcut trivial))
   refine' Zj
   all_goals first
    | exact ⟨n, by omega, n, q, l ++ [⟨xn, xk, xi⟩], by rw [ZCd, hl2, <- hs2]; rfl, ht2, by rw [hl2]; omega, hA, rfl⟩
end
section
def Zce : Zfs -> List V
 | ⟨xc, xf⟩ => [.view xc.length 6 (Zah xc), .view xf.length 1 (Zh .i64 xf)]
theorem ZeR (x : Zfs) : (Zce x).length = 2 := rfl
def ZwQ (pn : Nat -> Option BI) (f1 : FuncId) (b : List Int) (en : Nat) (t : Int) (l : List Zfs) (n : Nat) : St := { n := 22, slots := [(0, .ptr 0 0), (2, .fn f1 [.ptr 0 0]), (7, .ref 7 0 l.length 2), (8, .int .i64 (n : Int))], mem := [(0, ⟨false, [.view b.length 1 (Zh .u8 b), .int .i64 t, .int .i64 en]⟩), (7, ⟨true, l.flatMap Zce⟩)], lent := [(0, pn 0)] }
theorem ZwR.NM : type_of% @MB.NM /\ type_of% @ZwQ.eq_1 :=
 ⟨MB.NM, @ZwQ.eq_1⟩
open ZwR
open ZdV ZFC ZFB Zl in
theorem Zqr {b : List Int} {p : Int} {en : Nat} (h : okT b p en) (most : Int) (hm : most <= 100000) {f1 : FuncId} (hcb : Zc Tryz.prog f1 = true) {one : Int -> Res Zfs}
 (hone : ∀ t, okT b t en -> AMP Tryz.prog f1 [.ptr 0 0] (tpM 0 b t en) [0] (OKR (one t) (fun x => .agg (Zce x)) b en) (ERR (one t) b en))
 (hmv : ∀ t a q, okT b t en -> one t = .ok (a, q) -> okT b q en) :
 AMP Tryz.prog 91 [.ptr 0 0, .int .i64 most, .fn f1 [.ptr 0 0]] (tpM 0 b p en) [0] (OKR (Zv (b.take en) most one p) (fun l => .view l.length 2 (l.flatMap Zce)) b en) (ERR (Zv (b.take en) most one p) b en) := by
 have hcount := Zbk h most
 have hcm := fun n q => Zcc h (most := most) (n := n) (t := q)
 obtain ⟨A, hA⟩ : ∃ A, Zv (b.take en) most one p = A := ⟨_, rfl⟩
 rw [hA]
 unfold Zv at hA
 unfold TF OKR ERR tpM at hcount
 unfold OKR ERR tpM at hone
 unfold OKR ERR tpM
 rcases hz : Zg5 (b.take en) most p with ⟨e, q⟩ | ⟨n, q⟩
 all_goals
  rw [hz] at hA hcount hcm
  simp only [Zg, Zd] at hA hcount
  refine AMP.enter Tryz.func91 rfl (Yaa rfl) (fun pn => ?_)
  simp only [Tryz.f91]
 ·subst hA
  have nx := trivial
  refine' Zj
  all_goals first | exact ⟨trivial, trivial⟩ | exact ⟨rfl, trivial⟩ | exact ⟨rfl, rfl⟩ | exact ⟨trivial, rfl⟩ | (exfalso; omega) | trace_state
 obtain ⟨h2, h3, h4⟩ := hcm _ _ rfl
 obtain ⟨n0, rfl⟩ : ∃ n0 : Nat, n = n0 := ⟨n.toNat, by omega⟩
 have hA : bnd (ZcJ one n0 q) (fun r t => .ok ([] ++ r, t)) = A := by rw [<- hA, Yap]; exact Zd8 _
 have hn0 : n0 <= 100000 := by omega
 clear hcm hz h4
 have nx := trivial
 refine' Zj
 refine AW.loop [0, 2, 7, 8] [0, 7] (fun m st => ∃ (n : Nat) (t : Int) (l : List Zfs), st = ZwQ pn f1 b en t l n /\ okT b t en /\ l.length + n = n0 /\ bnd (ZcJ one n t) (fun r t => .ok (l ++ r, t)) = A /\ n = m) ?_ ?_
 ·exact ⟨_, n0, q, [], rfl, h2, by simp, hA, rfl⟩
 rintro m st ⟨n, t, l, rfl, ht, hln, hA, rfl⟩
 clear hcount
 rcases n with _ | n
 ·rw [ZcJ] at hA
  simp only [Zg, List.append_nil] at hA
  subst hA
  have hcut : List.take (l.length * 2) (l.flatMap Zce) = l.flatMap Zce := Yad (by rw [Zq ZeR]; omega)
  have nx := aI @hcut trivial
  refine' Zj
  all_goals first | exact ⟨trivial, trivial⟩ | exact ⟨rfl, trivial⟩ | exact ⟨rfl, rfl⟩ | exact ⟨trivial, rfl⟩ | (exfalso; omega) | trace_state
 ·have hone := hone t ht
  have hmv := hmv t
  have e1 : IntKind.i64.wrap (((n + 1 : Nat) : Int) - 1) = (n : Int) := by rw [Zb _ (by omega) (by omega)]; omega
  have d1 : decide (((n + 1 : Nat) : Int) > 0) = true := Yae (by omega)
  have hcut : List.take (l.length * 2) (l.flatMap Zce) = l.flatMap Zce := Yad (by rw [Zq ZeR]; omega)
  rw [ZcJ] at hA
  rcases hz1 : one t with ⟨e, q⟩ | ⟨x, q⟩
  all_goals
   rw [hz1] at hA hone
   simp only [Zg, Zd] at hA hone
  ·subst hA
   have nx := aI @e1 (aI @d1 (aI @hcut trivial))
   refine' Zj
   all_goals first | exact ⟨trivial, trivial⟩ | exact ⟨rfl, trivial⟩ | exact ⟨rfl, rfl⟩ | exact ⟨trivial, rfl⟩ | (exfalso; omega) | trace_state
  ·have ht2 := hmv _ _ ht hz1
   rw [Zd9] at hA
   have hl2 : (l ++ [x]).length = l.length + 1 := by simp
   obtain ⟨xc, xf⟩ := x
   have hs2 : l.flatMap Zce ++ [.view xc.length 6 (Zah xc), .view xf.length 1 (Zh .i64 xf)] = (l ++ ([⟨xc, xf⟩] : List Zfs)).flatMap Zce := (Zai (f := Zce) l (⟨xc, xf⟩ : Zfs)).symm
   (try unfold Zce at hone)
   have nx := aI @e1 (aI @d1 (aI @hcut trivial))
   refine' Zj
   all_goals first
    | exact ⟨n, by omega, n, q, l ++ [⟨xc, xf⟩], by rw [ZwQ, hl2, <- hs2]; rfl, ht2, by rw [hl2]; omega, hA, rfl⟩
end
section
def ZgE : Zd6 -> List V
 | ⟨xl, xc⟩ => [.view xl.length 1 (Zh .i64 xl), .view xc.length 6 (Zah xc)]
theorem Zgs (x : Zd6) : (ZgE x).length = 2 := rfl
def ZCe (pn : Nat -> Option BI) (f1 : FuncId) (b : List Int) (en : Nat) (t : Int) (l : List Zd6) (n : Nat) : St := { n := 22, slots := [(0, .ptr 0 0), (2, .fn f1 [.ptr 0 0]), (7, .ref 7 0 l.length 2), (8, .int .i64 (n : Int))], mem := [(0, ⟨false, [.view b.length 1 (Zh .u8 b), .int .i64 t, .int .i64 en]⟩), (7, ⟨true, l.flatMap ZgE⟩)], lent := [(0, pn 0)] }
theorem Zzh.NM : type_of% @MB.NM /\ type_of% @ZCe.eq_1 :=
 ⟨MB.NM, @ZCe.eq_1⟩
open Zzh
open ZdV ZFC ZFB Zl in
theorem ZtW {b : List Int} {p : Int} {en : Nat} (h : okT b p en) (most : Int) (hm : most <= 100000) {f1 : FuncId} (hcb : Zc Tryz.prog f1 = true) {one : Int -> Res Zd6}
 (hone : ∀ t, okT b t en -> AMP Tryz.prog f1 [.ptr 0 0] (tpM 0 b t en) [0] (OKR (one t) (fun x => .agg (ZgE x)) b en) (ERR (one t) b en))
 (hmv : ∀ t a q, okT b t en -> one t = .ok (a, q) -> okT b q en) :
 AMP Tryz.prog 93 [.ptr 0 0, .int .i64 most, .fn f1 [.ptr 0 0]] (tpM 0 b p en) [0] (OKR (Zv (b.take en) most one p) (fun l => .view l.length 2 (l.flatMap ZgE)) b en) (ERR (Zv (b.take en) most one p) b en) := by
 have hcount := Zbk h most
 have hcm := fun n q => Zcc h (most := most) (n := n) (t := q)
 obtain ⟨A, hA⟩ : ∃ A, Zv (b.take en) most one p = A := ⟨_, rfl⟩
 rw [hA]
 unfold Zv at hA
 unfold TF OKR ERR tpM at hcount
 unfold OKR ERR tpM at hone
 unfold OKR ERR tpM
 rcases hz : Zg5 (b.take en) most p with ⟨e, q⟩ | ⟨n, q⟩
 all_goals
  rw [hz] at hA hcount hcm
  simp only [Zg, Zd] at hA hcount
  refine AMP.enter Tryz.func93 rfl (Yaa rfl) (fun pn => ?_)
  simp only [Tryz.f93]
 ·subst hA
  have nx := trivial
  refine' Zj
  all_goals first | exact ⟨trivial, trivial⟩ | exact ⟨rfl, trivial⟩ | exact ⟨rfl, rfl⟩ | exact ⟨trivial, rfl⟩ | (exfalso; omega) | trace_state
 obtain ⟨h2, h3, h4⟩ := hcm _ _ rfl
 obtain ⟨n0, rfl⟩ : ∃ n0 : Nat, n = n0 := ⟨n.toNat, by omega⟩
 have hA : bnd (ZcJ one n0 q) (fun r t => .ok ([] ++ r, t)) = A := by rw [<- hA, Yap]; exact Zd8 _
 have hn0 : n0 <= 100000 := by omega
 clear hcm hz h4
 have nx := trivial
 refine' Zj
 refine AW.loop [0, 2, 7, 8] [0, 7] (fun m st => ∃ (n : Nat) (t : Int) (l : List Zd6), st = ZCe pn f1 b en t l n /\ okT b t en /\ l.length + n = n0 /\ bnd (ZcJ one n t) (fun r t => .ok (l ++ r, t)) = A /\ n = m) ?_ ?_
 ·exact ⟨_, n0, q, [], rfl, h2, by simp, hA, rfl⟩
 rintro m st ⟨n, t, l, rfl, ht, hln, hA, rfl⟩
 clear hcount
 rcases n with _ | n
 ·rw [ZcJ] at hA
  simp only [Zg, List.append_nil] at hA
  subst hA
  have hcut : List.take (l.length * 2) (l.flatMap ZgE) = l.flatMap ZgE := Yad (by rw [Zq Zgs]; omega)
  have nx := aI @hcut trivial
  refine' Zj
  all_goals first | exact ⟨trivial, trivial⟩ | exact ⟨rfl, trivial⟩ | exact ⟨rfl, rfl⟩ | exact ⟨trivial, rfl⟩ | (exfalso; omega) | trace_state
 ·have hone := hone t ht
  have hmv := hmv t
  have e1 : IntKind.i64.wrap (((n + 1 : Nat) : Int) - 1) = (n : Int) := by rw [Zb _ (by omega) (by omega)]; omega
  have d1 : decide (((n + 1 : Nat) : Int) > 0) = true := Yae (by omega)
  have hcut : List.take (l.length * 2) (l.flatMap ZgE) = l.flatMap ZgE := Yad (by rw [Zq Zgs]; omega)
  rw [ZcJ] at hA
  rcases hz1 : one t with ⟨e, q⟩ | ⟨x, q⟩
  all_goals
   rw [hz1] at hA hone
   simp only [Zg, Zd] at hA hone
  ·subst hA
   have nx := aI @e1 (aI @d1 (aI @hcut trivial))
   refine' Zj
   all_goals first | exact ⟨trivial, trivial⟩ | exact ⟨rfl, trivial⟩ | exact ⟨rfl, rfl⟩ | exact ⟨trivial, rfl⟩ | (exfalso; omega) | trace_state
  ·have ht2 := hmv _ _ ht hz1
   rw [Zd9] at hA
   have hl2 : (l ++ [x]).length = l.length + 1 := by simp
   obtain ⟨xl, xc⟩ := x
   have hs2 : l.flatMap ZgE ++ [.view xl.length 1 (Zh .i64 xl), .view xc.length 6 (Zah xc)] = (l ++ ([⟨xl, xc⟩] : List Zd6)).flatMap ZgE := (Zai (f := ZgE) l (⟨xl, xc⟩ : Zd6)).symm
   (try unfold ZgE at hone)
   have nx := aI @e1 (aI @d1 (aI @hcut trivial))
   refine' Zj
   all_goals first
    | exact ⟨n, by omega, n, q, l ++ [⟨xl, xc⟩], by rw [ZCe, hl2, <- hs2]; rfl, ht2, by rw [hl2]; omega, hA, rfl⟩
end
end Go.Proofs.YtimhmpdfioihlaaGreatDoor
