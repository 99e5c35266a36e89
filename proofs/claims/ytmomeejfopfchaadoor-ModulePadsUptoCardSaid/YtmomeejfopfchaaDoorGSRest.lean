/- Cut, doubled and added sections, in plain. -/
import Derived.Test.YtmomeejfopfchaaDoorGTy
import Derived.Test.YtmomeejfopfchaaDoorGMCut
import Derived.Test.YtmomeejfopfchaaDoorDP
import Derived.Test.YtmomeejfopfchaaDoorGTabs
import Derived.Test.YtmomeejfopfchaaDoorCB
import Derived.Test.YtmomeejfopfchaaDoorGOneImp
import Derived.Test.YtmomeejfopfchaaDoorGMSec
set_option linter.unusedSimpArgs false
set_option linter.unusedVariables false
namespace Go.Proofs.YtmomeejfopfchaaDoor
set_option maxRecDepth 20000
open Go Go.Abs
theorem cb25 : callable Tryd.prog 25 = true := by kernel_rfl
abbrev hd8 : List Int := [0, 97, 115, 109, 1, 0, 0, 0]
def modS : Mod := { mod0 with start := -1 }
theorem head_err (b : List Int) : ∀ (l : List Int) (p : Int) {e q : Int}, headT b l p = .error (e, q) -> e = 10
  | [], p, e, q, h => by rw [headT] at h; cases h
  | c :: l, p, e, q, h => by
    rw [headT] at h
    unfold byteT at h
    split at h
    · cases h; rfl
    · rw [bnd_ok] at h
      unfold mustT at h
      split at h
      · exact head_err b l _ h
      · cases h; rfl
theorem head_ok (b : List Int) : ∀ (l : List Int) (p : Int) {u : Unit} {q : Int}, 0 <= p -> headT b l p = .ok (u, q) -> q = p + l.length /\ (l ≠ [] -> q <= b.length)
  | [], p, u, q, _, h => by rw [headT] at h; cases h; exact ⟨by simp, fun h => absurd rfl h⟩
  | c :: l, p, u, q, hp, h => by
    rw [headT] at h
    unfold byteT at h
    split at h
    · cases h
    · rename_i c0
      rw [bnd_ok] at h
      unfold mustT at h
      split at h
      · have := head_ok b l _ (by omega) h
        rw [List.length_cons]
        refine ⟨by omega, fun _ => ?_⟩
        rcases l with _ | ⟨y, l⟩
        · simp at this; omega
        · exact this.2 (by simp)
      · cases h
theorem head_agree {b c : List Int} {k : Nat} (hkb : k <= b.length) (hc : c.take k = b.take k) (hkc : k <= c.length) : ∀ (l : List Int) (p : Int), 0 <= p -> p + l.length <= k -> headT c l p = headT b l p
  | [], p, _, _ => rfl
  | x :: l, p, hp, h => by
    rw [List.length_cons] at h
    have hg : c.getD p.toNat 0 = b.getD p.toNat 0 := by
      have e1 : (c.take k).getD p.toNat 0 = (b.take k).getD p.toNat 0 := by rw [hc]
      simp only [List.getD_eq_getElem?_getD] at e1 ⊢
      rwa [List.getElem?_take_of_lt (by omega), List.getElem?_take_of_lt (by omega)] at e1
    rw [headT, headT]
    unfold byteT
    rw [if_neg (by omega), if_neg (by omega), bnd_ok, bnd_ok, hg]
    unfold mustT
    by_cases e : b.getD p.toNat 0 = x
    · rw [if_pos e, if_pos e]
      exact head_agree hkb hc hkc l (p + 1) (by omega) (by omega)
    · rw [if_neg e, if_neg e]
theorem any_run {b : List Int} (hb : bytes b) {m : Mod} {q : Int} (h : anyT b = .ok (m, q)) : headT b hd8 0 = .ok ((), 8) /\ 8 <= b.length /\ ∃ ps l2, Run b 0 modS 8 ps l2 m b.length /\ m.codes.length = m.funcs.length := by
  unfold anyT at h
  rcases hx : headT b hd8 0 with e | ⟨⟨⟩, t⟩
  · rw [hx, bnd_err] at h; cases h
  obtain ⟨rfl, ht⟩ := head_ok b _ _ (Int.le_refl _) hx
  have ht := ht (by simp)
  rw [hx, bnd_ok] at h
  simp only [List.length_cons, List.length_nil] at ht h
  rcases hy : secsT b b.length 0 { mod0 with start := -1 } (0 + ((0 + 1 + 1 + 1 + 1 + 1 + 1 + 1 + 1 : Nat) : Int)) with e | ⟨m', t⟩
  · rw [hy, bnd_err] at h; cases h
  rw [hy, bnd_ok] at h
  unfold mustT at h
  split at h
  · rename_i hl
    cases h
    obtain ⟨ps, l2, hr, hq⟩ := secs_run hb b.length (by omega) (by omega) (by omega) hy
    have := run_bnd hr hb (by omega)
    obtain rfl : q = b.length := by omega
    exact ⟨rfl, by omega, ps, l2, hr, hl⟩
  · cases h
theorem any_of {c : List Int} (hb : bytes c) {ps : List Int} {l2 : Int} {m2 : Mod} {q : Int} (hh : headT c hd8 0 = .ok ((), 8)) (hl : 8 <= c.length) (hr : Run c 0 modS 8 ps l2 m2 q) : ∃ n' : Nat, (c.length : Int) - q <= n' /\ anyT c = bnd (secsT c n' l2 m2 q) fun m t => mustT (m.codes.length = m.funcs.length) (fun t => .ok (m, t)) t := by
  obtain ⟨n', h1, h2⟩ := run_secs hr hb c.length (by omega) (by omega)
  refine ⟨n', h1, ?_⟩
  unfold anyT
  rw [hh, bnd_ok]
  show bnd (secsT c c.length 0 modS 8) _ = _
  rw [h2]
theorem any_bad {c : List Int} (hb : bytes c) {ps : List Int} {l2 : Int} {m2 : Mod} {q : Int} (hh : headT c hd8 0 = .ok ((), 8)) (hl : 8 <= c.length) (hr : Run c 0 modS 8 ps l2 m2 q) (hq : q < c.length) {z : Int × Int} (he : sec1 c l2 m2 q = .error z) : anyT c = .error z := by
  obtain ⟨n', h1, h2⟩ := any_of hb hh hl hr
  rw [h2]
  rcases n' with _ | n'
  · omega
  rw [secsT, if_pos hq, he, bnd_err, bnd_err]
theorem any_end {c : List Int} (hb : bytes c) {ps : List Int} {l2 : Int} {m2 : Mod} (hh : headT c hd8 0 = .ok ((), 8)) (hl : 8 <= c.length) (hr : Run c 0 modS 8 ps l2 m2 c.length) : anyT c = if m2.codes.length = m2.funcs.length then .ok (m2, (c.length : Int)) else .error (10, (c.length : Int)) := by
  obtain ⟨n', h1, h2⟩ := any_of hb hh hl hr
  rw [h2]
  have : secsT c n' l2 m2 c.length = .ok (m2, (c.length : Int)) := by
    rcases n' with _ | n'
    · rfl
    · rw [secsT, if_neg (by omega)]
  rw [this, bnd_ok]; rfl
theorem dec_any {b : List Int} (hl : b.length <= 16384) : decS b = match anyT b with
  | .ok (m, _) => (m, 0)
  | .error (e, _) => (mod0, e) := if_neg (by omega)
theorem secT_keeps {ys : List Int} {id : Int} {m m1 : Mod} {p t : Int} (h : secT ys id m p = .ok (m1, t)) : (id ≠ 1 -> m1.types = m.types) /\ (id ≠ 3 -> m1.funcs = m.funcs) /\ (id ≠ 10 -> m1.codes = m.codes) := by
  have key : ∀ {α : Type} (y : Res α) (f : α -> Mod), bnd y (fun l t => .ok (f l, t)) = .ok (m1, t) -> ∃ a, m1 = f a := by
    intro α y f hb
    rcases y with e | ⟨a, t0⟩
    · rw [bnd_err] at hb; cases hb
    · rw [bnd_ok] at hb; cases hb; exact ⟨a, rfl⟩
  unfold secT at h
  by_cases c1 : id = 1
  · rw [if_pos c1] at h; obtain ⟨a, rfl⟩ := key _ _ h; exact ⟨fun h => absurd c1 h, fun _ => rfl, fun _ => rfl⟩
  rw [if_neg c1] at h
  by_cases c2 : id = 2
  · rw [if_pos c2] at h; obtain ⟨a, rfl⟩ := key _ _ h; exact ⟨fun _ => rfl, fun _ => rfl, fun _ => rfl⟩
  rw [if_neg c2] at h
  by_cases c3 : id = 3
  · rw [if_pos c3] at h; obtain ⟨a, rfl⟩ := key _ _ h; exact ⟨fun _ => rfl, fun h => absurd c3 h, fun _ => rfl⟩
  rw [if_neg c3] at h
  by_cases c4 : id = 4
  · rw [if_pos c4] at h; obtain ⟨a, rfl⟩ := key _ _ h; exact ⟨fun _ => rfl, fun _ => rfl, fun _ => rfl⟩
  rw [if_neg c4] at h
  by_cases c5 : id = 5
  · rw [if_pos c5] at h; obtain ⟨a, rfl⟩ := key _ _ h; exact ⟨fun _ => rfl, fun _ => rfl, fun _ => rfl⟩
  rw [if_neg c5] at h
  by_cases c6 : id = 6
  · rw [if_pos c6] at h; obtain ⟨a, rfl⟩ := key _ _ h; exact ⟨fun _ => rfl, fun _ => rfl, fun _ => rfl⟩
  rw [if_neg c6] at h
  by_cases c7 : id = 7
  · rw [if_pos c7] at h; obtain ⟨a, rfl⟩ := key _ _ h; exact ⟨fun _ => rfl, fun _ => rfl, fun _ => rfl⟩
  rw [if_neg c7] at h
  by_cases c8 : id = 8
  · rw [if_pos c8] at h; obtain ⟨a, rfl⟩ := key _ _ h; exact ⟨fun _ => rfl, fun _ => rfl, fun _ => rfl⟩
  rw [if_neg c8] at h
  by_cases c9 : id = 9
  · rw [if_pos c9] at h; obtain ⟨a, rfl⟩ := key _ _ h; exact ⟨fun _ => rfl, fun _ => rfl, fun _ => rfl⟩
  rw [if_neg c9] at h
  by_cases c10 : id = 10
  · rw [if_pos c10] at h; obtain ⟨a, rfl⟩ := key _ _ h; exact ⟨fun _ => rfl, fun _ => rfl, fun h => absurd c10 h⟩
  rw [if_neg c10] at h
  by_cases c11 : id = 11
  · rw [if_pos c11] at h; obtain ⟨a, rfl⟩ := key _ _ h; exact ⟨fun _ => rfl, fun _ => rfl, fun _ => rfl⟩
  rw [if_neg c11] at h
  cases h; exact ⟨fun _ => rfl, fun _ => rfl, fun _ => rfl⟩
theorem sec1_keeps {b : List Int} {last : Int} {m : Mod} {p l1 : Int} {m1 : Mod} {t : Int} (h : sec1 b last m p = .ok ((l1, m1), t)) : (l1 = last /\ m1 = m) \/ (l1 > last /\ b.getD p.toNat 0 = l1 /\ (l1 ≠ 1 -> m1.types = m.types) /\ (l1 ≠ 3 -> m1.funcs = m.funcs) /\ (l1 ≠ 10 -> m1.codes = m.codes)) := by
  obtain ⟨id, n, s, hs, hx, he⟩ := sec1_inv h
  by_cases c : id = 0
  · rw [if_pos c] at hx; cases hx; exact .inl ⟨rfl, rfl⟩
  · rw [if_neg c] at hx he
    obtain ⟨hx1, hx2, hx3⟩ := hx
    simp only at hx1
    subst hx1
    right
    refine ⟨hx2, hs.id, ?_⟩
    rw [he] at h
    unfold inT mustT at h
    simp only at h
    rw [if_pos ⟨hx2, hx3⟩] at h
    rcases hy : secT (b.take t.toNat) l1 m s with e | ⟨a, q⟩
    · rw [hy] at h; simp only [bnd_err] at h; cases h
    · rw [hy] at h; simp only [bnd_ok] at h
      unfold doneT mustT at h
      by_cases c5 : q = ((b.take t.toNat).length : Int)
      · rw [if_pos c5] at h; cases h; exact secT_keeps hy
      · rw [if_neg c5] at h; cases h
structure Emp (last : Int) (m : Mod) : Prop where
  t : last < 1 -> m.types = []
  f : last < 3 -> m.funcs = []
  c : last < 10 -> m.codes = []
theorem run_mono {b : List Int} {last : Int} {m : Mod} {p l2 : Int} {m2 : Mod} {q : Int} {ps : List Int} (hr : Run b last m p ps l2 m2 q) : Emp last m -> Emp l2 m2 /\ last <= l2 /\ m.types.length <= m2.types.length /\ m.funcs.length <= m2.funcs.length /\ m.codes.length <= m2.codes.length := by
  induction hr with
  | nil => exact fun h => ⟨h, Int.le_refl _, Nat.le_refl _, Nat.le_refl _, Nat.le_refl _⟩
  | @cons last m p l1 m1 t ps l2 m2 q h hr ih =>
    intro hE
    have h1 : Emp l1 m1 /\ last <= l1 /\ m.types.length <= m1.types.length /\ m.funcs.length <= m1.funcs.length /\ m.codes.length <= m1.codes.length := by
      rcases sec1_keeps h with ⟨rfl, rfl⟩ | ⟨h1, _, h2, h3, h4⟩
      · exact ⟨hE, Int.le_refl _, Nat.le_refl _, Nat.le_refl _, Nat.le_refl _⟩
      · refine ⟨⟨fun h => ?_, fun h => ?_, fun h => ?_⟩, by omega, ?_, ?_, ?_⟩
        · rw [h2 (by omega)]; exact hE.t (by omega)
        · rw [h3 (by omega)]; exact hE.f (by omega)
        · rw [h4 (by omega)]; exact hE.c (by omega)
        · by_cases c : l1 = 1
          · rw [hE.t (by omega)]; exact Nat.zero_le _
          · rw [h2 c]; exact Nat.le_refl _
        · by_cases c : l1 = 3
          · rw [hE.f (by omega)]; exact Nat.zero_le _
          · rw [h3 c]; exact Nat.le_refl _
        · by_cases c : l1 = 10
          · rw [hE.c (by omega)]; exact Nat.zero_le _
          · rw [h4 c]; exact Nat.le_refl _
    have h2 := ih h1.1
    exact ⟨h2.1, by omega, by omega, by omega, by omega⟩
theorem emp0 : Emp 0 modS := ⟨fun _ => rfl, fun _ => rfl, fun _ => rfl⟩
theorem cut_at {b : List Int} (hb : bytes b) (hl : b.length <= 16384) {m : Mod} {ps : List Int} {l2 : Int} (hh : headT b hd8 0 = .ok ((), 8)) (h8 : 8 <= b.length) (hr : Run b 0 modS 8 ps l2 m b.length) (hcf : m.codes.length = m.funcs.length) {k : Nat} (hk : (k : Int) ∈ ps) (hkl : k <= b.length) (hk8 : 8 <= k) :
    ((decS (b.take k)).2 = 0 /\ (decS (b.take k)).1.funcs.length = (decS (b.take k)).1.codes.length /\ (decS (b.take k)).1.types.length <= m.types.length) \/ (decS (b.take k) = (mod0, 10) /\ 0 < m.funcs.length) := by
  have hlk : (b.take k).length = k := by rw [List.length_take]; omega
  obtain ⟨i, hi, hie⟩ := List.getElem_of_mem hk
  obtain ⟨l1, m1, ps1, ps2, h1, h2, h3⟩ := run_split hr i hi
  rw [hie] at h1 h2
  have hc : (b.take k).take k = b.take k := by rw [List.take_take, Nat.min_self]
  have h4 := run_agree h1 hb (k := k) hkl hc (by omega) (by omega) (Int.le_refl _)
  have hh2 : headT (b.take k) hd8 0 = .ok ((), 8) := (head_agree hkl hc (by omega) hd8 0 (Int.le_refl _) (by simp; omega)).trans hh
  have h5 := any_end (c := b.take k) (bytes_take hb k) hh2 (by omega) (by rw [hlk]; exact h4)
  obtain ⟨e1, _, g1, g2, g3⟩ := run_mono h1 emp0
  obtain ⟨_, _, g4, g5, g6⟩ := run_mono h2 e1
  rw [dec_any (by omega), h5]
  by_cases c : m1.codes.length = m1.funcs.length
  · rw [if_pos c]; exact .inl ⟨rfl, c.symm, g4⟩
  · rw [if_neg c]; exact .inr ⟨rfl, by omega⟩
theorem cut_in {b : List Int} (hb : bytes b) (hl : b.length <= 16384) {m : Mod} {ps : List Int} {l2 : Int} (hh : headT b hd8 0 = .ok ((), 8)) (h8 : 8 <= b.length) (hr : Run b 0 modS 8 ps l2 m b.length) {k : Nat} (hk : (k : Int) ∉ ps) (hkl : k <= b.length) : decS (b.take k) = (mod0, 10) := by
  have hlk : (b.take k).length = k := by rw [List.length_take]; omega
  have hc : (b.take k).take k = b.take k := by rw [List.take_take, Nat.min_self]
  rw [dec_any (by omega)]
  by_cases c : k < 8
  · rcases hx : headT (b.take k) hd8 0 with ⟨e, q⟩ | ⟨u, q⟩
    · obtain rfl := head_err _ _ _ hx
      have : anyT (b.take k) = .error (10, q) := by unfold anyT; rw [hx]; rfl
      rw [this]
    · have := head_ok _ _ _ (Int.le_refl _) hx
      simp at this; omega
  · rcases run_cut hr k (by omega) (by omega) with h | ⟨l1, m1, s, x, t, ps1, h1, h2, h3, h4⟩
    · exact absurd h hk
    · have hs := run_bnd h1 hb ⟨by omega, by omega⟩
      obtain ⟨q, hq⟩ := sec1_cut hb (by omega) h2 h3 h4
      have h5 := run_agree h1 hb (k := k) hkl hc (by omega) (by omega) (by omega)
      have hh2 : headT (b.take k) hd8 0 = .ok ((), 8) := (head_agree hkl hc (by omega) hd8 0 (Int.le_refl _) (by simp; omega)).trans hh
      rw [any_bad (bytes_take hb k) hh2 (by omega) h5 (by omega) hq]
theorem sec1_low {c : List Int} {last : Int} {m : Mod} {p id n s : Int} (hp : p < c.length) (hid : c.getD p.toNat 0 = id) (hn : nmT c (p + 1) = .ok (n, s)) (hs : s + n <= c.length) (h0 : id ≠ 0) (hlow : ¬ (id > last /\ id <= 11)) : sec1 c last m p = .error (10, s + n) := by
  unfold sec1 byteT
  rw [if_neg (by omega), bnd_ok, hid]
  unfold partT partN
  rw [hn, bnd_ok, if_neg (by omega), bnd_ok, if_neg h0]
  unfold inT mustT
  simp only
  rw [if_neg hlow]
theorem run_join {b : List Int} {last : Int} {m : Mod} {p l1 : Int} {m1 : Mod} {t : Int} {ps : List Int} (h1 : Run b last m p ps l1 m1 t) : ∀ {l2 : Int} {m2 : Mod} {q : Int} {ps2 : List Int}, Run b l1 m1 t ps2 l2 m2 q -> ∃ ps3, Run b last m p ps3 l2 m2 q := by
  induction h1 with
  | nil => exact fun h => ⟨_, h⟩
  | cons h hr ih => intro l2 m2 q ps2 h2; obtain ⟨ps3, h3⟩ := ih h2; exact ⟨_, .cons h h3⟩
theorem run_det {b : List Int} (hb : bytes b) {last : Int} {m : Mod} {p l1 : Int} {m1 : Mod} {t : Int} {ps : List Int} (h1 : Run b last m p ps l1 m1 t) : ∀ {l2 : Int} {m2 : Mod} {ps2 : List Int}, 0 <= p -> p <= b.length -> Run b last m p ps2 l2 m2 t -> l1 = l2 /\ m1 = m2 := by
  induction h1 with
  | nil last m p =>
    intro l2 m2 ps2 hp hp2 h2
    cases h2 with
    | nil => exact ⟨rfl, rfl⟩
    | cons h hr =>
      have h3 := sec1_lt hb hp h
      have h4 := run_bnd hr hb ⟨by omega, h3.2⟩
      omega
  | @cons last m p la ma ta ps l2 m2 q h hr ih =>
    intro l3 m3 ps2 hp hp2 h2
    have h3 := sec1_lt hb hp h
    cases h2 with
    | nil =>
      have h4 := run_bnd hr hb ⟨by omega, h3.2⟩
      omega
    | cons h' hr' =>
      rw [h] at h'
      cases h'
      exact ih (by omega) h3.2 hr'
theorem order_twice {b : List Int} (hb : bytes b) {m : Mod} {ps : List Int} {l2 : Int} (hh : headT b hd8 0 = .ok ((), 8)) (h8 : 8 <= b.length) (hr : Run b 0 modS 8 ps l2 m b.length) {i j : Nat} (hij : i < j) (hj : j < ps.length) {pi pi1 pj : Nat} (e1 : ps[i]'(by omega) = pi) (e2 : ps[i + 1]'(by omega) = pi1) (e3 : ps[j] = pj) (h0 : b.getD pi 0 ≠ 0)
    (hl : (b.take pj ++ (b.take pi1).drop pi ++ b.drop pj).length <= 16384) : decS (b.take pj ++ (b.take pi1).drop pi ++ b.drop pj) = (mod0, 10) := by
  obtain ⟨l1, m1, ps1, ps2, h1, h2, h3⟩ := run_split hr j hj
  have hlen2 := run_head h2
  rw [e3] at h1 h2
  obtain ⟨l0, m0, qs1, qs2, g1, g2, g3⟩ := run_split hr i (by omega)
  rw [e1] at g1 g2
  have hbi := run_bnd g1 hb ⟨by omega, by omega⟩
  cases g2 with
  | nil =>
    have := congrArg List.length g3
    simp at this
    omega
  | @cons _ _ _ la ma ta pt _ _ _ hsec g2 =>
    have hta : ta = pi1 := by
      obtain ⟨l, hl⟩ := run_head g2
      have : (ps.drop i)[1]? = some ta := by rw [<- g3, hl]; rfl
      rw [List.getElem?_drop, List.getElem?_eq_getElem (by omega), e2] at this
      exact (Option.some.inj this).symm
    subst hta
    have hlt := sec1_lt hb (by omega) hsec
    obtain ⟨id, n, s, hS, hx, _⟩ := sec1_inv hsec
    have hid : id = b.getD pi 0 := by have := hS.id; simpa using this.symm
    have hid0 : id ≠ 0 := by rw [hid]; exact h0
    rw [if_neg hid0] at hx
    have hge : id <= l1 := by
      have hj2 : j - (i + 1) < pt.length := by
        have := congrArg List.length g3
        simp at this
        omega
      obtain ⟨l3, m3, qs3, qs4, k1, k2, k3⟩ := run_split g2 (j - (i + 1)) hj2
      have hpt : pt = ps.drop (i + 1) := by
        have h := congrArg List.tail g3
        simpa using h
      have epj : pt[j - (i + 1)] = pj := by
        subst hpt
        rw [List.getElem_drop]
        simp only [show i + 1 + (j - (i + 1)) = j by omega]
        exact e3
      rw [epj] at k1 k2
      have hmE := (run_mono g1 emp0).1
      have : Emp la ma := (run_mono (.cons hsec (.nil _ _ _)) hmE).1
      have hm3 := (run_mono k1 this).2.1
      obtain ⟨ps3, hj3⟩ := run_join g1 (.cons hsec k1)
      have hd : l3 = l1 := (run_det hb hj3 (by omega) (by omega) h1).1
      simp only at hx
      omega
    have hpj := run_bnd h1 hb ⟨by omega, by omega⟩
    have hSs := nm_bnd (by have := hS.lt; omega) hS.nm
    have hnn := nm_nat hb (by have := hS.lt; omega) hS.nm
    have htt := hS.tt
    have hA : (b.take pj).length = pj := by rw [List.length_take]; omega
    have hB : ((b.take pi1).drop pi).length = pi1 - pi := by rw [List.length_drop, List.length_take]; omega
    obtain ⟨C, hC⟩ : ∃ C, b.take pj ++ (b.take pi1).drop pi ++ b.drop pj = C := ⟨_, rfl⟩
    have hCl : C.length = pj + (pi1 - pi) + (b.length - pj) := by rw [<- hC, List.length_append, List.length_append, hA, hB, List.length_drop]
    have hCt : C.take pj = b.take pj := by rw [<- hC, List.append_assoc, List.take_append_of_le_length (by omega), List.take_take, Nat.min_self]
    have hCd : C.drop pj = (b.take pi1).drop pi ++ b.drop pj := by rw [<- hC, List.append_assoc, List.drop_append_of_le_length (by omega), List.drop_of_length_le (by omega), List.nil_append]
    have hbC : bytes C := by
      intro x hx
      rw [<- hC] at hx
      simp only [List.mem_append] at hx
      rcases hx with (hx | hx) | hx
      · exact hb x (List.mem_of_mem_take hx)
      · exact hb x (List.mem_of_mem_take (List.mem_of_mem_drop hx))
      · exact hb x (List.mem_of_mem_drop hx)
    rw [hC] at hl ⊢
    have hrC := run_agree h1 hb (k := pj) (by omega) hCt (by omega) (by omega) (Int.le_refl _)
    have hhC : headT C hd8 0 = .ok ((), 8) := (head_agree (k := pj) (by omega) hCt (by omega) hd8 0 (Int.le_refl _) (by simp; omega)).trans hh
    have hsub : (C.drop (pj + 1)).take (pi1 - (pi + 1)) = (b.drop (pi + 1)).take (pi1 - (pi + 1)) := by
      rw [<- List.drop_drop, hCd, List.drop_append_of_le_length (by omega), List.drop_drop, List.take_append_of_le_length (by rw [List.length_drop, List.length_take]; omega), List.drop_take, List.take_take, Nat.min_self]
    have hgC : C.getD pj 0 = id := by
      have e : (C.drop pj).getD 0 0 = b.getD pi 0 := by
        rw [hCd]
        simp only [List.getD_eq_getElem?_getD]
        rw [List.getElem?_append_left (by omega), List.getElem?_drop, List.getElem?_take_of_lt (by omega)]; rfl
      rw [hid, <- e]
      simp only [List.getD_eq_getElem?_getD, List.getElem?_drop]; rfl
    have hnC := nm_agree (c := C) (p' := (pj : Int) + 1) (by have := hS.lt; omega) (by omega) hS.nm (j := pi1 - (pi + 1)) (by omega) (by
      rw [show ((pj : Int) + 1).toNat = pj + 1 by omega, show ((pi : Int) + 1).toNat = pi + 1 by omega]; exact hsub)
    have hE := sec1_low (c := C) (last := l1) (m := m1) (p := (pj : Int)) (by omega) (by simpa using hgC) hnC (by omega) hid0 (by omega)
    rw [dec_any hl, any_bad hbC hhC (by omega) hrC (by omega) hE]
theorem order_high {b : List Int} (hb : bytes b) (hl : b.length <= 16000) {m : Mod} {ps : List Int} {l2 : Int} (hh : headT b hd8 0 = .ok ((), 8)) (h8 : 8 <= b.length) (hr : Run b 0 modS 8 ps l2 m b.length) {x : Int} (hx : 12 <= x /\ x <= 255) : decS (b ++ [x, 0]) = (mod0, 10) := by
  have hC : (b ++ [x, 0]).length = b.length + 2 := by simp
  have ht : (b ++ [x, 0]).take b.length = b.take b.length := by rw [List.take_append_of_le_length (Nat.le_refl _)]
  have hbC : bytes (b ++ [x, 0]) := by
    intro y hy
    rw [List.mem_append] at hy
    rcases hy with hy | hy
    · exact hb y hy
    · simp at hy
      rcases hy with rfl | rfl
      · exact ⟨by omega, by omega⟩
      · exact ⟨by omega, by omega⟩
  have hrC := run_agree hr hb (k := b.length) (Nat.le_refl _) ht (by omega) (by omega) (Int.le_refl _)
  have hhC : headT (b ++ [x, 0]) hd8 0 = .ok ((), 8) := (head_agree (k := b.length) (Nat.le_refl _) ht (by omega) hd8 0 (Int.le_refl _) (by simp; omega)).trans hh
  have hg : (b ++ [x, 0]).getD b.length 0 = x := by simp [List.getD_eq_getElem?_getD]
  have hn : nmT (b ++ [x, 0]) ((b.length : Int) + 1) = .ok (0, (b.length : Int) + 1 + 1) := by
    have hd : (b ++ [x, 0]).drop ((b.length : Int) + 1).toNat = [0] := by
      rw [show ((b.length : Int) + 1).toNat = b.length + 1 by omega, <- List.drop_drop, List.drop_append_of_le_length (Nat.le_refl _), List.drop_length]; rfl
    unfold nmT
    rw [uSpec_in (by omega), hd]
    rfl
  have hE := sec1_low (c := b ++ [x, 0]) (id := x) (last := l2) (m := m) (p := (b.length : Int)) (by omega) (by rw [Int.toNat_natCast]; exact hg) hn (by omega) (by omega) (by omega)
  rw [dec_any (by omega), any_bad hbC hhC (by omega) hrC (by omega) hE]
def numG (b : List Int) : Nat -> Nat -> Int -> Int -> Int × Int
  | 0, _, n, at_ => (n, at_)
  | f + 1, sh, n, at_ => if at_ < b.length then
      if b.getD at_.toNat 0 < 128 then (n + b.getD at_.toNat 0 % 128 * 2 ^ sh, at_ + 1) else numG b f (sh + 7) (n + b.getD at_.toNat 0 % 128 * 2 ^ sh) (at_ + 1)
    else (n, at_)
def secG (b : List Int) : Nat -> Int -> List Int
  | 0, _ => []
  | f + 1, at_ => if at_ < b.length then ((numG b 5 0 0 (at_ + 1)).2 + (numG b 5 0 0 (at_ + 1)).1) :: secG b f ((numG b 5 0 0 (at_ + 1)).2 + (numG b 5 0 0 (at_ + 1)).1) else []
theorem numG_uRd {b : List Int} : ∀ (f k : Nat) (v at_ : Int), k + f = 5 -> 1 <= f -> 0 <= at_ -> at_ <= b.length -> (uRd 32 (b.drop at_.toNat) (7 * k) v at_).2.2 = 0 -> numG b f (7 * k) v at_ = ((uRd 32 (b.drop at_.toNat) (7 * k) v at_).1, (uRd 32 (b.drop at_.toNat) (7 * k) v at_).2.1)
  | 0, _, _, _, _, h, _, _, _ => by omega
  | f + 1, k, v, at_, hk, _, h0, h1, h => by
    by_cases c : at_ < b.length
    · have hd : b.drop at_.toNat = b.getD at_.toNat 0 :: b.drop (at_ + 1).toNat := by
        rw [List.drop_eq_getElem_cons (show at_.toNat < b.length by omega), List.getD_eq_getElem?_getD, List.getElem?_eq_getElem (show at_.toNat < b.length by omega), show (at_ + 1).toNat = at_.toNat + 1 by omega]; rfl
      rw [numG, if_pos c]
      rw [hd, uRd] at h ⊢
      split at h
      · simp at h
      · rename_i c2
        rw [if_neg c2]
        by_cases c3 : b.getD at_.toNat 0 < 128
        · rw [if_pos c3, if_pos c3]
        · rw [if_neg c3] at h ⊢
          rw [if_neg c3]
          rcases f with _ | f
          · obtain rfl : k = 4 := by omega
            exact absurd (.inr ⟨by omega, by omega⟩) c2
          · have := numG_uRd (f + 1) (k + 1) (v + b.getD at_.toNat 0 % 128 * 2 ^ (7 * k)) (at_ + 1) (by omega) (by omega) (by omega) (by omega) h
            exact this
    · rw [List.drop_of_length_le (by omega)] at h
      simp [uRd] at h
theorem secG_run {b : List Int} {last : Int} {m : Mod} {p l2 : Int} {m2 : Mod} {q : Int} {ps : List Int} (hr : Run b last m p ps l2 m2 q) (hb : bytes b) : ∀ f : Nat, 0 <= p -> (b.length : Int) - p <= f -> q = b.length -> ps = p :: secG b f p := by
  induction hr with
  | nil last m p =>
    rintro f _ _ rfl
    cases f with
    | zero => rfl
    | succ f => rw [secG, if_neg (by omega)]
  | @cons last m p l1 m1 t ps l2 m2 q h hr ih =>
    intro f hp hf hq
    obtain ⟨id, n, s, hs, _, _⟩ := sec1_inv h
    have h1 := hs.lt
    have h2 := sec1_lt hb hp h
    rcases f with _ | f
    · omega
    have hnm := hs.nm
    unfold nmT at hnm
    split at hnm
    · cases hnm
    rename_i hz
    have hz := Classical.not_not.1 hz
    rw [uSpec_in (by omega)] at hz hnm
    have hg := numG_uRd (b := b) 5 0 0 (p + 1) rfl (by omega) (by omega) (by omega) hz
    cases hnm
    rw [secG, if_pos h1]
    rw [Nat.mul_zero] at hg
    rw [hg]
    have htt := hs.tt
    simp only
    rw [<- htt, ih f (by omega) (by omega) hq]
theorem secG_len (b : List Int) : ∀ (f : Nat) (p : Int), (secG b f p).length <= f
  | 0, _ => Nat.le_refl _
  | f + 1, p => by
    rw [secG]
    split
    · rw [List.length_cons]; have := secG_len b f ((numG b 5 0 0 (p + 1)).2 + (numG b 5 0 0 (p + 1)).1); omega
    · exact Nat.zero_le _
end Go.Proofs.YtmomeejfopfchaaDoor
namespace Go.Proofs.YtmomeejfopfchaaDoor
set_option maxRecDepth 20000
open Go Go.Abs
structure SmC (c : List Ins) : Prop where
  n : c.length <= 1000000000000
  l : ∀ i ∈ c, i.l.length <= 1000000000000
theorem numS_lt {b : List Int} (hb : bytes b) (r : Rd) : 0 <= (numS b r).1 /\ (numS b r).1 < 4294967296 := by
  unfold numS
  split
  · simp
  · split
    · simp
    · rename_i c
      have c := Classical.not_not.1 c
      by_cases h : 0 <= r.pos /\ r.pos <= b.length
      · exact (uSpec_ok hb h c).1
      · unfold uSpec at c ⊢
        rw [if_pos (by omega)] at c
        simp at c
theorem tabS_len (b : List Int) : ∀ (n : Nat) (r : Rd) (l : List Int), (tabS b n r l).1.length <= l.length + n
  | 0, r, l => by rw [tabS]; exact Nat.le_refl _
  | n + 1, r, l => by
    rw [tabS]
    split
    · have := tabS_len b n (numS b r).2 (l ++ [(numS b r).1])
      rw [List.length_append] at this
      simp only [List.length_cons, List.length_nil] at this
      omega
    · simp only; omega
theorem fieldsS_l {b : List Int} (hb : bytes b) (form : Int) (r : Rd) (i : Ins) : (fieldsS b form r i).1.l.length <= i.l.length + 4294967296 := by
  unfold fieldsS
  repeat' split
  all_goals first
    | (show i.l.length <= _; omega)
    | skip
  have h1 := tabS_len b (numS b r).1.toNat (numS b r).2 i.l
  have h2 := numS_lt hb r
  simp only
  omega
theorem instrS_l {b : List Int} (hb : bytes b) (r : Rd) : (instrS b r).1.l.length <= 4294967296 := by
  unfold instrS bodyS
  simp only
  split
  · exact Nat.le_trans (fieldsS_l hb _ _ _) (by simp)
  · simp
theorem readL_sm {b : List Int} (hb : bytes b) : ∀ (n : Nat) (r : Rd) (l : List Ins), (∀ i ∈ l, i.l.length <= 1000000000000) -> (readL b n r l).1.length <= l.length + n /\ ∀ i ∈ (readL b n r l).1, i.l.length <= 1000000000000
  | 0, r, l, hl => by rw [readL]; exact ⟨by simp, fun i hi => by cases hi⟩
  | n + 1, r, l, hl => by
    have h1 : ∀ i ∈ l ++ [(instrS b r).1], i.l.length <= 1000000000000 := by
      intro i hi
      rcases List.mem_append.1 hi with hi | hi
      · exact hl i hi
      · simp at hi; subst hi; exact Nat.le_trans (instrS_l hb r) (by decide)
    have e : (l ++ [(instrS b r).1]).length = l.length + 1 := by simp
    rw [readL]
    split
    · exact ⟨by simp, fun i hi => by cases hi⟩
    · split
      · split
        · exact ⟨by simp only; omega, h1⟩
        · have := readL_sm hb n (closeS (instrS b r).2).2 _ h1
          exact ⟨by omega, this.2⟩
      · have := readL_sm hb n (instrS b r).2 _ h1
        exact ⟨by omega, this.2⟩
theorem readS_sm {b : List Int} (hb : bytes b) (hl : b.length <= 100000000) (p : Int) : SmC (readS b p).1 := by
  unfold readS
  split
  · exact ⟨by simp, fun i hi => by cases hi⟩
  · have := readL_sm hb (b.length + 1) ⟨p, [], [], 0⟩ [] (fun i hi => by cases hi)
    exact ⟨by have := this.1; simp only [List.length_nil] at this; omega, this.2⟩
structure SmM (m : Mod) : Prop where
  ty : m.types.length <= 1000000000000
  tys : ∀ s ∈ m.types, s.i.length <= 1000000000000 /\ s.o.length <= 1000000000000
  im : m.imports.length <= 1000000000000
  fu : m.funcs.length <= 1000000000000
  ta : m.tables.length <= 1000000000000
  me : m.mems.length <= 1000000000000
  gl : m.globals.length <= 1000000000000
  gls : ∀ g ∈ m.globals, SmC g.c
  ex : m.exports.length <= 1000000000000
  el : m.elems.length <= 1000000000000
  els : ∀ e ∈ m.elems, SmC e.c /\ e.f.length <= 1000000000000
  co : m.codes.length <= 1000000000000
  cos : ∀ c ∈ m.codes, c.l.length <= 1000000000000 /\ SmC c.c
  da : m.datas.length <= 1000000000000
  das : ∀ d ∈ m.datas, SmC d.c /\ bytes d.b
theorem bndI {α β : Type} {x : Res α} {f : α -> Int -> Res β} {b : β} {t : Int} (h : bnd x f = .ok (b, t)) : ∃ a q, x = .ok (a, q) /\ f a q = .ok (b, t) := by
  rcases x with e | ⟨a, q⟩
  · rw [bnd_err] at h; cases h
  · exact ⟨a, q, rfl, h⟩
theorem mustI {α : Type} {c : Prop} [Decidable c] {x : Int -> Res α} {t : Int} {z : α × Int} (h : mustT c x t = .ok z) : c /\ x t = .ok z := by
  unfold mustT at h
  split at h
  · rename_i hc; exact ⟨hc, h⟩
  · cases h
theorem cntI {xs : List Int} {most p n t : Int} (h : cntT xs most p = .ok (n, t)) : n <= most := by
  unfold cntT at h
  obtain ⟨a, q, h1, h2⟩ := bndI h
  split at h2
  · cases h2
  · cases h2; omega
theorem rowT_all {α : Type} {one : Int -> Res α} {P : α -> Prop} (h : ∀ p a t, one p = .ok (a, t) -> P a) : ∀ (n : Nat) (p : Int) (l : List α) (t : Int), rowT one n p = .ok (l, t) -> l.length = n /\ ∀ a ∈ l, P a
  | 0, p, l, t, he => by rw [rowT] at he; cases he; exact ⟨rfl, fun a ha => by cases ha⟩
  | n + 1, p, l, t, he => by
    rw [rowT] at he
    obtain ⟨a, q, h1, h2⟩ := bndI he
    obtain ⟨l', q', h3, h4⟩ := bndI h2
    cases h4
    obtain ⟨h5, h6⟩ := rowT_all h n q l' _ h3
    refine ⟨by simp [h5], fun x hx => ?_⟩
    rcases List.mem_cons.1 hx with rfl | hx
    · exact h _ _ _ h1
    · exact h6 x hx
theorem rowsT_all {α : Type} {xs : List Int} {most : Int} {one : Int -> Res α} {P : α -> Prop} (h : ∀ p a t, one p = .ok (a, t) -> P a) {p : Int} {l : List α} {t : Int} (he : rowsT xs most one p = .ok (l, t)) (hm : most <= 1000000000000) : l.length <= 1000000000000 /\ ∀ a ∈ l, P a := by
  unfold rowsT at he
  obtain ⟨n, q, h1, h2⟩ := bndI he
  have := cntI h1
  obtain ⟨h3, h4⟩ := rowT_all h _ _ _ _ h2
  exact ⟨by omega, h4⟩
theorem exprT_sm {xs : List Int} (hb : bytes xs) (hl : xs.length <= 100000000) {p : Int} {c : List Ins} {t : Int} (h : exprT xs p = .ok (c, t)) : SmC c := by
  unfold exprT at h
  split at h
  · cases h
  · cases h; exact readS_sm hb hl p
theorem runsT_sm {ys : List Int} : ∀ (n : Nat) (l : List Int) (p : Int) (l' : List Int) (t : Int), l.length <= 512 -> runsT ys n l p = .ok (l', t) -> l'.length <= 512
  | 0, l, p, l', t, hl, h => by rw [runsT] at h; cases h; exact hl
  | n + 1, l, p, l', t, hl, h => by
    rw [runsT] at h
    obtain ⟨k, q, h1, h2⟩ := bndI h
    obtain ⟨c, q', h3, h4⟩ := bndI h2
    have := cntI h1
    exact runsT_sm n _ _ _ _ (by rw [List.length_append, List.length_replicate]; omega) h4
theorem secT_sm {ys : List Int} (hb : bytes ys) (hl : ys.length <= 100000000) {id : Int} {m m1 : Mod} {p t : Int} (hm : SmM m) (h : secT ys id m p = .ok (m1, t)) : SmM m1 := by
  unfold secT at h
  by_cases c1 : id = 1
  · rw [if_pos c1] at h; obtain ⟨l, q, h1, h2⟩ := bndI h; cases h2
    obtain ⟨k1, k2⟩ := rowsT_all (P := fun s => s.i.length <= 1000000000000 /\ s.o.length <= 1000000000000) (fun p a t h => by
      unfold sigT at h
      obtain ⟨_, _, _, h⟩ := bndI h
      obtain ⟨_, h⟩ := mustI h
      obtain ⟨i, _, h3, h⟩ := bndI h
      obtain ⟨o, _, h4, h⟩ := bndI h
      cases h
      exact ⟨(rowsT_all (P := fun _ => True) (fun _ _ _ _ => trivial) h3 (by decide)).1, (rowsT_all (P := fun _ => True) (fun _ _ _ _ => trivial) h4 (by decide)).1⟩) h1 (by decide)
    exact { hm with ty := k1, tys := k2 }
  rw [if_neg c1] at h
  by_cases c2 : id = 2
  · rw [if_pos c2] at h; obtain ⟨l, q, h1, h2⟩ := bndI h; cases h2
    exact { hm with im := (rowsT_all (P := fun _ => True) (fun _ _ _ _ => trivial) h1 (by decide)).1 }
  rw [if_neg c2] at h
  by_cases c3 : id = 3
  · rw [if_pos c3] at h; obtain ⟨l, q, h1, h2⟩ := bndI h; cases h2
    exact { hm with fu := (rowsT_all (P := fun _ => True) (fun _ _ _ _ => trivial) h1 (by decide)).1 }
  rw [if_neg c3] at h
  by_cases c4 : id = 4
  · rw [if_pos c4] at h; obtain ⟨l, q, h1, h2⟩ := bndI h; cases h2
    exact { hm with ta := (rowsT_all (P := fun _ => True) (fun _ _ _ _ => trivial) h1 (by decide)).1 }
  rw [if_neg c4] at h
  by_cases c5 : id = 5
  · rw [if_pos c5] at h; obtain ⟨l, q, h1, h2⟩ := bndI h; cases h2
    exact { hm with me := (rowsT_all (P := fun _ => True) (fun _ _ _ _ => trivial) h1 (by decide)).1 }
  rw [if_neg c5] at h
  by_cases c6 : id = 6
  · rw [if_pos c6] at h; obtain ⟨l, q, h1, h2⟩ := bndI h; cases h2
    obtain ⟨k1, k2⟩ := rowsT_all (P := fun g => SmC g.c) (fun p a t h => by
      unfold globT at h
      obtain ⟨_, _, _, h⟩ := bndI h
      obtain ⟨_, _, _, h⟩ := bndI h
      obtain ⟨_, h⟩ := mustI h
      obtain ⟨e, _, h3, h⟩ := bndI h
      cases h
      exact exprT_sm hb hl h3) h1 (by decide)
    exact { hm with gl := k1, gls := k2 }
  rw [if_neg c6] at h
  by_cases c7 : id = 7
  · rw [if_pos c7] at h; obtain ⟨l, q, h1, h2⟩ := bndI h; cases h2
    exact { hm with ex := (rowsT_all (P := fun _ => True) (fun _ _ _ _ => trivial) h1 (by decide)).1 }
  rw [if_neg c7] at h
  by_cases c8 : id = 8
  · rw [if_pos c8] at h; obtain ⟨l, q, h1, h2⟩ := bndI h; cases h2
    exact { hm with }
  rw [if_neg c8] at h
  by_cases c9 : id = 9
  · rw [if_pos c9] at h; obtain ⟨l, q, h1, h2⟩ := bndI h; cases h2
    obtain ⟨k1, k2⟩ := rowsT_all (P := fun e => SmC e.c /\ e.f.length <= 1000000000000) (fun p a t h => by
      unfold elemT at h
      obtain ⟨_, _, _, h⟩ := bndI h
      obtain ⟨_, h⟩ := mustI h
      obtain ⟨e, _, h3, h⟩ := bndI h
      obtain ⟨f, _, h4, h⟩ := bndI h
      cases h
      exact ⟨exprT_sm hb hl h3, (rowsT_all (P := fun _ => True) (fun _ _ _ _ => trivial) h4 (by decide)).1⟩) h1 (by decide)
    exact { hm with el := k1, els := k2 }
  rw [if_neg c9] at h
  by_cases c10 : id = 10
  · rw [if_pos c10] at h; obtain ⟨l, q, h1, h2⟩ := bndI h; cases h2
    obtain ⟨k1, k2⟩ := rowsT_all (P := fun c => c.l.length <= 1000000000000 /\ SmC c.c) (fun p a t h => by
      unfold codeT at h
      obtain ⟨s, t1, _, h⟩ := bndI h
      unfold inT at h
      rcases hy : bodyT (ys.take t1.toNat) s with e | ⟨a', q⟩
      · rw [hy] at h; cases h
      · rw [hy] at h
        cases h
        unfold bodyT at hy
        obtain ⟨_, _, _, hy⟩ := bndI hy
        obtain ⟨l2, _, h3, hy⟩ := bndI hy
        obtain ⟨c, _, h4, hy⟩ := bndI hy
        obtain ⟨_, hy⟩ := mustI hy
        cases hy
        exact ⟨Nat.le_trans (runsT_sm _ _ _ _ _ (by simp) h3) (by decide), exprT_sm (bytes_take hb _) (by rw [List.length_take]; omega) h4⟩) h1 (by decide)
    exact { hm with co := k1, cos := k2 }
  rw [if_neg c10] at h
  by_cases c11 : id = 11
  · rw [if_pos c11] at h; obtain ⟨l, q, h1, h2⟩ := bndI h; cases h2
    obtain ⟨k1, k2⟩ := rowsT_all (P := fun d => SmC d.c /\ bytes d.b) (fun p a t h => by
      unfold dataT at h
      obtain ⟨_, _, _, h⟩ := bndI h
      obtain ⟨_, h⟩ := mustI h
      obtain ⟨e, _, h3, h⟩ := bndI h
      obtain ⟨f, _, h4, h⟩ := bndI h
      cases h
      unfold bytesT at h4
      obtain ⟨_, _, _, h4⟩ := bndI h4
      cases h4
      exact ⟨exprT_sm hb hl h3, fun x hx => hb x (List.mem_of_mem_drop (List.mem_of_mem_take hx))⟩) h1 (by decide)
    exact { hm with da := k1, das := k2 }
  rw [if_neg c11] at h
  cases h; exact hm
theorem sm0 (s : Int) : SmM { mod0 with start := s } := by
  constructor <;> first
    | (show ([] : List _).length <= _; simp)
    | (intro x hx; cases hx)
theorem sec1_sm {b : List Int} (hb : bytes b) (hl : b.length <= 100000000) {last : Int} {m : Mod} {p l1 : Int} {m1 : Mod} {t : Int} (hm : SmM m) (h : sec1 b last m p = .ok ((l1, m1), t)) : SmM m1 := by
  obtain ⟨id, n, s, hs, hx, he⟩ := sec1_inv h
  by_cases c : id = 0
  · rw [if_pos c] at hx; cases hx; exact hm
  · rw [if_neg c] at hx he
    rw [he] at h
    unfold inT at h
    simp only at h
    rcases hy : mustT (id > last /\ id <= 11) (fun p => bnd (secT (b.take t.toNat) id m p) fun m t_1 => doneT (b.take t.toNat) (id, m) t_1) s with e | ⟨a, q⟩
    · rw [hy] at h; cases h
    · rw [hy] at h
      cases h
      obtain ⟨_, hy⟩ := mustI hy
      obtain ⟨m2, _, h3, hy⟩ := bndI hy
      unfold doneT at hy
      obtain ⟨_, hy⟩ := mustI hy
      cases hy
      exact secT_sm (bytes_take hb _) (by rw [List.length_take]; omega) hm h3
theorem run_sm {b : List Int} (hb : bytes b) (hl : b.length <= 100000000) {last : Int} {m : Mod} {p l2 : Int} {m2 : Mod} {q : Int} {ps : List Int} (hr : Run b last m p ps l2 m2 q) : SmM m -> SmM m2 := by
  induction hr with
  | nil => exact id
  | cons h hr ih => exact fun hm => ih (sec1_sm hb hl hm h)
theorem dec_sm {b : List Int} (hb : bytes b) : SmM (decS b).1 := by
  by_cases hl : b.length <= 16384
  · rw [dec_any hl]
    rcases hx : anyT b with ⟨e, t⟩ | ⟨m, t⟩
    · exact sm0 0
    · obtain ⟨_, _, ps, l2, hr, _⟩ := any_run hb hx
      exact run_sm hb (by omega) hr (sm0 _)
  · unfold decS
    rw [if_pos (by omega)]
    exact sm0 0
end Go.Proofs.YtmomeejfopfchaaDoor
namespace Go.Proofs.YtmomeejfopfchaaDoor
set_option maxRecDepth 20000
open Go Go.Abs Nat
attribute [local irreducible] AW AWL AC FW CW CWr IntKind.wrap
def G17 (xs ys : List Int) (i : Int) : St :=
  { n := 26, slots := [(0, .view xs.length 1 (nums .i64 xs)), (1, .view ys.length 1 (nums .i64 ys)), (5, .int .i64 i)], mem := [] }
theorem MSameT.NM : type_of% @NSX /\ type_of% @St.keepS.eq_1 /\ type_of% @TY /\ type_of% @SLS /\ type_of% @nums_length /\ type_of% @G17.eq_1 :=
  ⟨NSX, St.keepS.eq_1, @TY, @SLS, @nums_length, @G17.eq_1⟩
open MSameT
theorem K1SameT.kp {P : Program} {c : Code} {Q : Exit -> St -> Prop} {st : St} (h : AW P c Q (st.keepS [0, 1, 4, 5])) : AW P c Q st := AW.keepS _ h
theorem K1SameT.sd {p : Prop} (h : p := by first | exact sd8f4301) : p := h
open K1SameT in
set_option maxHeartbeats 400000 in
theorem sameT_ok (xs ys : List Int) (hlen : xs.length <= 1000000000000000) : AC Tryd.prog 22 [.view xs.length 1 (nums .i64 xs), .view ys.length 1 (nums .i64 ys)] (fun r m => r = .bool (decide (xs = ys)) /\ m = []) := by
  refine AC.enter Tryd.func22 rfl (Nat.le_of_ble_eq_true rfl) ?_
  simp only [Tryd.f22]
  have nx : True := trivial
  refine' stc57ad3
  · refine ⟨?_, trivial⟩
    rw [decide_eq_false]
    intro e; subst e; exact hc rfl
  · have hll : xs.length = ys.length := by omega
    refine AW.loop [0, 1, 5] [] (fun n st => ∃ (k : Nat) (i : Int), st = G17 xs ys i /\ k <= xs.length /\ n = xs.length - k /\ i = k /\ xs.take k = ys.take k) ?_ ?_
    · exact ⟨_, 0, _, rfl, Nat.zero_le _, rfl, rfl, rfl⟩
    · rintro n st ⟨k, i, rfl, hk, rfl, rfl, he⟩
      have nx : True := trivial
      refine' stc57ad3
      all_goals try simp (disch := omega) only [NM, Nat.reduceBEq, reduceAdd, reduceMul, Int.reduceToNat, reduceSub, List.set_cons_zero, List.set_cons_succ]
      · have hk2 : k < xs.length := by omega
        refine ⟨?_, trivial⟩
        rw [decide_eq_false]
        intro e; subst e; exact hc rfl
      · have hk2 : k < xs.length := by omega
        refine ⟨_, ?_, k + 1, _, rfl, hk2, rfl, wrap64_id _ (by omega) (by omega), ?_⟩
        · omega
        · rw [take_snoc _ _ hk2, take_snoc _ _ (by omega), he, hc]
      · have hkk : k = xs.length := by omega
        subst hkk
        refine ⟨?_, trivial⟩
        rw [List.take_length, List.take_of_length_le (by omega)] at he
        rw [decide_eq_true he]
end Go.Proofs.YtmomeejfopfchaaDoor
namespace Go.Proofs.YtmomeejfopfchaaDoor
set_option maxRecDepth 20000
open Go Go.Abs Nat
attribute [local irreducible] AW AWL AC FW CW CWr IntKind.wrap
theorem eqL_nil : eqL [] [] = true := rfl
theorem eqL_cons (a b : V) (la lb : List V) : eqL (a :: la) (b :: lb) = (eqS a b && eqL la lb) := rfl
theorem eqS_int (k k' : IntKind) (a b : Int) : eqS (.int k a) (.int k' b) = (a == b) := rfl
theorem eqS_str (a b : List UInt8) : eqS (.str a) (.str b) = (a == b) := rfl
theorem flat_drop {α : Type} {f : α -> List V} {c : Nat} (hf : ∀ x, (f x).length = c) (d : α) : ∀ (l : List α) (k : Nat), k < l.length -> List.drop (k * c) (l.flatMap f) = f (l.getD k d) ++ (l.drop (k + 1)).flatMap f
  | [], k, h => by simp at h
  | x :: l, 0, _ => by simp
  | x :: l, k + 1, h => by
    rw [List.flatMap_cons, show (k + 1) * c = (f x).length + k * c by rw [hf, Nat.succ_mul]; omega, List.drop_append, List.drop_of_length_le (by omega), List.nil_append, Nat.add_sub_cancel_left, flat_drop hf d l k (by simp at h; omega)]
    rfl
theorem flat_load {α : Type} {f : α -> List V} {c : Nat} (hf : ∀ x, (f x).length = c) (d : α) {l : List α} {k : Nat} (h : k < l.length) : List.take c (List.drop (k * c) (l.flatMap f)) = f (l.getD k d) := by
  rw [flat_drop hf d l k h, List.take_append_of_le_length (by rw [hf]; exact Nat.le_refl _), List.take_of_length_le (by rw [hf]; exact Nat.le_refl _)]
theorem flat_room {α : Type} {f : α -> List V} {c : Nat} (hf : ∀ x, (f x).length = c) (d : α) {l : List α} {k : Nat} (h : k < l.length) : c <= (List.drop (k * c) (l.flatMap f)).length := by
  rw [flat_drop hf d l k h, List.length_append, hf]; omega
theorem getD_in {α : Type} {l : List α} {k : Nat} (d : α) (h : k < l.length) : l.getD k d ∈ l := by
  rw [List.getD_eq_getElem?_getD, List.getElem?_eq_getElem h]; exact List.getElem_mem h
def G23 (l : List (Int × Int)) (k : Nat) : St := { n := 26, slots := [(0, .view l.length 2 (l.flatMap limC)), (1, .view l.length 2 (l.flatMap limC)), (5, .int .i64 (k : Int))], mem := [] }
theorem MSLim.NM : type_of% @NSX /\ type_of% @St.keepS.eq_1 /\ type_of% @TY /\ type_of% @SLS /\ type_of% @nums_length /\ type_of% @G23.eq_1 :=
  ⟨NSX, St.keepS.eq_1, @TY, @SLS, @nums_length, @G23.eq_1⟩
open MSLim
theorem K1SLim.kp {P : Program} {c : Code} {Q : Exit -> St -> Prop} {st : St} (h : AW P c Q (st.keepS [0, 1, 4, 5])) : AW P c Q st := AW.keepS _ h
theorem K1SLim.sd {p : Prop} (h : p := by first | exact sdc55ef2) : p := h
open K1SLim in
set_option maxHeartbeats 1600000 in
theorem slim_ok (l : List (Int × Int)) (hl : l.length <= 1000000000000) : AC Tryd.prog 23 [.view l.length 2 (l.flatMap limC), .view l.length 2 (l.flatMap limC)] (fun r m => r = .bool true /\ m = []) := by
  refine AC.enter Tryd.func23 rfl (Nat.le_of_ble_eq_true rfl) ?_
  simp only [Tryd.f23]
  have nx : True := trivial
  refine' st8b7b96
  refine AW.loop [0, 1, 5] [] (fun m st => ∃ k : Nat, st = G23 l k /\ k <= l.length /\ m = l.length - k) ?_ ?_
  · exact ⟨_, 0, rfl, Nat.zero_le _, rfl⟩
  rintro m st ⟨k, rfl, hk, rfl⟩
  by_cases hkl : k < l.length
  · have e7 : IntKind.i64.wrap ((k : Int) + 1) = ((k + 1 : Nat) : Int) := wrap64_id _ (by omega) (by omega)
    have hd1 : decide ((k : Int) < (l.length : Int)) = true := decide_eq_true (by omega)
    have l1 := flat_load limC_len (0, 0) hkl
    have r1 := flat_room limC_len (0, 0) hkl
    generalize l.getD k (0, 0) = x at l1
    obtain ⟨x1, x2⟩ := x
    have l1 : List.take 2 (List.drop (k * 2) (l.flatMap limC)) = [.int .i64 x1, .int .i64 x2] := l1
    have nx : type_of% @e7 /\ type_of% @hd1 /\ type_of% @l1 /\ type_of% @eqL_nil /\ type_of% @eqL_cons /\ type_of% @eqS_int /\ type_of% @eqS_str /\ type_of% @beq_self_eq_true.{0} /\ type_of% @Bool.and_self /\ type_of% @Bool.not_true /\ True := ⟨@e7, ⟨@hd1, ⟨@l1, ⟨@eqL_nil, ⟨@eqL_cons, ⟨@eqS_int, ⟨@eqS_str, ⟨@beq_self_eq_true.{0}, ⟨@Bool.and_self, ⟨@Bool.not_true, trivial⟩⟩⟩⟩⟩⟩⟩⟩⟩⟩
    refine' st8b7b96
    all_goals first
      | exact ⟨l.length - (k + 1), by omega, k + 1, rfl, by omega, rfl⟩
      | trace_state
  · have hd1 : decide ((k : Int) < (l.length : Int)) = false := decide_eq_false (by omega)
    have nx : type_of% @hd1 /\ True := ⟨@hd1, trivial⟩
    refine' st8b7b96
    all_goals first | exact ⟨trivial, trivial⟩ | exact ⟨rfl, trivial⟩ | exact ⟨rfl, rfl⟩ | exact ⟨trivial, rfl⟩ | (exfalso; omega) | trace_state
end Go.Proofs.YtmomeejfopfchaaDoor
namespace Go.Proofs.YtmomeejfopfchaaDoor
set_option maxRecDepth 20000
open Go Go.Abs Nat
attribute [local irreducible] AW AWL AC FW CW CWr IntKind.wrap
theorem samet_self (l : List Int) (h : l.length <= 1000000000000) : AC Tryd.prog 22 [.view l.length 1 (nums .i64 l), .view l.length 1 (nums .i64 l)] (fun r m => r = .bool true /\ m = []) := by
  have := sameT_ok l l (by omega)
  rwa [decide_eq_true rfl] at this
theorem MSSig.NM : type_of% @NSX /\ type_of% @St.keepS.eq_1 /\ type_of% @TY /\ type_of% @SLS /\ type_of% @nums_length :=
  ⟨NSX, St.keepS.eq_1, @TY, @SLS, @nums_length⟩
open MSSig
theorem K1SSig.kp {P : Program} {c : Code} {Q : Exit -> St -> Prop} {st : St} (h : AW P c Q (st.keepS [0, 1, 2, 3, 4])) : AW P c Q st := AW.keepS _ h
theorem K1SSig.cl {p : Prop} (h : p := by
  first
    | refine AWL.frzG rfl rfl rfl ?_
    | refine AWL.cC (f := 22) cb22 rfl rfl rfl rfl rfl rfl (ht1) ?_
    | refine AWL.cC (f := 22) cb22 rfl rfl rfl rfl rfl rfl (ht2) ?_
  all_goals (apply_rules (newGoals := .nonDependentOnly) only [dep])
  all_goals constructor) : p := h
theorem K1SSig.sd {p : Prop} (h : p := by first | exact sd1eb496) : p := h
open K1SSig in
set_option maxHeartbeats 1600000 in
theorem ssig_ok (s : MSig) (h1 : s.i.length <= 1000000000000) (h2 : s.o.length <= 1000000000000) : AC Tryd.prog 24 [.fagg (sigC s), .fagg (sigC s)] (fun r m => r = .bool true /\ m = []) := by
  obtain ⟨i, o⟩ := s
  simp only at h1 h2
  have ht1 := samet_self i h1
  have ht2 := samet_self o h2
  unfold sigC
  refine AC.enter Tryd.func24 rfl (Nat.le_of_ble_eq_true rfl) ?_
  simp only [Tryd.f24]
  have nx : True := trivial
  refine' std2f07a
  all_goals first | exact ⟨trivial, trivial⟩ | exact ⟨rfl, trivial⟩ | exact ⟨rfl, rfl⟩ | exact ⟨trivial, rfl⟩ | (exfalso; omega) | trace_state
end Go.Proofs.YtmomeejfopfchaaDoor
namespace Go.Proofs.YtmomeejfopfchaaDoor
set_option maxRecDepth 20000
open Go Go.Abs Nat
attribute [local irreducible] AW AWL AC FW CW CWr IntKind.wrap
theorem same_self (c : List Ins) (h : SmC c) : AC Tryd.prog 25 [.view c.length 6 (codeC c), .view c.length 6 (codeC c)] (fun r m => r = .bool true /\ m = []) := by
  have := same_ok c c h.n h.n h.l h.l
  rwa [decide_eq_true rfl] at this
def G26e (a : Mod) (k : Nat) : St := { n := 120, slots := [(2, .ptr 2 0), (3, .ptr 3 0), (5, .int .i64 (k : Int))], mem := [(2, ⟨false, modC a⟩), (3, ⟨false, modC a⟩)] }
def G26c (a : Mod) (k : Nat) : St := { n := 120, slots := [(2, .ptr 2 0), (3, .ptr 3 0), (6, .int .i64 (k : Int))], mem := [(2, ⟨false, modC a⟩), (3, ⟨false, modC a⟩)] }
def G26d (a : Mod) (k : Nat) : St := { n := 120, slots := [(2, .ptr 2 0), (3, .ptr 3 0), (7, .int .i64 (k : Int))], mem := [(2, ⟨false, modC a⟩), (3, ⟨false, modC a⟩)] }
theorem MSRest.NM : type_of% @NSX /\ type_of% @St.keepS.eq_1 /\ type_of% @TY /\ type_of% @SLS /\ type_of% @nums_length /\ type_of% @G26e.eq_1 /\ type_of% @G26c.eq_1 /\ type_of% @G26d.eq_1 /\ type_of% @modC.eq_1 :=
  ⟨NSX, St.keepS.eq_1, @TY, @SLS, @nums_length, @G26e.eq_1, @G26c.eq_1, @G26d.eq_1, @modC.eq_1⟩
open MSRest
theorem K1SRest.kp {P : Program} {c : Code} {Q : Exit -> St -> Prop} {st : St} (h : AW P c Q (st.keepS [0, 1, 2, 3, 4, 5, 6, 7])) : AW P c Q st := AW.keepS _ h
theorem K1SRest.cl {p : Prop} (h : p := by
  first
    | refine AWL.frzG rfl rfl rfl ?_
    | refine AWL.cC (f := 22) cb22 rfl rfl rfl rfl rfl rfl (ht1) ?_
    | refine AWL.cC (f := 25) cb25 rfl rfl rfl rfl rfl rfl (hc1) ?_
  all_goals (apply_rules (newGoals := .nonDependentOnly) only [dep])
  all_goals constructor) : p := h
theorem K1SRest.sd {p : Prop} (h : p := by first | exact sd9993ab) : p := h
open K1SRest in
set_option maxHeartbeats 6400000 in
theorem srest_ok (a : Mod) (ha : SmM a) : AC Tryd.prog 26 [.agg (modC a), .agg (modC a)] (fun r m => r = .bool true /\ m = []) := by
  have ht1 : True := trivial
  have hc1 : True := trivial
  refine AC.enter Tryd.func26 rfl (Nat.le_of_ble_eq_true rfl) ?_
  simp only [Tryd.f26]
  have nx : True := trivial
  refine' st79a9c9
  refine AW.loop [2, 3, 5] [2, 3] (fun m st => ∃ k : Nat, st = G26e a k /\ k <= a.elems.length /\ m = a.elems.length - k) ?_ ?_
  · exact ⟨_, 0, rfl, Nat.zero_le _, rfl⟩
  rintro m st ⟨k, rfl, hk, rfl⟩
  by_cases hkl : k < a.elems.length
  · have e7 : IntKind.i64.wrap ((k : Int) + 1) = ((k + 1 : Nat) : Int) := wrap64_id _ (by have := ha.el; omega) (by have := ha.el; omega)
    have hd1 : decide ((k : Int) < (a.elems.length : Int)) = true := decide_eq_true (by omega)
    have l1 := flat_drop elemC_len ⟨[], []⟩ a.elems k hkl
    have hx := ha.els _ (getD_in ⟨[], []⟩ hkl)
    generalize (a.elems.drop (k + 1)).flatMap elemC = R at l1
    generalize a.elems.getD k ⟨[], []⟩ = x at l1 hx
    obtain ⟨c, f⟩ := x
    have l1 : List.drop (k * 2) (a.elems.flatMap elemC) = .view c.length 6 (codeC c) :: .view f.length 1 (nums .i64 f) :: R := l1
    have hc1 := same_self c hx.1
    have ht1 := samet_self f hx.2
    have nx : type_of% @e7 /\ type_of% @hd1 /\ type_of% @l1 /\ True := ⟨@e7, ⟨@hd1, ⟨@l1, trivial⟩⟩⟩
    refine' st79a9c9
    all_goals first
      | exact ⟨a.elems.length - (k + 1), by omega, k + 1, rfl, by omega, rfl⟩
      | trace_state
  have hd1 : decide ((k : Int) < (a.elems.length : Int)) = false := decide_eq_false (by omega)
  have nx : type_of% @hd1 /\ True := ⟨@hd1, trivial⟩
  refine' st79a9c9
  clear hd1 hkl hk
  refine AW.loop [2, 3, 6] [2, 3] (fun m st => ∃ k : Nat, st = G26c a k /\ k <= a.codes.length /\ m = a.codes.length - k) ?_ ?_
  · exact ⟨_, 0, rfl, Nat.zero_le _, rfl⟩
  rintro m st ⟨k, rfl, hk, rfl⟩
  by_cases hkl : k < a.codes.length
  · have e7 : IntKind.i64.wrap ((k : Int) + 1) = ((k + 1 : Nat) : Int) := wrap64_id _ (by have := ha.co; omega) (by have := ha.co; omega)
    have hd1 : decide ((k : Int) < (a.codes.length : Int)) = true := decide_eq_true (by omega)
    have l1 := flat_drop codC_len ⟨[], []⟩ a.codes k hkl
    have hx := ha.cos _ (getD_in ⟨[], []⟩ hkl)
    generalize (a.codes.drop (k + 1)).flatMap codC = R at l1
    generalize a.codes.getD k ⟨[], []⟩ = x at l1 hx
    obtain ⟨f, c⟩ := x
    have l1 : List.drop (k * 2) (a.codes.flatMap codC) = .view f.length 1 (nums .i64 f) :: .view c.length 6 (codeC c) :: R := l1
    have hc1 := same_self c hx.2
    have ht1 := samet_self f hx.1
    have nx : type_of% @e7 /\ type_of% @hd1 /\ type_of% @l1 /\ True := ⟨@e7, ⟨@hd1, ⟨@l1, trivial⟩⟩⟩
    refine' st79a9c9
    all_goals first
      | exact ⟨a.codes.length - (k + 1), by omega, k + 1, rfl, by omega, rfl⟩
      | trace_state
  have hd1 : decide ((k : Int) < (a.codes.length : Int)) = false := decide_eq_false (by omega)
  have nx : type_of% @hd1 /\ True := ⟨@hd1, trivial⟩
  refine' st79a9c9
  clear hd1 hkl hk
  refine AW.loop [2, 3, 7] [2, 3] (fun m st => ∃ k : Nat, st = G26d a k /\ k <= a.datas.length /\ m = a.datas.length - k) ?_ ?_
  · exact ⟨_, 0, rfl, Nat.zero_le _, rfl⟩
  rintro m st ⟨k, rfl, hk, rfl⟩
  by_cases hkl : k < a.datas.length
  · have e7 : IntKind.i64.wrap ((k : Int) + 1) = ((k + 1 : Nat) : Int) := wrap64_id _ (by have := ha.da; omega) (by have := ha.da; omega)
    have hd1 : decide ((k : Int) < (a.datas.length : Int)) = true := decide_eq_true (by omega)
    have l1 := flat_drop dataC_len ⟨[], []⟩ a.datas k hkl
    have hx := ha.das _ (getD_in ⟨[], []⟩ hkl)
    generalize (a.datas.drop (k + 1)).flatMap dataC = R at l1
    generalize a.datas.getD k ⟨[], []⟩ = x at l1 hx
    obtain ⟨c, f⟩ := x
    have l1 : List.drop (k * 2) (a.datas.flatMap dataC) = .view c.length 6 (codeC c) :: .view f.length 1 (nums .u8 f) :: R := l1
    have hc1 := same_self c hx.1
    have hby := hx.2
    have nx : type_of% @e7 /\ type_of% @hd1 /\ type_of% @l1 /\ type_of% @beq_self_eq_true.{0} /\ type_of% @Bool.not_true /\ True := ⟨@e7, ⟨@hd1, ⟨@l1, ⟨@beq_self_eq_true.{0}, ⟨@Bool.not_true, trivial⟩⟩⟩⟩⟩
    refine' std6b527
    all_goals first
      | exact ⟨a.datas.length - (k + 1), by omega, k + 1, rfl, by omega, rfl⟩
      | trace_state
  have hd1 : decide ((k : Int) < (a.datas.length : Int)) = false := decide_eq_false (by omega)
  have nx : type_of% @hd1 /\ True := ⟨@hd1, trivial⟩
  refine' st79a9c9
  all_goals first | exact ⟨trivial, trivial⟩ | exact ⟨rfl, trivial⟩ | exact ⟨rfl, rfl⟩ | exact ⟨trivial, rfl⟩ | (exfalso; omega) | trace_state
end Go.Proofs.YtmomeejfopfchaaDoor
