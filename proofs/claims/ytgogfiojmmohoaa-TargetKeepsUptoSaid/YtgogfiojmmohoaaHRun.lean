/- Heights: what its answer says, without a program. -/
import Derived.Test.YtgogfiojmmohoaaV5
import Derived.Test.YtgogfiojmmohoaaHPre
namespace Go.Proofs.Ytgogfiojmmohoaa
set_option linter.unusedSimpArgs false
set_option linter.unusedVariables false
open Go Go.Abs

theorem put_spec {n : Nat} {h : Int} (hh : 0 ≤ h) : ∀ {T hs wk : List Int} {r : List Int × List Int}, (∀ t ∈ T, 0 ≤ t) → hs.length = n → put1 n h T hs wk = some r →
    r.1.length = n ∧ (∀ x, x < n → hs.getD x 0 ≠ -1 → r.1.getD x 0 = hs.getD x 0) ∧ (∀ x, x < n → hs.getD x 0 = -1 → r.1.getD x 0 = -1 ∨ (r.1.getD x 0 = h ∧ (x : Int) ∈ T ∧ (x : Int) ∈ r.2)) ∧
    (∀ t ∈ T, t.toNat < n ∧ r.1.getD t.toNat 0 = h) ∧ (∀ x ∈ wk, x ∈ r.2) ∧ (∀ x ∈ r.2, x ∈ wk ∨ x ∈ T) := by
  intro T
  induction T with
  | nil =>
    intro hs wk r _ hl hp
    rw [put1] at hp; cases hp
    exact ⟨hl, fun _ _ _ => rfl, fun _ _ e => .inl e, fun t ht => (by cases ht), fun _ hx => hx, fun _ hx => .inl hx⟩
  | cons t ts ih =>
    intro hs wk r hT hl hp
    have ht := hT t (List.mem_cons_self ..)
    have hts : ∀ t ∈ ts, 0 ≤ t := fun x hx => hT x (List.mem_cons_of_mem _ hx)
    rw [put1] at hp
    by_cases h1 : t ≥ (n : Int)
    · rw [if_pos h1] at hp; cases hp
    rw [if_neg h1] at hp
    have htn : t.toNat < hs.length := by omega
    by_cases h2 : hs.getD t.toNat 0 = -1
    · rw [if_pos h2] at hp
      obtain ⟨a1, a2, a3, a4, a5, a6⟩ := ih hts (by rw [setI_len _ htn]; exact hl) hp
      have hg := setI_getD h htn
      have hat : r.1.getD t.toNat 0 = h := by
        have := a2 t.toNat (by omega) (by rw [hg, if_pos rfl]; omega)
        rwa [hg, if_pos rfl] at this
      refine ⟨a1, fun x hx hne => ?_, fun x hx he => ?_, fun y hy => ?_, fun x hx => a5 x (List.mem_append_left _ hx), fun x hx => ?_⟩
      · have hxt : x ≠ t.toNat := fun e => by rw [e] at hne; exact hne h2
        have := a2 x hx (by rw [hg, if_neg hxt]; exact hne)
        rwa [hg, if_neg hxt] at this
      · by_cases hxt : x = t.toNat
        · subst hxt
          refine .inr ⟨hat, ?_, ?_⟩
          · rw [show ((t.toNat : Nat) : Int) = t from by omega]; exact List.mem_cons_self ..
          · rw [show ((t.toNat : Nat) : Int) = t from by omega]; exact a5 t (List.mem_append_right _ (List.mem_singleton.2 rfl))
        · rcases a3 x hx (by rw [hg, if_neg hxt]; exact he) with h3 | ⟨h3, h4, h5⟩
          · exact .inl h3
          · exact .inr ⟨h3, List.mem_cons_of_mem _ h4, h5⟩
      · rcases List.mem_cons.1 hy with rfl | hy
        · exact ⟨by omega, hat⟩
        · exact a4 y hy
      · rcases a6 x hx with h3 | h3
        · rcases List.mem_append.1 h3 with h3 | h3
          · exact .inl h3
          · rw [List.mem_singleton.1 h3]; exact .inr (List.mem_cons_self ..)
        · exact .inr (List.mem_cons_of_mem _ h3)
    · rw [if_neg h2] at hp
      by_cases h3 : hs.getD t.toNat 0 ≠ h
      · rw [if_pos h3] at hp; cases hp
      rw [if_neg h3] at hp
      have h3 : hs.getD t.toNat 0 = h := Decidable.not_not.1 h3
      obtain ⟨a1, a2, a3, a4, a5, a6⟩ := ih hts hl hp
      refine ⟨a1, a2, fun x hx he => ?_, fun y hy => ?_, a5, fun x hx => ?_⟩
      · rcases a3 x hx he with h4 | ⟨h4, h5, h6⟩
        · exact .inl h4
        · exact .inr ⟨h4, List.mem_cons_of_mem _ h5, h6⟩
      · rcases List.mem_cons.1 hy with rfl | hy
        · exact ⟨by omega, (a2 _ (by omega) h2).trans h3⟩
        · exact a4 y hy
      · rcases a6 x hx with h4 | h4
        · exact .inl h4
        · exact .inr (List.mem_cons_of_mem _ h4)
def HB (n : Nat) (hs : List Int) : Prop := ∀ x, x < n → hs.getD x 0 ≤ 3000000 * ((n : Int) - cnt hs)
theorem put_bound {n : Nat} {h : Int} (hh : 0 ≤ h) : ∀ {T hs wk : List Int} {r : List Int × List Int}, (∀ t ∈ T, 0 ≤ t) → hs.length = n → HB n hs → h ≤ 3000000 * ((n : Int) - cnt hs + 1) → put1 n h T hs wk = some r → HB n r.1 := by
  intro T
  induction T with
  | nil => intro hs wk r _ hl hb hle hp; rw [put1] at hp; cases hp; exact hb
  | cons t ts ih =>
    intro hs wk r hT hl hb hle hp
    have ht := hT t (List.mem_cons_self ..)
    have hts : ∀ t ∈ ts, 0 ≤ t := fun x hx => hT x (List.mem_cons_of_mem _ hx)
    rw [put1] at hp
    by_cases h1 : t ≥ (n : Int)
    · rw [if_pos h1] at hp; cases hp
    rw [if_neg h1] at hp
    have htn : t.toNat < hs.length := by omega
    by_cases h2 : hs.getD t.toNat 0 = -1
    · rw [if_pos h2] at hp
      have hc := cnt_set htn h2 (x := h) (by omega)
      refine ih hts (by rw [setI_len _ htn]; exact hl) (fun x hx => ?_) (by omega) hp
      rw [setI_getD _ htn]
      have := hb x hx
      split <;> omega
    · rw [if_neg h2] at hp
      by_cases h3 : hs.getD t.toNat 0 ≠ h
      · rw [if_pos h3] at hp; cases hp
      rw [if_neg h3] at hp
      exact ih hts hl hb hle hp
section
variable (p : Pg) (f : Nat) (cs : List Cl)
def eAt (i : Nat) : Int × Int := effS p f (cs.getD i cl0)
def nAt (i : Nat) : List Int := nextS (cs.getD i cl0) i
def cellOk (hs : List Int) (i : Nat) : Prop := (eAt p f cs i).1 ≤ hs.getD i 0 ∧ ∀ t ∈ nAt cs i, t.toNat < cs.length ∧ hs.getD t.toNat 0 = hs.getD i 0 - (eAt p f cs i).1 + (eAt p f cs i).2
structure RI (hs wk : List Int) : Prop where
  len : hs.length = cs.length
  wq : ∀ x ∈ wk, 0 ≤ x ∧ x.toNat < cs.length ∧ 0 ≤ hs.getD x.toNat 0
  ge : ∀ x, x < cs.length → -1 ≤ hs.getD x 0
  z : hs.getD 0 0 = 0
  hb : HB cs.length hs
  done : ∀ i, i < cs.length → 0 ≤ hs.getD i 0 → (i : Int) ∈ wk ∨ cellOk p f cs hs i
  came : ∀ t, t < cs.length → 0 ≤ hs.getD t 0 → t = 0 ∨ ∃ i, i < cs.length ∧ 0 ≤ hs.getD i 0 ∧ (t : Int) ∈ nAt cs i
end
theorem run_inv {p : Pg} {f : Nat} {cs : List Cl} (hG : ∀ i, i < cs.length → (0 ≤ (eAt p f cs i).1 ∧ 0 ≤ (eAt p f cs i).2 ∧ (eAt p f cs i).2 ≤ 2000000) ∧ ∀ t ∈ nAt cs i, 0 ≤ t) (hn : 0 < cs.length) : ∀ (m : Nat) {hs wk r : List Int}, RI p f cs hs wk → runS p f cs m hs wk = some r → RI p f cs r [] := by
  intro m
  induction m with
  | zero => intro hs wk r _ h; cases h
  | succ m ih =>
    intro hs wk r hI h
    rw [runS] at h
    by_cases hw : wk = []
    · rw [if_pos hw] at h; cases h; subst hw; exact hI
    rw [if_neg hw] at h
    have hlen : 0 < wk.length := List.length_pos_iff.2 hw
    have hlast : wk.getD (wk.length - 1) 0 ∈ wk := getD_mem 0 (by omega)
    have hsplit : ∀ x ∈ wk, x = wk.getD (wk.length - 1) 0 ∨ x ∈ wk.take (wk.length - 1) := fun x hx => by
      obtain ⟨k, hk, rfl⟩ := List.mem_iff_getElem.1 hx
      by_cases e : k = wk.length - 1
      · left; subst e; simp [List.getD, hk]
      · right
        exact List.mem_iff_getElem.2 ⟨k, by rw [List.length_take]; omega, by simp⟩
    generalize wk.getD (wk.length - 1) 0 = ax at h hlast hsplit
    obtain ⟨w1, w2, w3⟩ := hI.wq ax hlast
    obtain ⟨a, rfl⟩ : ∃ a : Nat, ax = a := ⟨ax.toNat, by omega⟩
    simp only [Int.toNat_natCast] at h w2 w3
    obtain ⟨g1, g2⟩ := hG a w2
    have hE : effS p f (cs.getD a cl0) = eAt p f cs a := rfl
    have hN : nextS (cs.getD a cl0) a = nAt cs a := rfl
    rw [hE, hN] at h
    by_cases hgt : (eAt p f cs a).1 > hs.getD a 0
    · rw [if_pos hgt] at h; cases h
    rw [if_neg hgt] at h
    generalize hput : put1 cs.length (hs.getD a 0 - (eAt p f cs a).1 + (eAt p f cs a).2) (nAt cs a) hs (wk.take (wk.length - 1)) = o at h
    cases o with
    | none => cases h
    | some r1 =>
      simp only at h
      obtain ⟨b1, b2, b3, b4, b5, b6⟩ := put_spec (by omega) g2 hI.len hput
      have hsame : ∀ x, x < cs.length → 0 ≤ hs.getD x 0 → r1.1.getD x 0 = hs.getD x 0 := fun x hx h0 => b2 x hx (by omega)
      have hab := hI.hb a w2
      have hpb := put_bound (by omega) g2 hI.len hI.hb (by omega) hput
      refine ih ⟨b1, fun x hx => ?_, fun x hx => ?_, ?_, hpb, fun i hi h0 => ?_, fun t ht h0 => ?_⟩ h
      · rcases b6 x hx with h1 | h1
        · obtain ⟨c1, c2, c3⟩ := hI.wq x (List.mem_of_mem_take h1)
          exact ⟨c1, c2, by rw [hsame _ c2 c3]; exact c3⟩
        · obtain ⟨c1, c2⟩ := b4 x h1
          exact ⟨g2 x h1, c1, by rw [c2]; omega⟩
      · by_cases e : hs.getD x 0 = -1
        · rcases b3 x hx e with h1 | ⟨h1, _⟩ <;> rw [h1] <;> omega
        · rw [b2 x hx e]; exact hI.ge x hx
      · rw [hsame 0 hn (by rw [hI.z]; exact Int.le_refl _)]; exact hI.z
      · by_cases e : hs.getD i 0 = -1
        · rcases b3 i hi e with h1 | ⟨h1, h2, h3⟩
          · omega
          · exact .inl h3
        · have h00 : 0 ≤ hs.getD i 0 := by have := hI.ge i hi; omega
          by_cases hia : i = a
          · subst hia
            right
            refine ⟨by rw [hsame i hi h00]; omega, fun t ht => ?_⟩
            obtain ⟨c1, c2⟩ := b4 t ht
            exact ⟨c1, by rw [c2, hsame i hi h00]⟩
          · rcases hI.done i hi h00 with h1 | ⟨h1, h2⟩
            · rcases hsplit _ h1 with h1 | h1
              · exact absurd (by omega) hia
              · exact .inl (b5 _ h1)
            · right
              refine ⟨by rw [hsame i hi h00]; exact h1, fun t ht => ?_⟩
              obtain ⟨c1, c2⟩ := h2 t ht
              have hgi := hG i hi
              exact ⟨c1, by rw [hsame _ c1 (by rw [c2]; omega), hsame i hi h00, c2]⟩
      · by_cases e : hs.getD t 0 = -1
        · rcases b3 t ht e with h1 | ⟨h1, h2, h3⟩
          · omega
          · exact .inr ⟨a, w2, by rw [hsame a w2 w3]; exact w3, h2⟩
        · have h00 : 0 ≤ hs.getD t 0 := by have := hI.ge t ht; omega
          rcases hI.came t ht h00 with h1 | ⟨i, h1, h2, h3⟩
          · exact .inl h1
          · exact .inr ⟨i, h1, by rw [hsame i h1 h2]; exact h2, h3⟩
theorem RI.start (p : Pg) (f : Nat) (cs : List Cl) (hn : 0 < cs.length) : RI p f cs (hs0 cs.length) [0] := by
  have hl : (List.replicate cs.length (-1 : Int)).length = cs.length := List.length_replicate
  have hg : ∀ x, x < cs.length → (hs0 cs.length).getD x 0 = if x = 0 then 0 else -1 := fun x hx => by
    rw [hs0, setI_getD _ (by omega)]
    split
    · rfl
    · rw [gD (by rw [hl]; exact hx), List.getElem_replicate]
  refine ⟨by rw [hs0, setI_len _ (by omega)]; exact hl, fun x hx => ?_, fun x hx => ?_, ?_, fun x hx => ?_, fun i hi h0 => ?_, fun t ht h0 => ?_⟩
  · rw [List.mem_singleton.1 hx]
    exact ⟨Int.le_refl _, hn, by rw [show (0 : Int).toNat = 0 from rfl, hg 0 hn]; decide⟩
  · rw [hg x hx]; split <;> omega
  · rw [hg 0 hn]; rfl
  · rw [hg x hx]; have := cnt_le (hs0 cs.length); have := (HI.start cs.length hn).2; split <;> omega
  · rw [hg i hi] at h0
    by_cases e : i = 0
    · subst e; exact .inl (List.mem_singleton.2 rfl)
    · rw [if_neg e] at h0; omega
  · rw [hg t ht] at h0
    by_cases e : t = 0
    · exact .inl e
    · rw [if_neg e] at h0; omega
/-- what an answer says -/
theorem hei_spec {p : Pg} {f : Int} (hp : okP p) {hs : List Int} (h : heiS p f = some hs) : ∃ j : Nat, f = j ∧ j < p.fs.length ∧ errS p = 0 ∧ 0 < (p.fs.getD j fn0).cs.length ∧ RI p j (p.fs.getD j fn0).cs hs [] := by
  unfold heiS at h
  by_cases hc : errS p ≠ 0 ∨ f < 0 ∨ f ≥ p.fs.length ∨ (p.fs.getD f.toNat fn0).cs.length = 0
  · rw [if_pos hc] at h; cases h
  rw [if_neg hc] at h
  obtain ⟨j, rfl⟩ : ∃ j : Nat, f = j := ⟨f.toNat, by omega⟩
  rw [Int.toNat_natCast] at h hc
  have he : errS p = 0 := by omega
  have hj : j < p.fs.length := by omega
  have hn : 0 < (p.fs.getD j fn0).cs.length := by omega
  refine ⟨j, rfl, hj, he, hn, run_inv (fun i hi => ?_) hn _ (RI.start _ _ _ hn) h⟩
  have hf := hp.2.2.2 _ (getD_mem fn0 hj)
  have hcl := (chk_fun he (getD_mem fn0 hj)).2
  generalize p.fs.getD j fn0 = g at hf hcl hi ⊢
  have hmay := cel_may hcl hi
  have hok := hf.2.2.2.2.2.2.2 _ (getD_mem cl0 hi)
  unfold eAt nAt
  generalize g.cs.getD i cl0 = c at hmay hok ⊢
  obtain ⟨op, a, n⟩ := c
  have hjm := may_jump hmay
  have hb := next_bound hi hf.1 (n := n) hjm.1 hjm.2
  have hebb := eff_bound hp he hj op a n hok.2.2.1
  refine ⟨⟨hebb.1, hebb.2.2.1, hebb.2.2.2⟩, fun t ht => ?_⟩
  obtain ⟨k, hk, rfl⟩ := List.mem_iff_getElem.1 ht
  obtain ⟨u, hu, _⟩ := hb.2 k hk
  rw [gD hk] at hu
  omega
end Go.Proofs.Ytgogfiojmmohoaa
