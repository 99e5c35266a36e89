/- Shuffles of shuffles, in plain. -/
import Derived.Test.YtgmhfbdmigfgbaaV5
import Derived.Test.YtgmhfbdmigfgbaaMoves
import Derived.Test.YtgmhfbdmigfgbaaSwiz
namespace Go.Proofs.Ytgmhfbdmigfgbaa
set_option linter.unusedSimpArgs false
set_option linter.unusedVariables false
open Go Go.Abs

def capB (x : Int) : Int := if x ≥ 16 then 16 else x
theorem getD_map {f : Int → Int} {l : List Int} {k : Nat} (h : k < l.length) : (l.map f).getD k 0 = f (l.getD k 0) := by
  simp only [List.getD_eq_getElem?_getD, List.getElem?_map, List.getElem?_eq_getElem h, Option.map_some, Option.getD_some]
theorem shS_all {s : List Int} (a b : List Int) (h : ∀ x ∈ s, x < 32) : shS s a b = (s.map (shB a b), 0) := by
  unfold shS; rw [if_pos (List.all_eq_true.2 fun x hx => decide_eq_true (h x hx))]
theorem shS_cap (a b : List Int) : shS (b.map capB) a zero16 = (swS a b, 0) := by
  rw [shS_all]
  · rw [List.map_map]; congr 1
    apply List.map_congr_left
    intro x _
    show shB a zero16 (capB x) = swB a x
    unfold capB shB swB
    by_cases h : x ≥ 16
    · rw [if_pos h, if_pos (by omega), if_neg (by omega)]; rfl
    · rw [if_neg h, if_neg h, if_pos (by omega)]
  · intro x hx
    obtain ⟨y, _, rfl⟩ := List.mem_map.1 hx
    unfold capB; split <;> omega
theorem numS_map {α : Type} (g : Int → α) (h : Nat → α) (f : Int) (hf : ∀ k : Nat, k < 16 → g ((f + (k : Int)) % 256) = h k) : (numS f).map g = (List.range 16).map h := by
  unfold numS; rw [List.map_map]
  apply List.map_congr_left
  intro k hk
  exact hf k (List.mem_range.1 hk)
theorem zero_range : zero16 = (List.range 16).map fun _ => (0 : Int) := by decide
theorem sw_num0 {a : List Int} (ha : a.length = 16) : swS a (numS 0) = a := by
  refine Eq.trans (numS_map _ (fun k => a.getD k 0) 0 ?_) (list16 0 ha).symm
  intro k hk
  unfold swB; rw [if_pos (by omega)]; congr 1; omega
theorem sw_num (a : List Int) {f : Int} (h : 16 ≤ f ∧ f ≤ 240) : swS a (numS f) = zero16 := by
  refine Eq.trans (numS_map _ (fun _ => 0) f ?_) zero_range.symm
  intro k hk
  unfold swB; rw [if_neg (by omega)]
theorem numS_lt {f : Int} (h : 0 ≤ f ∧ f ≤ 16) : ∀ x ∈ numS f, x < 32 := by
  intro x hx
  obtain ⟨k, hk, rfl⟩ := List.mem_map.1 hx
  have := List.mem_range.1 hk
  omega
theorem sh_num0 {a : List Int} (b : List Int) (ha : a.length = 16) : shS (numS 0) a b = (a, 0) := by
  rw [shS_all _ _ (numS_lt (by omega))]
  congr 1
  refine Eq.trans (numS_map _ (fun k => a.getD k 0) 0 ?_) (list16 0 ha).symm
  intro k hk
  unfold shB; rw [if_neg (by omega)]; congr 1; omega
theorem sh_num16 (a : List Int) {b : List Int} (hb : b.length = 16) : shS (numS 16) a b = (b, 0) := by
  rw [shS_all _ _ (numS_lt (by omega))]
  congr 1
  refine Eq.trans (numS_map _ (fun k => b.getD k 0) 16 ?_) (list16 0 hb).symm
  intro k hk
  unfold shB; rw [if_pos (by omega)]; congr 1; omega
theorem lowS_lt (v : List Int) : ∀ x ∈ lowS v, 0 ≤ x ∧ x < 32 := by
  intro x hx
  obtain ⟨y, _, rfl⟩ := List.mem_map.1 hx
  omega
theorem lowS_len (v : List Int) : (lowS v).length = v.length := by simp [lowS]
theorem lowS_low (v : List Int) : lowS (lowS v) = lowS v := by
  show (lowS v).map (· % 32) = lowS v
  refine Eq.trans (List.map_congr_left (g := id) ?_) (List.map_id _)
  intro x hx
  have := lowS_lt v x hx
  show x % 32 = x
  omega
theorem lt_bytes {s : List Int} (h : ∀ x ∈ s, 0 ≤ x ∧ x < 32) : bytes s := fun x hx => ⟨(h x hx).1, by have := (h x hx).2; omega⟩
def upB (x : Int) : Int := (x + 16) % 32
theorem sh_other {s : List Int} (a b : List Int) (h : ∀ x ∈ s, 0 ≤ x ∧ x < 32) : shS (s.map upB) b a = (s.map (shB a b), 0) := by
  rw [shS_all]
  · rw [List.map_map]; congr 1
    apply List.map_congr_left
    intro x hx
    have := h x hx
    show shB b a (upB x) = shB a b x
    unfold shB upB
    by_cases h16 : x ≥ 16
    · rw [if_neg (by omega), if_pos h16]; congr 1; omega
    · rw [if_pos (by omega), if_neg h16]; congr 1; omega
  · intro x hx
    obtain ⟨y, _, rfl⟩ := List.mem_map.1 hx
    unfold upB; omega
def twoB (s : List Int) (x : Int) : Int := s.getD (x % 16).toNat 0
theorem twoB_lt {s : List Int} (hs : s.length = 16) (h : ∀ x ∈ s, 0 ≤ x ∧ x < 32) (x : Int) : 0 ≤ twoB s x ∧ twoB s x < 32 := h _ (getD_mem (by omega))
theorem sh_both {s : List Int} (a b : List Int) (hs : s.length = 16) (h : ∀ x ∈ s, 0 ≤ x ∧ x < 32) : shS (s.map (twoB s)) a b = (s.map (shB (s.map (shB a b)) (s.map (shB a b))), 0) := by
  rw [shS_all]
  · rw [List.map_map]; congr 1
    apply List.map_congr_left
    intro x hx
    have := h x hx
    show shB a b (twoB s x) = shB _ _ x
    have e : ∀ j : Nat, j < 16 → (s.map (shB a b)).getD j 0 = shB a b (s.getD j 0) := fun j hj => getD_map (by omega)
    unfold twoB
    by_cases h16 : x ≥ 16
    · rw [show shB (s.map (shB a b)) (s.map (shB a b)) x = (s.map (shB a b)).getD (x - 16).toNat 0 from if_pos h16, e _ (by omega), show (x % 16).toNat = (x - 16).toNat from by omega]
    · rw [show shB (s.map (shB a b)) (s.map (shB a b)) x = (s.map (shB a b)).getD x.toNat 0 from if_neg h16, e _ (by omega), show (x % 16).toNat = x.toNat from by omega]
  · intro x hx
    obtain ⟨y, _, rfl⟩ := List.mem_map.1 hx
    exact (twoB_lt hs h y).2
theorem sh_bad {s : List Int} (a b : List Int) {k : Nat} (hk : k < s.length) {x : Int} (hx : x ≥ 32) : shS (setI s k x) a b = (zero16, 1) := by
  unfold shS; rw [if_neg]
  intro e
  have := of_decide_eq_true (List.all_eq_true.1 e x (by unfold setI; simp))
  omega
theorem setI_bytes {s : List Int} (hs : bytes s) (k : Nat) {x : Int} (hx : byte x) : bytes (setI s k x) := by
  unfold setI
  refine bytes_app (bytes_app (bytes_take hs _) ?_) (bytes_drop hs _)
  intro y hy; rw [List.mem_singleton.1 hy]; exact hx
theorem sh_at {s : List Int} (a b : List Int) {k : Nat} (hs : s.length = 16) (h : ∀ x ∈ s, 0 ≤ x ∧ x < 32) (hk : k < 16) : (s.map (shB a b)).getD k 0 = if s.getD k 0 ≥ 16 then b.getD (s.getD k 0 % 16).toNat 0 else a.getD (s.getD k 0 % 16).toNat 0 := by
  have hx := h _ (getD_mem (l := s) (k := k) (by omega))
  rw [getD_map (by omega)]
  unfold shB
  split
  · congr 1; omega
  · congr 1; omega
theorem shB_byte {a b : List Int} (ha : bytes a) (hb : bytes b) (x : Int) : byte (shB a b x) := by
  have h : ∀ {l : List Int}, bytes l → ∀ k : Nat, byte (l.getD k 0) := fun {l} hl k => by
    by_cases hk : k < l.length
    · exact bytes_at hl hk
    · rw [List.getD_eq_getElem?_getD, List.getElem?_eq_none (by omega)]; exact ⟨by decide, by decide⟩
  unfold shB; split
  · exact h hb _
  · exact h ha _
theorem map_bytes {f : Int → Int} (hf : ∀ x, byte (f x)) (l : List Int) : bytes (l.map f) := by
  intro y hy
  obtain ⟨x, _, rfl⟩ := List.mem_map.1 hy
  exact hf x
end Go.Proofs.Ytgmhfbdmigfgbaa
