/- A library of mine, for walks over abstract states: part 4. It imports the kit alone. -/
import Derived.Test.YticidhkilfkgbaaV3
import Derived.Deep.Slices
import Derived.JoinedCond
import Derived.ProofKit
import Derived.OpenShut
import Derived.Laws.Bits64
/- A library of mine, its twenty-ninth text: what arguments read as, as abstract values. -/
namespace Go.Abs
set_option linter.unusedSimpArgs false
set_option linter.unusedVariables false
open Go Go.RowKit

/-- shapes of plain data -/
inductive Sh where
  | int (k : IntKind)
  | bool
  | str
  | sl (e : Sh)
  | arr (n : Nat) (e : Sh)
  | pair (a b : Sh)

@[reducible] def Sh.T : Sh → Type
  | .int _ => Int
  | .bool => Bool
  | .str => List UInt8
  | .sl e => List e.T
  | .arr _ e => List e.T
  | .pair a b => a.T × b.T

def Sh.size : Sh → Nat
  | .arr n e => n * e.size
  | .pair a b => a.size + b.size
  | _ => 1

def Sh.enc : (s : Sh) → s.T → List V
  | .int k, n => [.int k n]
  | .bool, b => [.bool b]
  | .str, s => [.str s]
  | .sl e, l => [.view (List.length (α := e.T) l) e.size (List.flatMap (α := e.T) e.enc l)]
  | .arr _ e, l => List.flatMap (α := e.T) e.enc l
  | .pair a b, p => a.enc p.1 ++ b.enc p.2

def Sh.good : (s : Sh) → s.T → Prop
  | .int k, n => (Lit.int k n).wf = true
  | .bool, _ => True
  | .str, _ => True
  | .sl e, l => ∀ x ∈ (l : List e.T), e.good x
  | .arr n e, l => List.length (α := e.T) l = n ∧ ∀ x ∈ (l : List e.T), e.good x
  | .pair a b, p => a.good p.1 ∧ b.good p.2

def Sh.bulk : (s : Sh) → s.T → Nat
  | .int _, _ => 1
  | .bool, _ => 1
  | .str, s => List.length (α := UInt8) s + 1
  | .sl e, l => (List.map (α := e.T) e.bulk l).sum + 1
  | .arr _ e, l => (List.map (α := e.T) e.bulk l).sum + 1
  | .pair a b, p => a.bulk p.1 + b.bulk p.2

def Sh.val : (s : Sh) → s.T → V
  | .int k, n => .int k n
  | .bool, b => .bool b
  | .str, s => .str s
  | .sl e, l => .view (List.length (α := e.T) l) e.size (List.flatMap (α := e.T) e.enc l)
  | .arr n e, l => .fagg (Sh.enc (.arr n e) l)
  | .pair a b, p => .fagg (Sh.enc (.pair a b) p)

inductive Fits (P : Program) : Sh → TypeId ⊕ (List Field × Nat) → Prop
  | int {k : IntKind} {t : TypeId} (h : P.underlying t = some (.int k)) : Fits P (.int k) (.inl t)
  | bool {t : TypeId} (h : P.underlying t = some .bool) : Fits P .bool (.inl t)
  | str {t : TypeId} (h : P.underlying t = some .string) : Fits P .str (.inl t)
  | sl {e : Sh} {t u : TypeId} (h : P.underlying t = some (.slice u)) (hc : P.cellsOf u = e.size) (he : Fits P e (.inl u)) : Fits P (.sl e) (.inl t)
  | arr {e : Sh} {n : Nat} {t u : TypeId} (h : P.underlying t = some (.array n u)) (hc : P.cellsOf u = e.size) (he : Fits P e (.inl u)) : Fits P (.arr n e) (.inl t)
  | st {s : Sh} {t : TypeId} {fs : Array Field} (h : P.underlying t = some (.struct fs)) (hs : Fits P s (.inr (fs.toList, 0))) : Fits P s (.inl t)
  | one {s : Sh} {f : Field} {off : Nat} (ho : f.offset = off) (hc : P.cellsOf f.type = s.size) (hs : Fits P s (.inl f.type)) : Fits P s (.inr ([f], off))
  | cons {a b : Sh} {f g : Field} {fs : List Field} {off : Nat} (ho : f.offset = off) (hc : P.cellsOf f.type = a.size) (ha : Fits P a (.inl f.type)) (hb : Fits P b (.inr (g :: fs, off + a.size))) : Fits P (.pair a b) (.inr (f :: g :: fs, off))

structure Bulky {H : Type} (B : DataW H → Nat) (BL : List (DataW H) → Nat) : Prop where
  str : ∀ s, B (.lit (.string s)) = s.length + 1
  lit : ∀ l, 1 ≤ B (.lit l)
  nil : B .nil = 1
  slice : ∀ a b, B (.slice a b) = BL a + BL b + 1
  agg : ∀ a, B (.agg a) = BL a + 1
  lnil : BL [] = 0
  lcons : ∀ d l, BL (d :: l) = B d + BL l

/-- cells and abstract cells, one by one -/
def CellsR (w : World) (vs : List V) (us : List Value) : Prop :=
  vs.length = us.length ∧ ∀ (j : Nat) (v : V) (u : Value), vs[j]? = some v → us[j]? = some u → FR (fun b => b < w.heap.size) w v u ∧ v.cell1 = true

theorem CellsR.append {w : World} {a b : List V} {x y : List Value} (h1 : CellsR w a x) (h2 : CellsR w b y) : CellsR w (a ++ b) (x ++ y) := by
  refine ⟨by simp [h1.1, h2.1], fun j v u hv hu => ?_⟩
  by_cases hj : j < a.length
  · rw [List.getElem?_append_left hj] at hv
    rw [List.getElem?_append_left (by rw [← h1.1]; exact hj)] at hu
    exact h1.2 j v u hv hu
  · rw [List.getElem?_append_right (by omega)] at hv
    rw [List.getElem?_append_right (by rw [← h1.1]; omega), ← h1.1] at hu
    exact h2.2 _ v u hv hu
theorem CellsR.one {w : World} {v : V} {u : Value} (h : FR (fun b => b < w.heap.size) w v u) (h1 : v.cell1 = true) : CellsR w [v] [u] := by
  refine ⟨rfl, fun j v' u' hv hu => ?_⟩
  cases j with
  | zero => simp at hv hu; subst hv; subst hu; exact ⟨h, h1⟩
  | succ j => simp at hv
theorem CellsR.nil {w : World} : CellsR w [] [] := ⟨rfl, fun j v u hv => by simp at hv⟩
theorem CellsR.flat {α : Type} {w : World} {e : α → List V} : ∀ {xs : List α} {css : List (List Value)}, xs.length = css.length → (∀ (i : Nat) x cs, xs[i]? = some x → css[i]? = some cs → CellsR w (e x) cs) → CellsR w (xs.flatMap e) css.flatten
  | [], [], _, _ => .nil
  | x :: xs, cs :: css, hl, h => by
    rw [List.flatMap_cons, List.flatten_cons]
    exact (h 0 x cs rfl rfl).append (CellsR.flat (by simpa using hl) fun i x cs h1 h2 => h (i + 1) x cs (by simpa using h1) (by simpa using h2))
  | [], _ :: _, hl, _ => by simp at hl
  | _ :: _, [], hl, _ => by simp at hl

theorem Sh.enc_length : (s : Sh) → (x : s.T) → s.good x → (s.enc x).length = s.size
  | .int _, _, _ => rfl
  | .bool, _, _ => rfl
  | .str, _, _ => rfl
  | .sl _, _, _ => rfl
  | .arr n e, l, ⟨hl, hg⟩ => by
    simp only [Sh.enc, Sh.size, List.length_flatMap]
    have : List.map (fun a => (e.enc a).length) (l : List e.T) = List.replicate (List.length (α := e.T) l) e.size := by
      rw [List.eq_replicate_iff]
      refine ⟨by simp, fun b hb => ?_⟩
      obtain ⟨x, hx, rfl⟩ := List.mem_map.1 hb
      exact Sh.enc_length e x (hg x hx)
    rw [this, List.sum_replicate_nat, hl]
  | .pair a b, p, ⟨h1, h2⟩ => by
    simp only [Sh.enc, Sh.size, List.length_append]
    rw [Sh.enc_length a p.1 h1, Sh.enc_length b p.2 h2]

section
variable {H : Type} {enc : TypeId × Value → H} {P : Program} {w : World} {sp : Nat → Bool} {B : DataW H → Nat} {BL : List (DataW H) → Nat}

theorem slice_take {l : List Value} {n : Nat} (h : l.length = n) : (l.drop 0).take n = l := by
  rw [List.drop_zero]; exact List.take_of_length_le (Nat.le_of_eq h)

/-- a family of readings, one by one -/
theorem many_open (hB : Bulky B BL) {s : Sh} {n : Nat} (css : Nat → List Value) (ds : Nat → DataW H) (h : ∀ i, i < n → ∃ x : s.T, s.good x ∧ s.bulk x ≤ B (ds i) ∧ CellsR w (s.enc x) (css i)) :
    ∃ xs : List s.T, xs.length = n ∧ (∀ x ∈ xs, s.good x) ∧ (xs.map s.bulk).sum ≤ BL ((List.range n).map ds) ∧ CellsR w (xs.flatMap s.enc) ((List.range n).map css).flatten := by
  induction n generalizing css ds with
  | zero => exact ⟨[], rfl, fun x hx => (by cases hx), by simp, .nil⟩
  | succ n ih =>
    obtain ⟨x, h1, h2, h3⟩ := h 0 (by omega)
    obtain ⟨xs, g1, g2, g3, g4⟩ := ih (fun i => css (i + 1)) (fun i => ds (i + 1)) (fun i hi => h (i + 1) (by omega))
    refine ⟨x :: xs, by simp [g1], fun y hy => ?_, ?_, ?_⟩
    · rcases List.mem_cons.1 hy with rfl | hy
      · exact h1
      · exact g2 y hy
    · have e1 : (List.range (n + 1)).map ds = ds 0 :: (List.range n).map fun i => ds (i + 1) := by rw [List.range_succ_eq_map, List.map_cons, List.map_map]; rfl
      rw [e1, hB.lcons, List.map_cons, List.sum_cons]
      exact Nat.add_le_add h2 g3
    · have e1 : (List.range (n + 1)).map css = css 0 :: (List.range n).map fun i => css (i + 1) := by rw [List.range_succ_eq_map, List.map_cons, List.map_map]; rfl
      rw [e1, List.flatten_cons, List.flatMap_cons]
      exact h3.append g4

theorem fits_open (hB : Bulky B BL) {s : Sh} {ti : TypeId ⊕ (List Field × Nat)} (h : Fits P s ti) :
    match ti with
    | .inl t => ∀ (fuel : Nat) (cs : List Value) (x : DataW H × List MemPlace), DataW.trod enc P w 0 sp true fuel t cs = some x → cs.length = s.size → ∃ y : s.T, s.good y ∧ s.bulk y ≤ B x.1 ∧ CellsR w (s.enc y) cs
    | .inr (fs, off) => ∀ (fuel : Nat) (cs : List Value) (xs : List (DataW H × List MemPlace)), xs.length = fs.length →
        (∀ (i : Nat) (f : Field), fs[i]? = some f → DataW.trod enc P w 0 sp true fuel f.type ((cs.drop f.offset).take (P.cellsOf f.type)) = xs[i]?) → off + s.size ≤ cs.length →
        ∃ y : s.T, s.good y ∧ s.bulk y ≤ BL (xs.map (·.1)) ∧ CellsR w (s.enc y) ((cs.drop off).take s.size) := by
  induction h with
  | int h =>
    intro fuel cs x hx hl
    rename_i k t
    match cs, hl with
    | [u], _ =>
      cases fuel with
      | zero => simp [DataW.trod] at hx
      | succ m =>
        unfold DataW.trod at hx
        rw [h] at hx
        cases u with
        | int k' n =>
          simp at hx
          obtain ⟨⟨rfl, hwf⟩, rfl⟩ := hx
          exact ⟨n, hwf, by simpa [Sh.bulk] using hB.lit _, .one (.int _ n) rfl⟩
        | _ => simp at hx
  | bool h =>
    intro fuel cs x hx hl
    match cs, hl with
    | [u], _ =>
      cases fuel with
      | zero => simp [DataW.trod] at hx
      | succ m =>
        unfold DataW.trod at hx
        rw [h] at hx
        cases u with
        | bool b =>
          simp at hx
          subst hx
          refine ⟨b, trivial, ?_, .one (.bool b) rfl⟩
          simpa [Sh.bulk] using hB.lit _
        | _ => simp at hx
  | str h =>
    intro fuel cs x hx hl
    match cs, hl with
    | [u], _ =>
      cases fuel with
      | zero => simp [DataW.trod] at hx
      | succ m =>
        unfold DataW.trod at hx
        rw [h] at hx
        cases u with
        | string b =>
          simp at hx
          obtain ⟨_, rfl⟩ := hx
          refine ⟨b.data.toList, trivial, ?_, .one (FR.str b.data.toList) rfl⟩
          simp only [Sh.bulk]
          rw [hB.str]; exact Nat.le_refl _
        | _ => simp at hx
  | sl h hc he ih =>
    rename_i e t u
    intro fuel cs x hx hl
    rcases Go.Deep.open_slice h hx with ⟨rfl, rfl⟩ | ⟨a, len, cap, m, n, D, Pl, rfl, hb, hlc, hm, hmm, rfl, hel⟩
    · refine ⟨([] : List e.T), fun x hx => (by cases hx), by simp [Sh.bulk, hB.nil], .one ?_ rfl⟩
      exact .view 0 _ [] _ 0 (fun _ => undef) (by simp) (Nat.le_refl _) (fun hne => absurd rfl hne) (fun j v hj => by simp at hj) (fun j v hj => by simp at hj)
    · have hlm : len ≤ m := by rw [hmm]; split <;> omega
      obtain ⟨css, hcss⟩ := Go.Deep.choose_lt (α := List Value) (p := fun i cs' => w.cells? 0 (a.add (i * P.cellsOf u)) (P.cellsOf u) = some cs' ∧ DataW.trod enc P w 0 sp true n u cs' = some (D i, Pl i)) hel
      obtain ⟨xs, g1, g2, g3, g4⟩ := many_open (n := len) hB css D (fun i hi => by
        obtain ⟨h1, h2⟩ := hcss i (by omega)
        obtain ⟨_, hlen, _⟩ := World.cells?_some h1
        exact ih n (css i) (D i, Pl i) h2 (by rw [hlen, hc]))
      refine ⟨xs, g2, ?_, .one ?_ rfl⟩
      · simp only [Sh.bulk]; rw [hB.slice]; omega
      · have hlen : (xs.flatMap e.enc).length = len * e.size := by
          rw [g4.1, List.length_flatten, List.map_map]
          have : List.map (List.length ∘ css) (List.range len) = List.replicate len e.size := by
            rw [List.eq_replicate_iff]
            refine ⟨by simp, fun b hb => ?_⟩
            obtain ⟨i, hi, rfl⟩ := List.mem_map.1 hb
            have hi' : i < len := by simpa using hi
            obtain ⟨_, hlen, _⟩ := World.cells?_some (hcss i (by omega)).1
            simp [hlen, hc]
          rw [this, List.sum_replicate_nat]
        rw [show List.length (α := e.T) xs = len from g1]
        -- cells by place
        have hpos : ∀ (j : Nat), j < len * e.size → w.cell? (a.add j) = ((List.range len).map css).flatten[j]? ∧ 0 < e.size := by
          intro j hj
          have hsz : 0 < e.size := by
            rcases Nat.eq_zero_or_pos e.size with h0 | h0
            · rw [h0] at hj; omega
            · exact h0
          refine ⟨?_, hsz⟩
          have key : ∀ (n0 : Nat), n0 ≤ len → ∀ j, j < n0 * e.size → w.cell? (a.add j) = ((List.range n0).map css).flatten[j]? := by
            intro n0
            induction n0 with
            | zero => intro _ j hj; omega
            | succ n0 ihn =>
              intro hn0 j hj
              rw [List.range_succ, List.map_append, List.flatten_append]
              have hl0 : (((List.range n0).map css).flatten).length = n0 * e.size := by
                rw [List.length_flatten, List.map_map]
                have : List.map (List.length ∘ css) (List.range n0) = List.replicate n0 e.size := by
                  rw [List.eq_replicate_iff]
                  refine ⟨by simp, fun b hb => ?_⟩
                  obtain ⟨i, hi, rfl⟩ := List.mem_map.1 hb
                  have hi' : i < n0 := by simpa using hi
                  obtain ⟨_, hlen, _⟩ := World.cells?_some (hcss i (by omega)).1
                  simp [hlen, hc]
                rw [this, List.sum_replicate_nat]
              by_cases hj0 : j < n0 * e.size
              · rw [List.getElem?_append_left (by omega)]
                exact ihn (by omega) j hj0
              · rw [List.getElem?_append_right (by omega), hl0]
                obtain ⟨_, hlen, hcell⟩ := World.cells?_some (hcss n0 (by omega)).1
                rw [Nat.succ_mul] at hj
                have := hcell (j - n0 * e.size) (by rw [hc]; omega)
                rw [Go.Deep.add_add, hc] at this
                rw [show n0 * e.size + (j - n0 * e.size) = j by omega] at this
                rw [this]; simp
          exact key len (Nat.le_refl _) j hj
        refine .view len e.size _ (some a) cap (fun j => ((List.range len).map css).flatten.getD j undef) hlen hlc ?_ ?_ ?_
        · intro hne
          have h0 : 0 < len * e.size := by rw [← hlen]; exact List.length_pos_iff.2 hne
          have hc0 := (hpos 0 h0).1
          have hlt : 0 < (((List.range len).map css).flatten).length := by rw [← g4.1, hlen]; exact h0
          rw [List.getElem?_eq_getElem hlt] at hc0
          obtain ⟨b, off, spot⟩ := a
          have hspot : spot = none := by simpa [Addr.add] using World.cell?_spot hc0
          subst hspot
          refine ⟨b, off, rfl, ?_, fun j v hj => ?_⟩
          · rw [add_addr] at hc0
            unfold World.cell? at hc0
            split at hc0
            · rename_i hh; exact heap_lt hh
            · cases hc0
          · have hj' : j < len * e.size := by rw [← hlen]; exact (List.getElem?_eq_some_iff.1 hj).1
            have := (hpos j hj').1
            rw [add_addr] at this
            rw [this]
            have hlt2 : j < (((List.range len).map css).flatten).length := by rw [← g4.1, hlen]; exact hj'
            rw [List.getElem?_eq_getElem hlt2, List.getD_eq_getElem?_getD, List.getElem?_eq_getElem hlt2]; rfl
        · intro j v hj
          have hlt : j < (((List.range len).map css).flatten).length := by rw [← g4.1]; exact (List.getElem?_eq_some_iff.1 hj).1
          have := (g4.2 j v _ hj (List.getElem?_eq_getElem hlt)).1
          rw [List.getD_eq_getElem?_getD, List.getElem?_eq_getElem hlt]
          exact this
        · intro j v hj
          have hlt : j < (((List.range len).map css).flatten).length := by rw [← g4.1]; exact (List.getElem?_eq_some_iff.1 hj).1
          exact (g4.2 j v _ hj (List.getElem?_eq_getElem hlt)).2
  | arr h hc he ih =>
    rename_i e n t u
    intro fuel cs x hx hl
    obtain ⟨xs, m, _, rfl, hl2, hlen, hel⟩ := DataW.trod_array h hx
    have hl' : cs.length = n * e.size := hl
    obtain ⟨ys, g1, g2, g3, g4⟩ := many_open (n := n) (w := w) (s := e) hB (fun i => (cs.drop (i * e.size)).take e.size) (fun i => (xs.getD i (.nil, [])).1) (fun i hi => by
      have h1 := hel i hi
      rw [hc, List.getElem?_eq_getElem (by omega)] at h1
      have := ih m _ _ h1 (by
        rw [List.length_take, List.length_drop, hl']
        have : (i + 1) * e.size ≤ n * e.size := Nat.mul_le_mul_right _ hi
        rw [Nat.succ_mul] at this
        omega)
      have e1 : xs.getD i (.nil, []) = xs[i] := by simp [List.getD, List.getElem?_eq_getElem (show i < xs.length by omega)]
      rw [e1]
      exact this)
    refine ⟨ys, ⟨g1, g2⟩, ?_, ?_⟩
    · simp only [Sh.bulk]; rw [hB.agg]
      have : (List.range n).map (fun i => (xs.getD i (.nil, [])).1) = xs.map (·.1) := by
        rw [Go.Deep.map_by_index xs (.nil, []) (·.1), hlen]
      rw [this] at g3; omega
    · have : ((List.range n).map fun i => (cs.drop (i * e.size)).take e.size).flatten = cs := by
        have key : ∀ n0, n0 ≤ n → ((List.range n0).map fun i => (cs.drop (i * e.size)).take e.size).flatten = cs.take (n0 * e.size) := by
          intro n0
          induction n0 with
          | zero => intro _; simp
          | succ n0 ihn =>
            intro h0
            rw [List.range_succ, List.map_append, List.flatten_append, ihn (by omega)]
            simp only [List.map_cons, List.map_nil, List.flatten_cons, List.flatten_nil, List.append_nil]
            rw [Nat.succ_mul, List.take_add]
        rw [key n (Nat.le_refl _)]
        exact List.take_of_length_le (Nat.le_of_eq hl')
      rw [this] at g4
      exact g4
  | st h hs ih =>
    rename_i s t fs
    intro fuel cs x hx hl
    obtain ⟨xs, m, _, rfl, hl2, hlen, hel⟩ := DataW.trod_struct h hx
    obtain ⟨y, h1, h2, h3⟩ := ih m cs xs (by simpa using hlen) (fun i f hf => hel i f (by simpa using hf)) (by omega)
    refine ⟨y, h1, ?_, ?_⟩
    · rw [hB.agg]; exact Nat.le_succ_of_le h2
    · rw [slice_take hl] at h3; exact h3
  | one ho hc hs ih =>
    rename_i s f off
    intro fuel cs xs hlen hel hroom
    match xs, hlen with
    | [x0], _ =>
      have h1 := hel 0 f rfl
      rw [ho, hc] at h1
      obtain ⟨y, g1, g2, g3⟩ := ih fuel _ x0 h1 (by rw [List.length_take, List.length_drop]; omega)
      refine ⟨y, g1, ?_, g3⟩
      rw [List.map_cons, List.map_nil, hB.lcons, hB.lnil]; omega
  | cons ho hc ha hb iha ihb =>
    rename_i a b f g fs off
    intro fuel cs xs hlen hel hroom
    match xs, hlen with
    | x0 :: xs, hlen =>
      have h1 := hel 0 f rfl
      rw [ho, hc] at h1
      simp only [Sh.size] at hroom ⊢
      obtain ⟨y, g1, g2, g3⟩ := iha fuel _ x0 h1 (by rw [List.length_take, List.length_drop]; omega)
      obtain ⟨z, k1, k2, k3⟩ := ihb fuel cs xs (by simpa using hlen) (fun i f hf => by have := hel (i + 1) f (by simpa using hf); simpa using this) (by omega)
      refine ⟨(y, z), ⟨g1, k1⟩, ?_, ?_⟩
      · rw [List.map_cons, hB.lcons]; exact Nat.add_le_add g2 k2
      · have := g3.append k3
        rw [← List.drop_drop, ← List.take_add] at this
        exact this
end
end Go.Abs

/- A library of mine, its thirtieth text: from a contract on abstract values to a law's statement. -/
namespace Go.Abs
set_option linter.unusedSimpArgs false
set_option linter.unusedVariables false
open Go Go.RowKit Go.ChangeShapes Go.WideShapes Go.ChangeAt

def Sh.isPair : Sh → Bool
  | .pair _ _ => true
  | _ => false
def topOk (P : Program) (t : TypeId) (s : Sh) : Bool :=
  match P.underlying t with
  | some (.struct _) => s.isPair
  | _ => true

@[reducible] def ShsT : List Sh → Type
  | [] => Unit
  | s :: l => s.T × ShsT l
def valsL : (l : List Sh) → ShsT l → List V
  | [], _ => []
  | s :: l, p => s.val p.1 :: valsL l p.2
def goodL : (l : List Sh) → ShsT l → Prop
  | [], _ => True
  | s :: l, p => s.good p.1 ∧ goodL l p.2
def bulkL : (l : List Sh) → ShsT l → Nat
  | [], _ => 0
  | s :: l, p => s.bulk p.1 + bulkL l p.2
def FitsL (P : Program) : List Sh → List TypeId → Prop
  | [], [] => True
  | s :: l, t :: ts => (Fits P s (.inl t) ∧ P.cellsOf t = s.size ∧ topOk P t s = true) ∧ FitsL P l ts
  | _, _ => False

section
variable {H : Type} {enc : TypeId × Value → H} {P : Program} {w : World} {sp : Nat → Bool} {B : DataW H → Nat} {BL : List (DataW H) → Nat}

theorem one_open {s : Sh} {y : s.T} {v0 : V} {u : Value} (he : s.enc y = [v0]) (hv : s.val y = v0) (h : CellsR w (s.enc y) [u]) : VR (fun b => b < w.heap.size) w (fun _ => none) (s.val y) u := by
  rw [he] at h
  rw [hv]
  exact .flat (h.2 0 v0 u rfl rfl).1
theorem many_fagg {cs : List V} {us : Array Value} (h : CellsR w cs us.toList) : VR (fun b => b < w.heap.size) w (fun _ => none) (.fagg cs) (.agg us) := by
  refine .flat (.fagg cs us (by simpa using h.1) (fun j v u hv hu => (h.2 j v u hv (by simpa using hu)).1) (fun j v hv => ?_))
  have hlt : j < us.toList.length := by rw [← h.1]; exact (List.getElem?_eq_some_iff.1 hv).1
  exact (h.2 j v _ hv (List.getElem?_eq_getElem hlt)).2

theorem arg_open (hB : Bulky B BL) {s : Sh} {t : TypeId} (hf : Fits P s (.inl t)) (hc : P.cellsOf t = s.size) (ht : topOk P t s = true) {base : Nat} {v : Value} {d : DataW H} {ps : List MemPlace} (hok : Value.okWide P w .any base t v) (hr : DataW.Trod enc P w 0 sp true t v d ps) :
    ∃ y : s.T, s.good y ∧ s.bulk y ≤ B d ∧ VR (fun b => b < w.heap.size) w (fun _ => none) (s.val y) v := by
  obtain ⟨fuel, hr⟩ := hr
  have hopen := fits_open (enc := enc) (w := w) (sp := sp) hB hf fuel v.cells.toList (d, ps) hr
  have one : ∀ {v0 : Value}, v = v0 → (∀ cs, v0 ≠ .agg cs) → v.cells.toList = [v] := by
    intro v0 e hn
    subst e
    cases v with
    | agg cs => exact absurd rfl (hn cs)
    | _ => rfl
  have plain : (∀ fs, P.underlying t ≠ some (.struct fs)) → (∀ n e, P.underlying t ≠ some (.array n e)) → v.cells.toList = [v] := by
    intro h1 h2
    refine one rfl fun cs e => ?_
    subst e
    unfold Value.okWide at hok
    split at hok
    · rename_i fs hu; exact h1 fs hu
    · rename_i n e hu; exact h2 n e hu
    · unfold Cell.okWide at hok
      split at hok <;> first | (rename_i hh; simp_all; done) | skip
      unfold Cell.ok at hok
      split at hok <;> first | exact hok.elim | (rename_i hh; simp_all; done) | skip
  cases hf with
  | int h =>
    have e := plain (by simp [h]) (by simp [h])
    rw [e] at hopen
    obtain ⟨y, h1, h2, h3⟩ := hopen rfl
    exact ⟨y, h1, h2, one_open rfl rfl h3⟩
  | bool h =>
    have e := plain (by simp [h]) (by simp [h])
    rw [e] at hopen
    obtain ⟨y, h1, h2, h3⟩ := hopen rfl
    exact ⟨y, h1, h2, one_open rfl rfl h3⟩
  | str h =>
    have e := plain (by simp [h]) (by simp [h])
    rw [e] at hopen
    obtain ⟨y, h1, h2, h3⟩ := hopen rfl
    exact ⟨y, h1, h2, one_open rfl rfl h3⟩
  | sl h _ _ =>
    have e := plain (by simp [h]) (by simp [h])
    rw [e] at hopen
    obtain ⟨y, h1, h2, h3⟩ := hopen rfl
    exact ⟨y, h1, h2, one_open rfl rfl h3⟩
  | arr h _ _ =>
    unfold Value.okWide at hok
    rw [h] at hok
    obtain ⟨cs, rfl, hsz, _⟩ := hok
    obtain ⟨y, h1, h2, h3⟩ := hopen (by simpa [Value.cells] using hsz.trans hc)
    exact ⟨y, h1, h2, many_fagg h3⟩
  | st h _ =>
    unfold Value.okWide at hok
    rw [h] at hok
    obtain ⟨cs, rfl, hsz, _⟩ := hok
    obtain ⟨y, h1, h2, h3⟩ := hopen (by simpa [Value.cells] using hsz.trans hc)
    refine ⟨y, h1, h2, ?_⟩
    unfold topOk at ht
    rw [h] at ht
    cases s with
    | pair a b => exact many_fagg h3
    | _ => cases ht

theorem args_open (hB : Bulky B BL) {base : Nat} : ∀ {shs : List Sh} {ts : List TypeId} {vs : List Value} {ds : List (DataW H)} {ps : List MemPlace}, FitsL P shs ts → (∀ (j : Nat) t v, ts[j]? = some t → vs[j]? = some v → Value.okWide P w .any base t v) →
    DataW.TrodAll enc P w 0 sp true ts vs ds ps → ∃ y : ShsT shs, goodL shs y ∧ bulkL shs y ≤ BL ds ∧ (valsL shs y).length = vs.length ∧ ∀ (j : Nat) (v : V) (u : Value), (valsL shs y)[j]? = some v → vs[j]? = some u → VR (fun b => b < w.heap.size) w (fun _ => none) v u
  | [], [], [], [], _, _, _, _ => ⟨(), trivial, Nat.zero_le _, rfl, fun j v u hv => by simp [valsL] at hv⟩
  | s :: shs, t :: ts, v :: vs, d :: ds, ps, hf, hok, hr => by
    obtain ⟨⟨hf1, hf2, hf3⟩, hfl⟩ := hf
    obtain ⟨p, q, h1, h2, rfl⟩ := hr
    obtain ⟨y, g1, g2, g3⟩ := arg_open hB hf1 hf2 hf3 (hok 0 t v rfl rfl) h1
    obtain ⟨ys, k1, k2, k3, k4⟩ := args_open hB hfl (fun j t v ht hv => hok (j + 1) t v (by simpa using ht) (by simpa using hv)) h2
    refine ⟨(y, ys), ⟨g1, k1⟩, ?_, by simp [valsL, k3], fun j v' u hv hu => ?_⟩
    · rw [hB.lcons]; exact Nat.add_le_add g2 k2
    · cases j with
      | zero => simp [valsL] at hv hu; subst hv; subst hu; exact g3
      | succ j => exact k4 j v' u (by simpa [valsL] using hv) (by simpa using hu)
  | _ :: _, [], _, _, _, hf, _, _ => hf.elim
  | [], _ :: _, _, _, _, hf, _, _ => hf.elim
  | [], [], _ :: _, _, _, _, _, hr => hr.elim
  | [], [], [], _ :: _, _, _, _, hr => hr.elim
  | _ :: _, _ :: _, [], _, _, _, _, hr => hr.elim
  | _ :: _, _ :: _, _ :: _, [], _, _, _, hr => hr.elim

theorem sameAt_frame {W W' : World} (hfr : Frame1 (fun _ => False) W W') {p : MemPlace} (hp : p.block < W.heap.size) : W.sameAt W' p := by
  cases p with
  | cell b off => exact cell?_heap (hfr.block b hp (fun h => h))
  | map b => exact hfr.block b hp (fun h => h)

theorem args_stay {W W' : World} (hl : laidOutB P = true) (hfr : Frame1 (fun _ => False) W W') : ∀ {ts : List TypeId} {vs : List Value} {ds : List (DataW H)} {ps : List MemPlace}, (∀ t ∈ ts, P.readableRec t = true ∧ t < P.types.size) →
    DataW.TrodAll enc P W 0 (fun _ => true) true ts vs ds ps → (∀ p ∈ ps, p.block < W.heap.size ∧ sp p.block = true) → DataW.TrodAll enc P W' 0 sp true ts vs ds ps
  | [], [], [], _, _, h, _ => h
  | t :: ts, v :: vs, d :: ds, ps, ht, h, hps => by
    obtain ⟨p, q, ⟨n, h1⟩, h2, rfl⟩ := h
    obtain ⟨hr, hrow⟩ := ht t (by simp)
    refine ⟨p, q, ⟨n, ?_⟩, args_stay hl hfr (fun t h => ht t (by simp [h])) h2 (fun x hx => hps x (List.mem_append_right _ hx)), rfl⟩
    exact DataW.trod_stays (kids_book hl hr) (book_sized hr) (fun h => by cases h) ⟨hrow, book_self t⟩ h1 (fun x hx => sameAt_frame hfr (hps x (List.mem_append_left _ hx)).1) (fun x hx => (hps x (List.mem_append_left _ hx)).2)
  | [], _ :: _, _, _, _, h, _ => h.elim
  | [], [], _ :: _, _, _, h, _ => h.elim
  | _ :: _, [], _, _, _, h, _ => h.elim
  | _ :: _, _ :: _, [], _, _, h, _ => h.elim

theorem law_post {fn : Func} {s : ChangeSpec} {W W' : World} {args : Array Value} {ds gs : List (DataW H)} {before : List MemPlace} (hW : DataW.Whole enc P fn.params.toList s.vars false W args.toList ds gs before) (hvars : s.vars = [])
    (hfn : s.fn H ds = { results := [.lit (.bool true)], args := ds }) {rt : TypeId} (hrt : fn.resultTypes = #[rt]) (hb : P.underlying rt = some .bool) (hl : laidOutB P = true) (hpr : ∀ t ∈ fn.params.toList, P.readableRec t = true ∧ t < P.types.size)
    (hfr : Frame1 (fun _ => False) W W') : s.post enc P fn false true false false W args (.bool true) W' := by
  have hW0 := hW
  obtain ⟨p, q, hA, hV, hpq, hfz, hnd⟩ := hW
  rw [hvars] at hV
  obtain ⟨rfl, rfl⟩ := trodVars_none hV
  rw [List.append_nil] at hpq
  subst hpq
  have hold : ∀ x ∈ before, x.block < W.heap.size := fun x hx => hW0.lt x hx
  refine ⟨ds, [], before, [], before, [], hW0, ?_, ?_, ?_, ?_, fun h => (by cases h)⟩
  · rw [List.append_nil, hfn, hrt]
    simp only [Value.resultList]
    refine ⟨[], [], ⟨1, ?_⟩, rfl, rfl⟩
    simp [DataW.trod, hb, Value.cells]
  · rw [List.append_nil, hfn]
    exact args_stay hl hfr hpr hA fun x hx => ⟨hold x hx, by simpa using hold x hx⟩
  · rw [List.append_nil, hfn, hvars]; rfl
  · refine ⟨hfr.os, hfr.output, fun i hi => ?_⟩
    rw [hfr.block i hi (fun h => h)]
    cases hh : W.heap[i]? with
    | none => exact rfl
    | some o =>
      cases o with
      | cells c t fr => exact ⟨rfl, rfl, rfl, fun _ _ => rfl⟩
      | map es clock => exact .inr ⟨rfl, rfl⟩
      | _ => exact rfl

/-- what a law's contract gives -/
theorem law_calls {f : FuncId} {fn : Func} {s : ChangeSpec} {shs : List Sh} {W : World} {base : Nat} {args : Array Value} {ds gs : List (DataW H)} {before : List MemPlace} (hB : Bulky B BL) {N : Nat}
    (hAC : ∀ y : ShsT shs, goodL shs y → bulkL shs y ≤ N → AC P f (valsL shs y) (fun r m => r = .bool true ∧ m = []))
    (hfits : FitsL P shs fn.params.toList) (hvars : s.vars = []) (hfn : ∀ ds : List (DataW H), ds.length = fn.params.toList.length → s.fn H ds = { results := [.lit (.bool true)], args := ds }) {rt : TypeId} (hrt : fn.resultTypes = #[rt]) (hb : P.underlying rt = some .bool)
    (hl : laidOutB P = true) (hpr : ∀ t ∈ fn.params.toList, P.readableRec t = true ∧ t < P.types.size)
    (hval : ∀ (j : Nat) t v, fn.params[j]? = some t → args[j]? = some v → Value.okWide P W .any base t v)
    (hW : DataW.Whole enc P fn.params.toList s.vars false W args.toList ds gs before) (hbulk : BL (ds ++ gs) ≤ N) :
    Calls P f args W fun e W' => ∃ v, e = .returned v ∧ s.post enc P fn false true false false W args v W' := by
  have hW0 := hW
  obtain ⟨p, q, hA, hV, hpq, hfz, hnd⟩ := hW
  rw [hvars] at hV
  obtain ⟨rfl, rfl⟩ := trodVars_none hV
  rw [List.append_nil] at hbulk
  obtain ⟨y, g1, g2, g3, g4⟩ := args_open hB hfits (fun j t v ht hv => hval j t v (by simpa using ht) (by simpa using hv)) hA
  have hlen : ∀ {ts : List TypeId} {vs : List Value} {ds : List (DataW H)} {ps : List MemPlace}, DataW.TrodAll enc P W 0 (fun _ => true) true ts vs ds ps → ds.length = ts.length := by
    intro ts
    induction ts with
    | nil => intro vs ds ps h; cases vs <;> cases ds <;> first | rfl | exact h.elim
    | cons t ts ih =>
      intro vs ds ps h
      cases vs with
      | nil => exact h.elim
      | cons v vs => cases ds with
        | nil => exact h.elim
        | cons d ds => obtain ⟨_, _, _, h2, _⟩ := h; simp [ih h2]
  have hc := hAC y g1 (Nat.le_trans g2 hbulk) (fun b => b < W.heap.size) W args.toList (fun b hb => hb) g3 g4
  rw [Array.toArray_toList] at hc
  refine Calls.mono hc ?_
  rintro e W' ⟨r, m, u, ⟨rfl, rfl⟩, rfl, ⟨⟨S', β', _, _, hv, _⟩, hfr⟩⟩
  have := VR.bool_inv hv
  subst this
  exact ⟨_, rfl, law_post hW0 hvars (hfn ds (hlen hA)) hrt hb hl hpr hfr⟩
end
end Go.Abs

/- A library of mine, its thirty-fourth text: common arguments. -/
namespace Go.Abs
set_option linter.unusedSimpArgs false
set_option linter.unusedVariables false
open Go Go.RowKit
theorem flat_ints {k : IntKind} (xs : List Int) : List.flatMap (Sh.enc (.int k)) xs = nums k xs := by
  induction xs with
  | nil => rfl
  | cons x xs ih => rw [List.flatMap_cons, ih]; rfl
theorem val_ints {k : IntKind} (xs : List Int) : Sh.val (.sl (.int k)) xs = .view xs.length 1 (nums k xs) := by
  simp only [Sh.val, Sh.size]
  rw [flat_ints]
theorem one_bulk : (s : Sh) → (x : s.T) → 1 ≤ s.bulk x
  | .int _, _ => Nat.le_refl _
  | .bool, _ => Nat.le_refl _
  | .str, _ => by simp [Sh.bulk]
  | .sl _, _ => by simp [Sh.bulk]
  | .arr n e, _ => by simp [Sh.bulk]
  | .pair a b, p => by
    have := one_bulk a p.1
    simp only [Sh.bulk]; omega
theorem bulk_len {s : Sh} (l : List s.T) : l.length ≤ (l.map s.bulk).sum := by
  induction l with
  | nil => simp
  | cons x l ih =>
    have := one_bulk s x
    rw [List.map_cons, List.sum_cons, List.length_cons]; omega
theorem bulk_mem {s : Sh} {l : List s.T} {x : s.T} (h : x ∈ l) : s.bulk x ≤ (l.map s.bulk).sum := by
  induction l with
  | nil => cases h
  | cons y l ih =>
    rw [List.map_cons, List.sum_cons]
    rcases List.mem_cons.1 h with rfl | h
    · omega
    · have := ih h; omega
theorem bulk_sl {s : Sh} (l : List s.T) : l.length + 1 ≤ Sh.bulk (.sl s) l := by
  have := bulk_len l
  simp only [Sh.bulk]; omega
theorem bulk_sl_mem {s : Sh} {l : List s.T} {x : s.T} (h : x ∈ l) : s.bulk x ≤ Sh.bulk (.sl s) l := by
  have := bulk_mem h
  simp only [Sh.bulk]; omega
theorem bulk_ints {k : IntKind} (xs : List Int) : xs.length + 1 ≤ Sh.bulk (.sl (.int k)) xs := bulk_sl (s := .int k) xs
end Go.Abs

/- A library of mine, its thirty-fifth text: the rules of normal forms, as one. -/
namespace Go.Abs
set_option linter.unusedSimpArgs false
set_option linter.unusedVariables false
open Go Go.RowKit
section
variable (σ : Nat → Option Nat) (d : Nat)
theorem rk_int (k : IntKind) (x : Int) : V.rk σ (d + 1) (.int k x) = .int k x := rfl
theorem rk_bool (b : Bool) : V.rk σ (d + 1) (.bool b) = .bool b := rfl
theorem rk_str (s : List UInt8) : V.rk σ (d + 1) (.str s) = .str s := rfl
theorem rk_con (v : Value) : V.rk σ (d + 1) (.con v) = .con v := rfl
theorem rk_nils  : V.rk σ (d + 1) (.nils) = .nils := rfl
theorem rk_view (n s : Nat) (cs : List V) : V.rk σ (d + 1) (.view n s cs) = .view n s cs := rfl
theorem rk_vptr (cs : List V) : V.rk σ (d + 1) (.vptr cs) = .vptr cs := rfl
theorem rk_fagg (cs : List V) : V.rk σ (d + 1) (.fagg cs) = .fagg cs := rfl
theorem rk_clo (g : FuncId) (cs : List V) : V.rk σ (d + 1) (.clo g cs) = .clo g cs := rfl
theorem rk_any  : V.rk σ (d + 1) (.any) = .any := rfl
theorem rk_ref (k o n s : Nat) : V.rk σ (d + 1) (.ref k o n s) = match σ k with | some j => .ref j o n s | none => .any := rfl
theorem rk_ptr (k o : Nat) : V.rk σ (d + 1) (.ptr k o) = match σ k with | some j => .ptr j o | none => .any := rfl
theorem rk_agg (cs : List V) : V.rk σ (d + 1) (.agg cs) = .agg (cs.map (V.rk σ d)) := rfl
theorem rk_tup (cs : List V) : V.rk σ (d + 1) (.tup cs) = .tup (cs.map (V.rk σ d)) := rfl
theorem rk_fn (f : FuncId) (cs : List V) : V.rk σ (d + 1) (.fn f cs) = .fn f (cs.map (V.rk σ d)) := rfl
end
theorem NS0 : (((((type_of% @St.put.eq_1 ∧ type_of% @St.repl.eq_1) ∧ (type_of% @St.rename.eq_1 ∧ type_of% @St.setObj.eq_1)) ∧ ((type_of% @St.create.eq_1 ∧ type_of% @St.get.eq_1) ∧ (type_of% @St.ev.eq_1 ∧ type_of% @St.ev.eq_2))) ∧ (((type_of% @St.ev.eq_3 ∧ type_of% @St.ev.eq_4) ∧ (type_of% @St.obj.eq_1 ∧ type_of% @lk.eq_1)) ∧ ((type_of% @lk.eq_2 ∧ type_of% @rm.eq_1) ∧ (type_of% @rm.eq_2 ∧ type_of% @List.map_cons.{0, 0})))) ∧ ((((type_of% @List.map_nil.{0, 0} ∧ type_of% @wipe_int) ∧ (type_of% @wipe_bool ∧ type_of% @wipe_str)) ∧ ((type_of% @wipe_con ∧ type_of% @wipe_nils) ∧ (type_of% @wipe_view ∧ type_of% @wipe_vptr))) ∧ (((type_of% @wipe_fagg ∧ type_of% @wipe_clo) ∧ (type_of% @wipe_any ∧ type_of% @wipe_ref)) ∧ ((type_of% @wipe_ptr ∧ type_of% @wipe_agg) ∧ (type_of% @wipe_tup ∧ type_of% @wipe_fn))))) :=
  ⟨⟨⟨⟨⟨@St.put.eq_1, @St.repl.eq_1⟩, ⟨@St.rename.eq_1, @St.setObj.eq_1⟩⟩, ⟨⟨@St.create.eq_1, @St.get.eq_1⟩, ⟨@St.ev.eq_1, @St.ev.eq_2⟩⟩⟩, ⟨⟨⟨@St.ev.eq_3, @St.ev.eq_4⟩, ⟨@St.obj.eq_1, @lk.eq_1⟩⟩, ⟨⟨@lk.eq_2, @rm.eq_1⟩, ⟨@rm.eq_2, @List.map_cons.{0, 0}⟩⟩⟩⟩, ⟨⟨⟨⟨@List.map_nil.{0, 0}, @wipe_int⟩, ⟨@wipe_bool, @wipe_str⟩⟩, ⟨⟨@wipe_con, @wipe_nils⟩, ⟨@wipe_view, @wipe_vptr⟩⟩⟩, ⟨⟨⟨@wipe_fagg, @wipe_clo⟩, ⟨@wipe_any, @wipe_ref⟩⟩, ⟨⟨@wipe_ptr, @wipe_agg⟩, ⟨@wipe_tup, @wipe_fn⟩⟩⟩⟩⟩
theorem NS1 : (((((type_of% @ren_int ∧ type_of% @ren_bool) ∧ (type_of% @ren_str ∧ type_of% @ren_con)) ∧ ((type_of% @ren_nils ∧ type_of% @ren_view) ∧ (type_of% @ren_vptr ∧ type_of% @ren_fagg))) ∧ (((type_of% @ren_clo ∧ type_of% @ren_any) ∧ (type_of% @ren_ref ∧ type_of% @ren_ptr)) ∧ ((type_of% @ren_agg ∧ type_of% @ren_tup) ∧ (type_of% @ren_fn ∧ type_of% @frz_int)))) ∧ ((((type_of% @frz_bool ∧ type_of% @frz_str) ∧ (type_of% @frz_con ∧ type_of% @frz_nils)) ∧ ((type_of% @frz_view ∧ type_of% @frz_vptr) ∧ (type_of% @frz_fagg ∧ type_of% @frz_clo))) ∧ (((type_of% @frz_any ∧ type_of% @frz_ref) ∧ (type_of% @frz_ptr ∧ type_of% @frz_agg)) ∧ ((type_of% @frz_tup ∧ type_of% @frz_fn) ∧ (type_of% @owipe_t ∧ type_of% @owipe_f))))) :=
  ⟨⟨⟨⟨⟨@ren_int, @ren_bool⟩, ⟨@ren_str, @ren_con⟩⟩, ⟨⟨@ren_nils, @ren_view⟩, ⟨@ren_vptr, @ren_fagg⟩⟩⟩, ⟨⟨⟨@ren_clo, @ren_any⟩, ⟨@ren_ref, @ren_ptr⟩⟩, ⟨⟨@ren_agg, @ren_tup⟩, ⟨@ren_fn, @frz_int⟩⟩⟩⟩, ⟨⟨⟨⟨@frz_bool, @frz_str⟩, ⟨@frz_con, @frz_nils⟩⟩, ⟨⟨@frz_view, @frz_vptr⟩, ⟨@frz_fagg, @frz_clo⟩⟩⟩, ⟨⟨⟨@frz_any, @frz_ref⟩, ⟨@frz_ptr, @frz_agg⟩⟩, ⟨⟨@frz_tup, @frz_fn⟩, ⟨@owipe_t, @owipe_f⟩⟩⟩⟩⟩
theorem NS2 : (((((type_of% @oren_t ∧ type_of% @oren_f) ∧ (type_of% @ofrz_t ∧ type_of% @ofrz_f)) ∧ ((type_of% @frzV_int ∧ type_of% @frzC_int) ∧ (type_of% @frzV_bool ∧ type_of% @frzC_bool))) ∧ (((type_of% @frzV_str ∧ type_of% @frzC_str) ∧ (type_of% @frzV_con ∧ type_of% @frzC_con)) ∧ ((type_of% @frzV_nils ∧ type_of% @frzC_nils) ∧ (type_of% @frzV_view ∧ type_of% @frzC_view)))) ∧ ((((type_of% @frzV_vptr ∧ type_of% @frzC_vptr) ∧ (type_of% @frzV_fagg ∧ type_of% @frzC_fagg)) ∧ ((type_of% @frzV_clo ∧ type_of% @frzC_clo) ∧ (type_of% @frzV_any ∧ type_of% @frzC_any))) ∧ (((type_of% @frzV_tup ∧ type_of% @frzC_tup) ∧ (type_of% @frzV_fn ∧ type_of% @frzC_fn)) ∧ ((type_of% @frzV_ptr ∧ type_of% @frzC_ptr) ∧ (type_of% @frzC_agg ∧ type_of% @frzV_ref))))) :=
  ⟨⟨⟨⟨⟨@oren_t, @oren_f⟩, ⟨@ofrz_t, @ofrz_f⟩⟩, ⟨⟨@frzV_int, @frzC_int⟩, ⟨@frzV_bool, @frzC_bool⟩⟩⟩, ⟨⟨⟨@frzV_str, @frzC_str⟩, ⟨@frzV_con, @frzC_con⟩⟩, ⟨⟨@frzV_nils, @frzC_nils⟩, ⟨@frzV_view, @frzC_view⟩⟩⟩⟩, ⟨⟨⟨⟨@frzV_vptr, @frzC_vptr⟩, ⟨@frzV_fagg, @frzC_fagg⟩⟩, ⟨⟨@frzV_clo, @frzC_clo⟩, ⟨@frzV_any, @frzC_any⟩⟩⟩, ⟨⟨⟨@frzV_tup, @frzC_tup⟩, ⟨@frzV_fn, @frzC_fn⟩⟩, ⟨⟨@frzV_ptr, @frzC_ptr⟩, ⟨@frzC_agg, @frzV_ref⟩⟩⟩⟩⟩
theorem NS3 : (((((type_of% @frzC_ref ∧ type_of% @frzV_agg) ∧ (type_of% @beq_self_eq_true.{0} ∧ type_of% @cond_true.{1})) ∧ ((type_of% @cond_false.{1} ∧ type_of% @Option.getD_some.{0}) ∧ (type_of% @Option.getD_none.{0} ∧ type_of% @List.contains_nil.{0}))) ∧ (((type_of% @hasK.eq_1 ∧ type_of% @hasK.eq_2) ∧ (type_of% @unpin.eq_1 ∧ type_of% @unpin.eq_2)) ∧ ((type_of% @vi_ld ∧ type_of% @vi_at) ∧ (type_of% @Nat.mul_one ∧ type_of% @Int.toNat_natCast)))) ∧ ((((type_of% @List.foldl_cons.{0, 0} ∧ type_of% @List.foldl_nil.{0, 0}) ∧ (type_of% @St.freeze.eq_1 ∧ type_of% @ofConst.eq_1)) ∧ ((type_of% @ofConst.eq_2 ∧ type_of% @ofConst.eq_3) ∧ (type_of% @ofConst.eq_4 ∧ type_of% @ofConst.eq_5))) ∧ (((type_of% @St.keep.eq_1 ∧ type_of% @List.contains_cons.{0}) ∧ (type_of% @Bool.not_true ∧ type_of% @Bool.not_false)) ∧ ((type_of% @Bool.and_true ∧ type_of% @Bool.and_false) ∧ (type_of% @Bool.or_false ∧ type_of% @Bool.true_and))))) :=
  ⟨⟨⟨⟨⟨@frzC_ref, @frzV_agg⟩, ⟨@beq_self_eq_true.{0}, @cond_true.{1}⟩⟩, ⟨⟨@cond_false.{1}, @Option.getD_some.{0}⟩, ⟨@Option.getD_none.{0}, @List.contains_nil.{0}⟩⟩⟩, ⟨⟨⟨@hasK.eq_1, @hasK.eq_2⟩, ⟨@unpin.eq_1, @unpin.eq_2⟩⟩, ⟨⟨@vi_ld, @vi_at⟩, ⟨@Nat.mul_one, @Int.toNat_natCast⟩⟩⟩⟩, ⟨⟨⟨⟨@List.foldl_cons.{0, 0}, @List.foldl_nil.{0, 0}⟩, ⟨@St.freeze.eq_1, @ofConst.eq_1⟩⟩, ⟨⟨@ofConst.eq_2, @ofConst.eq_3⟩, ⟨@ofConst.eq_4, @ofConst.eq_5⟩⟩⟩, ⟨⟨⟨@St.keep.eq_1, @List.contains_cons.{0}⟩, ⟨@Bool.not_true, @Bool.not_false⟩⟩, ⟨⟨@Bool.and_true, @Bool.and_false⟩, ⟨@Bool.or_false, @Bool.true_and⟩⟩⟩⟩⟩
theorem NS4 : (((((type_of% @Bool.false_and ∧ type_of% @st0.eq_1) ∧ (type_of% @argSlots.eq_1 ∧ type_of% @argSlots.eq_2)) ∧ ((type_of% @St.ownL.eq_1 ∧ type_of% @St.ownL.eq_2) ∧ (type_of% @St.own1.eq_1 ∧ type_of% @St.settle.eq_1))) ∧ (((type_of% @ckey.eq_1 ∧ type_of% @vcells_agg) ∧ (type_of% @vcells_fagg ∧ type_of% @List.getElem?_cons_zero.{0})) ∧ ((type_of% @List.getElem?_cons_succ.{0} ∧ type_of% @List.getD_cons_zero.{0}) ∧ (type_of% @List.getD_cons_succ.{0} ∧ type_of% @St.adoptL.eq_1)))) ∧ ((((type_of% @St.adoptL.eq_2 ∧ type_of% @shift_int) ∧ (type_of% @shift_bool ∧ type_of% @shift_str)) ∧ ((type_of% @shift_con ∧ type_of% @shift_nils) ∧ (type_of% @shift_view ∧ type_of% @shift_vptr))) ∧ (((type_of% @shift_fagg ∧ type_of% @shift_clo) ∧ (type_of% @shift_any ∧ type_of% @shift_ref)) ∧ ((type_of% @shift_ptr ∧ type_of% @shift_agg) ∧ (type_of% @shift_tup ∧ type_of% @shift_fn))))) :=
  ⟨⟨⟨⟨⟨@Bool.false_and, @st0.eq_1⟩, ⟨@argSlots.eq_1, @argSlots.eq_2⟩⟩, ⟨⟨@St.ownL.eq_1, @St.ownL.eq_2⟩, ⟨@St.own1.eq_1, @St.settle.eq_1⟩⟩⟩, ⟨⟨⟨@ckey.eq_1, @vcells_agg⟩, ⟨@vcells_fagg, @List.getElem?_cons_zero.{0}⟩⟩, ⟨⟨@List.getElem?_cons_succ.{0}, @List.getD_cons_zero.{0}⟩, ⟨@List.getD_cons_succ.{0}, @St.adoptL.eq_1⟩⟩⟩⟩, ⟨⟨⟨⟨@St.adoptL.eq_2, @shift_int⟩, ⟨@shift_bool, @shift_str⟩⟩, ⟨⟨@shift_con, @shift_nils⟩, ⟨@shift_view, @shift_vptr⟩⟩⟩, ⟨⟨⟨@shift_fagg, @shift_clo⟩, ⟨@shift_any, @shift_ref⟩⟩, ⟨⟨@shift_ptr, @shift_agg⟩, ⟨@shift_tup, @shift_fn⟩⟩⟩⟩⟩
theorem NS5 : (((((type_of% @nums_tk ∧ type_of% @nums_tk0) ∧ (type_of% @nums_append ∧ type_of% @List.drop_zero.{0})) ∧ ((type_of% @Int.toNat_zero ∧ type_of% @Nat.sub_zero) ∧ (type_of% @take_all ∧ type_of% @take_app1))) ∧ (((type_of% @partsOf.eq_1 ∧ type_of% @idxOk.eq_1) ∧ (type_of% @idxOk.eq_2 ∧ type_of% @fp0)) ∧ ((type_of% @fp1 ∧ type_of% @fp2) ∧ (type_of% @fp3 ∧ type_of% @fp4)))) ∧ ((((type_of% @fp5 ∧ type_of% @fp6) ∧ (type_of% @fp7 ∧ type_of% @fp8)) ∧ ((type_of% @fp_agg ∧ type_of% @fp_fagg) ∧ (type_of% @fp_str ∧ type_of% @fp_bool))) ∧ (((type_of% @fp_nils ∧ type_of% @fp_view) ∧ (type_of% @zc_agg ∧ type_of% @setR.eq_1)) ∧ ((type_of% @List.length_cons.{0} ∧ type_of% @List.length_nil.{0}) ∧ (type_of% @List.cons_append.{0} ∧ type_of% @List.nil_append.{0}))))) :=
  ⟨⟨⟨⟨⟨@nums_tk, @nums_tk0⟩, ⟨@nums_append, @List.drop_zero.{0}⟩⟩, ⟨⟨@Int.toNat_zero, @Nat.sub_zero⟩, ⟨@take_all, @take_app1⟩⟩⟩, ⟨⟨⟨@partsOf.eq_1, @idxOk.eq_1⟩, ⟨@idxOk.eq_2, @fp0⟩⟩, ⟨⟨@fp1, @fp2⟩, ⟨@fp3, @fp4⟩⟩⟩⟩, ⟨⟨⟨⟨@fp5, @fp6⟩, ⟨@fp7, @fp8⟩⟩, ⟨⟨@fp_agg, @fp_fagg⟩, ⟨@fp_str, @fp_bool⟩⟩⟩, ⟨⟨⟨@fp_nils, @fp_view⟩, ⟨@zc_agg, @setR.eq_1⟩⟩, ⟨⟨@List.length_cons.{0}, @List.length_nil.{0}⟩, ⟨@List.cons_append.{0}, @List.nil_append.{0}⟩⟩⟩⟩⟩
theorem NS6 : (((((type_of% @List.append_nil.{0} ∧ type_of% @List.singleton_append.{0}) ∧ (type_of% @List.take_succ_cons.{0} ∧ type_of% @List.take_zero.{0})) ∧ ((type_of% @List.take_nil.{0} ∧ type_of% @List.drop_succ_cons.{0}) ∧ (type_of% @List.getElem_toArray.{0} ∧ type_of% @List.getElem_cons_zero.{0}))) ∧ (((type_of% @List.getElem_cons_succ.{0} ∧ type_of% @Nat.zero_add) ∧ (type_of% @Nat.add_zero ∧ type_of% @vn_view)) ∧ ((type_of% @vcs_view ∧ type_of% @vi_int) ∧ (type_of% @vb_bool ∧ type_of% @vst_str)))) ∧ ((((type_of% @vcells_int ∧ type_of% @vcells_bool) ∧ (type_of% @vcells_str ∧ type_of% @vcells_view)) ∧ ((type_of% @vcells_nils ∧ type_of% @vcells_ref) ∧ (type_of% @vcells_ptr ∧ type_of% @vcells_vptr))) ∧ (((type_of% @vcells_con ∧ type_of% @vcells_fn) ∧ (type_of% @vcells_clo ∧ type_of% @st0M.eq_1)) ∧ ((type_of% @lentOf.eq_1 ∧ type_of% @lentOf.eq_2) ∧ (type_of% @St.back.eq_1 ∧ type_of% @setAll.eq_1))))) :=
  ⟨⟨⟨⟨⟨@List.append_nil.{0}, @List.singleton_append.{0}⟩, ⟨@List.take_succ_cons.{0}, @List.take_zero.{0}⟩⟩, ⟨⟨@List.take_nil.{0}, @List.drop_succ_cons.{0}⟩, ⟨@List.getElem_toArray.{0}, @List.getElem_cons_zero.{0}⟩⟩⟩, ⟨⟨⟨@List.getElem_cons_succ.{0}, @Nat.zero_add⟩, ⟨@Nat.add_zero, @vn_view⟩⟩, ⟨⟨@vcs_view, @vi_int⟩, ⟨@vb_bool, @vst_str⟩⟩⟩⟩, ⟨⟨⟨⟨@vcells_int, @vcells_bool⟩, ⟨@vcells_str, @vcells_view⟩⟩, ⟨⟨@vcells_nils, @vcells_ref⟩, ⟨@vcells_ptr, @vcells_vptr⟩⟩⟩, ⟨⟨⟨@vcells_con, @vcells_fn⟩, ⟨@vcells_clo, @st0M.eq_1⟩⟩, ⟨⟨@lentOf.eq_1, @lentOf.eq_2⟩, ⟨@St.back.eq_1, @setAll.eq_1⟩⟩⟩⟩⟩
theorem NS7 : (((((type_of% @setAll.eq_2 ∧ type_of% @movedK.eq_1) ∧ (type_of% @movedK.eq_2 ∧ type_of% @newK.eq_1)) ∧ ((type_of% @newK.eq_2 ∧ type_of% @St.wipeK.eq_1) ∧ (type_of% @St.dropK.eq_1 ∧ type_of% @St.lendL.eq_1))) ∧ (((type_of% @anyLent.eq_1 ∧ type_of% @anyLent.eq_2) ∧ (type_of% @noneL.eq_1 ∧ type_of% @noneL.eq_2)) ∧ ((type_of% @outK.eq_1 ∧ type_of% @ikey.eq_1) ∧ (type_of% @Obj1.rk.eq_1 ∧ type_of% @rk_int)))) ∧ ((((type_of% @rk_bool ∧ type_of% @rk_str) ∧ (type_of% @rk_con ∧ type_of% @rk_nils)) ∧ ((type_of% @rk_view ∧ type_of% @rk_vptr) ∧ (type_of% @rk_fagg ∧ type_of% @rk_clo))) ∧ (((type_of% @rk_any ∧ type_of% @rk_ref) ∧ (type_of% @rk_ptr ∧ type_of% @rk_agg)) ∧ ((type_of% @rk_tup ∧ type_of% @rk_fn) ∧ (type_of% @inv1.eq_1 ∧ type_of% @inv1.eq_2))))) :=
  ⟨⟨⟨⟨⟨@setAll.eq_2, @movedK.eq_1⟩, ⟨@movedK.eq_2, @newK.eq_1⟩⟩, ⟨⟨@newK.eq_2, @St.wipeK.eq_1⟩, ⟨@St.dropK.eq_1, @St.lendL.eq_1⟩⟩⟩, ⟨⟨⟨@anyLent.eq_1, @anyLent.eq_2⟩, ⟨@noneL.eq_1, @noneL.eq_2⟩⟩, ⟨⟨@outK.eq_1, @ikey.eq_1⟩, ⟨@Obj1.rk.eq_1, @rk_int⟩⟩⟩⟩, ⟨⟨⟨⟨@rk_bool, @rk_str⟩, ⟨@rk_con, @rk_nils⟩⟩, ⟨⟨@rk_view, @rk_vptr⟩, ⟨@rk_fagg, @rk_clo⟩⟩⟩, ⟨⟨⟨@rk_any, @rk_ref⟩, ⟨@rk_ptr, @rk_agg⟩⟩, ⟨⟨@rk_tup, @rk_fn⟩, ⟨@inv1.eq_1, @inv1.eq_2⟩⟩⟩⟩⟩
theorem NS : (((type_of% @NS0 ∧ type_of% @NS1) ∧ (type_of% @NS2 ∧ type_of% @NS3)) ∧ ((type_of% @NS4 ∧ type_of% @NS5) ∧ (type_of% @NS6 ∧ type_of% @NS7))) :=
  ⟨⟨⟨@NS0, @NS1⟩, ⟨@NS2, @NS3⟩⟩, ⟨⟨@NS4, @NS5⟩, ⟨@NS6, @NS7⟩⟩⟩
end Go.Abs

/- A library of mine, its thirty-sixth text: bits of whole numbers. -/
namespace Go.Abs
set_option linter.unusedSimpArgs false
set_option linter.unusedVariables false
open Go Go.RowKit

theorem ofInt_toNat {w : Nat} {x : Int} (h0 : 0 ≤ x) (h1 : x < 2 ^ w) : (BitVec.ofInt w x).toNat = x.toNat := by
  rw [BitVec.toNat_ofInt, Int.emod_eq_of_lt h0 (by exact_mod_cast h1)]
theorem wrap_unsigned {k : IntKind} (hk : k.signed = false) (x : Int) : k.wrap x = x % 2 ^ k.bits := by
  simp [IntKind.wrap, hk]
theorem wrap_small {k : IntKind} {x : Int} (h0 : 0 ≤ x) (h1 : x < 2 ^ (k.bits - 1)) : k.wrap x = x := by
  have hb : (2 : Int) ^ (k.bits - 1) ≤ 2 ^ k.bits := by
    cases k <;> decide
  have e : x % 2 ^ k.bits = x := Int.emod_eq_of_lt h0 (by omega)
  unfold IntKind.wrap
  simp only [e]
  rw [if_neg]
  simp only [Bool.and_eq_true, decide_eq_true_eq, not_and]
  intro _; omega
theorem wrap_in {k : IntKind} (hk : k.signed = false) {x : Int} (h0 : 0 ≤ x) (h1 : x < 2 ^ k.bits) : k.wrap x = x := by
  rw [wrap_unsigned hk]; exact Int.emod_eq_of_lt h0 h1
/-- the lowest bits -/
theorem and_mask {k : IntKind} (m : Nat) (hm : m ≤ k.bits) {x : Int} (h0 : 0 ≤ x) (h1 : x < 2 ^ k.bits) (hw : k.signed = false ∨ m < k.bits) : bitsOp .and k x (2 ^ m - 1) = x % 2 ^ m := by
  have hp : (0 : Int) < 2 ^ m := Int.pow_pos (by decide)
  have hle : (2 : Int) ^ m ≤ 2 ^ k.bits := by exact_mod_cast Nat.pow_le_pow_right (by decide) hm
  have e2 : ((2 : Int) ^ m - 1).toNat = 2 ^ m - 1 := by
    have : ((2 : Int) ^ m) = ((2 ^ m : Nat) : Int) := by push_cast; rfl
    rw [this]; omega
  simp only [bitsOp]
  rw [BitVec.toNat_and, ofInt_toNat h0 h1, ofInt_toNat (by omega) (by omega), e2, Nat.and_two_pow_sub_one_eq_mod]
  have e3 : ((x.toNat % 2 ^ m : Nat) : Int) = x % 2 ^ m := by
    rw [Int.natCast_emod, Int.toNat_of_nonneg h0]; push_cast; rfl
  rw [e3]
  have hb := Int.emod_nonneg x (by omega : (2 : Int) ^ m ≠ 0)
  have hl := Int.emod_lt_of_pos x hp
  rcases hw with hw | hw
  · exact wrap_in hw hb (by omega)
  · refine wrap_small hb ?_
    have : (2 : Int) ^ m ≤ 2 ^ (k.bits - 1) := by exact_mod_cast Nat.pow_le_pow_right (by decide) (by omega)
    omega
/-- numbers laid side by side -/
theorem or_add {k : IntKind} (s : Nat) {a b : Int} (ha : 0 ≤ a) (ha2 : a < 2 ^ s) (hb : 0 ≤ b) (h : a + b * 2 ^ s < 2 ^ k.bits) (hw : k.signed = false ∨ a + b * 2 ^ s < 2 ^ (k.bits - 1)) : bitsOp .or k a (b * 2 ^ s) = a + b * 2 ^ s := by
  have hp : (0 : Int) < 2 ^ s := Int.pow_pos (by decide)
  have hbs : 0 ≤ b * 2 ^ s := Int.mul_nonneg hb (by omega)
  simp only [bitsOp]
  rw [BitVec.toNat_or, ofInt_toNat ha (by omega), ofInt_toNat hbs (by omega)]
  have e1 : (b * 2 ^ s).toNat = b.toNat * 2 ^ s := by
    have : (b * 2 ^ s) = ((b.toNat * 2 ^ s : Nat) : Int) := by push_cast; rw [Int.toNat_of_nonneg hb]
    rw [this]; omega
  have e2 : a.toNat < 2 ^ s := by
    have : ((2 : Int) ^ s) = ((2 ^ s : Nat) : Int) := by push_cast; rfl
    omega
  have e3 : a.toNat ||| b.toNat * 2 ^ s = b.toNat * 2 ^ s + a.toNat := by
    rw [Nat.or_comm, ← Nat.shiftLeft_eq, Nat.shiftLeft_add_eq_or_of_lt e2]
  rw [e1, e3]
  have e4 : ((b.toNat * 2 ^ s + a.toNat : Nat) : Int) = a + b * 2 ^ s := by
    push_cast; rw [Int.toNat_of_nonneg hb, Int.toNat_of_nonneg ha]; omega
  rw [e4]
  rcases hw with hw | hw
  · exact wrap_in hw (by omega) h
  · exact wrap_small (by omega) hw
theorem or_addr {k : IntKind} (s : Nat) {a b : Int} (ha : 0 ≤ a) (ha2 : a < 2 ^ s) (hb : 0 ≤ b) (h : a + b * 2 ^ s < 2 ^ k.bits) (hw : k.signed = false ∨ a + b * 2 ^ s < 2 ^ (k.bits - 1)) : bitsOp .or k (b * 2 ^ s) a = a + b * 2 ^ s := by
  rw [← or_add (k := k) s ha ha2 hb h hw]
  simp only [bitsOp]
  rw [BitVec.toNat_or, BitVec.toNat_or, Nat.or_comm]
theorem and_127 {x : Int} (h0 : 0 ≤ x) (h1 : x ≤ 255) : bitsOp .and .u8 x 127 = x % 128 := and_mask (k := .u8) 7 (by decide) h0 (by show x < 256; omega) (.inl rfl)
theorem or_128n : ∀ n : Fin 256, (n.val ||| 128) = n.val % 128 + 128 := by decide +kernel
theorem or_128 {x : Int} (h0 : 0 ≤ x) (h1 : x ≤ 255) : bitsOp .or .u8 x 128 = x % 128 + 128 := by
  simp only [bitsOp]
  rw [BitVec.toNat_or, ofInt_toNat h0 (by show x < 256; omega), ofInt_toNat (by decide) (by decide)]
  have := or_128n ⟨x.toNat, by omega⟩
  simp only at this
  rw [show (128 : Int).toNat = 128 from rfl, this, wrap_in rfl (by omega) (by show _ < (256 : Int); omega)]
  omega
theorem fdiv_pow (a : Int) (n : Nat) (h : 0 ≤ a) : a.fdiv (2 ^ n) = a / 2 ^ n := Int.fdiv_eq_ediv_of_nonneg _ (Int.le_of_lt (Int.pow_pos (by decide)))
end Go.Abs

/- A library of mine, its thirty-seventh text: what whole numbers handed in are. -/
namespace Go.Abs
set_option linter.unusedSimpArgs false
set_option linter.unusedVariables false
open Go Go.RowKit
theorem good_range {k : IntKind} {x : Int} (h : (Sh.int k).good x) : k.min ≤ x ∧ x ≤ k.max := by
  have h : (Lit.int k x).wf = true := h
  simpa [Lit.wf] using h
theorem good_u8 {x : Int} (h : (Sh.int .u8).good x) : 0 ≤ x ∧ x ≤ 255 := good_range h
theorem good_u32 {x : Int} (h : (Sh.int .u32).good x) : 0 ≤ x ∧ x ≤ 4294967295 := good_range h
theorem good_u64 {x : Int} (h : (Sh.int .u64).good x) : 0 ≤ x ∧ x < 18446744073709551616 := by have := good_range h; exact ⟨this.1, by have h2 : x ≤ 18446744073709551615 := this.2; omega⟩
theorem good_i64 {x : Int} (h : (Sh.int .i64).good x) : -9223372036854775808 ≤ x ∧ x < 9223372036854775808 := by have := good_range h; exact ⟨this.1, by have h2 : x ≤ 9223372036854775807 := this.2; omega⟩
end Go.Abs
