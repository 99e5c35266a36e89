/- Programs of cells, handed in. -/
import Derived.Test.YtgogfiojmmohoaaV5
import Derived.Test.YtgogfiojmmohoaaTPre
import Derived.Test.YtgogfiojmmohoaaSh
namespace Go.Proofs.Ytgogfiojmmohoaa
set_option linter.unusedSimpArgs false
set_option linter.unusedVariables false
open Go Go.Abs

@[reducible] def shCl : Sh := .pair (.int .i64) (.pair (.int .i64) (.int .u64))
@[reducible] def shSg : Sh := .pair (.sl (.int .i64)) (.sl (.int .i64))
@[reducible] def shFn : Sh := .pair (.int .i64) (.pair (.int .i64) (.pair (.int .i64) (.pair (.int .i64) (.pair (.int .i64) (.pair (.sl shCl) (.sl (.int .i64)))))))
@[reducible] def shPg : Sh := .pair (.sl shSg) (.sl shFn)
def toFn (x : shFn.T) : Fn := ⟨x.1, x.2.1, x.2.2.1, x.2.2.2.1, x.2.2.2.2.1, x.2.2.2.2.2.1, x.2.2.2.2.2.2⟩
def toPg (x : shPg.T) : Pg := ⟨x.1, List.map toFn x.2⟩
theorem flat_cels (l : List Cl) : List.flatMap (Sh.enc shCl) l = celC l := by
  induction l with
  | nil => rfl
  | cons s l ih => rw [List.flatMap_cons, ih]; rfl
theorem flat_sigs (l : List Sg) : List.flatMap (Sh.enc shSg) l = sigC l := by
  induction l with
  | nil => rfl
  | cons s l ih =>
    rw [List.flatMap_cons, ih]
    show ([V.view s.1.length 1 (List.flatMap (Sh.enc (.int .i64)) s.1)] ++ [V.view s.2.length 1 (List.flatMap (Sh.enc (.int .i64)) s.2)]) ++ sigC l = _
    rw [flat_ints, flat_ints]; rfl
theorem flat_funs (l : List shFn.T) : List.flatMap (Sh.enc shFn) l = funC (l.map toFn) := by
  induction l with
  | nil => rfl
  | cons s l ih =>
    rw [List.flatMap_cons, ih]
    obtain ⟨h, s, i, o, k, cs, ms⟩ := s
    show ([V.int .i64 h] ++ ([V.int .i64 s] ++ ([V.int .i64 i] ++ ([V.int .i64 o] ++ ([V.int .i64 k] ++ ([V.view (List.length (α := Cl) cs) 3 (List.flatMap (Sh.enc shCl) cs)] ++ [V.view (List.length (α := Int) ms) 1 (List.flatMap (Sh.enc (.int .i64)) ms)])))))) ++ funC (l.map toFn) = _
    rw [flat_ints, flat_cels]; rfl
theorem val_pg (x : shPg.T) : Sh.val shPg x = .fagg [.view (toPg x).sg.length 2 (sigC (toPg x).sg), .view (toPg x).fs.length 7 (funC (toPg x).fs)] := by
  obtain ⟨sg, fs⟩ := x
  show V.fagg ([V.view (List.length (α := Sg) sg) 2 (List.flatMap (Sh.enc shSg) sg)] ++ [V.view (List.length (α := shFn.T) fs) 7 (List.flatMap (Sh.enc shFn) fs)]) = _
  rw [flat_sigs, flat_funs]
  show V.fagg [V.view (List.length (α := Sg) sg) 2 (sigC sg), V.view (List.length (α := shFn.T) fs) 7 (funC (List.map toFn fs))] = V.fagg [V.view (List.length (α := Sg) sg) 2 (sigC sg), V.view (List.length (List.map toFn fs)) 7 (funC (List.map toFn fs))]
  rw [List.length_map]
theorem okP_arg (x : shPg.T) (hg : shPg.good x) (hb : shPg.bulk x ≤ 1048576) : okP (toPg x) := by
  obtain ⟨sg, fs⟩ := x
  obtain ⟨g1, g2⟩ := hg
  have hb' : Sh.bulk (.sl shSg) sg + Sh.bulk (.sl shFn) fs ≤ 1048576 := hb
  have b1 := bulk_sl (s := shSg) sg
  have b2 := bulk_sl (s := shFn) fs
  refine ⟨?_, ?_, fun s hs => ?_, fun f hf => ?_⟩
  · show List.length (α := Sg) sg ≤ _; omega
  · show (List.map toFn fs).length ≤ _; rw [List.length_map]; omega
  · have h1 := bulk_sl_mem (s := shSg) (l := sg) (x := s) hs
    have h2 : Sh.bulk (.sl (.int .i64)) s.1 + Sh.bulk (.sl (.int .i64)) s.2 ≤ Sh.bulk (.sl shSg) sg := h1
    have h3 := bulk_ints (k := .i64) s.1
    have h4 := bulk_ints (k := .i64) s.2
    exact ⟨by omega, by omega⟩
  · obtain ⟨x, hx, rfl⟩ := List.mem_map.1 hf
    have hgx := g2 x hx
    have h1 := bulk_sl_mem (s := shFn) (l := fs) (x := x) hx
    obtain ⟨h, s, i, o, k, cs, ms⟩ := x
    obtain ⟨c1, c2, c3, c4, c5, c6, c7⟩ := hgx
    have h2 : Sh.bulk (.int .i64) h + (Sh.bulk (.int .i64) s + (Sh.bulk (.int .i64) i + (Sh.bulk (.int .i64) o + (Sh.bulk (.int .i64) k + (Sh.bulk (.sl shCl) cs + Sh.bulk (.sl (.int .i64)) ms))))) ≤ Sh.bulk (.sl shFn) fs := h1
    have h3 := bulk_sl (s := shCl) cs
    have h4 := bulk_ints (k := .i64) ms
    refine ⟨by show List.length (α := Cl) cs ≤ _; omega, by show List.length (α := Int) ms ≤ _; omega, good_i64 c1, good_i64 c2, good_i64 c3, good_i64 c4, good_i64 c5, fun c hc => ?_⟩
    obtain ⟨d1, d2, d3⟩ := c6 c hc
    have := good_u64 d3
    exact ⟨good_i64 d1, good_i64 d2, this.1, this.2⟩
end Go.Proofs.Ytgogfiojmmohoaa
