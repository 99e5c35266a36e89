/- The document's reader: Any. -/
import Derived.Test.YtimhmpdfioihlaaGreatDoorDP
import Derived.Test.YtimhmpdfioihlaaGreatDoorGWords
import Derived.Test.YtimhmpdfioihlaaGreatDoorGCB
import Derived.Test.YtimhmpdfioihlaaGreatDoorGMCode
import Derived.Test.YtimhmpdfioihlaaGreatDoorGRMF
set_option linter.unusedSimpArgs false
set_option linter.unusedVariables false
set_option maxHeartbeats 12800000
namespace Go.Proofs.YtimhmpdfioihlaaGreatDoor
set_option maxRecDepth 20000
open Go Go.Abs Nat
attribute [local irreducible] AW AWL AC FW CW CWr IntKind.wrap DWL
section
def hdU : List Int := [0, 97, 115, 109, 1, 0, 0, 0]
def Sj (b : List Int) (t : Tq) (i : Nat) : St := { n := 141, slots := [(2, .ptr 2 0), (3, .int .i64 0), (4, .ptr 19 0), (5, .ptr 5 0), (6, .int .i64 i)], mem := [(5, ⟨true, Zh .i64 hdU⟩), (19, ⟨false, [.view b.length 1 (Zh .u8 b), .int .i64 t.p, .int .i64 b.length, .int .i64 t.e]⟩), (2, ⟨false, [.ref 3000 0 0 2, .ref 3001 0 0 3, .ref 3002 0 0 1, .ref 3003 0 0 2, .ref 3004 0 0 2, .ref 3005 0 0 3, .ref 3006 0 0 3, .int .i64 0, .ref 3008 0 0 2, .ref 3009 0 0 2, .ref 3010 0 0 2]⟩), (3000, ⟨true, []⟩), (3001, ⟨true, []⟩), (3002, ⟨true, []⟩), (3003, ⟨true, []⟩), (3004, ⟨true, []⟩), (3005, ⟨true, []⟩), (3006, ⟨true, []⟩), (3008, ⟨true, []⟩), (3009, ⟨true, []⟩), (3010, ⟨true, []⟩)] }
def So (b : List Int) (t : Tq) (m : Mod) (last : Int) : St := { n := 141, slots := [(2, .ptr 2 0), (3, .int .i64 0), (4, .ptr 19 0), (7, .ptr 7 0), (8, .int .i64 last)], mem := [(19, ⟨false, [.view b.length 1 (Zh .u8 b), .int .i64 t.p, .int .i64 b.length, .int .i64 t.e]⟩), (2, ⟨false, [.ref 3000 0 0 2, .ref 3001 0 0 3, .ref 3002 0 0 1, .ref 3003 0 0 2, .ref 3004 0 0 2, .ref 3005 0 0 3, .ref 3006 0 0 3, .int .i64 0, .ref 3008 0 0 2, .ref 3009 0 0 2, .ref 3010 0 0 2]⟩), (3000, ⟨true, []⟩), (3001, ⟨true, []⟩), (3002, ⟨true, []⟩), (3003, ⟨true, []⟩), (3004, ⟨true, []⟩), (3005, ⟨true, []⟩), (3006, ⟨true, []⟩), (3008, ⟨true, []⟩), (3009, ⟨true, []⟩), (3010, ⟨true, []⟩), (7, ⟨false, [.ref 8000 0 m.types.length 2, .ref 8001 0 m.imports.length 3, .ref 8002 0 m.funcs.length 1, .ref 8003 0 m.tables.length 2, .ref 8004 0 m.mems.length 2, .ref 8005 0 m.globals.length 3, .ref 8006 0 m.exports.length 3, .int .i64 m.start, .ref 8008 0 m.elems.length 2, .ref 8009 0 m.codes.length 2, .ref 8010 0 m.datas.length 2]⟩), (8000, ⟨true, m.types.flatMap ZfV⟩), (8001, ⟨true, m.imports.flatMap Zhp⟩), (8002, ⟨true, Zh .i64 m.funcs⟩), (8003, ⟨true, m.tables.flatMap Zc3⟩), (8004, ⟨true, m.mems.flatMap Zc3⟩), (8005, ⟨true, m.globals.flatMap Zcd⟩), (8006, ⟨true, m.exports.flatMap Zhq⟩), (8008, ⟨true, m.elems.flatMap Zce⟩), (8009, ⟨true, m.codes.flatMap ZgE⟩), (8010, ⟨true, m.datas.flatMap Zcf⟩)] }
def Si (b : List Int) (t po : Tq) (m : Mod) (id : Int) (E K j : Nat) : St := { n := 141, slots := [(2, .ptr 2 0), (3, .int .i64 0), (4, .ptr 19 0), (7, .ptr 7 0), (8, .int .i64 id), (9, .int .i64 id), (11, .ptr 26056 0), (13, .int .i64 (K : Int)), (14, .int .i64 (j : Int))], mem := [(26056, ⟨false, [.view b.length 1 (Zh .u8 b), .int .i64 po.p, .int .i64 (E : Int), .int .i64 po.e]⟩), (19, ⟨false, [.view b.length 1 (Zh .u8 b), .int .i64 t.p, .int .i64 b.length, .int .i64 t.e]⟩), (2, ⟨false, [.ref 3000 0 0 2, .ref 3001 0 0 3, .ref 3002 0 0 1, .ref 3003 0 0 2, .ref 3004 0 0 2, .ref 3005 0 0 3, .ref 3006 0 0 3, .int .i64 0, .ref 3008 0 0 2, .ref 3009 0 0 2, .ref 3010 0 0 2]⟩), (3000, ⟨true, []⟩), (3001, ⟨true, []⟩), (3002, ⟨true, []⟩), (3003, ⟨true, []⟩), (3004, ⟨true, []⟩), (3005, ⟨true, []⟩), (3006, ⟨true, []⟩), (3008, ⟨true, []⟩), (3009, ⟨true, []⟩), (3010, ⟨true, []⟩), (7, ⟨false, [.ref 8000 0 m.types.length 2, .ref 8001 0 m.imports.length 3, .ref 8002 0 m.funcs.length 1, .ref 8003 0 m.tables.length 2, .ref 8004 0 m.mems.length 2, .ref 8005 0 m.globals.length 3, .ref 8006 0 m.exports.length 3, .int .i64 m.start, .ref 8008 0 m.elems.length 2, .ref 8009 0 m.codes.length 2, .ref 8010 0 m.datas.length 2]⟩), (8000, ⟨true, m.types.flatMap ZfV⟩), (8001, ⟨true, m.imports.flatMap Zhp⟩), (8002, ⟨true, Zh .i64 m.funcs⟩), (8003, ⟨true, m.tables.flatMap Zc3⟩), (8004, ⟨true, m.mems.flatMap Zc3⟩), (8005, ⟨true, m.globals.flatMap Zcd⟩), (8006, ⟨true, m.exports.flatMap Zhq⟩), (8008, ⟨true, m.elems.flatMap Zce⟩), (8009, ⟨true, m.codes.flatMap ZgE⟩), (8010, ⟨true, m.datas.flatMap Zcf⟩)] }
theorem ZFv (a b : List Nat) : (bif false || true then a else b) = a := rfl
theorem ZFw.NM : type_of% @NSX /\ type_of% @St.keepS.eq_1 /\ type_of% @TY /\ type_of% @ZEs /\ type_of% @Za /\ type_of% @hdU.eq_1 /\ type_of% @Sj.eq_1 /\ type_of% @So.eq_1 /\ type_of% @Si.eq_1 :=
 ⟨NSX, St.keepS.eq_1, @TY, @ZEs, @Za, @hdU.eq_1, @Sj.eq_1, @So.eq_1, @Si.eq_1⟩
open ZFw
theorem ZxB.kp : type_of% (@Zs [0, 2, 3, 4, 5, 6, 7, 8, 9, 10, 11, 12, 13, 14]) := @Zs [0, 2, 3, 4, 5, 6, 7, 8, 9, 10, 11, 12, 13, 14]
theorem ZxB.cl {p : Prop} (h : p := by
 first
  | refine AWL.cM (f := 98) [(0, 19)] Zyd rfl rfl rfl rfl rfl rfl rfl (hone) ?_
  | refine AWL.cM (f := 97) [(0, 19)] ZoL rfl rfl rfl rfl rfl rfl rfl (hmust) ?_
  | refine AWL.cM (f := 99) [(0, 19)] Zp6 rfl rfl rfl rfl rfl rfl rfl (hnum) ?_
  | refine AWL.cM (f := 100) [(0, 19)] ZAh rfl rfl rfl rfl rfl rfl rfl (hpart) ?_
  | refine AWL.cM (f := 101) [(0, 26056)] Zvb rfl rfl rfl rfl rfl rfl rfl (hname) ?_
  | refine AWL.cM (f := 99) [(0, 26056)] Zp6 rfl rfl rfl rfl rfl rfl rfl (hnum2) ?_
  | refine AWL.cM (f := 97) [(0, 26056)] ZoL rfl rfl rfl rfl rfl rfl rfl (hmust2) ?_
  | refine AWL.cM (f := 97) [(0, 26056)] ZoL rfl rfl rfl rfl rfl rfl rfl (hmust3) ?_
  | refine AWL.cM (f := 102) [(0, 26056)] Zsf rfl rfl rfl rfl rfl rfl rfl (hmost) ?_
  | refine AWL.cM (f := 103) [(0, 26056), (1, 7), (2000, 8000), (2001, 8001), (2002, 8002), (2003, 8003), (2004, 8004), (2005, 8005), (2006, 8006), (2008, 8008), (2009, 8009), (2010, 8010)] ZCq rfl rfl rfl rfl rfl rfl rfl (hitem) ?_
 all_goals (apply_rules (newGoals := .nonDependentOnly) only [dep]; exact ())) : p := h
theorem ZxB.rt {p : Prop} (h : p := by
 first | (refine AW.frzRet 3000 rfl rfl ?_; (try refine' Zi)) | (refine AW.frzRet 3001 rfl rfl ?_; (try refine' Zi)) | (refine AW.frzRet 3002 rfl rfl ?_; (try refine' Zi)) | (refine AW.frzRet 3003 rfl rfl ?_; (try refine' Zi)) | (refine AW.frzRet 3004 rfl rfl ?_; (try refine' Zi)) | (refine AW.frzRet 3005 rfl rfl ?_; (try refine' Zi)) | (refine AW.frzRet 3006 rfl rfl ?_; (try refine' Zi)) | (refine AW.frzRet 3008 rfl rfl ?_; (try refine' Zi)) | (refine AW.frzRet 3009 rfl rfl ?_; (try refine' Zi)) | (refine AW.frzRet 3010 rfl rfl ?_; (try refine' Zi))
 all_goals (apply_rules (newGoals := .nonDependentOnly) only [dep]; exact ())) : p := h
theorem ZxB.att {p : Prop} (h : p := by
 first
  | (first | (refine AT.takeM (L := (bA 8 0)) (L' := (bA 8 1)) 0 rfl rfl rfl rfl rfl Zda (by decide +kernel) (by decide +kernel) ?_; (try refine' Zi)) | (refine AT.takeM (L := (bA 8 1)) (L' := (bA 8 3)) 1 rfl rfl rfl rfl rfl Zda (by decide +kernel) (by decide +kernel) ?_; (try refine' Zi)) | (refine AT.takeM (L := (bA 8 3)) (L' := (bA 8 11)) 3 rfl rfl rfl rfl rfl Zda (by decide +kernel) (by decide +kernel) ?_; (try refine' Zi)) | refine AT.step (L := (bA 8 11)) [2, 4] (by decide +kernel) (by decide) (ZfM ⟨_, (bA 8 15), rfl, (by decide +kernel), ?_⟩ ⟨_, (bA 8 27), rfl, (by decide +kernel), ?_⟩) | refine AT.step (L := (bA 8 27)) [2, 5] (by decide +kernel) (by decide) (ZfM ⟨_, (bA 8 31), rfl, (by decide +kernel), ?_⟩ ⟨_, (bA 8 59), rfl, (by decide +kernel), ?_⟩) | refine AT.step (L := (bA 8 59)) [2] (by decide +kernel) (by decide) (Za8 ⟨_, (bA 8 63), rfl, (by decide +kernel), ?_⟩) | refine AT.step (L := (bA 8 63)) [6] (by decide +kernel) (by decide) (Za8 ⟨_, (bA 8 127), rfl, (by decide +kernel), ?_⟩) | refine AT.step (L := (bA 8 127)) [7] (by decide +kernel) (by decide) (Za8 ⟨_, (bA 8 255), rfl, (by decide +kernel), ?_⟩) | refine AT.done (L := (bA 8 255)) (by decide +kernel) ?_ | refine AT.step (L := (bA 8 31)) [5] (by decide +kernel) (by decide) (Za8 ⟨_, (bA 8 63), rfl, (by decide +kernel), ?_⟩) | refine AT.step (L := (bA 8 15)) [4] (by decide +kernel) (by decide) (Za8 ⟨_, (bA 8 31), rfl, (by decide +kernel), ?_⟩) | (refine AT.takeM (L := (bA 7 0)) (L' := (bA 7 2)) 1 rfl rfl rfl rfl rfl Zda (by decide +kernel) (by decide +kernel) ?_; (try refine' Zi)) | (refine AT.takeN (L := (bA 7 2)) (L' := (bA 7 6)) 2 rfl rfl rfl rfl rfl rfl Zda (by decide +kernel) (by decide +kernel) ?_; (try refine' Zi)) | (refine AT.takeF (L := (bA 7 6)) (L' := (bA 7 14)) 3 rfl rfl rfl rfl rfl rfl rfl rfl Zda (by decide +kernel) (by decide +kernel) ?_; (try refine' Zi)) | refine AT.step (L := (bA 7 14)) [0, 4] (by decide +kernel) (by decide) (ZfM ⟨_, (bA 7 15), rfl, (by decide +kernel), ?_⟩ ⟨_, (bA 7 30), rfl, (by decide +kernel), ?_⟩) | refine AT.step (L := (bA 7 30)) [0] (by decide +kernel) (by decide) (Za8 ⟨_, (bA 7 31), rfl, (by decide +kernel), ?_⟩) | refine AT.step (L := (bA 7 31)) [5] (by decide +kernel) (by decide) (Za8 ⟨_, (bA 7 63), rfl, (by decide +kernel), ?_⟩) | refine AT.step (L := (bA 7 63)) [6] (by decide +kernel) (by decide) (Za8 ⟨_, (bA 7 127), rfl, (by decide +kernel), ?_⟩) | refine AT.done (L := (bA 7 127)) (by decide +kernel) ?_ | refine AT.step (L := (bA 7 15)) [4, 5] (by decide +kernel) (by decide) (ZfM ⟨_, (bA 7 31), rfl, (by decide +kernel), ?_⟩ ⟨_, (bA 7 47), rfl, (by decide +kernel), ?_⟩) | refine AT.step (L := (bA 7 47)) [4] (by decide +kernel) (by decide) (Za8 ⟨_, (bA 7 63), rfl, (by decide +kernel), ?_⟩))
 all_goals (apply_rules (newGoals := .nonDependentOnly) only [dep]; exact ())) : p := h
open ZxB Zl in
theorem ZzW {b : List Int} (hb : bytes b) (hl : b.length <= 100000000) : AC Tryz.prog 54 [.view b.length 1 (Zh .u8 b)] (fun v mm => mm = [] /\ v = .tup [.agg (Zdf (ZmD (ZzE b)).1), .int .i64 (ZmD (ZzE b)).2]) := by
 obtain ⟨Y, hY⟩ : ∃ Y, ZmD (ZzE b) = Y := ⟨_, rfl⟩
 rw [hY]
 have hX : ZmD (Zja b b.length 0 { ZeN with start := -1 } (ZnL b hdU ⟨0, 0⟩).2) = Y := hY
 clear hY
 have hen : b.take b.length = b := Yau
 have hone : True := trivial
 have hmust : True := trivial
 have hnum : True := trivial
 have hpart : True := trivial
 have hname : True := trivial
 have hnum2 : True := trivial
 have hmust2 : True := trivial
 have hmust3 : True := trivial
 have hmost : True := trivial
 have hitem : True := trivial
 refine AC.enter Tryz.func54 rfl (Yaa rfl) ?_
 simp only [Tryz.f54]
 have nx := trivial
 refine' Zko
 refine AW.loop [2, 3, 4, 5, 6] [5, 19, 2, 3000, 3001, 3002, 3003, 3004, 3005, 3006, 3008, 3009, 3010] (fun m st => ∃ (i : Nat) (t : Tq), st = Sj b t i /\ i <= 8 /\ okT b t.p b.length /\ ZmD (Zja b b.length 0 { ZeN with start := -1 } (ZnL b (hdU.drop i) t).2) = Y /\ m = 8 - i) ?_ ?_
 ·exact ⟨_, 0, ⟨0, 0⟩, rfl, Nat.zero_le _, ⟨hb, hl, Nat.le_refl _, Int.le_refl _, by simp⟩, hX, rfl⟩
 clear hX hone hmust
 rintro m st ⟨i, t, rfl, hi, ht, hX, rfl⟩
 by_cases hi8 : i < 8
 ·as_aux_lemma =>
   obtain ⟨c, hc⟩ : ∃ c, hdU.getD i 0 = c := ⟨_, rfl⟩
   have hdr : hdU.drop i = c :: hdU.drop (i + 1) := by
    rw [List.drop_eq_getElem_cons (show i < hdU.length from hi8), <- hc, Yah, Yab (show i < hdU.length from hi8)]; rfl
   have d1 : decide ((i : Int) < 8) = true := Yae (by omega)
   have e7 : IntKind.i64.wrap ((i : Int) + 1) = ((i + 1 : Nat) : Int) := Zb _ (by omega) (by omega)
   rw [hdr, ZnL] at hX
   have hone := Zec ht
   rw [hen] at hone
   have h1 := ht.mvs (f := ZbZ b) (by rw [hen]; exact ZdE)
   unfold ZaV at hX
   generalize ZbZ b t = z at hX hone h1
   obtain ⟨x, t1⟩ := z
   simp only at hX hone h1
   have hmust := Zae b b.length t1 (x == c)
   have h2 := h1.mu (x == c)
   generalize Z5 (x == c) t1 = t2 at hX hmust h2
   obtain ⟨p, er⟩ := t
   obtain ⟨p1, e1⟩ := t1
   unfold UF rtM at hone hmust
   unfold hdU at hc
   have nx := aI @d1 (aI @e7 (aI @hc trivial))
   refine' Zwc
   refine AW.drawT (L0 := (bA 8 0)) (by decide +kernel) ZfU ?_
   have nx := aI @d1 (aI @e7 (aI @hc trivial))
   refine' ZvR
   all_goals
    (repeat (first | refine QEq.mp (by assumption) ?_ | simp only [Zb1, Go.Abs.blockQ, ↓reduceIte, Nat.reduceEqDiff]))
    have nx := aI @e7 trivial
    refine' Zgh
    all_goals first
     | exact ⟨8 - (i + 1), by omega, i + 1, t2, rfl, by omega, h2, hX, rfl⟩
 obtain rfl : i = 8 := by omega
 have hX : ZmD (Zja b b.length 0 { ZeN with start := -1 } t) = Y := hX
 have d1 : decide (((8 : Nat) : Int) < 8) = false := rfl
 have hone : True := trivial
 have hmust : True := trivial
 have nx := aI @d1 trivial
 refine' Zko
 refine AW.loop [2, 3, 4, 7, 8] [19, 2, 3000, 3001, 3002, 3003, 3004, 3005, 3006, 3008, 3009, 3010, 7, 8000, 8001, 8002, 8003, 8004, 8005, 8006, 8008, 8009, 8010] (fun n' st => ∃ (n : Nat) (t : Tq) (m : Mod) (last : Int), st = So b t m last /\ okT b t.p b.length /\ (t.e = 0 -> EA last m /\ 0 <= last /\ (b.length : Int) <= t.p + n /\ ZmD (Zja b n last m t) = Y) /\ (t.e ≠ 0 -> Y = (ZeN, t.e)) /\ n' = n) ?_ ?_
 ·exact ⟨_, b.length, t, { ZeN with start := -1 }, 0, rfl, ht, fun _ => ⟨ZzV _, Int.le_refl _, by have := ht.p0; omega, hX⟩, fun h => by rw [<- hX, Zfo h], rfl⟩
 clear hX ht hone hmust hi hi8 d1
 rintro n' st ⟨n, t, m, last, rfl, ht, h0, h1, rfl⟩
 by_cases hgo : t.p < b.length /\ t.e = 0
 ·obtain ⟨hp, he⟩ := hgo
  obtain ⟨hea, hl0, hfu, hX⟩ := h0 he
  clear h0 h1
  obtain ⟨k, rfl⟩ : ∃ k, n' = k + 1 := ⟨n' - 1, by omega⟩
  rw [ZuN hp he] at hX
  have d1 : decide (t.p < (b.length : Int)) = true := Yae hp
  clear hnum hpart hname hnum2 hmust2 hmust3 hmost hitem
  have hone := Zec ht
  have t1k := ht.mvs (f := ZbZ b) (by rw [hen]; exact ZdE)
  rw [hen] at hone
  have hadv : (ZbZ b t).2.p = t.p + 1 := by
   unfold ZbZ; rw [if_neg (fun h => h.elim (fun h => h he) (fun h => by omega))]
  unfold Zmu ZaV at hX
  generalize ZbZ b t = z at hX hone t1k hadv
  obtain ⟨id, t1⟩ := z
  simp only at hX hone t1k hadv
  have hnum := Zb0 t1k
  rw [hen] at hnum
  obtain ⟨hp2, hn0, hn1⟩ := Zgz hb (t := t1) ⟨t1k.p0, t1k.p1⟩
  have t2k := t1k.mvs (f := Zaj b) (by rw [hen]; exact ZdF hb)
  generalize Zaj b t1 = z at hX hnum t2k hp2 hn0 hn1
  obtain ⟨n2, t2⟩ := z
  simp only at hX hnum t2k hp2 hn0 hn1
  have hpart := ZpL t2k n2 ⟨hn0, hn1⟩
  obtain ⟨E, hE, hEe, h5, h6⟩ := ZuG t2k n2 hn0
  rw [hen] at hpart hE h5 h6
  have hp3 : t2.p <= (Zct b n2 t2).2.2.p := by
   unfold Zct
   split
   ·rw [Zc1]; exact Int.le_refl _
   ·show t2.p <= t2.p + n2
    omega
  unfold PUR at hpart
  generalize Zct b n2 t2 = z at hX hpart hE h5 h6 hp3
  obtain ⟨pt, pe, t4⟩ := z
  simp only at hX hpart hE h5 h6 hp3
  subst hE
  unfold ZkX at hX
  simp only [Yap] at hX
  have hfu2 : (b.length : Int) <= t4.p + k := by omega
  by_cases hid0 : id = 0
  ·as_aux_lemma =>
    subst hid0
    have hname := ZhX h5
    have hnum2 : True := trivial
    have hmust2 : True := trivial
    have hmust3 : True := trivial
    unfold Zyx ZaV at hX
    rw [if_pos rfl] at hX
    simp only at hX
    generalize ZeV (b.take E) pt = z at hX hname
    obtain ⟨w, u⟩ := z
    simp only at hX hname
    obtain ⟨p4, e4⟩ := t4
    obtain ⟨pu, eu⟩ := u
    obtain ⟨pp, ep⟩ := pt
    obtain ⟨p2, e2⟩ := t2
    obtain ⟨p1, e1⟩ := t1
    obtain ⟨p, e⟩ := t
    simp only at he d1
    subst he
    unfold UF rtM at hone hnum hname
    unfold rtM at hpart
    clear hp hp2 hp3 hadv t1k t2k h5 ht hn0 hn1 hEe hfu
    have nx := aI @d1 trivial
    refine' ZcF
    all_goals first
     | exact ⟨k, by omega, k, ⟨p4, eu⟩, m, last, rfl, h6, fun h => ⟨hea, hl0, hfu2, hX⟩, fun h => by rw [<- hX, Zfo h], rfl⟩
  ·unfold Zyx ZaV at hX
   rw [if_neg hid0] at hX
   simp only at hX
   by_cases h8 : id = 8
   ·subst h8
    rw [show ∀ t, Zyw (b.take E) 8 m t = ({ m with start := (Zaj (b.take E) t).1 }, (Zaj (b.take E) t).2) from fun t => rfl] at hX
    simp only at hX
    have hname : True := trivial
    have hmost : True := trivial
    have hitem : True := trivial
    by_cases hlt : last < 8
    ·as_aux_lemma =>
      have dgt : decide ((8 : Int) > last) = true := Yae hlt
      rw [show decide ((8 : Int) > last /\ (8 : Int) <= 11) = true from Yae ⟨hlt, by decide⟩] at hX
      have hmust2 := Zae b E pt true
      have h7 := h5.mu true
      generalize Z5 true pt = pm at hX hmust2 h7
      have hnum2 := Zb0 h7
      generalize Zaj (b.take E) pm = z at hX hnum2
      obtain ⟨s, pn⟩ := z
      simp only at hX hnum2
      have hmust3 := Zae b E pn (decide (pn.p = (E : Int)))
      generalize hD : decide (pn.p = (E : Int)) = D at hX hmust3
      generalize Z5 D pn = pf at hX hmust3
      have hea2 := Zxy hea hlt s
      obtain ⟨p4, e4⟩ := t4
      obtain ⟨qf, ef⟩ := pf
      obtain ⟨qn, en⟩ := pn
      obtain ⟨qm, em⟩ := pm
      obtain ⟨pp, ep⟩ := pt
      obtain ⟨p2, e2⟩ := t2
      obtain ⟨p1, e1⟩ := t1
      obtain ⟨p, e⟩ := t
      simp only at he d1 hD
      have hD : (qn == (E : Int)) = D := by rw [<- hD]; rfl
      subst he
      unfold UF rtM at hone hnum hmust2 hnum2 hmust3
      unfold rtM at hpart
      clear hp hp2 hp3 hadv t1k t2k h5 h7 ht hn0 hn1 hEe hfu hea hlt
      have nx := aI @d1 (aI @dgt (aI @hD trivial))
      refine' ZcF
      all_goals first
       | exact ⟨k, by omega, k, ⟨p4, ef⟩, { m with start := s }, 8, rfl, h6, fun h => ⟨hea2, by decide, hfu2, hX⟩, fun h => by rw [<- hX, Zfo h], rfl⟩
    ·as_aux_lemma =>
      have dgt : decide ((8 : Int) > last) = false := Yaf hlt
      rw [show decide ((8 : Int) > last /\ (8 : Int) <= 11) = false from Yaf fun h => hlt h.1] at hX
      have hmust2 := Zae b E pt false
      have h7 := h5.mu false
      have hbad : (Z5 false pt).e ≠ 0 := by
       show (Za2 pt 10).e ≠ 0
       unfold Za2
       split
       ·exact (by decide : (10 : Int) ≠ 0)
       ·assumption
      generalize Z5 false pt = pm at hX hmust2 h7 hbad
      have hnum2 := Zb0 h7
      rw [Zi4 (b.take E) hbad] at hX hnum2
      simp only at hX hnum2
      have hmust3 := Zae b E pm (decide (pm.p = (E : Int)))
      rw [Za9 hbad] at hX hmust3
      generalize hD : decide (pm.p = (E : Int)) = D at hmust3
      have hY : Y = (ZeN, pm.e) := by rw [<- hX, Zfo (t := ⟨t4.p, pm.e⟩) hbad]
      obtain ⟨p4, e4⟩ := t4
      obtain ⟨qm, em⟩ := pm
      obtain ⟨pp, ep⟩ := pt
      obtain ⟨p2, e2⟩ := t2
      obtain ⟨p1, e1⟩ := t1
      obtain ⟨p, e⟩ := t
      simp only at he d1 hD hY hbad
      have hD : (qm == (E : Int)) = D := by rw [<- hD]; rfl
      subst he
      unfold UF rtM at hone hnum hmust2 hnum2 hmust3
      unfold rtM at hpart
      clear hp hp2 hp3 hadv t1k t2k h5 h7 ht hn0 hn1 hEe hfu hea hlt hX
      have nx := aI @d1 (aI @dgt (aI @hD trivial))
      refine' ZcF
      all_goals first
       | exact ⟨k, by omega, k, ⟨p4, em⟩, { m with start := 0 }, 8, rfl, h6, fun h => absurd h hbad, fun h => hY, rfl⟩
   ·have hname : True := trivial
    by_cases hDD : last < id /\ id <= 11
    ·as_aux_lemma =>
      have hI : isI id := by unfold isI; omega
      have dgt : decide (id > last) = true := Yae hDD.1
      have dle : decide (id <= 11) = true := Yae hDD.2
      have d0 : (id == 0) = false := Yam.2 hid0
      have d8 : (id == 8) = false := Yam.2 h8
      rw [show decide (id > last /\ id <= 11) = true from Yae hDD] at hX
      have hmust2 := Zae b E pt true
      have h7 := h5.mu true
      generalize Z5 true pt = pm at hX hmust2 h7
      have h00 : ZuM id m = 0 := hea id hI hDD.1
      rw [ZzU _ hI h00] at hX
      have hmost := Zfn h7 (Zjh id)
      have hmm := Zhe h7.byt h7.rg (Zjh id)
      have hle := ZpK (xs := b.take E) (t := pm) (m := Zjh id) (by unfold Zjh; split <;> decide)
      have h8k := h7.at hmm.1
      have hmi : Zjh id <= 512 := by unfold Zjh; split <;> decide
      generalize ZaK (b.take E) (Zjh id) pm = z at hX hmost hmm hle h8k
      obtain ⟨kk, po⟩ := z
      simp only at hX hmost hmm hle h8k
      obtain ⟨K, rfl⟩ : ∃ K : Nat, kk = K := ⟨kk.toNat, by omega⟩
      rw [Yap] at hX
      have hK : K <= 512 := by omega
      obtain ⟨R, hR⟩ : ∃ R, Zed (b.take E) id K m po = R := ⟨_, rfl⟩
      rw [hR] at hX
      have hea2 : EA id R.1 := hR ▸ ZBR hea hDD.1 hI K po
      have hnum2 : True := trivial
      have hmust3 : True := trivial
      have hitem : True := trivial
      obtain ⟨p4, e4⟩ := t4
      obtain ⟨po1, eo1⟩ := po
      obtain ⟨qm, em⟩ := pm
      obtain ⟨pp, ep⟩ := pt
      obtain ⟨p2, e2⟩ := t2
      obtain ⟨p1, e1⟩ := t1
      obtain ⟨p, e⟩ := t
      simp only at he d1
      subst he
      unfold UF rtM at hone hnum hmust2 hmost
      unfold rtM at hpart
      clear hp hp2 hp3 hadv t1k t2k h5 h7 ht hn0 hn1 hEe hfu hmm hle
      have hmi1 : Zjh id = if id = 1 then 256 else 512 := rfl
      have hb2 : bytes (b.take E) := h8k.byt
      by_cases hi1 : id = 1
      all_goals
       first
        | (have d11 : (id == 1) = true := beq_iff_eq.2 hi1
           rw [hmi1, if_pos hi1] at hmost)
        | (have d11 : (id == 1) = false := Yam.2 hi1
           rw [hmi1, if_neg hi1] at hmost)
       clear hmi1
       have nx := aI @d1 (aI @dgt (aI @dle (aI @d0 (aI @d8 (aI @d11 trivial)))))
       refine' ZcF
       refine AW.loop [2, 3, 4, 7, 8, 9, 11, 13, 14] [26056, 19, 2, 3000, 3001, 3002, 3003, 3004, 3005, 3006, 3008, 3009, 3010, 7, 8000, 8001, 8002, 8003, 8004, 8005, 8006, 8008, 8009, 8010] (fun n' st => ∃ (j : Nat) (m2 : Mod) (po : Tq), st = Si b ⟨p4, e4⟩ po m2 id E K j /\ j <= K /\ okT b po.p E /\ ZuM id m2 = j /\ Zed (b.take E) id (K - j) m2 po = R /\ n' = K - j) ?_ ?_
       ·exact ⟨_, 0, m, ⟨po1, eo1⟩, rfl, Nat.zero_le _, h8k, h00, hR, rfl⟩
       clear hmost hnum hone hpart hmust2 hR h00 h8k
       rintro n'' st ⟨j, m2, po, rfl, hj, hok, hlj, hR, rfl⟩
       by_cases hjk : j < K /\ po.e = 0
       ·as_aux_lemma =>
         obtain ⟨hjk, hpe⟩ := hjk
         have dj : decide ((j : Int) < (K : Int)) = true := Yae (by omega)
         have e7 : IntKind.i64.wrap ((j : Int) + 1) = ((j + 1 : Nat) : Int) := Zb _ (by omega) (by omega)
         obtain ⟨q, hq⟩ : ∃ q, K - j = q + 1 := ⟨K - j - 1, by omega⟩
         rw [hq, Zed, if_pos hpe] at hR
         have hitem := Zxx hok m2 hI (by omega)
         have hlen := ZzT (b.take E) hI m2 po
         have hok2 := hok.mvs (ZBO hb2 id m2)
         generalize itU (b.take E) id m2 po = z at hR hitem hlen hok2
         obtain ⟨m3, po3⟩ := z
         simp only at hR hitem hlen hok2
         obtain ⟨p6, e6⟩ := po
         obtain ⟨p7, e8⟩ := po3
         simp only at hpe
         subst hpe
         unfold rtM mdC mdL at hitem
         simp only [List.cons_append, List.nil_append, Nat.reduceAdd] at hitem
         have nx := aI @dj (aI @e7 (aI @ZFv trivial))
         refine' Zko
         all_goals refine ⟨q, ?_, j + 1, m3, ⟨p7, e8⟩, ?_, ?_, hok2, ?_, ?_, ?_⟩
         all_goals first | rfl | omega | (rw [show K - (j + 1) = q by omega]; exact hR)
       ·as_aux_lemma =>
         have hRR : R = (m2, po) := by
          rw [<- hR]
          rcases Nat.eq_zero_or_pos (K - j) with h | h
          ·rw [h]; rfl
          ·obtain ⟨q, hq⟩ : ∃ q, K - j = q + 1 := ⟨K - j - 1, by omega⟩
           rw [hq, Zed, if_neg (fun h => hjk ⟨by omega, h⟩)]
         subst hRR
         simp only at hX hea2
         have hmust3 := Zae b E po (decide (po.p = (E : Int)))
         generalize hD : decide (po.p = (E : Int)) = D at hX hmust3
         generalize Z5 D po = pf at hX hmust3
         have hl9 : 0 <= id := by omega
         obtain ⟨qf, ef⟩ := pf
         obtain ⟨qn, en⟩ := po
         simp only at hD hjk
         have hD : (qn == (E : Int)) = D := by rw [<- hD]; rfl
         unfold UF rtM at hmust3
         clear hR hok hlj
         by_cases hj2 : j < K
         all_goals
          first
           | (have dj : decide ((j : Int) < (K : Int)) = true := Yae (by omega)
              have d9 : (en == 0) = false := Yam.2 fun h => hjk ⟨hj2, h⟩)
           | (have dj : decide ((j : Int) < (K : Int)) = false := Yaf (by omega)
              have d9 : True := trivial)
          clear hj2 hjk
          have nx := aI @dj (aI @d9 (aI @hD trivial))
          refine' ZcF
          all_goals first
           | exact ⟨k, by omega, k, ⟨p4, ef⟩, m2, id, rfl, h6, fun h => ⟨hea2, hl9, hfu2, hX⟩, fun h => by rw [<- hX, Zfo h], rfl⟩
    ·as_aux_lemma =>
      rw [show decide (id > last /\ id <= 11) = false from Yaf hDD] at hX
      have d0 : (id == 0) = false := Yam.2 hid0
      have d8 : (id == 8) = false := Yam.2 h8
      have hmust2 := Zae b E pt false
      have h7 := h5.mu false
      have hbad : (Z5 false pt).e ≠ 0 := by
       show (Za2 pt 10).e ≠ 0
       unfold Za2
       split
       ·exact (by decide : (10 : Int) ≠ 0)
       ·assumption
      generalize Z5 false pt = pm at hX hmust2 h7 hbad
      have hY : Y = (ZeN, pm.e) := by rw [<- hX, ZnK _ _ _ pm hbad, Za9 hbad, Zfo (t := ⟨t4.p, pm.e⟩) hbad]
      have hmost : ∀ x : Int, 0 <= x -> UF 102 [.int .i64 x] b E pm (.int .i64 0) pm := fun x hx => by
       have h := Zfn h7 x
       unfold ZaK at h
       rw [Zi4 (b.take E) hbad, if_neg (show ¬ (0 : Int) > x by omega)] at h
       exact h
      have hmust3 := Zae b E pm (decide (pm.p = (E : Int)))
      rw [Za9 hbad] at hmust3
      generalize hD : decide (pm.p = (E : Int)) = D at hmust3
      have hitem : True := trivial
      have hnum2 : True := trivial
      obtain ⟨p4, e4⟩ := t4
      obtain ⟨qm, em⟩ := pm
      obtain ⟨pp, ep⟩ := pt
      obtain ⟨p2, e2⟩ := t2
      obtain ⟨p1, e1⟩ := t1
      obtain ⟨p, e⟩ := t
      simp only at he d1 hD hY hbad
      have hD : (qm == (E : Int)) = D := by rw [<- hD]; rfl
      have d9 : decide (((0 : Nat) : Int) < ((0 : Nat) : Int)) = false := rfl
      subst he
      unfold UF rtM at hone hnum hmust2 hmust3 hmost
      unfold rtM at hpart
      clear hp hp2 hp3 hadv t1k t2k h5 h7 ht hn0 hn1 hEe hfu hea hX
      have hcs : ((id == 1) = true /\ decide (id > last) = false) \/ ((id == 1) = false /\ decide (id > last) = false) \/ ((id == 1) = false /\ decide (id > last) = true /\ decide (id <= 11) = false) := by
       by_cases c1 : id = 1
       ·exact .inl ⟨beq_iff_eq.2 c1, Yaf (by omega)⟩
       ·by_cases c2 : last < id
        ·exact .inr (.inr ⟨Yam.2 c1, Yae c2, Yaf (by omega)⟩)
        ·exact .inr (.inl ⟨Yam.2 c1, Yaf c2⟩)
      clear hDD hl0
      rcases hcs with ⟨d11, dgt⟩ | ⟨d11, dgt⟩ | ⟨d11, dgt, dle⟩
      case' inl => have dle : True := trivial; have hmost := hmost 256 (by decide)
      case' inr.inl => have dle : True := trivial; have hmost := hmost 512 (by decide)
      case' inr.inr => have hmost := hmost 512 (by decide)
      all_goals
       have nx := aI @d1 (aI @dgt (aI @dle (aI @d0 (aI @d8 (aI @d11 trivial)))))
       refine' ZcF
       refine AW.loop [2, 3, 4, 7, 8, 9, 11, 13, 14] [26056, 19, 2, 3000, 3001, 3002, 3003, 3004, 3005, 3006, 3008, 3009, 3010, 7, 8000, 8001, 8002, 8003, 8004, 8005, 8006, 8008, 8009, 8010] (fun n' st => st = Si b ⟨p4, e4⟩ ⟨qm, em⟩ m id E 0 0 /\ n' = 0) ?_ ?_
       ·exact ⟨0, rfl, rfl⟩
       clear hmost hnum hone hpart hmust2
       rintro n'' st ⟨rfl, rfl⟩
       have hmost : True := trivial
       have hnum : True := trivial
       have hone : True := trivial
       have hpart : True := trivial
       have hmust2 : True := trivial
       have nx := aI @d9 (aI @hD trivial)
       refine' ZcF
       all_goals first
        | exact ⟨k, by omega, k, ⟨p4, em⟩, m, id, rfl, h6, fun h => absurd h hbad, fun h => hY, rfl⟩
 have hres : ∃ t2, Z5 ((m.codes.length : Int) == (m.funcs.length : Int)) t = t2 /\ Y = ZmD (m, t2) := by
  refine ⟨_, rfl, ?_⟩
  by_cases he : t.e = 0
  ·rw [<- (h0 he).2.2.2, ZxA hgo]
   have : decide (m.codes.length = m.funcs.length) = ((m.codes.length : Int) == (m.funcs.length : Int)) := by
    by_cases c : m.codes.length = m.funcs.length
    ·rw [Yae c, c]; simp
    ·rw [Yaf c]; symm; exact Yam.2 (by omega)
   rw [this]
  ·rw [h1 he, Za9 he]; unfold ZmD; rw [if_pos he]
 obtain ⟨t2, ht2, rfl⟩ := hres
 have hmust := Zae b b.length t ((m.codes.length : Int) == (m.funcs.length : Int))
 rw [ht2] at hmust
 have hone : True := trivial
 obtain ⟨p2, e2⟩ := t2
 obtain ⟨p, e⟩ := t
 clear h0 h1 ht2 ht
 unfold UF rtM at hmust
 simp only at hgo
 have q0 : List.take (m.types.length * 2) (m.types.flatMap ZfV) = m.types.flatMap ZfV := Yad (by rw [Zq Zfg]; omega)
 have q1 : List.take (m.imports.length * 3) (m.imports.flatMap Zhp) = m.imports.flatMap Zhp := Yad (by rw [Zq Zfh]; omega)
 have q2 : List.take (m.tables.length * 2) (m.tables.flatMap Zc3) = m.tables.flatMap Zc3 := Yad (by rw [Zq Zde]; omega)
 have q3 : List.take (m.mems.length * 2) (m.mems.flatMap Zc3) = m.mems.flatMap Zc3 := Yad (by rw [Zq Zde]; omega)
 have q4 : List.take (m.globals.length * 3) (m.globals.flatMap Zcd) = m.globals.flatMap Zcd := Yad (by rw [Zq ZeQ]; omega)
 have q5 : List.take (m.exports.length * 3) (m.exports.flatMap Zhq) = m.exports.flatMap Zhq := Yad (by rw [Zq Zfi]; omega)
 have q6 : List.take (m.elems.length * 2) (m.elems.flatMap Zce) = m.elems.flatMap Zce := Yad (by rw [Zq ZeR]; omega)
 have q7 : List.take (m.codes.length * 2) (m.codes.flatMap ZgE) = m.codes.flatMap ZgE := Yad (by rw [Zq Zgs]; omega)
 have q8 : List.take (m.datas.length * 2) (m.datas.flatMap Zcf) = m.datas.flatMap Zcf := Yad (by rw [Zq ZeS]; omega)
 have qf : List.take m.funcs.length (Zh .i64 m.funcs) = Zh .i64 m.funcs := Yad (by rw [Za]; exact Nat.le_refl _)
 by_cases he2 : e2 = 0
 ·subst he2
  have hE : ZmD (m, (⟨p2, 0⟩ : Tq)) = (m, 0) := rfl
  by_cases hp : p < b.length
  ·as_aux_lemma =>
    have d1 : decide (p < (b.length : Int)) = true := Yae hp
    have d2 : (e == 0) = false := Yam.2 fun h => hgo ⟨hp, h⟩
    have nx := aI @d1 (aI @d2 (aI @q0 (aI @q1 (aI @q2 (aI @q3 (aI @q4 (aI @q5 (aI @q6 (aI @q7 (aI @q8 (aI @qf trivial)))))))))))
    refine' ZcF
    refine Zdi.mk rfl rfl rfl (.inl rfl) ?_ ?_
    ·first
      | exact ⟨Yaa rfl, trivial, trivial⟩
    ·refine ⟨rfl, ?_⟩
     rw [hE]; rfl
  ·as_aux_lemma =>
    have d1 : decide (p < (b.length : Int)) = false := Yaf hp
    have nx := aI @d1 (aI @q0 (aI @q1 (aI @q2 (aI @q3 (aI @q4 (aI @q5 (aI @q6 (aI @q7 (aI @q8 (aI @qf trivial))))))))))
    refine' ZcF
    refine Zdi.mk rfl rfl rfl (.inl rfl) ?_ ?_
    ·first
      | exact ⟨Yaa rfl, trivial, trivial⟩
    ·refine ⟨rfl, ?_⟩
     rw [hE]; rfl
 ·have hE : ZmD (m, (⟨p2, e2⟩ : Tq)) = (ZeN, e2) := if_pos he2
  have d3 : (e2 != 0) = true := bne_iff_ne.2 he2
  by_cases hp : p < b.length
  ·as_aux_lemma =>
    have d1 : decide (p < (b.length : Int)) = true := Yae hp
    have d2 : (e == 0) = false := Yam.2 fun h => hgo ⟨hp, h⟩
    have nx := aI @d1 (aI @d2 (aI @d3 trivial))
    refine' Zo2
    refine AW.drawT (L0 := (bA 7 0)) (by decide +kernel) ZfU ?_
    have nx := aI @d1 trivial
    refine' Zgh
    all_goals
     (repeat (first | refine QEq.mp (by assumption) ?_ | simp only [Zb1, Go.Abs.blockQ, ↓reduceIte, Nat.reduceEqDiff]))
     have nx := aI @q0 (aI @q1 (aI @q2 (aI @q3 (aI @q4 (aI @q5 (aI @q6 (aI @q7 (aI @q8 (aI @qf trivial)))))))))
     refine' Zgh
     refine Zdi.mk rfl rfl rfl (.inl rfl) ?_ ?_
     ·first
       | exact ⟨Yaa rfl, trivial, trivial⟩
     ·refine ⟨rfl, ?_⟩
      rw [hE]; rfl
  ·as_aux_lemma =>
    have d1 : decide (p < (b.length : Int)) = false := Yaf hp
    have nx := aI @d1 (aI @d3 trivial)
    refine' Zo2
    refine AW.drawT (L0 := (bA 7 0)) (by decide +kernel) ZfU ?_
    have nx := aI @d1 trivial
    refine' Zgh
    all_goals
     (repeat (first | refine QEq.mp (by assumption) ?_ | simp only [Zb1, Go.Abs.blockQ, ↓reduceIte, Nat.reduceEqDiff]))
     have nx := aI @q0 (aI @q1 (aI @q2 (aI @q3 (aI @q4 (aI @q5 (aI @q6 (aI @q7 (aI @q8 (aI @qf trivial)))))))))
     refine' Zgh
     refine Zdi.mk rfl rfl rfl (.inl rfl) ?_ ?_
     ·first
       | exact ⟨Yaa rfl, trivial, trivial⟩
     ·refine ⟨rfl, ?_⟩
      rw [hE]; rfl
end
end Go.Proofs.YtimhmpdfioihlaaGreatDoor
