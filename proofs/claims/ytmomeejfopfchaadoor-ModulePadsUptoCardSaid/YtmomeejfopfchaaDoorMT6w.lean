/- utf8.Valid. -/
import Derived.Test.YtmomeejfopfchaaDoorDP
import Derived.Test.YtmomeejfopfchaaDoorGTabs
import Derived.Test.YtmomeejfopfchaaDoorGTy
import Derived.Test.YtmomeejfopfchaaDoorCB
import Derived.Test.YtmomeejfopfchaaDoorGMT6
set_option linter.unusedSimpArgs false
set_option linter.unusedVariables false
namespace Go.Proofs.YtmomeejfopfchaaDoor
set_option maxRecDepth 20000
open Go Go.Abs Nat
attribute [local irreducible] AW AWL AC FW CW CWr IntKind.wrap
def S63 (l : List Int) : St := { n := 188, slots := [(0, .view l.length 1 (nums .u8 l))], mem := [] }
theorem MMT6w.NM : type_of% @NSX /\ type_of% @St.keepS.eq_1 /\ type_of% @TY /\ type_of% @SLS /\ type_of% @nums_length /\ type_of% @S63.eq_1 :=
  ⟨NSX, St.keepS.eq_1, @TY, @SLS, @nums_length, @S63.eq_1⟩
open MMT6w
theorem K1MT6w.kp {P : Program} {c : Code} {Q : Exit -> St -> Prop} {st : St} (h : AW P c Q (st.keepS [0, 2, 3, 4, 5, 6, 82])) : AW P c Q st := AW.keepS _ h
theorem K1MT6w.cl {p : Prop} (h : p := by
  first
    | refine AWL.frzG rfl rfl rfl ?_
    | refine AWL.cC (f := 51) cb51 rfl rfl rfl rfl rfl rfl (w0) ?_
    | refine AWL.cC (f := 51) cb51 rfl rfl rfl rfl rfl rfl (w1) ?_
    | refine AWL.cC (f := 51) cb51 rfl rfl rfl rfl rfl rfl (w2) ?_
    | refine AWL.cC (f := 51) cb51 rfl rfl rfl rfl rfl rfl (w3) ?_
  all_goals (apply_rules (newGoals := .nonDependentOnly) only [dep])
  all_goals constructor) : p := h
theorem K1MT6w.sd {p : Prop} (h : p := by first | exact sd8c0734 | exact sdad97ec | exact sdcd4613 | exact sdd3efc8) : p := h
open K1MT6w in
set_option maxHeartbeats 6400000 in
theorem valid_ok (l : List Int) (hb : bytes l) (hl : l.length <= 1000000000) : AC Tryd.prog 30 [.view l.length 1 (nums .u8 l)] (fun r m => r = .bool (validS l) /\ m = []) := by
  obtain ⟨A, hA⟩ : ∃ A, validS l = A := ⟨_, rfl⟩
  rw [hA]
  have w0 : True := trivial
  have w1 : True := trivial
  have w2 : True := trivial
  have w3 : True := trivial
  refine AC.enter Tryd.func30 rfl (Nat.le_of_ble_eq_true rfl) ?_
  simp only [Tryd.f30]
  have nx : True := trivial
  refine' st3e7ef0
  refine AW.loop [0] [] (fun m st => ∃ (l : List Int), st = S63 l /\ bytes l /\ l.length <= 1000000000 /\ validS l = A /\ m = l.length) ?_ ?_
  · exact ⟨_, l, rfl, hb, hl, hA, rfl⟩
  clear hA hb hl
  rintro m st ⟨l, rfl, hb, hl, hA, rfl⟩
  rcases l with _ | ⟨c, l⟩
  · rw [validS_nil] at hA
    subst hA
    have nx : True := trivial
    refine' st3e7ef0
    all_goals first | exact ⟨trivial, trivial⟩ | exact ⟨rfl, trivial⟩ | exact ⟨rfl, rfl⟩ | exact ⟨trivial, rfl⟩ | (exfalso; omega) | trace_state
  have hc := hb c (List.mem_cons_self ..)
  have hbl : bytes l := fun x hx => hb x (List.mem_cons_of_mem _ hx)
  rw [List.length_cons] at hl
  have g0 : (nums .u8 (c :: l)).getD 0 .any = .int .u8 c := rfl
  have g1 : List.drop 1 (nums .u8 (c :: l)) = nums .u8 l := rfl
  by_cases h128 : c < 128
  · as_aux_lemma =>
    rw [validS_asc h128] at hA
    have d1 : decide (c < 128) = true := decide_eq_true h128
    have hl1 : l.length + 1 - 1 = l.length := by omega
    by_cases k1 : l.length > 8
    · have e1 : decide ((l.length : Int) > 8) = true := decide_eq_true (by omega)
      have w0 := word_ok l hbl (by omega) (by omega)
      by_cases m1 : (le (l.take 8)).toNat &&& maskN 8 = 0
      · have n1 := mask_t (word_u hbl (by omega)) m1
        rw [word_m hbl (by omega) m1] at hA
        obtain ⟨q, hq⟩ : ∃ q, l.drop 8 = q := ⟨_, rfl⟩
        rw [hq] at hA
        obtain ⟨hbq, hlq, htq⟩ := tail_of hq hbl
        have cq : List.take q.length q = q := List.take_length
        have hlen8 : l.length - 8 = q.length := hlq.symm
        by_cases k2 : q.length > 16
        · have e2 : decide ((q.length : Int) > 16) = true := decide_eq_true (by omega)
          obtain ⟨r, hr⟩ : ∃ r, q.drop 8 = r := ⟨_, rfl⟩
          obtain ⟨hbr, hlr, htr⟩ := tail_of hr hbq
          have cr : List.take r.length r = r := List.take_length
          have hlenr : q.length - 8 = r.length := hlr.symm
          have w1 := word_ok q hbq (by omega) (by omega)
          have w2 := word_ok r hbr (by omega) (by omega)
          have o2 := orw_u (word_u hbq (by omega)) (word_u hbr (by omega))
          have om2 := orw_m (word_u hbq (show 8 <= q.length by omega)) (word_u hbr (show 8 <= r.length by omega)) (maskN 8)
          by_cases m2 : (bitsOp .or .u64 (le (q.take 8)) (le (r.take 8))).toNat &&& maskN 8 = 0
          · have n2 := mask_t o2 m2
            have mm := om2.1 m2
            have lq : l.length = q.length + 8 := by omega
            rw [word_m hbq (by omega) mm.1, hr, word_m hbr (by omega) mm.2] at hA
            obtain ⟨s, hs⟩ : ∃ s, r.drop 8 = s := ⟨_, rfl⟩
            rw [hs] at hA
            obtain ⟨hbs, hls, hts⟩ := tail_of hs hbr
            have hqs : List.drop 16 q = s := by rw [<- hs, <- hr, List.drop_drop]
            have cs : List.take s.length s = s := List.take_length
            have hlens : q.length - 16 = s.length := by omega
            have nx : type_of% @d1 /\ type_of% @g0 /\ type_of% @g1 /\ type_of% @List.length_cons.{0} /\ type_of% @hl1 /\ type_of% @e1 /\ type_of% @n1 /\ type_of% @hq /\ type_of% @cq /\ type_of% @hlen8 /\ type_of% @e2 /\ type_of% @hr /\ type_of% @cr /\ type_of% @hlenr /\ type_of% @n2 /\ type_of% @hqs /\ type_of% @cs /\ type_of% @hlens /\ True := ⟨@d1, ⟨@g0, ⟨@g1, ⟨@List.length_cons.{0}, ⟨@hl1, ⟨@e1, ⟨@n1, ⟨@hq, ⟨@cq, ⟨@hlen8, ⟨@e2, ⟨@hr, ⟨@cr, ⟨@hlenr, ⟨@n2, ⟨@hqs, ⟨@cs, ⟨@hlens, trivial⟩⟩⟩⟩⟩⟩⟩⟩⟩⟩⟩⟩⟩⟩⟩⟩⟩⟩
            refine' st39d7f9
            have hsl : s.length < l.length + 1 := by omega
            have hsm : s.length <= 1000000000 := by omega
            clear w0 w1 w2 o2 om2 m2 n2 mm m1 n1 hq cq hlen8 e2 hr cr hlenr hqs cs hlens hts hls htr hlr htq hlq g0 g1 hl1 e1
            refine AW.loop [0] [] (fun m st => ∃ (u : List Int), st = S63 u /\ bytes u /\ u.length <= s.length /\ validS u = A /\ m = u.length) ?_ ?_
            · exact ⟨_, s, rfl, hbs, Nat.le_refl _, hA, rfl⟩
            as_aux_lemma =>
            clear hA hbs
            rintro m st ⟨u, rfl, hbu, hlu, hA, rfl⟩
            have w0 : True := trivial
            have w1 : True := trivial
            have w2 : True := trivial
            by_cases k4 : u.length > 32
            · have e4 : decide ((u.length : Int) > 32) = true := decide_eq_true (by omega)
              obtain ⟨v1, h1⟩ : ∃ r, u.drop 8 = r := ⟨_, rfl⟩
              obtain ⟨hb1, hl1, -⟩ := tail_of h1 hbu
              obtain ⟨v2, h2⟩ : ∃ r, u.drop 16 = r := ⟨_, rfl⟩
              obtain ⟨hb2, hl2, -⟩ := tail_of h2 hbu
              obtain ⟨v3, h3⟩ : ∃ r, u.drop 24 = r := ⟨_, rfl⟩
              obtain ⟨hb3, hl3, -⟩ := tail_of h3 hbu
              obtain ⟨v4, h4⟩ : ∃ r, u.drop 32 = r := ⟨_, rfl⟩
              obtain ⟨hb4, hl4, -⟩ := tail_of h4 hbu
              have c1 : List.take v1.length v1 = v1 := List.take_length
              have c2 : List.take v2.length v2 = v2 := List.take_length
              have c3 : List.take v3.length v3 = v3 := List.take_length
              have c4 : List.take v4.length v4 = v4 := List.take_length
              have z1 : u.length - 8 = v1.length := hl1.symm
              have z2 : u.length - 16 = v2.length := hl2.symm
              have z3 : u.length - 24 = v3.length := hl3.symm
              have z4 : u.length - 32 = v4.length := hl4.symm
              have y2 : v1.drop 8 = v2 := by rw [<- h1, <- h2, List.drop_drop]
              have y3 : v2.drop 8 = v3 := by rw [<- h2, <- h3, List.drop_drop]
              have y4 : v3.drop 8 = v4 := by rw [<- h3, <- h4, List.drop_drop]
              have w0 := word_ok u hbu (by omega) (by omega)
              have w1 := word_ok v1 hb1 (by omega) (by omega)
              have w2 := word_ok v2 hb2 (by omega) (by omega)
              have w3 := word_ok v3 hb3 (by omega) (by omega)
              have oa := orw_u (word_u hbu (show 8 <= u.length by omega)) (word_u hb1 (show 8 <= v1.length by omega))
              have ob := orw_u (word_u hb2 (show 8 <= v2.length by omega)) (word_u hb3 (show 8 <= v3.length by omega))
              have oc := orw_u oa ob
              have ma := orw_m (word_u hbu (show 8 <= u.length by omega)) (word_u hb1 (show 8 <= v1.length by omega)) (maskN 8)
              have mb := orw_m (word_u hb2 (show 8 <= v2.length by omega)) (word_u hb3 (show 8 <= v3.length by omega)) (maskN 8)
              have mc := orw_m oa ob (maskN 8)
              by_cases m4 : (bitsOp .or .u64 (bitsOp .or .u64 (le (u.take 8)) (le (v1.take 8))) (bitsOp .or .u64 (le (v2.take 8)) (le (v3.take 8)))).toNat &&& maskN 8 = 0
              · have n4 := mask_t oc m4
                have md := mc.1 m4
                have ma := ma.1 md.1
                have mb := mb.1 md.2
                rw [word_m hbu (by omega) ma.1, h1, word_m hb1 (by omega) ma.2, y2, word_m hb2 (by omega) mb.1, y3, word_m hb3 (by omega) mb.2, y4] at hA
                have nx : type_of% @e4 /\ type_of% @h1 /\ type_of% @h2 /\ type_of% @h3 /\ type_of% @h4 /\ type_of% @c1 /\ type_of% @c2 /\ type_of% @c3 /\ type_of% @c4 /\ type_of% @z1 /\ type_of% @z2 /\ type_of% @z3 /\ type_of% @z4 /\ type_of% @n4 /\ True := ⟨@e4, ⟨@h1, ⟨@h2, ⟨@h3, ⟨@h4, ⟨@c1, ⟨@c2, ⟨@c3, ⟨@c4, ⟨@z1, ⟨@z2, ⟨@z3, ⟨@z4, ⟨@n4, trivial⟩⟩⟩⟩⟩⟩⟩⟩⟩⟩⟩⟩⟩⟩
                refine' st39d7f9
                all_goals first
                  | exact ⟨v4.length, by omega, v4, rfl, hb4, by omega, hA, rfl⟩
                  | trace_state
              · have n4 := mask_f oc m4
                have nx : type_of% @e4 /\ type_of% @h1 /\ type_of% @h2 /\ type_of% @h3 /\ type_of% @h4 /\ type_of% @c1 /\ type_of% @c2 /\ type_of% @c3 /\ type_of% @c4 /\ type_of% @z1 /\ type_of% @z2 /\ type_of% @z3 /\ type_of% @z4 /\ type_of% @n4 /\ True := ⟨@e4, ⟨@h1, ⟨@h2, ⟨@h3, ⟨@h4, ⟨@c1, ⟨@c2, ⟨@c3, ⟨@c4, ⟨@z1, ⟨@z2, ⟨@z3, ⟨@z4, ⟨@n4, trivial⟩⟩⟩⟩⟩⟩⟩⟩⟩⟩⟩⟩⟩⟩
                refine' st39d7f9
                all_goals first
                  | exact ⟨u.length, by simp only [List.length_cons]; omega, u, rfl, hbu, by omega, hA, rfl⟩
                  | trace_state
            · have e4 : decide ((u.length : Int) > 32) = false := decide_eq_false (by omega)
              have nx : type_of% @e4 /\ True := ⟨@e4, trivial⟩
              refine' st39d7f9
              all_goals first
                | exact ⟨u.length, by simp only [List.length_cons]; omega, u, rfl, hbu, by omega, hA, rfl⟩
                | trace_state
          · have n2 := mask_f o2 m2
            have nx : type_of% @d1 /\ type_of% @g0 /\ type_of% @g1 /\ type_of% @List.length_cons.{0} /\ type_of% @hl1 /\ type_of% @e1 /\ type_of% @n1 /\ type_of% @hq /\ type_of% @cq /\ type_of% @hlen8 /\ type_of% @e2 /\ type_of% @hr /\ type_of% @cr /\ type_of% @hlenr /\ type_of% @n2 /\ True := ⟨@d1, ⟨@g0, ⟨@g1, ⟨@List.length_cons.{0}, ⟨@hl1, ⟨@e1, ⟨@n1, ⟨@hq, ⟨@cq, ⟨@hlen8, ⟨@e2, ⟨@hr, ⟨@cr, ⟨@hlenr, ⟨@n2, trivial⟩⟩⟩⟩⟩⟩⟩⟩⟩⟩⟩⟩⟩⟩⟩
            refine' st39d7f9
            all_goals first
              | exact ⟨q.length, by simp only [List.length_cons]; omega, q, rfl, hbq, by omega, hA, rfl⟩
              | trace_state
        · have e2 : decide ((q.length : Int) > 16) = false := decide_eq_false (by omega)
          have nx : type_of% @d1 /\ type_of% @g0 /\ type_of% @g1 /\ type_of% @List.length_cons.{0} /\ type_of% @hl1 /\ type_of% @e1 /\ type_of% @n1 /\ type_of% @hq /\ type_of% @cq /\ type_of% @hlen8 /\ type_of% @e2 /\ True := ⟨@d1, ⟨@g0, ⟨@g1, ⟨@List.length_cons.{0}, ⟨@hl1, ⟨@e1, ⟨@n1, ⟨@hq, ⟨@cq, ⟨@hlen8, ⟨@e2, trivial⟩⟩⟩⟩⟩⟩⟩⟩⟩⟩⟩
          refine' st39d7f9
          all_goals first
            | exact ⟨q.length, by simp only [List.length_cons]; omega, q, rfl, hbq, by omega, hA, rfl⟩
            | trace_state
      · have n1 := mask_f (word_u hbl (by omega)) m1
        have nx : type_of% @d1 /\ type_of% @g0 /\ type_of% @g1 /\ type_of% @List.length_cons.{0} /\ type_of% @hl1 /\ type_of% @e1 /\ type_of% @n1 /\ True := ⟨@d1, ⟨@g0, ⟨@g1, ⟨@List.length_cons.{0}, ⟨@hl1, ⟨@e1, ⟨@n1, trivial⟩⟩⟩⟩⟩⟩⟩
        refine' st39d7f9
        all_goals first
          | exact ⟨l.length, by simp only [List.length_cons]; omega, l, rfl, hbl, by omega, hA, rfl⟩
          | trace_state
    · have e1 : decide ((l.length : Int) > 8) = false := decide_eq_false (by omega)
      have nx : type_of% @d1 /\ type_of% @g0 /\ type_of% @g1 /\ type_of% @List.length_cons.{0} /\ type_of% @hl1 /\ type_of% @e1 /\ True := ⟨@d1, ⟨@g0, ⟨@g1, ⟨@List.length_cons.{0}, ⟨@hl1, ⟨@e1, trivial⟩⟩⟩⟩⟩⟩
      refine' st39d7f9
      all_goals first
        | exact ⟨l.length, by simp only [List.length_cons]; omega, l, rfl, hbl, by omega, hA, rfl⟩
        | trace_state
  · obtain ⟨x, hx, hk⟩ := first_kind hc h128 l
    have d1 : decide (c < 128) = false := decide_eq_false h128
    rw [validS_step (List.cons_ne_nil _ _)] at hA
    have hc0 := hc.1
    have hc1 := hc.2
    have hfl : c.toNat < firstI.length := by rw [first_len]; omega
    have f1 : vi ((List.drop c.toNat (List.map (V.int .u8) firstI)).getD 0 .any) = x := first_vi hfl hx
    rcases hk with ⟨rfl, hu⟩ | ⟨rfl, hu⟩ | ⟨hx3, hu⟩ | ⟨hx4, hu⟩
    · as_aux_lemma =>
      rw [hu] at hA
      simp only at hA
      subst hA
      have nx : type_of% @d1 /\ type_of% @g0 /\ type_of% @g1 /\ type_of% @List.length_cons.{0} /\ type_of% @gV0 /\ type_of% @gV1 /\ type_of% @f1 /\ type_of% @a241 /\ type_of% @s241 /\ type_of% @t15 /\ True := ⟨@d1, ⟨@g0, ⟨@g1, ⟨@List.length_cons.{0}, ⟨@gV0, ⟨@gV1, ⟨@f1, ⟨@a241, ⟨@s241, ⟨@t15, trivial⟩⟩⟩⟩⟩⟩⟩⟩⟩⟩
      refine' st39d7f9
      all_goals first | exact ⟨trivial, trivial⟩ | exact ⟨rfl, trivial⟩ | exact ⟨rfl, rfl⟩ | exact ⟨trivial, rfl⟩ | (exfalso; omega) | trace_state
    · as_aux_lemma =>
      rw [hu] at hA
      rcases l with _ | ⟨y, l⟩
      · rw [if_neg (by simp)] at hA
        simp only at hA
        subst hA
        have nx : type_of% @d1 /\ type_of% @g0 /\ type_of% @List.length_cons.{0} /\ type_of% @List.length_nil.{0} /\ type_of% @gV0 /\ type_of% @gV1 /\ type_of% @f1 /\ type_of% @a2 /\ type_of% @s2 /\ type_of% @t0 /\ type_of% @t00 /\ True := ⟨@d1, ⟨@g0, ⟨@List.length_cons.{0}, ⟨@List.length_nil.{0}, ⟨@gV0, ⟨@gV1, ⟨@f1, ⟨@a2, ⟨@s2, ⟨@t0, ⟨@t00, trivial⟩⟩⟩⟩⟩⟩⟩⟩⟩⟩⟩
        refine' st39d7f9
        all_goals first | exact ⟨trivial, trivial⟩ | exact ⟨rfl, trivial⟩ | exact ⟨rfl, rfl⟩ | exact ⟨trivial, rfl⟩ | (exfalso; omega) | trace_state
      have g2 : (nums .u8 (y :: l)).getD 0 .any = .int .u8 y := rfl
      rw [List.length_cons] at hl
      have hln : l.length + 1 + 1 - 2 = l.length := by omega
      have hcut : List.take l.length l = l := List.take_length
      have gd : List.drop 2 (nums .u8 (c :: y :: l)) = nums .u8 l := rfl
      have hbl2 : bytes l := fun x hx => hbl x (List.mem_cons_of_mem _ hx)
      have q1 : decide ((((y :: l).length + 1 : Nat) : Int) < 2) = false := decide_eq_false (by rw [List.length_cons]; omega)
      by_cases hy : 128 <= y /\ y <= 191
      · rw [if_pos ⟨by simp, hy⟩] at hA
        have e1 : decide (y < 128) = false := decide_eq_false (by omega)
        have e2 : decide (191 < y) = false := decide_eq_false (by omega)
        have nx : type_of% @d1 /\ type_of% @g0 /\ type_of% @g1 /\ type_of% @g2 /\ type_of% @gd /\ type_of% @List.length_cons.{0} /\ type_of% @gV0 /\ type_of% @gV1 /\ type_of% @f1 /\ type_of% @a2 /\ type_of% @s2 /\ type_of% @t0 /\ type_of% @t00 /\ type_of% @e1 /\ type_of% @e2 /\ type_of% @hln /\ type_of% @hcut /\ True := ⟨@d1, ⟨@g0, ⟨@g1, ⟨@g2, ⟨@gd, ⟨@List.length_cons.{0}, ⟨@gV0, ⟨@gV1, ⟨@f1, ⟨@a2, ⟨@s2, ⟨@t0, ⟨@t00, ⟨@e1, ⟨@e2, ⟨@hln, ⟨@hcut, trivial⟩⟩⟩⟩⟩⟩⟩⟩⟩⟩⟩⟩⟩⟩⟩⟩⟩
        refine' st39d7f9
        all_goals first
          | exact ⟨l.length, by simp only [List.length_cons]; omega, l, rfl, hbl2, by omega, hA, rfl⟩
          | trace_state
      · rw [if_neg (fun h => hy h.2)] at hA
        simp only at hA
        subst hA
        by_cases h1 : y < 128
        · have e1 : decide (y < 128) = true := decide_eq_true h1
          have nx : type_of% @d1 /\ type_of% @g0 /\ type_of% @g1 /\ type_of% @g2 /\ type_of% @gd /\ type_of% @List.length_cons.{0} /\ type_of% @gV0 /\ type_of% @gV1 /\ type_of% @f1 /\ type_of% @a2 /\ type_of% @s2 /\ type_of% @t0 /\ type_of% @t00 /\ type_of% @e1 /\ type_of% @hln /\ type_of% @hcut /\ True := ⟨@d1, ⟨@g0, ⟨@g1, ⟨@g2, ⟨@gd, ⟨@List.length_cons.{0}, ⟨@gV0, ⟨@gV1, ⟨@f1, ⟨@a2, ⟨@s2, ⟨@t0, ⟨@t00, ⟨@e1, ⟨@hln, ⟨@hcut, trivial⟩⟩⟩⟩⟩⟩⟩⟩⟩⟩⟩⟩⟩⟩⟩⟩
          refine' st39d7f9
          all_goals first | exact ⟨trivial, trivial⟩ | exact ⟨rfl, trivial⟩ | exact ⟨rfl, rfl⟩ | exact ⟨trivial, rfl⟩ | (exfalso; omega) | trace_state
        · have e1 : decide (y < 128) = false := decide_eq_false h1
          have e2 : decide (191 < y) = true := decide_eq_true (by omega)
          have nx : type_of% @d1 /\ type_of% @g0 /\ type_of% @g1 /\ type_of% @g2 /\ type_of% @gd /\ type_of% @List.length_cons.{0} /\ type_of% @gV0 /\ type_of% @gV1 /\ type_of% @f1 /\ type_of% @a2 /\ type_of% @s2 /\ type_of% @t0 /\ type_of% @t00 /\ type_of% @e1 /\ type_of% @e2 /\ type_of% @hln /\ type_of% @hcut /\ True := ⟨@d1, ⟨@g0, ⟨@g1, ⟨@g2, ⟨@gd, ⟨@List.length_cons.{0}, ⟨@gV0, ⟨@gV1, ⟨@f1, ⟨@a2, ⟨@s2, ⟨@t0, ⟨@t00, ⟨@e1, ⟨@e2, ⟨@hln, ⟨@hcut, trivial⟩⟩⟩⟩⟩⟩⟩⟩⟩⟩⟩⟩⟩⟩⟩⟩⟩
          refine' st39d7f9
          all_goals first | exact ⟨trivial, trivial⟩ | exact ⟨rfl, trivial⟩ | exact ⟨rfl, rfl⟩ | exact ⟨trivial, rfl⟩ | (exfalso; omega) | trace_state
    · as_aux_lemma =>
      have a7 : IntKind.i64.wrap (bitsOp .and .u8 x 7) = 3 := by rcases hx3 with rfl | rfl | rfl <;> first | exact a19 | exact a3 | exact a35
      have sx : 0 <= Int.fdiv x (2 ^ min 4 IntKind.u8.bits) /\ Int.fdiv x (2 ^ min 4 IntKind.u8.bits) < ((16 : Nat) : Int) := by rcases hx3 with rfl | rfl | rfl <;> exact ⟨by decide, by decide⟩
      have dl : 2 <= (List.drop ((Int.fdiv x (2 ^ min 4 IntKind.u8.bits)).toNat * 2) (List.map (V.int .u8) acceptI)).length := by rcases hx3 with rfl | rfl | rfl <;> exact Nat.le_of_ble_eq_true rfl
      have tx : List.take 2 (List.drop ((Int.fdiv x (2 ^ min 4 IntKind.u8.bits)).toNat * 2) (List.map (V.int .u8) acceptI)) = [.int .u8 (acceptI.getD (2 * (x / 16).toNat) 0), .int .u8 (acceptI.getD (2 * (x / 16).toNat + 1) 0)] := by rcases hx3 with rfl | rfl | rfl <;> rfl
      generalize acceptI.getD (2 * (x / 16).toNat) 0 = lo at tx hu
      generalize acceptI.getD (2 * (x / 16).toNat + 1) 0 = hi at tx hu
      clear hx3 hx
      rw [hu] at hA
      clear hu
      have hln : True := trivial
      have hcut : True := trivial
      have gd : True := trivial
      have g2 : True := trivial
      have g3 : True := trivial
      rcases l with _ | ⟨y, l⟩
      case' nil =>
        rw [if_neg (by simp)] at hA
        simp only at hA
        subst hA
      case' cons =>
        rcases l with _ | ⟨z, l⟩
        case' nil =>
          rw [if_neg (by simp)] at hA
          simp only at hA
          subst hA
        case' cons =>
          simp only [List.length_cons] at hl
          have hln : l.length + 1 + 1 + 1 - 3 = l.length := by omega
          have hcut : List.take l.length l = l := List.take_length
          have gd : List.drop 3 (nums .u8 (c :: y :: z :: l)) = nums .u8 l := rfl
          have g2 : (nums .u8 (y :: z :: l)).getD 0 .any = .int .u8 y := rfl
          have g3 : (nums .u8 (z :: l)).getD 0 .any = .int .u8 z := rfl
          simp only [List.getD_cons_zero, List.getD_cons_succ] at hA
      all_goals
        have nx : type_of% @d1 /\ type_of% @g0 /\ type_of% @g1 /\ type_of% @g2 /\ type_of% @g3 /\ type_of% @gd /\ type_of% @List.length_cons.{0} /\ type_of% @List.length_nil.{0} /\ type_of% @gV0 /\ type_of% @gV1 /\ type_of% @f1 /\ type_of% @a7 /\ type_of% @tx /\ type_of% @hln /\ type_of% @hcut /\ True := ⟨@d1, ⟨@g0, ⟨@g1, ⟨@g2, ⟨@g3, ⟨@gd, ⟨@List.length_cons.{0}, ⟨@List.length_nil.{0}, ⟨@gV0, ⟨@gV1, ⟨@f1, ⟨@a7, ⟨@tx, ⟨@hln, ⟨@hcut, trivial⟩⟩⟩⟩⟩⟩⟩⟩⟩⟩⟩⟩⟩⟩⟩
        refine' st39d7f9
        all_goals first
          | exact ⟨rfl, trivial⟩
          | (rw [if_neg (by omega)] at hA; simp only at hA; subst hA; exact ⟨rfl, trivial⟩)
          | (rw [if_pos ⟨by simp only [List.length_cons]; omega, by omega, by omega, by omega, by omega⟩] at hA; exact ⟨l.length, by simp only [List.length_cons]; omega, l, rfl, fun x hx => hbl x (by simp [hx]), by omega, hA, rfl⟩)
          | trace_state
    · as_aux_lemma =>
      have a7 : IntKind.i64.wrap (bitsOp .and .u8 x 7) = 4 := by rcases hx4 with rfl | rfl | rfl <;> first | exact a52 | exact a4 | exact a68
      have sx : 0 <= Int.fdiv x (2 ^ min 4 IntKind.u8.bits) /\ Int.fdiv x (2 ^ min 4 IntKind.u8.bits) < ((16 : Nat) : Int) := by rcases hx4 with rfl | rfl | rfl <;> exact ⟨by decide, by decide⟩
      have dl : 2 <= (List.drop ((Int.fdiv x (2 ^ min 4 IntKind.u8.bits)).toNat * 2) (List.map (V.int .u8) acceptI)).length := by rcases hx4 with rfl | rfl | rfl <;> exact Nat.le_of_ble_eq_true rfl
      have tx : List.take 2 (List.drop ((Int.fdiv x (2 ^ min 4 IntKind.u8.bits)).toNat * 2) (List.map (V.int .u8) acceptI)) = [.int .u8 (acceptI.getD (2 * (x / 16).toNat) 0), .int .u8 (acceptI.getD (2 * (x / 16).toNat + 1) 0)] := by rcases hx4 with rfl | rfl | rfl <;> rfl
      generalize acceptI.getD (2 * (x / 16).toNat) 0 = lo at tx hu
      generalize acceptI.getD (2 * (x / 16).toNat + 1) 0 = hi at tx hu
      clear hx4 hx
      rw [hu] at hA
      clear hu
      have hln : True := trivial
      have hcut : True := trivial
      have gd : True := trivial
      have g2 : True := trivial
      have g3 : True := trivial
      have g4 : True := trivial
      rcases l with _ | ⟨y, l⟩
      case' nil =>
        rw [if_neg (by simp)] at hA
        simp only at hA
        subst hA
      case' cons =>
        rcases l with _ | ⟨z, l⟩
        case' nil =>
          rw [if_neg (by simp)] at hA
          simp only at hA
          subst hA
        case' cons =>
          rcases l with _ | ⟨u, l⟩
          case' nil =>
            rw [if_neg (by simp)] at hA
            simp only at hA
            subst hA
          case' cons =>
            simp only [List.length_cons] at hl
            have hln : l.length + 1 + 1 + 1 + 1 - 4 = l.length := by omega
            have hcut : List.take l.length l = l := List.take_length
            have gd : List.drop 4 (nums .u8 (c :: y :: z :: u :: l)) = nums .u8 l := rfl
            have g2 : (nums .u8 (y :: z :: u :: l)).getD 0 .any = .int .u8 y := rfl
            have g3 : (nums .u8 (z :: u :: l)).getD 0 .any = .int .u8 z := rfl
            have g4 : (nums .u8 (u :: l)).getD 0 .any = .int .u8 u := rfl
            simp only [List.getD_cons_zero, List.getD_cons_succ] at hA
      all_goals
        have nx : type_of% @d1 /\ type_of% @g0 /\ type_of% @g1 /\ type_of% @g2 /\ type_of% @g3 /\ type_of% @g4 /\ type_of% @gd /\ type_of% @List.length_cons.{0} /\ type_of% @List.length_nil.{0} /\ type_of% @gV0 /\ type_of% @gV1 /\ type_of% @f1 /\ type_of% @a7 /\ type_of% @tx /\ type_of% @hln /\ type_of% @hcut /\ True := ⟨@d1, ⟨@g0, ⟨@g1, ⟨@g2, ⟨@g3, ⟨@g4, ⟨@gd, ⟨@List.length_cons.{0}, ⟨@List.length_nil.{0}, ⟨@gV0, ⟨@gV1, ⟨@f1, ⟨@a7, ⟨@tx, ⟨@hln, ⟨@hcut, trivial⟩⟩⟩⟩⟩⟩⟩⟩⟩⟩⟩⟩⟩⟩⟩⟩
        refine' st39d7f9
        all_goals first
          | exact ⟨rfl, trivial⟩
          | (rw [if_neg (by omega)] at hA; simp only at hA; subst hA; exact ⟨rfl, trivial⟩)
          | (rw [if_pos ⟨by simp only [List.length_cons]; omega, by omega, by omega, by omega, by omega, by omega, by omega⟩] at hA; exact ⟨l.length, by simp only [List.length_cons]; omega, l, rfl, fun x hx => hbl x (by simp [hx]), by omega, hA, rfl⟩)
          | trace_state
end Go.Proofs.YtmomeejfopfchaaDoor
