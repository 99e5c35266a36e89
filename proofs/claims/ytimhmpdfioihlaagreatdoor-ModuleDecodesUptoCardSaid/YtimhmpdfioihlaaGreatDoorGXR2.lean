/- fields: those with a loop. -/
import Derived.Test.YtimhmpdfioihlaaGreatDoorDP
import Derived.Test.YtimhmpdfioihlaaGreatDoorGWords
import Derived.Test.YtimhmpdfioihlaaGreatDoorGCB
import Derived.Test.YtimhmpdfioihlaaGreatDoorGXP
import Derived.Test.YtimhmpdfioihlaaGreatDoorGLook
import Derived.Test.YtimhmpdfioihlaaGreatDoorGRMP
import Derived.Test.YtimhmpdfioihlaaGreatDoorGRS
set_option linter.unusedSimpArgs false
set_option linter.unusedVariables false
set_option maxHeartbeats 12800000
namespace Go.Proofs.YtimhmpdfioihlaaGreatDoor
set_option maxRecDepth 20000
open Go Go.Abs Nat
attribute [local irreducible] AW AWL AC FW CW CWr IntKind.wrap
section
def TB (pn : Nat -> Option BI) (b : List Int) (r : Rd) (io ia ib il ih : Int) (l : List Int) (k : Nat) : St := { n := 134, slots := [(0, .ptr 0 0), (1, .ptr 1 0), (6, .int .i64 (k : Int))], mem := [(0, ⟨false, [.view b.length 1 (Zh .u8 b), .int .i64 r.pos, .ref 1002 0 r.op.length 1, .int .i64 r.err]⟩), (1002, ⟨true, Zh .i64 (r.op ++ r.jk)⟩), (1, ⟨false, [.int .i64 io, .int .i64 ia, .int .i64 ib, .int .u64 il, .int .u64 ih, .ref 2005 0 l.length 1]⟩), (2005, ⟨true, Zh .i64 l⟩)], lent := [(0, pn 0), (1002, none), (1, pn 1), (2005, none)] }
def TB7 (pn : Nat -> Option BI) (b : List Int) (r : Rd) (io ia ib il ih : Int) (l : List Int) (k : Nat) (x : Int) : St := { n := 134, slots := [(0, .ptr 0 0), (1, .ptr 1 0), (6, .int .i64 (k : Int)), (41, .ptr 1 0), (45, .ref 2005 0 l.length 1), (48, .ref 48 0 1 1)], mem := [(0, ⟨false, [.view b.length 1 (Zh .u8 b), .int .i64 r.pos, .ref 1002 0 r.op.length 1, .int .i64 r.err]⟩), (1002, ⟨true, Zh .i64 (r.op ++ r.jk)⟩), (1, ⟨false, [.int .i64 io, .int .i64 ia, .int .i64 ib, .int .u64 il, .int .u64 ih, .ref 2005 0 l.length 1]⟩), (2005, ⟨true, Zh .i64 l⟩), (48, ⟨true, Zh .i64 [x]⟩)], lent := [(0, pn 0), (1002, none), (1, pn 1), (2005, none)] }
def TR (pn : Nat -> Option BI) (b : List Int) (r : Rd) (io ia ib il ih : Int) (l v : List Int) (k : Nat) : St := { n := 134, slots := [(0, .ptr 0 0), (1, .ptr 1 0), (7, .ptr 7 0), (99, .int .i64 (k : Int))], mem := [(0, ⟨false, [.view b.length 1 (Zh .u8 b), .int .i64 r.pos, .ref 1002 0 r.op.length 1, .int .i64 r.err]⟩), (1002, ⟨true, Zh .i64 (r.op ++ r.jk)⟩), (1, ⟨false, [.int .i64 io, .int .i64 ia, .int .i64 ib, .int .u64 il, .int .u64 ih, .ref 2005 0 l.length 1]⟩), (2005, ⟨true, Zh .i64 l⟩), (7, ⟨true, Zh .u8 v⟩)], lent := [(0, pn 0), (1002, none), (1, pn 1), (2005, none)] }
theorem ZwB {b : List Int} (hb : bytes b) {r : Rd} (h : Zb6 b r) (he : r.err = 0) : r.pos + (if (Zab b r).2.err = 0 then 1 else 0) <= (Zab b r).2.pos := by
 by_cases c : (ZaM b r.pos 32).2.2 = 0
 ·have e : Zab b r = ((ZaM b r.pos 32).1, { r with pos := (ZaM b r.pos 32).2.1 }) := by unfold Zab; rw [if_neg (fun h => h he), if_neg (fun h => h c)]
  have := ZaO hb ⟨h.p0, h.p1⟩ c
  rw [e]; simp only
  split <;> omega
 ·have e : Zab b r = (0, Z4 r 10) := by unfold Zab; rw [if_neg (fun h => h he), if_pos c]
  have e2 : Z4 r 10 = { r with err := 10 } := if_pos he
  rw [e, e2]; simp
theorem ZAW.NM : type_of% @MB.NM /\ type_of% @Zas /\ type_of% @TB.eq_1 /\ type_of% @TB7.eq_1 /\ type_of% @TR.eq_1 :=
 ⟨MB.NM, @Zas, @TB.eq_1, @TB7.eq_1, @TR.eq_1⟩
open ZAW
theorem ZkA {p : Prop} (h : p := by
 repeat' (first
  | ((with_reducible show AW _ _ _ _); first | ((first | refine AW.seqA ?_ | refine AW.blockA ?_); intro Qn hQn hPn))
  | ((with_reducible show AWL _ _ _ _ _); refine AWL.lentD rfl rfl ?_; (try refine' Zi))
  | ((with_reducible first | show AWL _ _ _ _ _ | show AW _ _ _ _); (first | refine AWL.nil ?_ | refine AW.skip ?_ | refine AW.ret ?_ | refine AW.exit ?_); (repeat (first | refine QEq.mp (by assumption) ?_ | simp only [Zb1, Go.Abs.blockQ, ↓reduceIte, Nat.reduceEqDiff])))
  | ((first
    | ((with_reducible show AWL _ _ _ _ _); first | refine AWL.opN (sl := SL) rfl rfl rfl trivial ?_ | (refine AWL.allocF (t := 185) rfl rfl rfl rfl rfl rfl ?_) | (refine AWL.op (sl := SL) rfl rfl ?_ ?_) | (refine AWL.ptrNil rfl rfl rfl rfl rfl rfl (by kernel_rfl) ?_) | (refine AWL.sliceNil rfl rfl rfl rfl rfl (by kernel_rfl) ?_ ?_; (focus (first | exact trivial | exact numsZ)); (intro r hr; cases r <;> first | (have hr := hr rfl) | (clear hr))) | (refine AWL.guard2 rfl rfl rfl rfl rfl rfl ?_ ?_ <;> (intro hc; (try simp only [Bool.not_true, Bool.not_false] at hc); first | (cases hc; done) | ((try simp only [hc]); (try simp only [HCX] at hc); (try (exfalso; omega)); (try (guard_hyp hc : True; clear hc))))) | refine AWL.guardU rfl rfl rfl rfl rfl rfl ?_ | refine' cl)
    | ((with_reducible show AW _ _ _ _); first | ((show AW _ (.region _ _ false) _ _); refine kp ?_; refine AW.region ?_))
    | ((with_reducible show AT _ _ _ _ _ _); refine' att2)) <;> (try ((first | with_reducible (first | show AWL _ _ _ _ _ | show AW _ _ _ _ | show DQ _ _ _ _ _ _) | (rintro _ _ ⟨rfl, rfl⟩; (try refine And.intro (by kernel_rfl) ?_))); (try refine' Zi))))
  | ((with_reducible show AW _ _ _ _); first | (refine AW.cond rfl (fun hc => ?_) (fun hc => ?_) <;> first | (cases hc; done) | ((try simp only [HCX] at hc); (try (exfalso; omega)); (try (guard_hyp hc : True; clear hc)))))
  | ((with_reducible show True); exact trivial) | ((with_reducible show ATQ _ _ _ _); show AT _ _ _ _ _ _)
  | ((refine Zjx.mk [0, 1002, 1, 2005] rfl rfl rfl rfl ?_ ?_ ?_ ?_; (focus (first | exact Or.inl rfl | exact Or.inr rfl)); (focus (repeat (first | exact List.forall_mem_nil _ | refine Ya5.2 ⟨rfl, ?_⟩)))) <;> (try simp (disch := omega) only [NM, Nat.reduceBEq, reduceAdd, reduceMul, Int.reduceToNat, reduceSub, List.set_cons_zero, List.set_cons_succ, nx]))
  | exact sd
  | fail)
 all_goals (try clear nx)
 all_goals (apply_rules (newGoals := .nonDependentOnly) only [dep]; exact ())) : p := h
theorem ZkB.cl {p : Prop} (h : p := by
 first
  | refine AWL.cM (f := 154) [(0, 0), (1002, 1002)] Zvi rfl rfl rfl rfl rfl rfl rfl (hn1) ?_
  | refine AWL.cM (f := 153) [(0, 0), (1002, 1002)] Zvh rfl rfl rfl rfl rfl rfl rfl (hby) ?_
  | refine AWL.frzG rfl rfl rfl ?_
  | refine AWL.cC (f := 172) ZAp rfl rfl rfl rfl rfl rfl (hsp) ?_
 all_goals (apply_rules (newGoals := .nonDependentOnly) only [dep]; exact ())) : p := h
theorem ZkB.att {p : Prop} (h : p := by
 first
  | (first | refine AT.step (L := (bA 12 255)) [8] (by decide +kernel) (by decide) (Za8 ⟨_, (bA 12 511), rfl, (by decide +kernel), ?_⟩) | (refine AT.takeN (L := (bA 12 511)) (L' := (bA 12 1023)) 9 rfl rfl rfl rfl rfl rfl Zda (by decide +kernel) (by decide +kernel) ?_; (try refine' Zi)) | (refine AT.takeF (L := (bA 12 1023)) (L' := (bA 12 2047)) 10 rfl rfl rfl rfl rfl rfl rfl rfl Zda (by decide +kernel) (by decide +kernel) ?_; (try refine' Zi)) | refine AT.step (L := (bA 12 2047)) [11] (by decide +kernel) (by decide) (Za8 ⟨_, (bA 12 4095), rfl, (by decide +kernel), ?_⟩) | refine AT.done (L := (bA 12 4095)) (by decide +kernel) ?_)
 all_goals (apply_rules (newGoals := .nonDependentOnly) only [dep]; exact ())) : p := h
theorem ZkB.att2 {p : Prop} (h : p := by
 first
  | (first | (refine AT.takeM (L := (bA 12 0)) (L' := (bA 12 1)) 0 rfl rfl rfl rfl rfl Zda (by decide +kernel) (by decide +kernel) ?_; (try refine' Zi)) | (refine AT.takeM (L := (bA 12 1)) (L' := (bA 12 3)) 1 rfl rfl rfl rfl rfl Zda (by decide +kernel) (by decide +kernel) ?_; (try refine' Zi)) | (refine AT.takeN (L := (bA 12 3)) (L' := (bA 12 7)) 2 rfl rfl rfl rfl rfl rfl Zda (by decide +kernel) (by decide +kernel) ?_; (try refine' Zi)) | (refine AT.takeF (L := (bA 12 7)) (L' := (bA 12 15)) 3 rfl rfl rfl rfl rfl rfl rfl rfl Zda (by decide +kernel) (by decide +kernel) ?_; (try refine' Zi)) | (refine AT.takeM (L := (bA 12 15)) (L' := (bA 12 47)) 5 rfl rfl rfl rfl rfl Zda (by decide +kernel) (by decide +kernel) ?_; (try refine' Zi)) | refine AT.step (L := (bA 12 47)) [4, 6] (by decide +kernel) (by decide) (ZfM ⟨_, (bA 12 63), rfl, (by decide +kernel), ?_⟩ ⟨_, (bA 12 111), rfl, (by decide +kernel), ?_⟩) | refine AT.step (L := (bA 12 111)) [4, 7] (by decide +kernel) (by decide) (ZfM ⟨_, (bA 12 127), rfl, (by decide +kernel), ?_⟩ ⟨_, (bA 12 239), rfl, (by decide +kernel), ?_⟩) | refine AT.step (L := (bA 12 239)) [4] (by decide +kernel) (by decide) (Za8 ⟨_, (bA 12 255), rfl, (by decide +kernel), ?_⟩) | refine AT.step (L := (bA 12 127)) [7] (by decide +kernel) (by decide) (Za8 ⟨_, (bA 12 255), rfl, (by decide +kernel), ?_⟩) | refine AT.step (L := (bA 12 63)) [6] (by decide +kernel) (by decide) (Za8 ⟨_, (bA 12 127), rfl, (by decide +kernel), ?_⟩))
 all_goals (apply_rules (newGoals := .nonDependentOnly) only [dep]; exact ())) : p := h
theorem ZkB.sd {p : Prop} (h : p := by first | exact ZoM | exact Zvv) : p := h
open ZkB Znp in
theorem Zmc (b : List Int) (hb : bytes b) (hlen : b.length <= 1000000000) (r : Rd) (hr : Zb6 b r) (i : Ins) (hil : i.l = []) :
 AM Tryz.prog 157 [.ptr 0 0, .ptr 1 0, .int .i64 4] (rdM 0 1002 b r ++ inM 1 2005 i) [0, 1] (fun v m => v = .tup [] /\ m = rdM 0 1002 b (Zn b 4 r i).2 ++ inM 1 2005 (Zn b 4 r i).1) := by
 obtain ⟨io, ia, ib, il, ih, ill⟩ := i
 simp only at hil
 subst hil
 obtain ⟨A, hA⟩ : ∃ A, Zn b 4 r ⟨io, ia, ib, il, ih, []⟩ = A := ⟨_, rfl⟩
 rw [hA]
 unfold Zn at hA
 rw [if_neg (by decide), if_neg (by decide), if_pos rfl] at hA
 have hn1 := ZbI b hb hlen r hr
 have hr1 := ZeJ hb hr
 generalize Zab b r = z at hA hn1 hr1
 obtain ⟨n, r1⟩ := z
 simp only at hA hr1
 obtain ⟨hr1, hn0, hnb⟩ := hr1
 obtain ⟨N, rfl⟩ : ∃ N : Nat, n = N := ⟨n.toNat, by omega⟩
 rw [Yap] at hA
 unfold rdM inM at *
 refine AM.enter Tryz.func157 rfl (Yaa rfl) (fun pn => ?_)
 simp only [Tryz.f157]
 have nx := aI @List.length_nil.{0} trivial
 refine' Ze5
 refine AW.loop [0, 1, 6] [0, 1002, 1, 2005] (fun m st => ∃ (k : Nat) (r' : Rd) (l : List Int), st = TB pn b r' io ia ib il ih l k /\ Zb6 b r' /\ ZgD b N r1 [] = ZgD b k r' l /\ l.length <= r'.pos + (if r'.err = 0 then 0 else 1) /\ k = m /\ k <= N) ?_ ?_
 ·exact ⟨_, N, r1, [], rfl, hr1, rfl, by have := hr1.p0; show ((0 : Nat) : Int) <= _; split <;> omega, rfl, Nat.le_refl _⟩
 rintro m st ⟨k, r', l, rfl, hr', ht, hll, rfl, hkN⟩
 have hp1 := hr'.p1
 have hl2 : l.length <= 1000000001 := by split at hll <;> omega
 by_cases hgo : 0 < k /\ r'.err = 0
 ·obtain ⟨hk, he⟩ := hgo
  obtain ⟨p', o', j', e'⟩ := r'
  obtain rfl : e' = 0 := he
  obtain ⟨k', rfl⟩ : ∃ k', k = k' + 1 := ⟨k - 1, by omega⟩
  have e5 : IntKind.i64.wrap (((k' + 1 : Nat) : Int) - 1) = (k' : Int) := by rw [Zb _ (by omega) (by omega)]; omega
  have hn1 := ZbI b hb hlen _ hr'
  have hr2 := (ZeJ hb hr').1
  have hps := ZwB hb hr' rfl
  rw [ZgD, if_pos rfl] at ht
  rw [if_pos rfl] at hll
  have hll2 : (l.length : Int) <= p' + 0 := hll
  have hps2 : p' + (if (Zab b ⟨p', o', j', 0⟩).2.err = 0 then 1 else 0) <= (Zab b ⟨p', o', j', 0⟩).2.pos := hps
  clear hll hps
  unfold rdM at hn1
  generalize Zab b ⟨p', o', j', 0⟩ = z at hn1 hr2 hps2 ht
  obtain ⟨x, r2⟩ := z
  simp only at hr2 hps2 ht
  have hla : (l ++ [x]).length = l.length + 1 := by simp
  have hgz : (((k' + 1 : Nat) : Int) > 0) := by omega
  have nx := trivial
  refine' ZvK
  refine AW.drawT (L0 := (bA 12 0)) (by decide +kernel) ZfU ?_
  refine AT.via (bA 12 255) 4 (TB7 pn b r2 io ia ib il ih l (k' + 1) x) ?_ (fun hmid => ?_)
  ·skip --POST
   have nx := aI @Yau.{0} trivial
   refine' Zkp
   (repeat (first | refine QEq.mp (by assumption) ?_ | simp only [Zb1, Go.Abs.blockQ, ↓reduceIte, Nat.reduceEqDiff]))
   have nx := aI @e5 trivial
   refine' Zkp
   all_goals first
    | exact ⟨k', by omega, k', r2, l ++ [x], by rw [TB, hla]; rfl, hr2, ht, by rw [hla]; split at hps2 <;> split <;> omega, rfl, by omega⟩
  have nx := trivial
  refine' ZkA
  all_goals
   refine AT.keep [0, 1, 6, 41, 45, 48] [0, 1002, 1, 2005, 48] ?_
   first
    | exact hmid
 ·have ht2 : ZgD b N r1 [] = (l, r') := by
   rw [ht]
   cases k with
   | zero => rfl
   | succ k => rw [ZgD, if_neg (fun h => hgo ⟨Nat.succ_pos _, h⟩)]
  rw [ht2] at hA
  subst hA
  have hn1 := ZbI b hb hlen r' hr'
  unfold rdM at hn1
  obtain ⟨x, r2, e⟩ : ∃ x r2, Zab b r' = (x, r2) := ⟨_, _, rfl⟩
  rw [e] at hn1
  by_cases hk : 0 < k
  ·have he : ¬ r'.err = 0 := fun h => hgo ⟨hk, h⟩
   have nx := trivial
   refine' Ze5
   all_goals first | exact ⟨trivial, trivial⟩ | exact ⟨rfl, trivial⟩ | exact ⟨rfl, rfl⟩ | exact ⟨trivial, rfl⟩ | (rw [e]; exact ⟨trivial, rfl⟩) | (exfalso; omega) | trace_state
  ·have nx := trivial
   refine' Ze5
   all_goals first | exact ⟨trivial, trivial⟩ | exact ⟨rfl, trivial⟩ | exact ⟨rfl, rfl⟩ | exact ⟨trivial, rfl⟩ | (rw [e]; exact ⟨trivial, rfl⟩) | (exfalso; omega) | trace_state
end
end Go.Proofs.YtimhmpdfioihlaaGreatDoor
namespace Go.Proofs.YtimhmpdfioihlaaGreatDoor
set_option maxRecDepth 20000
open Go Go.Abs
theorem ZnI {b : List Int} (hb : bytes b) {r : Rd} (h : Zb6 b r) (he : r.err = 0) : Zab b r = if (Zar b r.pos).2 < 0 then (0, { r with err := 10 }) else ((Zar b r.pos).1, { r with pos := (Zar b r.pos).2 }) := by
 by_cases c : (ZaM b r.pos 32).2.2 = 0
 ·have := ZaO hb ⟨h.p0, h.p1⟩ c
  have h0 := h.p0
  have e : Zar b r.pos = ((ZaM b r.pos 32).1, (ZaM b r.pos 32).2.1) := if_neg (fun h => h c)
  rw [e, if_neg (show ¬ (ZaM b r.pos 32).2.1 < 0 by omega)]
  unfold Zab
  rw [if_neg (fun h => h he), if_neg (fun h => h c)]
 ·have e : Zar b r.pos = (0, -1) := if_pos c
  rw [e, if_pos (show (-1 : Int) < 0 by decide)]
  unfold Zab
  rw [if_neg (fun h => h he), if_pos c]
  unfold Z4; rw [if_pos he]
theorem ZkH {b : List Int} {op : Int} {r : Rd} (h : r.err ≠ 0) : Zdp b op r = (⟨op, 0, 0, 0, 0, []⟩, r) := if_neg h
theorem Zea {r : Rd} (h : r.err ≠ 0) (e : Int) : Z4 r e = r := if_neg h
theorem Zgu {b : List Int} {op : Int} {r : Rd} (h : r.err ≠ 0) : Zqh b op r = (⟨op, 0, 0, 0, 0, []⟩, r) := by
 have h1 : ZkR op r = r := by unfold ZkR; split <;> first | exact Zea h _ | rfl
 have h2 : ZkS op r = r := by unfold ZkS; split <;> first | exact Zea h _ | rfl
 rw [Zd4, h1, h2, ZkH h]
 unfold Zpi; simp only
 rw [if_neg (fun c => h c.1)]
theorem Zzr : (Zje.all fun r => decide (0 <= r.1 /\ r.2.1 <= 65023 /\ 1 <= r.2.2.1 /\ r.2.2.1 <= 14)) = true := by decide +kernel
theorem Zt7 {op : Int} (h : (ofS op).2 = true) : (0 <= op /\ op <= 65023) /\ 1 <= (ofS op).1.1 /\ (ofS op).1.1 <= 14 := by
 unfold ofS at *
 cases hf : Zd1 op Zje with
 | none => rw [hf] at h; cases h
 | some r =>
   have hm := Ztd hf
   have := of_decide_eq_true (Yat.1 Zzr r hm.1)
   simp only [Zl0]
   omega
theorem Zzs {op : Int} (h : flS op = true) : op <= 65023 := by
 have := (Zd3 op).1 h; omega
structure ZEp (b : List Int) (r : Rd) (q : Int × Int × Int) : Prop where
 bad : q.2.2 ≠ 0 -> (Zqh b (opS b r).1 (opS b r).2).2.err = q.2.2
 good : q.2.2 = 0 -> opS b r = (q.1, { r with pos := q.2.1 }) /\ flS q.1 = false /\ (ofS q.1).2 = true /\ r.pos < q.2.1 /\ q.2.1 <= b.length
theorem Zt8 {b : List Int} {r : Rd} (he : r.err = 0) {op p : Int} (ho : opS b r = (op, { r with pos := p })) (hp : r.pos < p /\ p <= b.length) : ZEp b r (Zzp op p) := by
 unfold Zzp
 by_cases hf : flS op = true
 ·rw [if_pos hf]
  refine ⟨fun _ => ?_, fun h => by cases h⟩
  rw [ho, Zd4]
  have h1 : ZkR op { r with pos := p } = { r with pos := p, err := 11 } := by unfold ZkR Z4; rw [if_pos hf]; exact if_pos he
  have h2 : ZkS op { r with pos := p, err := 11 } = { r with pos := p, err := 11 } := by
   unfold ZkS; split
   ·rfl
   ·exact Zea (by show (11 : Int) ≠ 0; decide) _
  rw [h1, h2, ZkH (by show (11 : Int) ≠ 0; decide)]
  unfold Zpi; simp only
  rw [if_neg (fun c => absurd c.1 (by decide))]
 ·rw [if_neg hf]
  have h1 : ZkR op { r with pos := p } = { r with pos := p } := by unfold ZkR; rw [if_neg hf]
  by_cases ho2 : (ofS op).2 = true
  ·rw [if_pos ho2]
   exact ⟨fun h => absurd rfl h, fun _ => ⟨ho, by simpa using hf, ho2, hp⟩⟩
  ·rw [if_neg ho2]
   refine ⟨fun _ => ?_, fun h => by cases h⟩
   have h2 : ZkS op { r with pos := p } = { r with pos := p, err := 10 } := by unfold ZkS Z4; rw [if_neg ho2]; exact if_pos he
   rw [ho, Zd4, h1, h2, ZkH (by show (10 : Int) ≠ 0; decide)]
   unfold Zpi; simp only
   rw [if_neg (fun c => absurd c.1 (by decide))]
theorem ZA9 {b : List Int} (hb : bytes b) {r : Rd} (h : Zb6 b r) (he : r.err = 0) : ZEp b r (Zc5 b r.pos) := by
 have h0 := h.p0
 have h1 := h.p1
 by_cases hp : r.pos >= b.length
 ·have hB : Z7 b r = (0, { r with err := 10 }) := by
   unfold Z7; rw [if_pos (.inr hp)]
   unfold Z4; rw [if_pos he]
  have hO : opS b r = (0, { r with err := 10 }) := by
   unfold opS; rw [hB]
   rw [if_neg (by show ¬ (0 : Int) = 253; decide), if_neg (by show ¬ (0 : Int) = 252; decide)]
  rw [show Zc5 b r.pos = (0, 0, 10) from if_pos hp]
  refine ⟨fun _ => ?_, fun h => by cases h⟩
  rw [hO, Zgu (by show (10 : Int) ≠ 0; decide)]
 ·have hB : Z7 b r = (b.getD r.pos.toNat 0, { r with pos := r.pos + 1 }) := by
   unfold Z7; rw [if_neg (fun h => h.elim (fun h => h he) hp)]
  have hk : Zb6 b { r with pos := r.pos + 1 } := ⟨by simp only; omega, by simp only; omega⟩
  have hN := ZnI hb hk he
  have hU := ZeU hb (p := r.pos + 1) ⟨by omega, by omega⟩
  unfold Zc5
  rw [if_neg hp]
  simp only at hN
  generalize hc : b.getD r.pos.toNat 0 = c at *
  by_cases c3 : c = 253
  ·subst c3
   have hO : opS b r = (64768 + (Zab b { r with pos := r.pos + 1 }).1, (Zab b { r with pos := r.pos + 1 }).2) := by unfold opS; rw [hB]; exact if_pos rfl
   rw [if_pos (.inr rfl)]
   by_cases hn : (Zar b (r.pos + 1)).2 < 0
   ·rw [if_pos hn] at hN ⊢
    refine ⟨fun _ => ?_, fun h => by cases h⟩
    rw [hO, hN, Zgu (by show (10 : Int) ≠ 0; decide)]
   ·rw [if_neg hn] at hN ⊢
    rw [if_neg (fun h => absurd h.1 (by decide))]
    rw [hN] at hO
    simp only at hO
    by_cases hbig : (Zar b (r.pos + 1)).1 > 255
    ·rw [if_pos (.inr hbig)]
     have hk := Zt8 he hO ⟨by omega, by omega⟩
     have hf : ¬ flS (64768 + (Zar b (r.pos + 1)).1) = true := fun h => by have := Zzs h; omega
     have ho : ¬ (ofS (64768 + (Zar b (r.pos + 1)).1)).2 = true := fun h => by have := Zt7 h; omega
     unfold Zzp at hk
     rw [if_neg hf, if_neg ho] at hk
     exact hk
    ·rw [if_neg (fun h => h.elim (by decide) hbig)]
     exact Zt8 he hO ⟨by omega, by omega⟩
  ·by_cases c2 : c = 252
   ·subst c2
    rw [if_pos (.inl rfl)]
    have hO : opS b r = (252, Z4 (if (Zab b { r with pos := r.pos + 1 }).1 <= 7 then Z4 (Zab b { r with pos := r.pos + 1 }).2 11 else (Zab b { r with pos := r.pos + 1 }).2) 10) := by unfold opS; rw [hB]; rfl
    by_cases hn : (Zar b (r.pos + 1)).2 < 0
    ·rw [if_pos hn] at hN ⊢
     refine ⟨fun _ => ?_, fun h => by cases h⟩
     rw [hN] at hO
     simp only at hO
     rw [if_pos (by decide), Zea (r := { r with pos := r.pos + 1, err := 10 }) (by show (10 : Int) ≠ 0; decide), Zea (r := { r with pos := r.pos + 1, err := 10 }) (by show (10 : Int) ≠ 0; decide)] at hO
     rw [hO, Zgu (by show (10 : Int) ≠ 0; decide)]
    ·rw [if_neg hn] at hN ⊢
     rw [hN] at hO
     simp only at hO
     by_cases h7 : (Zar b (r.pos + 1)).1 <= 7
     ·rw [if_pos ⟨rfl, h7⟩]
      refine ⟨fun _ => ?_, fun h => by cases h⟩
      rw [if_pos h7] at hO
      have e1 : Z4 { r with pos := (Zar b (r.pos + 1)).2 } 11 = { r with pos := (Zar b (r.pos + 1)).2, err := 11 } := if_pos he
      rw [e1, Zea (by show (11 : Int) ≠ 0; decide)] at hO
      rw [hO, Zgu (by show (11 : Int) ≠ 0; decide)]
     ·rw [if_neg (fun h => h7 h.2), if_pos (.inl rfl)]
      refine ⟨fun _ => ?_, fun h => by cases h⟩
      rw [if_neg h7] at hO
      have e1 : Z4 { r with pos := (Zar b (r.pos + 1)).2 } 10 = { r with pos := (Zar b (r.pos + 1)).2, err := 10 } := if_pos he
      rw [e1] at hO
      rw [hO, Zgu (by show (10 : Int) ≠ 0; decide)]
   ·rw [if_neg (fun h => h.elim c2 c3)]
    have hO : opS b r = (c, { r with pos := r.pos + 1 }) := by
     unfold opS; rw [hB]
     rw [if_neg c3, if_neg c2]
    exact Zt8 he hO ⟨by omega, by omega⟩
structure ZDy (b : List Int) (form : Int) (r : Rd) (i : Ins) (f : Ins × Int × Int) : Prop where
 bad : f.2.2 ≠ 0 -> (Zn b form r i).2.err = f.2.2
 good : f.2.2 = 0 -> Zn b form r i = (f.1, { r with pos := f.2.1 }) /\ r.pos <= f.2.1 /\ f.2.1 <= b.length
theorem ZcC {b : List Int} {form : Int} {r : Rd} {i i2 : Ins} {p : Int} (hneg : p < 0 -> (Zn b form r i).2.err = 10) (hpos : 0 <= p -> Zn b form r i = (i2, { r with pos := p }) /\ r.pos <= p /\ p <= b.length) : ZDy b form r i (ZbE i2 p) := by
 unfold ZbE
 by_cases h : p < 0
 ·rw [if_pos h]
  exact ⟨fun _ => hneg h, fun h => by cases h⟩
 ·rw [if_neg h]
  exact ⟨fun h => absurd rfl h, fun _ => hpos (by omega)⟩
theorem Zzt {b : List Int} {r : Rd} (h : Zb6 b r) (he : r.err = 0) : ((Zmm b r.pos).2.2 ≠ 0 -> (Zfr b r).2.err = (Zmm b r.pos).2.2) /\ ((Zmm b r.pos).2.2 = 0 -> Zfr b r = ((Zmm b r.pos).1, { r with pos := (Zmm b r.pos).2.1 }) /\ r.pos <= (Zmm b r.pos).2.1 /\ (Zmm b r.pos).2.1 <= b.length) := by
 have h0 := h.p0
 have h1 := h.p1
 have hN : ((Zad b r.pos 33).2.2 ≠ 0 \/ (Zad b r.pos 33).1 < 0 -> (ZiT b r).2.err = 10) /\ (¬((Zad b r.pos 33).2.2 ≠ 0 \/ (Zad b r.pos 33).1 < 0) -> ZiT b r = ((Zad b r.pos 33).1, { r with pos := (Zad b r.pos 33).2.1 }) /\ r.pos <= (Zad b r.pos 33).2.1 /\ (Zad b r.pos 33).2.1 <= b.length) := by
  unfold ZiT
  by_cases c : (Zad b r.pos 33).2.2 ≠ 0
  ·have e : Zfd b 33 r = (0, { r with err := 10 }) := by unfold Zfd; rw [if_neg (fun h => h he), if_pos c]; unfold Z4; rw [if_pos he]
   rw [e]
   exact ⟨fun _ => rfl, fun h => absurd (.inl c) h⟩
  ·have e : Zfd b 33 r = ((Zad b r.pos 33).1, { r with pos := (Zad b r.pos 33).2.1 }) := by unfold Zfd; rw [if_neg (fun h => h he), if_neg c]
   have hp := Zgk (n := 33) ⟨by decide, by decide⟩ ⟨h0, h1⟩ (Classical.not_not.1 c)
   rw [e]
   by_cases c2 : (Zad b r.pos 33).1 < 0
   ·refine ⟨fun _ => ?_, fun h => absurd (.inr c2) h⟩
    simp only; rw [if_pos c2]; unfold Z4; rw [if_pos he]
   ·refine ⟨fun h => absurd h (fun h => h.elim c c2), fun _ => ?_⟩
    simp only; rw [if_neg c2]; exact ⟨rfl, by omega, by omega⟩
 unfold Zmm Zfr
 by_cases hp : r.pos < b.length
 ·rw [if_pos hp]
  by_cases c1 : Zeh (b.getD r.pos.toNat 0)
  ·have c2 : ¬ Zg3 (b.getD r.pos.toNat 0) := by unfold Zeh at c1; unfold Zg3; omega
   rw [if_pos ⟨hp, c1⟩, if_neg c2, if_pos c1]
   exact ⟨fun _ => by unfold Z4; rw [if_pos he], fun h => by cases h⟩
  ·rw [if_neg (fun h => c1 h.2)]
   by_cases c2 : Zg3 (b.getD r.pos.toNat 0)
   ·rw [if_pos ⟨hp, c2⟩, if_pos c2]
    exact ⟨fun h => absurd rfl h, fun _ => ⟨rfl, by simp only; omega, by simp only; omega⟩⟩
   ·rw [if_neg (fun h => c2 h.2), if_neg c2, if_neg c1]
    by_cases c3 : (Zad b r.pos 33).2.2 ≠ 0 \/ (Zad b r.pos 33).1 < 0
    ·rw [if_pos c3]; exact ⟨fun _ => hN.1 c3, fun h => by cases h⟩
    ·rw [if_neg c3]; exact ⟨fun h => absurd rfl h, fun _ => hN.2 c3⟩
 ·rw [if_neg hp, if_neg (fun h => hp h.1), if_neg (fun h => hp h.1)]
  by_cases c3 : (Zad b r.pos 33).2.2 ≠ 0 \/ (Zad b r.pos 33).1 < 0
  ·rw [if_pos c3]; exact ⟨fun _ => hN.1 c3, fun h => by cases h⟩
  ·rw [if_neg c3]; exact ⟨fun h => absurd rfl h, fun _ => hN.2 c3⟩
theorem ZdC {b : List Int} {r : Rd} (he : r.err = 0) (hp : r.pos < b.length) : Z7 b r = (b.getD r.pos.toNat 0, { r with pos := r.pos + 1 }) := by
 unfold Z7; rw [if_neg (fun h => h.elim (fun h => h he) (by omega))]
theorem Zgv {b : List Int} {r : Rd} (he : r.err = 0) (hp : r.pos >= b.length) : Z7 b r = (0, { r with err := 10 }) := by
 unfold Z7; rw [if_pos (.inr hp)]; unfold Z4; rw [if_pos he]
theorem Zpw {b : List Int} {r : Rd} (he : r.err ≠ 0) : (Z7 b r).2 = r := by
 unfold Z7; rw [if_pos (.inl he)]; exact Zea he _
theorem Zt9 {b : List Int} : ∀ (n : Nat) {r : Rd}, r.err ≠ 0 -> (ZfL b n r).2 = r
 | 0, _, _ => rfl
 | n + 1, r, he => by rw [ZfL]; simp only; rw [Zpw he, Zt9 n he]
theorem Zua {b : List Int} : ∀ (n : Nat) {r : Rd}, Zb6 b r -> r.err = 0 -> ((b.length : Int) - r.pos < n -> (ZfL b n r).2.err = 10) /\ (¬ (b.length : Int) - r.pos < n -> ZfL b n r = ((b.drop r.pos.toNat).take n, { r with pos := r.pos + n }))
 | 0, r, h, he => by
   have := h.p1
   exact ⟨fun h => by omega, fun _ => by rw [ZfL]; simp⟩
 | n + 1, r, h, he => by
   have h0 := h.p0
   have h1 := h.p1
   rw [ZfL]
   by_cases hp : r.pos < b.length
   ·rw [ZdC he hp]
    obtain ⟨ih1, ih2⟩ := Zua n (b := b) (r := { r with pos := r.pos + 1 }) ⟨by simp only; omega, by simp only; omega⟩ he
    simp only at ih1 ih2 ⊢
    refine ⟨fun hl => ih1 (by omega), fun hl => ?_⟩
    rw [ih2 (by omega), Zcq (l := b) (k := r.pos.toNat) (by omega), List.take_succ_cons, show (r.pos + 1).toNat = r.pos.toNat + 1 by omega, show r.pos + ((n + 1 : Nat) : Int) = r.pos + 1 + n by omega]
   ·rw [Zgv he (by omega)]
    refine ⟨fun _ => ?_, fun hl => by omega⟩
    simp only
    rw [Zt9 n (by show (10 : Int) ≠ 0; decide)]
theorem Zyt {b : List Int} (hb : bytes b) : ∀ (n : Nat) {r : Rd} {l : List Int}, Zb6 b r -> r.err = 0 -> ((tbR b n r.pos l).2 < 0 -> (ZgD b n r l).2.err = 10) /\ (0 <= (tbR b n r.pos l).2 -> ZgD b n r l = ((tbR b n r.pos l).1, { r with pos := (tbR b n r.pos l).2 }) /\ r.pos <= (tbR b n r.pos l).2 /\ (tbR b n r.pos l).2 <= b.length)
 | 0, r, l, h, he => by
   have h0 := h.p0
   have h1 := h.p1
   rw [tbR, ZgD]
   exact ⟨fun h => by simp only at h; omega, fun _ => ⟨rfl, Int.le_refl _, h1⟩⟩
 | n + 1, r, l, h, he => by
   have h0 := h.p0
   have h1 := h.p1
   have hN := ZnI hb h he
   have hU := ZeU hb (p := r.pos) ⟨h0, h1⟩
   rw [tbR, ZgD, if_pos h0, if_pos he]
   by_cases hn : (Zar b r.pos).2 < 0
   ·rw [if_pos hn] at hN
    rw [hN]
    have e1 : tbR b n (Zar b r.pos).2 (l ++ [(Zar b r.pos).1]) = (l ++ [(Zar b r.pos).1], (Zar b r.pos).2) := by
     cases n with
     | zero => rfl
     | succ n => rw [tbR, if_neg (by omega)]
    have e2 : ZgD b n { r with err := 10 } (l ++ [0]) = (l ++ [0], { r with err := 10 }) := by
     cases n with
     | zero => rfl
     | succ n => rw [ZgD, if_neg (by show ¬ (10 : Int) = 0; decide)]
    rw [e1, e2]
    exact ⟨fun _ => rfl, fun h => by simp only at h; omega⟩
   ·rw [if_neg hn] at hN
    rw [hN]
    have ih := Zyt hb n (b := b) (r := { r with pos := (Zar b r.pos).2 }) (l := l ++ [(Zar b r.pos).1]) ⟨by simp only; omega, by simp only; omega⟩ he
    simp only at ih ⊢
    exact ⟨ih.1, fun h => ⟨(ih.2 h).1, by have := (ih.2 h).2.1; omega, (ih.2 h).2.2⟩⟩
theorem ZnJ {b : List Int} (hb : bytes b) {r : Rd} {p : Int} {R : Rd} (hR : (p < 0 -> R.err = 10) /\ (0 <= p -> R = { r with pos := p } /\ p <= b.length)) (he : r.err = 0) :
 ((ZbF b p).2 < 0 -> (Zab b R).2.err = 10) /\ (0 <= (ZbF b p).2 -> 0 <= p /\ Zab b R = ((ZbF b p).1, { r with pos := (ZbF b p).2 }) /\ p <= (ZbF b p).2 /\ (ZbF b p).2 <= b.length) := by
 unfold ZbF
 by_cases h : p >= 0
 ·rw [if_pos h]
  obtain ⟨rfl, hp⟩ := hR.2 h
  have hk : Zb6 b { r with pos := p } := ⟨h, hp⟩
  have hN := ZnI hb hk he
  have hU := ZeU hb (p := p) ⟨h, hp⟩
  simp only at hN
  rw [hN]
  by_cases hn : (Zar b p).2 < 0
  ·rw [if_pos hn]
   exact ⟨fun _ => rfl, fun h => by omega⟩
  ·rw [if_neg hn]
   exact ⟨fun h => absurd h hn, fun _ => ⟨h, rfl, by omega, by omega⟩⟩
 ·rw [if_neg h]
  have h10 := hR.1 (by omega)
  rw [Zpg (by rw [h10]; decide)]
  exact ⟨fun _ => h10, fun h2 => absurd h2 (by simp only; omega)⟩
theorem Zzu {b : List Int} (hb : bytes b) {r : Rd} (h : Zb6 b r) (he : r.err = 0) : ((Zar b r.pos).2 < 0 -> (Zab b r).2.err = 10) /\ (0 <= (Zar b r.pos).2 -> Zab b r = ((Zar b r.pos).1, { r with pos := (Zar b r.pos).2 }) /\ r.pos <= (Zar b r.pos).2 /\ (Zar b r.pos).2 <= b.length) := by
 have h0 := h.p0
 have := ZnJ hb (r := r) (p := r.pos) (R := r) ⟨fun h => by omega, fun _ => ⟨rfl, h.p1⟩⟩ he
 unfold ZbF at this
 rw [if_pos h0] at this
 exact ⟨this.1, fun h => (this.2 h).2⟩
theorem Zyu {b : List Int} {r : Rd} {n : Int} (hn : 1 <= n /\ n <= 64) (h : Zb6 b r) (he : r.err = 0) : ((Zad b r.pos n).2.2 ≠ 0 -> (Zfd b n r).2.err = 10) /\ (¬ (Zad b r.pos n).2.2 ≠ 0 -> Zfd b n r = ((Zad b r.pos n).1, { r with pos := (Zad b r.pos n).2.1 }) /\ r.pos <= (Zad b r.pos n).2.1 /\ (Zad b r.pos n).2.1 <= b.length) := by
 unfold Zfd
 rw [if_neg (fun h => h he)]
 refine ⟨fun c => ?_, fun c => ?_⟩
 ·rw [if_pos c]; unfold Z4; rw [if_pos he]
 ·rw [if_neg c]
  have := Zgk hn ⟨h.p0, h.p1⟩ (Classical.not_not.1 c)
  exact ⟨rfl, by omega, by omega⟩
theorem Zub {b : List Int} (hb : bytes b) {r : Rd} (h : Zb6 b r) (he : r.err = 0) {form : Int} (hf : 1 <= form /\ form <= 14) (op : Int) : ZDy b form r ⟨op, 0, 0, 0, 0, []⟩ (Zjg b r.pos ⟨op, 0, 0, 0, 0, []⟩ form) := by
 have h0 := h.p0
 have h1 := h.p1
 have hn := Zzu hb h he
 have hn2 := ZnJ hb (r := r) (p := (Zar b r.pos).2) (R := (Zab b r).2) ⟨fun hh => hn.1 hh, fun hh => ⟨by rw [(hn.2 hh).1], (hn.2 hh).2.2⟩⟩ he
 have hcs : form = 1 \/ form = 2 \/ form = 3 \/ form = 4 \/ form = 5 \/ form = 6 \/ form = 7 \/ form = 8 \/ form = 9 \/ form = 10 \/ form = 11 \/ form = 12 \/ form = 13 \/ form = 14 := by omega
 have hA : ∀ p : Int, 0 <= p -> 0 <= (Zar b r.pos).2 -> (Zab b r) = ((Zar b r.pos).1, { r with pos := (Zar b r.pos).2 }) := fun _ _ hh => (hn.2 hh).1
 unfold Zjg
 rcases hcs with rfl | rfl | rfl | rfl | rfl | rfl | rfl | rfl | rfl | rfl | rfl | rfl | rfl | rfl
 ·rw [if_pos rfl]
  exact ⟨fun h => absurd rfl h, fun _ => ⟨rfl, Int.le_refl _, h1⟩⟩
 ·rw [if_neg (by decide), if_pos rfl]
  have hk := Zzt h he
  have e : Zn b 2 r ⟨op, 0, 0, 0, 0, []⟩ = (⟨op, (Zfr b r).1, 0, 0, 0, []⟩, (Zfr b r).2) := by unfold Zn; rw [if_pos rfl]
  refine ⟨fun hb => ?_, fun hg => ?_⟩
  ·rw [e]; exact hk.1 hb
  ·rw [e, (hk.2 hg).1]; exact ⟨rfl, (hk.2 hg).2⟩
 ·rw [if_neg (by decide), if_neg (by decide), if_neg (by decide), if_pos (by decide)]
  have e : Zn b 3 r ⟨op, 0, 0, 0, 0, []⟩ = (⟨op, (Zab b r).1, 0, 0, 0, []⟩, (Zab b r).2) := by unfold Zn; rw [if_neg (by decide), if_pos (by decide)]
  refine ZcC (fun hneg => ?_) (fun hpos => ?_)
  ·rw [e]; exact hn.1 hneg
  ·rw [e, (hn.2 hpos).1]; exact ⟨rfl, (hn.2 hpos).2⟩
 ·rw [if_neg (by decide), if_neg (by decide), if_pos rfl]
  have e : Zn b 4 r ⟨op, 0, 0, 0, 0, []⟩ = (⟨op, (Zab b (ZgD b (Zab b r).1.toNat (Zab b r).2 []).2).1, 0, 0, 0, (ZgD b (Zab b r).1.toNat (Zab b r).2 []).1⟩, (Zab b (ZgD b (Zab b r).1.toNat (Zab b r).2 []).2).2) := by
   unfold Zn; rw [if_neg (by decide), if_neg (by decide), if_pos rfl]
  by_cases hu : (Zar b r.pos).2 < 0
  ·have h10 := hn.1 hu
   have e2 : ∀ k, ZgD b k (Zab b r).2 [] = ([], (Zab b r).2) := fun k => by
    cases k with
    | zero => rfl
    | succ k => rw [ZgD, if_neg (by rw [h10]; decide)]
   have e3 : ∀ k, tbR b k (Zar b r.pos).2 [] = ([], (Zar b r.pos).2) := fun k => by
    cases k with
    | zero => rfl
    | succ k => rw [tbR, if_neg (by omega)]
   rw [e2, Zpg (by rw [h10]; decide)] at e
   rw [e3]
   unfold ZbF
   rw [if_neg (by simp only; omega)]
   refine ZcC (fun _ => ?_) (fun hpos => absurd hpos (by simp only; omega))
   rw [e]; exact h10
  ·have hg := hn.2 (by omega)
   rw [hg.1] at e
   simp only at e
   have ht := Zyt hb (Zar b r.pos).1.toNat (b := b) (r := { r with pos := (Zar b r.pos).2 }) (l := []) ⟨by simp only; omega, by simp only; omega⟩ he
   simp only at ht
   have hm := ZnJ hb (r := r) (p := (tbR b (Zar b r.pos).1.toNat (Zar b r.pos).2 []).2) (R := (ZgD b (Zar b r.pos).1.toNat { r with pos := (Zar b r.pos).2 } []).2) ⟨fun hh => ht.1 hh, fun hh => ⟨by rw [(ht.2 hh).1], (ht.2 hh).2.2⟩⟩ he
   refine ZcC (fun hneg => ?_) (fun hpos => ?_)
   ·rw [e]; exact hm.1 hneg
   ·have hm2 := hm.2 hpos
    rw [e, hm2.2.1, (ht.2 hm2.1).1]
    exact ⟨rfl, by have := (ht.2 hm2.1).2.1; have := hm2.2.2.1; have := hg.2.1; omega, hm2.2.2.2⟩
 ·rw [if_neg (by decide), if_neg (by decide), if_neg (by decide), if_pos (by decide)]
  have e : Zn b 5 r ⟨op, 0, 0, 0, 0, []⟩ = (⟨op, (Zab b r).1, 0, 0, 0, []⟩, (Zab b r).2) := by unfold Zn; rw [if_neg (by decide), if_pos (by decide)]
  refine ZcC (fun hneg => ?_) (fun hpos => ?_)
  ·rw [e]; exact hn.1 hneg
  ·rw [e, (hn.2 hpos).1]; exact ⟨rfl, (hn.2 hpos).2⟩
 ·rw [if_neg (by decide), if_neg (by decide), if_neg (by decide), if_neg (by decide), if_pos (by decide)]
  have e : Zn b 6 r ⟨op, 0, 0, 0, 0, []⟩ = (⟨op, (Zab b r).1, (Zab b (Zab b r).2).1, 0, 0, []⟩, (Zab b (Zab b r).2).2) := by unfold Zn; rw [if_neg (by decide), if_neg (by decide), if_neg (by decide), if_pos (by decide)]
  refine ZcC (fun hneg => ?_) (fun hpos => ?_)
  ·rw [e]; exact hn2.1 hneg
  ·have hg := hn2.2 hpos
   rw [e, hg.2.1, (hn.2 hg.1).1]; exact ⟨rfl, by have := (hn.2 hg.1).2.1; have := hg.2.2.1; omega, hg.2.2.2⟩
 ·rw [if_neg (by decide), if_neg (by decide), if_neg (by decide), if_neg (by decide), if_pos (by decide)]
  have e : Zn b 7 r ⟨op, 0, 0, 0, 0, []⟩ = (⟨op, (Zab b r).1, (Zab b (Zab b r).2).1, 0, 0, []⟩, (Zab b (Zab b r).2).2) := by unfold Zn; rw [if_neg (by decide), if_neg (by decide), if_neg (by decide), if_pos (by decide)]
  refine ZcC (fun hneg => ?_) (fun hpos => ?_)
  ·rw [e]; exact hn2.1 hneg
  ·have hg := hn2.2 hpos
   rw [e, hg.2.1, (hn.2 hg.1).1]; exact ⟨rfl, by have := (hn.2 hg.1).2.1; have := hg.2.2.1; omega, hg.2.2.2⟩
 ·rw [if_neg (by decide), if_neg (by decide), if_neg (by decide), if_neg (by decide), if_neg (by decide), if_pos rfl]
  have e : Zn b 8 r ⟨op, 0, 0, 0, 0, []⟩ = (⟨op, (Zab b r).1, (Zab b (Zab b r).2).1, (Z7 b (Zab b (Zab b r).2).2).1, 0, []⟩, (Z7 b (Zab b (Zab b r).2).2).2) := by unfold Zn; rw [if_neg (by decide), if_neg (by decide), if_neg (by decide), if_neg (by decide), if_pos rfl]
  by_cases hneg : (ZbF b (Zar b r.pos).2).2 < 0
  ·rw [if_neg (by omega), if_neg (by omega)]
   refine ZcC (fun _ => ?_) (fun hpos => absurd hpos (by omega))
   have h10 := hn2.1 hneg
   rw [e]; simp only
   rw [Zpw (by rw [h10]; decide)]; exact h10
  ·have hg := hn2.2 (by omega)
   rw [hg.2.1, (hn.2 hg.1).1] at e
   simp only at e
   by_cases hl : (ZbF b (Zar b r.pos).2).2 >= b.length
   ·rw [if_pos hl]
    refine ⟨fun _ => ?_, fun h => by cases h⟩
    rw [e, Zgv (by exact he) (by exact hl)]
   ·rw [if_neg hl, if_pos (by omega)]
    refine ZcC (fun hneg2 => by omega) (fun _ => ?_)
    rw [e, ZdC (by exact he) (by simp only; omega)]
    exact ⟨rfl, by have := (hn.2 hg.1).2.1; have := hg.2.2.1; omega, by omega⟩
 ·rw [if_neg (by decide), if_neg (by decide), if_neg (by decide), if_neg (by decide), if_neg (by decide), if_neg (by decide), if_pos rfl]
  have hs := Zyu (n := 32) ⟨by decide, by decide⟩ h he
  have e : Zn b 9 r ⟨op, 0, 0, 0, 0, []⟩ = (⟨op, 0, 0, (Zfd b 32 r).1 % 4294967296, 0, []⟩, (Zfd b 32 r).2) := by unfold Zn; rw [if_neg (by decide), if_neg (by decide), if_neg (by decide), if_neg (by decide), if_neg (by decide), if_pos rfl]
  by_cases c : (Zad b r.pos 32).2.2 ≠ 0
  ·rw [if_pos c]
   refine ZcC (fun _ => ?_) (fun hpos => absurd hpos (by decide))
   rw [e]; exact hs.1 c
  ·rw [if_neg c]
   have hg := hs.2 c
   refine ZcC (fun hneg => by omega) (fun _ => ?_)
   rw [e, hg.1]; exact ⟨rfl, hg.2⟩
 ·rw [if_neg (by decide), if_neg (by decide), if_neg (by decide), if_neg (by decide), if_neg (by decide), if_neg (by decide), if_neg (by decide), if_pos rfl]
  have hs := Zyu (n := 64) ⟨by decide, by decide⟩ h he
  have e : Zn b 10 r ⟨op, 0, 0, 0, 0, []⟩ = (⟨op, 0, 0, (Zfd b 64 r).1 % 18446744073709551616, 0, []⟩, (Zfd b 64 r).2) := by unfold Zn; rw [if_neg (by decide), if_neg (by decide), if_neg (by decide), if_neg (by decide), if_neg (by decide), if_neg (by decide), if_pos rfl]
  by_cases c : (Zad b r.pos 64).2.2 ≠ 0
  ·rw [if_pos c]
   refine ZcC (fun _ => ?_) (fun hpos => absurd hpos (by decide))
   rw [e]; exact hs.1 c
  ·rw [if_neg c]
   have hg := hs.2 c
   refine ZcC (fun hneg => by omega) (fun _ => ?_)
   rw [e, hg.1]; exact ⟨rfl, hg.2⟩
 all_goals
  rw [if_neg (by decide), if_neg (by decide), if_neg (by decide), if_neg (by decide), if_neg (by decide), if_neg (by decide), if_neg (by decide), if_neg (by decide)]
  unfold Zpv
  have hrow := Zua 16 (b := b) h he
 ·rw [if_pos (by decide)]
  have e : Zn b 11 r ⟨op, 0, 0, 0, 0, []⟩ = (⟨op, 0, 0, lo (ZfL b 16 r).1, hi (ZfL b 16 r).1, []⟩, (ZfL b 16 r).2) := by unfold Zn; rw [if_neg (by decide), if_neg (by decide), if_neg (by decide), if_neg (by decide), if_neg (by decide), if_neg (by decide), if_neg (by decide), if_pos (by decide)]
  by_cases c : (b.length : Int) - r.pos < 16
  ·rw [if_pos c]
   exact ⟨fun _ => by rw [e]; exact hrow.1 c, fun h => by cases h⟩
  ·rw [if_neg c]
   exact ⟨fun h => absurd rfl h, fun _ => by rw [e, hrow.2 c]; exact ⟨rfl, by simp only; omega, by simp only; omega⟩⟩
 ·rw [if_pos (by decide)]
  have e : Zn b 12 r ⟨op, 0, 0, 0, 0, []⟩ = (⟨op, 0, 0, lo (ZfL b 16 r).1, hi (ZfL b 16 r).1, []⟩, (ZfL b 16 r).2) := by unfold Zn; rw [if_neg (by decide), if_neg (by decide), if_neg (by decide), if_neg (by decide), if_neg (by decide), if_neg (by decide), if_neg (by decide), if_pos (by decide)]
  by_cases c : (b.length : Int) - r.pos < 16
  ·rw [if_pos c]
   exact ⟨fun _ => by rw [e]; exact hrow.1 c, fun h => by cases h⟩
  ·rw [if_neg c]
   exact ⟨fun h => absurd rfl h, fun _ => by rw [e, hrow.2 c]; exact ⟨rfl, by simp only; omega, by simp only; omega⟩⟩
 ·rw [if_neg (by decide)]
  have e : Zn b 13 r ⟨op, 0, 0, 0, 0, []⟩ = (⟨op, (Z7 b r).1, 0, 0, 0, []⟩, (Z7 b r).2) := by unfold Zn; rw [if_neg (by decide), if_neg (by decide), if_neg (by decide), if_neg (by decide), if_neg (by decide), if_neg (by decide), if_neg (by decide), if_neg (by decide), if_pos rfl]
  by_cases c : r.pos >= b.length
  ·rw [if_pos (.inl c)]
   exact ⟨fun _ => by rw [e, Zgv he c], fun h => by cases h⟩
  ·rw [if_neg (fun h => h.elim c (fun h => absurd h.1 (by decide))), if_pos rfl]
   exact ⟨fun h => absurd rfl h, fun _ => by rw [e, ZdC he (by omega)]; exact ⟨rfl, by simp only; omega, by simp only; omega⟩⟩
 ·rw [if_neg (by decide)]
  have e : Zn b 14 r ⟨op, 0, 0, 0, 0, []⟩ = (⟨op, 0, 0, 0, 0, []⟩, if (Z7 b r).1 ≠ 0 then Z4 (Z7 b r).2 10 else (Z7 b r).2) := by unfold Zn; rw [if_neg (by decide), if_neg (by decide), if_neg (by decide), if_neg (by decide), if_neg (by decide), if_neg (by decide), if_neg (by decide), if_neg (by decide), if_neg (by decide), if_pos rfl]
  by_cases c : r.pos >= b.length
  ·rw [if_pos (.inl c)]
   refine ⟨fun _ => ?_, fun h => by cases h⟩
   rw [e, Zgv he c]; rfl
  ·by_cases c0 : b.getD r.pos.toNat 0 = 0
   ·rw [if_neg (fun h => h.elim c (fun h => h.2 c0)), if_neg (by decide)]
    refine ⟨fun h => absurd rfl h, fun _ => ?_⟩
    rw [e, ZdC he (by omega)]
    simp only
    rw [if_neg (fun h => h c0)]
    exact ⟨rfl, by omega, by omega⟩
   ·rw [if_pos (.inr ⟨rfl, c0⟩)]
    refine ⟨fun _ => ?_, fun h => by cases h⟩
    rw [e, ZdC he (by omega)]
    simp only
    rw [if_pos c0]; unfold Z4; rw [if_pos he]
theorem Zeb {i : Ins} {p : Int} (h : (ZbE i p).2.2 = 0) : (ZbE i p).1 = i := by
 unfold ZbE at *; split
 ·rename_i c; rw [if_pos c] at h; cases h
 ·rfl
theorem Zzv {b : List Int} {p form : Int} {i : Ins} (h : (Zjg b p i form).2.2 = 0) : (Zjg b p i form).1.op = i.op := by
 unfold Zjg at *
 by_cases c1 : form = 1
 ·rw [if_pos c1]
 rw [if_neg c1] at h ⊢
 by_cases c2 : form = 2
 ·rw [if_pos c2]
 rw [if_neg c2] at h ⊢
 by_cases c3 : form = 4
 ·rw [if_pos c3] at h ⊢; rw [Zeb h]
 rw [if_neg c3] at h ⊢
 by_cases c4 : form = 3 \/ form = 5
 ·rw [if_pos c4] at h ⊢; rw [Zeb h]
 rw [if_neg c4] at h ⊢
 by_cases c5 : form = 6 \/ form = 7
 ·rw [if_pos c5] at h ⊢; rw [Zeb h]
 rw [if_neg c5] at h ⊢
 by_cases c6 : form = 8
 ·rw [if_pos c6] at h ⊢
  by_cases d1 : (ZbF b (Zar b p).2).2 >= b.length
  ·rw [if_pos d1]
  rw [if_neg d1] at h ⊢
  by_cases d2 : (ZbF b (Zar b p).2).2 >= 0
  ·rw [if_pos d2] at h ⊢; rw [Zeb h]
  ·rw [if_neg d2] at h ⊢; rw [Zeb h]
 rw [if_neg c6] at h ⊢
 by_cases c7 : form = 9
 ·rw [if_pos c7] at h ⊢; rw [Zeb h]
 rw [if_neg c7] at h ⊢
 by_cases c8 : form = 10
 ·rw [if_pos c8] at h ⊢; rw [Zeb h]
 rw [if_neg c8] at h ⊢
 unfold Zpv at *
 by_cases c9 : form = 11 \/ form = 12
 ·rw [if_pos c9] at h ⊢
  by_cases d1 : (b.length : Int) - p < 16
  ·rw [if_pos d1] at h; cases h
  ·rw [if_neg d1]
 rw [if_neg c9] at h ⊢
 by_cases d1 : p >= b.length \/ (form = 14 /\ b.getD p.toNat 0 ≠ 0)
 ·rw [if_pos d1] at h; cases h
 rw [if_neg d1]
 by_cases d2 : form = 13
 ·rw [if_pos d2]
 ·rw [if_neg d2]
theorem Zqv {b : List Int} (hb : bytes b) {r : Rd} (h : Zb6 b r) (he : r.err = 0) (hq : (Zc5 b r.pos).2.2 ≠ 0) : (ZaE b r).2.err = (Zc5 b r.pos).2.2 := (ZA9 hb h he).bad hq
theorem Zw3 {b : List Int} (hb : bytes b) {r : Rd} (h : Zb6 b r) (he : r.err = 0) (hq : (Zc5 b r.pos).2.2 = 0) :
 ZaE b r = Zpi (Zc5 b r.pos).1 (Zn b (ofS (Zc5 b r.pos).1).1.1 { r with pos := (Zc5 b r.pos).2.1 } ⟨(Zc5 b r.pos).1, 0, 0, 0, 0, []⟩) /\ ZDy b (ofS (Zc5 b r.pos).1).1.1 { r with pos := (Zc5 b r.pos).2.1 } ⟨(Zc5 b r.pos).1, 0, 0, 0, 0, []⟩ (Zjg b (Zc5 b r.pos).2.1 ⟨(Zc5 b r.pos).1, 0, 0, 0, 0, []⟩ (ofS (Zc5 b r.pos).1).1.1) /\ (0 <= (Zc5 b r.pos).1 /\ (Zc5 b r.pos).1 <= 65023) /\ r.pos < (Zc5 b r.pos).2.1 /\ (Zc5 b r.pos).2.1 <= b.length := by
 obtain ⟨e1, e2, e3, e4, e5⟩ := (ZA9 hb h he).good hq
 have h0 := h.p0
 have hf := Zt7 e3
 refine ⟨?_, Zub hb (r := { r with pos := (Zc5 b r.pos).2.1 }) ⟨by simp only; omega, e5⟩ he hf.2 _, hf.1, e4, e5⟩
 have e6 : ∀ r' : Rd, ZkR (Zc5 b r.pos).1 r' = r' := fun r' => by unfold ZkR; rw [e2]; rfl
 have e7 : ∀ r' : Rd, ZkS (Zc5 b r.pos).1 r' = r' := fun r' => by unfold ZkS; rw [if_pos e3]
 have e8 : ∀ r' : Rd, r'.err = 0 -> Zdp b (Zc5 b r.pos).1 r' = Zn b (ofS (Zc5 b r.pos).1).1.1 r' ⟨(Zc5 b r.pos).1, 0, 0, 0, 0, []⟩ := fun r' hr => if_pos hr
 rw [Zgl, e1, Zd4, e6, e7]
 simp only
 rw [e8 _ (by exact he)]
theorem Zw4 {op : Int} {p : Ins × Rd} (h : p.2.err ≠ 0) : (Zpi op p).2.err = p.2.err := by
 unfold Zpi; simp only; rw [if_neg (fun c => h c.1)]
def Rnd (b : List Int) (n : Nat) (l : List Ins) (o j : List Int) (A : List Ins × Int × Int) (op : Int) (i : Ins) (p2 : Int) : Prop :=
 ((op = 2 \/ op = 3 \/ op = 4) /\ o.length = 128 /\ A = ([], 0, 3)) \/
 ((op = 2 \/ op = 3 \/ op = 4) /\ o.length ≠ 128 /\ ZcB b n ⟨p2, o ++ [op], [], 0⟩ (l ++ [i]) = A) \/
 (op = 5 /\ o.length = 0 /\ A = ([], 0, 10)) \/
 (op = 5 /\ (o.length ≠ 0 /\ o.getD (o.length - 1) 0 ≠ 4) /\ A = ([], 0, 10)) \/
 (op = 5 /\ (o.length ≠ 0 /\ o.getD (o.length - 1) 0 = 4) /\ ZcB b n ⟨p2, o.take (o.length - 1) ++ [5], j, 0⟩ (l ++ [i]) = A) \/
 (op = 11 /\ o.length = 0 /\ A = (l ++ [i], p2, 0)) \/
 (op = 11 /\ o.length ≠ 0 /\ ZcB b n ⟨p2, o.take (o.length - 1), o.drop (o.length - 1) ++ j, 0⟩ (l ++ [i]) = A) \/
 ((op ≠ 2 /\ op ≠ 3 /\ op ≠ 4 /\ op ≠ 5 /\ op ≠ 11) /\ ZcB b n ⟨p2, o, j, 0⟩ (l ++ [i]) = A)
theorem Zqw {b : List Int} (hb : bytes b) {k : Int} {o j : List Int} {l : List Ins} {n : Nat} {A : List Ins × Int × Int} (h : Zb6 b ⟨k, o, j, 0⟩) (hL : ZcB b (n + 1) ⟨k, o, j, 0⟩ l = A) :
 ((Zc5 b k).2.2 ≠ 0 /\ A = ([], 0, (Zc5 b k).2.2)) \/ ((Zc5 b k).2.2 = 0 /\ (k < (Zc5 b k).2.1 /\ (Zc5 b k).2.1 <= b.length) /\ (0 <= (Zc5 b k).1 /\ (Zc5 b k).1 <= 65023) /\
   ∀ f, Zjg b (Zc5 b k).2.1 ⟨(Zc5 b k).1, 0, 0, 0, 0, []⟩ (ofS (Zc5 b k).1).1.1 = f -> (f.2.2 ≠ 0 /\ A = ([], 0, f.2.2)) \/ (f.2.2 = 0 /\ ((Zc5 b k).2.1 <= f.2.1 /\ f.2.1 <= b.length) /\ Rnd b n l o j A (Zc5 b k).1 f.1 f.2.1)) := by
 have hb1 := Zqv hb h rfl
 have hgo := Zw3 hb h rfl
 rw [ZcB] at hL
 generalize ZaE b ⟨k, o, j, 0⟩ = z at hb1 hgo hL
 obtain ⟨i0, r2⟩ := z
 simp only at hb1 hgo hL
 generalize Zc5 b k = q at *
 obtain ⟨op, p1, e1⟩ := q
 simp only at *
 by_cases hq : e1 ≠ 0
 ·left
  have h2 := hb1 hq
  rw [if_pos (by rw [h2]; exact hq), h2] at hL
  exact ⟨hq, hL.symm⟩
 ·right
  obtain rfl : e1 = 0 := Classical.not_not.1 hq
  obtain ⟨hz, ⟨hfb, hfg⟩, ho, hpa, hpb⟩ := hgo rfl
  refine ⟨rfl, ⟨hpa, hpb⟩, ho, ?_⟩
  rintro ⟨i, p2, e2⟩ hf
  have hiop := Zzv (b := b) (p := p1) (form := (ofS op).1.1) (i := ⟨op, 0, 0, 0, 0, []⟩)
  rw [hf] at hfb hfg hiop
  simp only at hfb hfg hiop ⊢
  by_cases hq2 : e2 ≠ 0
  ·left
   have h2 := hfb hq2
   have h3 : r2.err = e2 := by
    have := congrArg (fun z => z.2.err) hz
    simp only at this
    rw [this, Zw4 (by rw [h2]; exact hq2), h2]
   rw [if_pos (by rw [h3]; exact hq2), h3] at hL
   exact ⟨hq2, hL.symm⟩
  ·right
   obtain rfl : e2 = 0 := Classical.not_not.1 hq2
   obtain ⟨hfe, hp2⟩ := hfg rfl
   refine ⟨rfl, hp2, ?_⟩
   rw [hfe] at hz
   unfold Zpi at hz
   simp only [Yai, true_and] at hz
   obtain ⟨rfl, hz⟩ := hz
   have hop : i0.op = op := hiop rfl
   rw [hop] at hL
   unfold Rnd
   have hcs : (op = 2 \/ op = 3 \/ op = 4) \/ op = 5 \/ op = 11 \/ (op ≠ 2 /\ op ≠ 3 /\ op ≠ 4 /\ op ≠ 5 /\ op ≠ 11) := by omega
   rcases hcs with h2 | rfl | rfl | h2
   ·rw [if_pos (by omega)] at hz
    unfold ZbD at hz
    rw [if_pos (by omega)] at hz
    by_cases h128 : o.length = 128
    ·left
     rw [if_pos h128] at hz
     have : r2.err = 3 := by rw [hz]; rfl
     rw [if_pos (by rw [this]; decide), this] at hL
     exact ⟨h2, h128, hL.symm⟩
    ·right; left
     rw [if_neg h128] at hz
     have : r2.err = 0 := by rw [hz]
     rw [if_neg (fun h => h this), if_neg (by omega), hz] at hL
     exact ⟨h2, h128, hL⟩
   ·rw [if_pos (by decide)] at hz
    unfold ZbD at hz
    rw [if_neg (fun h => h rfl)] at hz
    simp only at hz
    by_cases h0 : o.length = 0
    ·rw [if_pos (.inl h0)] at hz
     have : r2.err = 10 := by rw [hz]; rfl
     rw [if_pos (by rw [this]; decide), this] at hL
     exact .inr (.inr (.inl ⟨rfl, h0, hL.symm⟩))
    ·by_cases h4 : o.getD (o.length - 1) 0 = 4
     ·rw [if_neg (fun h => h.elim h0 (fun h => h h4))] at hz
      have : r2.err = 0 := by rw [hz]
      rw [if_neg (fun h => h this), if_neg (by decide), hz] at hL
      exact .inr (.inr (.inr (.inr (.inl ⟨rfl, ⟨h0, h4⟩, hL⟩))))
     ·rw [if_pos (.inr h4)] at hz
      have : r2.err = 10 := by rw [hz]; rfl
      rw [if_pos (by rw [this]; decide), this] at hL
      exact .inr (.inr (.inr (.inl ⟨rfl, ⟨h0, h4⟩, hL.symm⟩)))
   ·rw [if_neg (by decide)] at hz
    have : r2.err = 0 := by rw [hz]
    rw [if_neg (fun h => h this), if_pos rfl, hz] at hL
    unfold Zdz at hL
    simp only at hL
    by_cases h0 : o.length = 0
    ·rw [if_pos h0] at hL
     simp only [↓reduceIte] at hL
     exact .inr (.inr (.inr (.inr (.inr (.inl ⟨rfl, h0, hL.symm⟩)))))
    ·rw [if_neg h0] at hL
     simp only [Bool.false_eq_true, ↓reduceIte] at hL
     exact .inr (.inr (.inr (.inr (.inr (.inr (.inl ⟨rfl, h0, hL⟩))))))
   ·rw [if_neg (by omega)] at hz
    have : r2.err = 0 := by rw [hz]
    rw [if_neg (fun h => h this), if_neg h2.2.2.2.2, hz] at hL
    exact .inr (.inr (.inr (.inr (.inr (.inr (.inr ⟨h2, hL⟩))))))
end Go.Proofs.YtimhmpdfioihlaaGreatDoor
namespace Go.Proofs.YtimhmpdfioihlaaGreatDoor
set_option maxRecDepth 20000
open Go Go.Abs Nat
attribute [local irreducible] AW AWL AC FW CW CWr IntKind.wrap
section
def zs (n : Nat) : List Int := List.replicate n 0
theorem Zty (v : List Int) (k : Nat) (hv : v.length = k) (hk : k < 16) (x : Int) : ZuR (v ++ zs (16 - k)) k x = (v ++ [x]) ++ zs (16 - (k + 1)) := by
 subst hv
 unfold ZuR zs
 rw [List.take_left, show 16 - v.length = 16 - (v.length + 1) + 1 by omega, List.replicate_succ, List.drop_append, Ya7 (by omega), show v.length + 1 - v.length = 1 by omega]
 simp
theorem Zph (b : List Int) : ∀ (n : Nat) (r : Rd), (ZfL b n r).1.length = n
 | 0, _ => rfl
 | n + 1, r => by rw [ZfL]; simp [Zph b n]
theorem ZjE {b : List Int} (hb : bytes b) : ∀ (n : Nat) (r : Rd), Zb6 b r -> bytes (ZfL b n r).1 /\ Zb6 b (ZfL b n r).2
 | 0, r, h => ⟨fun x hx => (by cases hx), h⟩
 | n + 1, r, h => by
   have ih := ZjE hb n (Z7 b r).2 (ZhP h)
   rw [ZfL]
   refine ⟨fun x hx => ?_, ih.2⟩
   rcases Yav.1 hx with rfl | hx
   ·exact Zfe hb h
   ·exact ih.1 x hx
theorem ZAX.NM : type_of% @MB.NM /\ type_of% @Zas /\ type_of% @TR.eq_1 :=
 ⟨MB.NM, @Zas, @TR.eq_1⟩
open ZAX
theorem Ztz.cl {p : Prop} (h : p := by
 first
  | refine AWL.cM (f := 153) [(0, 0), (1002, 1002)] Zvh rfl rfl rfl rfl rfl rfl rfl (hby) ?_
  | refine AWL.frzG rfl rfl rfl ?_
  | refine AWL.cC (f := 172) ZAp rfl rfl rfl rfl rfl rfl (hsp) ?_
 all_goals (apply_rules (newGoals := .nonDependentOnly) only [dep]; exact ())) : p := h
theorem Ztz.att {p : Prop} (h : p := by
 first
  | (first | (refine AT.takeM (L := (bA 12 0)) (L' := (bA 12 1)) 0 rfl rfl rfl rfl rfl Zda (by decide +kernel) (by decide +kernel) ?_; (try refine' Zi)) | (refine AT.takeM (L := (bA 12 1)) (L' := (bA 12 3)) 1 rfl rfl rfl rfl rfl Zda (by decide +kernel) (by decide +kernel) ?_; (try refine' Zi)) | (refine AT.takeF (L := (bA 12 3)) (L' := (bA 12 7)) 2 rfl rfl rfl rfl rfl rfl rfl rfl Zda (by decide +kernel) (by decide +kernel) ?_; (try refine' Zi)) | (refine AT.takeF (L := (bA 12 7)) (L' := (bA 12 23)) 4 rfl rfl rfl rfl rfl rfl rfl rfl Zda (by decide +kernel) (by decide +kernel) ?_; (try refine' Zi)) | refine AT.step (L := (bA 12 23)) [3, 5] (by decide +kernel) (by decide) (ZfM ⟨_, (bA 12 31), rfl, (by decide +kernel), ?_⟩ ⟨_, (bA 12 55), rfl, (by decide +kernel), ?_⟩) | refine AT.step (L := (bA 12 55)) [3] (by decide +kernel) (by decide) (Za8 ⟨_, (bA 12 63), rfl, (by decide +kernel), ?_⟩) | (refine AT.takeN (L := (bA 12 63)) (L' := (bA 12 127)) 6 rfl rfl rfl rfl rfl rfl Zda (by decide +kernel) (by decide +kernel) ?_; (try refine' Zi)) | (refine AT.takeF (L := (bA 12 127)) (L' := (bA 12 255)) 7 rfl rfl rfl rfl rfl rfl rfl rfl Zda (by decide +kernel) (by decide +kernel) ?_; (try refine' Zi)) | refine AT.step (L := (bA 12 255)) [8] (by decide +kernel) (by decide) (Za8 ⟨_, (bA 12 511), rfl, (by decide +kernel), ?_⟩) | (refine AT.takeN (L := (bA 12 511)) (L' := (bA 12 1023)) 9 rfl rfl rfl rfl rfl rfl Zda (by decide +kernel) (by decide +kernel) ?_; (try refine' Zi)) | (refine AT.takeF (L := (bA 12 1023)) (L' := (bA 12 2047)) 10 rfl rfl rfl rfl rfl rfl rfl rfl Zda (by decide +kernel) (by decide +kernel) ?_; (try refine' Zi)) | refine AT.step (L := (bA 12 2047)) [11] (by decide +kernel) (by decide) (Za8 ⟨_, (bA 12 4095), rfl, (by decide +kernel), ?_⟩) | refine AT.done (L := (bA 12 4095)) (by decide +kernel) ?_ | (refine AT.takeN (L := (bA 12 31)) (L' := (bA 12 95)) 6 rfl rfl rfl rfl rfl rfl Zda (by decide +kernel) (by decide +kernel) ?_; (try refine' Zi)) | (refine AT.takeF (L := (bA 12 95)) (L' := (bA 12 223)) 7 rfl rfl rfl rfl rfl rfl rfl rfl Zda (by decide +kernel) (by decide +kernel) ?_; (try refine' Zi)) | refine AT.step (L := (bA 12 223)) [5, 8] (by decide +kernel) (by decide) (ZfM ⟨_, (bA 12 255), rfl, (by decide +kernel), ?_⟩ ⟨_, (bA 12 479), rfl, (by decide +kernel), ?_⟩) | refine AT.step (L := (bA 12 479)) [5] (by decide +kernel) (by decide) (Za8 ⟨_, (bA 12 511), rfl, (by decide +kernel), ?_⟩))
 all_goals (apply_rules (newGoals := .nonDependentOnly) only [dep]; exact ())) : p := h
open Ztz Znp Zl in
theorem ZkC (b : List Int) (hb : bytes b) (hlen : b.length <= 1000000000) (r : Rd) (hr : Zb6 b r) (form : Int) (hf : form = 11 \/ form = 12) (i : Ins) :
 AM Tryz.prog 157 [.ptr 0 0, .ptr 1 0, .int .i64 form] (rdM 0 1002 b r ++ inM 1 2005 i) [0, 1] (fun v m => v = .tup [] /\ m = rdM 0 1002 b (Zn b form r i).2 ++ inM 1 2005 (Zn b form r i).1) := by
 obtain ⟨io, ia, ib, il, ih, ill⟩ := i
 obtain ⟨A, hA⟩ : ∃ A, Zn b form r ⟨io, ia, ib, il, ih, ill⟩ = A := ⟨_, rfl⟩
 rw [hA]
 unfold Zn at hA
 rw [if_neg (by omega), if_neg (by omega), if_neg (by omega), if_neg (by omega), if_neg (by omega), if_neg (by omega), if_neg (by omega), if_pos hf] at hA
 have hwl := Zph b 16 r
 have hwb := (ZjE hb 16 r hr).1
 obtain ⟨w, rr, hw⟩ : ∃ w rr, ZfL b 16 r = (w, rr) := ⟨_, _, rfl⟩
 rw [hw] at hA hwl hwb
 simp only at hA hwl hwb
 subst hA
 have hsp := ZwA w hwl hwb
 rcases hf with rfl | rfl
 all_goals
  unfold rdM inM at *
  refine AM.enter Tryz.func157 rfl (Yaa rfl) (fun pn => ?_)
  simp only [Tryz.f157]
  have nx := trivial
  refine' Ze5
  refine AW.loop [0, 1, 7, 99] [0, 1002, 1, 2005, 7] (fun m st => ∃ (k : Nat) (r' : Rd) (v : List Int), st = TR pn b r' io ia ib il ih ill (v ++ zs (16 - k)) k /\ Zb6 b r' /\ v.length = k /\ k <= 16 /\ (w, rr) = (v ++ (ZfL b (16 - k) r').1, (ZfL b (16 - k) r').2) /\ m = 16 - k) ?_ ?_
  ·exact ⟨_, 0, r, [], rfl, hr, rfl, Nat.zero_le _, hw.symm, rfl⟩
  rintro m st ⟨k, r', v, rfl, hr', hvl, hk, hv, rfl⟩
  by_cases hk16 : k < 16
  ·have e5 : IntKind.i64.wrap ((k : Int) + 1) = ((k + 1 : Nat) : Int) := Zb _ (by omega) (by omega)
   have hby := ZeK b hb hlen r' hr'
   have hx := Zfe hb hr'
   have hr2 := ZhP hr'
   rw [show 16 - k = 16 - (k + 1) + 1 by omega, ZfL] at hv
   unfold rdM at hby
   obtain ⟨x, r2, e⟩ : ∃ x r2, Z7 b r' = (x, r2) := ⟨_, _, rfl⟩
   rw [e] at hby hx hr2 hv
   simp only at hx hr2 hv
   have hset := Zty v k hvl hk16 x
   have ex : IntKind.u8.wrap x = x := ZaC rfl hx.1 (by have := hx.2; show _ < (256 : Int); omega)
   have hzl : (v ++ zs (16 - k)).length = 16 := by rw [Yal, hvl]; unfold zs; rw [List.length_replicate]; omega
   have nx := aI @e5 (aI @ex (aI @hset (aI @hzl trivial)))
   refine' Ze5
   all_goals first
    | exact ⟨16 - (k + 1), by omega, k + 1, r2, v ++ [x], rfl, hr2, by simp [hvl], by omega, by rw [hv]; simp, rfl⟩
  ·obtain rfl : k = 16 := by omega
   have hv2 : w = v /\ rr = r' := by
    simp only [Nat.sub_self, ZfL, List.append_nil, Yai] at hv; exact hv
   obtain ⟨rfl, rfl⟩ := hv2
   have hz0 : w ++ zs (16 - 16) = w := List.append_nil w
   rw [hz0]
   have nx := trivial
   refine' ZvP
   refine AW.drawT (L0 := (bA 12 0)) (by decide +kernel) ZfU ?_
   have nx := trivial
   refine' Zkp
   all_goals
    (repeat (first | refine QEq.mp (by assumption) ?_ | simp only [Zb1, Go.Abs.blockQ, ↓reduceIte, Nat.reduceEqDiff]))
    have nx := trivial
    refine' Ze5
    all_goals first | exact ⟨trivial, trivial⟩ | exact ⟨rfl, trivial⟩ | exact ⟨rfl, rfl⟩ | exact ⟨trivial, rfl⟩ | (exfalso; omega) | trace_state
end
section
def Zqy (k : Nat) : List V := [.int .i64 0, .int .i64 0, .int .i64 0, .int .u64 0, .int .u64 0, .ref k 0 0 1]
theorem Zmp (k : Nat) (t e : Int) : ZpV k [] (.tup [.agg (Zqy k), .int .i64 t, .int .i64 e]) = .tup [.agg (Zfy Zzq), .int .i64 t, .int .i64 e] := by
 simp [ZpV, Zqy, Zfy, Zzq, V.frz, V.wipe, Zh]
def ZDC (b : List Int) (p : Int) (i : Ins) (v : List Int) (k : Nat) : St := { n := 77, slots := [(0, .view b.length 1 (Zh .u8 b)), (1, .int .i64 p), (6, .ptr 6 0), (8, .ptr 8 0), (11, .ptr 11 0), (12, .int .i64 (k : Int))], mem := [(6, ⟨false, [.int .i64 i.op, .int .i64 i.a, .int .i64 i.b, .int .u64 i.lo, .int .u64 i.hi, .view i.l.length 1 (Zh .i64 i.l)]⟩), (8, ⟨false, [.int .i64 0, .int .i64 0, .int .i64 0, .int .u64 0, .int .u64 0, .ref 9005 0 0 1]⟩), (9005, ⟨true, []⟩), (11, ⟨true, Zh .u8 v⟩)] }
theorem ZFm.NM : type_of% @MB.NM /\ type_of% @Zas /\ type_of% @ZDC.eq_1 :=
 ⟨MB.NM, @Zas, @ZDC.eq_1⟩
open ZFm
theorem ZDD.kp : type_of% (@Zs [0, 1, 2, 4, 5, 6]) := @Zs [0, 1, 2, 4, 5, 6]
theorem ZBf.kp : type_of% (@Zs [0, 1, 2, 3, 6, 8, 9, 10, 11, 12, 13]) := @Zs [0, 1, 2, 3, 6, 8, 9, 10, 11, 12, 13]
theorem ZBf.cl {p : Prop} (h : p := by
 first
  | refine AWL.frzG rfl rfl rfl ?_
  | refine AWL.cC (f := 173) ZCH rfl rfl rfl rfl rfl rfl (hsp) ?_
 all_goals (apply_rules (newGoals := .nonDependentOnly) only [dep]; exact ())) : p := h
open ZDD ZFF Zl in
theorem Zw7 (i : Ins) (p : Int) : AC Tryz.prog 166 [.agg (Zfy i), .int .i64 p] (fun v m => (p < 0 /\ v = .tup [.agg (Zqy 5005), .int .i64 0, .int .i64 10] /\ m = [(5005, [])]) \/ (¬ p < 0 /\ v = .tup [.agg (Zfy i), .int .i64 p, .int .i64 0] /\ m = [])) := by
 unfold Zfy Zqy
 refine AC.enter Tryz.func166 rfl (Yaa rfl) ?_
 simp only [Tryz.f166]
 by_cases h : p < 0
 ·have nx := trivial
  refine' Zo0
  all_goals first | exact ⟨trivial, trivial⟩ | exact ⟨rfl, trivial⟩ | exact ⟨rfl, rfl⟩ | exact ⟨trivial, rfl⟩ | exact .inl ⟨h, trivial, trivial⟩ | (exfalso; omega) | trace_state
 ·have nx := trivial
  refine' Zo0
  all_goals first | exact ⟨trivial, trivial⟩ | exact ⟨rfl, trivial⟩ | exact ⟨rfl, rfl⟩ | exact ⟨trivial, rfl⟩ | exact .inr ⟨h, trivial, trivial⟩ | (exfalso; omega) | trace_state
theorem Zcg (i : Ins) (p : Int) : AC Tryz.prog 166 [.agg (Zfy i), .int .i64 p] (fun v m => v = .tup [.agg (Zfy (ZbE i p).1), .int .i64 (ZbE i p).2.1, .int .i64 (ZbE i p).2.2] /\ m = []) := by
 refine (Zw7 i p).out fun v m h => ?_
 rcases h with ⟨h0, rfl, rfl⟩ | ⟨h0, rfl, rfl⟩
 ·refine ⟨_, _, ⟨rfl, rfl⟩, fun S w w' u ho => ?_⟩
  have h2 := ho.frz
  rw [Zmp] at h2
  rw [show ZbE i p = (Zzq, 0, 10) from if_pos h0]; exact h2
 ·refine ⟨_, _, ⟨rfl, rfl⟩, fun S w w' u ho => ?_⟩
  rw [show ZbE i p = (i, p, 0) from if_neg h0]; exact ho
theorem Zqz (b : List Int) {p k : Nat} (h : p + k < b.length) : (b.drop p).take (k + 1) = (b.drop p).take k ++ [b.getD (p + k) 0] := by
 rw [List.take_add_one, Ya2, Yab h, Yah, Yab h]; rfl
open ZBf Zl in
theorem Zug (b : List Int) (hb : bytes b) (hlen : b.length <= 1000000000) (p : Nat) (hp : p <= b.length) (i : Ins) (form : Int) : AC Tryz.prog 167 [.view b.length 1 (Zh .u8 b), .int .i64 (p : Int), .agg (Zfy i), .int .i64 form] (fun v m => ((Zpv b p i form).2.2 ≠ 0 /\ Zpv b p i form = (Zzq, 0, 10) /\ v = .tup [.agg (Zqy 9005), .int .i64 0, .int .i64 10] /\ m = [(9005, [])]) \/ ((Zpv b p i form).2.2 = 0 /\ v = .tup [.agg (Zfy (Zpv b p i form).1), .int .i64 (Zpv b p i form).2.1, .int .i64 0] /\ m = [])) := by
 have hsp : True := trivial
 obtain ⟨A, hA⟩ : ∃ A, Zpv b p i form = A := ⟨_, rfl⟩
 rw [hA]
 unfold Zpv at hA
 rw [Yap] at hA
 unfold Zqy
 obtain ⟨io, ia, ib, il, ih, ill⟩ := i
 unfold Zfy
 refine AC.enter Tryz.func167 rfl (Yaa rfl) ?_
 simp only [Tryz.f167]
 have e1 : IntKind.i64.wrap ((b.length : Int) - p) = (b.length : Int) - p := Zb _ (by omega) (by omega)
 have e2 : IntKind.i64.wrap ((p : Int) + 16) = (p : Int) + 16 := Zb _ (by omega) (by omega)
 have e3 : IntKind.i64.wrap ((p : Int) + 1) = (p : Int) + 1 := Zb _ (by omega) (by omega)
 by_cases hf : form = 11 \/ form = 12
 ·rw [if_pos hf] at hA
  by_cases h16 : (b.length : Int) - p < 16
  ·rw [if_pos h16] at hA
   subst hA
   rcases hf with rfl | rfl
   all_goals
    have nx := aI @e1 trivial
    refine' ZcG
    all_goals first | exact ⟨trivial, trivial⟩ | exact ⟨rfl, trivial⟩ | exact ⟨rfl, rfl⟩ | exact ⟨trivial, rfl⟩ | exact .inl ⟨by decide, trivial, trivial, trivial⟩ | (exfalso; omega) | trace_state
  ·rw [if_neg h16] at hA
   have hwl : ((b.drop p).take 16).length = 16 := by rw [Yar, Yaw]; omega
   have hwb : bytes ((b.drop p).take 16) := Zbq (Zfc hb p) 16
   obtain ⟨w, hw⟩ : ∃ w, (b.drop p).take 16 = w := ⟨_, rfl⟩
   rw [hw] at hA hwl hwb
   subst hA
   have hsp := Zue w hwl hwb
   rcases hf with rfl | rfl
   all_goals
    have nx := aI @e1 trivial
    refine' ZcG
    refine AW.loop [0, 1, 6, 8, 11, 12] [6, 8, 9005, 11] (fun m st => ∃ (k : Nat), st = ZDC b p ⟨io, ia, ib, il, ih, ill⟩ ((b.drop p).take k ++ zs (16 - k)) k /\ k <= 16 /\ m = 16 - k) ?_ ?_
    ·exact ⟨_, 0, rfl, Nat.zero_le _, rfl⟩
    rintro m st ⟨k, rfl, hk, rfl⟩
    by_cases hk16 : k < 16
    ·have e5 : IntKind.i64.wrap ((k : Int) + 1) = ((k + 1 : Nat) : Int) := Zb _ (by omega) (by omega)
     have e6 : IntKind.i64.wrap ((p : Int) + k) = ((p + k : Nat) : Int) := Zb _ (by omega) (by omega)
     have hvl : ((b.drop p).take k).length = k := by rw [Yar, Yaw]; omega
     have hset := Zty ((b.drop p).take k) k hvl hk16 (b.getD (p + k) 0)
     rw [<- Zqz b (by omega)] at hset
     have hzl : ((b.drop p).take k ++ zs (16 - k)).length = 16 := by rw [Yal, hvl]; unfold zs; rw [List.length_replicate]; omega
     have nx := aI @e5 (aI @e6 (aI @hset (aI @hzl trivial)))
     refine' ZcG
     all_goals first
      | exact ⟨16 - (k + 1), by omega, k + 1, rfl, by omega, rfl⟩
    ·obtain rfl : k = 16 := by omega
     have hz0 : (b.drop p).take 16 ++ zs (16 - 16) = w := by rw [hw]; exact List.append_nil w
     rw [hz0]
     have nx := aI @e2 trivial
     refine' ZcG
     all_goals first | exact ⟨trivial, trivial⟩ | exact ⟨rfl, trivial⟩ | exact ⟨rfl, rfl⟩ | exact ⟨trivial, rfl⟩ | exact .inr ⟨trivial, trivial, trivial⟩ | (exfalso; omega) | trace_state
 ·rw [if_neg hf] at hA
  by_cases hpl : p < b.length
  ·have hx := hb _ (Z8 hpl)
   obtain ⟨c, hxc⟩ : ∃ c, b.getD p 0 = c := ⟨_, rfl⟩
   rw [hxc] at hA hx
   have hx1 := hx.1
   have hx2 := hx.2
   have ex : IntKind.i64.wrap c = c := Zb _ (by omega) (by omega)
   by_cases h14 : form = 14
   ·subst h14
    by_cases hc0 : c = 0
    ·rw [if_neg (fun h => h.elim (by omega) (fun h => h.2 hc0)), if_neg (by decide)] at hA
     subst hA
     have nx := aI @hxc (aI @ex (aI @e3 trivial))
     refine' ZcG
     all_goals first | exact ⟨trivial, trivial⟩ | exact ⟨rfl, trivial⟩ | exact ⟨rfl, rfl⟩ | exact ⟨trivial, rfl⟩ | exact .inr ⟨trivial, trivial, trivial⟩ | (exfalso; omega) | trace_state
    ·rw [if_pos (.inr ⟨rfl, hc0⟩)] at hA
     subst hA
     have nx := aI @hxc (aI @ex (aI @e3 trivial))
     refine' ZcG
     all_goals first | exact ⟨trivial, trivial⟩ | exact ⟨rfl, trivial⟩ | exact ⟨rfl, rfl⟩ | exact ⟨trivial, rfl⟩ | exact .inl ⟨by decide, trivial, trivial, trivial⟩ | (exfalso; omega) | trace_state
   ·rw [if_neg (fun h => h.elim (by omega) (fun h => h14 h.1))] at hA
    by_cases h13 : form = 13
    ·rw [if_pos h13] at hA
     subst h13 hA
     have nx := aI @hxc (aI @ex (aI @e3 trivial))
     refine' ZcG
     all_goals first | exact ⟨trivial, trivial⟩ | exact ⟨rfl, trivial⟩ | exact ⟨rfl, rfl⟩ | exact ⟨trivial, rfl⟩ | exact .inr ⟨trivial, trivial, trivial⟩ | (exfalso; omega) | trace_state
    ·rw [if_neg h13] at hA
     subst hA
     have nx := aI @hxc (aI @ex (aI @e3 trivial))
     refine' ZcG
     all_goals first | exact ⟨trivial, trivial⟩ | exact ⟨rfl, trivial⟩ | exact ⟨rfl, rfl⟩ | exact ⟨trivial, rfl⟩ | exact .inr ⟨trivial, trivial, trivial⟩ | (exfalso; omega) | trace_state
  ·rw [if_pos (.inl (by omega))] at hA
   subst hA
   have nx := trivial
   refine' ZcG
   all_goals first | exact ⟨trivial, trivial⟩ | exact ⟨rfl, trivial⟩ | exact ⟨rfl, rfl⟩ | exact ⟨trivial, rfl⟩ | exact .inl ⟨by decide, trivial, trivial, trivial⟩ | (exfalso; omega) | trace_state
theorem Zw8 (b : List Int) (hb : bytes b) (hlen : b.length <= 1000000000) (p : Nat) (hp : p <= b.length) (i : Ins) (form : Int) : AC Tryz.prog 167 [.view b.length 1 (Zh .u8 b), .int .i64 (p : Int), .agg (Zfy i), .int .i64 form] (fun v m => v = .tup [.agg (Zfy (Zpv b p i form).1), .int .i64 (Zpv b p i form).2.1, .int .i64 (Zpv b p i form).2.2] /\ m = []) := by
 refine (Zug b hb hlen p hp i form).out fun v m h => ?_
 rcases h with ⟨h0, h1, rfl, rfl⟩ | ⟨h0, rfl, rfl⟩
 ·refine ⟨_, _, ⟨rfl, rfl⟩, fun S w w' u ho => ?_⟩
  have h2 := ho.frz
  rw [Zmp] at h2
  rw [h1]; exact h2
 ·refine ⟨_, _, ⟨rfl, rfl⟩, fun S w w' u ho => ?_⟩
  rw [h0]; exact ho
end
end Go.Proofs.YtimhmpdfioihlaaGreatDoor
