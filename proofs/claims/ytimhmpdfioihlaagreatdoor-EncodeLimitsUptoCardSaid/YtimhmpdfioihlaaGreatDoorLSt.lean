/- Step lists of these texts. -/
import Derived.Test.YtimhmpdfioihlaaGreatDoorDP
set_option linter.unusedSimpArgs false
set_option linter.unusedVariables false
namespace Go.Abs
open Go Go.RowKit
theorem ln7c592 {p:Prop}(h:p:=by
 first
  |refine AWL.opN (sl:=SLm) rfl rfl rfl trivial ?_
  |fail
 all_goals(apply_rules (newGoals:= .nonDependentOnly) only[dep];exact())):p:=h
theorem ln15eb2 {p:Prop}(h:p:=by
 first
  |((with_reducible show ATS _ _ _ _ _ _ _);first|((refine ATS.take (L:= #[false,false,false,false,false,false,false,false,false,false,false,false]) (L':= #[true,false,false,false,false,false,false,false,false,false,false,false]) 0 rfl rfl rfl (Yd.field rfl rfl) rfl Zbt (by decide +kernel) rfl ?_)<;>(try refine' Zf))|((refine ATS.take (L:= #[true,false,false,false,false,false,false,false,false,false,false,false]) (L':= #[true,true,false,false,false,false,false,false,false,false,false,false]) 1 rfl rfl rfl (Yd.load rfl rfl ?_) rfl Zbt (by decide +kernel) rfl ?_)<;>(try refine' Zf))|((refine ATS.take (L:= #[true,true,false,false,false,false,false,false,false,false,false,false]) (L':= #[true,true,true,false,false,false,false,false,false,false,false,false]) 2 rfl rfl rfl (Yd.field rfl rfl) rfl Zbt (by decide +kernel) rfl ?_)<;>(try refine' Zf))|((refine ATS.take (L:= #[true,true,true,false,false,false,false,false,false,false,false,false]) (L':= #[true,true,true,true,false,false,false,false,false,false,false,false]) 3 rfl rfl rfl (Yd.load rfl rfl ?_) rfl Zbt (by decide +kernel) rfl ?_)<;>(try refine' Zf))|((refine ATS.take (L:= #[true,true,true,true,false,false,false,false,false,false,false,false]) (L':= #[true,true,true,true,true,false,false,false,false,false,false,false]) 4 rfl rfl rfl (Yd.index rfl rfl ?_) rfl Zbt (by decide +kernel) rfl ?_)<;>(try refine' Zf))|((refine ATS.take (L:= #[true,true,true,true,true,false,false,false,false,false,false,false]) (L':= #[true,true,true,true,true,true,false,false,false,false,false,false]) 5 rfl rfl rfl (Yd.field rfl rfl) rfl Zbt (by decide +kernel) rfl ?_)<;>(try refine' Zf))|refine ATS.go (L:= #[true,true,true,true,true,true,false,false,false,false,false,false]) ?_)
  |fail
 all_goals(apply_rules (newGoals:= .nonDependentOnly) only[dep];exact())):p:=h
theorem ln8cdfc {p:Prop}(h:p:=by
 first
  |((with_reducible show ATH _ _ _ _ _ _);first|refine ATH.step (L:= #[true,true,true,true,true,true,false,false,false,false,false,false]) [6,7] (by decide +kernel) (by decide) (Z8 ⟨_,#[true,true,true,true,true,true,true,false,false,false,false,false],rfl,rfl,?_⟩ ⟨_,#[true,true,true,true,true,true,false,true,false,false,false,false],rfl,rfl,?_⟩)|refine ATH.step (L:= #[true,true,true,true,true,true,false,true,false,false,false,false]) [6] (by decide +kernel) (by decide) (Zr ⟨_,#[true,true,true,true,true,true,true,true,false,false,false,false],rfl,rfl,?_⟩)|refine ATH.step (L:= #[true,true,true,true,true,true,true,true,false,false,false,false]) [8] (by decide +kernel) (by decide) (Zr ⟨_,#[true,true,true,true,true,true,true,true,true,false,false,false],rfl,rfl,?_⟩)|refine ATH.step (L:= #[true,true,true,true,true,true,true,true,true,false,false,false]) [9] (by decide +kernel) (by decide) (Zr ⟨_,#[true,true,true,true,true,true,true,true,true,true,false,false],rfl,rfl,?_⟩)|refine ATH.step (L:= #[true,true,true,true,true,true,true,true,true,true,false,false]) [10] (by decide +kernel) (by decide) (Zr ⟨_,#[true,true,true,true,true,true,true,true,true,true,true,false],rfl,rfl,?_⟩)|refine ATH.step (L:= #[true,true,true,true,true,true,true,true,true,true,true,false]) [11] (by decide +kernel) (by decide) (Zr ⟨_,#[true,true,true,true,true,true,true,true,true,true,true,true],rfl,rfl,?_⟩)|(refine ATH.done (L:= #[true,true,true,true,true,true,true,true,true,true,true,true]) (by decide +kernel) ?_;(repeat (first|refine QEq.mp (by assumption) ?_|refine' ZkY));(try(refine And.intro (by first|exact⟨rfl,rfl,trivial⟩|exact⟨rfl,trivial⟩|exact trivial) ?_;(repeat (first|refine QEq.mp (by assumption) ?_|refine' ZkY))));(try refine' Zf))|refine ATH.step (L:= #[true,true,true,true,true,true,true,false,false,false,false,false]) [7] (by decide +kernel) (by decide) (Zr ⟨_,#[true,true,true,true,true,true,true,true,false,false,false,false],rfl,rfl,?_⟩))
  |fail
 all_goals(apply_rules (newGoals:= .nonDependentOnly) only[dep];exact())):p:=h
theorem ln301a5 {p:Prop}(h:p:=by
 first
  |((with_reducible show True);exact trivial)|((with_reducible show ATQ _ _ _ _);show ATH _ _ _ _ _ _)
  |fail
 all_goals(apply_rules (newGoals:= .nonDependentOnly) only[dep];exact())):p:=h
theorem ln1f56f {p:Prop}(h:p:=by
 first
  |((show AW _ (.region 29 _ true) _ _);refine AW.drawS (L0:= #[false,false,false,false,false,false,false,false,false,false,false,false]) rfl Zjo rfl Zbt ?_;intro Qs hQs hPs;(try refine' Zf))
  |fail
 all_goals(apply_rules (newGoals:= .nonDependentOnly) only[dep];exact())):p:=h
theorem sd718782 {p:Prop}(h:p:=by first
 |(focus ((first|exact trivial|omega|(refine And.intro (by kernel_rfl) (And.intro ⟨_,(by first|exact nums_ints _ _|rfl),(by first|exact nums_ints _ _|rfl)⟩ (And.intro ?_ ?_))<;>(first|rfl|assumption|(simp only[Zb];omega)|omega))|(refine And.intro ?_ (And.intro ?_ ?_);(focus kernel_rfl);(focus kernel_rfl);(focus kernel_rfl))|assumption|refine' Zax|(simp only[ZH0,ZsA];omega)|(show _<=_;omega)|refine' Zao|refine' Zad|refine' Za8);done))
 |fail):p:=h
theorem st5d531f {p:Prop}(h:p:=by
 repeat' (first
  |refine' Zg
  |refine' Zl
  |((first
   |((with_reducible show AWL _ _ _ _ _);first|refine' ln7c592|(refine AWL.op (sl:=SLm) rfl rfl ?_ ?_)|refine AWL.pan rfl rfl rfl ⟨_,_,rfl⟩ ?_|(refine AWL.mkI rfl rfl rfl rfl rfl rfl (by kernel_rfl) ?_)|refine AWL.mkM rfl rfl rfl rfl ?_|refine' Zb2|refine AWL.guardU rfl rfl rfl rfl rfl rfl ?_|refine' cl)
   |((with_reducible show AW _ _ _ _);first|((show AW _ (.region _ _ false) _ _);refine AW.region ?_)))<;>(try refine' ZbK))
  |refine' Ze
  |((with_reducible show True);exact trivial)
  |refine' Z1
  |exact sd
  |fail)
 all_goals(try clear nx)
 all_goals(apply_rules (newGoals:= .nonDependentOnly) only[dep];exact())):p:=h
theorem st7a4cb3 {p:Prop}(h:p:=by
 repeat' (first
  |refine' Zg
  |refine' Zl
  |((first
   |refine' Zov
   |refine' ln15eb2
   |refine' ln8cdfc
   |((with_reducible show AW _ _ _ _);first|refine' Zgl|refine' ln1f56f))<;>(try refine' ZbK))
  |refine' Ze
  |refine' ln301a5
  |refine' Z1
  |exact sd
  |fail)
 all_goals(try clear nx)
 all_goals(apply_rules (newGoals:= .nonDependentOnly) only[dep];exact())):p:=h
theorem stdfc4f8 {p:Prop}(h:p:=by
 repeat' (first
  |refine' Zg
  |refine' Zl
  |((first
   |refine' Zov
   |refine' ln15eb2
   |refine' ln8cdfc
   |((with_reducible show AW _ _ _ _);first|((fail_if_success (show AW _ (.region 39 _ _) _ _));(show AW _ (.region _ _ false) _ _);refine kp ?_;refine AW.region ?_)|((fail_if_success (show AW _ (.region 39 _ _) _ _));(show AW _ (.region 29 _ true) _ _);refine AW.drawS (L0:= #[false,false,false,false,false,false,false,false,false,false,false,false]) rfl Zjo rfl Zbt ?_;intro Qs hQs hPs;(try refine' Zf))))<;>(try refine' ZbK))
  |refine' Ze
  |refine' ln301a5
  |refine' Z1
  |exact sd
  |fail)
 all_goals(try clear nx)
 all_goals(apply_rules (newGoals:= .nonDependentOnly) only[dep];exact())):p:=h
theorem st41b820 {p:Prop}(h:p:=by
 repeat' (first
  |refine' Zg
  |refine' Zl
  |((first
   |refine' Zov
   |refine' ln15eb2
   |refine' ln8cdfc
   |((with_reducible show AW _ _ _ _);first|((fail_if_success (show AW _ (.region 26 _ _) _ _));(show AW _ (.region _ _ false) _ _);refine kp ?_;refine AW.region ?_)|((fail_if_success (show AW _ (.region 26 _ _) _ _));(show AW _ (.region 29 _ true) _ _);refine AW.drawS (L0:= #[false,false,false,false,false,false,false,false,false,false,false,false]) rfl Zjo rfl Zbt ?_;intro Qs hQs hPs;(try refine' Zf))))<;>(try refine' ZbK))
  |refine' Ze
  |refine' ln301a5
  |refine' Z1
  |exact sd
  |fail)
 all_goals(try clear nx)
 all_goals(apply_rules (newGoals:= .nonDependentOnly) only[dep];exact())):p:=h
theorem stbd0616 {p:Prop}(h:p:=by
 repeat' (first
  |refine' Zg
  |refine' Zl
  |((first
   |refine' Zov
   |refine' ln15eb2
   |refine' ln8cdfc
   |((with_reducible show AW _ _ _ _);first|((fail_if_success (show AW _ (.region 29 _ _) _ _));(show AW _ (.region _ _ false) _ _);refine kp ?_;refine AW.region ?_)|((fail_if_success (show AW _ (.region 29 _ _) _ _));(show AW _ (.region 29 _ true) _ _);refine AW.drawS (L0:= #[false,false,false,false,false,false,false,false,false,false,false,false]) rfl Zjo rfl Zbt ?_;intro Qs hQs hPs;(try refine' Zf))))<;>(try refine' ZbK))
  |refine' Ze
  |refine' ln301a5
  |refine' Z1
  |exact sd
  |fail)
 all_goals(try clear nx)
 all_goals(apply_rules (newGoals:= .nonDependentOnly) only[dep];exact())):p:=h
theorem stb94d46 {p:Prop}(h:p:=by
 repeat' (first
  |refine' Zg
  |((with_reducible first|show AWL _ _ _ _ _|show AW _ _ _ _|show DQ _ _ _ _ _ _);(first|refine AWL.nil ?_|refine AW.skip ?_|refine AW.ret ?_|refine AW.exit ?_|refine DQ.nil ?_);(repeat (first|refine QEq.mp (by assumption) ?_|refine' ZkY)))
  |((first
   |refine' Zov
   |((with_reducible show DQ _ _ _ _ _ _);first|(refine DQ.op rfl rfl rfl rfl rfl ?_ ?_)|(refine DQ.step rfl rfl rfl rfl (Zdi.assign rfl) ?_)|(refine DQ.step rfl rfl rfl rfl (Zdi.call (f:=9) rfl ?_ rfl (ZjQ) (fun _ _ h=>h) (fun _=>rfl)) ?_;(focus kernel_rfl))|refine DQ.tail rfl ?_)
   |refine' ln15eb2
   |refine' ln8cdfc
   |((with_reducible show AW _ _ _ _);first|refine' Zgl|((show AW _ (.region _ _ true) _ _);refine kp ?_;refine AW.drawn true Zjo ?_ ?_;(focus kernel_rfl))|refine' ln1f56f)
   |(first|(refine DQ.yes rfl ?_ ?_)|(refine DQ.yesC (Zdi.call (f:=9) rfl ?_ rfl (ZjQ) (fun _ _ h=>h) (fun _=>rfl)) ?_;(focus kernel_rfl))))<;>(try refine' ZbK))
  |refine' Ze
  |refine' ln301a5
  |refine' Z1
  |exact sd
  |fail)
 all_goals(try clear nx)
 all_goals(apply_rules (newGoals:= .nonDependentOnly) only[dep];exact())):p:=h
theorem st51d952 {p:Prop}(h:p:=by
 repeat' (first
  |refine' Zg
  |refine' Zl
  |((first
   |refine' Zov
   |refine' ln15eb2
   |refine' ln8cdfc
   |((with_reducible show AW _ _ _ _);first|((fail_if_success (show AW _ (.region 36 _ _) _ _));(show AW _ (.region _ _ false) _ _);refine kp ?_;refine AW.region ?_)|((fail_if_success (show AW _ (.region 36 _ _) _ _));(show AW _ (.region 29 _ true) _ _);refine AW.drawS (L0:= #[false,false,false,false,false,false,false,false,false,false,false,false]) rfl Zjo rfl Zbt ?_;intro Qs hQs hPs;(try refine' Zf))))<;>(try refine' ZbK))
  |refine' Ze
  |refine' ln301a5
  |refine' Z1
  |exact sd
  |fail)
 all_goals(try clear nx)
 all_goals(apply_rules (newGoals:= .nonDependentOnly) only[dep];exact())):p:=h
end Go.Abs
