/- utf8.Valid, three bytes. -/
import Derived.Test.YtimhmpdfioihlaaGreatDoorDP
import Derived.Test.YtimhmpdfioihlaaGreatDoorGPreV
import Derived.Test.YtimhmpdfioihlaaGreatDoorGV6
import Derived.Test.YtimhmpdfioihlaaGreatDoorGCB
import Derived.Test.YtimhmpdfioihlaaGreatDoorMT6w0
set_option linter.unusedSimpArgs false
set_option linter.unusedVariables false
set_option maxHeartbeats 12800000
namespace Go.Proofs.YtimhmpdfioihlaaGreatDoor
set_option maxRecDepth 20000
open Go Go.Abs Nat
attribute [local irreducible] AW AWL AC FW CW CWr IntKind.wrap
section
theorem ZDp.NM:type_of% @MB.NM/\type_of% @S63.eq_1:=
 ⟨MB.NM,@S63.eq_1⟩
open ZDp
open ZuA ZuB in
theorem vwc:Znl.1.1:=by
 delta Znl
 dsimp only
 intro A Q2 hQ2 hP2 Q1 hQ1 hP1 Q0 hQ0 hP0 Qn hQn hPn c l hb hl hA hc hbl g0 g1 h128 x hx d1 hc0 hc1 hfl f1 hx3 hu
 have w0:True:=trivial
 have w1:True:=trivial
 have w2:True:=trivial
 have w3:True:=trivial
 have a7:IntKind.i64.wrap (Zt .and .u8 x 7)=3:=by rcases hx3 with rfl|rfl|rfl<;>first|exact a19|exact a3|exact a35
 have sx:0<=Int.fdiv x (2^min 4 IntKind.u8.bits)/\Int.fdiv x (2^min 4 IntKind.u8.bits)<((16:Nat):Int):=by rcases hx3 with rfl|rfl|rfl<;>exact⟨by decide,by decide⟩
 have dl:2<=(List.drop ((Int.fdiv x (2^min 4 IntKind.u8.bits)).toNat*2) (List.map (V.int .u8) Z5)).length:=by rcases hx3 with rfl|rfl|rfl<;>exact Yaa rfl
 have tx:List.take 2 (List.drop ((Int.fdiv x (2^min 4 IntKind.u8.bits)).toNat*2) (List.map (V.int .u8) Z5))=[.int .u8 (Z5.getD (2*(x/16).toNat) 0),.int .u8 (Z5.getD (2*(x/16).toNat+1) 0)]:=by rcases hx3 with rfl|rfl|rfl<;>rfl
 generalize Z5.getD (2*(x/16).toNat) 0=lo at tx hu
 generalize Z5.getD (2*(x/16).toNat+1) 0=hi at tx hu
 clear hx3 hx
 rw[hu]at hA
 clear hu
 have hln:True:=trivial
 have hcut:True:=trivial
 have gd:True:=trivial
 have g2:True:=trivial
 have g3:True:=trivial
 rcases l with _|⟨y,l⟩
 case' nil=>
  rw[if_neg (by simp)]at hA
  simp only at hA
  subst hA
 case' cons=>
  rcases l with _|⟨z,l⟩
  case' nil=>
   rw[if_neg (by simp)]at hA
   simp only at hA
   subst hA
  case' cons=>
   simp only[Yag]at hl
   have hln:l.length+1+1+1-3=l.length:=by omega
   have hcut:List.take l.length l=l:=Yau
   have gd:List.drop 3 (Zi .u8 (c::y::z::l))=Zi .u8 l:=rfl
   have g2:(Zi .u8 (y::z::l)).getD 0 .any= .int .u8 y:=rfl
   have g3:(Zi .u8 (z::l)).getD 0 .any= .int .u8 z:=rfl
   simp only[List.getD_cons_zero,List.getD_cons_succ]at hA
 all_goals
  have nx:=aI @d1 (aI @g0 (aI @g1 (aI @g2 (aI @g3 (aI @gd (aI @Yag.{0} (aI @List.length_nil.{0} (aI @gV0 (aI @gV1 (aI @f1 (aI @a7 (aI @tx (aI @hln (aI @hcut trivial))))))))))))))
  refine' Zql
  all_goals first
   |exact⟨rfl,trivial⟩
   |(rw[if_neg (by omega)]at hA;simp only at hA;subst hA;exact⟨rfl,trivial⟩)
   |(rw[if_pos ⟨by simp only[Yag];omega,by omega,by omega,by omega,by omega⟩]at hA;exact⟨l.length,by simp only[Yag];omega,l,rfl,fun x hx=>hbl x (by simp[hx]),by omega,hA,rfl⟩)
end
end Go.Proofs.YtimhmpdfioihlaaGreatDoor
