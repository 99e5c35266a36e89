/- EncodeLimits: from the first Encode on. -/
import Derived.Test.YtimhmpdfioihlaaGreatDoorDP
import Derived.Test.YtimhmpdfioihlaaGreatDoorLSt
import Derived.Test.YtimhmpdfioihlaaGreatDoorGV6
import Derived.Test.YtimhmpdfioihlaaGreatDoorGCB
import Derived.Test.YtimhmpdfioihlaaGreatDoorLGL
import Derived.Test.YtimhmpdfioihlaaGreatDoorSMod
import Derived.Test.YtimhmpdfioihlaaGreatDoorLMD
import Derived.Test.YtimhmpdfioihlaaGreatDoorGENSElem
set_option linter.unusedSimpArgs false
set_option linter.unusedVariables false
namespace Go.Proofs.YtimhmpdfioihlaaGreatDoor
set_option maxRecDepth 20000
open Go Go.Abs Nat
def starts39:Code->Bool
 |.seq x _=>starts39 x
 |.region id _ _=>id==39
 |_=>false
def tail39:Code->Code
 |.seq x y=>bif starts39 x then .seq x y else tail39 y
 |c=>c
def seqL:Code->Code
 |.seq x _=>x
 |c=>c
def seqR:Code->Code
 |.seq _ y=>y
 |c=>c
attribute [local irreducible] AW AWL AC FW CW CWr IntKind.wrap
theorem ZGi (h:3<Tryz.prog.types.size):(Tryz.prog.types[3]'h).bytes=8:=by kernel_rfl
theorem ZH0 (h:5<Tryz.prog.types.size):(Tryz.prog.types[5]'h).bytes=1:=by kernel_rfl
def F39 (mo:Int)(cs:List V):St:={ n:=188,slots:=[(1,.int .u8 mo),(5,.ptr 5 0)],mem:=[(5,⟨false,cs⟩)] }
theorem MLELE.NM:type_of% @NSX/\type_of% @St.keepS.eq_1/\type_of% @TY/\type_of% @ZGK/\type_of% @Zb/\type_of% @F39.eq_1:=
 ⟨NSX,St.keepS.eq_1,@TY,@ZGK,@Zb,@F39.eq_1⟩
open MLELE
theorem K1LELE.cl {p:Prop}(h:p:=by
 first
  |refine AWL.frzG rfl rfl rfl ?_
  |(refine AWL.callV (f:=10) rfl rfl rfl rfl ?_ (Nat.le_of_ble_eq_true rfl) rfl (he) ?_;(focus kernel_rfl))
  |refine AWL.cC (f:=10) ZCc rfl rfl rfl rfl rfl rfl (he) ?_
  |(refine AWL.callV (f:=10) rfl rfl rfl rfl ?_ (Nat.le_of_ble_eq_true rfl) rfl (he2) ?_;(focus kernel_rfl))
  |refine AWL.cC (f:=10) ZCc rfl rfl rfl rfl rfl rfl (he2) ?_
  |(refine AWL.callV (f:=13) rfl rfl rfl rfl ?_ (Nat.le_of_ble_eq_true rfl) rfl (hd) ?_;(focus kernel_rfl))
  |refine AWL.cC (f:=13) ZEg rfl rfl rfl rfl rfl rfl (hd) ?_
  |(refine AWL.callV (f:=15) rfl rfl rfl rfl ?_ (Nat.le_of_ble_eq_true rfl) rfl (hs0) ?_;(focus kernel_rfl))
  |refine AWL.cC (f:=15) ZEG rfl rfl rfl rfl rfl rfl (hs0) ?_
 all_goals(apply_rules (newGoals:= .nonDependentOnly) only[dep];exact())):p:=h
theorem K1LELE.sd {p:Prop}(h:p:=by first|exact sd718782):p:=h
open K1LELE in
set_option maxHeartbeats 6400000 in
theorem lend_ok (mo:Int)(m1:Nat)(h01:m1=0\/m1=1)(hm1:mo.tmod 2=(m1:Int))(M M':Mod)(a1 a2 a3 a6 a8 a9:Nat)(c1 c2 c3 c6 c8 c9:List V)(hm3:OkM M)(hl3:LnM M)(hm4:OkM M')(hl4:LnM M')(hev:Ev M M' m1)
 (hw3:WkL [.view a1 2 c1,.view a2 3 c2,.view a3 1 c3,.view 0 2 [],.view 0 2 [],.view 0 3 [],.view a6 3 c6,.int .i64 (-1),.view a8 2 c8,.view a9 2 c9,.view 0 2 []] (Zb9 M))
 (hw4:WkL [.view a1 2 c1,.view a2 3 c2,.view a3 1 c3,.view 0 2 [],.view 0 2 [],.view 0 3 [],.view a6 3 c6,.int .i64 (-1),.view a8 2 c8,.view a9 2 c9,.view 1 2 [.view 1 6 [.int .i64 11,.int .i64 0,.int .i64 0,.int .u64 0,.int .u64 0,.nils],.view 16384 1 (Zi .u8 (List.replicate 16384 0))]] (Zb9 M')) :
 ∀Q',QEq Q' (Zbd (AW Tryz.prog (seqR (tail39 (Option.getD Tryz.f7.body .skip))) (Zf4 Tryz.prog [ResultVar.tmp 4] (fun r mm=>r= .bool true/\mm=[]))) (Zf4 Tryz.prog [ResultVar.tmp 4] (fun r mm=>r= .bool true/\mm=[])))->ZcQ Q'->AW Tryz.prog (seqL (tail39 (Option.getD Tryz.f7.body .skip))) Q' (F39 mo [.view a1 2 c1,.view a2 3 c2,.view a3 1 c3,.view 0 2 [],.view 0 2 [],.view 0 3 [],.view a6 3 c6,.int .i64 (-1),.view a8 2 c8,.view a9 2 c9,.view 0 2 []]):=by
 simp only[Tryz.f7,Option.getD_some,tail39,starts39,seqL,seqR,Nat.reduceBEq,cond_true,cond_false]
 obtain⟨n16,hn16⟩: ∃n:Nat,n=16384:=⟨_,rfl⟩
 have hi16:(16384:Int)=(n16:Int):=by omega
 rw[hi16]
 intro Qm hQm hPm
 rw[<- hn16]at hw4
 have he:=Zrd hm3 hl3 hw3
 have he2:=Zrd hm4 hl4 hw4
 have hs0:=Zww hm3 hl3 hw3
 have dz:(((0:Nat):Int)==0)=true:=rfl
 have hz:=Zpe .u8 n16
 rcases h01 with rfl|rfl
 ·obtain⟨⟨v1,v2⟩,v3,v4⟩:=hev.2 rfl
  rw[ZfV v1 v2]at he
  rw[Zrc v3 v4]at he2
  obtain⟨g1,g2,g3⟩:=ZlK hm3 (by rw[ZfV v1 v2])
  rw[ZfV v1 v2]at g1 g2 g3
  have hd:=ZnM (ZfR M).b g1
  rw[g3]at hd
  generalize (ZfR M).b=b at he hd
  unfold Zb9 at hd hs0
  have dm:(((0:Nat):Int)==1)=false:=rfl
  clear hev hm3 hl3 hm4 hl4 hw3 hw4 v1 v2 v3 v4 g1 g2 g3
  have nx:=aI @hm1 (aI @dm (aI @dz (aI @hz trivial)))
  refine' st5d531f
  all_goals first|exact⟨trivial,trivial⟩|exact⟨rfl,trivial⟩|exact⟨rfl,rfl⟩|exact⟨trivial,rfl⟩|(exfalso;omega)|trace_state
 ·rw[Zwv (hev.1 rfl)]at he
  have dm:(((1:Nat):Int)==1)=true:=rfl
  have hd:True:=trivial
  clear hev hm3 hl3 hm4 hl4 hw3 hw4
  have nx:=aI @hm1 (aI @dm (aI @dz trivial))
  refine' st5d531f
  all_goals first|exact⟨trivial,trivial⟩|exact⟨rfl,trivial⟩|exact⟨rfl,rfl⟩|exact⟨trivial,rfl⟩|(exfalso;omega)|trace_state
end Go.Proofs.YtimhmpdfioihlaaGreatDoor
