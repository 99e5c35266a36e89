/- EncodeForth. -/
import Derived.Test.YtimhmpdfioihlaaGreatDoorDP
import Derived.Test.YtimhmpdfioihlaaGreatDoorGPreV
import Derived.Test.YtimhmpdfioihlaaGreatDoorGV6
import Derived.Test.YtimhmpdfioihlaaGreatDoorGCB
import Derived.Test.YtimhmpdfioihlaaGreatDoorGLELp
import Derived.Test.YtimhmpdfioihlaaGreatDoorGMDok
import Derived.Test.YtimhmpdfioihlaaGreatDoorSMod
set_option linter.unusedSimpArgs false
set_option linter.unusedVariables false
set_option maxHeartbeats 12800000
namespace Go.Proofs.YtimhmpdfioihlaaGreatDoor
set_option maxRecDepth 20000
open Go Go.Abs Nat
attribute [local irreducible] AW AWL AC FW CW CWr IntKind.wrap
section
theorem ZAt {m:Mod}(h:SzM m):LnM m:=by
 obtain⟨⟨a1,b1⟩,⟨a2,b2⟩,⟨a3,b3⟩,⟨a4,b4⟩,⟨a5,b5⟩,⟨a6,b6⟩,⟨a7,b7⟩,⟨a9,b9⟩,⟨a10,b10⟩,⟨a11,b11⟩⟩:=h
 exact⟨by unfold szM;omega,by omega,by omega,by omega,by omega,by omega,by omega,by omega,by omega,by omega,by omega⟩
theorem Zzl.NM:type_of% @MB.NM/\type_of% @Zb9.eq_1/\type_of% @ZqA.eq_1:=
 ⟨MB.NM,@Zb9.eq_1,@ZqA.eq_1⟩
open Zzl
theorem ZjS.kp:type_of% (@Z2 [0,2,3,4,5,6,7,8,9,10]):= @Z2 [0,2,3,4,5,6,7,8,9,10]
theorem ZjS.cl {p:Prop}(h:p:=by
 first
  |refine AWL.frzG rfl rfl rfl ?_
  |refine AWL.cC (f:=9) cb9 rfl rfl rfl rfl rfl rfl (ZjQ) ?_
  |refine AWL.cC (f:=13) ZEg rfl rfl rfl rfl rfl rfl (hd) ?_
  |refine AWL.cC (f:=13) ZEg rfl rfl rfl rfl rfl rfl (hd2) ?_
  |refine AWL.cC (f:=10) ZCc rfl rfl rfl rfl rfl rfl (he) ?_
  |refine AWL.cC (f:=15) ZEG rfl rfl rfl rfl rfl rfl (hs0) ?_
 all_goals(apply_rules (newGoals:= .nonDependentOnly) only[dep];exact())):p:=h
theorem ZjS.sd {p:Prop}(h:p:=by first|exact Zxa):p:=h
open ZjS in
theorem Zwz (b:List Int)(hb:bytes b):AC Tryz.prog 6 [.view b.length 1 (Zi .u8 b)] (fun r m=>r= .bool true/\m=[]):=by
 have hd:=ZnM b hb
 have hd2:True:=trivial
 have he:True:=trivial
 have hs0:True:=trivial
 refine AC.enter Tryz.func6 rfl (Yaa rfl) ?_
 simp only[Tryz.f6]
 by_cases h:(Zkx b).2=0
 ·obtain⟨hm,hz,h0,hlen, -⟩:=ZBV hb h
  rw[h]at hd
  generalize (Zkx b).1=m at hd hm hz h0 hlen
  have hs0:=Zo8 m (ZBP hm (ZAt hz))
  have he:=Zfw m hm (ZAt hz)
  obtain⟨h1,h2,h3⟩:=ZlK hm h0
  have hd2:=ZnM (ZdI m).1 h1
  rw[h3]at hd2
  generalize ZdI m=z at he hd2 h0 h1 h2 hlen
  obtain⟨c,e⟩:=z
  simp only at he hd2 h0 h1 h2 hlen
  subst h0
  unfold Zb9 at he hd hd2 hs0
  have d1:decide ((c.length:Int)<=(b.length:Int))=true:=Yae (by omega)
  have nx:=aI @d1 (aI @Ya4.{0} trivial)
  refine' ZxB
  all_goals first|exact⟨trivial,trivial⟩|exact⟨rfl,trivial⟩|exact⟨rfl,rfl⟩|exact⟨trivial,rfl⟩|(exfalso;omega)|trace_state
 ·have d1:((Zkx b).2==0)=false:=by
   rw[<- Bool.not_eq_true,beq_iff_eq];exact h
  generalize (Zkx b).2=e at hd d1 h
  generalize (Zkx b).1=m at hd
  unfold Zb9 at hd
  have nx:=aI @d1 (aI @Bool.not_false trivial)
  refine' Zx8
  all_goals first|exact⟨trivial,trivial⟩|exact⟨rfl,trivial⟩|exact⟨rfl,rfl⟩|exact⟨trivial,rfl⟩|(exfalso;omega)|trace_state
end
end Go.Proofs.YtimhmpdfioihlaaGreatDoor
