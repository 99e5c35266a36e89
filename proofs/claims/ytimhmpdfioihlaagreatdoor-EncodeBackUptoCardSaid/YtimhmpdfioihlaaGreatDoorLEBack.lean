/- EncodeBack. -/
import Derived.Test.YtimhmpdfioihlaaGreatDoorDP
import Derived.Test.YtimhmpdfioihlaaGreatDoorGPreV
import Derived.Test.YtimhmpdfioihlaaGreatDoorGV6
import Derived.Test.YtimhmpdfioihlaaGreatDoorGCB
import Derived.Test.YtimhmpdfioihlaaGreatDoorGLELp
import Derived.Test.YtimhmpdfioihlaaGreatDoorGMArgs
import Derived.Test.YtimhmpdfioihlaaGreatDoorGMDok
import Derived.Test.YtimhmpdfioihlaaGreatDoorSMod
set_option linter.unusedSimpArgs false
set_option linter.unusedVariables false
set_option maxHeartbeats 12800000
namespace Go.Proofs.YtimhmpdfioihlaaGreatDoor
set_option maxRecDepth 20000
open Go Go.Abs Nat
attribute [local irreducible] AW AWL AC FW CW CWr IntKind.wrap
section
theorem ZB6.NM:type_of% @MB.NM/\type_of% @Zb9.eq_1:=
 ⟨MB.NM,@Zb9.eq_1⟩
open ZB6
theorem Zre.kp:type_of% (@Z2 [0,1,2,3,4,5,6]):= @Z2 [0,1,2,3,4,5,6]
theorem Zre.cl {p:Prop}(h:p:=by
 first
  |refine AWL.frzG rfl rfl rfl ?_
  |refine AWL.cC (f:=9) cb9 rfl rfl rfl rfl rfl rfl (ZjQ) ?_
  |refine AWL.cC (f:=10) ZCc rfl rfl rfl rfl rfl rfl (he) ?_
  |refine AWL.cC (f:=13) ZEg rfl rfl rfl rfl rfl rfl (hd) ?_
  |refine AWL.cC (f:=15) ZEG rfl rfl rfl rfl rfl rfl (hs0) ?_
 all_goals(apply_rules (newGoals:= .nonDependentOnly) only[dep];exact())):p:=h
open Zre Zm in
theorem Zzk (m:Mod)(hm:OkM m)(hl:LnM m):AC Tryz.prog 5 [.agg (Zb9 m)] (fun r mm=>r= .bool true/\mm=[]):=by
 have he:=Zfw m hm hl
 have hd:True:=trivial
 have hs0:True:=trivial
 refine AC.enter Tryz.func5 rfl (Yaa rfl) ?_
 simp only[Tryz.f5]
 by_cases h:(ZdI m).2=0
 ·obtain⟨h1,h2,h3⟩:=ZlK hm h
  have hd:=ZnM (ZdI m).1 h1
  rw[h3]at hd
  have hs0:=Zo8 m (ZBP hm hl)
  generalize ZdI m=z at he hd h h2
  obtain⟨b,e⟩:=z
  simp only at he hd h h2
  subst h
  unfold Zb9 at he hd hs0
  have d1:decide ((b.length:Int)<=16384)=true:=Yae (by omega)
  have nx:=aI @d1 trivial
  refine' Zis
  all_goals first|exact⟨trivial,trivial⟩|exact⟨rfl,trivial⟩|exact⟨rfl,rfl⟩|exact⟨trivial,rfl⟩|(exfalso;omega)|trace_state
 ·obtain⟨h1,h2⟩:=ZBK h
  generalize ZdI m=z at he h h1 h2
  obtain⟨b,e⟩:=z
  simp only at he h h1 h2
  subst h1
  unfold Zb9 at he
  rcases h2 with rfl|rfl
  all_goals
   have nx:=trivial
   refine' Zis
   all_goals first|exact⟨trivial,trivial⟩|exact⟨rfl,trivial⟩|exact⟨rfl,rfl⟩|exact⟨trivial,rfl⟩|(exfalso;omega)|trace_state
theorem Zwy (x:ZjL.T)(hg:ZjL.good x)(hb:ZjL.bulk x<=1048576):AC Tryz.prog 5 [Sh.val ZjL x] (fun r m=>r= .bool true/\m=[]):=by
 rw[ZBS]
 obtain⟨h1,h2⟩:=ZBT x hg hb
 exact(Zzk (Zzb x) h1 h2).wk (.cons (Wk.fagg _) .nil)
end
end Go.Proofs.YtimhmpdfioihlaaGreatDoor
