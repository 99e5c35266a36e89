/- plaitref04.Of. -/
import Derived.Test.YtimhmpdfioihlaaGreatDoorDP
import Derived.Test.YtimhmpdfioihlaaGreatDoorGPreV
import Derived.Test.YtimhmpdfioihlaaGreatDoorGV6
import Derived.Test.YtimhmpdfioihlaaGreatDoorGCB
import Derived.Test.YtimhmpdfioihlaaGreatDoorGWP
import Derived.Test.YtimhmpdfioihlaaGreatDoorGPU
set_option linter.unusedSimpArgs false
set_option linter.unusedVariables false
namespace Go.Proofs.YtimhmpdfioihlaaGreatDoor
set_option maxRecDepth 20000
open Go Go.Abs Nat
attribute [local irreducible] AW AWL AC FW CW CWr IntKind.wrap
section
theorem ZDa (a b c d e:List UInt8):ZCf [a,b,c,d,e]=[.str a,.str b,.str c,.str d,.str e]:=rfl
def R5 (op:Int)(T:List (List UInt8))(i:Int):St:={ n:=73,slots:=[(0,.int .i64 op),(2,.ptr 2 0),(3,.bool false),(4,.view 108 1 (ZCf T)),(5,.int .i64 i)],mem:=[(2,⟨false,[.int .i64 0,.int .i64 0,.bool false,.ref 3003 0 0 1,.ref 3004 0 0 1]⟩),(3003,⟨true,[]⟩),(3004,⟨true,[]⟩)] }
def R8 (a b c d e:List UInt8)(fm lm:Int)(i:Int):St:={ n:=73,slots:=[(2,.ptr 2 0),(3,.bool false),(6,.ref 6 0 5 1),(7,.ptr 7 0),(8,.int .i64 i)],mem:=[(2,⟨false,[.int .i64 0,.int .i64 0,.bool false,.ref 3003 0 0 1,.ref 3004 0 0 1]⟩),(3003,⟨true,[]⟩),(3004,⟨true,[]⟩),(6,⟨true,[.str a,.str b,.str c,.str d,.str e]⟩),(7,⟨false,[.int .i64 fm,.int .i64 lm,.bool true,.ref 8003 0 0 1,.ref 8004 0 0 1]⟩),(8003,⟨true,[]⟩),(8004,⟨true,[]⟩)] }
theorem ZHH.NM:type_of% @MB.NM/\type_of% @Zb5/\type_of% @Zas/\type_of% @R5.eq_1/\type_of% @R8.eq_1/\type_of% @ZDa:=
 ⟨MB.NM,@Zb5,@Zas,@R5.eq_1,@R8.eq_1,@ZDa⟩
open ZHH
end
end Go.Proofs.YtimhmpdfioihlaaGreatDoor
