/- Same, of one module twice. -/
import Derived.Test.YtimhmpdfioihlaaGreatDoorDP
import Derived.Test.YtimhmpdfioihlaaGreatDoorGPreV
import Derived.Test.YtimhmpdfioihlaaGreatDoorGV6
import Derived.Test.YtimhmpdfioihlaaGreatDoorGCB
import Derived.Test.YtimhmpdfioihlaaGreatDoorGEB
set_option linter.unusedSimpArgs false
set_option linter.unusedVariables false
set_option maxHeartbeats 12800000
namespace Go.Proofs.YtimhmpdfioihlaaGreatDoor
set_option maxRecDepth 20000
open Go Go.Abs Nat
theorem ZHT:Za Tryz.prog 57=true:=by kernel_rfl
attribute [local irreducible] AW AWL AC FW CW CWr IntKind.wrap
section
def ZF9 (a:Mod)(k:Nat):St:={ n:=208,slots:=[(2,.ptr 2 0),(3,.ptr 3 0),(5,.int .i64 (k:Int))],mem:=[(2,⟨false,Zb9 a⟩),(3,⟨false,Zb9 a⟩)] }
def ZGa (a:Mod)(k:Nat):St:={ n:=208,slots:=[(2,.ptr 2 0),(3,.ptr 3 0),(6,.int .i64 (k:Int))],mem:=[(2,⟨false,Zb9 a⟩),(3,⟨false,Zb9 a⟩)] }
def ZGb (a:Mod)(k:Nat):St:={ n:=208,slots:=[(2,.ptr 2 0),(3,.ptr 3 0),(7,.int .i64 (k:Int))],mem:=[(2,⟨false,Zb9 a⟩),(3,⟨false,Zb9 a⟩)] }
def ZGc (a:Mod)(k:Nat):St:={ n:=208,slots:=[(2,.ptr 2 0),(3,.ptr 3 0),(8,.int .i64 (k:Int))],mem:=[(2,⟨false,Zb9 a⟩),(3,⟨false,Zb9 a⟩)] }
theorem ZGd.NM:type_of% @MB.NM/\type_of% @ZF9.eq_1/\type_of% @ZGa.eq_1/\type_of% @ZGb.eq_1/\type_of% @ZGc.eq_1/\type_of% @Zb9.eq_1:=
 ⟨MB.NM,@ZF9.eq_1,@ZGa.eq_1,@ZGb.eq_1,@ZGc.eq_1,@Zb9.eq_1⟩
open ZGd
theorem ZAk.kp:type_of% (@Z2 [0,1,2,3,4,5,6,7,8]):= @Z2 [0,1,2,3,4,5,6,7,8]
theorem ZAk.cl {p:Prop}(h:p:=by
 first
  |refine AWL.frzG rfl rfl rfl ?_
  |refine AWL.cC (f:=55) ZEk rfl rfl rfl rfl rfl rfl (ht1) ?_
  |refine AWL.cC (f:=58) ZGL rfl rfl rfl rfl rfl rfl (hc1) ?_
  |refine AWL.cC (f:=56) ZGq rfl rfl rfl rfl rfl rfl (hl1) ?_
  |refine AWL.cC (f:=56) ZGq rfl rfl rfl rfl rfl rfl (hl2) ?_
  |refine AWL.cC (f:=57) ZHT rfl rfl rfl rfl rfl rfl (hs1) ?_
  |refine AWL.cC (f:=59) ZHa rfl rfl rfl rfl rfl rfl (hr1) ?_
 all_goals(apply_rules (newGoals:= .nonDependentOnly) only[dep];exact())):p:=h
open ZAk ZuG in
theorem Zo8 (a:Mod)(ha:SmM a):AC Tryz.prog 15 [.agg (Zb9 a),.agg (Zb9 a)] (fun r m=>r= .bool true/\m=[]):=by
 have ht1:=Zed a.funcs ha.fu
 have hl1:=Zv2 a.tables ha.ta
 have hl2:=Zv2 a.mems ha.me
 have hr1:=Zy5 a ha
 unfold Zb9 at hr1
 have hc1:True:=trivial
 have hs1:True:=trivial
 refine AC.enter Tryz.func15 rfl (Yaa rfl) ?_
 simp only[Tryz.f15]
 have nx:=trivial
 refine' ZfE
 refine AW.loop [2,3,5] [2,3] (fun m st=> ∃k:Nat,st=ZF9 a k/\k<=a.types.length/\m=a.types.length-k) ?_ ?_
 ·exact⟨_,0,rfl,Nat.zero_le _,rfl⟩
 rintro m st ⟨k,rfl,hk,rfl⟩
 by_cases hkl:k<a.types.length
 ·have e7:IntKind.i64.wrap ((k:Int)+1)=((k+1:Nat):Int):=Zc _ (by have:=ha.ty;omega) (by have:=ha.ty;omega)
  have hd1:decide ((k:Int)<(a.types.length:Int))=true:=Yae (by omega)
  have l1:=Zbr ZfM ⟨[],[]⟩ hkl
  have r1:=Zbs ZfM ⟨[],[]⟩ hkl
  have hx:=ha.tys _ (ZcF ⟨[],[]⟩ hkl)
  generalize a.types.getD k ⟨[],[]⟩=x at l1 hx
  have hs1:=ZBw x hx.1 hx.2
  obtain⟨i,o⟩:=x
  have l1:List.take 2 (List.drop (k*2) (a.types.flatMap ZhS))=[.view i.length 1 (Zi .i64 i),.view o.length 1 (Zi .i64 o)]:=l1
  unfold ZhS at hs1
  have nx:=aI @e7 (aI @hd1 (aI @l1 trivial))
  refine' ZfE
  all_goals first
   |exact⟨a.types.length-(k+1),by omega,k+1,rfl,by omega,rfl⟩
 have hd1:decide ((k:Int)<(a.types.length:Int))=false:=Yaf (by omega)
 have nx:=aI @hd1 trivial
 refine' ZfE
 clear hd1 hkl hk
 refine AW.loop [2,3,6] [2,3] (fun m st=> ∃k:Nat,st=ZGa a k/\k<=a.imports.length/\m=a.imports.length-k) ?_ ?_
 ·exact⟨_,0,rfl,Nat.zero_le _,rfl⟩
 rintro m st ⟨k,rfl,hk,rfl⟩
 by_cases hkl:k<a.imports.length
 ·have e7:IntKind.i64.wrap ((k:Int)+1)=((k+1:Nat):Int):=Zc _ (by have:=ha.im;omega) (by have:=ha.im;omega)
  have hd1:decide ((k:Int)<(a.imports.length:Int))=true:=Yae (by omega)
  have l1:=Zbr ZfN ⟨[],[],0⟩ hkl
  have r1:=Zbs ZfN ⟨[],[],0⟩ hkl
  generalize a.imports.getD k ⟨[],[],0⟩=x at l1
  obtain⟨i,o,t⟩:=x
  have l1:List.take 3 (List.drop (k*3) (a.imports.flatMap ZjF))=[.str i,.str o,.int .i64 t]:=l1
  have nx:=aI @e7 (aI @hd1 (aI @l1 (aI @Zhz (aI @Zfz (aI @ZhA (aI @ZhB (aI @Ya4.{0} (aI @Bool.and_self (aI @Bool.not_true trivial)))))))))
  refine' Zla
  all_goals first
   |exact⟨a.imports.length-(k+1),by omega,k+1,rfl,by omega,rfl⟩
 have hd1:decide ((k:Int)<(a.imports.length:Int))=false:=Yaf (by omega)
 have nx:=aI @hd1 trivial
 refine' ZfE
 clear hd1 hkl hk
 refine AW.loop [2,3,7] [2,3] (fun m st=> ∃k:Nat,st=ZGb a k/\k<=a.globals.length/\m=a.globals.length-k) ?_ ?_
 ·exact⟨_,0,rfl,Nat.zero_le _,rfl⟩
 rintro m st ⟨k,rfl,hk,rfl⟩
 by_cases hkl:k<a.globals.length
 ·have e7:IntKind.i64.wrap ((k:Int)+1)=((k+1:Nat):Int):=Zc _ (by have:=ha.gl;omega) (by have:=ha.gl;omega)
  have hd1:decide ((k:Int)<(a.globals.length:Int))=true:=Yae (by omega)
  have l1:=Zdv Zfp ⟨0,false,[]⟩ a.globals k hkl
  have hx:=ha.gls _ (ZcF ⟨0,false,[]⟩ hkl)
  generalize (a.globals.drop (k+1)).flatMap Zde=R at l1
  generalize a.globals.getD k ⟨0,false,[]⟩=x at l1 hx
  obtain⟨t,mu,c⟩:=x
  have l1:List.drop (k*3) (a.globals.flatMap Zde)= .int .i64 t:: .bool mu:: .view c.length 6 (Zap c)::R:=l1
  have hc1:=Zhh c hx
  have nx:=aI @e7 (aI @hd1 (aI @l1 (aI @Ya4.{0} (aI @Bool.not_true trivial))))
  refine' Zla
  all_goals first
   |exact⟨a.globals.length-(k+1),by omega,k+1,rfl,by omega,rfl⟩
 have hd1:decide ((k:Int)<(a.globals.length:Int))=false:=Yaf (by omega)
 have nx:=aI @hd1 trivial
 refine' ZfE
 clear hd1 hkl hk
 refine AW.loop [2,3,8] [2,3] (fun m st=> ∃k:Nat,st=ZGc a k/\k<=a.exports.length/\m=a.exports.length-k) ?_ ?_
 ·exact⟨_,0,rfl,Nat.zero_le _,rfl⟩
 rintro m st ⟨k,rfl,hk,rfl⟩
 by_cases hkl:k<a.exports.length
 ·have e7:IntKind.i64.wrap ((k:Int)+1)=((k+1:Nat):Int):=Zc _ (by have:=ha.ex;omega) (by have:=ha.ex;omega)
  have hd1:decide ((k:Int)<(a.exports.length:Int))=true:=Yae (by omega)
  have l1:=Zbr ZfP ⟨[],0,0⟩ hkl
  have r1:=Zbs ZfP ⟨[],0,0⟩ hkl
  generalize a.exports.getD k ⟨[],0,0⟩=x at l1
  obtain⟨i,o,t⟩:=x
  have l1:List.take 3 (List.drop (k*3) (a.exports.flatMap ZjG))=[.str i,.int .i64 o,.int .i64 t]:=l1
  have nx:=aI @e7 (aI @hd1 (aI @l1 (aI @Zhz (aI @Zfz (aI @ZhA (aI @ZhB (aI @Ya4.{0} (aI @Bool.and_self (aI @Bool.not_true trivial)))))))))
  refine' Zla
  all_goals first
   |exact⟨a.exports.length-(k+1),by omega,k+1,rfl,by omega,rfl⟩
 have hd1:decide ((k:Int)<(a.exports.length:Int))=false:=Yaf (by omega)
 have nx:=aI @hd1 trivial
 refine' ZfE
 all_goals first|exact⟨trivial,trivial⟩|exact⟨rfl,trivial⟩|exact⟨rfl,rfl⟩|exact⟨trivial,rfl⟩|(exfalso;omega)|trace_state
end
end Go.Proofs.YtimhmpdfioihlaaGreatDoor
