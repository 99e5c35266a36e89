/- utf8.word, of a string. -/
import Derived.Test.YtimhmpdfioihlaaGreatDoorDP
import Derived.Test.YtimhmpdfioihlaaGreatDoorGPreV
import Derived.Test.YtimhmpdfioihlaaGreatDoorGV6
import Derived.Test.YtimhmpdfioihlaaGreatDoorGCB
import Derived.Test.YtimhmpdfioihlaaGreatDoorGWP
import Derived.Test.YtimhmpdfioihlaaGreatDoorGMT1
import Derived.Test.YtimhmpdfioihlaaGreatDoorGRefpre
set_option linter.unusedSimpArgs false
set_option linter.unusedVariables false
set_option maxHeartbeats 12800000
namespace Go.Proofs.YtimhmpdfioihlaaGreatDoor
set_option maxRecDepth 20000
open Go Go.Abs Nat
theorem ZGI:Za Tryz.prog 75=true:=by kernel_rfl
section
theorem ZbN (l:List Int):(toS l).length=l.length:=by unfold toS Zi;rw[List.length_map,List.length_map]
theorem Zbh (l:List Int)(n:Nat):(toS l).drop n=toS (l.drop n):=by unfold toS Zi;rw[<- List.map_drop,<- List.map_drop]
theorem Zbi (l:List Int)(n:Nat):(toS l).take n=toS (l.take n):=by unfold toS Zi;rw[<- List.map_take,<- List.map_take]
theorem Zb3 {l:List Int}(hb:bytes l){k:Nat}(hk:k<l.length):(((toS l).getD k 0).toNat:Int)=l.getD k 0:=by
 have hx:=ZaI hb hk
 unfold byte at hx
 have e:(toS l).getD k 0=UInt8.ofNat (l.getD k 0).toNat:=by
  unfold toS Zi
  simp only[Yah,Yas,Yab hk,Option.map_some,Option.getD_some]
  rfl
 rw[e,UInt8.toNat_ofNat']
 have:(l.getD k 0).toNat%2^8=(l.getD k 0).toNat:=Nat.mod_eq_of_lt (by omega)
 rw[this,Int.toNat_of_nonneg hx.1]
attribute [local irreducible] AW AWL AC FW CW CWr IntKind.wrap
open MB
open Zjn ZdR in
theorem Zdr (l:List Int)(hb:bytes l)(h8:8<=l.length)(hl:l.length<=1000000000):AC Tryz.prog 105 [.str (toS l)] (fun r m=>r= .int .u64 (le (l.take 8))/\m=[]):=by
 have x0:=ZaI hb (show 0<l.length by omega)
 have x1:=ZaI hb (show 1<l.length by omega)
 have x2:=ZaI hb (show 2<l.length by omega)
 have x3:=ZaI hb (show 3<l.length by omega)
 have x4:=ZaI hb (show 4<l.length by omega)
 have x5:=ZaI hb (show 5<l.length by omega)
 have x6:=ZaI hb (show 6<l.length by omega)
 have x7:=ZaI hb (show 7<l.length by omega)
 have w0:IntKind.u64.wrap (l.getD 0 0)=le (l.take 1):=by rw[Zu4 x0,Zlh (show 0<l.length by omega)];simp[le]
 have w1:Zt .or .u64 (le (l.take 1)) (IntKind.u64.wrap (IntKind.u64.wrap (l.getD 1 0)*2^min 8 IntKind.u64.bits))=le (l.take 2):=ZdH hb 1 (by omega) (by omega)
 have w2:Zt .or .u64 (le (l.take 2)) (IntKind.u64.wrap (IntKind.u64.wrap (l.getD 2 0)*2^min 16 IntKind.u64.bits))=le (l.take 3):=ZdH hb 2 (by omega) (by omega)
 have w3:Zt .or .u64 (le (l.take 3)) (IntKind.u64.wrap (IntKind.u64.wrap (l.getD 3 0)*2^min 24 IntKind.u64.bits))=le (l.take 4):=ZdH hb 3 (by omega) (by omega)
 have w4:Zt .or .u64 (le (l.take 4)) (IntKind.u64.wrap (IntKind.u64.wrap (l.getD 4 0)*2^min 32 IntKind.u64.bits))=le (l.take 5):=ZdH hb 4 (by omega) (by omega)
 have w5:Zt .or .u64 (le (l.take 5)) (IntKind.u64.wrap (IntKind.u64.wrap (l.getD 5 0)*2^min 40 IntKind.u64.bits))=le (l.take 6):=ZdH hb 5 (by omega) (by omega)
 have w6:Zt .or .u64 (le (l.take 6)) (IntKind.u64.wrap (IntKind.u64.wrap (l.getD 6 0)*2^min 48 IntKind.u64.bits))=le (l.take 7):=ZdH hb 6 (by omega) (by omega)
 have w7:Zt .or .u64 (le (l.take 7)) (IntKind.u64.wrap (IntKind.u64.wrap (l.getD 7 0)*2^min 56 IntKind.u64.bits))=le (l.take 8):=ZdH hb 7 (by omega) (by omega)
 have y0:(((toS l).getD 0 0).toNat:Int)=l.getD 0 0:=Zb3 hb (by omega)
 have y1:(((toS l).getD 1 0).toNat:Int)=l.getD 1 0:=Zb3 hb (by omega)
 have y2:(((toS l).getD 2 0).toNat:Int)=l.getD 2 0:=Zb3 hb (by omega)
 have y3:(((toS l).getD 3 0).toNat:Int)=l.getD 3 0:=Zb3 hb (by omega)
 have y4:(((toS l).getD 4 0).toNat:Int)=l.getD 4 0:=Zb3 hb (by omega)
 have y5:(((toS l).getD 5 0).toNat:Int)=l.getD 5 0:=Zb3 hb (by omega)
 have y6:(((toS l).getD 6 0).toNat:Int)=l.getD 6 0:=Zb3 hb (by omega)
 have y7:(((toS l).getD 7 0).toNat:Int)=l.getD 7 0:=Zb3 hb (by omega)
 refine AC.enter Tryz.func105 rfl (Yaa rfl) ?_
 simp only[Tryz.f105]
 have nx:=aI @ZbN (aI @y0 (aI @y1 (aI @y2 (aI @y3 (aI @y4 (aI @y5 (aI @y6 (aI @y7 (aI @w0 (aI @w1 (aI @w2 (aI @w3 (aI @w4 (aI @w5 (aI @w6 (aI @w7 trivial))))))))))))))))
 refine' Zqi
 all_goals first|exact⟨trivial,trivial⟩|exact⟨rfl,trivial⟩|exact⟨rfl,rfl⟩|exact⟨trivial,rfl⟩|(exfalso;omega)|trace_state
end
end Go.Proofs.YtimhmpdfioihlaaGreatDoor
namespace Go.Proofs.YtimhmpdfioihlaaGreatDoor
set_option maxRecDepth 20000
open Go Go.Abs Nat
attribute [local irreducible] AW AWL AC FW CW CWr IntKind.wrap
open MB
open Zlg ZoB Zm in
theorem Zvc (c:Bool):AMP Tryz.prog 47 [.bool c] [] [] (fun v m=>c=true/\v= .tup []/\m=[]) (fun ch m=>c=false/\ch=Zyz 10/\m=[]):=by
 have hfail:=Zdq 10
 refine AMP.enter Tryz.func47 rfl (Yaa rfl) (fun pn=> ?_)
 simp only[Tryz.f47]
 cases c
 ·have nx:=trivial
  refine' Zqd
  all_goals first
   |exact⟨rfl,rfl,rfl⟩
 ·have nx:=trivial
  refine' Zqd
  all_goals first
   |exact⟨rfl,rfl,rfl⟩
end Go.Proofs.YtimhmpdfioihlaaGreatDoor
namespace Go.Proofs.YtimhmpdfioihlaaGreatDoor
set_option maxRecDepth 20000
open Go Go.Abs Nat
attribute [local irreducible] AW AWL AC FW CW CWr IntKind.wrap
open MB
theorem ZFq.cl {p:Prop}(h:p:=by
 first
  |refine AWL.cMP (f:=74) [] ZzU rfl rfl rfl rfl rfl rfl rfl (hfail) ?_ ?_
  |refine AWL.frzG rfl rfl rfl ?_
 all_goals(apply_rules (newGoals:= .nonDependentOnly) only[dep];exact())):p:=h
theorem ZFr.cl {p:Prop}(h:p:=by
 first
  |refine AWL.cMP (f:=74) [] ZzU rfl rfl rfl rfl rfl rfl rfl (hfail) ?_ ?_
  |refine AWL.frzG rfl rfl rfl ?_
  |refine AWL.cC (f:=75) ZGI rfl rfl rfl rfl rfl rfl (hu) ?_
 all_goals(apply_rules (newGoals:= .nonDependentOnly) only[dep];exact())):p:=h
open ZFq Zjn Zm in
theorem Zdb {b:List Int}{p:Int}{en:Nat}(h:okT b p en):TF 48 [] b en p (Zcj (b.take en) p) (.int .u8):=by
 have hfail:=Zdq 10
 have hlen:=h.len
 obtain⟨hb,hl,he,p0,p1⟩:=h
 obtain⟨k,rfl⟩: ∃k:Nat,p=k:=⟨p.toNat,by omega⟩
 have ew:IntKind.i64.wrap ((k:Int)+1)=(k:Int)+1:=Zc _ (by omega) (by omega)
 have ew2:IntKind.i64.wrap ((k:Int)+1-1)=(k:Int):=by rw[Zc _ (by omega) (by omega)];omega
 obtain⟨A,hA⟩: ∃A,Zcj (b.take en) k=A:=⟨_,rfl⟩
 rw[hA]
 unfold Zcj at hA
 rw[hlen]at hA
 unfold TF OKR ERR tpM
 by_cases c:(k:Int)>=en
 ·rw[if_pos c]at hA
  subst hA
  refine AMP.enter Tryz.func48 rfl (Yaa rfl) (fun pn=> ?_)
  simp only[Tryz.f48]
  have nx:=trivial
  refine' Ziq
  all_goals first|exact⟨trivial,trivial⟩|exact⟨rfl,trivial⟩|exact⟨rfl,rfl⟩|exact⟨trivial,rfl⟩|(exfalso;omega)|trace_state
 ·rw[if_neg c,Yap,show(b.take en).getD k 0=b.getD k 0 by simp only[Yah];rw[List.getElem?_take_of_lt (by omega)]]at hA
  have hx:=hb _ (Zbw (show k<b.length by omega))
  subst hA
  refine AMP.enter Tryz.func48 rfl (Yaa rfl) (fun pn=> ?_)
  simp only[Tryz.f48]
  have nx:=aI @ew (aI @ew2 trivial)
  refine' Ziq
  all_goals first|exact⟨trivial,trivial⟩|exact⟨rfl,trivial⟩|exact⟨rfl,rfl⟩|exact⟨trivial,rfl⟩|(exfalso;omega)|trace_state
open ZFr Zoz Zm in
theorem ZcC {b:List Int}{p:Int}{en:Nat}(h:okT b p en):TF 50 [] b en p (nmT (b.take en) p) (.int .i64):=by
 have hfail:=Zdq 10
 have hu:=ZGD (b.take en) h.byt (by rw[h.len];have:=h.hl;have:=h.he;omega) p 32
 have hus:=fun h9=>ZcK h.byt ⟨h.p0,by rw[h.len];exact h.p1⟩ h9
 have hlen:=h.len
 have htk:List.take en (Zi .u8 b)=Zi .u8 (b.take en):=by simp only[Zi,List.map_take]
 obtain⟨hb,hl,he,p0,p1⟩:=h
 obtain⟨A,hA⟩: ∃A,nmT (b.take en) p=A:=⟨_,rfl⟩
 rw[hA]
 unfold nmT at hA
 rw[hlen]at hu
 generalize Zbg (b.take en) p 32=z at hu hus hA
 obtain⟨n,to,e⟩:=z
 simp only at hu hus hA
 unfold TF OKR ERR tpM
 by_cases c:e≠0
 ·rw[if_pos c]at hA
  subst hA
  refine AMP.enter Tryz.func50 rfl (Yaa rfl) (fun pn=> ?_)
  simp only[Tryz.f50]
  have nx:=aI @htk trivial
  refine' Ziq
  all_goals first|exact⟨trivial,trivial⟩|exact⟨rfl,trivial⟩|exact⟨rfl,rfl⟩|exact⟨trivial,rfl⟩|(exfalso;omega)|trace_state
 ·rw[if_neg c]at hA
  subst hA
  have hus:=hus (Classical.not_not.1 c)
  have ew:IntKind.i64.wrap n=n:=Zc _ (by omega) (by omega)
  refine AMP.enter Tryz.func50 rfl (Yaa rfl) (fun pn=> ?_)
  simp only[Tryz.f50]
  have nx:=aI @htk (aI @ew trivial)
  refine' Ziq
  all_goals first|exact⟨trivial,trivial⟩|exact⟨rfl,trivial⟩|exact⟨rfl,rfl⟩|exact⟨trivial,rfl⟩|(exfalso;omega)|trace_state
end Go.Proofs.YtimhmpdfioihlaaGreatDoor
namespace Go.Proofs.YtimhmpdfioihlaaGreatDoor
set_option maxRecDepth 20000
open Go Go.Abs
def ZlY {α:Type}(x:Res α)(enc:α->V)(b:List Int)(en:Nat)(v:V)(m:Mem):Prop:=match x with
 |.ok (a,t)=>v=enc a/\m=tpM 0 b t en++[(3,⟨false,[.ptr 0 0]⟩)]
 |.error _=>False
def ZlZ {α:Type}(x:Res α)(b:List Int)(en:Nat)(ch:List PanicEntry)(m:Mem):Prop:=match x with
 |.ok _=>False
 |.error (e,t)=>ch=Zyz e/\m=tpM 0 b t en++[(3,⟨false,[.ptr 0 0]⟩)]
theorem ZeK {α:Type}(x:Res (List α)):bnd x (fun r t=> .ok ([]++r,t))=x:=by
 rcases x with e|⟨a,t⟩<;>rfl
theorem ZeL {α:Type}(x:Res (List α))(l:List α)(a:α):bnd (bnd x fun r t=> .ok (a::r,t)) (fun r t=> .ok (l++r,t))=bnd x (fun r t=> .ok (l++[a]++r,t)):=by
 rcases x with e|⟨r,t⟩
 ·rfl
 ·simp[bnd]
theorem ZaQ {α:Type}{f:α->List V}{k:Nat}(hf: ∀x,(f x).length=k)(l:List α):(l.flatMap f).length=l.length*k:=by
 induction l with
 |nil=>simp
 |cons x l ih=>rw[List.flatMap_cons,Yal,hf,ih,Yag,Nat.succ_mul];omega
theorem Zck {α:Type}{f:α->List V}(l:List α)(x:α):(l++[x]).flatMap f=l.flatMap f++f x:=by simp
end Go.Proofs.YtimhmpdfioihlaaGreatDoor
namespace Go.Proofs.YtimhmpdfioihlaaGreatDoor
set_option maxRecDepth 20000
open Go Go.Abs Nat
attribute [local irreducible] AW AWL AC FW CW CWr IntKind.wrap
section
def ZqA:List V:=[.nils,.nils,.nils,.nils,.nils,.nils,.nils,.int .i64 0,.nils,.nils,.nils]
theorem ZHE.NM:type_of% @MB.NM/\type_of% @ZqA.eq_1:=
 ⟨MB.NM,@ZqA.eq_1⟩
open ZHE
theorem ZFs.att {p:Prop}(h:p:=by
 first
  |(first|(refine AT.takeF (L:=(bA 5 0)) (L':=(bA 5 2)) 1 rfl rfl rfl rfl rfl rfl rfl rfl Zbt (by decide +kernel) (by decide +kernel) ?_;(try refine' Zf))|refine AT.step (L:=(bA 5 2)) [0,2] (by decide +kernel) (by decide) (Z8 ⟨_,(bA 5 3),rfl,(by decide +kernel),?_⟩ ⟨_,(bA 5 6),rfl,(by decide +kernel),?_⟩)|refine AT.step (L:=(bA 5 6)) [0] (by decide +kernel) (by decide) (Zr ⟨_,(bA 5 7),rfl,(by decide +kernel),?_⟩)|refine AT.step (L:=(bA 5 7)) [3] (by decide +kernel) (by decide) (Zr ⟨_,(bA 5 15),rfl,(by decide +kernel),?_⟩)|refine AT.step (L:=(bA 5 15)) [4] (by decide +kernel) (by decide) (Zr ⟨_,(bA 5 31),rfl,(by decide +kernel),?_⟩)|refine AT.done (L:=(bA 5 31)) (by decide +kernel) ?_|refine AT.step (L:=(bA 5 3)) [2,3] (by decide +kernel) (by decide) (Z8 ⟨_,(bA 5 7),rfl,(by decide +kernel),?_⟩ ⟨_,(bA 5 11),rfl,(by decide +kernel),?_⟩)|refine AT.step (L:=(bA 5 11)) [2] (by decide +kernel) (by decide) (Zr ⟨_,(bA 5 15),rfl,(by decide +kernel),?_⟩)|(refine AT.takeM (L:=(bA 8 0)) (L':=(bA 8 1)) 0 rfl rfl rfl rfl rfl Zbt (by decide +kernel) (by decide +kernel) ?_;(try refine' Zf))|refine AT.step (L:=(bA 8 1)) [1,5] (by decide +kernel) (by decide) (Z8 ⟨_,(bA 8 3),rfl,(by decide +kernel),?_⟩ ⟨_,(bA 8 33),rfl,(by decide +kernel),?_⟩)|refine AT.step (L:=(bA 8 33)) [1] (by decide +kernel) (by decide) (Zr ⟨_,(bA 8 35),rfl,(by decide +kernel),?_⟩)|(refine AT.takeM (L:=(bA 8 35)) (L':=(bA 8 39)) 2 rfl rfl rfl rfl rfl Zbt (by decide +kernel) (by decide +kernel) ?_;(try refine' Zf))|(refine AT.takeX (L:=(bA 8 39)) (L':=(bA 8 47)) 3 rfl rfl rfl rfl rfl rfl rfl Zbt (by decide +kernel) (by decide +kernel) ?_;(try refine' Zf))|(refine AT.takeX (L:=(bA 8 47)) (L':=(bA 8 63)) 4 rfl rfl rfl rfl rfl rfl rfl Zbt (by decide +kernel) (by decide +kernel) ?_;(try refine' Zf))|refine AT.step (L:=(bA 8 63)) [6] (by decide +kernel) (by decide) (Zr ⟨_,(bA 8 127),rfl,(by decide +kernel),?_⟩)|refine AT.step (L:=(bA 8 127)) [7] (by decide +kernel) (by decide) (Zr ⟨_,(bA 8 255),rfl,(by decide +kernel),?_⟩)|refine AT.done (L:=(bA 8 255)) (by decide +kernel) ?_|(refine AT.takeM (L:=(bA 8 3)) (L':=(bA 8 7)) 2 rfl rfl rfl rfl rfl Zbt (by decide +kernel) (by decide +kernel) ?_;(try refine' Zf))|(refine AT.takeX (L:=(bA 8 7)) (L':=(bA 8 15)) 3 rfl rfl rfl rfl rfl rfl rfl Zbt (by decide +kernel) (by decide +kernel) ?_;(try refine' Zf))|(refine AT.takeX (L:=(bA 8 15)) (L':=(bA 8 31)) 4 rfl rfl rfl rfl rfl rfl rfl Zbt (by decide +kernel) (by decide +kernel) ?_;(try refine' Zf))|refine AT.step (L:=(bA 8 31)) [5] (by decide +kernel) (by decide) (Zr ⟨_,(bA 8 63),rfl,(by decide +kernel),?_⟩))
 all_goals(apply_rules (newGoals:= .nonDependentOnly) only[dep];exact())):p:=h
open ZoC Zuz in
theorem ZA1 (v0 v1 v2 v3 v4 v5 v6 v7 v8 v9:List V)(n0 n1 n2 n3 n4 n5 n6 n7 n8 n9 s0 s1 s2 s3 s4 s5 s6 s7 s8 s9:Nat)(x e:Int):AMD Tryz.prog 46 [.ptr 0 0,.ptr 1 0]
 [(0,⟨false,[.view n0 s0 v0,.view n1 s1 v1,.view n2 s2 v2,.view n3 s3 v3,.view n4 s4 v4,.view n5 s5 v5,.view n6 s6 v6,.int .i64 x,.view n7 s7 v7,.view n8 s8 v8,.view n9 s9 v9]⟩),(1,⟨false,[.int .i64 e]⟩)] [0,1] .returning .returning
 [(0,⟨false,[.view n0 s0 v0,.view n1 s1 v1,.view n2 s2 v2,.view n3 s3 v3,.view n4 s4 v4,.view n5 s5 v5,.view n6 s6 v6,.int .i64 x,.view n7 s7 v7,.view n8 s8 v8,.view n9 s9 v9]⟩),(1,⟨false,[.int .i64 e]⟩)]:=by
 refine AMD.enter Tryz.func46 (rv:= .nilIface) rfl (Yaa rfl) ⟨rfl,rfl,rfl⟩ ⟨rfl,rfl,rfl⟩ (Yaa rfl) (Yaa rfl) (fun c0 cs h=> .inr ⟨by simp[recoverD,h],rfl,rfl⟩) (fun pn=> ?_)
 simp only[Tryz.f46]
 have nx:=trivial
 refine' Zyc
open ZFs ZoC Zuz in
theorem Zds (v0 v1 v2 v3 v4 v5 v6 v7 v8 v9:List V)(n0 n1 n2 n3 n4 n5 n6 n7 n8 n9 s0 s1 s2 s3 s4 s5 s6 s7 s8 s9:Nat)(x e0 e:Int):AMD Tryz.prog 46 [.ptr 0 0,.ptr 1 0]
 [(0,⟨false,[.view n0 s0 v0,.view n1 s1 v1,.view n2 s2 v2,.view n3 s3 v3,.view n4 s4 v4,.view n5 s5 v5,.view n6 s6 v6,.int .i64 x,.view n7 s7 v7,.view n8 s8 v8,.view n9 s9 v9]⟩),(1,⟨false,[.int .i64 e0]⟩)] [0,1] (.panicking (Zyz e)) (.panicking [{ v:= .iface 96 (.agg #[.int .i64 e]),recovered:=true }])
 [(0,⟨false,ZqA⟩),(1,⟨false,[.int .i64 e]⟩)]:=by
 refine AMD.enter Tryz.func46 (rv:= .iface 96 (.agg #[.int .i64 e])) rfl (Yaa rfl) ⟨rfl,rfl,rfl⟩ ⟨rfl,rfl,rfl⟩ (Yaa rfl) (Yaa rfl) (fun c0 cs h=> .inl (by simp[recoverD,h,Zyz])) (fun pn=> ?_)
 simp only[Tryz.f46]
 have nx:=trivial
 refine' ZxG
 refine AW.drawT (L0:=(bA 5 0)) (by decide +kernel) Zjo ?_
 have nx:=trivial
 refine' ZxM
end
end Go.Proofs.YtimhmpdfioihlaaGreatDoor
