/- byte, number, signed. -/
import Derived.Test.YtimhmpdfioihlaaGreatDoorDP
import Derived.Test.YtimhmpdfioihlaaGreatDoorGPreV
import Derived.Test.YtimhmpdfioihlaaGreatDoorGV6
import Derived.Test.YtimhmpdfioihlaaGreatDoorGCB
import Derived.Test.YtimhmpdfioihlaaGreatDoorGWP
import Derived.Test.YtimhmpdfioihlaaGreatDoorGAMD
set_option linter.unusedSimpArgs false
set_option linter.unusedVariables false
set_option maxHeartbeats 12800000
namespace Go.Proofs.YtimhmpdfioihlaaGreatDoor
set_option maxRecDepth 20000
open Go Go.Abs Nat
theorem ZFu:Za Tryz.prog 175=true:=by kernel_rfl
attribute [local irreducible] AW AWL AC FW CW CWr IntKind.wrap
open MB
theorem ZFv.cl {p:Prop}(h:p:=by
 first
  |refine AWL.cM (f:=155) [(0,0),(1002,1002)] ZkS rfl rfl rfl rfl rfl rfl rfl (hfail) ?_
  |refine AWL.frzG rfl rfl rfl ?_
 all_goals(apply_rules (newGoals:= .nonDependentOnly) only[dep];exact())):p:=h
theorem ZFw.cl {p:Prop}(h:p:=by
 first
  |refine AWL.cM (f:=155) [(0,0),(1002,1002)] ZkS rfl rfl rfl rfl rfl rfl rfl (hfail) ?_
  |refine AWL.frzG rfl rfl rfl ?_
  |refine AWL.cC (f:=75) ZGI rfl rfl rfl rfl rfl rfl (hu) ?_
 all_goals(apply_rules (newGoals:= .nonDependentOnly) only[dep];exact())):p:=h
theorem ZFx.cl {p:Prop}(h:p:=by
 first
  |refine AWL.cM (f:=155) [(0,0),(1002,1002)] ZkS rfl rfl rfl rfl rfl rfl rfl (hfail) ?_
  |refine AWL.frzG rfl rfl rfl ?_
  |refine AWL.cC (f:=175) ZFu rfl rfl rfl rfl rfl rfl (hs) ?_
 all_goals(apply_rules (newGoals:= .nonDependentOnly) only[dep];exact())):p:=h
open ZFv Zjn ZdR in
theorem Zfn (b:List Int)(hb:bytes b)(hlen:b.length<=1000000000)(r:Rd)(hr:ZcB b r):AM Tryz.prog 153 [.ptr 0 0] (rdM 0 1002 b r) [0] (fun v m=>v= .int .i64 (Zal b r).1/\m=rdM 0 1002 b (Zal b r).2):=by
 have hfail:=Za9 b r 10
 obtain⟨p,o,j,er⟩:=r
 obtain⟨h0,h1⟩:=hr
 simp only at h0 h1
 obtain⟨k,rfl⟩: ∃k:Nat,p=k:=⟨p.toNat,by omega⟩
 have ew:IntKind.i64.wrap ((k:Int)+1)=(k:Int)+1:=Zc _ (by omega) (by omega)
 have ew2:IntKind.i64.wrap ((k:Int)+1-1)=(k:Int):=by rw[Zc _ (by omega) (by omega)];omega
 obtain⟨A,hA⟩: ∃A,Zal b ⟨k,o,j,er⟩=A:=⟨_,rfl⟩
 rw[hA]
 unfold rdM at hfail ⊢
 by_cases h:er≠0\/(k:Int)>=b.length
 ·have hA':A=(0,Zah ⟨k,o,j,er⟩ 10):=by rw[<- hA];exact if_pos h
  subst hA'
  generalize Zah ⟨k,o,j,er⟩ 10=r2 at hfail
  obtain⟨p2,o2,j2,e2⟩:=r2
  refine AM.enter Tryz.func153 rfl (Yaa rfl) (fun pn=> ?_)
  simp only[Tryz.f153]
  have nx:=trivial
  refine' Zqj
  all_goals first|exact⟨trivial,trivial⟩|exact⟨rfl,trivial⟩|exact⟨rfl,rfl⟩|exact⟨trivial,rfl⟩|(exfalso;omega)|trace_state
 ·have hA':A=(b.getD k 0,⟨(k:Int)+1,o,j,er⟩):=by rw[<- hA];exact if_neg h
  have hx:=hb _ (Zbw (show k<b.length by omega))
  have ex:IntKind.i64.wrap (b.getD k 0)=b.getD k 0:=Zc _ (by have:=hx.1;omega) (by have:=hx.2;omega)
  subst hA'
  clear hA
  refine AM.enter Tryz.func153 rfl (Yaa rfl) (fun pn=> ?_)
  simp only[Tryz.f153]
  have nx:=aI @ew (aI @ew2 (aI @ex trivial))
  refine' Zqj
  all_goals first|exact⟨trivial,trivial⟩|exact⟨rfl,trivial⟩|exact⟨rfl,rfl⟩|exact⟨trivial,rfl⟩|(exfalso;omega)|trace_state
open ZFw Zoz ZdR in
theorem ZbX (b:List Int)(hb:bytes b)(hlen:b.length<=1000000000)(r:Rd)(hr:ZcB b r):AM Tryz.prog 154 [.ptr 0 0] (rdM 0 1002 b r) [0] (fun v m=>v= .int .i64 (Zay b r).1/\m=rdM 0 1002 b (Zay b r).2):=by
 have hfail:=Za9 b r 10
 have hu:=ZGD b hb (by omega) r.pos 32
 have hus:=fun h=>ZcK hb ⟨hr.p0,hr.p1⟩ h
 obtain⟨p,o,j,er⟩:=r
 obtain⟨h0,h1⟩:=hr
 simp only at h0 h1 hu hus
 obtain⟨A,hA⟩: ∃A,Zay b ⟨p,o,j,er⟩=A:=⟨_,rfl⟩
 rw[hA]
 unfold Zay at hA
 simp only at hA
 generalize Zbg b p 32=z at hu hus hA
 obtain⟨n,to,e⟩:=z
 simp only at hu hus hA
 unfold rdM at hfail ⊢
 refine AM.enter Tryz.func154 rfl (Yaa rfl) (fun pn=> ?_)
 simp only[Tryz.f154]
 by_cases h:er≠0
 ·rw[if_pos h]at hA
  subst hA
  have nx:=trivial
  refine' Zle
  all_goals first|exact⟨trivial,trivial⟩|exact⟨rfl,trivial⟩|exact⟨rfl,rfl⟩|exact⟨trivial,rfl⟩|(exfalso;omega)|trace_state
 ·rw[if_neg h]at hA
  by_cases c:e≠0
  ·rw[if_pos c]at hA
   subst hA
   generalize Zah ⟨p,o,j,er⟩ 10=r2 at hfail
   obtain⟨p2,o2,j2,e2⟩:=r2
   have nx:=trivial
   refine' Zle
   all_goals first|exact⟨trivial,trivial⟩|exact⟨rfl,trivial⟩|exact⟨rfl,rfl⟩|exact⟨trivial,rfl⟩|(exfalso;omega)|trace_state
  ·rw[if_neg c]at hA
   subst hA
   have hus:=hus (Classical.not_not.1 c)
   have ew:IntKind.i64.wrap n=n:=Zc _ (by omega) (by omega)
   have nx:=aI @ew trivial
   refine' Zle
   all_goals first|exact⟨trivial,trivial⟩|exact⟨rfl,trivial⟩|exact⟨rfl,rfl⟩|exact⟨trivial,rfl⟩|(exfalso;omega)|trace_state
open ZFx ZAE ZdR in
theorem Zlm (b:List Int)(hb:bytes b)(hlen:b.length<=1000000000)(n:Int)(r:Rd):AM Tryz.prog 171 [.ptr 0 0,.int .i64 n] (rdM 0 1002 b r) [0] (fun v m=>v= .int .i64 (ZfH b n r).1/\m=rdM 0 1002 b (ZfH b n r).2):=by
 have hfail:=Za9 b r 10
 have hs:=ZHw b hb (by omega) r.pos n
 obtain⟨p,o,j,er⟩:=r
 simp only at hs
 obtain⟨A,hA⟩: ∃A,ZfH b n ⟨p,o,j,er⟩=A:=⟨_,rfl⟩
 rw[hA]
 unfold ZfH at hA
 simp only at hA
 generalize Zak b p n=z at hs hA
 obtain⟨x,to,e⟩:=z
 simp only at hs hA
 unfold rdM at hfail ⊢
 refine AM.enter Tryz.func171 rfl (Yaa rfl) (fun pn=> ?_)
 simp only[Tryz.f171]
 by_cases h:er≠0
 ·rw[if_pos h]at hA
  subst hA
  have nx:=trivial
  refine' Zk7
  all_goals first|exact⟨trivial,trivial⟩|exact⟨rfl,trivial⟩|exact⟨rfl,rfl⟩|exact⟨trivial,rfl⟩|(exfalso;omega)|trace_state
 ·rw[if_neg h]at hA
  by_cases c:e≠0
  ·rw[if_pos c]at hA
   subst hA
   generalize Zah ⟨p,o,j,er⟩ 10=r2 at hfail
   obtain⟨p2,o2,j2,e2⟩:=r2
   have nx:=trivial
   refine' Zk7
   all_goals first|exact⟨trivial,trivial⟩|exact⟨rfl,trivial⟩|exact⟨rfl,rfl⟩|exact⟨trivial,rfl⟩|(exfalso;omega)|trace_state
  ·rw[if_neg c]at hA
   subst hA
   have nx:=trivial
   refine' Zk7
   all_goals first|exact⟨trivial,trivial⟩|exact⟨rfl,trivial⟩|exact⟨rfl,rfl⟩|exact⟨trivial,rfl⟩|(exfalso;omega)|trace_state
end Go.Proofs.YtimhmpdfioihlaaGreatDoor
namespace Go.Proofs.YtimhmpdfioihlaaGreatDoor
set_option maxRecDepth 20000
open Go Go.Abs Nat
attribute [local irreducible] AW AWL AC FW CW CWr IntKind.wrap
section
theorem Zbo {b:List Int}{p:Int}{en:Nat}(h:okT b p en){n t:Int}(he:nmT (b.take en) p= .ok (n,t)):okT b t en/\p<t/\0<=n/\n<4294967296:=by
 unfold nmT at he
 split at he
 ·cases he
 ·rename_i c
  have:=ZcK h.byt ⟨h.p0,by rw[h.len];exact h.p1⟩ (Classical.not_not.1 c)
  rw[h.len]at this
  simp only[Except.ok.injEq,Yai]at he
  obtain⟨rfl,rfl⟩:=he
  exact⟨h.mv (by omega) this.2.2,this.2.1,this.1.1,this.1.2⟩
theorem Za2 {b:List Int}{p:Int}{en:Nat}(h:okT b p en){n t:Int}(he:Zcj (b.take en) p= .ok (n,t)):okT b t en/\t=p+1/\byte n:=by
 unfold Zcj at he
 rw[h.len]at he
 split at he
 ·cases he
 ·rename_i c
  simp only[Except.ok.injEq,Yai]at he
  obtain⟨rfl,rfl⟩:=he
  have h0:=h.p0
  exact⟨h.mv (by omega) (by omega),rfl,h.byt _ (Zbw (by rw[h.len];omega))⟩
open MB
theorem ZFy.cl {p:Prop}(h:p:=by
 first
  |refine AWL.cMP (f:=74) [] ZzU rfl rfl rfl rfl rfl rfl rfl (hfail) ?_ ?_
  |refine AWL.cMP (f:=50) [(0,0)] Zrw rfl rfl rfl rfl rfl rfl rfl (hnum) ?_ ?_
 all_goals(apply_rules (newGoals:= .nonDependentOnly) only[dep];exact())):p:=h
theorem ZC7.kp:type_of% (@Z2 [0,2,3,6]):= @Z2 [0,2,3,6]
theorem ZC7.cl {p:Prop}(h:p:=by
 first
  |refine AWL.cMP (f:=74) [] ZzU rfl rfl rfl rfl rfl rfl rfl (hfail) ?_ ?_
  |refine AWL.cMP (f:=48) [(0,0)] ZzT rfl rfl rfl rfl rfl rfl rfl (hbyte) ?_ ?_
 all_goals(apply_rules (newGoals:= .nonDependentOnly) only[dep];exact())):p:=h
open ZFy ZhJ Zm in
theorem Zby {b:List Int}{p:Int}{en:Nat}(h:okT b p en)(most:Int):TF 115 [.int .i64 most] b en p (Zh5 (b.take en) most p) (.int .i64):=by
 have hfail:=Zdq 3
 have hnum:=ZcC h
 obtain⟨A,hA⟩: ∃A,Zh5 (b.take en) most p=A:=⟨_,rfl⟩
 rw[hA]
 unfold Zh5 at hA
 unfold TF OKR ERR tpM at hnum
 unfold TF OKR ERR tpM
 rcases hz:nmT (b.take en) p with⟨e,t⟩|⟨n,t⟩
 all_goals
  rw[hz]at hA hnum
  simp only[bnd]at hA hnum
 ·subst hA
  refine AMP.enter Tryz.func115 rfl (Yaa rfl) (fun pn=> ?_)
  simp only[Tryz.f115]
  have nx:=trivial
  refine' Zex
  all_goals first|exact⟨trivial,trivial⟩|exact⟨rfl,trivial⟩|exact⟨rfl,rfl⟩|exact⟨trivial,rfl⟩|(exfalso;omega)|trace_state
 ·by_cases c:n>most
  ·rw[if_pos c]at hA
   subst hA
   refine AMP.enter Tryz.func115 rfl (Yaa rfl) (fun pn=> ?_)
   simp only[Tryz.f115]
   have nx:=trivial
   refine' Zex
   all_goals first|exact⟨trivial,trivial⟩|exact⟨rfl,trivial⟩|exact⟨rfl,rfl⟩|exact⟨trivial,rfl⟩|(exfalso;omega)|trace_state
  ·rw[if_neg c]at hA
   subst hA
   refine AMP.enter Tryz.func115 rfl (Yaa rfl) (fun pn=> ?_)
   simp only[Tryz.f115]
   have nx:=trivial
   refine' Zex
   all_goals first|exact⟨trivial,trivial⟩|exact⟨rfl,trivial⟩|exact⟨rfl,rfl⟩|exact⟨trivial,rfl⟩|(exfalso;omega)|trace_state
open Zlg ZoB Zm in
theorem ZqB {b:List Int}{p:Int}{en:Nat}(h:okT b p en):TF 53 [] b en p (Zll (b.take en) () p) (fun _=> .tup []):=by
 have hfail:=Zdq 10
 have hlen:=h.len
 obtain⟨A,hA⟩: ∃A,Zll (b.take en) () p=A:=⟨_,rfl⟩
 rw[hA]
 unfold Zll ZaT at hA
 rw[hlen]at hA
 unfold TF OKR ERR tpM
 by_cases c:p=en
 ·rw[if_pos c]at hA
  subst hA
  refine AMP.enter Tryz.func53 rfl (Yaa rfl) (fun pn=> ?_)
  simp only[Tryz.f53]
  have nx:=trivial
  refine' Zlb
  all_goals first|exact⟨trivial,trivial⟩|exact⟨rfl,trivial⟩|exact⟨rfl,rfl⟩|exact⟨trivial,rfl⟩|(exfalso;omega)|trace_state
 ·rw[if_neg c]at hA
  subst hA
  refine AMP.enter Tryz.func53 rfl (Yaa rfl) (fun pn=> ?_)
  simp only[Tryz.f53]
  have nx:=trivial
  refine' Zlb
  all_goals first|exact⟨trivial,trivial⟩|exact⟨rfl,trivial⟩|exact⟨rfl,rfl⟩|exact⟨trivial,rfl⟩|(exfalso;omega)|trace_state
open ZhJ ZoB Zm in
theorem Zln {b:List Int}{p:Int}{en:Nat}(h:okT b p en)(n:Int)(hn:0<=n/\n<4294967296):AMP Tryz.prog 49 [.ptr 0 0,.int .i64 n] (tpM 0 b p en) [0]
 (fun v m=>(n<=en-p)/\v= .ptr 33 0/\m=tpM 0 b (p+n) en++[(33,⟨false,[.view b.length 1 (Zi .u8 b),.int .i64 p,.int .i64 (p+n)]⟩)]) (fun ch m=> ¬(n<=en-p)/\ch=Zyz 10/\m=tpM 0 b p en):=by
 have hfail:=Zdq 10
 obtain⟨hb,hl,he,p0,p1⟩:=h
 unfold tpM
 have e1:IntKind.i64.wrap ((en:Int)-p)=en-p:=Zc _ (by omega) (by omega)
 have e2:IntKind.i64.wrap (p+n)=p+n:=Zc _ (by omega) (by omega)
 refine AMP.enter Tryz.func49 rfl (Yaa rfl) (fun pn=> ?_)
 simp only[Tryz.f49]
 have nx:=aI @e1 (aI @e2 trivial)
 refine' Zlb
 all_goals first
  |exact⟨by omega,rfl,rfl⟩
open ZC7 Zm in
theorem Ziy {b:List Int}{p:Int}{en:Nat}(h:okT b p en):TF 116 [] b en p (ZcR (b.take en) p) (.int .i64):=by
 have hbyte:=Zdb h
 have hbm:=fun n t=>Za2 h (n:=n) (t:=t)
 have hfail:True:=trivial
 obtain⟨A,hA⟩: ∃A,ZcR (b.take en) p=A:=⟨_,rfl⟩
 rw[hA]
 unfold ZcR at hA
 unfold TF OKR ERR tpM at hbyte
 unfold TF OKR ERR tpM
 rcases hz:Zcj (b.take en) p with⟨e,t⟩|⟨n,t⟩
 all_goals
  rw[hz]at hA hbyte hbm
  simp only[bnd]at hA hbyte
 ·subst hA
  refine AMP.enter Tryz.func116 rfl (Yaa rfl) (fun pn=> ?_)
  simp only[Tryz.f116]
  have nx:=trivial
  refine' Zex
  all_goals first|exact⟨trivial,trivial⟩|exact⟨rfl,trivial⟩|exact⟨rfl,rfl⟩|exact⟨trivial,rfl⟩|(exfalso;omega)|trace_state
 ·have hx:=(hbm _ _ rfl).2.2
  have ew:IntKind.i64.wrap n=n:=Zc _ (by have:=hx.1;omega) (by have:=hx.2;omega)
  by_cases c:n=127\/n=126\/n=123
  ·rw[if_pos c]at hA
   subst hA
   rcases c with rfl|rfl|rfl
   all_goals
    refine AMP.enter Tryz.func116 rfl (Yaa rfl) (fun pn=> ?_)
    simp only[Tryz.f116]
    have nx:=aI @ew trivial
    refine' Zex
    all_goals first|exact⟨trivial,trivial⟩|exact⟨rfl,trivial⟩|exact⟨rfl,rfl⟩|exact⟨trivial,rfl⟩|(exfalso;omega)|trace_state
  ·rw[if_neg c]at hA
   by_cases c2:n=125\/n=124
   ·rw[if_pos c2]at hA
    subst hA
    have hfail:=Zdq 11
    rcases c2 with rfl|rfl
    all_goals
     refine AMP.enter Tryz.func116 rfl (Yaa rfl) (fun pn=> ?_)
     simp only[Tryz.f116]
     have nx:=trivial
     refine' Zex
     all_goals first|exact⟨trivial,trivial⟩|exact⟨rfl,trivial⟩|exact⟨rfl,rfl⟩|exact⟨trivial,rfl⟩|(exfalso;omega)|trace_state
   ·rw[if_neg c2]at hA
    subst hA
    have hfail:=Zdq 10
    have d1:(n==127)=false:=by rw[Yam];omega
    have d2:(n==126)=false:=by rw[Yam];omega
    have d3:(n==123)=false:=by rw[Yam];omega
    have d4:(n==125)=false:=by rw[Yam];omega
    have d5:(n==124)=false:=by rw[Yam];omega
    refine AMP.enter Tryz.func116 rfl (Yaa rfl) (fun pn=> ?_)
    simp only[Tryz.f116]
    have nx:=aI @d1 (aI @d2 (aI @d3 (aI @d4 (aI @d5 trivial))))
    refine' Zex
    all_goals first|exact⟨trivial,trivial⟩|exact⟨rfl,trivial⟩|exact⟨rfl,rfl⟩|exact⟨trivial,rfl⟩|(exfalso;omega)|trace_state
end
end Go.Proofs.YtimhmpdfioihlaaGreatDoor
namespace Go.Proofs.YtimhmpdfioihlaaGreatDoor
set_option maxRecDepth 20000
open Go Go.Abs Nat
attribute [local irreducible] AW AWL AC FW CW CWr IntKind.wrap
open MB
theorem ZC8.kp:type_of% (@Z2 [0,2,3,4,25]):= @Z2 [0,2,3,4,25]
theorem ZC8.cl {p:Prop}(h:p:=by
 first
  |refine AWL.cM (f:=155) [(0,0),(1002,1002)] ZkS rfl rfl rfl rfl rfl rfl rfl (hf11) ?_
  |refine AWL.cM (f:=155) [(0,0),(1002,1002)] ZkS rfl rfl rfl rfl rfl rfl rfl (hf10) ?_
  |refine AWL.cM (f:=171) [(0,0),(1002,1002)] ZCv rfl rfl rfl rfl rfl rfl rfl (hsg) ?_
 all_goals(apply_rules (newGoals:= .nonDependentOnly) only[dep];exact())):p:=h
open ZC8 ZdR in
theorem Zvd (b:List Int)(hb:bytes b)(hlen:b.length<=1000000000)(r:Rd)(hr:ZcB b r):AM Tryz.prog 170 [.ptr 0 0] (rdM 0 1002 b r) [0] (fun v m=>v= .int .i64 (ZfY b r).1/\m=rdM 0 1002 b (ZfY b r).2):=by
 have hf11:=Za9 b r 11
 have hsg:=Zlm b hb hlen 33 r
 have hf10:=Za9 b (ZfH b 33 r).2 10
 obtain⟨A,hA⟩: ∃A,ZfY b r=A:=⟨_,rfl⟩
 obtain⟨B,hB⟩: ∃B,Zjw b r=B:=⟨_,rfl⟩
 rw[hA]
 unfold ZfY at hA
 rw[hB]at hA
 unfold Zjw at hB
 have hp0:=hr.p0
 have hp1:=hr.p1
 generalize ZfH b 33 r=z at hsg hf10 hB
 obtain⟨n,r1⟩:=z
 simp only at hsg hf10 hB
 have hB2:B=(n,if n<0 then Zah r1 10 else r1):=hB.symm
 clear hB
 generalize Zah r1 10=r2 at hf10 hB2
 generalize Zah r 11=r3 at hf11 hA
 obtain⟨p,o,j,er⟩:=r
 obtain⟨p1,o1,j1,er1⟩:=r1
 obtain⟨p2,o2,j2,er2⟩:=r2
 obtain⟨p3,o3,j3,er3⟩:=r3
 simp only at hp0 hp1 hA
 obtain⟨k,rfl⟩: ∃k:Nat,p=k:=⟨p.toNat,by omega⟩
 have ew:IntKind.i64.wrap ((k:Int)+1)=(k:Int)+1:=Zc _ (by omega) (by omega)
 rw[Yap]at hA
 unfold rdM at hf11 hf10 hsg ⊢
 refine AM.enter Tryz.func170 rfl (Yaa rfl) (fun pn=> ?_)
 simp only[Tryz.f170]
 by_cases h:(k:Int)<b.length
 ·rw[if_pos h]at hA
  have hx:=hb _ (Zbw (show k<b.length by omega))
  obtain⟨x,hxx⟩: ∃x,b.getD k 0=x:=⟨_,rfl⟩
  rw[hxx]at hA hx
  have hx1:=hx.1
  have hx2:=hx.2
  have ex:IntKind.i64.wrap x=x:=Zc _ (by omega) (by omega)
  have ex2:IntKind.i64.wrap (x-128)=x-128:=Zc _ (by omega) (by omega)
  by_cases c1:ZfX x
  ·rw[if_pos c1]at hA
   subst hA
   unfold ZfX at c1
   rcases c1 with rfl|rfl|rfl|rfl
   all_goals
    have nx:=aI @ew (aI @hxx (aI @ex (aI @ex2 trivial)))
    refine' ZfD
    all_goals first|exact⟨trivial,trivial⟩|exact⟨rfl,trivial⟩|exact⟨rfl,rfl⟩|exact⟨trivial,rfl⟩|(exfalso;omega)|trace_state
  ·rw[if_neg c1]at hA
   by_cases c2:ZdG x
   ·rw[if_pos c2]at hA
    subst hA
    unfold ZdG at c2
    rcases c2 with rfl|rfl
    all_goals
     have nx:=aI @ew (aI @hxx (aI @ex (aI @ex2 trivial)))
     refine' ZfD
     all_goals first|exact⟨trivial,trivial⟩|exact⟨rfl,trivial⟩|exact⟨rfl,rfl⟩|exact⟨trivial,rfl⟩|(exfalso;omega)|trace_state
   ·rw[if_neg c2]at hA
    subst hA
    unfold ZfX at c1
    unfold ZdG at c2
    by_cases hn:n<0
    ·rw[if_pos hn]at hB2
     subst hB2
     have nx:=aI @ew (aI @hxx (aI @ex (aI @ex2 trivial)))
     refine' ZfD
     all_goals first|exact⟨trivial,trivial⟩|exact⟨rfl,trivial⟩|exact⟨rfl,rfl⟩|exact⟨trivial,rfl⟩|(exfalso;omega)|trace_state
    ·rw[if_neg hn]at hB2
     subst hB2
     have nx:=aI @ew (aI @hxx (aI @ex (aI @ex2 trivial)))
     refine' ZfD
     all_goals first|exact⟨trivial,trivial⟩|exact⟨rfl,trivial⟩|exact⟨rfl,rfl⟩|exact⟨trivial,rfl⟩|(exfalso;omega)|trace_state
 ·rw[if_neg h]at hA
  subst hA
  by_cases hn:n<0
  ·rw[if_pos hn]at hB2
   subst hB2
   have nx:=aI @ew trivial
   refine' ZfD
   all_goals first|exact⟨trivial,trivial⟩|exact⟨rfl,trivial⟩|exact⟨rfl,rfl⟩|exact⟨trivial,rfl⟩|(exfalso;omega)|trace_state
  ·rw[if_neg hn]at hB2
   subst hB2
   have nx:=aI @ew trivial
   refine' ZfD
   all_goals first|exact⟨trivial,trivial⟩|exact⟨rfl,trivial⟩|exact⟨rfl,rfl⟩|exact⟨trivial,rfl⟩|(exfalso;omega)|trace_state
end Go.Proofs.YtimhmpdfioihlaaGreatDoor
namespace Go.Proofs.YtimhmpdfioihlaaGreatDoor
set_option maxRecDepth 20000
open Go Go.Abs Nat
attribute [local irreducible] AW AWL AC FW CW CWr IntKind.wrap
section
theorem ZyA {b:List Int}{s k en:Nat}(h:s+k<=en):List.take k (List.drop s (List.take en b))=List.take k (List.drop s b):=by
 rw[List.drop_take,List.take_take,Nat.min_eq_left (by omega)]
theorem ZyB {b:List Int}{s k en:Nat}(h:s+k<=en)(he:en<=b.length):V.view (((s:Int)+(k:Int)).toNat-s) 1 (Zi .u8 (List.take (((s:Int)+(k:Int)).toNat-s) (List.take (((s:Int)+(k:Int)).toNat-s) (List.drop s b))))=V.view (List.take ((s:Int)+(k:Int)-(s:Int)).toNat (List.drop s (List.take en b))).length 1 (Zi .u8 (List.take ((s:Int)+(k:Int)-(s:Int)).toNat (List.drop s (List.take en b)))):=by
 rw[show((s:Int)+(k:Int)).toNat-s=k by omega,show((s:Int)+(k:Int)-(s:Int)).toNat=k by omega,ZyA h,List.take_take,Nat.min_self]
 congr 1
 rw[Yar,Yaw];omega
open MB
theorem ZC9.cl {p:Prop}(h:p:=by
 first
  |refine AWL.cMP (f:=50) [(0,0)] Zrw rfl rfl rfl rfl rfl rfl rfl (hnum) ?_ ?_
  |refine AWL.cMP (f:=49) [(0,0)] ZEI rfl rfl rfl rfl rfl rfl rfl (hpart) ?_ ?_
 all_goals(apply_rules (newGoals:= .nonDependentOnly) only[dep];exact())):p:=h
theorem ZC9.rt {p:Prop}(h:p:=by
 first|(refine AW.frzRet 2 rfl rfl ?_;(try refine' Zf))
 all_goals(apply_rules (newGoals:= .nonDependentOnly) only[dep];exact())):p:=h
open ZC9 ZeA Zm in
theorem Znm {b:List Int}{p:Int}{en:Nat}(h:okT b p en):TF 76 [] b en p (Zdp (b.take en) p) (fun l=> .view l.length 1 (Zi .u8 l)):=by
 have hnum:=ZcC h
 have hnm:=fun n t=>Zbo h (n:=n) (t:=t)
 have hlen:=h.len
 obtain⟨A,hA⟩: ∃A,Zdp (b.take en) p=A:=⟨_,rfl⟩
 rw[hA]
 unfold Zdp Zg0 at hA
 unfold TF OKR ERR tpM at hnum
 unfold TF OKR ERR tpM
 rcases hz:nmT (b.take en) p with⟨e,t⟩|⟨n,t⟩
 all_goals
  rw[hz]at hA hnum hnm
  simp only[bnd,ZoN]at hA hnum
 ·subst hA
  have hpart:True:=trivial
  refine AMP.enter Tryz.func76 rfl (Yaa rfl) (fun pn=> ?_)
  simp only[Tryz.f76]
  have nx:=trivial
  refine' Zlf
  all_goals first|exact⟨trivial,trivial⟩|exact⟨rfl,trivial⟩|exact⟨rfl,rfl⟩|exact⟨trivial,rfl⟩|(exfalso;omega)|trace_state
 ·obtain⟨h2,h3,h4⟩:=hnm _ _ rfl
  have hpart:=Zln h2 n h4
  rw[hlen]at hA
  by_cases c:n<=en-t
  ·rw[if_neg (by omega)]at hA
   unfold tpM at hpart
   simp only[c,true_and,not_true_eq_false,false_and]at hpart
   obtain⟨s,rfl⟩: ∃s:Nat,t=s:=⟨t.toNat,by have:=h2.p0;omega⟩
   obtain⟨k,rfl⟩: ∃k:Nat,n=k:=⟨n.toNat,by omega⟩
   have he:=h2.he
   subst hA
   refine AMP.enter Tryz.func76 rfl (Yaa rfl) (fun pn=> ?_)
   simp only[Tryz.f76]
   have nx:=trivial
   refine' Zlf
   all_goals exact⟨ZyB (by omega) (by omega),trivial⟩
  ·rw[if_pos (by omega)]at hA
   unfold tpM at hpart
   simp only[c,not_false_eq_true,true_and,false_and]at hpart
   subst hA
   refine AMP.enter Tryz.func76 rfl (Yaa rfl) (fun pn=> ?_)
   simp only[Tryz.f76]
   have nx:=trivial
   refine' Zlf
   all_goals first|exact⟨trivial,trivial⟩|exact⟨rfl,trivial⟩|exact⟨rfl,rfl⟩|exact⟨trivial,rfl⟩|(exfalso;omega)|trace_state
end
end Go.Proofs.YtimhmpdfioihlaaGreatDoor
