/- instr.Of. -/
import Derived.Test.YtimhmpdfioihlaaGreatDoorDP
import Derived.Test.YtimhmpdfioihlaaGreatDoorGPreV
import Derived.Test.YtimhmpdfioihlaaGreatDoorGV6
import Derived.Test.YtimhmpdfioihlaaGreatDoorGPU
set_option linter.unusedSimpArgs false
set_option linter.unusedVariables false
set_option maxHeartbeats 12800000
namespace Go.Proofs.YtimhmpdfioihlaaGreatDoor
open Go Go.Abs
attribute [local irreducible] AW AWL AC FW CW CWr IntKind.wrap
def O5 (op:Int)(R:List Row)(n:Nat)(i:Int):St:={ n:=72,slots:=[(0,.int .i64 op),(2,.ptr 2 0),(3,.bool false),(16,.view n 5 (Zqo R)),(17,.int .i64 n),(18,.int .i64 i)],mem:=[(2,⟨false,[.int .i64 0,.int .i64 0,.bool false,.ref 3003 0 0 1,.ref 3004 0 0 1]⟩),(3003,⟨true,[]⟩),(3004,⟨true,[]⟩)] }
def O11 (fm lm:Int)(pl:Bool)(B:List Int)(n:Nat)(k:Int)(o:Bool)(I U:List Int):St:={ n:=72,slots:=[(2,.ptr 2 0),(3,.bool false),(7,.ptr 7 0),(8,.bool o),(42,.ref 42 0 n 1),(43,.int .i64 n),(44,.int .i64 k)],mem:=[(2,⟨false,[.int .i64 0,.int .i64 0,.bool false,.ref 3003 0 0 1,.ref 3004 0 0 1]⟩),(3003,⟨true,[]⟩),(3004,⟨true,[]⟩),(7,⟨false,[.int .i64 fm,.int .i64 lm,.bool pl,.ref 8003 0 I.length 1,.ref 8004 0 U.length 1]⟩),(8003,⟨true,Zi .i64 I⟩),(8004,⟨true,Zi .i64 U⟩),(42,⟨true,Zi .u8 B⟩)] }
theorem ZrM:(ZwE.all fun r=>decide (r.2.2.2.2.length<=5))=true:=by decide +kernel
theorem ZHG.sd {p:Prop}(h:p:=by first|exact Zxk):p:=h
open ZHG in
set_option maxRecDepth 8000 in
theorem ZFE (op:Int):AC Tryz.prog 128 [.int .i64 op]
 (fun r m=>r= .tup [ZAJ (ofS op).1,.bool (ofS op).2]/\m=[(3003,Zi .i64 (ofS op).1.2.2.2.1),(3004,Zi .i64 (ofS op).1.2.2.2.2)]):=by
 have hpa:=Zyl op
 refine AC.enter Tryz.func128 rfl (Yaa rfl) ?_
 simp only[Tryz.f128]
 obtain⟨R,hR⟩: ∃R,ZuK op=R:=⟨_,rfl⟩
 rw[hR]at hpa
 obtain⟨n,hn⟩: ∃n,R.length=n:=⟨_,rfl⟩
 have hnl:n<=66:=by
  rw[<- hn,<- hR];unfold ZuK;split
  ·exact Nat.le_refl 66
  ·show 42<=66;decide
 have hsm: ∀k,k<n->(R.getD k Zjp).2.2.2.2.length<=5:=by
  intro k hk
  have hm:R.getD k Zjp∈ZwE:=by
   have h1:R.getD k Zjp∈R:=by rw[show R.getD k Zjp=R[k]'(by omega)from by simp[List.getD,show k<R.length by omega]];exact List.getElem_mem _
   rw[<- hR]at h1 ⊢
   unfold ZuK at h1 ⊢;unfold ZwE
   split at h1
   ·rename_i h;rw[if_pos h];exact List.mem_append_right _ h1
   ·rename_i h;rw[if_neg h];exact List.mem_append_left _ h1
  exact of_decide_eq_true (Yat.1 ZrM _ hm)
 by_cases hop:op>=64768
 case' pos=>
  have hRv:R=ZeF:=by rw[<- hR];exact if_pos hop
  have hnn:n=66:=by rw[<- hn,hRv];rfl
  have nx:=trivial
  refine' Zew
 case' neg=>
  have hRv:R=ZdC:=by rw[<- hR];exact if_neg hop
  have hnn:n=42:=by rw[<- hn,hRv];rfl
  have nx:=trivial
  refine' Zew
 all_goals(
  refine AW.loop [0,2,3,16,17,18] [2,3003,3004] (fun m st=> ∃(i:Nat),st=O5 op R n i/\i<=n/\m=n-i/\ ∀j,j<i->op<(R.getD j Zjp).1\/op>(R.getD j Zjp).2.1) ?_ ?_
  ·exact⟨_,0,by rw[hRv,hnn];rfl,Nat.zero_le _,rfl,fun j hj=>absurd hj (Nat.not_lt_zero _)⟩
  rintro m st ⟨i,rfl,hi,rfl,hall⟩
  have e5:IntKind.i64.wrap ((i:Int)+1)=((i+1:Nat):Int):=Zc _ (by omega) (by omega)
  by_cases hin:i<n
  ·have hld:=Zyg (l:=R) (k:=i) (by omega)
   have hroom:=Zyh (l:=R) (k:=i) (by omega)
   have hsml:=hsm i hin
   by_cases hno:op<(R.getD i Zjp).1\/op>(R.getD i Zjp).2.1
   ·have hall2: ∀j,j<i+1->op<(R.getD j Zjp).1\/op>(R.getD j Zjp).2.1:=fun j hj=>by
     by_cases e:j<i
     ·exact hall j e
     ·obtain rfl:j=i:=by omega
      exact hno
    generalize R.getD i Zjp=r at hld hno
    obtain⟨r0,r1,fm,lm,g⟩:=r
    simp only[ZCd]at hno hld
    have nx:=aI @e5 (aI @hld trivial)
    refine' Zew
    all_goals try simp(disch:=omega) only[NSX,Nat.reduceBEq,Nat.reduceAdd,Nat.reduceMul,Int.reduceToNat,Nat.reduceSub,TY,List.set_cons_zero,List.set_cons_succ,SLS,Zb,Zb5,Zas,O5,O11,e5]
    all_goals first
     |exact⟨n-(i+1),by omega,i+1,rfl,by omega,rfl,hall2⟩
     |(exfalso;omega)|trace_state
   ·have hf:=Zyi (op:=op) (l:=R) (k:=i) (by omega) hall hno
    rw[hpa]at hf
    have hof:ofS op=(ZuJ (R.getD i Zjp),true):=by unfold ofS;rw[hf]
    generalize R.getD i Zjp=r at hld hno hof hsml
    obtain⟨r0,r1,fm,lm,g⟩:=r
    simp only[ZCd]at hno hld hsml
    have hno1: ¬op<r0:=fun h=>hno (.inl h)
    have hno2: ¬r1<op:=fun h=>hno (.inr h)
    have nx:=aI @hld trivial
    refine' Zew
    refine AW.loop [2,3,7,8,42,43,44] [2,3003,3004,7,8003,8004,42] (fun m st=> ∃k:Nat,st=O11 fm lm (!g==[]) (Zjr g) g.length k (ZlV ((Zjr g).take k)).1 (ZlV ((Zjr g).take k)).2.1 (ZlV ((Zjr g).take k)).2.2/\k<=g.length/\m=g.length-k) ?_ ?_
    ·exact⟨_,0,rfl,Nat.zero_le _,rfl⟩
    rintro m st ⟨k,rfl,hk,rfl⟩
    have e6:IntKind.i64.wrap ((k:Int)+1)=((k+1:Nat):Int):=Zc _ (by omega) (by omega)
    have hbl:=Zas g
    have hsl:=Zyk ((Zjr g).take k)
    rw[Yar]at hsl
    by_cases hkg:k<g.length
    ·have hst:=ZdS (l:=Zjr g) (k:=k) (by omega)
     have hss:=Zm4 ((Zjr g).take k) ((Zjr g).getD k 0)
     rw[<- hst]at hss
     have hby:0<=(Zjr g).getD k 0/\(Zjr g).getD k 0<=255:=by
      rw[ZAI];have:=(g.getD k 0).toNat_lt;omega
     obtain⟨c,hcc⟩: ∃c,(Zjr g).getD k 0=c:=⟨_,rfl⟩
     rw[hcc]at hss hby
     generalize ZlV ((Zjr g).take k)=z at hss hsl
     obtain⟨o,I,U⟩:=z
     simp only at hss hsl
     have s58:c=58->ZlV ((Zjr g).take (k+1))=(true,I,U):=fun h=>by rw[hss,ZCe,if_pos h]
     have sT:c≠58->o=true->ZlV ((Zjr g).take (k+1))=(true,I,U++[Zyj c]):=fun h h2=>by subst h2;rw[hss,ZCe,if_neg h];rfl
     have sF:c≠58->o=false->ZlV ((Zjr g).take (k+1))=(false,I++[Zyj c],U):=fun h h2=>by subst h2;rw[hss,ZCe,if_neg h];rfl
     have t1:c=108->Zyj c=126:=fun h=>if_pos h
     have t2:c≠108->c=118->Zyj c=123:=fun h h2=>by unfold Zyj;rw[if_neg h,if_pos h2]
     have t3:c≠108->c≠118->Zyj c=127:=fun h h2=>by unfold Zyj;rw[if_neg h,if_neg h2]
     have nx:=aI @e6 (aI @hcc trivial)
     refine' Zew
     all_goals try simp(disch:=omega) only[NSX,Nat.reduceBEq,Nat.reduceAdd,Nat.reduceMul,Int.reduceToNat,Nat.reduceSub,TY,List.set_cons_zero,List.set_cons_succ,SLS,Zb,Zb5,Zas,O5,O11,e6]
     all_goals first
      |exact⟨g.length-(k+1),by omega,k+1,by rw[s58 (by omega)],by omega,rfl⟩
      |exact⟨g.length-(k+1),by omega,k+1,by have ho:o=true:=(by assumption);subst ho;rw[sT (by omega) rfl,t1 (by omega),Yal,List.length_singleton],by omega,rfl⟩
      |exact⟨g.length-(k+1),by omega,k+1,by have ho:o=false:=(by assumption);subst ho;rw[sF (by omega) rfl,t1 (by omega),Yal,List.length_singleton],by omega,rfl⟩
      |exact⟨g.length-(k+1),by omega,k+1,by have ho:o=true:=(by assumption);subst ho;rw[sT (by omega) rfl,t2 (by omega) (by omega),Yal,List.length_singleton],by omega,rfl⟩
      |exact⟨g.length-(k+1),by omega,k+1,by have ho:o=false:=(by assumption);subst ho;rw[sF (by omega) rfl,t2 (by omega) (by omega),Yal,List.length_singleton],by omega,rfl⟩
      |exact⟨g.length-(k+1),by omega,k+1,by have ho:o=true:=(by assumption);subst ho;rw[sT (by omega) rfl,t3 (by omega) (by omega),Yal,List.length_singleton],by omega,rfl⟩
      |exact⟨g.length-(k+1),by omega,k+1,by have ho:o=false:=(by assumption);subst ho;rw[sF (by omega) rfl,t3 (by omega) (by omega),Yal,List.length_singleton],by omega,rfl⟩
    ·obtain rfl:k=g.length:=by omega
     rw[<- hbl,Yau]
     have nx:=trivial
     refine' Zew
     all_goals first|exact⟨trivial,trivial⟩|exact⟨rfl,trivial⟩|exact⟨rfl,rfl⟩|exact⟨trivial,rfl⟩|(rw[hof];exact⟨by cases g<;>rfl,rfl⟩)|(exfalso;omega)|trace_state
  ·obtain rfl:i=n:=by omega
   have hf:=Zry (op:=op) (l:=R) (fun j hj=>hall j (by omega))
   rw[hpa]at hf
   have hof:ofS op=(ZzW,false):=by unfold ofS;rw[hf]
   have nx:=trivial
   refine' Zew
   all_goals first|exact⟨trivial,trivial⟩|exact⟨rfl,trivial⟩|exact⟨rfl,rfl⟩|exact⟨trivial,rfl⟩|(rw[hof];exact⟨rfl,rfl⟩)|(exfalso;omega)|trace_state
   )
end Go.Proofs.YtimhmpdfioihlaaGreatDoor
