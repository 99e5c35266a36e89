/- What is read of a number is no shorter than what is written of it. -/
import Derived.Test.YtimhmpdfioihlaaGreatDoorGV6
import Derived.Test.YtimhmpdfioihlaaGreatDoorGWP
set_option linter.unusedSimpArgs false
set_option linter.unusedVariables false
namespace Go.Proofs.YtimhmpdfioihlaaGreatDoor
set_option maxRecDepth 20000
open Go Go.Abs
theorem ZC3 (k:Nat):(2:Int)^(7*(k+1))=128*2^(7*k):=by
 rw[show 7*(k+1)=7*k+7 by omega,Int.pow_add,Int.mul_comm];rfl
theorem Zng (bits:Int): ∀(xs:List Int) (k:Nat) (v at_:Int),bytes xs->(uRd bits xs (7*k) v at_).2.2=0->
 ∃m:Nat,(uRd bits xs (7*k) v at_).1=v+m*2^(7*k)/\((ZhK m).length:Int)<=(uRd bits xs (7*k) v at_).2.1-at_
 |[],_,_,_,_,h=>by simp[uRd]at h
 |x::t,k,v,at_,hb,h=>by
  have hx:=hb x (List.mem_cons_self ..)
  rw[uRd]at h ⊢
  split at h
  ·cases h
  ·rename_i c
   rw[if_neg c]
   by_cases h128:x<128
   ·rw[if_pos h128]at h ⊢
    refine⟨(x%128).toNat,?_,?_⟩
    ·simp only;rw[Int.toNat_of_nonneg (by omega)]
    ·rw[ZhK,if_pos (by omega)];simp only[Yag,List.length_nil];omega
   ·rw[if_neg h128]at h ⊢
    rw[show 7*k+7=7*(k+1)by omega]at h ⊢
    obtain⟨m,h1,h2⟩:=Zng bits t (k+1) _ _ (fun y hy=>hb y (Yaq _ hy)) h
    refine⟨(x%128).toNat+128*m,?_,?_⟩
    ·rw[h1,ZC3,Int.natCast_add,Int.natCast_mul,Int.toNat_of_nonneg (by omega),Int.add_mul,Int.add_assoc]
     congr 2
     rw[<- Int.mul_assoc,Int.mul_comm (m:Int)];rfl
    ·rw[ZhK]
     split
     ·simp only[Yag,List.length_nil];omega
     ·rw[show((x%128).toNat+128*m)/128=m by omega,Yag];omega
theorem Zu6 {b:List Int}(hb:bytes b){p:Int}(h0:0<=p/\p<=b.length)(h:0<=(Zav b p).2):((uB (Zav b p).1).length:Int)<=(Zav b p).2-p:=by
 unfold Zav at h ⊢
 by_cases c:(Zbg b p 32).2.2=0
 ·rw[if_neg (fun h=>h c)]at h ⊢
  have hb2:=ZcK hb h0 c
  unfold Zbg at c hb2 ⊢
  rw[if_neg (by omega)]at c hb2 ⊢
  obtain⟨m,h1,h2⟩:=Zng 32 (b.drop p.toNat) 0 0 p (fun x hx=>hb x (List.mem_of_mem_drop hx)) c
  rw[Nat.mul_zero]at h1 h2
  simp only at hb2 ⊢
  have e:((uRd 32 (b.drop p.toNat) 0 0 p).1%18446744073709551616).toNat=m:=by
   rw[h1]at hb2 ⊢
   simp only[Int.pow_zero,Int.mul_one,Int.zero_add]at hb2 ⊢
   omega
  unfold uB
  rw[e];exact h2
 ·rw[if_pos c]at h;exact absurd h (by decide)
theorem Znh (bits:Int)(h64:bits<=64): ∀(xs:List Int) (k:Nat) (v at_:Int),bytes xs->0<=v->v<2^(7*k)->7*(k:Int)<bits->(sRd bits xs (7*k) v at_).2.2=0->
 ∃m:Int,(sRd bits xs (7*k) v at_).1=v+m*2^(7*k)/\((ZdD m).length:Int)<=(sRd bits xs (7*k) v at_).2.1-at_/\ -2^(bits-7*k-1).toNat<=m/\m<2^(bits-7*k-1).toNat
 |[],_,_,_,_,_,_,_,h=>by simp[sRd]at h
 |x::t,k,v,at_,hb,hv0,hv1,hk,h=>by
  have hx:=hb x (List.mem_cons_self ..)
  have hp:(0:Int)<2^(7*k):=Int.pow_pos (by decide)
  rw[sRd]at h ⊢
  split at h
  ·cases h
  ·rename_i c
   rw[if_neg c]
   by_cases h128:x<128
   ·rw[if_pos h128]at h ⊢
    have hsx: -64<=sx x/\sx x<=63:=by unfold sx;split<;>omega
    refine⟨sx x,?_,?_,?_⟩
    ·simp only
     unfold ZwF sx
     rw[show 7*k+7-1=7*k+6 by omega,Int.pow_add,Int.pow_add,show(2:Int)^6=64 from rfl,show(2:Int)^7=128 from rfl]
     generalize (2:Int)^(7*k)=P at *
     have hy:0<=x%128/\x%128<128:=by omega
     generalize x%128=y at *
     by_cases h6:y>=64
     ·rw[if_pos h6,if_neg (by
        have:=Int.mul_le_mul_of_nonneg_right (c:=P) h6 (by omega)
        omega),Int.sub_mul]
      omega
     ·rw[if_neg h6,if_pos (by
        have:=Int.mul_le_mul_of_nonneg_right (c:=P) (show y<=63 by omega) (by omega)
        omega)]
    ·rw[ZdD,if_pos hsx];simp only[Yag,List.length_nil];omega
    ·by_cases h7:bits-7*k<=7
     ·have hd: ¬(sx x/2^(bits-((7*k:Nat):Int)-1).toNat≠0/\sx x/2^(bits-((7*k:Nat):Int)-1).toNat≠ -1):=fun hh=>c ⟨by omega,.inl hh⟩
      rw[show(bits-((7*k:Nat):Int)-1)=bits-7*(k:Int)-1 by omega]at hd
      have hq:(0:Int)<2^(bits-7*(k:Int)-1).toNat:=Int.pow_pos (by decide)
      generalize (2:Int)^(bits-7*(k:Int)-1).toNat=Q at *
      have h1:=Int.lt_ediv_add_one_mul_self (sx x) hq
      have h2:=Int.ediv_mul_le (sx x) (Int.ne_of_gt hq)
      by_cases e0:sx x/Q=0
      ·rw[e0]at h1 h2;omega
      ·have e1:sx x/Q= -1:=Classical.byContradiction fun hn=>hd ⟨e0,hn⟩
       rw[e1]at h1 h2;omega
     ·have h3:(2:Int)^6<=2^(bits-7*(k:Int)-1).toNat:=by exact_mod_cast Nat.pow_le_pow_right (by decide) (by omega)
      rw[show(2:Int)^6=64 from rfl]at h3
      omega
   ·rw[if_neg h128]at h ⊢
    have hbig:bits-7*k>7:=by
      apply Classical.byContradiction;intro hh;exact c ⟨by omega,.inr (by omega)⟩
    have hv':=Zd5 hv0 hv1 (low:=x%128) (m:=7) (by omega) (by show _<(128:Int);omega)
    rw[show 7*k+7=7*(k+1)by omega]at h hv' ⊢
    obtain⟨m,h1,h2,h3,h4⟩:=Znh bits h64 t (k+1) _ _ (fun y hy=>hb y (Yaq _ hy)) hv'.1 hv'.2 (by omega) h
    have hpw:(2:Int)^(bits-7*(k:Int)-1).toNat=128*2^(bits-7*((k+1:Nat):Int)-1).toNat:=by
      rw[show(bits-7*(k:Int)-1).toNat=(bits-7*((k+1:Nat):Int)-1).toNat+7 by omega,Int.pow_add,Int.mul_comm];rfl
    refine⟨x%128+128*m,?_,?_,?_,?_⟩
    ·rw[h1,ZC3,Int.add_mul,Int.add_assoc]
     congr 2
     rw[<- Int.mul_assoc,Int.mul_comm m]
    ·rw[ZdD]
     split
     ·simp only[Yag,List.length_nil];omega
     ·rw[show(x%128+128*m)/128=m by omega,Yag];omega
    ·rw[hpw];omega
    ·rw[hpw];omega
theorem Zgs {b:List Int}(hb:bytes b){p bits:Int}(hbt:1<=bits/\bits<=64)(h0:0<=p/\p<=b.length)(h:(Zak b p bits).2.2=0):((ZdD (Zak b p bits).1).length:Int)<=(Zak b p bits).2.1-p/\ -2^(bits-1).toNat<=(Zak b p bits).1/\(Zak b p bits).1<2^(bits-1).toNat:=by
 unfold Zak at h ⊢
 rw[if_neg (by omega)]at h ⊢
 obtain⟨m,h1,h2,h3,h4⟩:=Znh bits hbt.2 (b.drop p.toNat) 0 0 p (fun x hx=>hb x (List.mem_of_mem_drop hx)) (Int.le_refl 0) (by decide) (by omega) h
 rw[Nat.mul_zero]at h1 h2
 have e:(sRd bits (b.drop p.toNat) 0 0 p).1=m:=by rw[h1];simp
 rw[e]
 simp only[Int.natCast_zero,Int.mul_zero,Int.sub_zero]at h3 h4
 exact⟨h2,h3,h4⟩
end Go.Proofs.YtimhmpdfioihlaaGreatDoor
