/- EncodeLimits: the modules of the last three kinds. -/
import Derived.Test.YtimhmpdfioihlaaGreatDoorGV6
import Derived.Test.YtimhmpdfioihlaaGreatDoorLGL
set_option linter.unusedSimpArgs false
set_option linter.unusedVariables false
namespace Go.Proofs.YtimhmpdfioihlaaGreatDoor
set_option maxRecDepth 20000
open Go Go.Abs
theorem wk_gen {T I F X E C D:V}{ty:List Zig}{im:List Zjy}{fu:List Int}{ex:List Zjz}{el:List ZcS}{co:List Zb8}{da:List ZbS}
 (hT:Wk T (.view ty.length 2 (ty.flatMap ZhS))) (hI:Wk I (.view im.length 3 (im.flatMap ZjF))) (hF:Wk F (.view fu.length 1 (Zi .i64 fu))) (hX:Wk X (.view ex.length 3 (ex.flatMap ZjG)))
 (hE:Wk E (.view el.length 2 (el.flatMap ZcW))) (hC:Wk C (.view co.length 2 (co.flatMap ZjH))) (hD:Wk D (.view da.length 2 (da.flatMap Zcp))) :
 WkL [T,I,F,.view 0 2 [],.view 0 2 [],.view 0 3 [],X,.int .i64 (-1),E,C,D] (Zb9 (lmG ty im fu ex el co da)):=
 .cons hT (.cons hI (.cons hF (.cons (Wk.refl _) (.cons (Wk.refl _) (.cons (Wk.refl _) (.cons hX (.cons (Wk.refl _) (.cons hE (.cons hC (.cons hD .nil))))))))))
theorem wT (n:Nat):Wk (.view n 2 (rp [.nils,.nils] n)) (.view (List.replicate n (⟨[],[]⟩:Zig)).length 2 ((List.replicate n (⟨[],[]⟩:Zig)).flatMap ZhS)):=by
 rw[Zwr,List.length_replicate]
 exact Wk.view (ZB2 (.cons (Fk.nils 1) (.cons (Fk.nils 1) .nil)) _)
theorem lm5 (n:Nat)(hn:n<=2000){da:List ZbS}(h:da=[]\/da=ZkE):OkM (lmG [⟨[],[]⟩] [] [0] [] [] [⟨List.replicate n 127,eI⟩] da)/\LnM (lmG [⟨[],[]⟩] [] [0] [] [] [⟨List.replicate n 127,eI⟩] da):=by
 refine ZEc h (fun x hx=>by cases hx) (fun x hx=> ?_) ?_
 ·rw[List.mem_singleton]at hx;rw[hx]
 ·have e1:Zdx ⟨List.replicate n 127,eI⟩=1+11*n+100:=by unfold Zdx;simp only[List.length_replicate];rw[ZB3]
  have e2:Zgx ⟨[],[]⟩=60:=rfl
  have e3:Zj1 0=10:=rfl
  simp only[Zaa,e1,e2,e3,List.length_cons,List.length_nil]
  omega
set_option maxRecDepth 100000 in
theorem ev5 (m1:Nat)(h:m1=0\/m1=1):Ev (lmG [⟨[],[]⟩] [] [0] [] [] [⟨List.replicate (512+m1) 127,eI⟩] []) (lmG [⟨[],[]⟩] [] [0] [] [] [⟨List.replicate (512+m1) 127,eI⟩] ZkE) m1:=by
 rcases h with rfl|rfl
 ·exact⟨(fun h=>by cases h),fun _=>⟨by decide +kernel,by decide +kernel⟩⟩
 ·exact⟨(fun _=>by decide +kernel),(fun h=>by cases h)⟩
theorem lm6 (i o n:Nat)(hi:i<=n)(ho:o<=n)(hn:n<=2000){da:List ZbS}(h:da=[]\/da=ZkE):OkM (lmG [⟨List.replicate i 123,List.replicate o 123⟩] [] [] [] [] [] da)/\LnM (lmG [⟨List.replicate i 123,List.replicate o 123⟩] [] [] [] [] [] da):=by
 refine ZEc h (fun x hx=>by cases hx) (fun x hx=>by cases hx) ?_
 have e2:Zgx ⟨List.replicate i 123,List.replicate o 123⟩=i+o+60:=by unfold Zgx;simp only[List.length_replicate]
 simp only[Zaa,e2,List.length_cons,List.length_nil]
 omega
set_option maxRecDepth 100000 in
theorem ev6 (m1:Nat)(h:m1=0\/m1=1):Ev (lmG [⟨List.replicate (32+m1) 123,List.replicate 0 123⟩] [] [] [] [] [] []) (lmG [⟨List.replicate (32+m1) 123,List.replicate 0 123⟩] [] [] [] [] [] ZkE) m1:=by
 rcases h with rfl|rfl
 ·exact⟨(fun h=>by cases h),fun _=>⟨by decide +kernel,by decide +kernel⟩⟩
 ·exact⟨(fun _=>by decide +kernel),(fun h=>by cases h)⟩
set_option maxRecDepth 100000 in
theorem ev7 (m1:Nat)(h:m1=0\/m1=1):Ev (lmG [⟨List.replicate 0 123,List.replicate (32+m1) 123⟩] [] [] [] [] [] []) (lmG [⟨List.replicate 0 123,List.replicate (32+m1) 123⟩] [] [] [] [] [] ZkE) m1:=by
 rcases h with rfl|rfl
 ·exact⟨(fun h=>by cases h),fun _=>⟨by decide +kernel,by decide +kernel⟩⟩
 ·exact⟨(fun _=>by decide +kernel),(fun h=>by cases h)⟩
theorem wCod (n:Nat){L:V}(h:Fk L (.view n 1 (Zi .i64 (List.replicate n 127)))):Wk (.view 1 2 [L,.view 1 6 [.int .i64 11,.int .i64 0,.int .i64 0,.int .u64 0,.int .u64 0,.nils]]) (.view [(⟨List.replicate n 127,eI⟩:Zb8)].length 2 ([(⟨List.replicate n 127,eI⟩:Zb8)].flatMap ZjH)):=by
 refine Zwx rfl ?_
 rw[List.flatMap_cons,List.flatMap_nil,List.append_nil]
 simp only[ZjH,List.length_replicate]
 exact .cons h (.cons (Fk.view ZB4) .nil)
theorem wSig (i o:Nat){A B:V}(hA:Fk A (.view i 1 (Zi .i64 (List.replicate i 123))))(hB:Fk B (.view o 1 (Zi .i64 (List.replicate o 123)))):Wk (.view 1 2 [A,B]) (.view [(⟨List.replicate i 123,List.replicate o 123⟩:Zig)].length 2 ([(⟨List.replicate i 123,List.replicate o 123⟩:Zig)].flatMap ZhS)):=by
 refine Zwx rfl ?_
 rw[List.flatMap_cons,List.flatMap_nil,List.append_nil]
 simp only[ZhS,List.length_replicate]
 exact .cons hA (.cons hB .nil)
end Go.Proofs.YtimhmpdfioihlaaGreatDoor
