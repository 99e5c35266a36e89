/- section. -/
import Derived.Test.YtimhmpdfioihlaaGreatDoorDP
import Derived.Test.YtimhmpdfioihlaaGreatDoorGPreV
import Derived.Test.YtimhmpdfioihlaaGreatDoorGCB
import Derived.Test.YtimhmpdfioihlaaGreatDoorGMMv
import Derived.Test.YtimhmpdfioihlaaGreatDoorGENSElem
import Derived.Test.YtimhmpdfioihlaaGreatDoorGV6
import Derived.Test.YtimhmpdfioihlaaGreatDoorGEB
import Derived.Test.YtimhmpdfioihlaaGreatDoorMT6s
set_option linter.unusedSimpArgs false
set_option linter.unusedVariables false
set_option maxHeartbeats 12800000
namespace Go.Proofs.YtimhmpdfioihlaaGreatDoor
set_option maxRecDepth 20000
open Go Go.Abs Nat
attribute [local irreducible] AW AWL AC FW CW CWr IntKind.wrap
section
def OKS (x:Res Mod)(b:List Int)(en:Nat)(v:V)(mm:Mem):Prop:=match x with
 |.ok (m,t)=>v= .tup []/\mm=tpM 0 b t en++[(1,⟨false,Zb9 m⟩)]
 |.error _=>False
def ERS (x:Res Mod)(m:Mod)(b:List Int)(en:Nat)(ch:List PanicEntry)(mm:Mem):Prop:=match x with
 |.ok _=>False
 |.error (e,t)=>ch=Zyz e/\mm=tpM 0 b t en++[(1,⟨false,Zb9 m⟩)]
theorem ZF8.NM:type_of% @MB.NM/\type_of% @Zb9.eq_1:=
 ⟨MB.NM,@Zb9.eq_1⟩
open ZF8
theorem ZAj.kp:type_of% (@Z2 [0,1,2,3,6]):= @Z2 [0,1,2,3,6]
theorem ZAj.cl {p:Prop}(h:p:=by
 first
  |refine AWL.cMP (f:=78) [(0,0)] ZHe rfl rfl rfl rfl rfl rfl rfl (q) ?_ ?_
  |refine AWL.cMP (f:=80) [(0,0)] ZHg rfl rfl rfl rfl rfl rfl rfl (q) ?_ ?_
  |refine AWL.cMP (f:=82) [(0,0)] ZEl rfl rfl rfl rfl rfl rfl rfl (q) ?_ ?_
  |refine AWL.cMP (f:=83) [(0,0),(3,3)] ZHi rfl rfl rfl rfl rfl rfl rfl (q) ?_ ?_
  |refine AWL.cMP (f:=87) [(0,0)] ZHl rfl rfl rfl rfl rfl rfl rfl (q) ?_ ?_
  |refine AWL.cMP (f:=89) [(0,0)] ZHn rfl rfl rfl rfl rfl rfl rfl (q) ?_ ?_
  |refine AWL.cMP (f:=91) [(0,0)] ZHp rfl rfl rfl rfl rfl rfl rfl (q) ?_ ?_
  |refine AWL.cMP (f:=93) [(0,0)] ZHr rfl rfl rfl rfl rfl rfl rfl (q) ?_ ?_
  |refine AWL.cMP (f:=95) [(0,0)] ZHt rfl rfl rfl rfl rfl rfl rfl (q) ?_ ?_
  |refine AWL.cMP (f:=50) [(0,0)] Zrw rfl rfl rfl rfl rfl rfl rfl (q) ?_ ?_
 all_goals(apply_rules (newGoals:= .nonDependentOnly) only[dep];exact())):p:=h
open ZAj Zm in
theorem ZBE {b:List Int}{p:Int}{en:Nat}(h:okT b p en)(id:Int)(hid:1<=id/\id<=11)(m:Mod):AMP Tryz.prog 52 [.ptr 0 0,.int .u8 id,.ptr 1 0] (tpM 0 b p en++[(1,⟨false,Zb9 m⟩)]) [0,1] (OKS (Znj (b.take en) id m p) b en) (ERS (Znj (b.take en) id m p) m b en):=by
 obtain⟨A,hA⟩: ∃A,Znj (b.take en) id m p=A:=⟨_,rfl⟩
 rw[hA]
 unfold OKS ERS tpM
 have hs:id=1\/id=2\/id=3\/id=4\/id=5\/id=6\/id=7\/id=8\/id=9\/id=10\/id=11:=by omega
 rcases hs with rfl|hs
 case' inl=>
  have q:=ZvL h 256 (by decide) ZHf (one:=Zqw (b.take en)) (fun t ht=>ZBx ht) (fun t a q ht hq=>(ZvY ht hq).1)
  (try simp only[OKR,ERR,ZlY,ZlZ,tpM]at q)
  have hA:bnd (Z3 (b.take en) 256 (Zqw (b.take en)) p) (fun l t=> .ok ({ m with types:=l },t))=A:=hA
  rcases z:Z3 (b.take en) 256 (Zqw (b.take en)) p with⟨e,t⟩|⟨l,t⟩
  all_goals
   rw[z]at hA q
   simp only[Zk,Zn]at hA q
   subst hA
 case' inr=>
  rcases hs with rfl|hs
  case' inl=>
   have q:=ZvM h 512 (by decide) ZHh (one:=Zqx (b.take en)) (fun t ht=>Zny ht) (fun t a q ht hq=>(ZvZ ht hq).1)
   (try simp only[OKR,ERR,ZlY,ZlZ,tpM]at q)
   have hA:bnd (Z3 (b.take en) 512 (Zqx (b.take en)) p) (fun l t=> .ok ({ m with imports:=l },t))=A:=hA
   rcases z:Z3 (b.take en) 512 (Zqx (b.take en)) p with⟨e,t⟩|⟨l,t⟩
   all_goals
    rw[z]at hA q
    simp only[Zk,Zn]at hA q
    subst hA
  case' inr=>
   rcases hs with rfl|hs
   case' inl=>
    have q:=Zhb h 512 (by decide) Zrw (one:=nmT (b.take en)) (fun t ht=>ZcC ht) (fun t a q ht hq=>(Zbo ht hq).1)
    (try simp only[OKR,ERR,ZlY,ZlZ,tpM]at q)
    have hA:bnd (Z3 (b.take en) 512 (nmT (b.take en)) p) (fun l t=> .ok ({ m with funcs:=l },t))=A:=hA
    rcases z:Z3 (b.take en) 512 (nmT (b.take en)) p with⟨e,t⟩|⟨l,t⟩
    all_goals
     rw[z]at hA q
     simp only[Zk,Zn,ZiD]at hA q
     subst hA
   case' inr=>
    rcases hs with rfl|hs
    case' inl=>
     have q:=Znu h 512 (by decide) ZHj (one:=ZoO (b.take en)) (fun t ht=>ZyZ ht) (fun t a q ht hq=>(ZvX ht hq).1)
     (try simp only[OKR,ERR,ZlY,ZlZ,tpM]at q)
     have hA:bnd (Z3 (b.take en) 512 (ZoO (b.take en)) p) (fun l t=> .ok ({ m with tables:=l },t))=A:=hA
     rcases z:Z3 (b.take en) 512 (ZoO (b.take en)) p with⟨e,t⟩|⟨l,t⟩
     all_goals
      rw[z]at hA q
      simp only[Zk,Zn]at hA q
      subst hA
    case' inr=>
     rcases hs with rfl|hs
     case' inl=>
      have q:=Znu h 512 (by decide) ZHk (one:=Zjx (b.take en) 16) (fun t ht=>Zy0 ht) (fun t a q ht hq=>(Zo1 ht hq).1)
      (try simp only[OKR,ERR,ZlY,ZlZ,tpM]at q)
      have hA:bnd (Z3 (b.take en) 512 (Zjx (b.take en) 16) p) (fun l t=> .ok ({ m with mems:=l },t))=A:=hA
      rcases z:Z3 (b.take en) 512 (Zjx (b.take en) 16) p with⟨e,t⟩|⟨l,t⟩
      all_goals
       rw[z]at hA q
       simp only[Zk,Zn]at hA q
       subst hA
     case' inr=>
      rcases hs with rfl|hs
      case' inl=>
       have q:=ZrS h 512 (by decide) ZHm (one:=Zg1 (b.take en)) (fun t ht=>ZrZ ht) (fun t a q ht hq=>(ZqS ht hq).1)
       (try simp only[OKR,ERR,ZlY,ZlZ,tpM]at q)
       have hA:bnd (Z3 (b.take en) 512 (Zg1 (b.take en)) p) (fun l t=> .ok ({ m with globals:=l },t))=A:=hA
       rcases z:Z3 (b.take en) 512 (Zg1 (b.take en)) p with⟨e,t⟩|⟨l,t⟩
       all_goals
        rw[z]at hA q
        simp only[Zk,Zn]at hA q
        subst hA
      case' inr=>
       rcases hs with rfl|hs
       case' inl=>
        have q:=ZvO h 512 (by decide) ZHo (one:=Zqy (b.take en)) (fun t ht=>Zr0 ht) (fun t a q ht hq=>(Zv0 ht hq).1)
        (try simp only[OKR,ERR,ZlY,ZlZ,tpM]at q)
        have hA:bnd (Z3 (b.take en) 512 (Zqy (b.take en)) p) (fun l t=> .ok ({ m with exports:=l },t))=A:=hA
        rcases z:Z3 (b.take en) 512 (Zqy (b.take en)) p with⟨e,t⟩|⟨l,t⟩
        all_goals
         rw[z]at hA q
         simp only[Zk,Zn]at hA q
         subst hA
       case' inr=>
        rcases hs with rfl|hs
        case' inl=>
         have q:=ZcC h
         unfold TF OKR ERR tpM at q
         have hA:bnd (nmT (b.take en) p) (fun l t=> .ok ({ m with start:=l },t))=A:=hA
         rcases z:nmT (b.take en) p with⟨e,t⟩|⟨l,t⟩
         all_goals
          rw[z]at hA q
          simp only[Zk,Zn]at hA q
          subst hA
        case' inr=>
         rcases hs with rfl|hs
         case' inl=>
          have q:=ZrT h 512 (by decide) ZHq (one:=Zg2 (b.take en)) (fun t ht=>ZyX ht) (fun t a q ht hq=>(ZqT ht hq).1)
          (try simp only[OKR,ERR,ZlY,ZlZ,tpM]at q)
          have hA:bnd (Z3 (b.take en) 512 (Zg2 (b.take en)) p) (fun l t=> .ok ({ m with elems:=l },t))=A:=hA
          rcases z:Z3 (b.take en) 512 (Zg2 (b.take en)) p with⟨e,t⟩|⟨l,t⟩
          all_goals
           rw[z]at hA q
           simp only[Zk,Zn]at hA q
           subst hA
         case' inr=>
          rcases hs with rfl|hs
          case' inl=>
           have q:=ZvP h 512 (by decide) ZHs (one:=Zg4 (b.take en)) (fun t ht=>Zy1 ht) (fun t a q ht hq=>(ZqV ht hq).1)
           (try simp only[OKR,ERR,ZlY,ZlZ,tpM]at q)
           have hA:bnd (Z3 (b.take en) 512 (Zg4 (b.take en)) p) (fun l t=> .ok ({ m with codes:=l },t))=A:=hA
           rcases z:Z3 (b.take en) 512 (Zg4 (b.take en)) p with⟨e,t⟩|⟨l,t⟩
           all_goals
            rw[z]at hA q
            simp only[Zk,Zn]at hA q
            subst hA
          case' inr=>
           subst hs
           have q:=ZrU h 512 (by decide) ZHu (one:=Zg3 (b.take en)) (fun t ht=>ZyY ht) (fun t a q ht hq=>(ZqU ht hq).1)
           (try simp only[OKR,ERR,ZlY,ZlZ,tpM]at q)
           have hA:bnd (Z3 (b.take en) 512 (Zg3 (b.take en)) p) (fun l t=> .ok ({ m with datas:=l },t))=A:=hA
           rcases z:Z3 (b.take en) 512 (Zg3 (b.take en)) p with⟨e,t⟩|⟨l,t⟩
           all_goals
            rw[z]at hA q
            simp only[Zk,Zn]at hA q
            subst hA
 all_goals
  clear h
  simp only[Zb9]
  refine AMP.enter Tryz.func52 rfl (Yaa rfl) (fun pn=> ?_)
  simp only[Tryz.f52]
  have nx:=trivial
  refine' ZxF
  all_goals first|exact⟨trivial,trivial⟩|exact⟨rfl,trivial⟩|exact⟨rfl,rfl⟩|exact⟨trivial,rfl⟩|(exfalso;omega)|trace_state
end
end Go.Proofs.YtimhmpdfioihlaaGreatDoor
namespace Go.Proofs.YtimhmpdfioihlaaGreatDoor
set_option maxRecDepth 20000
open Go Go.Abs
theorem ZBF (s:List UInt8)(hl:s.length<=1000000000):Zsm s:=by
 have h:=ZrL (sI s) (Zq1 s) (by rw[Zns];exact hl)
 rw[ZAf]at h
 exact h
end Go.Proofs.YtimhmpdfioihlaaGreatDoor
