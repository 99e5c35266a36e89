/- A library of mine: in a region that draws its order, what is read of objects that nobody in it writes is read first. -/
import Derived.Test.YtimhmpdfioihlaaGreatDoorGV6
import Derived.Test.YtimhmpdfioihlaaGreatDoorATS
set_option linter.unusedSimpArgs false
set_option linter.unusedVariables false
namespace Go.Abs
set_option maxRecDepth 20000
open Go Go.RowKit
section
variable {P:Program}{C:Ctx}{S:Nat->Prop}{β:Nat->Option BI}{st st':St}{a:Act}{w:World}{l:List Oper}{Q:Exit->St->Prop}{n:Nat}
def heldM (st:St):Mem->Prop
 |[]=>True
 |p::r=>st.obj p.1=some p.2/\p.2.cs≠[]/\heldM st r
def bothK (st:St):List Nat->Prop
 |[]=>True
 |k::r=>(∃o,st.obj k=some o/\o.cs≠[])/\bothK st r
def keptK (pn:Nat->Option BI)(L:List (Nat×Option BI)):List Nat->Prop
 |[]=>True
 |k::r=>lk L k=some (pn k)/\keptK pn L r
theorem heldM_at: ∀{M:Mem},heldM st M-> ∀k o,(k,o)∈M->st.obj k=some o/\o.cs≠[]
 |p::r,h,k,o,hk=>by
  rcases List.mem_cons.1 hk with e|hk
  ·subst e;exact⟨h.1,h.2.1⟩
  ·exact heldM_at h.2.2 k o hk
theorem bothK_at: ∀{K:List Nat},bothK st K-> ∀k∈K,∃o,st.obj k=some o/\o.cs≠[]
 |j::r,h,k,hk=>by
  rcases List.mem_cons.1 hk with e|hk
  ·subst e;exact h.1
  ·exact bothK_at h.2 k hk
theorem keptK_at {pn:Nat->Option BI}{L:List (Nat×Option BI)}: ∀{K:List Nat},keptK pn L K-> ∀k∈K,lk L k=some (pn k)
 |j::r,h,k,hk=>by
  rcases List.mem_cons.1 hk with e|hk
  ·subst e;exact h.1
  ·exact keptK_at h.2 k hk
def inM (M:Mem)(k:Nat):Bool:=M.any fun q=>q.1==k
theorem inM_mem {M:Mem}{k:Nat}(h:inM M k=true): ∃o,lk M k=some o:=by
 induction M with
 |nil=>cases h
 |cons p r ih=>
  simp only[inM,List.any_cons,Bool.or_eq_true,beq_iff_eq]at h
  simp only[lk]
  by_cases e:p.1=k
  ·exact⟨p.2,by rw[show(p.1==k)=true from by simpa using e];rfl⟩
  ·rw[show(p.1==k)=false from by simpa using e]
   exact ih (h.resolve_left e)
theorem mem_inM {M:Mem}{k:Nat}{o:ZaK}(h:(k,o)∈M):inM M k=true:=List.any_eq_true.2 ⟨_,h,by simp⟩
theorem lk_out (M:Mem): ∀(l:Mem) (k:Nat),lk (l.filter fun p=> !inM M p.1) k=if inM M k=true then none else lk l k
 |[],k=>by simp[lk]
 |p::l,k=>by
  have ih:=lk_out M l k
  cases hp:inM M p.1 with
  |true=>
   rw[List.filter_cons_of_neg (by simp[hp]),ih]
   split
   ·rfl
   ·rename_i hk
    have:p.1≠k:=fun e=>hk (e▸hp)
    simp only[lk]
    rw[show(p.1==k)=false from by simpa using this];rfl
  |false=>
   rw[List.filter_cons_of_pos (by simp[hp])]
   simp only[lk]
   by_cases e:p.1=k
   ·subst e
    simp[hp]
   ·rw[show(p.1==k)=false from by simpa using e]
    exact ih
theorem AW.drawSM {id:Nat}{L0:Array Bool}(M:Mem)(K:List Nat)(hL:Array.replicate l.length false=L0)(hm:P.follows .mixedOrders=true)(hlent:st.lent=[])(hp:ZcQ Q)(hM:heldM st M)(hKo:bothK st K)
 (hK:(M.all fun p=>K.contains p.1&&match Ztd 3 p.2.cs with|some js=>js.all K.contains|none=>false)=true)
 (h: ∀(pn:Nat->Option BI) Q',QEq Q' (fun e s=>keptK pn s.lent K/\Q e { s with lent:=[],mem:=M++s.mem })->ZcQ Q'->ATS P l Q' M L0 l.length { st with mem:=st.mem.filter fun p=> !inM M p.1,lent:=K.map (fun k=>(k,pn k))++st.mem.map fun p=>(p.1,none) }):AW P (.region id l.toArray true) Q st:=fun C a w ⟨S,β,hs0⟩=>by
 subst hL
 have h:=h β _ rfl (fun c s d hq=>⟨hq.1,hp c _ d hq.2⟩)
 have hs:=hs0.grow (w':={ w with drawn:=w.drawn+1 }) rfl rfl rfl (Nat.le_refl _) (fun _ _=>rfl) (fun _ hb=>hb) (fun _ hb=> .inl hb)
 let w1:World:={ w with drawn:=w.drawn+1 }
 have hown: ∀k bi,(st.obj k).isSome=true->β k=some bi->C.w0.heap.size<=bi.blk:=fun k bi hk hb=>by
  rcases(hs.own k bi hk hb).2 with g|⟨_,g⟩
  ·exact g
  ·rw[hlent]at g;cases g
 let C':Ctx:=⟨S,w1,fun b=> ∃k bi,(st.obj k).isSome=true/\inM M k=false/\β k=some bi/\b=bi.blk,hs.sok,fun b hb ⟨k,bi,hk,_,hb2,e⟩=>(hs.own k bi hk hb2).1 (e▸hb),C.ds⟩
 have hobj: ∀k,({ st with mem:=st.mem.filter fun p=> !inM M p.1,lent:=K.map (fun k=>(k,β k))++st.mem.map fun p=>(p.1,none) }:St).obj k=if inM M k=true then none else st.obj k:=fun k=>lk_out M st.mem k
 have hsome: ∀{k},(if inM M k=true then none else st.obj k:Option ZaK).isSome=true->inM M k=false/\(st.obj k).isSome=true:=by
  intro k hk
  cases e:inM M k with
  |true=>rw[if_pos e]at hk;cases hk
  |false=>rw[if_neg (by simp[e])]at hk;exact⟨rfl,hk⟩
 have hKb: ∀k∈K,∃bi,β k=some bi:=fun k hk=>by
  obtain⟨o,h1,h2⟩:=bothK_at hKo k hk
  rcases hs.objs k o h1 with⟨_,h3,_⟩|⟨bi,_,_,_,hb,_⟩
  ·exact absurd h3 h2
  ·exact⟨bi,hb⟩
 have hs':SR C' S β { st with mem:=st.mem.filter fun p=> !inM M p.1,lent:=K.map (fun k=>(k,β k))++st.mem.map fun p=>(p.1,none) } a w1:={
  tsize:=hs.tsize,slots:=hs.slots,defers:=hs.defers
  objs:=fun k o ho=>by
   rw[hobj]at ho
   split at ho
   ·cases ho
   ·exact hs.objs k o ho
  inj:=fun k k' bi bi' hk hk' hb hb' e=>by
   rw[hobj]at hk hk'
   exact hs.inj k k' bi bi' (hsome hk).2 (hsome hk').2 hb hb' e
  own:=fun k bi hk hb=>by
   rw[hobj]at hk
   obtain⟨g1,g2⟩:=hsome hk
   refine⟨(hs.own k bi g2 hb).1,.inr ⟨⟨k,bi,g2,g1,hb,rfl⟩,?_⟩⟩
   obtain⟨o,ho⟩:=Option.isSome_iff_exists.1 g2
   have:=Zau (show lk st.mem k=some o from ho)
   exact inHasK (List.mem_append.2 (.inr (List.mem_map.2 ⟨_,this,rfl⟩)))
  pins:=fun k bi hk=>by
   rcases List.mem_append.1 hk with hk|hk
   ·obtain⟨j,_,e⟩:=List.mem_map.1 hk
    simp only[Prod.mk.injEq]at e
    rw[<- e.1];exact e.2
   ·obtain⟨p,_,e⟩:=List.mem_map.1 hk
    cases e
  sub:=fun b hb=>hb
  snew:=fun b hb=> .inl hb
  slt:=hs.slt
  frame:=⟨rfl,rfl,rfl,Nat.le_refl _,fun _ _ _=>rfl⟩ }
 have hheld: ∀k o,(k,o)∈M-> ∃bi cur e fz,β k=some bi/\ORs S w1 β o bi cur e fz/\ ¬C'.L bi.blk/\bi.blk<w1.heap.size:=fun k o hk=>by
  obtain⟨h1,h2⟩:=heldM_at hM k o hk
  rcases hs.objs k o h1 with⟨_,h3,_⟩|⟨bi,cur,e,fz,hb,hor⟩
  ·exact absurd h3 h2
  ·refine⟨bi,cur,e,fz,hb,hor,fun⟨k',bi',g1,g2,g3,g4⟩=> ?_,(Array.getElem?_eq_some_iff.1 hor.heap).1⟩
   have:=hs.inj k k' bi bi' (by rw[h1];rfl) g1 hb g3 g4
   rw[<- this,mem_inM hk]at g2
   cases g2
 have hnone0: ∀j,¬LS (Array.replicate l.length false) j:=fun j hL=>by
  unfold LS at hL
  simp only[Array.getD_eq_getD_getElem?,Array.getElem?_replicate]at hL
  split at hL<;>cases hL
 have hsz:l.toArray.size=l.length:=by simp
 have hh:=h C' a w1 [] ⟨by simp,List.nodup_nil,fun j=>⟨fun h=>(by cases h),fun h=>absurd h (hnone0 _)⟩,fun j hj=>(by cases hj),fun i o _ hL=>absurd hL (hnone0 _)⟩ ⟨β,hs',hheld⟩
 have hw:(Code.region id l.toArray true).wp P (AQ C' fun e s=>keptK β s.lent K/\Q e { s with lent:=[],mem:=M++s.mem }) a w:=wp_region_held (S:=Hd C') hm (by rw[hsz];exact hh)
 refine wp_mono hw fun e a' w' hq=> ?_
 obtain⟨s,⟨hkept,hq⟩,S',β',hr⟩:=hq
 have hβ: ∀k∈K,β' k=β k:=fun k hk=>by
  obtain⟨bi,hb⟩:=hKb k hk
  have:=Zau (keptK_at hkept k hk)
  rw[hb]at this ⊢
  exact hr.pins k bi this
 have hMK: ∀k o,(k,o)∈M->k∈K/\ ∃js,Ztd 3 o.cs=some js/\ ∀j∈js,j∈K:=fun k o hk=>by
  have:=List.all_eq_true.1 hK _ hk
  simp only[Bool.and_eq_true]at this
  refine⟨List.contains_iff_mem.1 this.1,?_⟩
  have h2:=this.2
  split at h2
  ·rename_i js hjs
   exact⟨js,hjs,fun j hj=>List.contains_iff_mem.1 (List.all_eq_true.1 h2 j hj)⟩
  ·cases h2
 have hframe: ∀b,b<w1.heap.size-> ¬C'.L b->w'.heap[b]? = w1.heap[b]? :=hr.frame.block
 have hobj2: ∀k,({ s with lent:=[],mem:=M++s.mem }:St).obj k=(lk M k).or (s.obj k):=fun k=>Ztm M s.mem k
 have hcase: ∀k o,({ s with lent:=[],mem:=M++s.mem }:St).obj k=some o->(k,o)∈M\/s.obj k=some o:=fun k o ho=>by
  rw[hobj2]at ho
  cases e:lk M k with
  |none=>rw[e]at ho;exact .inr ho
  |some x=>rw[e]at ho;cases ho;exact .inl (Zau e)
 have hfar: ∀k bi,(s.obj k).isSome=true->β' k=some bi->w1.heap.size<=bi.blk\/C'.L bi.blk:=fun k bi hk hb=>(hr.own k bi hk hb).2.imp (fun g=>g) fun g=>g.1
 refine⟨_,hq,S',β',?_⟩
 exact{
  tsize:=hr.tsize,slots:=hr.slots,defers:=hr.defers
  objs:=fun k o ho=>by
   rcases hcase k o ho with hk|hk
   ·obtain⟨bi,cur,e,fz,hb,hor,hL,hlt⟩:=hheld k o hk
    obtain⟨hkK,js,hjs,hj⟩:=hMK k o hk
    refine .inr ⟨bi,cur,e,fz,by rw[hβ k hkK];exact hb,(hframe _ hlt hL).trans hor.heap,hor.size,hor.free,hor.fits,hor.len,fun i v hv=> ?_⟩
    obtain⟨u,hu,hu1,hu2⟩:=hor.cells i v hv
    refine⟨u,hu,hu1,?_⟩
    have hS: ∀b,S b->w'.heap[b]? = w1.heap[b]? :=fun b hb=>hframe b (hs.slt b hb) (C'.sep b hb)
    split
    ·rename_i hf;rw[if_pos hf]at hu2;exact⟨hu2.1,hu2.2.step hr.sub hS⟩
    ·rename_i hf
     rw[if_neg hf]at hu2
     obtain⟨kv,g1,g2⟩:=Zhu hjs v (List.mem_of_getElem? hv)
     exact VR.restrictA 3 g1 (fun j hj2=>hβ j (hj j (g2 j hj2))) (hu2.step hr.sub hS)
   ·exact hr.objs k o hk
  inj:=fun k k' bi bi' hk hk' hb hb' e=>by
   obtain⟨o,ho⟩:=Option.isSome_iff_exists.1 hk
   obtain⟨o',ho'⟩:=Option.isSome_iff_exists.1 hk'
   rcases hcase k o ho with hk|hk<;>rcases hcase k' o' ho' with hk'|hk'
   ·rw[hβ k (hMK k o hk).1]at hb
    rw[hβ k' (hMK k' o' hk').1]at hb'
    exact hs.inj k k' bi bi' (by rw[(heldM_at hM k o hk).1];rfl) (by rw[(heldM_at hM k' o' hk').1];rfl) hb hb' e
   ·exfalso
    rw[hβ k (hMK k o hk).1]at hb
    obtain⟨b1,_,_,_,g1,_,g3,g4⟩:=hheld k o hk
    rw[hb]at g1;cases g1
    rcases hfar k' bi' (by rw[hk'];rfl) hb' with g|g
    ·rw[<- e]at g;omega
    ·rw[<- e]at g;exact g3 g
   ·exfalso
    rw[hβ k' (hMK k' o' hk').1]at hb'
    obtain⟨b1,_,_,_,g1,_,g3,g4⟩:=hheld k' o' hk'
    rw[hb']at g1;cases g1
    rcases hfar k bi (by rw[hk];rfl) hb with g|g
    ·rw[e]at g;omega
    ·rw[e]at g;exact g3 g
   ·exact hr.inj k k' bi bi' (by rw[hk];rfl) (by rw[hk'];rfl) hb hb' e
  own:=fun k bi hk hb=>by
   obtain⟨o,ho⟩:=Option.isSome_iff_exists.1 hk
   rcases hcase k o ho with hk|hk
   ·rw[hβ k (hMK k o hk).1]at hb
    have g:=(heldM_at hM k o hk).1
    obtain⟨b1,_,_,_,g1,_,g3,g4⟩:=hheld k o hk
    rw[hb]at g1;cases g1
    refine⟨fun hS=> ?_,.inl (hown k bi (by rw[g];rfl) hb)⟩
    rcases hr.snew _ hS with h1|h1
    ·exact(hs.own k bi (by rw[g];rfl) hb).1 h1
    ·have h1:w1.heap.size<=bi.blk:=h1
     omega
   ·refine⟨(hr.own k bi (by rw[hk];rfl) hb).1,.inl ?_⟩
    rcases hfar k bi (by rw[hk];rfl) hb with g|⟨k0,b0,h1,_,h2,h3⟩
    ·exact Nat.le_trans hs.frame.size g
    ·rw[h3];exact hown k0 b0 h1 h2
  pins:=fun _ _ h=>by cases h
  sub:=fun b hb=>hr.sub b (hs.sub b hb)
  snew:=fun b hb=>(hr.snew b hb).elim (fun g=>hs.snew b g) (fun g=> .inr (Nat.le_trans hs.frame.size g))
  slt:=hr.slt
  frame:=⟨hr.frame.os.trans hs.frame.os,hr.frame.tape.trans hs.frame.tape,hr.frame.output.trans hs.frame.output,Nat.le_trans hs.frame.size hr.frame.size,fun b hb hL=>
   (hframe b (Nat.lt_of_lt_of_le hb hs.frame.size) (fun⟨k,bi,h1,_,h2,h3⟩=>by have:=hown k bi h1 h2;omega)).trans (hs.frame.block b hb hL)⟩ }
end
end Go.Abs
