/- A library of mine: in a region that draws its order, what nobody in it writes is read first. -/
import Derived.Test.YtimhmpdfioihlaaGreatDoorGV6
import Derived.OrdersHeld
import Derived.Test.YtimhmpdfioihlaaGreatDoorGRefpre
import Derived.Test.YtimhmpdfioihlaaGreatDoorGCB
set_option linter.unusedSimpArgs false
set_option linter.unusedVariables false
namespace Go.Abs
set_option maxRecDepth 20000
open Go Go.RowKit
section
variable {P:Program}{C:Ctx}{S:Nat->Prop}{β:Nat->Option BI}{st st':St}{a:Act}{w:World}{l:List Oper}{o:Oper}{Q:Exit->St->Prop}{L:Array Bool}{n:Nat}
theorem inHasK {j:Nat}{x:Option BI}: ∀{l:List (Nat×Option BI)},(j,x)∈l->ZcX l j=true
 |p::l,h=>by
  rcases List.mem_cons.1 h with rfl|h
  ·simp[ZcX]
  ·simp[ZcX,inHasK h]
def Hd (C:Ctx)(w:World):Prop:= ∀b,b<C.w0.heap.size-> ¬C.L b->w.heap[b]? = C.w0.heap[b]?
theorem hd_of (h:SR C S β st a w):Hd C w:=h.frame.block
def HeldOK (C:Ctx)(β:Nat->Option BI)(w:World)(M:Mem):Prop:= ∀k o,(k,o)∈M-> ∃bi cur e fz,β k=some bi/\ORs C.S0 w β o bi cur e fz/\ ¬C.L bi.blk/\bi.blk<C.w0.heap.size
def ATS (P:Program)(l:List Oper)(Q:Exit->St->Prop)(M:Mem)(L:Array Bool)(n:Nat)(st:St):Prop:=
 ∀(C:Ctx) (a:Act) (w:World) (ls:List Nat),Ze9 l L ls->(∃β,SR C C.S0 β st a w/\HeldOK C β w M)->wpAnyH P .any l.toArray (AQ C Q) (Hd C) n L a w
def ATH (P:Program)(l:List Oper)(Q:Exit->St->Prop)(L:Array Bool)(n:Nat)(st:St):Prop:=
 ∀(C:Ctx) (a:Act) (w:World) (ls:List Nat),Ze9 l L ls->SRx C st a w->wpAnyH P .any l.toArray (AQ C Q) (Hd C) n L a w
theorem ATH.step (R:List Nat)(hR:Region.ready .any l.toArray L=R)(hne:R≠[])
 (h: ∀i∈R,∃o L',l[i]? = some o/\L.setIfInBounds i true=L'/\AWL P l.toArray [o] (ATQ Q (ATH P l Q L' n)) st):ATH P l Q L (n+1) st:=fun C a w ls hl hs=>by
 refine wpAnyH_all hR hne fun i hi=> ?_
 obtain⟨o,L',ho,rfl,hA⟩:=h i hi
 have hi':i∈Region.ready .any l.toArray L:=by rw[hR];exact hi
 exact ZrA (fun a' w' ⟨s,h1,h2⟩=>⟨by obtain⟨S',β',h3⟩:=h2;exact hd_of h3,h1 C a' w' _ (hl.step hi') h2⟩) ho (hA C a w hs)
theorem ATH.done (hR:Region.ready .any l.toArray L=[])(h:Q .normal st):ATH P l Q L n st:=fun C a w ls hl hs=>wpAnyH_done hR ⟨st,h,hs⟩ n
theorem ATS.go {M:Mem}(h:ATH P l Q L n st):ATS P l Q M L n st:=fun C a w ls hl ⟨β,hs,_⟩=>h C a w ls hl ⟨_,β,hs⟩
def Yd (P:Program)(M:Mem)(st:St)(o:Oper)(v:V):Prop:= ∀(C:Ctx) (a:Act) (w:World) (β:Nat->Option BI),SR C C.S0 β st a w->HeldOK C β w M->
 ∃u,(∀w',Hd C w'->(execOp a.eval o).run P w'= .ok (.value u) w')/\VR C.S0 w β v u
theorem ATS.take {M:Mem}(i:Nat){L':Array Bool}{d:Nat}{v:V}(ho:l[i]? = some o)(hg:o.guard=none)(hd:o.dst=some d)(hy:Yd P M st o v)(hdn:Nat.ble (d+1) st.n=true)(hpan:ZcQ Q)
 (hchk:(Region.noSelect l.toArray&&Region.free .any l.toArray L i&&(Region.ready .any l.toArray L).contains i)=true) (hL:L.setIfInBounds i true=L') (h:ATS P l Q M L' n (st.put d v)):ATS P l Q M L (n+1) st:=fun C a w ls hl ⟨β,hs,hM⟩=>by
 subst hL
 simp only[Bool.and_eq_true]at hchk
 obtain⟨u,hu,hv⟩:=hy C a w β hs hM
 refine wpAnyH_take (v:=u) (by simpa using ho) hchk.1.1 hchk.1.2 hchk.2 ?_ (.inl ⟨by simp[Region.wanted,hg],hu⟩) (hd_of hs) ?_
 ·rw[hd];exact Zyq hpan
 ·rw[hd]
  exact h C _ w _ (hl.step (by simpa using hchk.2)) ⟨β,hs.put (Nat.le_of_ble_eq_true hdn) hv,hM⟩
theorem Yd.move {M:Mem}{x:Operand}(hop:o.op= .move x):Yd P M st o (st.ev x):=fun C a w β hs _=>⟨a.eval x,fun w' _=>by unfold execOp;simp[hop],Zag hs x⟩
theorem hd_S0 {b:Nat}(hs:SR C C.S0 β st a w)(hb:C.S0 b){w':World}(h:Hd C w'):w'.heap[b]? = w.heap[b]? :=
 (h b (C.ok.1 b hb) (C.sep b hb)).trans (hd_of hs b (C.ok.1 b hb) (C.sep b hb)).symm
theorem Yd.field {M:Mem}{t:TypeId}{x:Operand}{f:Nat}{c:Prop}{v:V}(hop:o.op= .fieldAddr t x f)(h:Zhp P t (st.ev x) f=some (c,v)):Yd P M st o v:=fun C a w β hs _=>by
 have hx:=Zag hs x
 have key: ∃u,(∀w',(Instr.fieldAt t (a.eval x) f).run P w'= .ok u w')/\VR C.S0 w β v u:=by
  generalize st.ev x=X at h hx
  generalize a.eval x=ux at hx
  unfold Zhp at h
  split at h<;>first|(cases h;done)|skip
  rename_i off b n ty hf
  obtain⟨fs,g,hfs,hg,rfl,hb,hn⟩:=ZiI hf
  cases hn0:decide (0<n)with
  |false=>rw[hn0]at h;cases h
  |true=>
   rw[hn0]at h
   simp only[cond_true]at h
   have hpos:n≠0:=by have:=of_decide_eq_true hn0;omega
   split at h<;>first|(cases h;done)|skip
   ·rename_i k o
    simp only[Option.some.injEq,Prod.mk.injEq]at h;obtain⟨rfl,rfl⟩:=h
    cases hx with
    |flat h=>cases h
    |ptr _ _ bi hbi=>
     refine⟨_,fun w'=> ?_,.ptr k (o+g.offset) bi hbi⟩
     simp[Instr.fieldAt,run_underlying hfs,hg,Instr.sureAddr,fieldPlace,Zdg hn,hpos,ZaP,Nat.add_assoc]
   ·rename_i cs
    simp only[Option.some.injEq,Prod.mk.injEq]at h;obtain⟨rfl,rfl⟩:=h
    obtain⟨b,o,us,rfl,hS,ha,hr,h1⟩:=ZgB hx
    refine⟨_,fun w'=> ?_,ZiM g.offset hS ha hr h1⟩
    simp[Instr.fieldAt,run_underlying hfs,hg,Instr.sureAddr,fieldPlace,Zdg hn,hpos,ZaP]
 obtain⟨u,h1,h2⟩:=key
 refine⟨u,fun w' _=> ?_,h2⟩
 unfold execOp
 simp only[hop,Sem.run_bind,h1 w',Result.andThen_ok,Sem.run_pure]
theorem Yd.index {M:Mem}{t:TypeId}{x i:Operand}{c:Prop}{v:V}(hop:o.op= .indexAddr t x i)(h:Zho P t (st.ev x) (st.ev i)=some (c,v))(hc:c):Yd P M st o v:=fun C a w β hs _=>by
 have hx:=Zag hs x
 have hi:=Zag hs i
 have key: ∃u,(∀w',(Instr.indexAt t (a.eval x) (a.eval i)).run P w'= .ok u w')/\VR C.S0 w β v u:=by
  generalize st.ev x=X at h hx
  generalize a.eval x=ux at hx
  generalize st.ev i=I at h hi
  generalize a.eval i=ui at hi
  unfold Zho at h
  split at h<;>first|(cases h;done)|skip
  rename_i k i
  rw[VR.int_inv hi]
  split at h<;>first|(cases h;done)|skip
  ·rename_i n sz cs
   split at h<;>first|(cases h;done)|skip
   rename_i e sz' by_ he
   obtain⟨hu,inf,hinf,rfl,rfl⟩:=Zaz he
   cases hs:sz==inf.size&&decide (0<sz)with
   |false=>rw[hs]at h;cases h
   |true=>
    rw[hs]at h
    simp only[cond_true,Option.some.injEq,Prod.mk.injEq]at h;obtain⟨rfl,rfl⟩:=h
    simp only[Bool.and_eq_true,beq_iff_eq,decide_eq_true_eq]at hs
    obtain⟨rfl,hpos⟩:=hs
    obtain⟨A,cp,rfl,hcp,hl,us,ha,hr,h1⟩:=VR.view_inv hx
    have hne:cs≠[]:=by
      intro e0;subst e0
      have:0<n*inf.size:=Nat.mul_pos (by omega) hpos
      simp at hl;omega
    obtain⟨b,o,rfl,hS,hcell⟩:=ha hne
    refine⟨_,fun w'=> ?_,ZiM (i.toNat*inf.size) (fun _=>hS) hcell hr h1⟩
    simp[Instr.indexAt,run_underlying hu,asIntOf,hc.1,hc.2,Zaw hinf,ZaP]
  ·rename_i k' off n sz
   split at h<;>first|(cases h;done)|skip
   rename_i e sz' by_ he
   obtain⟨hu,inf,hinf,rfl,rfl⟩:=Zaz he
   cases hs:sz==inf.size&&decide (0<sz)with
   |false=>rw[hs]at h;cases h
   |true=>
    rw[hs]at h
    simp only[cond_true,Option.some.injEq,Prod.mk.injEq]at h;obtain⟨rfl,rfl⟩:=h
    simp only[Bool.and_eq_true,beq_iff_eq,decide_eq_true_eq]at hs
    obtain⟨rfl,hpos⟩:=hs
    obtain⟨A,cp,rfl,hcase⟩:=VR.ref_inv hx
    rcases hcase with⟨hn0,_⟩|⟨bi,hbi,rfl,hncp,hroom⟩
    ·omega
    ·refine⟨_,fun w'=> ?_,.ptr k' (off+i.toNat*inf.size) bi hbi⟩
     simp[Instr.indexAt,run_underlying hu,asIntOf,hc.1,hc.2,Zaw hinf,ZaP,Nat.add_assoc]
  ·rename_i k' off
   split at h<;>first|(cases h;done)|skip
   rename_i e n sz he
   obtain⟨hu,inf,hinf,rfl⟩:=Ze6 he
   simp only[Option.some.injEq,Prod.mk.injEq]at h;obtain⟨rfl,rfl⟩:=h
   obtain⟨bi,hbi,rfl⟩:=VR.ptr_inv hx
   refine⟨_,fun w'=> ?_,.ptr k' (off+i.toNat*inf.size) bi hbi⟩
   simp[Instr.indexAt,run_underlying hu,asIntOf,hc.1,hc.2,Zaw hinf,ZaP,Nat.add_assoc,Instr.sureAddr]
  ·rename_i cs
   split at h<;>first|(cases h;done)|skip
   rename_i e n sz he
   obtain⟨hu,inf,hinf,rfl⟩:=Ze6 he
   simp only[Option.some.injEq,Prod.mk.injEq]at h;obtain⟨rfl,rfl⟩:=h
   obtain⟨b,o,us,rfl,hS,ha,hr,h1⟩:=ZgB hx
   refine⟨_,fun w'=> ?_,ZiM (i.toNat*inf.size) hS ha hr h1⟩
   simp[Instr.indexAt,run_underlying hu,asIntOf,hc.1,hc.2,Zaw hinf,ZaP,Instr.sureAddr]
 obtain⟨u,h1,h2⟩:=key
 refine⟨u,fun w' _=> ?_,h2⟩
 unfold execOp
 simp only[hop,Sem.run_bind,h1 w',Result.andThen_ok,Sem.run_pure]
theorem Yd.len {M:Mem}{t ty:TypeId}{x:Operand}{c:Prop}{v:V}(hop:o.op= .call { callee:= .builtin .len,args:= #[x],argTypes:= #[t] })(hty:o.type=ty)(h:ZEy P t (st.ev x)=some (c,v)):Yd P M st o v:=fun C a w β hs _=>by
 have hx:=Zag hs x
 have key: ∃u,(∀w',(Builtin.len_ #[t] ty #[a.eval x]).run P w'= .ok u w')/\VR C.S0 w β v u:=by
  generalize st.ev x=X at h hx
  generalize a.eval x=ux at hx
  unfold ZEy at h
  have slice: ∀{A:Option Addr} {n cp:Nat} {w':World},(Zgf P t).isSome=true->(Builtin.len_ #[t] ty #[.slice A n cp]).run P w'= .ok (.int .i64 n) w':=by
   intro A n cp w' he
   obtain⟨⟨e,sz,by_⟩,he⟩:=Option.isSome_iff_exists.1 he
   obtain⟨hu,_⟩:=Zaz he
   simp[Builtin.len_,run_underlying hu,goInt]
  split at h<;>first|(cases h;done)|skip
  ·rename_i s
   cases hs:ZiH P t with
   |false=>rw[hs]at h;cases h
   |true=>
    rw[hs]at h
    simp only[cond_true,Option.some.injEq,Prod.mk.injEq]at h;obtain⟨rfl,rfl⟩:=h
    rw[VR.str_inv hx]
    have e1:(⟨s.toArray⟩:ByteArray).size=s.length:=by simp[ByteArray.size]
    have hr: ∀w',(Builtin.len_ #[t] ty #[.string ⟨s.toArray⟩]).run P w'= .ok (goInt (⟨s.toArray⟩:ByteArray).size) w':=fun w'=>by
      generalize (⟨s.toArray⟩:ByteArray)=bs
      simp[Builtin.len_,run_underlying (ZaL hs)]
    rw[e1]at hr
    exact⟨_,hr,.int⟩
  all_goals
   cases he:(Zgf P t).isSome with
   |false=>rw[he]at h;cases h
   |true=>
    rw[he]at h
    simp only[cond_true,Option.some.injEq,Prod.mk.injEq]at h;obtain⟨rfl,rfl⟩:=h
    first
      |(obtain⟨A,rfl⟩:=VR.nils_inv hx;exact⟨_,fun _=>slice he,.int⟩)
      |(obtain⟨A,c,rfl,_⟩:=VR.view_inv hx;exact⟨_,fun _=>slice he,.int⟩)
      |(obtain⟨A,c,rfl,_⟩:=VR.ref_inv hx;exact⟨_,fun _=>slice he,.int⟩)
 obtain⟨u,h1,h2⟩:=key
 refine⟨u,fun w' _=> ?_,h2⟩
 have h1':=h1 w'
 unfold execOp
 subst hty
 simp only[hop,resolve,invoke,builtin,Sem.run_bind,Sem.run_pure,Result.andThen_ok,List.map_toArray,List.map_cons,List.map_nil,h1']
theorem Yd.load {M:Mem}{t:TypeId}{x:Operand}{c:Prop}{v:V}(hop:o.op= .load t x)(h:ZiL P { st with mem:=M } t (st.ev x)=some (c,v))(hc:c):Yd P M st o v:=fun C a w β hs hM=>by
 have hx:=Zag hs x
 have key: ∃u,(∀w',Hd C w'->(Instr.loadAt t (a.eval x)).run P w'= .ok u w')/\VR C.S0 w β v u:=by
  generalize st.ev x=X at h hx
  generalize a.eval x=ux at hx
  unfold ZiL at h
  split at h<;>first|(cases h;done)|skip
  rename_i b n hb hn
  split at h<;>first|(cases h;done)|skip
  ·rename_i cs
   obtain⟨bl,o,us,rfl,hS,ha0,hr,h1⟩:=ZgB hx
   have ha: ∀w',Hd C w'-> ∀(j:Nat) (v:V),cs[j]? = some v->w'.cell? ⟨bl,o+j,none⟩=some (us j):=fun w' hw j v hv=>
    (Zfx (hd_S0 hs (hS (fun e=>by rw[e]at hv;cases hv)) hw)).trans (ha0 j v hv)
   cases b with
   |true=>
    simp only[cond_true,Option.some.injEq,Prod.mk.injEq]at h;obtain⟨rfl,rfl⟩:=h
    have hget: ∀j,j<n-> ∃v,cs[j]? = some v:=fun j hj=>⟨_,List.getElem?_eq_getElem (by omega)⟩
    have hrun:=fun w' hw=>Ze7 (P:=P) (w:=w') (b:=bl) (o:=o) ((List.range n).map us) hb hn (by simp) (fun j v hj=>by
      have hjn:j<n:=by have:=(List.getElem?_eq_some_iff.1 hj).1;simpa using this
      obtain⟨v0,hv0⟩:=hget j hjn
      rw[ha w' hw j v0 hv0]
      simp[hjn]at hj
      rw[hj])
    refine⟨_,fun w' hw=>by simp only[Instr.loadAt,Instr.sureAddr,Sem.run_bind,Sem.run_pure,Result.andThen_ok];exact hrun w' hw,.flat (.fagg _ _ ?_ ?_ ?_)⟩
    ·simp;omega
    ·intro j v u hv hu
     obtain⟨hj,hv⟩:=ZbC hv
     simp[hj]at hu
     subst hu
     exact hr j v hv
    ·intro j v hv
     obtain⟨_,hv⟩:=ZbC hv
     exact h1 j v hv
   |false=>
    simp only[cond_false,Option.some.injEq,Prod.mk.injEq]at h;obtain⟨rfl,rfl⟩:=h
    obtain⟨hc,hcast⟩:=hc
    rw[Zik hcast]
    have h0:=Zcy hc
    refine⟨us 0,fun w' hw=> ?_,.flat (hr 0 _ h0)⟩
    simp only[Instr.loadAt,Instr.sureAddr,Sem.run_bind,Sem.run_pure,Result.andThen_ok]
    exact ZeU hb (by have:=ha w' hw 0 _ h0;simpa using this)
  ·rename_i k off
   split at h<;>first|(cases h;done)|skip
   rename_i o ho
   obtain⟨bi,hbi,rfl⟩:=VR.ptr_inv hx
   obtain⟨bi',cur,e,fz,hbi',hor,hL,hlt0⟩:=hM k o (Zau ho)
   rw[hbi']at hbi;cases hbi
   have hcell: ∀w',Hd C w'-> ∀i,w'.cell? ⟨bi.blk,i,none⟩=cur[i]? :=fun w' hw i=>
    (Zfx ((hw _ hlt0 hL).trans (hd_of hs _ hlt0 hL).symm)).trans (Zbc hor i)
   cases b with
   |true=>
    simp only[cond_true,Option.some.injEq,Prod.mk.injEq]at h;obtain⟨rfl,rfl⟩:=h
    have hin: ∀j,j<n-> ∃v u,o.cs[off+j]? = some v/\cur[bi.off+(off+j)]? = some u/\(if o.flat=true then v.cell1=true/\FR C.S0 w v u else VR C.S0 w β v u):=fun j hj=>by
      have hv:o.cs[off+j]? = some (o.cs[off+j]'(by omega)):=List.getElem?_eq_getElem (by omega)
      obtain⟨u,hu,_,hr⟩:=hor.cells _ _ hv
      exact⟨_,u,hv,hu,hr⟩
    have hrun:=fun w' hw=>Ze7 (P:=P) (w:=w') (b:=bi.blk) (o:=bi.off+off) ((List.range n).map fun j=>cur.getD (bi.off+(off+j)) undef) hb hn (by simp) (fun j v hj=>by
      have hjn:j<n:=by have:=(List.getElem?_eq_some_iff.1 hj).1;simpa using this
      obtain⟨v0,u0,_,hu0,_⟩:=hin j hjn
      rw[hcell w' hw,Nat.add_assoc,hu0]
      simp[hjn,Array.getD_eq_getD_getElem?,hu0]at hj
      rw[hj])
    refine⟨_,fun w' hw=>by simp only[Instr.loadAt,Instr.sureAddr,Sem.run_bind,Sem.run_pure,Result.andThen_ok];exact hrun w' hw,?_⟩
    have hpt: ∀(j:Nat) (v:V) (u:Value),((o.cs.drop off).take n)[j]? = some v->((List.range n).map fun j=>cur.getD (bi.off+(off+j)) undef).toArray[j]? = some u->(if o.flat=true then v.cell1=true/\FR C.S0 w v u else VR C.S0 w β v u):=by
      intro j v u hv hu
      obtain⟨hj,hv⟩:=ZbC hv
      rw[List.getElem?_drop]at hv
      obtain⟨v0,u0,hv0,hu0,hr⟩:=hin j hj
      rw[hv0]at hv;cases hv
      simp[hj,Array.getD_eq_getD_getElem?,hu0]at hu
      subst hu
      exact hr
    cases hfl:o.flat with
    |true=>
     refine .flat (.fagg _ _ (by simp;omega) (fun j v u hv hu=> ?_) (fun j v hv=> ?_))
     ·have:=hpt j v u hv hu;rw[if_pos hfl]at this;exact this.2
     ·have hj:j<n:=(ZbC hv).1
      have:=hpt j v _ hv (by simp[hj];rfl)
      rw[if_pos hfl]at this;exact this.1
    |false=>
     refine .agg _ _ (by simp;omega) (fun j v u hv hu=> ?_)
     have:=hpt j v u hv hu;rw[if_neg (by simp[hfl])]at this;exact this
   |false=>
    have hlt:off<o.cs.length/\v=o.cs.getD off .any:=by
      simp only[cond_false]at h
      cases hfl:o.flat with
      |true=>
       rw[hfl]at h
       simp only[cond_true,Option.some.injEq,Prod.mk.injEq]at h;obtain⟨rfl,rfl⟩:=h
       exact⟨hc.1,Zik hc.2⟩
      |false=>
       rw[hfl]at h
       simp only[cond_false,Option.some.injEq,Prod.mk.injEq]at h;obtain⟨rfl,rfl⟩:=h
       exact⟨hc,rfl⟩
    obtain⟨hlt,rfl⟩:=hlt
    have h0:=Zcy hlt
    obtain⟨u,hu,_,hr⟩:=hor.cells _ _ h0
    refine⟨u,fun w' hw=> ?_,?_⟩
    ·simp only[Instr.loadAt,Instr.sureAddr,Sem.run_bind,Sem.run_pure,Result.andThen_ok]
     exact ZeU hb (by rw[hcell w' hw];exact hu)
    ·cases hfl:o.flat with
     |true=>rw[if_pos hfl]at hr;exact .flat hr.2
     |false=>rw[if_neg (by simp[hfl])]at hr;exact hr
 obtain⟨u,h1,h2⟩:=key
 refine⟨u,fun w' hw=> ?_,h2⟩
 unfold execOp
 simp only[hop,Sem.run_bind,h1 w' hw,Result.andThen_ok,Sem.run_pure]
theorem AW.drawS {id:Nat}{L0:Array Bool}(hL:Array.replicate l.length false=L0)(hm:P.follows .mixedOrders=true)(hlent:st.lent=[])(hp:ZcQ Q)
 (h: ∀Q',QEq Q' (fun e s=>Q e { s with lent:=[] })->ZcQ Q'->ATS P l Q' [] L0 l.length { st with lent:=st.mem.map fun p=>(p.1,none) }):AW P (.region id l.toArray true) Q st:=fun C a w ⟨S,β,hs0⟩=>by
 subst hL
 have h:=h _ rfl (fun c s d hq=>hp c _ d hq)
 have hs:=hs0.grow (w':={ w with drawn:=w.drawn+1 }) rfl rfl rfl (Nat.le_refl _) (fun _ _=>rfl) (fun _ hb=>hb) (fun _ hb=> .inl hb)
 let w1:World:={ w with drawn:=w.drawn+1 }
 let C':Ctx:=⟨S,w1,fun b=> ∃k bi,(st.obj k).isSome=true/\β k=some bi/\b=bi.blk,hs.sok,fun b hb ⟨k,bi,hk,hb2,e⟩=>(hs.own k bi hk hb2).1 (e▸hb),C.ds⟩
 have hown: ∀k bi,(st.obj k).isSome=true->β k=some bi->C.w0.heap.size<=bi.blk:=fun k bi hk hb=>by
  rcases(hs.own k bi hk hb).2 with g|⟨_,g⟩
  ·exact g
  ·rw[hlent]at g;cases g
 have hs':SR C' S β { st with lent:=st.mem.map fun p=>(p.1,none) } a w1:={
  tsize:=hs.tsize,slots:=hs.slots,defers:=hs.defers,objs:=hs.objs,inj:=hs.inj
  own:=fun k bi hk hb=>⟨(hs.own k bi hk hb).1,.inr ⟨⟨k,bi,hk,hb,rfl⟩,by
   obtain⟨o,ho⟩:=Option.isSome_iff_exists.1 hk
   have:=Zau (show lk st.mem k=some o from ho)
   exact inHasK (List.mem_map.2 ⟨_,this,rfl⟩)⟩⟩
  pins:=fun k bi hk=>by
   obtain⟨p,_,e⟩:=List.mem_map.1 hk
   cases e
  sub:=fun b hb=>hb
  snew:=fun b hb=> .inl hb
  slt:=hs.slt
  frame:=⟨rfl,rfl,rfl,Nat.le_refl _,fun _ _ _=>rfl⟩ }
 have hnone0: ∀j,¬LS (Array.replicate l.length false) j:=fun j hL=>by
  unfold LS at hL
  simp only[Array.getD_eq_getD_getElem?,Array.getElem?_replicate]at hL
  split at hL<;>cases hL
 have hsz:l.toArray.size=l.length:=by simp
 have hh:=h C' a w1 [] ⟨by simp,List.nodup_nil,fun j=>⟨fun h=>(by cases h),fun h=>absurd h (hnone0 _)⟩,fun j hj=>(by cases hj),fun i o _ hL=>absurd hL (hnone0 _)⟩ ⟨β,hs',fun k o hk=>by cases hk⟩
 have hw:(Code.region id l.toArray true).wp P (AQ C' fun e s=>Q e { s with lent:=[] }) a w:=wp_region_held (S:=Hd C') hm (by rw[hsz];exact hh)
 refine wp_mono hw fun e a' w' hq=> ?_
 obtain⟨s,hq,S',β',hr⟩:=hq
 refine⟨_,hq,S',β',?_⟩
 exact{
  tsize:=hr.tsize,slots:=hr.slots,defers:=hr.defers,objs:=hr.objs,inj:=hr.inj
  own:=fun k bi hk hb=>⟨(hr.own k bi hk hb).1,.inl (by
   rcases(hr.own k bi hk hb).2 with g|⟨⟨k0,b0,h1,h2,h3⟩,_⟩
   ·exact Nat.le_trans hs.frame.size g
   ·rw[h3];exact hown k0 b0 h1 h2)⟩
  pins:=fun _ _ h=>by cases h
  sub:=fun b hb=>hr.sub b (hs.sub b hb)
  snew:=fun b hb=>(hr.snew b hb).elim (fun g=>hs.snew b g) (fun g=> .inr (Nat.le_trans hs.frame.size g))
  slt:=hr.slt
  frame:=⟨hr.frame.os.trans hs.frame.os,hr.frame.tape.trans hs.frame.tape,hr.frame.output.trans hs.frame.output,Nat.le_trans hs.frame.size hr.frame.size,fun b hb hL=>
   (hr.frame.block b (Nat.lt_of_lt_of_le hb hs.frame.size) (fun⟨k,bi,h1,h2,h3⟩=>by have:=hown k bi h1 h2;omega)).trans (hs.frame.block b hb hL)⟩ }
end
end Go.Abs
