/- A flat object may be told of as one whose cells may own, and back. -/
import Derived.Test.YtimhmpdfioihlaaGreatDoorGV6
import Derived.Test.YtimhmpdfioihlaaGreatDoorGCB
set_option linter.unusedSimpArgs false
set_option linter.unusedVariables false
namespace Go.Abs
set_option maxRecDepth 20000
open Go Go.RowKit
section
variable {P:Program}{C:Ctx}{S:Nat->Prop}{β:Nat->Option BI}{st:St}{a:Act}{w:World}{Q:Exit->St->Prop}
theorem SR.objTo (h:SR C S β st a w){k:Nat}{o o':ZaK}(ho:st.obj k=some o)(hor:OR S w β k o->OR S w β k o'):SR C S β (st.setObj k o') a w:=by
 have hsome: ∀j,((st.setObj k o').obj j).isSome=(st.obj j).isSome:=by
  intro j
  rw[St.obj_setObj]
  by_cases hj:j=k
  ·subst hj;rw[if_pos rfl,ho];rfl
  ·rw[if_neg hj]
 refine{ tsize:=h.tsize,slots:=h.slots,defers:=h.defers,objs:= ?_,inj:= ?_,own:= ?_,pins:=h.pins,sub:=h.sub,snew:=h.snew,slt:=h.slt,frame:=h.frame }
 ·intro j x hx
  rw[St.obj_setObj]at hx
  by_cases hj:j=k
  ·subst hj
   rw[if_pos rfl]at hx
   cases hx
   exact hor (h.objs j _ ho)
  ·rw[if_neg hj]at hx
   exact h.objs j x hx
 ·intro j j' bi bi' h1 h2
  rw[hsome]at h1 h2
  exact h.inj j j' bi bi' h1 h2
 ·intro j bi h1
  rw[hsome]at h1
  exact h.own j bi h1
theorem AW.unf {c:Code}(k:Nat){cs:List V}(ho:st.obj k=some ⟨true,cs⟩)(hne:cs≠[])(h:AW P c Q (st.setObj k ⟨false,cs⟩)):AW P c Q st:=fun C a w ⟨S,β,hs⟩=>h C a w ⟨S,β,hs.objTo ho fun hr=>by
 rcases hr with⟨_,h2,_⟩|⟨bi,cur,e,fz,hbi,hr⟩
 ·exact absurd h2 hne
 ·refine .inr ⟨bi,cur,e,fz,hbi,hr.heap,hr.size,hr.free,hr.fits,hr.len,fun j v hv=> ?_⟩
  obtain⟨u,hu,h1,h2⟩:=hr.cells j v hv
  rw[if_pos rfl]at h2
  exact⟨u,hu,h1,by rw[if_neg (by simp)];exact .flat h2.2⟩⟩
def V.plain1:V->Bool
 |.int _ _=>true
 |.str _=>true
 |.bool _=>true
 |.nils=>true
 |.view _ _ _=>true
 |_=>false
theorem AW.fla {c:Code}(k:Nat){cs:List V}(ho:st.obj k=some ⟨false,cs⟩)(hf:cs.all V.plain1=true)(h:AW P c Q (st.setObj k ⟨true,cs⟩)):AW P c Q st:=fun C a w ⟨S,β,hs⟩=>h C a w ⟨S,β,hs.objTo ho fun hr=>by
 rcases hr with⟨h1,_⟩|⟨bi,cur,e,fz,hbi,hr⟩
 ·cases h1
 ·refine .inr ⟨bi,cur,e,fz,hbi,hr.heap,hr.size,hr.free,hr.fits,hr.len,fun j v hv=> ?_⟩
  obtain⟨u,hu,h1,h2⟩:=hr.cells j v hv
  rw[if_neg (by simp)]at h2
  have hp:=List.all_eq_true.1 hf v (List.mem_of_getElem? hv)
  refine⟨u,hu,h1,?_⟩
  rw[if_pos rfl]
  cases h2 with
  |flat h2=>refine⟨?_,h2⟩;cases v<;>first|rfl|cases hp
  |any=>cases hp
  |ref=>cases hp
  |ptr=>cases hp
  |agg=>cases hp
  |tup=>cases hp
  |fn=>cases hp
  |mfn=>cases hp⟩
theorem AW.relend {c:Code}(Y:List (Nat×Option BI))(h1:st.mem.all (fun p=>ZcX Y p.1)=true)(h2:Y.all (fun p=>p.2.isNone)=true)(h:AW P c Q { st with lent:=Y }):AW P c Q st:=fun C a w ⟨S,β,hs⟩=>h C a w ⟨S,β,{
 tsize:=hs.tsize,slots:=hs.slots,defers:=hs.defers,objs:=hs.objs,inj:=hs.inj
 own:=fun k bi hk hb=>by
  have:=hs.own k bi hk hb
  refine⟨this.1,this.2.imp id fun hL=>⟨hL.1,?_⟩⟩
  obtain⟨o,ho⟩:=Option.isSome_iff_exists.1 hk
  exact List.all_eq_true.1 h1 (k,o) (Zau ho)
 pins:=fun k bi hk=>by
  have:=List.all_eq_true.1 h2 _ hk
  cases this
 sub:=hs.sub,snew:=hs.snew,slt:=hs.slt,frame:=hs.frame }⟩
end
end Go.Abs
