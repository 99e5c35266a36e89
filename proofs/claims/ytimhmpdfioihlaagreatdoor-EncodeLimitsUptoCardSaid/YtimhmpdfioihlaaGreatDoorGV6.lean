/- A library of mine, for walks over abstract states: part 5. It imports the kit alone. -/
import Derived.Test.YtimhmpdfioihlaaGreatDoorV4
set_option linter.unusedSimpArgs false
set_option linter.unusedVariables false
namespace Go.Abs
open Go Go.RowKit
section
variable {P:Program}{C:Ctx}{S:Nat->Prop}{β:Nat->Option BI}{st st':St}{a:Act}{w w':World}{rest:List Oper}{o:Oper}{Q:Exit->St->Prop}{ops:Array Oper}
def St.keepS (st:St)(is:List Nat):St:={ n:=st.n,slots:=is.map fun i=>(i,st.get i),mem:=st.mem,lent:=st.lent }
theorem SR.keepS (h:SR C S β st a w)(is:List Nat):SR C S β (st.keepS is) a w:=by
 refine h.forget rfl rfl (fun i=> ?_) (fun k o ho=>ho)
 have:=Zso st.get is i
 simp only[St.get,St.keepS]at this ⊢
 rw[this]
 split
 ·exact .inl rfl
 ·exact .inr rfl
theorem AW.keepS {c:Code}(is:List Nat)(h:AW P c Q (st.keepS is)):AW P c Q st:=fun C a w ⟨S,β,hs⟩=>h C a w ⟨S,β,hs.keepS is⟩
end
end Go.Abs
namespace Go.Abs
open Go Go.RowKit
def QEq (a b:Exit->St->Prop):Prop:=a=b
theorem QEq.mp {a b:Exit->St->Prop}(h:QEq a b){e:Exit}{st:St}(k:b e st):a e st:=by rw[show a=b from h];exact k
theorem QEq.pan {a b:Exit->St->Prop}(h:QEq a b)(k:ZcQ b):ZcQ a:=by rw[show a=b from h];exact k
section
variable {P:Program}{st:St}{Q:Exit->St->Prop}
def ZEE:Op->Bool
 |.alloc _|.box _ _=>false
 |_=>true
theorem AWL.opN {ops:Array Oper}{o:Oper}{rest:List Oper}{st':St}{sl:TypeId->List (Nat×Nat)}{c:Prop}(hg:o.guard=none)(hn:ZEE o.op=true)(h:aop P sl o st=some (c,st'))(hc:c)(k:AWL P ops rest Q st'):AWL P ops (o::rest) Q st:=AWL.op hg h hc k
theorem AW.seqQ {x y:Code}(h: ∀Q',QEq Q' (Zbd (AW P y Q) Q)->AW P x Q' st):AW P (.seq x y) Q st:=AW.seq (h _ rfl)
theorem AW.blockQ {id:Nat}{c:Code}(h: ∀Q',QEq Q' (Go.Abs.blockQ id Q)->AW P c Q' st):AW P (.block id c) Q st:=AW.block (h _ rfl)
end
end Go.Abs
namespace Go.Abs
open Go Go.RowKit
theorem NSa:(((type_of% @ZmX/\type_of% @Zp5)/\(type_of% @ZmY/\type_of% @Zhz))/\((type_of% @Zfz/\type_of% @ZhA)/\(type_of% @Zp6/\type_of% @ZhB))):=
 ⟨⟨⟨@ZmX,@Zp5⟩,⟨@ZmY,@Zhz⟩⟩,⟨⟨@Zfz,@ZhA⟩,⟨@Zp6,@ZhB⟩⟩⟩
theorem NSb:(((type_of% @ZmW/\type_of% @Zkm)/\(type_of% @List.filterMap_cons.{0,0}/\type_of% @List.filterMap_nil.{0,0}))/\((type_of% @Option.map_some.{0,0}/\type_of% @Option.map_none.{0,0})/\(type_of% @St.add.eq_1/\type_of% @St.wm.eq_1))):=
 ⟨⟨⟨@ZmW,@Zkm⟩,⟨@List.filterMap_cons,@List.filterMap_nil⟩⟩,⟨⟨@Option.map_some,@Option.map_none⟩,⟨@St.add.eq_1,@St.wm.eq_1⟩⟩⟩
theorem NSc:(((type_of% @St.wipe1.eq_1/\type_of% @St.wipeL.eq_1)/\(type_of% @St.wipeL.eq_2/\type_of% @ZaG.eq_1))/\((type_of% @ZaG.eq_2/\type_of% @Zbm.eq_1)/\(type_of% @Zbm.eq_2/\type_of% @NS))):=
 ⟨⟨⟨@St.wipe1.eq_1,@St.wipeL.eq_1⟩,⟨@St.wipeL.eq_2,@ZaG.eq_1⟩⟩,⟨⟨@ZaG.eq_2,@Zbm.eq_1⟩,⟨@Zbm.eq_2,@NS⟩⟩⟩
theorem NSX:type_of% @NSa/\type_of% @NSb/\type_of% @NSc:=⟨@NSa,@NSb,@NSc⟩
end Go.Abs
namespace Go.Abs
open Go Go.RowKit
def ZtI (o:Oper):Bool:=
 match o.op with
 |.extract .. =>o.guard.isNone&&o.dst.isSome
 |_=>false
def EG (l:List Oper)(i:Nat):Prop:= ∃o,l[i]? = some o/\ZtI o=true
def ZtJ (ops:List Oper)(i:Nat):Bool:=
 match ops[i]? with
 |some o=> !ZtI o||(List.range ops.length).all fun j=>i==j||((Zgj ops).getD i 0).testBit j||(match ops[j]? with
  |some p=>o.apart ops.toArray p||p.after.toList.any fun e=>Region.binds .any e&&e.on==i
  |none=>true)
 |none=>true
structure ZH1 (l:List Oper)(k:Nat):Prop where
 le:k<=l.length
 topo: ∀i o j,l[i]? = some o->Zs4 o j->j<i
 dist: ∀i j o p d,i<k->j<k-> ¬FL l i-> ¬FL l j->l[i]? = some o->l[j]? = some p->o.dst=some d->p.dst=some d->i=j
 reads: ∀i j o p d,i<k->j<k-> ¬FL l i-> ¬FL l j->l[i]? = some o->l[j]? = some p->p.dst=some d->d∈o.looksAt l.toArray->((Zgj l).getD i 0).testBit j=true
 tail: ∀i j,k<=i->i<l.length->j<i->((Zgj l).getD i 0).testBit j=true\/j∈ZcP l k\/(j<k/\EG l j)
 nosel:Region.noSelect l.toArray=true
 fl:ZCb l (Array.replicate l.length false) (ZcP l k)=true
 free: ∀i,i<k->ZtJ l i=true
section
variable {P:Program}{C:Ctx}{S:Nat->Prop}{β:Nat->Option BI}{st st':St}{a:Act}{w w':World}{l:List Oper}{rest:List Oper}{o:Oper}{Q:Exit->St->Prop}
end
end Go.Abs
namespace Go.Abs
open Go Go.RowKit
section
variable {P:Program}{C:Ctx}{S:Nat->Prop}{β:Nat->Option BI}{st st':St}{a:Act}{w w':World}{l:List Oper}{rest:List Oper}{o:Oper}
end
section
variable {P:Program}{b:Bool}{nq ms F:List Nat}{M:List (Nat×ZaK)}{U:List (Nat×Nat)}{i:Nat}{o:Oper}{rest:List Oper}{ops:Array Oper}{Q:Exit->St->Prop}{st:St}
end
end Go.Abs
namespace Go.Abs
open Go Go.RowKit
section
variable {P:Program}{C:Ctx}{S:Nat->Prop}{β β':Nat->Option BI}{st st':St}{a:Act}{w w':World}{o:Oper}{Q:Exit->St->Prop}{ops:Array Oper}{rest:List Oper}
end
end Go.Abs
namespace Go.Abs
open Go Go.RowKit
section
variable {P:Program}{C:Ctx}{S:Nat->Prop}{β:Nat->Option BI}{st st':St}{a:Act}{w w':World}{Q:Exit->St->Prop}{ops:Array Oper}{rest:List Oper}{o:Oper}{b:Bool}
end
theorem AWL.frzSt {P:Program}{st:St}{Q:Exit->St->Prop}{ops:Array Oper}{rest:List Oper}{o:Oper}(k:Nat)(_hd:o.dst=none)(_hk:(st.obj k).isSome=true)(h:AWL P ops (o::rest) Q (st.freeze k)):AWL P ops (o::rest) Q st:=AWL.frz k h
def ZEF (P:Program)(t:TypeId):Bool:=
 match P.underlying t with
 |some (.pointer _)=>true
 |_=>false
theorem ZtK {P:Program}{t:TypeId}(h:ZEF P t=true): ∃e,P.underlying t=some (.pointer e):=by
 unfold ZEF at h
 split at h
 ·rename_i e he;exact⟨e,he⟩
 ·cases h
def nilP:V->Option Bool
 |.ptr _ _=>some false
 |.vptr _=>some false
 |.con (.pointer none)=>some true
 |_=>none
def slLen:V->Option Nat
 |.nils=>some 0
 |.view n _ _=>some n
 |.ref _ _ n _=>some n
 |_=>none
def slZ:V->Prop
 |.view n _ cs=>cs=[]->n=0
 |_=>True
theorem Zi8 {k:IntKind}{l:List Int}(h:Zi k l=[]):l.length=0:=by
 have:=congrArg List.length h
 rw[Zb]at this
 exact this
section
variable {P:Program}{C:Ctx}{S:Nat->Prop}{β:Nat->Option BI}{st st':St}{a:Act}{w w':World}{Q:Exit->St->Prop}{ops:Array Oper}{rest:List Oper}{o:Oper}{b:Bool}
theorem VR.nilP {v:V}{u:Value}{r:Bool}(h:VR S w β v u)(hn:nilP v=some r): ∃A,u= .pointer A/\A.isNone=r:=by
 cases v<;>first|(cases hn;done)|skip
 case ptr k off=>cases hn;cases h with|ptr _ _ bi hb=>exact⟨_,rfl,rfl⟩|flat h=>cases h
 case vptr cs=>cases hn;cases h with|flat h=>cases h with|vptr=>exact⟨_,rfl,rfl⟩
 case con c=>
  rw[VR.con_inv h]
  cases c<;>first|(cases hn;done)|skip
  rename_i A
  cases A with
  |none=>cases hn;exact⟨none,rfl,rfl⟩
  |some A=>cases hn
theorem VR.slLen {v:V}{u:Value}{n:Nat}(h:VR S w β v u)(hn:slLen v=some n): ∃A c,u= .slice A n c/\(A=none->n=0\/ ∃sz cs,v= .view n sz cs/\cs=[]):=by
 cases v<;>first|(cases hn;done)|skip
 case nils=>cases hn;cases h with|flat h=>cases h with|nils A=>exact⟨A,0,rfl,fun _=> .inl rfl⟩
 case view m sz cs=>
  cases hn
  cases h with
  |flat h=>cases h with
   |view _ _ _ A c us hl hc ha hr h1=>
    refine⟨A,c,rfl,fun hA=> ?_⟩
    by_cases hcs:cs=[]
    ·exact .inr ⟨sz,cs,rfl,hcs⟩
    ·obtain⟨b,o,e,_⟩:=ha hcs
     rw[hA]at e;cases e
 case ref k off m sz=>
  cases hn
  cases h with
  |flat h=>cases h
  |ref _ _ _ _ A c h=>
   refine⟨A,c,rfl,fun hA=> ?_⟩
   rcases h with h|⟨bi,hbi,hA',_⟩
   ·exact .inl (by first|exact h.1|exact h|omega)
   ·rw[hA]at hA';cases hA'
theorem ZtL (w:World)(d:Nat){t e:TypeId}(A:Option Addr)(hu:P.underlying t=some (.pointer e)):(Op.equalIn (d+1) t (.pointer A) (.pointer none)).run P w= .ok A.isNone w:=by
 cases A<;>simp[Op.equalIn,run_underlying hu]
theorem ZwY (w:World)(d:Nat){t e:TypeId}(A:Option Addr)(n c:Nat)(hu:P.underlying t=some (.slice e)):(Op.equalIn (d+1) t (.slice A n c) (.slice none 0 0)).run P w= .ok A.isNone w:=by
 cases A<;>simp[Op.equalIn,run_underlying hu]
theorem AWL.ptrNil {t:TypeId}{x y:Operand}{z:TypeId}{d:Nat}{r:Bool}(hg:o.guard=none)(ho:o.op= .binOp .eql t x y z)(hd:o.dst=some d)(hdn:Nat.ble (d+1) st.n=true)(hx:nilP (st.ev x)=some r)(hy:nilP (st.ev y)=some true)(ht:ZEF P t=true)
 (k:AWL P ops rest Q (st.put d (.bool r))):AWL P ops (o::rest) Q st:=by
 refine AWL.ends hg (fun C S β a w hs=> ?_) k
 obtain⟨e,hu⟩:=ZtK ht
 obtain⟨A,hA,hr⟩:=VR.nilP (Zag hs x) hx
 obtain⟨B,hB,hr'⟩:=VR.nilP (Zag hs y) hy
 cases B with
 |some B=>cases hr'
 |none=>
  refine⟨_,w,S,β,.inl ⟨.bool r,?_,by rw[hd]⟩,hs.put (Yaa hdn) VR.bool⟩
  unfold execOp
  have h1:(eqGuard .eql t x y (.pointer A) (.pointer none)).run P w= .ok () w:=by cases A<;>rfl
  have h2:(binOp .eql t (.pointer A) (.pointer none)).run P w= .ok (.bool r) w:=by
    have he:=ZtL w 9999 A hu
    rw[hr]at he
    simp only[binOp,Op.equal,Op.maxDepth,Sem.run_bind,he,Result.andThen_ok,Sem.run_pure]
  simp only[ho,hA,hB,Sem.run_bind,h1,Result.andThen_ok,h2]
  rfl
theorem AWL.sliceNil {t:TypeId}{x:Operand}{z:TypeId}{d n:Nat}(hg:o.guard=none)(ho:o.op= .binOp .eql t x (.const (.slice none 0 0)) z)(hd:o.dst=some d)(hdn:Nat.ble (d+1) st.n=true)(hx:slLen (st.ev x)=some n)(ht:(Zgf P t).isSome=true)
 (hz:slZ (st.ev x))
 (k: ∀r:Bool,(r=true->n=0)->AWL P ops rest Q (st.put d (.bool r))):AWL P ops (o::rest) Q st:=fun C a w ⟨S,β,hs⟩=>by
 obtain⟨e,he⟩:=Yax.1 ht
 obtain⟨e,sz,by_⟩:=e
 obtain⟨hu,_⟩:=Zaz he
 obtain⟨A,c,hA,hr⟩:=VR.slLen (Zag hs x) hx
 refine wpList_plain hg fun K hK=> ?_
 have:=hK _ _ (k A.isNone (fun h=>by
  have:=hr (by simpa using h)
  rcases this with h|⟨sz,cs,h1,h2⟩
  ·exact h
  ·rw[h1]at hz;exact hz h2) C (a.put (some d) (.bool A.isNone)) w ⟨S,β,hs.put (Yaa hdn) VR.bool⟩)
 unfold Oper.wp
 have hrun:(execOp a.eval o).run P w= .ok (.value (.bool A.isNone)) w:=by
  unfold execOp
  have hc:a.eval (.const (.slice none 0 0))= .slice none 0 0:=rfl
  have h1:(eqGuard .eql t x (.const (.slice none 0 0)) (.slice A n c) (.slice none 0 0)).run P w= .ok () w:=rfl
  have h2:(binOp .eql t (.slice A n c) (.slice none 0 0)).run P w= .ok (.bool A.isNone) w:=by
   have he:=ZwY w 9999 A n c hu
   simp only[binOp,Op.equal,Op.maxDepth,Sem.run_bind,he,Result.andThen_ok,Sem.run_pure]
  simp only[ho,hA,hc,Sem.run_bind,h1,Result.andThen_ok,h2]
  rfl
 rw[hrun]
 show K (a.put o.dst _) w
 rw[hd]
 exact this
end
section
variable {P:Program}{C:Ctx}{S:Nat->Prop}{β:Nat->Option BI}{st st':St}{a:Act}{w w':World}{Q:Exit->St->Prop}{ops:Array Oper}{rest:List Oper}{o:Oper}{b:Bool}
theorem SR.lentD (h:SR C S β st a w){k:Nat}{l:List (Nat×Option BI)}(hl:st.lent=(k,none)::l)(hk:ZcX l k=true):SR C S β { st with lent:=l } a w:=
 { tsize:=h.tsize,slots:=h.slots,defers:=h.defers,objs:=h.objs,inj:=h.inj,
   own:=fun j bi hj hb=>by
    obtain⟨h1,h2⟩:=h.own j bi hj hb
    refine⟨h1,h2.imp id (fun hL=>⟨hL.1,?_⟩)⟩
    have h3:=hL.2
    rw[hl]at h3
    simp only[ZcX,Bool.or_eq_true,beq_iff_eq]at h3
    rcases h3 with h3|h3
    ·rw[<- h3];exact hk
    ·exact h3
   pins:=fun j bi hj=>h.pins j bi (by rw[hl];exact Yaq _ hj)
   sub:=h.sub,snew:=h.snew,slt:=h.slt,frame:=h.frame }
theorem AWL.lentD {l:List Oper}{k:Nat}{r:List (Nat×Option BI)}(hl:st.lent=(k,none)::r)(hk:ZcX r k=true)(h:AWL P ops l Q { st with lent:=r }):AWL P ops l Q st:=fun C a w ⟨S,β,hs⟩=>h C a w ⟨S,β,hs.lentD hl hk⟩
end
def Wk (v' v:V):Prop:= ∀(S:Nat->Prop) (w:World) (β:Nat->Option BI) (u:Value),VR S w β v' u->VR S w β v u
inductive WkL:List V->List V->Prop
 |nil:WkL [] []
 |cons {v' v:V} {l' l:List V} (h:Wk v' v) (hl:WkL l' l):WkL (v'::l') (v::l)
theorem Wk.refl (v:V):Wk v v:=fun _ _ _ _ h=>h
theorem Wk.nils (sz:Nat):Wk .nils (.view 0 sz []):=fun S w β u h=>by
 cases h with
 |flat h=>cases h with
  |nils A=>exact .flat (.view 0 sz [] A 0 (fun _=>undef) (by simp) (Nat.le_refl _) (fun h=>absurd rfl h) (fun j v h=>by simp at h) (fun j v h=>by simp at h))
theorem Wk.fagg (cs:List V):Wk (.fagg cs) (.agg cs):=fun S w β u h=>by
 cases h with
 |flat h=>cases h with
  |fagg _ us hl hr h1=>exact .agg cs us hl (fun j v u hv hu=> .flat (hr j v u hv hu))
theorem WkL.length {l' l:List V}(h:WkL l' l):l'.length=l.length:=by
 induction h with
 |nil=>rfl
 |cons _ _ ih=>simp[ih]
theorem WkL.at {l' l:List V}(h:WkL l' l): ∀{j:Nat} {v:V},l[j]? = some v-> ∃v',l'[j]? = some v'/\Wk v' v:=by
 induction h with
 |nil=>intro j v hv;simp at hv
 |cons h _ ih=>
  intro j v hv
  cases j with
  |zero=>simp at hv;subst hv;exact⟨_,rfl,h⟩
  |succ j=>exact ih hv
theorem Wk.agg {cs' cs:List V}(h:WkL cs' cs):Wk (.agg cs') (.agg cs):=fun S w β u hv=>by
 have key: ∀{us:Array Value},cs'.length=us.size->(∀(j:Nat) (v:V) (u:Value),cs'[j]? = some v->us[j]? = some u->VR S w β v u)->VR S w β (.agg cs) (.agg us):=fun{us} hl hr=>
  .agg cs us (by rw[<- h.length];exact hl) (fun j v u hv hu=>by
   obtain⟨v',h1,h2⟩:=h.at hv
   exact h2 S w β u (hr j v' u h1 hu))
 cases hv with
 |flat h=>cases h
 |agg _ us hl hr=>exact key hl hr
theorem WkL.refl: ∀l:List V,WkL l l
 |[]=> .nil
 |v::l=> .cons (Wk.refl v) (WkL.refl l)
theorem AM.wk {P:Program}{f:FuncId}{args args':List V}{mem:Mem}{keep:List Nat}{R:V->Mem->Prop}(h:AM P f args mem keep R)(hw:WkL args' args):AM P f args' mem keep R:=
 fun S w β us h1 h2 h3 h4 h5 h6 h7 h8=>h S w β us h1 (by rw[<- hw.length];exact h2) (fun j v u hv hu=>by
  obtain⟨v',e1,e2⟩:=hw.at hv
  exact e2 S w β u (h3 j v' u e1 hu)) h4 h5 h6 h7 h8
theorem AC.wk {P:Program}{f:FuncId}{args args':List V}{R:V->List (Nat×List V)->Prop}(h:AC P f args R)(hw:WkL args' args):AC P f args' R:=
 fun S w us h1 h2 h3=>h S w us h1 (by rw[<- hw.length];exact h2) (fun j v u hv hu=>by
  obtain⟨v',e1,e2⟩:=hw.at hv
  exact e2 S w _ u (h3 j v' u e1 hu))
def Fk (v' v:V):Prop:=(∀(S:Nat->Prop) (w:World) (u:Value),FR S w v' u->FR S w v u)/\v.cell1=v'.cell1
inductive FkL:List V->List V->Prop
 |nil:FkL [] []
 |cons {v' v:V} {l' l:List V} (h:Fk v' v) (hl:FkL l' l):FkL (v'::l') (v::l)
theorem Fk.refl (v:V):Fk v v:=⟨fun _ _ _ h=>h,rfl⟩
theorem Fk.nils (sz:Nat):Fk .nils (.view 0 sz []):=⟨fun S w u h=>by
 cases h with
 |nils A=>exact .view 0 sz [] A 0 (fun _=>undef) (by simp) (Nat.le_refl _) (fun h=>absurd rfl h) (fun j v h=>by simp at h) (fun j v h=>by simp at h),rfl⟩
theorem FkL.refl: ∀l:List V,FkL l l
 |[]=> .nil
 |v::l=> .cons (Fk.refl v) (FkL.refl l)
theorem FkL.app {a' a b' b:List V}(h:FkL a' a)(h2:FkL b' b):FkL (a'++b') (a++b):=by
 induction h with
 |nil=>exact h2
 |cons h _ ih=>exact .cons h ih
theorem FkL.length {l' l:List V}(h:FkL l' l):l'.length=l.length:=by
 induction h with
 |nil=>rfl
 |cons _ _ ih=>simp[ih]
theorem FkL.at {l' l:List V}(h:FkL l' l): ∀{j:Nat} {v:V},l[j]? = some v-> ∃v',l'[j]? = some v'/\Fk v' v:=by
 induction h with
 |nil=>intro j v hv;simp at hv
 |cons h _ ih=>
  intro j v hv
  cases j with
  |zero=>simp at hv;subst hv;exact⟨_,rfl,h⟩
  |succ j=>exact ih hv
theorem Wk.view {n sz:Nat}{cs' cs:List V}(h:FkL cs' cs):Wk (.view n sz cs') (.view n sz cs):=fun S w β u hv=>by
 cases hv with
 |flat hv=>cases hv with
  |view _ _ _ A c us hl hc ha hr h1=>
   refine .flat (.view n sz cs A c us (by rw[<- h.length];exact hl) hc (fun hne=> ?_) (fun j v hj=> ?_) (fun j v hj=> ?_))
   ·obtain⟨b,o,e1,e2,e3⟩:=ha (fun e=>hne (Yay (by rw[<- h.length,e];rfl)))
    exact⟨b,o,e1,e2,fun j v hj=>by
       obtain⟨v',hv',_⟩:=h.at hj
       exact e3 j v' hv'⟩
   ·obtain⟨v',hv',hk⟩:=h.at hj
    exact hk.1 S w _ (hr j v' hv')
   ·obtain⟨v',hv',hk⟩:=h.at hj
    rw[hk.2];exact h1 j v' hv'
end Go.Abs
namespace Go.Abs
open Go Go.RowKit
section
variable {P:Program}{C:Ctx}{st st':St}{Q:Exit->St->Prop}{ops:Array Oper}{rest:List Oper}{o:Oper}
theorem AW.seqP {x y:Code}(hp:ZcQ Q)(h: ∀Q',QEq Q' (Zbd (AW P y Q) Q)->ZcQ Q'->AW P x Q' st):AW P (.seq x y) Q st:=
 AW.seqQ fun Q' hq=>h Q' hq (QEq.pan hq (Zs hp))
theorem AW.blockP {id:Nat}{c:Code}(hp:ZcQ Q)(h: ∀Q',QEq Q' (Go.Abs.blockQ id Q)->ZcQ Q'->AW P c Q' st):AW P (.block id c) Q st:=
 AW.blockQ fun Q' hq=>h Q' hq (QEq.pan hq (Zo hp))
theorem AWL.frzG {f:FuncId}{args:Array Operand}{argTypes:Array TypeId}{k:Nat}(_hg:o.guard=none)(_ho:o.op= .call { callee:= .value (.func f),args,argTypes })(_hk:Zzw st (args.toList.map st.ev)=some k)(h:AWL P ops (o::rest) Q (st.freeze k)):AWL P ops (o::rest) Q st:=AWL.frz k h
theorem AWL.cM {f:FuncId}{args:Array Operand}{argTypes:Array TypeId}{d:Nat}(ρ:List (Nat×Nat)){keep:List Nat}{mem:Mem}{cargs:List V}{R:V->Mem->Prop}(hf:Za P f=true)(hg:o.guard=none)(ho:o.op= .call { callee:= .value (.func f),args,argTypes })(hd:o.dst=some d)
 (hdn:Nat.ble (d+1) st.n=true) (hl:Zhv st ρ ρ=some mem) (hck:Zn4 st ρ keep=true) (hargs:args.toList.map (fun x=>(st.ev x).rk (Zh1 ρ) 4)=cargs) (hAM:AM P f cargs mem keep R) (k: ∀r m,R r m->Zrm ρ d m=true/\AWL P ops rest Q (st.back ρ keep d m r)):AWL P ops (o::rest) Q st:=
 AWL.callM ρ hg ho hd hf (Yaa hdn) hl hck hargs hAM k
theorem AWL.cC {f:FuncId}{args:Array Operand}{argTypes:Array TypeId}{d:Nat}{R:V->List (Nat×List V)->Prop}(hf:Za P f=true)(hg:o.guard=none)(ho:o.op= .call { callee:= .value (.func f),args,argTypes })(hd:o.dst=some d)(hst:args.toList.foldl (fun st x=>st.frzV (st.ev x)) st=st')(hdn:Nat.ble (d+1) st'.n=true)
 (hfl:((args.toList.map st'.ev).all ZcY)=true) (hAC:AC P f (args.toList.map st'.ev) R) (k: ∀r m,R r m->AWL P ops rest Q ((st'.adoptL d m).put d (Zae d 4 r))):AWL P ops (o::rest) Q st:=
 AWL.call hg ho hd hf hst (Yaa hdn) hfl hAC k
end
theorem HCX:type_of% @beq_iff_eq.{0}/\type_of% @bne_iff_ne.{0}/\type_of% @Yaz/\type_of% @decide_eq_false_iff_not/\type_of% @Yam.{0}/\type_of% @bne_eq_false_iff_eq.{0}/\type_of% @ne_eq.{1}/\type_of% @Bool.not_eq_true/\type_of% @Bool.not_eq_false/\type_of% @Bool.not_eq_eq_eq_not/\type_of% @Bool.not_true/\type_of% @Bool.not_false/\type_of% @Decidable.not_not/\type_of% @Int.not_lt/\type_of% @Int.not_le/\type_of% @decide_eq_decide/\type_of% @not_true_eq_false:=
 ⟨beq_iff_eq,bne_iff_ne,Yaz,decide_eq_false_iff_not,Yam,bne_eq_false_iff_eq,ne_eq,Bool.not_eq_true,Bool.not_eq_false,Bool.not_eq_eq_eq_not,Bool.not_true,Bool.not_false,Decidable.not_not,Int.not_lt,Int.not_le,decide_eq_decide,not_true_eq_false⟩
end Go.Abs
