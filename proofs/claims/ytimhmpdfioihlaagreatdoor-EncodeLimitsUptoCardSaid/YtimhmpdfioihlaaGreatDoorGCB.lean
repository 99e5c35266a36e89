/- A library of mine, for walks over abstract states: part 7. It imports the kit alone. -/
import Derived.Test.YtimhmpdfioihlaaGreatDoorGV6
import Derived.Recover
import Derived.Test.YtimhmpdfioihlaaGreatDoorProg
import Derived.Test.YtimhmpdfioihlaaGreatDoorV4
set_option linter.unusedSimpArgs false
set_option linter.unusedVariables false
namespace Go.Abs
open Go Go.RowKit
def AMP (P:Program)(f:FuncId)(args:List V)(mem:Mem)(keep:List Nat)(R:V->Mem->Prop)(E:List PanicEntry->Mem->Prop):Prop:=
 ∀(S:Nat->Prop) (w:World) (β:Nat->Option BI) (us:List Value),Sok S w->args.length=us.length->(∀(j:Nat) (v:V) (u:Value),args[j]? = some v->us[j]? = some u->VR S w β v u)->
  (∀k o,(k,o)∈mem->OR S w β k o)->(∀k o bi,(k,o)∈mem->β k=some bi-> ¬S bi.blk)->
  (∀k k' o o' bi bi',(k,o)∈mem->(k',o')∈mem->β k=some bi->β k'=some bi'->bi.blk=bi'.blk->k=k')->
  (mem.map (·.1)).Nodup->(∀k∈keep,∃bi,β k=some bi)->
  Calls P f us.toArray w (fun e w'=>(∃r m u,R r m/\e= .returned u/\ZwB S w w' β (mem.map (·.1)) keep r m u)\/(∃ch m u,E ch m/\e= .panicked ch/\ZwB S w w' β (mem.map (·.1)) keep .any m u))
theorem AMP.mono {P:Program}{f:FuncId}{args:List V}{mem:Mem}{keep:List Nat}{R R':V->Mem->Prop}{E E':List PanicEntry->Mem->Prop}(h:AMP P f args mem keep R E)(hr: ∀r m,R r m->R' r m)(he: ∀c m,E c m->E' c m):AMP P f args mem keep R' E':=
 fun S w β us h1 h2 h3 h4 h5 h6 h7 h8=>(h S w β us h1 h2 h3 h4 h5 h6 h7 h8).mono fun _ _ h=>h.imp (fun⟨r,m,u,hR,e,o⟩=>⟨r,m,u,hr _ _ hR,e,o⟩) (fun⟨c,m,u,hE,e,o⟩=>⟨c,m,u,he _ _ hE,e,o⟩)
def ZnP (P:Program)(rs:List ResultVar)(keep:List Nat)(pn:Nat->Option BI)(R:V->Mem->Prop)(E:List PanicEntry->Mem->Prop):Exit->St->Prop:=fun e st=>
 ZjX P rs keep pn R e st\/ ∃ch ks m,e= .panic ch/\Zid st ks=some m/\(ZmJ ks m&&decide ks.Nodup&&keep.all ks.contains)=true/\(∀k∈keep,lk st.lent k=some (pn k))/\E ch m
theorem ZnP.pan {P:Program}{st:St}{rs:List ResultVar}{keep:List Nat}{pn:Nat->Option BI}{R:V->Mem->Prop}{E:List PanicEntry->Mem->Prop}{ch:List PanicEntry}{m:Mem}(ks:List Nat)(hm:Zid st ks=some m)(hchk:(ZmJ ks m&&decide ks.Nodup&&keep.all ks.contains)=true)(hp: ∀k∈keep,lk st.lent k=some (pn k))(hE:E ch m):ZnP P rs keep pn R E (.panic ch) st:=
 .inr ⟨ch,ks,m,rfl,hm,hchk,hp,hE⟩
section
variable {P:Program}{C:Ctx}{S:Nat->Prop}{β:Nat->Option BI}{st st':St}{a:Act}{w w':World}{Q:Exit->St->Prop}{ops:Array Oper}{rest:List Oper}{o:Oper}
theorem ZaC {rs:List ResultVar}{keep:List Nat}{pn:Nat->Option BI}{R:V->Mem->Prop}{E:List PanicEntry->Mem->Prop}:ZcQ (ZnP P rs keep pn R E):=fun c st d h=>by
 rcases h with h|⟨ch,ks,m,e,h1,h2,h3,h4⟩
 ·obtain⟨he,_⟩:=h
  rcases he with he|he<;>cases he
 ·refine .inr ⟨ch,ks,m,e,?_,h2,h3,h4⟩
  rw[<- h1]
  have: ∀l:List Nat,Zid (st.put d .any) l=Zid st l:=fun l=>by
   induction l with
   |nil=>rfl
   |cons k l ih=>simp only[Zid,ih];rfl
  exact this ks
theorem Zoc {st':St}{S':Nat->Prop}{β':Nat->Option BI}{a':Act}{mem m:Mem}{keep ks:List Nat}{pn:Nat->Option BI}{r:V}{u:Value}(hkeep: ∀k∈keep,∃bi,β k=some bi)
 {ok:Sok S w} {sep: ∀b,S b-> ¬(∃k0∈mem.map (·.1),∃b0,β k0=some b0/\b=b0.blk)} (hs:SR ⟨S,w,fun b=> ∃k0∈mem.map (·.1),∃b0,β k0=some b0/\b=b0.blk,ok,sep,[]⟩ S' β' st' a' w') (hpn: ∀k,pn k=β k) (hout:Zid st' ks=some m) (hchk:(ZmJ ks m&&decide ks.Nodup&&keep.all ks.contains)=true) (hpin: ∀k∈keep,lk st'.lent k=some (pn k))
 (hvr: ∀βo:Nat->Option BI,(∀k∈ks,βo k=β' k)->VR S' w' βo r u):ZwB S w w' β (mem.map (·.1)) keep r m u:=by
 obtain⟨m1,m2⟩:=ZiZ hout
 simp only[Yao,Yaz,Yat]at hchk
 obtain⟨⟨hsh,hndk⟩,hkk⟩:=hchk
 have hin: ∀k o,(k,o)∈m->k∈ks:=fun k o hk=>by rw[<- m2];exact Ya3.2 ⟨_,hk,rfl⟩
 let βo:Nat->Option BI:=fun k=>if k∈ks then β' k else none
 have hβo: ∀k∈ks,βo k=β' k:=fun k hk=>if_pos hk
 refine⟨⟨S',βo,hs.sub,fun b hb=> ?_,?_,?_,?_,?_,?_,by rw[m2];exact hndk,?_⟩,hs.frame⟩
 ·rcases hs.snew b hb with h1|h1
  ·exact .inl h1
  ·exact .inr ⟨h1,hs.slt b hb⟩
 ·exact hvr βo hβo
 ·intro k o hk
  rcases hs.objs k _ (m1 k o hk)with⟨h1,h2,h3⟩|⟨bi,cur,e',fz,hbi,hr⟩
  ·exact .inl ⟨h1,h2,(hβo k (hin k o hk)).trans h3⟩
  ·refine .inr ⟨bi,cur,e',fz,(hβo k (hin k o hk)).trans hbi,hr.heap,hr.size,hr.free,hr.fits,hr.len,?_⟩
   intro i v hv
   obtain⟨u,hu,h1,hr'⟩:=hr.cells i v hv
   refine⟨u,hu,h1,?_⟩
   split at hr'
   ·rename_i hfl;rw[if_pos hfl];exact hr'
   ·rename_i hfl
    rw[if_neg hfl]
    rcases Zi0 hsh k o hk with hfl'|⟨js',hjs',hsub⟩
    ·exact absurd hfl' hfl
    ·obtain⟨kv,h1,h2⟩:=Zhu hjs' v (Ya0 hv)
     exact VR.restrictA 3 h1 (fun k hk=>hβo k (hsub k (h2 k hk))) hr'
 ·intro k o bi hk hbi
  rw[hβo k (hin k o hk)]at hbi
  have:=hs.own k bi (by rw[m1 k o hk];rfl) hbi
  refine⟨this.1,?_⟩
  rcases this.2 with h1|⟨⟨k0,hk0,b0,hb0,e0⟩,_⟩
  ·exact .inl h1
  ·exact .inr ⟨k0,hk0,b0,hb0,e0⟩
 ·intro k k' o o' bi bi' hk hk' hbi hbi' hblk
  rw[hβo k (hin k o hk)]at hbi
  rw[hβo k' (hin k' o' hk')]at hbi'
  exact hs.inj k k' bi bi' (by rw[m1 k o hk];rfl) (by rw[m1 k' o' hk'];rfl) hbi hbi' hblk
 ·intro k hk
  refine if_neg fun hkk=> ?_
  rw[<- m2]at hkk
  obtain⟨p,hp,rfl⟩:=Ya3.1 hkk
  exact hk p.2 hp
 ·intro k hk
  have hmem:k∈ks:=List.contains_iff_mem.1 (hkk k hk)
  obtain⟨bi,hbi⟩:=hkeep k hk
  have hp:=hpin k hk
  rw[hpn,hbi]at hp
  refine⟨?_,?_⟩
  ·rw[<- m2]at hmem
   obtain⟨q,hq,rfl⟩:=Ya3.1 hmem
   exact⟨q.2,hq⟩
  ·rw[hβo k hmem,hbi];exact hs.pins k bi (Zau hp)
theorem AMP.enter {f:FuncId}{fn:Func}{c:Code}{args:List V}{mem:Mem}{keep:List Nat}{R:V->Mem->Prop}{E:List PanicEntry->Mem->Prop}(hf:P.funcs[f]? = some fn)(hb:fn.body=some c)(hn:args.length<=fn.ntmps)
 (h: ∀pn:Nat->Option BI,AW P c (ZnP P fn.results.toList keep pn R E) (Zn3 fn.ntmps args mem (Zcv pn keep mem))):AMP P f args mem keep R E:=by
 intro S w β us hS hl hargs hor hns hinj hnd hkeep
 refine calls_of_wp hf hb ?_
 let L:Nat->Prop:=fun b=> ∃k0∈mem.map (·.1),∃b0,β k0=some b0/\b=b0.blk
 let C:Ctx:=⟨S,w,L,hS,fun b hb ⟨k0,hk0,b0,hb0,e⟩=>by
  obtain⟨p,hp,e1⟩:=Ya3.1 hk0
  subst e1
  exact hns p.1 p.2 b0 hp hb0 (e▸hb),[]⟩
 have hinit:SR C S β (Zn3 fn.ntmps args mem (Zcv β keep mem)) { tmps:=us.toArray++Array.replicate (fn.ntmps-us.toArray.size) undef,defers:=[] } w:={
  tsize:=by simp[Zn3];omega
  slots:=fun i=>by
   simp only[St.get,Zn3,Zb4,Nat.zero_le,if_true,Nat.sub_zero]
   cases hi:args[i]? with
   |none=>exact .any _
   |some v=>
    have hlt:i<us.length:=by rw[<- hl];exact(Yak.1 hi).1
    have hu:us[i]? = some us[i]:=Yab hlt
    have:(us.toArray++Array.replicate (fn.ntmps-us.toArray.size) undef).getD i undef=us[i]:=by
      rw[Yan,Array.getElem?_append_left (by simpa using hlt)]
      simp[hlt]
    rw[this]
    exact hargs i v _ hi hu
  defers:=rfl
  objs:=fun k o ho=>hor k o (Zau ho)
  inj:=fun k k' bi bi' hk hk' hb hb' e=>by
   obtain⟨o,ho⟩:=Yax.1 hk
   obtain⟨o',ho'⟩:=Yax.1 hk'
   exact hinj k k' o o' bi bi' (Zau ho) (Zau ho') hb hb' e
  own:=fun k bi hk hb=>by
   obtain⟨o,ho⟩:=Yax.1 hk
   exact⟨hns k o bi (Zau ho) hb,.inr ⟨⟨k,Ya3.2 ⟨_,Zau ho,rfl⟩,bi,hb,rfl⟩,Zeq (Zau ho)⟩⟩
  pins:=fun k bi hk=>ZgM hk
  sub:=fun b hb=>hb
  snew:=fun b hb=> .inl hb
  slt:=hS.1
  frame:=⟨rfl,rfl,rfl,Nat.le_refl _,fun _ _ _=>rfl⟩ }
 refine wp_mono (h β C _ w ⟨S,_,hinit⟩) fun e a' w' ⟨st',he,S',β',hs⟩=> ?_
 rcases he with⟨he,cc,r,ks,js,m,hres,hcc,hjs,hout,hchk,hpin,hR⟩|⟨ch,ks,m,rfl,hout,hchk,hpin,hE⟩
 ·obtain⟨u,hrun,hv⟩:=Zd0 hs hres hcc
  simp only[Yao,Yaz]at hchk
  obtain⟨⟨⟨hj1,hsh⟩,hndk⟩,hkk⟩:=hchk
  have hOut:=Zoc (r:=r) (u:=u) hkeep hs (fun _=>rfl) hout (by simp only[Yao,Yaz];exact⟨⟨hsh,hndk⟩,hkk⟩) hpin (fun βo hβo=>VR.restrictA 4 hjs (fun k hk=>hβo k (List.contains_iff_mem.1 (Yat.1 hj1 k hk))) hv)
  rcases he with rfl|rfl
  ·exact⟨hs.defers,u,hrun,.inl ⟨r,m,u,hR,rfl,hOut⟩⟩
  ·exact⟨hs.defers,u,hrun,.inl ⟨r,m,u,hR,rfl,hOut⟩⟩
 ·exact⟨hs.defers,.inr ⟨ch,m,undef,hE,rfl,Zoc hkeep hs (fun _=>rfl) hout hchk hpin (fun _ _=> .any _)⟩⟩
theorem AWL.callMP {f:FuncId}{args:Array Operand}{argTypes:Array TypeId}{d:Nat}(ρ:List (Nat×Nat)){keep:List Nat}{mem:Mem}{cargs:List V}{R:V->Mem->Prop}{E:List PanicEntry->Mem->Prop}(hg:o.guard=none)(ho:o.op= .call { callee:= .value (.func f),args,argTypes })(hd:o.dst=some d)(hf:Za P f=true)
 (hdn:d<st.n) (hl:Zhv st ρ ρ=some mem) (hck:Zn4 st ρ keep=true) (hargs:args.toList.map (fun x=>(st.ev x).rk (Zh1 ρ) 4)=cargs) (hAM:AMP P f cargs mem keep R E)
 (kp: ∀ch m,E ch m->Zrm ρ d m=true/\Q (.panic ch) ((st.back ρ keep d m .any).put d .any))
 (k: ∀r m,R r m->Zrm ρ d m=true/\AWL P ops rest Q (st.back ρ keep d m r)):AWL P ops (o::rest) Q st:=fun C a w ⟨S,β,hs⟩=>by
 refine wpList_plain hg fun K hK=> ?_
 unfold Oper.wp
 rw[Zfy ho hf]
 subst hargs
 obtain⟨hm1,hm2⟩:=Zdj hl
 have hck':=hck
 simp only[Zn4,Yao,Yaz,Yat]at hck'
 obtain⟨⟨hn1,hn2⟩,hkp⟩:=hck'
 let βc:Nat->Option BI:=fun k=>(lk ρ k).bind β
 have hσ: ∀K j,Zh1 ρ K=some j->β K=none\/βc j=β K:=fun K j hj=> .inr (by simp only[βc,Zar hn1 (Zer hj)];rfl)
 have hc:=hAM S w βc (args.toList.map a.eval) hs.sok (by simp) (fun j v u hv hu=>by
  rw[Yas,Yaj]at hv hu
  obtain⟨x,hx,rfl⟩:=hv
  obtain⟨y,hy,rfl⟩:=hu
  rw[hx]at hy;cases hy
  exact VR.rk hσ 4 (Zag hs x)) (fun k o hk=>by
  obtain⟨K,o',e1,e2,rfl⟩:=hm2 k o hk
  exact OR.rk hσ (hs.objs K o' e2) (by simp only[βc,Zar hn1 e1];rfl)) (fun k o bi hk hb=>by
  obtain⟨K,o',e1,e2,rfl⟩:=hm2 k o hk
  simp only[βc,Zar hn1 e1]at hb
  exact(hs.own K bi (by rw[e2];rfl) hb).1) (fun k k' o o' bi bi' hk hk' hb hb' e=>by
  obtain⟨K,o1,e1,e2,rfl⟩:=hm2 k o hk
  obtain⟨K',o1',e1',e2',rfl⟩:=hm2 k' o' hk'
  simp only[βc,Zar hn1 e1]at hb
  simp only[βc,Zar hn1 e1']at hb'
  have hKK:=hs.inj K K' bi bi' (by rw[e2];rfl) (by rw[e2'];rfl) hb hb' e
  subst hKK
  exact Zgk hn2 e1 e1') (by rw[hm1];exact hn1) (fun k hk=>by
  have:=hkp k hk
  split at this
  ·rename_i o ho
   rw[Option.bind_eq_some_iff]at ho
   obtain⟨K,hK1,hK2⟩:=ho
   rcases hs.objs K o hK2 with⟨q1,q2,_⟩|⟨bi,_,_,_,hbi,_⟩
   ·rw[q1,q2]at this;cases this
   ·exact⟨bi,by simp only[βc,hK1];exact hbi⟩
  ·cases this)
 have e:(args.toList.map a.eval).toArray=args.map a.eval:=by rw[<- Array.toList_map]
 rw[e]at hc
 refine Calls.mono hc ?_
 rintro e' w' (⟨r,m,u,hR,rfl,hout⟩|⟨ch,m,u,hE,rfl,hout⟩)
 ·obtain⟨hcb,hk⟩:=k r m hR
  have:=hs.calledM (d:=d) hdn hl hck hcb (fun _=>rfl) hout
  show K (a.put o.dst u) w'
  rw[hd]
  exact hK _ _ (hk C _ w' this)
 ·obtain⟨hcb,hq⟩:=kp ch m hE
  obtain⟨S',β',this⟩:=hs.calledM (d:=d) hdn hl hck hcb (fun _=>rfl) hout
  exact⟨_,hq,S',β',this.unput⟩
theorem ZnP.mk {rs:List ResultVar}{keep:List Nat}{pn:Nat->Option BI}{R:V->Mem->Prop}{E:List PanicEntry->Mem->Prop}{e:Exit}(h:ZjX P rs keep pn R e st):ZnP P rs keep pn R E e st:= .inl h
theorem AWL.cMP {f:FuncId}{args:Array Operand}{argTypes:Array TypeId}{d:Nat}(ρ:List (Nat×Nat)){keep:List Nat}{mem:Mem}{cargs:List V}{R:V->Mem->Prop}{E:List PanicEntry->Mem->Prop}(hf:Za P f=true)(hg:o.guard=none)(ho:o.op= .call { callee:= .value (.func f),args,argTypes })(hd:o.dst=some d)
 (hdn:Nat.ble (d+1) st.n=true) (hl:Zhv st ρ ρ=some mem) (hck:Zn4 st ρ keep=true) (hargs:args.toList.map (fun x=>(st.ev x).rk (Zh1 ρ) 4)=cargs) (hAM:AMP P f cargs mem keep R E)
 (kp: ∀ch m,E ch m->Zrm ρ d m=true/\Q (.panic ch) ((st.back ρ keep d m .any).put d .any))
 (k: ∀r m,R r m->Zrm ρ d m=true/\AWL P ops rest Q (st.back ρ keep d m r)):AWL P ops (o::rest) Q st:=
 AWL.callMP ρ hg ho hd hf (Yaa hdn) hl hck hargs hAM kp k
theorem AWL.cFP {f:FuncId}{x:Operand}{argTypes:Array TypeId}{d:Nat}{cap:List V}(ρ:List (Nat×Nat)){keep:List Nat}{mem:Mem}{cargs:List V}{R:V->Mem->Prop}{E:List PanicEntry->Mem->Prop}(hg:o.guard=none)(ho:o.op= .call { callee:= .value x,args:= #[],argTypes })(hx:st.ev x= .fn f cap)(hd:o.dst=some d)
 (hf:Za P f=true) (hdn:Nat.ble (d+1) st.n=true) (hl:Zhv st ρ ρ=some mem) (hck:Zn4 st ρ keep=true) (hargs:cap.map (fun v=>v.rk (Zh1 ρ) 4)=cargs) (hAM:AMP P f cargs mem keep R E)
 (kp: ∀ch m,E ch m->Zrm ρ d m=true/\Q (.panic ch) ((st.back ρ keep d m .any).put d .any))
 (k: ∀r m,R r m->Zrm ρ d m=true/\AWL P ops rest Q (st.back ρ keep d m r)):AWL P ops (o::rest) Q st:=fun C a w ⟨S,β,hs⟩=>by
 obtain⟨fs,us,hu,hlen,hcell⟩: ∃fs us,a.eval x= .func (.func f) fs us/\cap.length=(fs++us).size/\ ∀(j:Nat) (v:V) (u:Value),cap[j]? = some v->(fs++us)[j]? = some u->VR S w β v u:=by
  have h:=hx▸Zag hs x
  generalize a.eval x=X at h
  cases h with
  |flat h=>cases h with
   |fn=>exact⟨#[],#[],rfl,rfl,fun j v u hj=>by simp at hj⟩
  |fn _ _ us hl hr=>exact⟨#[],us,rfl,by simpa using hl,by rw[Array.empty_append];exact hr⟩
  |mfn _ _ us hl hr=>exact⟨us,#[],rfl,by simpa using hl,by rw[Array.append_empty];exact hr⟩
 refine wpList_plain hg fun K hK=> ?_
 unfold Oper.wp
 rw[ZmH ho hu hf]
 subst hargs
 obtain⟨hm1,hm2⟩:=Zdj hl
 have hck':=hck
 simp only[Zn4,Yao,Yaz,Yat]at hck'
 obtain⟨⟨hn1,hn2⟩,hkp⟩:=hck'
 let βc:Nat->Option BI:=fun k=>(lk ρ k).bind β
 have hσ: ∀K j,Zh1 ρ K=some j->β K=none\/βc j=β K:=fun K j hj=> .inr (by simp only[βc,Zar hn1 (Zer hj)];rfl)
 have hc:=hAM S w βc (fs++us).toList hs.sok (by simp[hlen]) (fun j v u hv hu=>by
  rw[Yas,Yaj]at hv
  obtain⟨x,hx,rfl⟩:=hv
  rw[Array.getElem?_toList]at hu
  exact VR.rk hσ 4 (hcell j x u hx hu)) (fun k o hk=>by
  obtain⟨K,o',e1,e2,rfl⟩:=hm2 k o hk
  exact OR.rk hσ (hs.objs K o' e2) (by simp only[βc,Zar hn1 e1];rfl)) (fun k o bi hk hb=>by
  obtain⟨K,o',e1,e2,rfl⟩:=hm2 k o hk
  simp only[βc,Zar hn1 e1]at hb
  exact(hs.own K bi (by rw[e2];rfl) hb).1) (fun k k' o o' bi bi' hk hk' hb hb' e=>by
  obtain⟨K,o1,e1,e2,rfl⟩:=hm2 k o hk
  obtain⟨K',o1',e1',e2',rfl⟩:=hm2 k' o' hk'
  simp only[βc,Zar hn1 e1]at hb
  simp only[βc,Zar hn1 e1']at hb'
  have hKK:=hs.inj K K' bi bi' (by rw[e2];rfl) (by rw[e2'];rfl) hb hb' e
  subst hKK
  exact Zgk hn2 e1 e1') (by rw[hm1];exact hn1) (fun k hk=>by
  have:=hkp k hk
  split at this
  ·rename_i o ho
   rw[Option.bind_eq_some_iff]at ho
   obtain⟨K,hK1,hK2⟩:=ho
   rcases hs.objs K o hK2 with⟨q1,q2,_⟩|⟨bi,_,_,_,hbi,_⟩
   ·rw[q1,q2]at this;cases this
   ·exact⟨bi,by simp only[βc,hK1];exact hbi⟩
  ·cases this)
 have e:(fs++us).toList.toArray=fs++(#[]:Array Operand).map a.eval++us:=by simp
 rw[e]at hc
 refine Calls.mono hc ?_
 rintro e' w' (⟨r,m,u,hR,rfl,hout⟩|⟨ch,m,u,hE,rfl,hout⟩)
 ·obtain⟨hcb,hk⟩:=k r m hR
  have:=hs.calledM (d:=d) (Yaa hdn) hl hck hcb (fun _=>rfl) hout
  show K (a.put o.dst u) w'
  rw[hd]
  exact hK _ _ (hk C _ w' this)
 ·obtain⟨hcb,hq⟩:=kp ch m hE
  obtain⟨S',β',this⟩:=hs.calledM (d:=d) (Yaa hdn) hl hck hcb (fun _=>rfl) hout
  exact⟨_,hq,S',β',this.unput⟩
theorem AWL.mkM {f:FuncId}{first:Array Operand}{d:Nat}(hg:o.guard=none)(ho:o.op= .makeFunc (.func f) first #[])(hd:o.dst=some d)(hdn:Nat.ble (d+1) st.n=true)(k:AWL P ops rest Q (st.put d (.fn f (first.toList.map st.ev)))):AWL P ops (o::rest) Q st:=by
 refine AWL.ends hg (fun C S β a w hs=> ?_) k
 refine⟨_,w,S,β,.inl ⟨.func (.func f) (first.map a.eval) #[],?_,by rw[hd]⟩,hs.put (Yaa hdn) (.mfn f _ _ (by simp) fun j v u hv hu=> ?_)⟩
 ·unfold execOp
  simp[ho,Instr.makeFunc]
 ·rw[Yas,Yaj]at hv
  obtain⟨x,hx,rfl⟩:=hv
  rw[Array.getElem?_map,Yaj]at hu
  obtain⟨y,hy,rfl⟩:=hu
  rw[Array.getElem?_toList,hy]at hx
  cases hx
  exact Zag hs x
def Zi9:List V->Option (List Value)
 |[]=>some []
 |.int k n::l=>(Zi9 l).map (Value.int k n:: ·)
 |_=>none
theorem Zja {S:Nat->Prop}{w:World}{β:Nat->Option BI}: ∀{cs:List V} {l:List Value} {us:List Value},Zi9 cs=some l->cs.length=us.length->(∀(j:Nat) (v:V) (u:Value),cs[j]? = some v->us[j]? = some u->VR S w β v u)->us=l
 |[],l,us,h,hl,_=>by
  cases h
  exact Yay hl.symm
 |v::cs,l,us,h,hl,hr=>by
  cases v<;>first|(cases h;done)|skip
  rename_i k n
  simp only[Zi9,Yaj]at h
  obtain⟨l',h',rfl⟩:=h
  cases us with
  |nil=>simp at hl
  |cons u us=>
   have h0:=hr 0 _ u rfl rfl
   rw[VR.int_inv h0]
   congr 1
   exact Zja h' (by simpa using hl) fun j v u hv hu=>hr (j+1) v u (by simpa using hv) (by simpa using hu)
def Zjb (P:Program)(t:TypeId):Bool:=match P.underlying t with
 |some (.interface _)=>true
 |some _=>false
 |none=>true
theorem AWL.mkI {t:TypeId}{x:Operand}{d:Nat}{cs:List V}{l:List Value}(hg:o.guard=none)(ho:o.op= .makeInterface t x)(hd:o.dst=some d)(hdn:Nat.ble (d+1) st.n=true)(hx:st.ev x= .agg cs)(hl:Zi9 cs=some l)(ht:Zjb P t=false)
 (k:AWL P ops rest Q (st.put d (.con (.iface t (.agg l.toArray))))):AWL P ops (o::rest) Q st:=by
 refine AWL.ends hg (fun C S β a w hs=> ?_) k
 obtain⟨us,hu,hlen,hr⟩:=VR.agg_inv (hx▸Zag hs x)
 have hus:us.toList=l:=Zja hl (by simpa using hlen) fun j v u hv hu=>hr j v u hv (by simpa using hu)
 have hus:us=l.toArray:=by rw[<- hus]
 subst hus
 refine⟨_,w,S,β,.inl ⟨.iface t (.agg l.toArray),?_,by rw[hd]⟩,hs.put (Yaa hdn) (.flat (.con _))⟩
 unfold Zjb at ht
 split at ht<;>first|(cases ht;done)|skip
 rename_i D hne hD
 have hm:(Instr.makeInterface t (.agg l.toArray)).run P w= .ok (.iface t (.agg l.toArray)) w:=by
  unfold Instr.makeInterface
  simp only[Sem.run_bind,run_underlying hD,Result.andThen_ok]
  cases D<;>first|rfl|(rename_i i;exact absurd hD (hne i))
 unfold execOp
 simp only[ho,hu,Sem.run_bind,hm,Result.andThen_ok,Sem.run_pure]
theorem AWL.pan {x:Operand}{v:Value}(hg:o.guard=none)(ho:o.op= .panic x)(hx:st.ev x= .con v)(hi: ∃t u,v= .iface t u)(k:Q (.panic [{ v:=v,recovered:=false }]) st):AWL P ops (o::rest) Q st:=fun C a w ⟨S,β,hs⟩=>by
 have hv:=VR.con_inv (hx▸Zag hs x)
 obtain⟨t,u,rfl⟩:=hi
 refine wpList_plain hg fun K hK=> ?_
 unfold Oper.wp
 have:(execOp a.eval o).run P w= .halt (.panic (.iface t u)) w:=by
  unfold execOp
  simp[ho,hv,Instr.panic]
 rw[this]
 exact⟨st,k,S,β,hs⟩
theorem AWL.slice3 {t:TypeId}{x h m:Operand}{d:Nat}{n sz:Nat}{cs:List V}{e:TypeId}{by_:Nat}{k1 k2:IntKind}{hi mx:Int}(hg:o.guard=none)(ho:o.op= .slice t x none (some h) (some m))(hd:o.dst=some d)(hdn:Nat.ble (d+1) st.n=true)(hx:st.ev x= .view n sz cs)(hh:st.ev h= .int k1 hi)(hm:st.ev m= .int k2 mx)
 (ht:Zgf P t=some (e,sz,by_)) (hc:hi=n/\mx=n) (k:AWL P ops rest Q (st.put d (.view n sz cs))):AWL P ops (o::rest) Q st:=by
 refine AWL.ends hg (fun C S β a w hs=> ?_) k
 obtain⟨rfl,rfl⟩:=hc
 obtain⟨A,c,hu,hnc,hl,us,ha,hr,h1⟩:=VR.view_inv (hx▸Zag hs x)
 have e1:=VR.int_inv (hh▸Zag hs h)
 have e2:=VR.int_inv (hm▸Zag hs m)
 obtain⟨hu1,i,hi,hsz,_⟩:=Zaz ht
 have hb:(Instr.sliceBounds true n c none (some (.int k1 ↑n)) (some (.int k2 ↑n))).run P w= .ok (0,n,n) w:=by
  have q1: ¬((n:Int)<0):=by omega
  have q2: ¬((c:Int)<(n:Int)):=by omega
  simp[Instr.sliceBounds,Instr.sliceBound,asIntOf,q1,hnc]
 have hA: ∀A':Option Addr,A'=A.map (·.add (0*i.size))\/A'=A->VR S w β (.view n sz cs) (.slice A' n n):=fun A' h=>by
  refine .flat (.view n sz cs A' n us hl (Nat.le_refl _) (fun hne=> ?_) hr h1)
  obtain⟨b,o,e0,e3⟩:=ha hne
  refine⟨b,o,?_,e3⟩
  rcases h with h|h
  ·rw[h,e0,Nat.zero_mul];show some (Addr.add ⟨b,o,none⟩ 0)=_;rw[ZaP];rfl
  ·rw[h,e0]
 refine⟨_,w,S,β,.inl ⟨.slice (if n=0 then A else A.map (·.add (0*i.size))) n n,?_,by rw[hd]⟩,hs.put (Yaa hdn) (hA _ (by split;exact .inr rfl;exact .inl rfl))⟩
 unfold execOp
 simp only[ho,hu,e1,e2,Option.map_none,Option.map_some,Instr.sliceAt,Sem.run_bind,run_underlying hu1,Result.andThen_ok,Instr.slice,hb,Zaw hi,Sem.run_pure,Nat.sub_zero]
theorem AW.frzRet (k:Nat){o1:ZaK}(_h:st.obj k=some o1)(_hf:o1.flat=true)(h:AW P .ret Q (st.freeze k)):AW P .ret Q st:=AW.frz k h
end
end Go.Abs
namespace Go.Abs
open Go Go.RowKit
section
variable {P:Program}{C:Ctx}{S:Nat->Prop}{β:Nat->Option BI}{st st':St}{a:Act}{w w':World}{Q:Exit->St->Prop}{ops:Array Oper}{rest:List Oper}{o:Oper}
def ZAC:Value->Option Bool
 |.iface _ _=>some true
 |.nilIface=>some false
 |_=>none
theorem AWL.iNil {t z:TypeId}{x:Operand}{d:Nat}{v:Value}{r:Bool}(hg:o.guard=none)(ho:o.op= .binOp .neq t x (.const .nilIface) z)(hd:o.dst=some d)(hdn:Nat.ble (d+1) st.n=true)(hx:st.ev x= .con v)(hr:ZAC v=some r)(ht:Zjb P t=true/\(P.underlying t).isSome=true)
 (k:AWL P ops rest Q (st.put d (.bool r))):AWL P ops (o::rest) Q st:=by
 refine AWL.ends hg (fun C S β a w hs=> ?_) k
 have e1:=VR.con_inv (hx▸Zag hs x)
 have e2:a.eval (.const .nilIface)= .nilIface:=rfl
 refine⟨_,w,S,β,.inl ⟨.bool r,?_,by rw[hd]⟩,hs.put (Yaa hdn) VR.bool⟩
 obtain⟨i,hi⟩: ∃i,P.underlying t=some (.interface i):=by
  obtain⟨D,hD⟩:=Yax.1 ht.2
  have:=ht.1
  unfold Zjb at this
  rw[hD]at this
  cases D<;>first|exact⟨_,hD⟩|(simp at this)
 unfold execOp
 have hG:(eqGuard .neq t x (.const .nilIface) v .nilIface).run P w= .ok () w:=by
  unfold eqGuard
  cases v<;>first|(cases hr;done)|simp
 have hE: ∀d,(Op.equalIn (d+1) t v .nilIface).run P w= .ok (!r) w:=fun d=>by
  cases v<;>first|(cases hr;done)|skip
  ·cases hr;simp[Op.equalIn,run_underlying hi]
  ·cases hr;simp[Op.equalIn,run_underlying hi]
 have hB:(binOp .neq t v .nilIface).run P w= .ok (.bool r) w:=by
  have hE:=hE 9999
  simp only[binOp,Op.equal,Op.maxDepth,Sem.run_bind,hE,Result.andThen_ok,Sem.run_pure,Bool.not_not]
 simp only[ho,e1,e2,Sem.run_bind,hG,hB,Result.andThen_ok,Sem.run_pure]
theorem AWL.tassert {xt t:TypeId}{x:Operand}{d:Nat}{l:List Value}{cs:List V}(hg:o.guard=none)(ho:o.op= .typeAssert x xt t true)(hd:o.dst=some d)(hdn:Nat.ble (d+1) st.n=true)(hx:st.ev x= .con (.iface t (.agg l.toArray)))(hl:Zi9 cs=some l)(hi:Zjb P t=false)
 (k:AWL P ops rest Q (st.put d (.tup [.agg cs,.bool true]))):AWL P ops (o::rest) Q st:=by
 refine AWL.ends hg (fun C S β a w hs=> ?_) k
 have e1:=VR.con_inv (hx▸Zag hs x)
 have key: ∀{cs:List V} {l:List Value},Zi9 cs=some l->cs.length=l.length/\ ∀(j:Nat) (v:V) (u:Value),cs[j]? = some v->l[j]? = some u->VR S w β v u:=by
  intro cs
  induction cs with
  |nil=>intro l h;cases h;exact⟨rfl,fun j v u hj=>by simp at hj⟩
  |cons v cs ih=>
   intro l h
   cases v<;>first|(cases h;done)|skip
   rename_i k n
   simp only[Zi9,Yaj]at h
   obtain⟨l',h',rfl⟩:=h
   obtain⟨h1,h2⟩:=ih h'
   refine⟨by simp[h1],fun j v u hj hu=> ?_⟩
   cases j with
   |zero=>simp at hj hu;subst hj hu;exact .int
   |succ j=>exact h2 j v u (by simpa using hj) (by simpa using hu)
 obtain⟨k1,k2⟩:=key hl
 refine⟨_,w,S,β,.inl ⟨.tuple #[.agg l.toArray,.bool true],?_,by rw[hd]⟩,hs.put (Yaa hdn) (.tup _ _ rfl fun j v u hj hu=> ?_)⟩
 ·unfold Zjb at hi
  split at hi<;>first|(cases hi;done)|skip
  rename_i D hne hD
  have hm:(Instr.typeAssert (.iface t (.agg l.toArray)) xt t true).run P w= .ok (.tuple #[.agg l.toArray,.bool true]) w:=by
   unfold Instr.typeAssert
   simp only[Sem.run_bind,run_underlying hD,Result.andThen_ok]
   cases D<;>first|(rename_i i;exact absurd hD (hne i))|simp
  unfold execOp
  simp only[ho,e1,Sem.run_bind,hm,Result.andThen_ok,Sem.run_pure]
 ·match j with
  |0=>simp at hj hu;subst hj hu;exact .agg cs _ (by simpa using k1) (fun j v u hj hu=>k2 j v u hj (by simpa using hu))
  |1=>simp at hj hu;subst hj hu;exact .bool
  |j+2=>simp at hj
def AMD (P:Program)(f:FuncId)(args:List V)(mem:Mem)(keep:List Nat)(u u':FrameMode)(m':Mem):Prop:=
 ∀(S:Nat->Prop) (w:World) (β:Nat->Option BI) (us:List Value),Sok S w->args.length=us.length->(∀(j:Nat) (v:V) (u:Value),args[j]? = some v->us[j]? = some u->VR S w β v u)->
  (∀k o,(k,o)∈mem->OR S w β k o)->(∀k o bi,(k,o)∈mem->β k=some bi-> ¬S bi.blk)->
  (∀k k' o o' bi bi',(k,o)∈mem->(k',o')∈mem->β k=some bi->β k'=some bi'->bi.blk=bi'.blk->k=k')->
  (mem.map (·.1)).Nodup->(∀k∈keep,∃bi,β k=some bi)->
  CallsD P f us.toArray u w (fun e um w'=>(∃v,e= .returned v)/\um=u'/\ZwB S w w' β (mem.map (·.1)) keep .any m' undef)
theorem AMD.enter {f:FuncId}{fn:Func}{c2:Code}{id:Nat}{oR oA:Oper}{d0 d1:Nat}{args:List V}{mem m':Mem}{keep:List Nat}{u u':FrameMode}{rv:Value}(hf:P.funcs[f]? = some fn)(hb:fn.body=some (.seq (.region id #[oR,oA] false) c2))(hn:args.length<=fn.ntmps)
 (hR:oR.op= .call { callee:= .builtin .recover,args:= #[],argTypes:= #[] }/\oR.dst=some d0/\oR.guard=none) (hA:oA.op= .assign (.tmp d0)/\oA.dst=some d1/\oA.guard=none) (hd0:d0<fn.ntmps) (hd1:d1<fn.ntmps)
 (hu: ∀(c0:Frame) (cs:List Frame),c0.mode=u->recoverD (c0::cs)=some (rv,{ c0 with mode:=u' }::cs)\/(recoverD (c0::cs)=none/\rv= .nilIface/\u'=u))
 (h: ∀pn:Nat->Option BI,AW P c2 (ZjX P fn.results.toList keep pn (fun _ m=>m=m')) (((Zn3 fn.ntmps args mem (Zcv pn keep mem)).put d0 (.con rv)).put d1 (.con rv))):AMD P f args mem keep u u' m':=by
 intro S w β us hS hl hargs hor hns hinj hnd hkeep
 refine callsD_of_wpS hf hb fun c0 cs hc0=> ?_
 let L:Nat->Prop:=fun b=> ∃k0∈mem.map (·.1),∃b0,β k0=some b0/\b=b0.blk
 let C:Ctx:=⟨S,w,L,hS,fun b hb ⟨k0,hk0,b0,hb0,e⟩=>by
  obtain⟨p,hp,e1⟩:=Ya3.1 hk0
  subst e1
  exact hns p.1 p.2 b0 hp hb0 (e▸hb),[]⟩
 have hinit:SR C S β (Zn3 fn.ntmps args mem (Zcv β keep mem)) { tmps:=us.toArray++Array.replicate (fn.ntmps-us.toArray.size) undef,defers:=[] } w:={
  tsize:=by simp[Zn3];omega
  slots:=fun i=>by
   simp only[St.get,Zn3,Zb4,Nat.zero_le,if_true,Nat.sub_zero]
   cases hi:args[i]? with
   |none=>exact .any _
   |some v=>
    have hlt:i<us.length:=by rw[<- hl];exact(Yak.1 hi).1
    have hu:us[i]? = some us[i]:=Yab hlt
    have:(us.toArray++Array.replicate (fn.ntmps-us.toArray.size) undef).getD i undef=us[i]:=by
      rw[Yan,Array.getElem?_append_left (by simpa using hlt)]
      simp[hlt]
    rw[this]
    exact hargs i v _ hi hu
  defers:=rfl
  objs:=fun k o ho=>hor k o (Zau ho)
  inj:=fun k k' bi bi' hk hk' hb hb' e=>by
   obtain⟨o,ho⟩:=Yax.1 hk
   obtain⟨o',ho'⟩:=Yax.1 hk'
   exact hinj k k' o o' bi bi' (Zau ho) (Zau ho') hb hb' e
  own:=fun k bi hk hb=>by
   obtain⟨o,ho⟩:=Yax.1 hk
   exact⟨hns k o bi (Zau ho) hb,.inr ⟨⟨k,Ya3.2 ⟨_,Zau ho,rfl⟩,bi,hb,rfl⟩,Zeq (Zau ho)⟩⟩
  pins:=fun k bi hk=>ZgM hk
  sub:=fun b hb=>hb
  snew:=fun b hb=> .inl hb
  slt:=hS.1
  frame:=⟨rfl,rfl,rfl,Nat.le_refl _,fun _ _ _=>rfl⟩ }
 have hput:=(hinit.put (d:=d0) (v:= .con rv) (u:=rv) hd0 (.flat (.con _))).put (d:=d1) (v:= .con rv) (u:=rv) hd1 (.flat (.con _))
 refine wpS_seq ?_
 refine wpS_region ?_
 have hrec: ∀a w,(execOp (Act.eval a) oR).run P w= .ok .recover w:=fun a w=>by
  unfold execOp
  simp[hR.1,resolve,invoke,builtin]
 have hend:c2.wpS P (bodyPostS P fn c0 cs fun e um w'=>(∃v,e= .returned v)/\um=u'/\ZwB S w w' β (mem.map (·.1)) keep .any m' undef) (({ tmps:=us.toArray++Array.replicate (fn.ntmps-us.toArray.size) undef,defers:=[] }:Act).put (some d0) rv |>.put (some d1) rv) ({ c0 with mode:=u' }::cs) w:=by
  refine wpS_of_wp (wp_mono (h β C _ w ⟨S,_,hput⟩) fun e a' w' ⟨st',he,S',β',hs⟩=> ?_)
  obtain⟨he,cc,r,ks,js,m,hres,hcc,hjs,hout,hchk,hpin,rfl⟩:=he
  obtain⟨uu,hrun,hv⟩:=Zd0 hs hres hcc
  simp only[Yao,Yaz]at hchk
  obtain⟨⟨⟨hj1,hsh⟩,hndk⟩,hkk⟩:=hchk
  have hOut:=Zoc (r:= .any) (u:=undef) hkeep hs (fun _=>rfl) hout (by simp only[Yao,Yaz];exact⟨⟨hsh,hndk⟩,hkk⟩) hpin (fun _ _=> .any _)
  rcases he with rfl|rfl
  ·exact⟨hs.defers,u',rfl,uu,hrun,⟨uu,rfl⟩,rfl,hOut⟩
  ·exact⟨hs.defers,u',rfl,uu,hrun,⟨uu,rfl⟩,rfl,hOut⟩
 show wpOpsS P #[oR,oA] _ [0,1] _ _ _
 have hA2: ∀a w,(execOp (Act.eval a) oA).run P w= .ok (.value (a.eval (.tmp d0))) w:=fun a w=>by
  unfold execOp
  simp[hA.1]
 have h1: ∀ys,Region.wanted oR ys=true:=fun ys=>by simp[Region.wanted,hR.2.2]
 have h2: ∀ys,Region.wanted oA ys=true:=fun ys=>by simp[Region.wanted,hA.2.2]
 have hlast: ∀cs',cs'={ c0 with mode:=u' }::cs->wpOpsS P #[oR,oA] (Exit.thenS (c2.wpS P (bodyPostS P fn c0 cs fun e um w'=>(∃v,e= .returned v)/\um=u'/\ZwB S w w' β (mem.map (·.1)) keep .any m' undef)) (bodyPostS P fn c0 cs fun e um w'=>(∃v,e= .returned v)/\um=u'/\ZwB S w w' β (mem.map (·.1)) keep .any m' undef)) [1] (({ tmps:=us.toArray++Array.replicate (fn.ntmps-us.toArray.size) undef,defers:=[] }:Act).put (some d0) rv) cs' w:=by
  rintro cs' rfl
  simp only[wpOpsS,List.getElem?_toArray,List.getElem?_cons_succ,List.getElem?_cons_zero,h2,if_true,hA2]
  simp only[Oper.upon]
  rw[hA.2.1]
  have e:(({ tmps:=us.toArray++Array.replicate (fn.ntmps-us.toArray.size) undef,defers:=[] }:Act).put (some d0) rv).eval (.tmp d0)=rv:=by
   have hsz:=hinit.tsize
   simp only[Zn3]at hsz
   simp only[Act.eval,Act.put]
   rw[Yan,Array.getElem?_setIfInBounds]
   simp only[if_true]
   rw[if_pos (by rw[hsz];exact hd0)]
   rfl
  rw[e]
  exact hend
 unfold wpOpsS
 simp only[List.getElem?_toArray,List.getElem?_cons_zero,h1,if_true,hrec]
 rcases hu c0 cs hc0 with hr|⟨hr,rfl,rfl⟩
 ·rw[hr,hR.2.1]
  exact hlast _ rfl
 ·rw[hr,hR.2.1]
  have e:({ c0 with mode:=u' }:Frame)=c0:=by subst hc0;rfl
  exact hlast _ (by rw[e])
theorem Zp7 {fn:Func}{R:V->List (Nat×List V)->Prop}{S':Nat->Prop}{β':Nat->Option BI}{a':Act}{st':St}{e:Exit}{ok:Sok S w}{sep: ∀b,S b-> ¬False}{ds:List Deferred}
 (hs:SR ⟨S,w,fun _=>False,ok,sep,ds⟩ S' β' st' a' w') (he:Zf4 P fn.results.toList R e st'): ∃u,(results fn a'.tmps).run P w'= .ok u w'/\ ∃r m,R r m/\Out S w w' r m u:=by
 obtain⟨_,cc,r,ks,m,hres,hcc,hks,hout,hR⟩:=he
 obtain⟨u,hrun,hv⟩:=Zd0 hs hres hcc
 obtain⟨m1,m2,m3⟩:=ZkN hout
 have hin: ∀k cs,(k,cs)∈m->(if k∈ks then β' k else none)=β' k:=fun k cs hk=>if_pos (m2 k cs hk).1
 refine⟨u,hrun,r,m,hR,⟨S',fun k=>if k∈ks then β' k else none,hs.sub,fun b hb=> ?_,?_,?_,?_,?_,?_,m3⟩,hs.frame⟩
 ·rcases hs.snew b hb with h1|h1
  ·exact .inl h1
  ·exact .inr ⟨h1,hs.slt b hb⟩
 ·exact VR.restrict 4 hks (fun k hk=>if_pos hk) hv
 ·intro k cs hk
  rcases hs.objs k _ (m2 k cs hk).2 with⟨h1,h2,h3⟩|⟨bi,cur,e',fz,hbi,hr⟩
  ·exact .inl ⟨h1,h2,(hin k cs hk).trans h3⟩
  ·refine .inr ⟨bi,cur,e',fz,(hin k cs hk).trans hbi,hr.heap,hr.size,hr.free,hr.fits,hr.len,?_⟩
   intro i v hv
   obtain⟨u,hu,h1,hr'⟩:=hr.cells i v hv
   exact⟨u,hu,h1,by rw[if_pos rfl]at hr' ⊢;exact hr'⟩
 ·intro k cs bi hk hbi
  replace hbi:=(hin k cs hk).symm.trans hbi
  have:=hs.own k bi (by rw[(m2 k cs hk).2];rfl) hbi
  exact⟨this.2.resolve_right (fun h=>h.1),this.1⟩
 ·intro k k' cs cs' bi bi' hk hk' hbi hbi' hblk
  replace hbi:=(hin k cs hk).symm.trans hbi
  replace hbi':=(hin k' cs' hk').symm.trans hbi'
  exact hs.inj k k' bi bi' (by rw[(m2 k cs hk).2];rfl) (by rw[(m2 k' cs' hk').2];rfl) hbi hbi' hblk
 ·intro k hk
  refine if_neg fun hkk=> ?_
  obtain⟨cs,h⟩:=m1 k hkk
  exact hk cs h
theorem ZjY {id:Nat}{mk df:Oper}{g:FuncId}{caps:Array Operand}{dm:Nat}{Qw:Exit->Act->World->Prop}(hm:mk.op= .makeFunc (.func g) #[] caps/\mk.dst=some dm/\mk.guard=none)(hd:df.op= .defer { callee:= .value (.tmp dm),args:= #[],argTypes:= #[] }/\df.dst=none/\df.guard=none)(hdm:dm<a.tmps.size)
 (k:Qw .normal { a.put (some dm) (.func (.func g) #[] (caps.map a.eval))with defers:={ target:= .fn (.func g) (caps.map a.eval),args:= #[] }::a.defers } w):(Code.region id #[mk,df] false).wp P Qw a w:=by
 refine wp_region_lit (l:=[mk,df]) ?_
 refine wpList_plain hm.2.2 fun K hK=> ?_
 have h1:(execOp a.eval mk).run P w= .ok (.value (.func (.func g) #[] (caps.map a.eval))) w:=by
  unfold execOp
  simp[hm.1,Instr.makeFunc]
 unfold Oper.wp
 rw[h1]
 show K (a.put mk.dst _) w
 rw[hm.2.1]
 refine hK _ _ ?_
 refine wpList_plain hd.2.2 fun K2 hK2=> ?_
 have e:(a.put (some dm) (.func (.func g) #[] (caps.map a.eval))).eval (.tmp dm)= .func (.func g) #[] (caps.map a.eval):=by
  simp only[Act.eval,Act.put]
  rw[Yan,Array.getElem?_setIfInBounds]
  simp[hdm]
 have h2:(execOp (a.put (some dm) (.func (.func g) #[] (caps.map a.eval))).eval df).run P w= .ok (.defer { target:= .fn (.func g) (caps.map a.eval),args:= #[] }) w:=by
  unfold execOp
  simp[hd.1,resolve,Deferred.ofValue,e]
 unfold Oper.wp
 rw[h2]
 show K2 (({ a.put (some dm) (.func (.func g) #[] (caps.map a.eval))with defers:={ target:= .fn (.func g) (caps.map a.eval),args:= #[] }::(a.put (some dm) (.func (.func g) #[] (caps.map a.eval))).defers }:Act).put df.dst undef) w
 rw[hd.2.1]
 exact hK2 _ _ (wpList_nil k)
def ZnQ (P:Program)(fn:Func)(g:FuncId)(ρ:List (Nat×Nat))(keep:List Nat)(d:Nat)(R:V->List (Nat×List V)->Prop)(pn:Nat->Option BI):Exit->St->Prop:=fun e st=>
 ∃u u' mem m',((e= .ret/\u= .returning)\/ ∃ch,e= .panic ch/\u= .panicking ch)/\settle u'= .returning/\Zhv st ρ ρ=some mem/\Zn4 st ρ keep=true/\d<st.n/\(∀p∈ρ,lk st.lent p.2=some (pn p.2))/\
  AMD P g (ρ.map fun p=> .ptr p.1 0) mem keep u u' m'/\Zrm ρ d m'=true/\Zf4 P fn.results.toList R .ret ((st.back ρ keep d m' .any).put d .any)
theorem ZnQ.mk {fn:Func}{g:FuncId}{ρ:List (Nat×Nat)}{keep:List Nat}{d:Nat}{R:V->List (Nat×List V)->Prop}{pn:Nat->Option BI}{e:Exit}{u u':FrameMode}{mem m':Mem}(h1:(e= .ret/\u= .returning)\/ ∃ch,e= .panic ch/\u= .panicking ch)(h2:settle u'= .returning)(h3:Zhv st ρ ρ=some mem)(h4:Zn4 st ρ keep=true)(h5:d<st.n)(h6: ∀p∈ρ,lk st.lent p.2=some (pn p.2))
 (h7:AMD P g (ρ.map fun p=> .ptr p.1 0) mem keep u u' m') (h8:Zrm ρ d m'=true) (h9:Zf4 P fn.results.toList R .ret ((st.back ρ keep d m' .any).put d .any)):ZnQ P fn g ρ keep d R pn e st:=⟨u,u',mem,m',h1,h2,h3,h4,h5,h6,h7,h8,h9⟩
theorem Zod {fn:Func}{g:FuncId}{ρ:List (Nat×Nat)}{keep:List Nat}{d:Nat}{R:V->List (Nat×List V)->Prop}{pn:Nat->Option BI}{e:Exit}{us:Array Value}{ok:Sok S w}{sep: ∀b,S b-> ¬False}(hcg:Za P g=true)
 (hus:us.size=ρ.length/\ ∀(j:Nat) (p:Nat×Nat) (u:Value),ρ[j]? = some p->us[j]? = some u-> ∃bi,pn p.2=some bi/\u= .pointer (some ⟨bi.blk,bi.off,none⟩))
 {S':Nat->Prop} {β':Nat->Option BI} {a':Act} {st':St} (hs:SR ⟨S,w,fun _=>False,ok,sep,[{ target:= .fn (.func g) us,args:= #[] }]⟩ S' β' st' a' w') (he:ZnQ P fn g ρ keep d R pn e st') :
 bodyPostD P fn (fun e w'=> ∃r mem u,R r mem/\e= .returned u/\Out S w w' r mem u) e a' w':=by
 obtain⟨u,u',mem,m',h1,h2,h3,h4,h5,h6,h7,h8,h9⟩:=he
 have hinv:(invoke (.fn (.func g) us) #[]).run P w'= .ok (.enter g us) w':=by
  unfold Za at hcg
  split at hcg<;>first|(cases hcg;done)|skip
  rename_i fn' hfn
  simp only[Yao,bne_iff_ne,ne_eq]at hcg
  have h2: ¬fn'.body=none:=by intro e;rw[e]at hcg;simp at hcg
  simp[invoke,callFunc,hfn,hcg.1,h2]
 have key:u≠ .run->Leaves P fn a'.tmps (fun e w'=> ∃r mem u,R r mem/\e= .returned u/\Out S w w' r mem u) a'.defers u w':=by
  intro hu
  rw[hs.defers]
  refine leaves_cons hu hinv ?_
  obtain⟨hm1,hm2⟩:=Zdj h3
  have hck':=h4
  simp only[Zn4,Yao,Yaz,Yat]at hck'
  obtain⟨⟨hn1,hn2⟩,hkp⟩:=hck'
  let βc:Nat->Option BI:=fun k=>(lk ρ k).bind β'
  have hpk: ∀p∈ρ,βc p.1=pn p.2/\β' p.2=pn p.2:=fun p hp=>by
   have e1:lk ρ p.1=some p.2:=Zar hn1 hp
   have e2:=h6 p hp
   obtain⟨j,hj,hj2⟩:=List.getElem_of_mem hp
   obtain⟨bi,hb1,_⟩:=hus.2 j p _ (by rw[Yab hj,hj2]) (Array.getElem?_eq_getElem (by rw[hus.1];exact hj))
   rw[hb1]at e2 ⊢
   have e3:=hs.pins p.2 bi (Zau e2)
   exact⟨by simp only[βc,e1];exact e3,e3⟩
  have hc:=h7 S' w' βc us.toList hs.sok (by simp[hus.1]) (fun j v u hv hu=>by
   rw[Yas,Yaj]at hv
   obtain⟨p,hp,rfl⟩:=hv
   rw[Array.getElem?_toList]at hu
   obtain⟨bi,e1,rfl⟩:=hus.2 j p u hp hu
   have:=(hpk p (Ya0 hp)).1
   exact .ptr p.1 0 bi (this.trans e1)) (fun k o hk=>by
   obtain⟨K,o',e1,e2,rfl⟩:=hm2 k o hk
   exact OR.rk (fun K j hj=> .inr (by simp only[βc,Zar hn1 (Zer hj)];rfl)) (hs.objs K o' e2) (by simp only[βc,Zar hn1 e1];rfl)) (fun k o bi hk hb=>by
   obtain⟨K,o',e1,e2,rfl⟩:=hm2 k o hk
   simp only[βc,Zar hn1 e1]at hb
   exact(hs.own K bi (by rw[e2];rfl) hb).1) (fun k k' o o' bi bi' hk hk' hb hb' e=>by
   obtain⟨K,o1,e1,e2,rfl⟩:=hm2 k o hk
   obtain⟨K',o1',e1',e2',rfl⟩:=hm2 k' o' hk'
   simp only[βc,Zar hn1 e1]at hb
   simp only[βc,Zar hn1 e1']at hb'
   have hKK:=hs.inj K K' bi bi' (by rw[e2];rfl) (by rw[e2'];rfl) hb hb' e
   subst hKK
   exact Zgk hn2 e1 e1') (by rw[hm1];exact hn1) (fun k hk=>by
   have:=hkp k hk
   split at this
   ·rename_i o ho
    rw[Option.bind_eq_some_iff]at ho
    obtain⟨K,hK1,hK2⟩:=ho
    rcases hs.objs K o hK2 with⟨q1,q2,_⟩|⟨bi,_,_,_,hbi,_⟩
    ·rw[q1,q2]at this;cases this
    ·exact⟨bi,by simp only[βc,hK1];exact hbi⟩
   ·cases this)
  refine CallsD.mono hc ?_
  rintro e'' um w'' ⟨⟨v,rfl⟩,rfl,hout⟩
  obtain⟨S2,β2,hs2⟩:=hs.calledM (d:=d) h5 h3 h4 h8 (fun _=>rfl) hout
  obtain⟨uu,hr,r,m,hR,hO⟩:=Zp7 hs2.unput h9
  show Leaves P fn a'.tmps _ [] (settle um) w''
  rw[h2]
  exact⟨uu,hr,r,m,uu,hR,rfl,hO⟩
 rcases h1 with⟨rfl,rfl⟩|⟨ch,rfl,rfl⟩
 ·exact key (by simp)
 ·exact key (by simp)
theorem AWL.convSame {t e:TypeId}{x:Operand}{d k n by_:Nat}{ob:ZaK}(hg:o.guard=none)(ho:o.op= .convert t t x)(hd:o.dst=some d)(hdn:Nat.ble (d+1) st.n=true)(hx:st.ev x= .ref k 0 n 1)(hob:st.obj k=some ob)(hne:ob.cs≠[])(hn:0<n)(ht:Zgf P t=some (e,1,by_))(he:ZhW P e=some .u8)
 (k':AWL P ops rest Q ((st.setObj k ob).put d (.ref k 0 n 1))):AWL P ops (o::rest) Q st:=by
 refine AWL.ends hg (fun C S β a w hs=> ?_) k'
 have hv:=hx▸Zag hs x
 obtain⟨A,c,hu,hr⟩:=VR.ref_inv hv
 rcases hr with⟨h0,_⟩|⟨bi,hbi,hA,h1,h2,h3⟩
 ·omega
 rcases hs.objs k ob hob with⟨_,h0,_⟩|⟨bi',cur,e',fz,hbi',hor⟩
 ·exact absurd h0 hne
 rw[hbi]at hbi'
 cases hbi'
 obtain⟨hu1,i,hi,_,_⟩:=Zaz ht
 have hu2:=Zbl he
 have hsh:w.shape? bi.blk=some (e',cur.size):=by simp[World.shape?,hor.heap]
 have hb:bi.blk<w.heap.size:=Zge hor.heap
 let fz':Nat×Nat:=if fz.1==fz.2 then(cur.size,cur.size+1)else(min fz.1 cur.size,max fz.2 (cur.size+1))
 have hw':(w.freeze ⟨bi.blk,cur.size,none⟩ 1).heap[bi.blk]? = some (.cells cur e' fz'):=by
  unfold World.freeze
  rw[if_neg (by decide)]
  show(w.heap.modify bi.blk _)[bi.blk]? = _
  rw[Array.getElem?_modify,if_pos rfl,hor.heap]
  rfl
 have hoth: ∀b,b≠bi.blk->(w.freeze ⟨bi.blk,cur.size,none⟩ 1).heap[b]? = w.heap[b]? :=fun b hne=>by
  unfold World.freeze
  rw[if_neg (by decide)]
  show(w.heap.modify bi.blk _)[b]? = _
  rw[Array.getElem?_modify,if_neg (fun h=>hne h.symm)]
 have hsz:w.heap.size=(w.freeze ⟨bi.blk,cur.size,none⟩ 1).heap.size:=by
  unfold World.freeze
  rw[if_neg (by decide)]
  show _=(w.heap.modify bi.blk _).size
  rw[Array.size_modify]
 have hnf:ZB8 fz' cur.size:=by
  obtain⟨q1,q2⟩:=hor.free
  show ZB8 (if fz.1==fz.2 then(cur.size,cur.size+1)else(min fz.1 cur.size,max fz.2 (cur.size+1))) cur.size
  by_cases hq:fz.1=fz.2
  ·rw[if_pos (by simpa using hq)]
   exact⟨Nat.le_succ _,fun j hj h=>by have:=h.1;simp only at this;omega⟩
  ·rw[if_neg (by simpa using hq)]
   have hlo:cur.size<=fz.1:=Nat.le_of_not_lt fun hlt=>q2 fz.1 hlt ⟨Nat.le_refl _,by omega⟩
   refine⟨by simp only;omega,fun j hj h=> ?_⟩
   have:=h.1
   simp only at this
   omega
 have hor':ORs S (w.freeze ⟨bi.blk,cur.size,none⟩ 1) β ob bi cur e' fz':=by
  have hS: ∀b,S b->(w.freeze ⟨bi.blk,cur.size,none⟩ 1).heap[b]? = w.heap[b]? :=fun b hb=>hoth b fun e=>(hs.own k bi (by rw[hob];rfl) hbi).1 (e▸hb)
  refine⟨hw',hor.size,hnf,hor.fits,hor.len,fun j v hv=> ?_⟩
  obtain⟨u,h1,h2,h3⟩:=hor.cells j v hv
  refine⟨u,h1,h2,?_⟩
  split at h3
  ·rename_i hf;rw[if_pos hf];exact⟨h3.1,h3.2.step (fun _ h=>h) hS⟩
  ·rename_i hf;rw[if_neg hf];exact h3.step (fun _ h=>h) hS
 have hs2:=hs.write k ob (by rw[hob];rfl) (w':=w.freeze ⟨bi.blk,cur.size,none⟩ 1) (by unfold World.freeze;rw[if_neg (by decide)]) (by unfold World.freeze;rw[if_neg (by decide)]) (by unfold World.freeze;rw[if_neg (by decide)]) hsz (fun b _ hne=>hoth b (hne bi hbi)) (.inr ⟨bi,cur,e',fz',hbi,hor'⟩)
 have hn0: ¬n=0:=by omega
 refine⟨_,w.freeze ⟨bi.blk,cur.size,none⟩ 1,S,β,.inl ⟨a.eval x,?_,by rw[hd]⟩,hs2.put (Yaa hdn) (by rw[hu];exact .ref k 0 n 1 A c (.inr ⟨bi,hbi,hA,h1,h2,h3⟩))⟩
 unfold execOp
 subst hA
 simp[ho,hu,convert,run_underlying hu1,run_underlying hu2,markStringish,hsh]
theorem SR.wkO (h:SR C S β st a w){k:Nat}{cs cs':List V}(ho:st.obj k=some ⟨false,cs⟩)(hw:WkL cs cs'):SR C S β (st.setObj k ⟨false,cs'⟩) a w:=by
 have hsome: ∀j,((st.setObj k ⟨false,cs'⟩).obj j).isSome=(st.obj j).isSome:=by
  intro j
  rw[St.obj_setObj]
  by_cases hj:j=k
  ·subst hj;rw[if_pos rfl,ho];rfl
  ·rw[if_neg hj]
 refine{ tsize:=h.tsize,slots:=h.slots,defers:=h.defers,objs:= ?_,inj:= ?_,own:= ?_,pins:=h.pins,sub:=h.sub,snew:=h.snew,slt:=h.slt,frame:=h.frame }
 ·intro j o' ho'
  rw[St.obj_setObj]at ho'
  by_cases hj:j=k
  ·subst hj
   rw[if_pos rfl]at ho'
   cases ho'
   rcases h.objs j _ ho with⟨h1,_,_⟩|⟨bi,cur,e,fz,hbi,hor⟩
   ·cases h1
   ·refine .inr ⟨bi,cur,e,fz,hbi,hor.heap,hor.size,hor.free,by have:=hor.fits;simpa[hw.length]using this,by have:=hor.len;simpa[hw.length]using this,?_⟩
    intro i v hv
    obtain⟨v',hv',hwk⟩:=hw.at hv
    obtain⟨u,hu,hu1,hr⟩:=hor.cells i v' hv'
    refine⟨u,hu,hu1,?_⟩
    rw[if_neg (by simp)]at hr ⊢
    exact hwk _ _ _ _ hr
  ·rw[if_neg hj]at ho'
   exact h.objs j o' ho'
 ·intro j j' bi bi' h1 h2
  rw[hsome]at h1 h2
  exact h.inj j j' bi bi' h1 h2
 ·intro j bi h1
  rw[hsome]at h1
  exact h.own j bi h1
theorem AW.wkO {c:Code}(k:Nat){cs cs':List V}(ho:st.obj k=some ⟨false,cs⟩)(hw:WkL cs cs')(h:AW P c Q (st.setObj k ⟨false,cs'⟩)):AW P c Q st:=fun C a w ⟨S,β,hs⟩=>h C a w ⟨S,β,hs.wkO ho hw⟩
end
end Go.Abs
namespace Go.Proofs.YtimhmpdfioihlaaGreatDoor
set_option maxRecDepth 20000
open Go Go.Abs
theorem i2:ZhW Tryz.prog 2=some .i64:=by kernel_rfl
theorem i3:ZhW Tryz.prog 3=some .i64:=by kernel_rfl
theorem i5:ZhW Tryz.prog 5=some .u8:=by kernel_rfl
theorem i12:ZhW Tryz.prog 12=some .u64:=by kernel_rfl
theorem i21:ZhW Tryz.prog 21=some .i32:=by kernel_rfl
theorem i35:ZhW Tryz.prog 35=some .i64:=by kernel_rfl
theorem i48:ZhW Tryz.prog 48=some .u64:=by kernel_rfl
theorem ZH2:ZhW Tryz.prog 148=some .u64:=by kernel_rfl
theorem ZH3:ZhW Tryz.prog 216=some .u32:=by kernel_rfl
theorem ZH4:ZhW Tryz.prog 221=some .i8:=by kernel_rfl
theorem TY:(∀h:2<Tryz.prog.types.size,(Tryz.prog.types[2]'h).size=1)/\
 (∀v:V,(Zac Tryz.prog 2 v).1= ∃n,v= .int .i64 n)/\
 (∀v:V,(Zac Tryz.prog 2 v).2= .int .i64 (vi v))/\
 (∀h:3<Tryz.prog.types.size,(Tryz.prog.types[3]'h).size=1)/\
 (∀v:V,(Zac Tryz.prog 3 v).1= ∃n,v= .int .i64 n)/\
 (∀v:V,(Zac Tryz.prog 3 v).2= .int .i64 (vi v))/\
 (∀h:4<Tryz.prog.types.size,(Tryz.prog.types[4]'h).size=1)/\
 (∀v:V,(Zac Tryz.prog 4 v).1= ∃b,v= .bool b)/\
 (∀v:V,(Zac Tryz.prog 4 v).2= .bool (vb v))/\
 (∀h:5<Tryz.prog.types.size,(Tryz.prog.types[5]'h).size=1)/\
 (∀v:V,(Zac Tryz.prog 5 v).1= ∃n,v= .int .u8 n)/\
 (∀v:V,(Zac Tryz.prog 5 v).2= .int .u8 (vi v))/\
 (∀h:9<Tryz.prog.types.size,(Tryz.prog.types[9]'h).size=1)/\
 (∀v:V,(Zac Tryz.prog 9 v).1= ∃s,v= .str s)/\
 (∀v:V,(Zac Tryz.prog 9 v).2= .str (vst v))/\
 (∀h:12<Tryz.prog.types.size,(Tryz.prog.types[12]'h).size=1)/\
 (∀v:V,(Zac Tryz.prog 12 v).1= ∃n,v= .int .u64 n)/\
 (∀v:V,(Zac Tryz.prog 12 v).2= .int .u64 (vi v))/\
 (∀h:20<Tryz.prog.types.size,(Tryz.prog.types[20]'h).size=1)/\
 (∀h:21<Tryz.prog.types.size,(Tryz.prog.types[21]'h).size=1)/\
 (∀v:V,(Zac Tryz.prog 21 v).1= ∃n,v= .int .i32 n)/\
 (∀v:V,(Zac Tryz.prog 21 v).2= .int .i32 (vi v))/\
 (∀h:22<Tryz.prog.types.size,(Tryz.prog.types[22]'h).size=1)/\
 (∀v:V,(Zac Tryz.prog 22 v).1= ∃n cs,v= .view n 2 cs)/\
 (∀v:V,(Zac Tryz.prog 22 v).2= .view (vn v) 2 (vcs v))/\
 (∀h:23<Tryz.prog.types.size,(Tryz.prog.types[23]'h).size=1)/\
 (∀v:V,(Zac Tryz.prog 23 v).1= ∃n cs,v= .view n 3 cs)/\
 (∀v:V,(Zac Tryz.prog 23 v).2= .view (vn v) 3 (vcs v))/\
 (∀h:24<Tryz.prog.types.size,(Tryz.prog.types[24]'h).size=1)/\
 (∀v:V,(Zac Tryz.prog 24 v).1= ∃n cs,v= .view n 1 cs)/\
 (∀v:V,(Zac Tryz.prog 24 v).2= .view (vn v) 1 (vcs v))/\
 (∀h:25<Tryz.prog.types.size,(Tryz.prog.types[25]'h).size=1)/\
 (∀v:V,(Zac Tryz.prog 25 v).1= ∃n cs,v= .view n 2 cs)/\
 (∀v:V,(Zac Tryz.prog 25 v).2= .view (vn v) 2 (vcs v))/\
 (∀h:26<Tryz.prog.types.size,(Tryz.prog.types[26]'h).size=1)/\
 (∀v:V,(Zac Tryz.prog 26 v).1= ∃n cs,v= .view n 3 cs)/\
 (∀v:V,(Zac Tryz.prog 26 v).2= .view (vn v) 3 (vcs v))/\
 (∀h:27<Tryz.prog.types.size,(Tryz.prog.types[27]'h).size=1)/\
 (∀v:V,(Zac Tryz.prog 27 v).1= ∃n cs,v= .view n 3 cs)/\
 (∀v:V,(Zac Tryz.prog 27 v).2= .view (vn v) 3 (vcs v))/\
 (∀h:28<Tryz.prog.types.size,(Tryz.prog.types[28]'h).size=1)/\
 (∀v:V,(Zac Tryz.prog 28 v).1= ∃n cs,v= .view n 2 cs)/\
 (∀v:V,(Zac Tryz.prog 28 v).2= .view (vn v) 2 (vcs v))/\
 (∀h:29<Tryz.prog.types.size,(Tryz.prog.types[29]'h).size=1)/\
 (∀v:V,(Zac Tryz.prog 29 v).1= ∃n cs,v= .view n 2 cs)/\
 (∀v:V,(Zac Tryz.prog 29 v).2= .view (vn v) 2 (vcs v))/\
 (∀h:30<Tryz.prog.types.size,(Tryz.prog.types[30]'h).size=1)/\
 (∀v:V,(Zac Tryz.prog 30 v).1= ∃n cs,v= .view n 2 cs)/\
 (∀v:V,(Zac Tryz.prog 30 v).2= .view (vn v) 2 (vcs v))/\
 (∀h:31<Tryz.prog.types.size,(Tryz.prog.types[31]'h).size=11)/\
 (∀h:32<Tryz.prog.types.size,(Tryz.prog.types[32]'h).size=11)/\
 (∀h:34<Tryz.prog.types.size,(Tryz.prog.types[34]'h).size=1)/\
 (∀v:V,(Zac Tryz.prog 34 v).1= ∃n cs,v= .view n 1 cs)/\
 (∀v:V,(Zac Tryz.prog 34 v).2= .view (vn v) 1 (vcs v))/\
 (∀h:35<Tryz.prog.types.size,(Tryz.prog.types[35]'h).size=1)/\
 (∀v:V,(Zac Tryz.prog 35 v).1= ∃n,v= .int .i64 n)/\
 (∀v:V,(Zac Tryz.prog 35 v).2= .int .i64 (vi v))/\
 (∀h:43<Tryz.prog.types.size,(Tryz.prog.types[43]'h).size=2)/\
 (∀h:44<Tryz.prog.types.size,(Tryz.prog.types[44]'h).size=2)/\
 (∀h:45<Tryz.prog.types.size,(Tryz.prog.types[45]'h).size=8)/\
 (∀h:46<Tryz.prog.types.size,(Tryz.prog.types[46]'h).size=3)/\
 (∀h:47<Tryz.prog.types.size,(Tryz.prog.types[47]'h).size=3)/\
 (∀h:48<Tryz.prog.types.size,(Tryz.prog.types[48]'h).size=1)/\
 (∀v:V,(Zac Tryz.prog 48 v).1= ∃n,v= .int .u64 n)/\
 (∀v:V,(Zac Tryz.prog 48 v).2= .int .u64 (vi v))/\
 (∀h:49<Tryz.prog.types.size,(Tryz.prog.types[49]'h).size=6)/\
 (∀h:50<Tryz.prog.types.size,(Tryz.prog.types[50]'h).size=6)/\
 (∀h:51<Tryz.prog.types.size,(Tryz.prog.types[51]'h).size=1)/\
 (∀v:V,(Zac Tryz.prog 51 v).1= ∃n cs,v= .view n 6 cs)/\
 (∀v:V,(Zac Tryz.prog 51 v).2= .view (vn v) 6 (vcs v))/\
 (∀h:52<Tryz.prog.types.size,(Tryz.prog.types[52]'h).size=2)/\
 (∀h:53<Tryz.prog.types.size,(Tryz.prog.types[53]'h).size=2)/\
 (∀h:54<Tryz.prog.types.size,(Tryz.prog.types[54]'h).size=3)/\
 (∀h:55<Tryz.prog.types.size,(Tryz.prog.types[55]'h).size=3)/\
 (∀h:56<Tryz.prog.types.size,(Tryz.prog.types[56]'h).size=2)/\
 (∀h:57<Tryz.prog.types.size,(Tryz.prog.types[57]'h).size=2)/\
 (∀h:58<Tryz.prog.types.size,(Tryz.prog.types[58]'h).size=2)/\
 (∀h:59<Tryz.prog.types.size,(Tryz.prog.types[59]'h).size=2)/\
 (∀h:62<Tryz.prog.types.size,(Tryz.prog.types[62]'h).size=1)/\
 (∀h:63<Tryz.prog.types.size,(Tryz.prog.types[63]'h).size=2)/\
 (∀h:64<Tryz.prog.types.size,(Tryz.prog.types[64]'h).size=2)/\
 (∀h:76<Tryz.prog.types.size,(Tryz.prog.types[76]'h).size=2)/\
 (∀h:77<Tryz.prog.types.size,(Tryz.prog.types[77]'h).size=2)/\
 (∀h:81<Tryz.prog.types.size,(Tryz.prog.types[81]'h).size=3)/\
 (∀h:82<Tryz.prog.types.size,(Tryz.prog.types[82]'h).size=3)/\
 (∀h:95<Tryz.prog.types.size,(Tryz.prog.types[95]'h).size=1)/\
 (∀h:96<Tryz.prog.types.size,(Tryz.prog.types[96]'h).size=1)/\
 (∀h:98<Tryz.prog.types.size,(Tryz.prog.types[98]'h).size=1)/\
 (∀h:99<Tryz.prog.types.size,(Tryz.prog.types[99]'h).size=3)/\
 (∀h:100<Tryz.prog.types.size,(Tryz.prog.types[100]'h).size=3)/\
 (∀h:106<Tryz.prog.types.size,(Tryz.prog.types[106]'h).size=1)/\
 (∀h:147<Tryz.prog.types.size,(Tryz.prog.types[147]'h).size=1)/\
 (∀v:V,(Zac Tryz.prog 147 v).1= ∃n cs,v= .view n 1 cs)/\
 (∀v:V,(Zac Tryz.prog 147 v).2= .view (vn v) 1 (vcs v))/\
 (∀h:148<Tryz.prog.types.size,(Tryz.prog.types[148]'h).size=1)/\
 (∀v:V,(Zac Tryz.prog 148 v).1= ∃n,v= .int .u64 n)/\
 (∀v:V,(Zac Tryz.prog 148 v).2= .int .u64 (vi v))/\
 (∀h:150<Tryz.prog.types.size,(Tryz.prog.types[150]'h).size=256)/\
 (∀h:151<Tryz.prog.types.size,(Tryz.prog.types[151]'h).size=2)/\
 (∀h:152<Tryz.prog.types.size,(Tryz.prog.types[152]'h).size=2)/\
 (∀h:153<Tryz.prog.types.size,(Tryz.prog.types[153]'h).size=32)/\
 (∀h:168<Tryz.prog.types.size,(Tryz.prog.types[168]'h).size=5)/\
 (∀h:169<Tryz.prog.types.size,(Tryz.prog.types[169]'h).size=5)/\
 (∀h:179<Tryz.prog.types.size,(Tryz.prog.types[179]'h).size=1)/\
 (∀v:V,(Zac Tryz.prog 179 v).1= ∃n cs,v= .view n 5 cs)/\
 (∀v:V,(Zac Tryz.prog 179 v).2= .view (vn v) 5 (vcs v))/\
 (∀h:181<Tryz.prog.types.size,(Tryz.prog.types[181]'h).size=5)/\
 (∀h:182<Tryz.prog.types.size,(Tryz.prog.types[182]'h).size=5)/\
 (∀h:183<Tryz.prog.types.size,(Tryz.prog.types[183]'h).size=1)/\
 (∀v:V,(Zac Tryz.prog 183 v).1= ∃n cs,v= .view n 1 cs)/\
 (∀v:V,(Zac Tryz.prog 183 v).2= .view (vn v) 1 (vcs v))/\
 (∀h:184<Tryz.prog.types.size,(Tryz.prog.types[184]'h).size=16)/\
 (∀h:185<Tryz.prog.types.size,(Tryz.prog.types[185]'h).size=16)/\
 (∀h:187<Tryz.prog.types.size,(Tryz.prog.types[187]'h).size=2)/\
 (∀h:188<Tryz.prog.types.size,(Tryz.prog.types[188]'h).size=2)/\
 (∀h:192<Tryz.prog.types.size,(Tryz.prog.types[192]'h).size=1)/\
 (∀h:193<Tryz.prog.types.size,(Tryz.prog.types[193]'h).size=4)/\
 (∀h:194<Tryz.prog.types.size,(Tryz.prog.types[194]'h).size=4)/\
 (∀h:206<Tryz.prog.types.size,(Tryz.prog.types[206]'h).size=1)/\
 (∀h:209<Tryz.prog.types.size,(Tryz.prog.types[209]'h).size=1)/\
 (∀v:V,(Zac Tryz.prog 209 v).1= ∃n cs,v= .view n 1 cs)/\
 (∀v:V,(Zac Tryz.prog 209 v).2= .view (vn v) 1 (vcs v))/\
 (∀h:216<Tryz.prog.types.size,(Tryz.prog.types[216]'h).size=1)/\
 (∀v:V,(Zac Tryz.prog 216 v).1= ∃n,v= .int .u32 n)/\
 (∀v:V,(Zac Tryz.prog 216 v).2= .int .u32 (vi v))/\
 (∀h:221<Tryz.prog.types.size,(Tryz.prog.types[221]'h).size=1)/\
 (∀v:V,(Zac Tryz.prog 221 v).1= ∃n,v= .int .i8 n)/\
 (∀v:V,(Zac Tryz.prog 221 v).2= .int .i8 (vi v)):=
 ⟨fun _=>by kernel_rfl,fun _=>rfl,fun _=>rfl,fun _=>by kernel_rfl,fun _=>rfl,fun _=>rfl,fun _=>by kernel_rfl,fun _=>rfl,fun _=>rfl,fun _=>by kernel_rfl,fun _=>rfl,fun _=>rfl,fun _=>by kernel_rfl,fun _=>rfl,fun _=>rfl,fun _=>by kernel_rfl,fun _=>rfl,fun _=>rfl,fun _=>by kernel_rfl,fun _=>by kernel_rfl,fun _=>rfl,fun _=>rfl,fun _=>by kernel_rfl,fun _=>rfl,fun _=>rfl,fun _=>by kernel_rfl,fun _=>rfl,fun _=>rfl,fun _=>by kernel_rfl,fun _=>rfl,fun _=>rfl,fun _=>by kernel_rfl,fun _=>rfl,fun _=>rfl,fun _=>by kernel_rfl,fun _=>rfl,fun _=>rfl,fun _=>by kernel_rfl,fun _=>rfl,fun _=>rfl,fun _=>by kernel_rfl,fun _=>rfl,fun _=>rfl,fun _=>by kernel_rfl,fun _=>rfl,fun _=>rfl,fun _=>by kernel_rfl,fun _=>rfl,fun _=>rfl,fun _=>by kernel_rfl,fun _=>by kernel_rfl,fun _=>by kernel_rfl,fun _=>rfl,fun _=>rfl,fun _=>by kernel_rfl,fun _=>rfl,fun _=>rfl,fun _=>by kernel_rfl,fun _=>by kernel_rfl,fun _=>by kernel_rfl,fun _=>by kernel_rfl,fun _=>by kernel_rfl,fun _=>by kernel_rfl,fun _=>rfl,fun _=>rfl,fun _=>by kernel_rfl,fun _=>by kernel_rfl,fun _=>by kernel_rfl,fun _=>rfl,fun _=>rfl,fun _=>by kernel_rfl,fun _=>by kernel_rfl,fun _=>by kernel_rfl,fun _=>by kernel_rfl,fun _=>by kernel_rfl,fun _=>by kernel_rfl,fun _=>by kernel_rfl,fun _=>by kernel_rfl,fun _=>by kernel_rfl,fun _=>by kernel_rfl,fun _=>by kernel_rfl,fun _=>by kernel_rfl,fun _=>by kernel_rfl,fun _=>by kernel_rfl,fun _=>by kernel_rfl,fun _=>by kernel_rfl,fun _=>by kernel_rfl,fun _=>by kernel_rfl,fun _=>by kernel_rfl,fun _=>by kernel_rfl,fun _=>by kernel_rfl,fun _=>by kernel_rfl,fun _=>rfl,fun _=>rfl,fun _=>by kernel_rfl,fun _=>rfl,fun _=>rfl,fun _=>by kernel_rfl,fun _=>by kernel_rfl,fun _=>by kernel_rfl,fun _=>by kernel_rfl,fun _=>by kernel_rfl,fun _=>by kernel_rfl,fun _=>by kernel_rfl,fun _=>rfl,fun _=>rfl,fun _=>by kernel_rfl,fun _=>by kernel_rfl,fun _=>by kernel_rfl,fun _=>rfl,fun _=>rfl,fun _=>by kernel_rfl,fun _=>by kernel_rfl,fun _=>by kernel_rfl,fun _=>by kernel_rfl,fun _=>by kernel_rfl,fun _=>by kernel_rfl,fun _=>by kernel_rfl,fun _=>by kernel_rfl,fun _=>by kernel_rfl,fun _=>rfl,fun _=>rfl,fun _=>by kernel_rfl,fun _=>rfl,fun _=>rfl,fun _=>by kernel_rfl,fun _=>rfl,fun _=>rfl⟩
end Go.Proofs.YtimhmpdfioihlaaGreatDoor
namespace Go.Proofs.YtimhmpdfioihlaaGreatDoor
open Go Go.Abs
theorem cb9:Za Tryz.prog 9=true:=by kernel_rfl
theorem ZCc:Za Tryz.prog 10=true:=by kernel_rfl
theorem ZEg:Za Tryz.prog 13=true:=by kernel_rfl
theorem ZEG:Za Tryz.prog 15=true:=by kernel_rfl
theorem ZGP:Za Tryz.prog 16=true:=by kernel_rfl
theorem Zrv:Za Tryz.prog 17=true:=by kernel_rfl
theorem ZGQ:Za Tryz.prog 18=true:=by kernel_rfl
theorem ZGR:Za Tryz.prog 19=true:=by kernel_rfl
theorem ZwD:Za Tryz.prog 20=true:=by kernel_rfl
theorem Zp8:Za Tryz.prog 21=true:=by kernel_rfl
theorem ZEh:Za Tryz.prog 22=true:=by kernel_rfl
theorem ZGS:Za Tryz.prog 23=true:=by kernel_rfl
theorem ZGT:Za Tryz.prog 24=true:=by kernel_rfl
theorem ZEH:Za Tryz.prog 25=true:=by kernel_rfl
theorem ZGU:Za Tryz.prog 26=true:=by kernel_rfl
theorem ZGV:Za Tryz.prog 27=true:=by kernel_rfl
theorem ZGm:Za Tryz.prog 28=true:=by kernel_rfl
theorem ZGW:Za Tryz.prog 29=true:=by kernel_rfl
theorem ZGn:Za Tryz.prog 30=true:=by kernel_rfl
theorem ZGX:Za Tryz.prog 31=true:=by kernel_rfl
theorem ZGY:Za Tryz.prog 32=true:=by kernel_rfl
theorem ZGZ:Za Tryz.prog 33=true:=by kernel_rfl
theorem ZG0:Za Tryz.prog 34=true:=by kernel_rfl
theorem ZG1:Za Tryz.prog 35=true:=by kernel_rfl
theorem ZGo:Za Tryz.prog 36=true:=by kernel_rfl
theorem ZG2:Za Tryz.prog 37=true:=by kernel_rfl
theorem ZG3:Za Tryz.prog 38=true:=by kernel_rfl
theorem ZEi:Za Tryz.prog 39=true:=by kernel_rfl
theorem ZG4:Za Tryz.prog 40=true:=by kernel_rfl
theorem ZG5:Za Tryz.prog 41=true:=by kernel_rfl
theorem ZG6:Za Tryz.prog 42=true:=by kernel_rfl
theorem ZG7:Za Tryz.prog 43=true:=by kernel_rfl
theorem ZG8:Za Tryz.prog 46=true:=by kernel_rfl
theorem ZzS:Za Tryz.prog 47=true:=by kernel_rfl
theorem ZzT:Za Tryz.prog 48=true:=by kernel_rfl
theorem ZEI:Za Tryz.prog 49=true:=by kernel_rfl
theorem Zrw:Za Tryz.prog 50=true:=by kernel_rfl
theorem ZEj:Za Tryz.prog 51=true:=by kernel_rfl
theorem ZG9:Za Tryz.prog 52=true:=by kernel_rfl
theorem ZGp:Za Tryz.prog 53=true:=by kernel_rfl
theorem ZEk:Za Tryz.prog 55=true:=by kernel_rfl
theorem ZGq:Za Tryz.prog 56=true:=by kernel_rfl
theorem ZHa:Za Tryz.prog 59=true:=by kernel_rfl
theorem Zkn:Za Tryz.prog 60=true:=by kernel_rfl
theorem ZHb:Za Tryz.prog 61=true:=by kernel_rfl
theorem ZHc:Za Tryz.prog 62=true:=by kernel_rfl
theorem ZzU:Za Tryz.prog 74=true:=by kernel_rfl
theorem ZGr:Za Tryz.prog 76=true:=by kernel_rfl
theorem ZHd:Za Tryz.prog 77=true:=by kernel_rfl
theorem ZHe:Za Tryz.prog 78=true:=by kernel_rfl
theorem ZHf:Za Tryz.prog 79=true:=by kernel_rfl
theorem ZHg:Za Tryz.prog 80=true:=by kernel_rfl
theorem ZHh:Za Tryz.prog 81=true:=by kernel_rfl
theorem ZEl:Za Tryz.prog 82=true:=by kernel_rfl
theorem ZHi:Za Tryz.prog 83=true:=by kernel_rfl
theorem ZHj:Za Tryz.prog 84=true:=by kernel_rfl
theorem ZGs:Za Tryz.prog 85=true:=by kernel_rfl
theorem ZHk:Za Tryz.prog 86=true:=by kernel_rfl
theorem ZHl:Za Tryz.prog 87=true:=by kernel_rfl
theorem ZHm:Za Tryz.prog 88=true:=by kernel_rfl
theorem ZHn:Za Tryz.prog 89=true:=by kernel_rfl
theorem ZHo:Za Tryz.prog 90=true:=by kernel_rfl
theorem ZHp:Za Tryz.prog 91=true:=by kernel_rfl
theorem ZHq:Za Tryz.prog 92=true:=by kernel_rfl
theorem ZHr:Za Tryz.prog 93=true:=by kernel_rfl
theorem ZHs:Za Tryz.prog 94=true:=by kernel_rfl
theorem ZHt:Za Tryz.prog 95=true:=by kernel_rfl
theorem ZHu:Za Tryz.prog 96=true:=by kernel_rfl
theorem ZwZ:Za Tryz.prog 105=true:=by kernel_rfl
theorem ZEJ:Za Tryz.prog 106=true:=by kernel_rfl
theorem ZEK:Za Tryz.prog 107=true:=by kernel_rfl
theorem ZmZ:Za Tryz.prog 114=true:=by kernel_rfl
theorem Zw0:Za Tryz.prog 115=true:=by kernel_rfl
theorem Zw1:Za Tryz.prog 116=true:=by kernel_rfl
theorem Zw2:Za Tryz.prog 117=true:=by kernel_rfl
theorem ZjZ:Za Tryz.prog 128=true:=by kernel_rfl
theorem ZkR:Za Tryz.prog 129=true:=by kernel_rfl
theorem ZCu:Za Tryz.prog 130=true:=by kernel_rfl
theorem Ze2:Za Tryz.prog 131=true:=by kernel_rfl
theorem ZEL:Za Tryz.prog 132=true:=by kernel_rfl
theorem ZEM:Za Tryz.prog 140=true:=by kernel_rfl
theorem ZEN:Za Tryz.prog 143=true:=by kernel_rfl
theorem ZEO:Za Tryz.prog 144=true:=by kernel_rfl
theorem Zw3:Za Tryz.prog 153=true:=by kernel_rfl
theorem Zw4:Za Tryz.prog 154=true:=by kernel_rfl
theorem ZkS:Za Tryz.prog 155=true:=by kernel_rfl
theorem ZEP:Za Tryz.prog 156=true:=by kernel_rfl
theorem ZEQ:Za Tryz.prog 157=true:=by kernel_rfl
theorem ZER:Za Tryz.prog 158=true:=by kernel_rfl
theorem ZES:Za Tryz.prog 170=true:=by kernel_rfl
theorem ZCv:Za Tryz.prog 171=true:=by kernel_rfl
theorem ZCw:Za Tryz.prog 172=true:=by kernel_rfl
end Go.Proofs.YtimhmpdfioihlaaGreatDoor
