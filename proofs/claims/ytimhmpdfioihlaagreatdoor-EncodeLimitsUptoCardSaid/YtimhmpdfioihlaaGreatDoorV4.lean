/- A library of mine, for walks over abstract states: part 4. It imports the kit alone. -/
import Derived.Test.YtimhmpdfioihlaaGreatDoorV3
import Derived.Deep.Slices
import Derived.JoinedCond
import Derived.ProofKit
import Derived.OpenShut
import Derived.Laws.Bits64
set_option linter.unusedSimpArgs false
set_option linter.unusedVariables false
namespace Go.Abs
open Go Go.RowKit
inductive Sh where
 |int (k:IntKind)
 |bool
 |str
 |sl (e:Sh)
 |arr (n:Nat) (e:Sh)
 |pair (a b:Sh)
@[reducible] def Sh.T:Sh->Type
  |.int _=>Int
  |.bool=>Bool
  |.str=>List UInt8
  |.sl e=>List e.T
  |.arr _ e=>List e.T
  |.pair a b=>a.T×b.T
def Sh.size:Sh->Nat
 |.arr n e=>n*e.size
 |.pair a b=>a.size+b.size
 |_=>1
def Sh.enc:(s:Sh)->s.T->List V
 |.int k,n=>[.int k n]
 |.bool,b=>[.bool b]
 |.str,s=>[.str s]
 |.sl e,l=>[.view (List.length (α:=e.T) l) e.size (List.flatMap (α:=e.T) e.enc l)]
 |.arr _ e,l=>List.flatMap (α:=e.T) e.enc l
 |.pair a b,p=>a.enc p.1++b.enc p.2
def Sh.good:(s:Sh)->s.T->Prop
 |.int k,n=>(Lit.int k n).wf=true
 |.bool,_=>True
 |.str,_=>True
 |.sl e,l=> ∀x∈(l:List e.T),e.good x
 |.arr n e,l=>List.length (α:=e.T) l=n/\ ∀x∈(l:List e.T),e.good x
 |.pair a b,p=>a.good p.1/\b.good p.2
def Sh.bulk:(s:Sh)->s.T->Nat
 |.int _,_=>1
 |.bool,_=>1
 |.str,s=>List.length (α:=UInt8) s+1
 |.sl e,l=>(List.map (α:=e.T) e.bulk l).sum+1
 |.arr _ e,l=>(List.map (α:=e.T) e.bulk l).sum+1
 |.pair a b,p=>a.bulk p.1+b.bulk p.2
def Sh.val:(s:Sh)->s.T->V
 |.int k,n=> .int k n
 |.bool,b=> .bool b
 |.str,s=> .str s
 |.sl e,l=> .view (List.length (α:=e.T) l) e.size (List.flatMap (α:=e.T) e.enc l)
 |.arr n e,l=> .fagg (Sh.enc (.arr n e) l)
 |.pair a b,p=> .fagg (Sh.enc (.pair a b) p)
inductive ZbH (P:Program):Sh->TypeId ⊕ (List Field×Nat)->Prop
 |int {k:IntKind} {t:TypeId} (h:P.underlying t=some (.int k)):ZbH P (.int k) (.inl t)
 |bool {t:TypeId} (h:P.underlying t=some .bool):ZbH P .bool (.inl t)
 |str {t:TypeId} (h:P.underlying t=some .string):ZbH P .str (.inl t)
 |sl {e:Sh} {t u:TypeId} (h:P.underlying t=some (.slice u)) (hc:P.cellsOf u=e.size) (he:ZbH P e (.inl u)):ZbH P (.sl e) (.inl t)
 |arr {e:Sh} {n:Nat} {t u:TypeId} (h:P.underlying t=some (.array n u)) (hc:P.cellsOf u=e.size) (he:ZbH P e (.inl u)):ZbH P (.arr n e) (.inl t)
 |st {s:Sh} {t:TypeId} {fs:Array Field} (h:P.underlying t=some (.struct fs)) (hs:ZbH P s (.inr (fs.toList,0))):ZbH P s (.inl t)
 |one {s:Sh} {f:Field} {off:Nat} (ho:f.offset=off) (hc:P.cellsOf f.type=s.size) (hs:ZbH P s (.inl f.type)):ZbH P s (.inr ([f],off))
 |cons {a b:Sh} {f g:Field} {fs:List Field} {off:Nat} (ho:f.offset=off) (hc:P.cellsOf f.type=a.size) (ha:ZbH P a (.inl f.type)) (hb:ZbH P b (.inr (g::fs,off+a.size))):ZbH P (.pair a b) (.inr (f::g::fs,off))
structure Zrn {H:Type}(B:DataW H->Nat)(BL:List (DataW H)->Nat):Prop where
 str: ∀s,B (.lit (.string s))=s.length+1
 lit: ∀l,1<=B (.lit l)
 nil:B .nil=1
 slice: ∀a b,B (.slice a b)=BL a+BL b+1
 agg: ∀a,B (.agg a)=BL a+1
 lnil:BL []=0
 lcons: ∀d l,BL (d::l)=B d+BL l
def Zcw (w:World)(vs:List V)(us:List Value):Prop:=
 vs.length=us.length/\ ∀(j:Nat) (v:V) (u:Value),vs[j]? = some v->us[j]? = some u->FR (fun b=>b<w.heap.size) w v u/\v.cell1=true
theorem Zcw.append {w:World}{a b:List V}{x y:List Value}(h1:Zcw w a x)(h2:Zcw w b y):Zcw w (a++b) (x++y):=by
 refine⟨by simp[h1.1,h2.1],fun j v u hv hu=> ?_⟩
 by_cases hj:j<a.length
 ·rw[Ya1 hj]at hv
  rw[Ya1 (by rw[<- h1.1];exact hj)]at hu
  exact h1.2 j v u hv hu
 ·rw[Ya8 (by omega)]at hv
  rw[Ya8 (by rw[<- h1.1];omega),<- h1.1]at hu
  exact h2.2 _ v u hv hu
theorem Zcw.one {w:World}{v:V}{u:Value}(h:FR (fun b=>b<w.heap.size) w v u)(h1:v.cell1=true):Zcw w [v] [u]:=by
 refine⟨rfl,fun j v' u' hv hu=> ?_⟩
 cases j with
 |zero=>simp at hv hu;subst hv;subst hu;exact⟨h,h1⟩
 |succ j=>simp at hv
theorem Zcw.nil {w:World}:Zcw w [] []:=⟨rfl,fun j v u hv=>by simp at hv⟩
theorem Zcw.flat {α:Type}{w:World}{e:α->List V}: ∀{xs:List α} {css:List (List Value)},xs.length=css.length->(∀(i:Nat) x cs,xs[i]? = some x->css[i]? = some cs->Zcw w (e x) cs)->Zcw w (xs.flatMap e) css.flatten
 |[],[],_,_=> .nil
 |x::xs,cs::css,hl,h=>by
  rw[List.flatMap_cons,List.flatten_cons]
  exact(h 0 x cs rfl rfl).append (Zcw.flat (by simpa using hl) fun i x cs h1 h2=>h (i+1) x cs (by simpa using h1) (by simpa using h2))
 |[],_::_,hl,_=>by simp at hl
 |_::_,[],hl,_=>by simp at hl
section
variable {H:Type}{enc:TypeId×Value->H}{P:Program}{w:World}{sp:Nat->Bool}{B:DataW H->Nat}{BL:List (DataW H)->Nat}
theorem Zro {l:List Value}{n:Nat}(h:l.length=n):(l.drop 0).take n=l:=by
 rw[List.drop_zero];exact Yad (Nat.le_of_eq h)
theorem ZmL (hB:Zrn B BL){s:Sh}{n:Nat}(css:Nat->List Value)(ds:Nat->DataW H)(h: ∀i,i<n-> ∃x:s.T,s.good x/\s.bulk x<=B (ds i)/\Zcw w (s.enc x) (css i)) :
 ∃xs:List s.T,xs.length=n/\(∀x∈xs,s.good x)/\(xs.map s.bulk).sum<=BL ((List.range n).map ds)/\Zcw w (xs.flatMap s.enc) ((List.range n).map css).flatten:=by
 induction n generalizing css ds with
 |zero=>exact⟨[],rfl,fun x hx=>(by cases hx),by simp,.nil⟩
 |succ n ih=>
  obtain⟨x,h1,h2,h3⟩:=h 0 (by omega)
  obtain⟨xs,g1,g2,g3,g4⟩:=ih (fun i=>css (i+1)) (fun i=>ds (i+1)) (fun i hi=>h (i+1) (by omega))
  refine⟨x::xs,by simp[g1],fun y hy=> ?_,?_,?_⟩
  ·rcases Yav.1 hy with rfl|hy
   ·exact h1
   ·exact g2 y hy
  ·have e1:(List.range (n+1)).map ds=ds 0::(List.range n).map fun i=>ds (i+1):=by rw[List.range_succ_eq_map,List.map_cons,List.map_map];rfl
   rw[e1,hB.lcons,List.map_cons,List.sum_cons]
   exact Nat.add_le_add h2 g3
  ·have e1:(List.range (n+1)).map css=css 0::(List.range n).map fun i=>css (i+1):=by rw[List.range_succ_eq_map,List.map_cons,List.map_map];rfl
   rw[e1,List.flatten_cons,List.flatMap_cons]
   exact h3.append g4
theorem Zte (hB:Zrn B BL){s:Sh}{ti:TypeId ⊕ (List Field×Nat)}(h:ZbH P s ti) :
 match ti with
 |.inl t=> ∀(fuel:Nat) (cs:List Value) (x:DataW H×List MemPlace),DataW.trod enc P w 0 sp true fuel t cs=some x->cs.length=s.size-> ∃y:s.T,s.good y/\s.bulk y<=B x.1/\Zcw w (s.enc y) cs
 |.inr (fs,off)=> ∀(fuel:Nat) (cs:List Value) (xs:List (DataW H×List MemPlace)),xs.length=fs.length->
  (∀(i:Nat) (f:Field),fs[i]? = some f->DataW.trod enc P w 0 sp true fuel f.type ((cs.drop f.offset).take (P.cellsOf f.type))=xs[i]?)->off+s.size<=cs.length->
  ∃y:s.T,s.good y/\s.bulk y<=BL (xs.map (·.1))/\Zcw w (s.enc y) ((cs.drop off).take s.size):=by
 induction h with
 |int h=>
  intro fuel cs x hx hl
  rename_i k t
  match cs,hl with
  |[u],_=>
   cases fuel with
   |zero=>simp[DataW.trod]at hx
   |succ m=>
    unfold DataW.trod at hx
    rw[h]at hx
    cases u with
    |int k' n=>
     simp at hx
     obtain⟨⟨rfl,hwf⟩,rfl⟩:=hx
     exact⟨n,hwf,by simpa[Sh.bulk]using hB.lit _,.one (.int _ n) rfl⟩
    |_=>simp at hx
 |bool h=>
  intro fuel cs x hx hl
  match cs,hl with
  |[u],_=>
   cases fuel with
   |zero=>simp[DataW.trod]at hx
   |succ m=>
    unfold DataW.trod at hx
    rw[h]at hx
    cases u with
    |bool b=>
     simp at hx
     subst hx
     refine⟨b,trivial,?_,.one (.bool b) rfl⟩
     simpa[Sh.bulk]using hB.lit _
    |_=>simp at hx
 |str h=>
  intro fuel cs x hx hl
  match cs,hl with
  |[u],_=>
   cases fuel with
   |zero=>simp[DataW.trod]at hx
   |succ m=>
    unfold DataW.trod at hx
    rw[h]at hx
    cases u with
    |string b=>
     simp at hx
     obtain⟨_,rfl⟩:=hx
     refine⟨b.data.toList,trivial,?_,.one (FR.str b.data.toList) rfl⟩
     simp only[Sh.bulk]
     rw[hB.str];exact Nat.le_refl _
    |_=>simp at hx
 |sl h hc he ih=>
  rename_i e t u
  intro fuel cs x hx hl
  rcases Go.Deep.open_slice h hx with⟨rfl,rfl⟩|⟨a,len,cap,m,n,D,Pl,rfl,hb,hlc,hm,hmm,rfl,hel⟩
  ·refine⟨([]:List e.T),fun x hx=>(by cases hx),by simp[Sh.bulk,hB.nil],.one ?_ rfl⟩
   exact .view 0 _ [] _ 0 (fun _=>undef) (by simp) (Nat.le_refl _) (fun hne=>absurd rfl hne) (fun j v hj=>by simp at hj) (fun j v hj=>by simp at hj)
  ·have hlm:len<=m:=by rw[hmm];split<;>omega
   obtain⟨css,hcss⟩:=Go.Deep.choose_lt (α:=List Value) (p:=fun i cs'=>w.cells? 0 (a.add (i*P.cellsOf u)) (P.cellsOf u)=some cs'/\DataW.trod enc P w 0 sp true n u cs'=some (D i,Pl i)) hel
   obtain⟨xs,g1,g2,g3,g4⟩:=ZmL (n:=len) hB css D (fun i hi=>by
     obtain⟨h1,h2⟩:=hcss i (by omega)
     obtain⟨_,hlen,_⟩:=World.cells?_some h1
     exact ih n (css i) (D i,Pl i) h2 (by rw[hlen,hc]))
   refine⟨xs,g2,?_,.one ?_ rfl⟩
   ·simp only[Sh.bulk];rw[hB.slice];omega
   ·have hlen:(xs.flatMap e.enc).length=len*e.size:=by
      rw[g4.1,List.length_flatten,List.map_map]
      have:List.map (List.length ∘ css) (List.range len)=List.replicate len e.size:=by
       rw[List.eq_replicate_iff]
       refine⟨by simp,fun b hb=> ?_⟩
       obtain⟨i,hi,rfl⟩:=Ya3.1 hb
       have hi':i<len:=by simpa using hi
       obtain⟨_,hlen,_⟩:=World.cells?_some (hcss i (by omega)).1
       simp[hlen,hc]
      rw[this,List.sum_replicate_nat]
    rw[show List.length (α:=e.T) xs=len from g1]
    have hpos: ∀(j:Nat),j<len*e.size->w.cell? (a.add j)=((List.range len).map css).flatten[j]? /\0<e.size:=by
      intro j hj
      have hsz:0<e.size:=by
       rcases Nat.eq_zero_or_pos e.size with h0|h0
       ·rw[h0]at hj;omega
       ·exact h0
      refine⟨?_,hsz⟩
      have key: ∀(n0:Nat),n0<=len-> ∀j,j<n0*e.size->w.cell? (a.add j)=((List.range n0).map css).flatten[j]? :=by
       intro n0
       induction n0 with
       |zero=>intro _ j hj;omega
       |succ n0 ihn=>
        intro hn0 j hj
        rw[List.range_succ,List.map_append,List.flatten_append]
        have hl0:(((List.range n0).map css).flatten).length=n0*e.size:=by
          rw[List.length_flatten,List.map_map]
          have:List.map (List.length ∘ css) (List.range n0)=List.replicate n0 e.size:=by
           rw[List.eq_replicate_iff]
           refine⟨by simp,fun b hb=> ?_⟩
           obtain⟨i,hi,rfl⟩:=Ya3.1 hb
           have hi':i<n0:=by simpa using hi
           obtain⟨_,hlen,_⟩:=World.cells?_some (hcss i (by omega)).1
           simp[hlen,hc]
          rw[this,List.sum_replicate_nat]
        by_cases hj0:j<n0*e.size
        ·rw[Ya1 (by omega)]
         exact ihn (by omega) j hj0
        ·rw[Ya8 (by omega),hl0]
         obtain⟨_,hlen,hcell⟩:=World.cells?_some (hcss n0 (by omega)).1
         rw[Nat.succ_mul]at hj
         have:=hcell (j-n0*e.size) (by rw[hc];omega)
         rw[Go.Deep.add_add,hc]at this
         rw[show n0*e.size+(j-n0*e.size)=j by omega]at this
         rw[this];simp
      exact key len (Nat.le_refl _) j hj
    refine .view len e.size _ (some a) cap (fun j=>((List.range len).map css).flatten.getD j undef) hlen hlc ?_ ?_ ?_
    ·intro hne
     have h0:0<len*e.size:=by rw[<- hlen];exact List.length_pos_iff.2 hne
     have hc0:=(hpos 0 h0).1
     have hlt:0<(((List.range len).map css).flatten).length:=by rw[<- g4.1,hlen];exact h0
     rw[Yab hlt]at hc0
     obtain⟨b,off,spot⟩:=a
     have hspot:spot=none:=by simpa[Addr.add]using World.cell?_spot hc0
     subst hspot
     refine⟨b,off,rfl,?_,fun j v hj=> ?_⟩
     ·rw[ZaP]at hc0
      unfold World.cell? at hc0
      split at hc0
      ·rename_i hh;exact Zge hh
      ·cases hc0
     ·have hj':j<len*e.size:=by rw[<- hlen];exact(Yak.1 hj).1
      have:=(hpos j hj').1
      rw[ZaP]at this
      rw[this]
      have hlt2:j<(((List.range len).map css).flatten).length:=by rw[<- g4.1,hlen];exact hj'
      rw[Yab hlt2,Yah,Yab hlt2];rfl
    ·intro j v hj
     have hlt:j<(((List.range len).map css).flatten).length:=by rw[<- g4.1];exact(Yak.1 hj).1
     have:=(g4.2 j v _ hj (Yab hlt)).1
     rw[Yah,Yab hlt]
     exact this
    ·intro j v hj
     have hlt:j<(((List.range len).map css).flatten).length:=by rw[<- g4.1];exact(Yak.1 hj).1
     exact(g4.2 j v _ hj (Yab hlt)).2
 |arr h hc he ih=>
  rename_i e n t u
  intro fuel cs x hx hl
  obtain⟨xs,m,_,rfl,hl2,hlen,hel⟩:=DataW.trod_array h hx
  have hl':cs.length=n*e.size:=hl
  obtain⟨ys,g1,g2,g3,g4⟩:=ZmL (n:=n) (w:=w) (s:=e) hB (fun i=>(cs.drop (i*e.size)).take e.size) (fun i=>(xs.getD i (.nil,[])).1) (fun i hi=>by
    have h1:=hel i hi
    rw[hc,Yab (by omega)]at h1
    have:=ih m _ _ h1 (by
     rw[Yar,Yaw,hl']
     have:(i+1)*e.size<=n*e.size:=Nat.mul_le_mul_right _ hi
     rw[Nat.succ_mul]at this
     omega)
    have e1:xs.getD i (.nil,[])=xs[i]:=by simp[List.getD,Yab (show i<xs.length by omega)]
    rw[e1]
    exact this)
  refine⟨ys,⟨g1,g2⟩,?_,?_⟩
  ·simp only[Sh.bulk];rw[hB.agg]
   have:(List.range n).map (fun i=>(xs.getD i (.nil,[])).1)=xs.map (·.1):=by
     rw[Go.Deep.map_by_index xs (.nil,[]) (·.1),hlen]
   rw[this]at g3;omega
  ·have:((List.range n).map fun i=>(cs.drop (i*e.size)).take e.size).flatten=cs:=by
     have key: ∀n0,n0<=n->((List.range n0).map fun i=>(cs.drop (i*e.size)).take e.size).flatten=cs.take (n0*e.size):=by
      intro n0
      induction n0 with
      |zero=>intro _;simp
      |succ n0 ihn=>
       intro h0
       rw[List.range_succ,List.map_append,List.flatten_append,ihn (by omega)]
       simp only[List.map_cons,List.map_nil,List.flatten_cons,List.flatten_nil,List.append_nil]
       rw[Nat.succ_mul,List.take_add]
     rw[key n (Nat.le_refl _)]
     exact Yad (Nat.le_of_eq hl')
   rw[this]at g4
   exact g4
 |st h hs ih=>
  rename_i s t fs
  intro fuel cs x hx hl
  obtain⟨xs,m,_,rfl,hl2,hlen,hel⟩:=DataW.trod_struct h hx
  obtain⟨y,h1,h2,h3⟩:=ih m cs xs (by simpa using hlen) (fun i f hf=>hel i f (by simpa using hf)) (by omega)
  refine⟨y,h1,?_,?_⟩
  ·rw[hB.agg];exact Nat.le_succ_of_le h2
  ·rw[Zro hl]at h3;exact h3
 |one ho hc hs ih=>
  rename_i s f off
  intro fuel cs xs hlen hel hroom
  match xs,hlen with
  |[x0],_=>
   have h1:=hel 0 f rfl
   rw[ho,hc]at h1
   obtain⟨y,g1,g2,g3⟩:=ih fuel _ x0 h1 (by rw[Yar,Yaw];omega)
   refine⟨y,g1,?_,g3⟩
   rw[List.map_cons,List.map_nil,hB.lcons,hB.lnil];omega
 |cons ho hc ha hb iha ihb=>
  rename_i a b f g fs off
  intro fuel cs xs hlen hel hroom
  match xs,hlen with
  |x0::xs,hlen=>
   have h1:=hel 0 f rfl
   rw[ho,hc]at h1
   simp only[Sh.size]at hroom ⊢
   obtain⟨y,g1,g2,g3⟩:=iha fuel _ x0 h1 (by rw[Yar,Yaw];omega)
   obtain⟨z,k1,k2,k3⟩:=ihb fuel cs xs (by simpa using hlen) (fun i f hf=>by have:=hel (i+1) f (by simpa using hf);simpa using this) (by omega)
   refine⟨(y,z),⟨g1,k1⟩,?_,?_⟩
   ·rw[List.map_cons,hB.lcons];exact Nat.add_le_add g2 k2
   ·have:=g3.append k3
    rw[<- List.drop_drop,<- List.take_add]at this
    exact this
end
end Go.Abs
namespace Go.Abs
open Go Go.RowKit Go.ChangeShapes Go.WideShapes Go.ChangeAt
def Sh.isPair:Sh->Bool
 |.pair _ _=>true
 |_=>false
def ZAz (P:Program)(t:TypeId)(s:Sh):Bool:=
 match P.underlying t with
 |some (.struct _)=>s.isPair
 |_=>true
@[reducible] def Zkl:List Sh->Type
  |[]=>Unit
  |s::l=>s.T×Zkl l
def ZdM:(l:List Sh)->Zkl l->List V
 |[],_=>[]
 |s::l,p=>s.val p.1::ZdM l p.2
def Zfb:(l:List Sh)->Zkl l->Prop
 |[],_=>True
 |s::l,p=>s.good p.1/\Zfb l p.2
def Zdk:(l:List Sh)->Zkl l->Nat
 |[],_=>0
 |s::l,p=>s.bulk p.1+Zdk l p.2
def ZwP (P:Program):List Sh->List TypeId->Prop
 |[],[]=>True
 |s::l,t::ts=>(ZbH P s (.inl t)/\P.cellsOf t=s.size/\ZAz P t s=true)/\ZwP P l ts
 |_,_=>False
section
variable {H:Type}{enc:TypeId×Value->H}{P:Program}{w:World}{sp:Nat->Bool}{B:DataW H->Nat}{BL:List (DataW H)->Nat}
theorem Zim {s:Sh}{y:s.T}{v0:V}{u:Value}(he:s.enc y=[v0])(hv:s.val y=v0)(h:Zcw w (s.enc y) [u]):VR (fun b=>b<w.heap.size) w (fun _=>none) (s.val y) u:=by
 rw[he]at h
 rw[hv]
 exact .flat (h.2 0 v0 u rfl rfl).1
theorem ZmM {cs:List V}{us:Array Value}(h:Zcw w cs us.toList):VR (fun b=>b<w.heap.size) w (fun _=>none) (.fagg cs) (.agg us):=by
 refine .flat (.fagg cs us (by simpa using h.1) (fun j v u hv hu=>(h.2 j v u hv (by simpa using hu)).1) (fun j v hv=> ?_))
 have hlt:j<us.toList.length:=by rw[<- h.1];exact(Yak.1 hv).1
 exact(h.2 j v _ hv (Yab hlt)).2
theorem ZwQ (hB:Zrn B BL){s:Sh}{t:TypeId}(hf:ZbH P s (.inl t))(hc:P.cellsOf t=s.size)(ht:ZAz P t s=true){base:Nat}{v:Value}{d:DataW H}{ps:List MemPlace}(hok:Value.okWide P w .any base t v)(hr:DataW.Trod enc P w 0 sp true t v d ps) :
 ∃y:s.T,s.good y/\s.bulk y<=B d/\VR (fun b=>b<w.heap.size) w (fun _=>none) (s.val y) v:=by
 obtain⟨fuel,hr⟩:=hr
 have hopen:=Zte (enc:=enc) (w:=w) (sp:=sp) hB hf fuel v.cells.toList (d,ps) hr
 have one: ∀{v0:Value},v=v0->(∀cs,v0≠ .agg cs)->v.cells.toList=[v]:=by
  intro v0 e hn
  subst e
  cases v with
  |agg cs=>exact absurd rfl (hn cs)
  |_=>rfl
 have plain:(∀fs,P.underlying t≠some (.struct fs))->(∀n e,P.underlying t≠some (.array n e))->v.cells.toList=[v]:=by
  intro h1 h2
  refine one rfl fun cs e=> ?_
  subst e
  unfold Value.okWide at hok
  split at hok
  ·rename_i fs hu;exact h1 fs hu
  ·rename_i n e hu;exact h2 n e hu
  ·unfold Cell.okWide at hok
   split at hok<;>first|(rename_i hh;simp_all;done)|skip
   unfold Cell.ok at hok
   split at hok<;>first|exact hok.elim|(rename_i hh;simp_all;done)|skip
 cases hf with
 |int h=>
  have e:=plain (by simp[h]) (by simp[h])
  rw[e]at hopen
  obtain⟨y,h1,h2,h3⟩:=hopen rfl
  exact⟨y,h1,h2,Zim rfl rfl h3⟩
 |bool h=>
  have e:=plain (by simp[h]) (by simp[h])
  rw[e]at hopen
  obtain⟨y,h1,h2,h3⟩:=hopen rfl
  exact⟨y,h1,h2,Zim rfl rfl h3⟩
 |str h=>
  have e:=plain (by simp[h]) (by simp[h])
  rw[e]at hopen
  obtain⟨y,h1,h2,h3⟩:=hopen rfl
  exact⟨y,h1,h2,Zim rfl rfl h3⟩
 |sl h _ _=>
  have e:=plain (by simp[h]) (by simp[h])
  rw[e]at hopen
  obtain⟨y,h1,h2,h3⟩:=hopen rfl
  exact⟨y,h1,h2,Zim rfl rfl h3⟩
 |arr h _ _=>
  unfold Value.okWide at hok
  rw[h]at hok
  obtain⟨cs,rfl,hsz,_⟩:=hok
  obtain⟨y,h1,h2,h3⟩:=hopen (by simpa[Value.cells]using hsz.trans hc)
  exact⟨y,h1,h2,ZmM h3⟩
 |st h _=>
  unfold Value.okWide at hok
  rw[h]at hok
  obtain⟨cs,rfl,hsz,_⟩:=hok
  obtain⟨y,h1,h2,h3⟩:=hopen (by simpa[Value.cells]using hsz.trans hc)
  refine⟨y,h1,h2,?_⟩
  unfold ZAz at ht
  rw[h]at ht
  cases s with
  |pair a b=>exact ZmM h3
  |_=>cases ht
theorem ZmN (hB:Zrn B BL){base:Nat}: ∀{shs:List Sh} {ts:List TypeId} {vs:List Value} {ds:List (DataW H)} {ps:List MemPlace},ZwP P shs ts->(∀(j:Nat) t v,ts[j]? = some t->vs[j]? = some v->Value.okWide P w .any base t v)->
 DataW.TrodAll enc P w 0 sp true ts vs ds ps-> ∃y:Zkl shs,Zfb shs y/\Zdk shs y<=BL ds/\(ZdM shs y).length=vs.length/\ ∀(j:Nat) (v:V) (u:Value),(ZdM shs y)[j]? = some v->vs[j]? = some u->VR (fun b=>b<w.heap.size) w (fun _=>none) v u
 |[],[],[],[],_,_,_,_=>⟨(),trivial,Nat.zero_le _,rfl,fun j v u hv=>by simp[ZdM]at hv⟩
 |s::shs,t::ts,v::vs,d::ds,ps,hf,hok,hr=>by
  obtain⟨⟨hf1,hf2,hf3⟩,hfl⟩:=hf
  obtain⟨p,q,h1,h2,rfl⟩:=hr
  obtain⟨y,g1,g2,g3⟩:=ZwQ hB hf1 hf2 hf3 (hok 0 t v rfl rfl) h1
  obtain⟨ys,k1,k2,k3,k4⟩:=ZmN hB hfl (fun j t v ht hv=>hok (j+1) t v (by simpa using ht) (by simpa using hv)) h2
  refine⟨(y,ys),⟨g1,k1⟩,?_,by simp[ZdM,k3],fun j v' u hv hu=> ?_⟩
  ·rw[hB.lcons];exact Nat.add_le_add g2 k2
  ·cases j with
   |zero=>simp[ZdM]at hv hu;subst hv;subst hu;exact g3
   |succ j=>exact k4 j v' u (by simpa[ZdM]using hv) (by simpa using hu)
 |_::_,[],_,_,_,hf,_,_=>hf.elim
 |[],_::_,_,_,_,hf,_,_=>hf.elim
 |[],[],_::_,_,_,_,_,hr=>hr.elim
 |[],[],[],_::_,_,_,_,hr=>hr.elim
 |_::_,_::_,[],_,_,_,_,hr=>hr.elim
 |_::_,_::_,_::_,[],_,_,_,hr=>hr.elim
theorem ZmO {W W':World}(hfr:ZhV (fun _=>False) W W'){p:MemPlace}(hp:p.block<W.heap.size):W.sameAt W' p:=by
 cases p with
 |cell b off=>exact Zfx (hfr.block b hp (fun h=>h))
 |map b=>exact hfr.block b hp (fun h=>h)
theorem ZmP {W W':World}(hl:laidOutB P=true)(hfr:ZhV (fun _=>False) W W'): ∀{ts:List TypeId} {vs:List Value} {ds:List (DataW H)} {ps:List MemPlace},(∀t∈ts,P.readableRec t=true/\t<P.types.size)->
 DataW.TrodAll enc P W 0 (fun _=>true) true ts vs ds ps->(∀p∈ps,p.block<W.heap.size/\sp p.block=true)->DataW.TrodAll enc P W' 0 sp true ts vs ds ps
 |[],[],[],_,_,h,_=>h
 |t::ts,v::vs,d::ds,ps,ht,h,hps=>by
  obtain⟨p,q,⟨n,h1⟩,h2,rfl⟩:=h
  obtain⟨hr,hrow⟩:=ht t (by simp)
  refine⟨p,q,⟨n,?_⟩,ZmP hl hfr (fun t h=>ht t (by simp[h])) h2 (fun x hx=>hps x (List.mem_append_right _ hx)),rfl⟩
  exact DataW.trod_stays (kids_book hl hr) (book_sized hr) (fun h=>by cases h) ⟨hrow,book_self t⟩ h1 (fun x hx=>ZmO hfr (hps x (List.mem_append_left _ hx)).1) (fun x hx=>(hps x (List.mem_append_left _ hx)).2)
 |[],_::_,_,_,_,h,_=>h.elim
 |[],[],_::_,_,_,h,_=>h.elim
 |_::_,[],_,_,_,h,_=>h.elim
 |_::_,_::_,[],_,_,h,_=>h.elim
theorem law_post {fn:Func}{s:ChangeSpec}{W W':World}{args:Array Value}{ds gs:List (DataW H)}{before:List MemPlace}(hW:DataW.Whole enc P fn.params.toList s.vars false W args.toList ds gs before)(hvars:s.vars=[])
 (hfn:s.fn H ds={ results:=[.lit (.bool true)],args:=ds }) {rt:TypeId} (hrt:fn.resultTypes= #[rt]) (hb:P.underlying rt=some .bool) (hl:laidOutB P=true) (hpr: ∀t∈fn.params.toList,P.readableRec t=true/\t<P.types.size)
 (hfr:ZhV (fun _=>False) W W'):s.post enc P fn false true false false W args (.bool true) W':=by
 have hW0:=hW
 obtain⟨p,q,hA,hV,hpq,hfz,hnd⟩:=hW
 rw[hvars]at hV
 obtain⟨rfl,rfl⟩:=trodVars_none hV
 rw[List.append_nil]at hpq
 subst hpq
 have hold: ∀x∈before,x.block<W.heap.size:=fun x hx=>hW0.lt x hx
 refine⟨ds,[],before,[],before,[],hW0,?_,?_,?_,?_,fun h=>(by cases h)⟩
 ·rw[List.append_nil,hfn,hrt]
  simp only[Value.resultList]
  refine⟨[],[],⟨1,?_⟩,rfl,rfl⟩
  simp[DataW.trod,hb,Value.cells]
 ·rw[List.append_nil,hfn]
  exact ZmP hl hfr hpr hA fun x hx=>⟨hold x hx,by simpa using hold x hx⟩
 ·rw[List.append_nil,hfn,hvars];rfl
 ·refine⟨hfr.os,hfr.output,fun i hi=> ?_⟩
  rw[hfr.block i hi (fun h=>h)]
  cases hh:W.heap[i]? with
  |none=>exact rfl
  |some o=>
   cases o with
   |cells c t fr=>exact⟨rfl,rfl,rfl,fun _ _=>rfl⟩
   |map es clock=>exact .inr ⟨rfl,rfl⟩
   |_=>exact rfl
theorem law_calls {f:FuncId}{fn:Func}{s:ChangeSpec}{shs:List Sh}{W:World}{base:Nat}{args:Array Value}{ds gs:List (DataW H)}{before:List MemPlace}(hB:Zrn B BL){N:Nat}(hG:GT (fun b=>b<W.heap.size) W)
 (hAC: ∀y:Zkl shs,Zfb shs y->Zdk shs y<=N->AC P f (ZdM shs y) (fun r m=>r= .bool true/\m=[]))
 (hfits:ZwP P shs fn.params.toList) (hvars:s.vars=[]) (hfn: ∀ds:List (DataW H),ds.length=fn.params.toList.length->s.fn H ds={ results:=[.lit (.bool true)],args:=ds }) {rt:TypeId} (hrt:fn.resultTypes= #[rt]) (hb:P.underlying rt=some .bool)
 (hl:laidOutB P=true) (hpr: ∀t∈fn.params.toList,P.readableRec t=true/\t<P.types.size)
 (hval: ∀(j:Nat) t v,fn.params[j]? = some t->args[j]? = some v->Value.okWide P W .any base t v)
 (hW:DataW.Whole enc P fn.params.toList s.vars false W args.toList ds gs before) (hbulk:BL (ds++gs)<=N) :
 Calls P f args W fun e W'=> ∃v,e= .returned v/\s.post enc P fn false true false false W args v W':=by
 have hW0:=hW
 obtain⟨p,q,hA,hV,hpq,hfz,hnd⟩:=hW
 rw[hvars]at hV
 obtain⟨rfl,rfl⟩:=trodVars_none hV
 rw[List.append_nil]at hbulk
 obtain⟨y,g1,g2,g3,g4⟩:=ZmN hB hfits (fun j t v ht hv=>hval j t v (by simpa using ht) (by simpa using hv)) hA
 have hlen: ∀{ts:List TypeId} {vs:List Value} {ds:List (DataW H)} {ps:List MemPlace},DataW.TrodAll enc P W 0 (fun _=>true) true ts vs ds ps->ds.length=ts.length:=by
  intro ts
  induction ts with
  |nil=>intro vs ds ps h;cases vs<;>cases ds<;>first|rfl|exact h.elim
  |cons t ts ih=>
   intro vs ds ps h
   cases vs with
   |nil=>exact h.elim
   |cons v vs=>cases ds with
    |nil=>exact h.elim
    |cons d ds=>obtain⟨_,_,_,h2,_⟩:=h;simp[ih h2]
 have hc:=hAC y g1 (Nat.le_trans g2 hbulk) (fun b=>b<W.heap.size) W args.toList ⟨fun b hb=>hb,hG⟩ g3 g4
 rw[Array.toArray_toList]at hc
 refine Calls.mono hc ?_
 rintro e W' ⟨r,m,u,⟨rfl,rfl⟩,rfl,⟨⟨S',β',_,_,hv,_⟩,hfr⟩⟩
 have:=VR.bool_inv hv
 subst this
 exact⟨_,rfl,law_post hW0 hvars (hfn ds (hlen hA)) hrt hb hl hpr hfr⟩
end
end Go.Abs
namespace Go.Abs
open Go Go.RowKit
theorem ZmQ {k:IntKind}(xs:List Int):List.flatMap (Sh.enc (.int k)) xs=Zi k xs:=by
 induction xs with
 |nil=>rfl
 |cons x xs ih=>rw[List.flatMap_cons,ih];rfl
theorem ZcI {k:IntKind}(xs:List Int):Sh.val (.sl (.int k)) xs= .view xs.length 1 (Zi k xs):=by
 simp only[Sh.val,Sh.size]
 rw[ZmQ]
theorem ZpV:(s:Sh)->(x:s.T)->1<=s.bulk x
 |.int _,_=>Nat.le_refl _
 |.bool,_=>Nat.le_refl _
 |.str,_=>by simp[Sh.bulk]
 |.sl _,_=>by simp[Sh.bulk]
 |.arr n e,_=>by simp[Sh.bulk]
 |.pair a b,p=>by
  have:=ZpV a p.1
  simp only[Sh.bulk];omega
theorem ZwR {s:Sh}(l:List s.T):l.length<=(l.map s.bulk).sum:=by
 induction l with
 |nil=>simp
 |cons x l ih=>
  have:=ZpV s x
  rw[List.map_cons,List.sum_cons,Yag];omega
theorem Zdl {s:Sh}(l:List s.T):l.length+1<=Sh.bulk (.sl s) l:=by
 have:=ZwR l
 simp only[Sh.bulk];omega
theorem ZaM {k:IntKind}(xs:List Int):xs.length+1<=Sh.bulk (.sl (.int k)) xs:=Zdl (s:= .int k) xs
end Go.Abs
namespace Go.Abs
open Go Go.RowKit
section
variable (σ:Nat->Option Nat)(d:Nat)
theorem Zzz (k:IntKind)(x:Int):V.rk σ (d+1) (.int k x)= .int k x:=rfl
theorem Ztf (b:Bool):V.rk σ (d+1) (.bool b)= .bool b:=rfl
theorem ZzA (s:List UInt8):V.rk σ (d+1) (.str s)= .str s:=rfl
theorem ZzB (v:Value):V.rk σ (d+1) (.con v)= .con v:=rfl
theorem Ztg  : V.rk σ (d+1) (.nils)= .nils:=rfl
theorem Zth (n s:Nat)(cs:List V):V.rk σ (d+1) (.view n s cs)= .view n s cs:=rfl
theorem Zti (cs:List V):V.rk σ (d+1) (.vptr cs)= .vptr cs:=rfl
theorem Ztj (cs:List V):V.rk σ (d+1) (.fagg cs)= .fagg cs:=rfl
theorem ZzC (g:FuncId)(cs:List V):V.rk σ (d+1) (.clo g cs)= .clo g cs:=rfl
theorem ZzD  : V.rk σ (d+1) (.any)= .any:=rfl
theorem ZzE (k o n s:Nat):V.rk σ (d+1) (.ref k o n s)=match σ k with|some j=> .ref j o n s|none=> .any:=rfl
theorem ZzF (k o:Nat):V.rk σ (d+1) (.ptr k o)=match σ k with|some j=> .ptr j o|none=> .any:=rfl
theorem ZzG (cs:List V):V.rk σ (d+1) (.agg cs)= .agg (cs.map (V.rk σ d)):=rfl
theorem ZzH (cs:List V):V.rk σ (d+1) (.tup cs)= .tup (cs.map (V.rk σ d)):=rfl
theorem ZCr (f:FuncId)(cs:List V):V.rk σ (d+1) (.fn f cs)= .fn f (cs.map (V.rk σ d)):=rfl
end
theorem NS0:(((((type_of% @St.put.eq_1/\type_of% @St.repl.eq_1)/\(type_of% @St.rename.eq_1/\type_of% @St.setObj.eq_1))/\((type_of% @St.create.eq_1/\type_of% @St.get.eq_1)/\(type_of% @St.ev.eq_1/\type_of% @St.ev.eq_2)))/\(((type_of% @St.ev.eq_3/\type_of% @St.ev.eq_4)/\(type_of% @St.obj.eq_1/\type_of% @lk.eq_1))/\((type_of% @lk.eq_2/\type_of% @rm.eq_1)/\(type_of% @rm.eq_2/\type_of% @List.map_cons.{0,0}))))/\((((type_of% @List.map_nil.{0,0}/\type_of% @Zpj)/\(type_of% @Zmg/\type_of% @Zpk))/\((type_of% @Zpl/\type_of% @Zmh)/\(type_of% @Zmi/\type_of% @Zmj)))/\(((type_of% @Zmk/\type_of% @Zpm)/\(type_of% @Zpn/\type_of% @ZgI))/\((type_of% @ZgJ/\type_of% @Zeo)/\(type_of% @Zep/\type_of% @Zgi))))):=
 ⟨⟨⟨⟨⟨@St.put.eq_1,@St.repl.eq_1⟩,⟨@St.rename.eq_1,@St.setObj.eq_1⟩⟩,⟨⟨@St.create.eq_1,@St.get.eq_1⟩,⟨@St.ev.eq_1,@St.ev.eq_2⟩⟩⟩,⟨⟨⟨@St.ev.eq_3,@St.ev.eq_4⟩,⟨@St.obj.eq_1,@lk.eq_1⟩⟩,⟨⟨@lk.eq_2,@rm.eq_1⟩,⟨@rm.eq_2,@List.map_cons.{0,0}⟩⟩⟩⟩,⟨⟨⟨⟨@List.map_nil.{0,0},@Zpj⟩,⟨@Zmg,@Zpk⟩⟩,⟨⟨@Zpl,@Zmh⟩,⟨@Zmi,@Zmj⟩⟩⟩,⟨⟨⟨@Zmk,@Zpm⟩,⟨@Zpn,@ZgI⟩⟩,⟨⟨@ZgJ,@Zeo⟩,⟨@Zep,@Zgi⟩⟩⟩⟩⟩
theorem NS1:(((((type_of% @ZsI/\type_of% @Zpo)/\(type_of% @ZsJ/\type_of% @ZsK))/\((type_of% @Zpp/\type_of% @Zpq)/\(type_of% @Zpr/\type_of% @Zps)))/\(((type_of% @ZsL/\type_of% @ZsM)/\(type_of% @ZsN/\type_of% @ZsO))/\((type_of% @ZsP/\type_of% @ZsQ)/\(type_of% @Zzm/\type_of% @ZsR))))/\((((type_of% @Zpt/\type_of% @ZsS)/\(type_of% @ZsT/\type_of% @Zpu))/\((type_of% @Zpv/\type_of% @Zpw)/\(type_of% @Zpx/\type_of% @ZsU)))/\(((type_of% @ZsV/\type_of% @ZsW)/\(type_of% @ZsX/\type_of% @ZsY))/\((type_of% @ZsZ/\type_of% @Zzn)/\(type_of% @Zs0/\type_of% @Zs1))))):=
 ⟨⟨⟨⟨⟨@ZsI,@Zpo⟩,⟨@ZsJ,@ZsK⟩⟩,⟨⟨@Zpp,@Zpq⟩,⟨@Zpr,@Zps⟩⟩⟩,⟨⟨⟨@ZsL,@ZsM⟩,⟨@ZsN,@ZsO⟩⟩,⟨⟨@ZsP,@ZsQ⟩,⟨@Zzm,@ZsR⟩⟩⟩⟩,⟨⟨⟨⟨@Zpt,@ZsS⟩,⟨@ZsT,@Zpu⟩⟩,⟨⟨@Zpv,@Zpw⟩,⟨@Zpx,@ZsU⟩⟩⟩,⟨⟨⟨@ZsV,@ZsW⟩,⟨@ZsX,@ZsY⟩⟩,⟨⟨@ZsZ,@Zzn⟩,⟨@Zs0,@Zs1⟩⟩⟩⟩⟩
theorem NS2:(((((type_of% @Zzo/\type_of% @Zzp)/\(type_of% @Zzq/\type_of% @Zzr))/\((type_of% @Zpy/\type_of% @Zpz)/\(type_of% @Zml/\type_of% @Zmm)))/\(((type_of% @ZpA/\type_of% @ZpB)/\(type_of% @ZpC/\type_of% @ZpD))/\((type_of% @Zmn/\type_of% @Zmo)/\(type_of% @Zmp/\type_of% @Zmq))))/\((((type_of% @Zmr/\type_of% @Zms)/\(type_of% @Zmt/\type_of% @Zmu))/\((type_of% @ZpE/\type_of% @ZpF)/\(type_of% @ZpG/\type_of% @ZpH)))/\(((type_of% @ZpI/\type_of% @ZpJ)/\(type_of% @Zs2/\type_of% @Zs3))/\((type_of% @ZpK/\type_of% @ZpL)/\(type_of% @ZpM/\type_of% @ZpN))))):=
 ⟨⟨⟨⟨⟨@Zzo,@Zzp⟩,⟨@Zzq,@Zzr⟩⟩,⟨⟨@Zpy,@Zpz⟩,⟨@Zml,@Zmm⟩⟩⟩,⟨⟨⟨@ZpA,@ZpB⟩,⟨@ZpC,@ZpD⟩⟩,⟨⟨@Zmn,@Zmo⟩,⟨@Zmp,@Zmq⟩⟩⟩⟩,⟨⟨⟨⟨@Zmr,@Zms⟩,⟨@Zmt,@Zmu⟩⟩,⟨⟨@ZpE,@ZpF⟩,⟨@ZpG,@ZpH⟩⟩⟩,⟨⟨⟨@ZpI,@ZpJ⟩,⟨@Zs2,@Zs3⟩⟩,⟨⟨@ZpK,@ZpL⟩,⟨@ZpM,@ZpN⟩⟩⟩⟩⟩
theorem NS3:(((((type_of% @ZpO/\type_of% @ZpP)/\(type_of% @Ya4.{0}/\type_of% @cond_true.{1}))/\((type_of% @cond_false.{1}/\type_of% @Option.getD_some.{0})/\(type_of% @Option.getD_none.{0}/\type_of% @List.contains_nil.{0})))/\(((type_of% @ZcX.eq_1/\type_of% @ZcX.eq_2)/\(type_of% @ZcO.eq_1/\type_of% @ZcO.eq_2))/\((type_of% @ZCp/\type_of% @ZCq)/\(type_of% @Nat.mul_one/\type_of% @Yap))))/\((((type_of% @List.foldl_cons.{0,0}/\type_of% @List.foldl_nil.{0,0})/\(type_of% @St.freeze.eq_1/\type_of% @Zbu.eq_1))/\((type_of% @Zbu.eq_2/\type_of% @Zbu.eq_3)/\(type_of% @Zbu.eq_4/\type_of% @Zbu.eq_5)))/\(((type_of% @St.keep.eq_1/\type_of% @List.contains_cons.{0})/\(type_of% @Bool.not_true/\type_of% @Bool.not_false))/\((type_of% @Bool.and_true/\type_of% @Bool.and_false)/\(type_of% @Bool.or_false/\type_of% @Bool.true_and))))):=
 ⟨⟨⟨⟨⟨@ZpO,@ZpP⟩,⟨@Ya4.{0},@cond_true.{1}⟩⟩,⟨⟨@cond_false.{1},@Option.getD_some.{0}⟩,⟨@Option.getD_none.{0},@List.contains_nil.{0}⟩⟩⟩,⟨⟨⟨@ZcX.eq_1,@ZcX.eq_2⟩,⟨@ZcO.eq_1,@ZcO.eq_2⟩⟩,⟨⟨@ZCp,@ZCq⟩,⟨@Nat.mul_one,@Yap⟩⟩⟩⟩,⟨⟨⟨⟨@List.foldl_cons.{0,0},@List.foldl_nil.{0,0}⟩,⟨@St.freeze.eq_1,@Zbu.eq_1⟩⟩,⟨⟨@Zbu.eq_2,@Zbu.eq_3⟩,⟨@Zbu.eq_4,@Zbu.eq_5⟩⟩⟩,⟨⟨⟨@St.keep.eq_1,@List.contains_cons.{0}⟩,⟨@Bool.not_true,@Bool.not_false⟩⟩,⟨⟨@Bool.and_true,@Bool.and_false⟩,⟨@Bool.or_false,@Bool.true_and⟩⟩⟩⟩⟩
theorem NS4:(((((type_of% @Bool.false_and/\type_of% @st0.eq_1)/\(type_of% @ZcH.eq_1/\type_of% @ZcH.eq_2))/\((type_of% @St.ownL.eq_1/\type_of% @St.ownL.eq_2)/\(type_of% @St.own1.eq_1/\type_of% @St.settle.eq_1)))/\(((type_of% @ZCn.eq_1/\type_of% @Zkc)/\(type_of% @ZiU/\type_of% @List.getElem?_cons_zero.{0}))/\((type_of% @List.getElem?_cons_succ.{0}/\type_of% @List.getD_cons_zero.{0})/\(type_of% @List.getD_cons_succ.{0}/\type_of% @St.adoptL.eq_1))))/\((((type_of% @St.adoptL.eq_2/\type_of% @Zmx)/\(type_of% @Zj7/\type_of% @Zmy))/\((type_of% @Zmz/\type_of% @Zj8)/\(type_of% @Zj9/\type_of% @Zka)))/\(((type_of% @Zkb/\type_of% @ZmA)/\(type_of% @ZmB/\type_of% @ZmC))/\((type_of% @ZmD/\type_of% @ZmE)/\(type_of% @ZmF/\type_of% @ZpR))))):=
 ⟨⟨⟨⟨⟨@Bool.false_and,@st0.eq_1⟩,⟨@ZcH.eq_1,@ZcH.eq_2⟩⟩,⟨⟨@St.ownL.eq_1,@St.ownL.eq_2⟩,⟨@St.own1.eq_1,@St.settle.eq_1⟩⟩⟩,⟨⟨⟨@ZCn.eq_1,@Zkc⟩,⟨@ZiU,@List.getElem?_cons_zero.{0}⟩⟩,⟨⟨@List.getElem?_cons_succ.{0},@List.getD_cons_zero.{0}⟩,⟨@List.getD_cons_succ.{0},@St.adoptL.eq_1⟩⟩⟩⟩,⟨⟨⟨⟨@St.adoptL.eq_2,@Zmx⟩,⟨@Zj7,@Zmy⟩⟩,⟨⟨@Zmz,@Zj8⟩,⟨@Zj9,@Zka⟩⟩⟩,⟨⟨⟨@Zkb,@ZmA⟩,⟨@ZmB,@ZmC⟩⟩,⟨⟨@ZmD,@ZmE⟩,⟨@ZmF,@ZpR⟩⟩⟩⟩⟩
theorem NS5:(((((type_of% @Zs5/\type_of% @ZpS)/\(type_of% @ZiT/\type_of% @List.drop_zero.{0}))/\((type_of% @Int.toNat_zero/\type_of% @Nat.sub_zero)/\(type_of% @ZpT/\type_of% @ZmG)))/\(((type_of% @ZaR.eq_1/\type_of% @ZgC.eq_1)/\(type_of% @ZgC.eq_2/\type_of% @fp0))/\((type_of% @fp1/\type_of% @fp2)/\(type_of% @fp3/\type_of% @fp4))))/\((((type_of% @fp5/\type_of% @fp6)/\(type_of% @fp7/\type_of% @fp8))/\((type_of% @Zzs/\type_of% @Zs6)/\(type_of% @Zzt/\type_of% @Zs7)))/\(((type_of% @Zs8/\type_of% @Zs9)/\(type_of% @Zzu/\type_of% @ZnN.eq_1))/\((type_of% @Yag.{0}/\type_of% @List.length_nil.{0})/\(type_of% @List.cons_append.{0}/\type_of% @List.nil_append.{0}))))):=
 ⟨⟨⟨⟨⟨@Zs5,@ZpS⟩,⟨@ZiT,@List.drop_zero.{0}⟩⟩,⟨⟨@Int.toNat_zero,@Nat.sub_zero⟩,⟨@ZpT,@ZmG⟩⟩⟩,⟨⟨⟨@ZaR.eq_1,@ZgC.eq_1⟩,⟨@ZgC.eq_2,@fp0⟩⟩,⟨⟨@fp1,@fp2⟩,⟨@fp3,@fp4⟩⟩⟩⟩,⟨⟨⟨⟨@fp5,@fp6⟩,⟨@fp7,@fp8⟩⟩,⟨⟨@Zzs,@Zs6⟩,⟨@Zzt,@Zs7⟩⟩⟩,⟨⟨⟨@Zs8,@Zs9⟩,⟨@Zzu,@ZnN.eq_1⟩⟩,⟨⟨@Yag.{0},@List.length_nil.{0}⟩,⟨@List.cons_append.{0},@List.nil_append.{0}⟩⟩⟩⟩⟩
theorem NS6:(((((type_of% @List.append_nil.{0}/\type_of% @List.singleton_append.{0})/\(type_of% @List.take_succ_cons.{0}/\type_of% @List.take_zero.{0}))/\((type_of% @List.take_nil.{0}/\type_of% @List.drop_succ_cons.{0})/\(type_of% @List.getElem_toArray.{0}/\type_of% @List.getElem_cons_zero.{0})))/\(((type_of% @List.getElem_cons_succ.{0}/\type_of% @Nat.zero_add)/\(type_of% @Nat.add_zero/\type_of% @Zta))/\((type_of% @ZpU/\type_of% @Zzx)/\(type_of% @Ztb/\type_of% @Ztc))))/\((((type_of% @Zkd/\type_of% @ZiV)/\(type_of% @Zke/\type_of% @ZiW))/\((type_of% @ZiX/\type_of% @Zkf)/\(type_of% @Zkg/\type_of% @ZiY)))/\(((type_of% @Zkh/\type_of% @ZmI)/\(type_of% @Zki/\type_of% @Zn3.eq_1))/\((type_of% @Zcv.eq_1/\type_of% @Zcv.eq_2)/\(type_of% @St.back.eq_1/\type_of% @ZgN.eq_1))))):=
 ⟨⟨⟨⟨⟨@List.append_nil.{0},@List.singleton_append.{0}⟩,⟨@List.take_succ_cons.{0},@List.take_zero.{0}⟩⟩,⟨⟨@List.take_nil.{0},@List.drop_succ_cons.{0}⟩,⟨@List.getElem_toArray.{0},@List.getElem_cons_zero.{0}⟩⟩⟩,⟨⟨⟨@List.getElem_cons_succ.{0},@Nat.zero_add⟩,⟨@Nat.add_zero,@Zta⟩⟩,⟨⟨@ZpU,@Zzx⟩,⟨@Ztb,@Ztc⟩⟩⟩⟩,⟨⟨⟨⟨@Zkd,@ZiV⟩,⟨@Zke,@ZiW⟩⟩,⟨⟨@ZiX,@Zkf⟩,⟨@Zkg,@ZiY⟩⟩⟩,⟨⟨⟨@Zkh,@ZmI⟩,⟨@Zki,@Zn3.eq_1⟩⟩,⟨⟨@Zcv.eq_1,@Zcv.eq_2⟩,⟨@St.back.eq_1,@ZgN.eq_1⟩⟩⟩⟩⟩
theorem NS7:(((((type_of% @ZgN.eq_2/\type_of% @ZeV.eq_1)/\(type_of% @ZeV.eq_2/\type_of% @Zsj.eq_1))/\((type_of% @Zsj.eq_2/\type_of% @St.wipeK.eq_1)/\(type_of% @St.dropK.eq_1/\type_of% @St.lendL.eq_1)))/\(((type_of% @ZcZ.eq_1/\type_of% @ZcZ.eq_2)/\(type_of% @Zhw.eq_1/\type_of% @Zhw.eq_2))/\((type_of% @Zfa.eq_1/\type_of% @ZdA.eq_1)/\(type_of% @ZaK.rk.eq_1/\type_of% @Zzz))))/\((((type_of% @Ztf/\type_of% @ZzA)/\(type_of% @ZzB/\type_of% @Ztg))/\((type_of% @Zth/\type_of% @Zti)/\(type_of% @Ztj/\type_of% @ZzC)))/\(((type_of% @ZzD/\type_of% @ZzE)/\(type_of% @ZzF/\type_of% @ZzG))/\((type_of% @ZzH/\type_of% @ZCr)/\(type_of% @Zh1.eq_1/\type_of% @Zh1.eq_2))))):=
 ⟨⟨⟨⟨⟨@ZgN.eq_2,@ZeV.eq_1⟩,⟨@ZeV.eq_2,@Zsj.eq_1⟩⟩,⟨⟨@Zsj.eq_2,@St.wipeK.eq_1⟩,⟨@St.dropK.eq_1,@St.lendL.eq_1⟩⟩⟩,⟨⟨⟨@ZcZ.eq_1,@ZcZ.eq_2⟩,⟨@Zhw.eq_1,@Zhw.eq_2⟩⟩,⟨⟨@Zfa.eq_1,@ZdA.eq_1⟩,⟨@ZaK.rk.eq_1,@Zzz⟩⟩⟩⟩,⟨⟨⟨⟨@Ztf,@ZzA⟩,⟨@ZzB,@Ztg⟩⟩,⟨⟨@Zth,@Zti⟩,⟨@Ztj,@ZzC⟩⟩⟩,⟨⟨⟨@ZzD,@ZzE⟩,⟨@ZzF,@ZzG⟩⟩,⟨⟨@ZzH,@ZCr⟩,⟨@Zh1.eq_1,@Zh1.eq_2⟩⟩⟩⟩⟩
theorem NS:(((type_of% @NS0/\type_of% @NS1)/\(type_of% @NS2/\type_of% @NS3))/\((type_of% @NS4/\type_of% @NS5)/\(type_of% @NS6/\type_of% @NS7))):=
 ⟨⟨⟨@NS0,@NS1⟩,⟨@NS2,@NS3⟩⟩,⟨⟨@NS4,@NS5⟩,⟨@NS6,@NS7⟩⟩⟩
end Go.Abs
namespace Go.Abs
open Go Go.RowKit
theorem ZaN {w:Nat}{x:Int}(h0:0<=x)(h1:x<2^w):(BitVec.ofInt w x).toNat=x.toNat:=by
 rw[BitVec.toNat_ofInt,Int.emod_eq_of_lt h0 (by exact_mod_cast h1)]
theorem Zj {k:IntKind}(hk:k.signed=false)(x:Int):k.wrap x=x%2^k.bits:=by
 simp[IntKind.wrap,hk]
theorem wrap_small {k:IntKind}{x:Int}(h0:0<=x)(h1:x<2^(k.bits-1)):k.wrap x=x:=by
 have hb:(2:Int)^(k.bits-1)<=2^k.bits:=by
  cases k<;>decide
 have e:x%2^k.bits=x:=Int.emod_eq_of_lt h0 (by omega)
 unfold IntKind.wrap
 simp only[e]
 rw[if_neg]
 simp only[Yao,Yaz,not_and]
 intro _;omega
theorem Zb0 {k:IntKind}(hk:k.signed=false){x:Int}(h0:0<=x)(h1:x<2^k.bits):k.wrap x=x:=by
 rw[Zj hk];exact Int.emod_eq_of_lt h0 h1
theorem ZwS {k:IntKind}(m:Nat)(hm:m<=k.bits){x:Int}(h0:0<=x)(h1:x<2^k.bits)(hw:k.signed=false\/m<k.bits):Zt .and k x (2^m-1)=x%2^m:=by
 have hp:(0:Int)<2^m:=Int.pow_pos (by decide)
 have hle:(2:Int)^m<=2^k.bits:=by exact_mod_cast Nat.pow_le_pow_right (by decide) hm
 have e2:((2:Int)^m-1).toNat=2^m-1:=by
  have:((2:Int)^m)=((2^m:Nat):Int):=by push_cast;rfl
  rw[this];omega
 simp only[Zt]
 rw[BitVec.toNat_and,ZaN h0 h1,ZaN (by omega) (by omega),e2,Nat.and_two_pow_sub_one_eq_mod]
 have e3:((x.toNat%2^m:Nat):Int)=x%2^m:=by
  rw[Int.natCast_emod,Int.toNat_of_nonneg h0];push_cast;rfl
 rw[e3]
 have hb:=Int.emod_nonneg x (by omega:(2:Int)^m≠0)
 have hl:=Int.emod_lt_of_pos x hp
 rcases hw with hw|hw
 ·exact Zb0 hw hb (by omega)
 ·refine wrap_small hb ?_
  have:(2:Int)^m<=2^(k.bits-1):=by exact_mod_cast Nat.pow_le_pow_right (by decide) (by omega)
  omega
theorem ZpW {k:IntKind}(s:Nat){a b:Int}(ha:0<=a)(ha2:a<2^s)(hb:0<=b)(h:a+b*2^s<2^k.bits)(hw:k.signed=false\/a+b*2^s<2^(k.bits-1)):Zt .or k a (b*2^s)=a+b*2^s:=by
 have hp:(0:Int)<2^s:=Int.pow_pos (by decide)
 have hbs:0<=b*2^s:=Int.mul_nonneg hb (by omega)
 simp only[Zt]
 rw[BitVec.toNat_or,ZaN ha (by omega),ZaN hbs (by omega)]
 have e1:(b*2^s).toNat=b.toNat*2^s:=by
  have:(b*2^s)=((b.toNat*2^s:Nat):Int):=by push_cast;rw[Int.toNat_of_nonneg hb]
  rw[this];omega
 have e2:a.toNat<2^s:=by
  have:((2:Int)^s)=((2^s:Nat):Int):=by push_cast;rfl
  omega
 have e3:a.toNat ||| b.toNat*2^s=b.toNat*2^s+a.toNat:=by
  rw[Nat.or_comm,<- Nat.shiftLeft_eq,Nat.shiftLeft_add_eq_or_of_lt e2]
 rw[e1,e3]
 have e4:((b.toNat*2^s+a.toNat:Nat):Int)=a+b*2^s:=by
  push_cast;rw[Int.toNat_of_nonneg hb,Int.toNat_of_nonneg ha];omega
 rw[e4]
 rcases hw with hw|hw
 ·exact Zb0 hw (by omega) h
 ·exact wrap_small (by omega) hw
theorem Ztk {x:Int}(h0:0<=x)(h1:x<=255):Zt .and .u8 x 127=x%128:=ZwS (k:= .u8) 7 (by decide) h0 (by show x<256;omega) (.inl rfl)
theorem ZAA: ∀n:Fin 256,(n.val ||| 128)=n.val%128+128:=by decide +kernel
theorem ZCs {x:Int}(h0:0<=x)(h1:x<=255):Zt .or .u8 x 128=x%128+128:=by
 simp only[Zt]
 rw[BitVec.toNat_or,ZaN h0 (by show x<256;omega),ZaN (by decide) (by decide)]
 have:=ZAA ⟨x.toNat,by omega⟩
 simp only at this
 rw[show(128:Int).toNat=128 from rfl,this,Zb0 rfl (by omega) (by show _<(256:Int);omega)]
 omega
theorem ZpX (a:Int)(n:Nat)(h:0<=a):a.fdiv (2^n)=a/2^n:=Int.fdiv_eq_ediv_of_nonneg _ (Int.le_of_lt (Int.pow_pos (by decide)))
end Go.Abs
namespace Go.Abs
open Go Go.RowKit
theorem Zhy {k:IntKind}{x:Int}(h:(Sh.int k).good x):k.min<=x/\x<=k.max:=by
 have h:(Lit.int k x).wf=true:=h
 simpa[Lit.wf]using h
theorem Zdm {x:Int}(h:(Sh.int .u8).good x):0<=x/\x<=255:=Zhy h
theorem ZpY {x:Int}(h:(Sh.int .u64).good x):0<=x/\x<18446744073709551616:=by have:=Zhy h;exact⟨this.1,by have h2:x<=18446744073709551615:=this.2;omega⟩
theorem Zin {x:Int}(h:(Sh.int .i64).good x): -9223372036854775808<=x/\x<9223372036854775808:=by have:=Zhy h;exact⟨this.1,by have h2:x<=9223372036854775807:=this.2;omega⟩
end Go.Abs
namespace Go.Abs
open Go Go.RowKit
def nvB:V->Bool
 |.int _ _|.bool _|.str _|.con _|.nils|.any|.ref _ _ _ _=>true
 |_=>false
theorem ZwT {v:V}(h:nvB v=true):Zd1 v:=by
 cases v<;>first|trivial|(simp[nvB]at h)
def ZGk:V->Bool
 |.tup vs=>vs.all fun v=>nvB v||(match v with|.agg cs=>cs.all nvB|_=>false)
 |.agg vs=>vs.all nvB
 |v=>nvB v
theorem ZmR {v:V}(h:ZGk v=true):Zhr v:=by
 have one: ∀{v:V},nvB v=true->Zd1 v:=ZwT
 cases v with
 |tup vs=>
  intro x hx
  have:=Yat.1 h x hx
  simp only[Bool.or_eq_true]at this
  rcases this with h1|h1
  ·exact .inl (one h1)
  ·cases x with
   |agg cs=>exact .inr ⟨cs,rfl,fun c hc=>one (Yat.1 h1 c hc)⟩
   |_=>simp at h1
 |agg vs=>exact fun x hx=>one (Yat.1 h x hx)
 |int|bool|str|con|nils|any|ref=>trivial
 |_=>simp[ZGk,nvB]at h
theorem Ztl: ∀(k:Nat) (cs:List V),(k,cs)∈([]:List (Nat×List V))-> ∀v∈cs,Zd1 v:=fun _ _ h=>by cases h
end Go.Abs
namespace Go.Abs
open Go Go.RowKit
structure Fr (k:Nat)(st:St):Prop where
 obj:st.obj k=none
 slot: ∀t,(st.get t).wipe k 4=st.get t
 objs: ∀j o,st.obj j=some o->o.wipe k=o
 lent:ZcX st.lent k=false
def St.add (st:St)(d:Nat)(v:V)(objs:List (Nat×ZaK)):St:={ st with slots:=(d,v)::rm st.slots d,mem:=objs++st.mem }
theorem St.get_add (st:St)(d:Nat)(v:V)(objs:List (Nat×ZaK))(i:Nat):(st.add d v objs).get i=if i=d then v else st.get i:=by
 have:=St.get_put st d v i
 exact this
theorem Ztm {α:Type}(l m:List (Nat×α))(k:Nat):lk (l++m) k=(lk l k).or (lk m k):=by
 induction l with
 |nil=>rfl
 |cons p l ih=>
  simp only[List.cons_append,lk]
  cases p.1==k<;>simp[ih]
theorem St.obj_add (st:St)(d:Nat)(v:V)(objs:List (Nat×ZaK))(k:Nat):(st.add d v objs).obj k=(lk objs k).or (st.obj k):=Ztm objs st.mem k
section
variable {P:Program}{C:Ctx}{S:Nat->Prop}{β:Nat->Option BI}{st st':St}{a:Act}{w w':World}{l:List Oper}{rest:List Oper}{o:Oper}
theorem SR.ext2 (h:SR C S β st a w)(hn:st'.n=st.n)(hm: ∀k,st'.obj k=st.obj k)(hl:st'.lent=st.lent)(hg: ∀t,st'.get t=st.get t):SR C S β st' a w:=by
 have ho:st'.obj=st.obj:=funext hm
 exact{ tsize:=by rw[hn];exact h.tsize,slots:=fun i=>by rw[hg];exact h.slots i,defers:=h.defers,objs:=by rw[ho];exact h.objs,inj:=by rw[ho];exact h.inj,
        own:=by rw[ho,hl];exact h.own,pins:=by rw[hl];exact h.pins,sub:=h.sub,snew:=h.snew,slt:=h.slt,frame:=h.frame }
theorem SRx.ext2 (h:SRx C st a w)(hn:st'.n=st.n)(hm: ∀k,st'.obj k=st.obj k)(hl:st'.lent=st.lent)(hg: ∀t,st'.get t=st.get t):SRx C st' a w:=by
 obtain⟨S,β,h⟩:=h;exact⟨S,β,h.ext2 hn hm hl hg⟩
def QS (P:Program)(st:St)(o:Oper)(d:Nat)(v:V)(ks:List Nat)(objs:List (Nat×ZaK)):Prop:=
 ∀st':St,st'.n=st.n->st'.lent=st.lent->(∀k o,st.obj k=some o->st'.obj k=some o)->(∀x∈o.op.operands,st'.ev x=st.ev x)->(∀k∈ks,Fr k st')->
  ∀(C:Ctx) (a:Act) (w:World) (K:Act->World->Prop) (Q':Exit->Act->World->Prop),o.dst=some d->d<st.n->SRx C st' a w->
   (∀a' w',SRx C (st'.add d v objs) a' w'->K a' w')->o.wp P a w K Q'
theorem Zrp {t:TypeId}{x:V}{r:Prop×V}(hm: ∀k o,st.obj k=some o->st'.obj k=some o)(h:ZiL P st t x=some r):ZiL P st' t x=some r:=by
 unfold ZiL at h ⊢
 split at h<;>first|(cases h;done)|skip
 split at h<;>first|(cases h;done)|skip
 ·exact h
 ·split at h<;>first|(cases h;done)|skip
  rename_i ho
  simp only[hm _ _ ho]
  exact h
theorem Zrq {s t:TypeId}{x:V}{r:Prop×V}(hm: ∀k o,st.obj k=some o->st'.obj k=some o)(h:ZjV P st s t x=some r):ZjV P st' s t x=some r:=by
 unfold ZjV at h ⊢
 split at h<;>first|exact h|skip
 split at h<;>first|(cases h;done)|skip
 rename_i he ho
 simp only[he,hm _ _ ho]
 exact h
theorem Zn6 {t:TypeId}{x:V}{lo hi:Option V}{r:Prop×V}(hm: ∀k o,st.obj k=some o->st'.obj k=some o)(h:ZgA P st t x lo hi=some r):ZgA P st' t x lo hi=some r:=by
 unfold ZgA at h ⊢
 split at h<;>first|exact h|skip
 split at h<;>first|(cases h;done)|skip
 rename_i he ho
 simp only[he,hm _ _ ho]
 exact h
theorem ZwU (hm: ∀k o,st.obj k=some o->st'.obj k=some o)(op:Op)(he: ∀x∈op.operands,st'.ev x=st.ev x){r:Prop×V}(h:vop P st op=some r):vop P st' op=some r:=by
 have h2:vop P { st with slots:=st'.slots } op=some r:=by
  refine(Zmv (st:=st) (st':={ st with slots:=st'.slots }) rfl op (fun x hx=> ?_)).trans h
  have:=he x hx
  cases x with
  |tmp t=>exact this
  |_=>rfl
 have hm': ∀k o,St.obj { st with slots:=st'.slots } k=some o->st'.obj k=some o:=hm
 have hev: ∀x,St.ev { st with slots:=st'.slots } x=st'.ev x:=fun x=>by cases x<;>rfl
 have hfun:St.ev { st with slots:=st'.slots }=st'.ev:=funext hev
 generalize { st with slots:=st'.slots }=s at h2 hm' hfun
 unfold vop at h2 ⊢
 split at h2<;>first
  |(cases h2;done)
  |(simp only[hfun]at h2;exact h2)
  |(simp only[hfun]at h2;exact Zrp hm' h2)
  |(simp only[hfun]at h2;exact Zrq hm' h2)
  |(simp only[hfun]at h2;exact Zn6 hm' h2)
  |(simp only[Zl4,ZaR,hfun]at h2 ⊢;exact h2)
theorem QS.op {d:Nat}{c:Prop}{v:V}(h:vop P st o.op=some (c,v))(hc:c):QS P st o d v [] []:=by
 intro st' hn hl hm he _ C a w K Q' hd hdn ⟨S,β,hs⟩ hK
 have h:=ZwU hm o.op he h
 obtain⟨u,hr,hv⟩:=ZgF h hc hs
 unfold Oper.wp
 rw[hr]
 show K (a.put o.dst u) w
 rw[hd]
 exact hK _ _ ⟨S,β,hs.put (by rw[hn];exact hdn) hv⟩
theorem QS.assign {d:Nat}{x:Operand}(ho:o.op= .assign x):QS P st o d (st.ev x) [] []:=by
 intro st' hn hl hm he _ C a w K Q' hd hdn ⟨S,β,hs⟩ hK
 have hx:=he x (by rw[ho];simp[Op.operands])
 unfold Oper.wp
 have hr:(execOp a.eval o).run P w= .ok (.value (a.eval x)) w:=by unfold execOp;simp[ho]
 rw[hr]
 show K (a.put o.dst _) w
 rw[hd]
 exact hK _ _ ⟨S,β,hs.put (by rw[hn];exact hdn) (by rw[<- hx];exact Zag hs x)⟩
theorem Ztn {st2:St}{K:Act->World->Prop}{Q':Exit->Act->World->Prop}(hw:AWL P #[] [{ o with guard:=none }] (fun e s=>e= .normal/\s=st2) st')(hs:SRx C st' a w)
 (hK: ∀a' w',SRx C st2 a' w'->K a' w'):o.wp P a w K Q':=by
 have:=hw C a w hs
 unfold wpList at this
 rw[if_pos (by simp[Region.wanted])]at this
 have hno: ∀c a w,¬AQ C (fun e s=>e= .normal/\s=st2) (.panic c) a w:=fun c a w h=>by obtain⟨s,⟨h,_⟩,_⟩:=h;cases h
 rcases this with this|⟨_,hlo⟩
 ·unfold Oper.wp at this ⊢
  have e:execOp a.eval { o with guard:=none }=execOp a.eval o:=rfl
  rw[e]at this
  generalize (execOp a.eval o).run P w=r at this
  have hk: ∀a' w',wpList P #[] (AQ C (fun e s=>e= .normal/\s=st2)) [] a' w'->K a' w':=fun a' w' h=>by
   obtain⟨s,⟨_,rfl⟩,hs⟩:=h
   exact hK _ _ hs
  cases r with
  |ok n w'=>
   cases n<;>simp only[Oper.upon]at this ⊢
   case value u=>exact hk _ _ this
   case skip=>exact hk _ _ this
   case defer d=>exact hk _ _ this
   case enter f args=>
     refine Calls.mono this fun e w'' he=> ?_
     cases e with
     |returned u=>exact hk _ _ he
     |panicked c=>exact absurd he (hno _ _ _)
     |outgrown=>obtain⟨_,_,_,⟨h,_⟩,_⟩:=he;cases h
   case row row args=>exact Rows.mono this fun u w'' he=>hk _ _ he
  |halt x w'=>
   cases x<;>simp only[Oper.upon]at this ⊢
   case panic u=>exact absurd this (hno _ _ _)
 ·obtain⟨_,_,_,⟨h,_⟩,_⟩:=hlo;cases h
theorem Zi4 {k d:Nat}:V.wipe k d .any= .any:=by cases d<;>rfl
theorem Fr.repl_get {k:Nat}{ob:ZaK}(h:Fr k st)(t:Nat):(st.repl k ob).get t=st.get t:=by
 rw[St.get_repl]
 have:=h.slot t
 unfold St.get at this ⊢
 cases hl:lk st.slots t with
 |none=>rfl
 |some v=>rw[hl]at this;simpa using this
theorem Fr.repl_obj {k:Nat}{ob:ZaK}(h:Fr k st)(j:Nat):(st.repl k ob).obj j=if j=k then some ob else st.obj j:=by
 rw[St.obj_repl]
 split
 ·rfl
 ·cases ho:st.obj j with
  |none=>rfl
  |some o=>simp[h.objs j o ho]
theorem ZkQ {k:Nat}: ∀{l:List (Nat×Option BI)},ZcX l k=false->ZcO k l=l
 |[],_=>rfl
 |p::l,h=>by
  simp only[ZcX,Bool.or_eq_false_iff]at h
  simp only[ZcO,h.1,cond_false,ZkQ h.2]
theorem ZwV {d k:Nat}: ∀(m:List (Nat×List V)),k∉m.map (·.1)->lk (m.map fun p=>(ZdA d p.1,(⟨true,p.2⟩:ZaK))) (ZdA d k)=none:=by
 intro m
 induction m with
 |nil=>intro _;rfl
 |cons p m ih=>
  intro hm
  simp only[List.map_cons,Yav,not_or]at hm
  simp only[List.map_cons,lk]
  rw[show(ZdA d p.1==ZdA d k)=false from by
    rw[Yam];exact fun e=>hm.1 (Zil e).symm]
  exact ih hm.2
theorem Zn7 (st:St)(d k:Nat)(cs:List V)(m:List (Nat×List V)):st.adoptL d ((k,cs)::m)=(st.repl (ZdA d k) ⟨true,cs⟩).adoptL d m:=rfl
theorem Zto (d:Nat): ∀(m:List (Nat×List V)) (st:St),(m.map (·.1)).Nodup->(∀k cs,(k,cs)∈m->Fr (ZdA d k) st)->
 (st.adoptL d m).n=st.n/\(st.adoptL d m).lent=st.lent/\(∀t,(st.adoptL d m).get t=st.get t)/\ ∀k,(st.adoptL d m).obj k=(lk (m.map fun p=>(ZdA d p.1,(⟨true,p.2⟩:ZaK))) k).or (st.obj k):=by
 intro m
 induction m with
 |nil=>intro st _ _;exact⟨rfl,rfl,fun _=>rfl,fun _=>rfl⟩
 |cons p m ih=>
  obtain⟨k,cs⟩:=p
  intro st hnd hf
  have h0:=hf k cs (List.mem_cons_self ..)
  simp only[List.map_cons,List.nodup_cons]at hnd
  have hrec:=ih (st.repl (ZdA d k) ⟨true,cs⟩) hnd.2 (fun k' cs' hk'=>by
    have h1:=hf k' cs' (Yaq _ hk')
    have hne:ZdA d k'≠ZdA d k:=fun e=>hnd.1 (Zil e▸Ya3.2 ⟨_,hk',rfl⟩)
    refine⟨?_,fun t=> ?_,fun j o hj=> ?_,?_⟩
    ·rw[h0.repl_obj,if_neg hne];exact h1.obj
    ·rw[h0.repl_get];exact h1.slot t
    ·rw[h0.repl_obj]at hj
     split at hj
     ·cases hj;rfl
     ·exact h1.objs j o hj
    ·have:(st.repl (ZdA d k) ⟨true,cs⟩).lent=ZcO (ZdA d k) st.lent:=rfl
     rw[this,ZbB];exact h1.lent)
  obtain⟨e1,e2,e3,e4⟩:=hrec
  rw[Zn7]
  refine⟨e1,e2.trans (ZkQ h0.lent),fun t=> ?_,fun j=> ?_⟩
  ·rw[e3,h0.repl_get]
  ·rw[e4,h0.repl_obj]
   simp only[List.map_cons,lk]
   by_cases hj:j=ZdA d k
   ·subst hj
    rw[ZwV m hnd.1];simp
   ·rw[if_neg hj,show(ZdA d k==j)=false from by rw[Yam];exact fun e=>hj e.symm];rfl
def Zbm (d:Nat):List (Nat×List V)->List Nat
 |[]=>[]
 |(k,_)::m=>ZdA d k::Zbm d m
def ZaG (d:Nat):List (Nat×List V)->List (Nat×ZaK)
 |[]=>[]
 |(k,cs)::m=>(ZdA d k,⟨true,cs⟩)::ZaG d m
def ZmS:List (Nat×List V)->List Nat
 |[]=>[]
 |(k,_)::m=>k::ZmS m
theorem Ztp (d:Nat)(m:List (Nat×List V)):Zbm d m=m.map fun p=>ZdA d p.1:=by
 induction m with
 |nil=>rfl
 |cons p m ih=>obtain⟨k,cs⟩:=p;simp[Zbm,ih]
theorem Zn8 (d:Nat)(m:List (Nat×List V)):ZaG d m=m.map fun p=>(ZdA d p.1,⟨true,p.2⟩):=by
 induction m with
 |nil=>rfl
 |cons p m ih=>obtain⟨k,cs⟩:=p;simp[ZaG,ih]
theorem Ztq (m:List (Nat×List V)):ZmS m=m.map (·.1):=by
 induction m with
 |nil=>rfl
 |cons p m ih=>obtain⟨k,cs⟩:=p;simp[ZmS,ih]
def ZmT:List Nat->Bool
 |[]=>true
 |k::l=> !l.contains k&&ZmT l
theorem Zi5: ∀{l:List Nat},ZmT l=true->l.Nodup
 |[],_=>List.nodup_nil
 |k::l,h=>by
  simp only[ZmT,Yao,Bool.not_eq_true']at h
  exact List.nodup_cons.2 ⟨by simpa using h.1,Zi5 h.2⟩
theorem QS.fin {d:Nat}{r:V}{m:List (Nat×List V)}(hnd:(m.map (·.1)).Nodup)(hf: ∀k∈Zbm d m,Fr k st')(h:SRx C ((st'.adoptL d m).put d (Zae d 4 r)) a w):SRx C (st'.add d (Zae d 4 r) (ZaG d m)) a w:=by
 obtain⟨e1,e2,e3,e4⟩:=Zto d m st' hnd (fun k cs hk=>hf _ (by rw[Ztp];exact Ya3.2 ⟨_,hk,rfl⟩))
 refine h.ext2 ?_ (fun k=> ?_) ?_ (fun t=> ?_)
 ·exact e1.symm
 ·rw[St.obj_add,Zn8];exact(e4 k).symm
 ·exact e2.symm
 ·rw[St.get_add,St.get_put]
  split
  ·rfl
  ·exact(e3 t).symm
theorem QS.call {f:FuncId}{args:Array Operand}{argTypes:Array TypeId}{d:Nat}{r:V}{m:List (Nat×List V)}{R:V->List (Nat×List V)->Prop}(ho:o.op= .call { callee:= .value (.func f),args,argTypes })(hf:Za P f=true)
 (hfl:((args.toList.map st.ev).all ZcY)=true) (hAC:AC P f (args.toList.map st.ev) R) (hR: ∀r' m',R r' m'->r'=r/\m'=m):QS P st o d (Zae d 4 r) (Zbm d m) (ZaG d m):=by
 intro st' hn hl hm he hfr C a w K Q' hd hdn ⟨S,β,hs⟩ hK
 have hev:args.toList.map st'.ev=args.toList.map st.ev:=List.map_congr_left fun x hx=>he x (by
  rw[ho];simp only[Op.operands,Call.operands,Array.mem_append];exact .inr (by simpa using hx))
 rw[<- hev]at hfl hAC
 unfold Oper.wp
 rw[Zfy ho hf]
 have hc:=hAC S w (args.toList.map a.eval) hs.sok (by simp) (fun j v u hv hu=>by
  rw[Yat]at hfl
  exact Zhs (ZiQ hs _ j v u hv hu) (hfl v (Ya0 hv)))
 have e:(args.toList.map a.eval).toArray=args.map a.eval:=by rw[<- Array.toList_map]
 rw[e]at hc
 refine Calls.mono hc ?_
 rintro e' w' ⟨r',m',u,hr,rfl,⟨S',β',h1,h2,h3,h4,h5,h6,h7,h8⟩,hframe⟩
 obtain⟨rfl,rfl⟩:=hR _ _ hr
 have:=hs.called (d:=d) (by rw[hn];exact hdn) hframe h1 h2 h3 h4 h5 h6 h7 h8
 show K (a.put o.dst u) w'
 rw[hd]
 exact hK _ _ (QS.fin h8 hfr this)
theorem ZwW (hm: ∀k o,st.obj k=some o->st'.obj k=some o)(v:V)(h:ZbJ (st.vw1 v)=true):st'.vw1 v=st.vw1 v:=by
 cases v with
 |ref k off n sz=>
  simp only[St.vw1]at h ⊢
  cases ho:st.obj k with
  |none=>rw[ho]at h;simp[ZbJ]at h
  |some o=>rw[hm k o ho]
 |ptr k off=>
  simp only[St.vw1]at h ⊢
  cases ho:st.obj k with
  |none=>rw[ho]at h;simp[ZbJ]at h
  |some o=>rw[hm k o ho]
 |_=>rfl
theorem ZAB (hm: ∀k o,st.obj k=some o->st'.obj k=some o)(v:V)(h:ZcY (st.vw v)=true):st'.vw v=st.vw v:=by
 have h1: ∀k off n sz,ZcY (st.vw1 (.ref k off n sz))=true->st'.vw1 (.ref k off n sz)=st.vw1 (.ref k off n sz):=fun k off n sz h=>by
  simp only[St.vw1]at h ⊢
  cases ho:st.obj k with
  |none=>rw[ho]at h;simp[ZcY,ZbJ]at h
  |some o=>rw[hm k o ho]
 have h2: ∀k off,ZcY (st.vw1 (.ptr k off))=true->st'.vw1 (.ptr k off)=st.vw1 (.ptr k off):=fun k off h=>by
  simp only[St.vw1]at h ⊢
  cases ho:st.obj k with
  |none=>rw[ho]at h;simp[ZcY,ZbJ]at h
  |some o=>rw[hm k o ho]
 cases v with
 |agg cs=>
  simp only[St.vw]at h ⊢
  simp only[ZcY,Yat]at h
  refine congrArg V.agg (List.map_congr_left fun x hx=>ZwW hm x (h _ (Ya3.2 ⟨x,hx,rfl⟩)))
 |ref k off n sz=>exact h1 k off n sz h
 |ptr k off=>exact h2 k off h
 |_=>rfl
theorem QS.callS {f:FuncId}{args:Array Operand}{argTypes:Array TypeId}{d:Nat}{r:V}{m:List (Nat×List V)}{R:V->List (Nat×List V)->Prop}(ho:o.op= .call { callee:= .value (.func f),args,argTypes })(hf:Za P f=true)
 (hfl:((args.toList.map fun x=>st.vw (st.ev x)).all ZcY)=true) (hAC:AC P f (args.toList.map fun x=>st.vw (st.ev x)) R) (hR: ∀r' m',R r' m'->r'=r/\m'=m) (hnd:(m.map (·.1)).Nodup) (hnv:Zhr r/\ ∀k cs,(k,cs)∈m-> ∀v∈cs,Zd1 v):QS P st o d (Zae d 4 r) (Zbm d m) (ZaG d m):=by
 intro st' hn hl hm he hfr C a w K Q' hd hdn hs hK
 have hev:(args.toList.map fun x=>st'.vw (st'.ev x))=args.toList.map fun x=>st.vw (st.ev x):=List.map_congr_left fun x hx=>by
  rw[he x (by rw[ho];simp only[Op.operands,Call.operands,Array.mem_append];exact .inr (by simpa using hx))]
  exact ZAB hm _ (Yat.1 hfl _ (Ya3.2 ⟨x,hx,rfl⟩))
 rw[<- hev]at hfl hAC
 refine Ztn (st2:=(st'.adoptL d m).put d (Zae d 4 r)) (AWL.callS (f:=f) (args:=args) (argTypes:=argTypes) (d:=d) rfl ho hd hf (by rw[hn];exact hdn) hfl hAC (fun r' m' hr=>by
  obtain⟨rfl,rfl⟩:=hR _ _ hr
  exact⟨hnv,AWL.nil ⟨rfl,rfl⟩⟩)) hs (fun a' w' h=>hK _ _ (QS.fin hnd hfr h))
end
end Go.Abs
namespace Go.Abs
open Go Go.RowKit
def ZaZ (o:Oper):Bool:=
 match o.op with
 |.move _=>o.after.isEmpty&&o.guard.isNone&&o.dst.isSome
 |_=>false
def Zcd (b:Bool)(nq:List Nat)(o:Oper):Bool:=
 (match o.dst with|some d=> !nq.contains d|none=>false)&&match o.op with
  |.move _|.pick ..|.build ..|.load ..|.binOp ..|.unOp ..|.convert ..|.slice ..|.fieldAddr ..|.field ..|.indexAddr ..|.index ..|.extract ..|.nilCheck _|.alloc _|.buildSlice .. =>true
  |.call { callee:= .value _,.. }=>true
  |.call { callee:= .builtin .len,.. }|.call { callee:= .builtin .min,.. }|.call { callee:= .builtin .max,.. }=>true
  |.call { callee:= .builtin .append,.. }=>nq.contains 999999
  |.assign _=>b
  |_=>false
def ZCb (ops:List Oper):Array Bool->List Nat->Bool
 |_,[]=>true
 |L,i::is=>Region.free .any ops.toArray L i&&(Region.ready .any ops.toArray L).contains i&&ZCb ops (L.setIfInBounds i true) is
def fl1:List Oper->Nat->List Nat
 |[],_=>[]
 |o::r,i=>if ZaZ o=true then i::fl1 r (i+1)else fl1 r (i+1)
def ZcP (ops:List Oper)(k:Nat):List Nat:=fl1 (ops.take k) 0
theorem Ztr {j:Nat}: ∀{r:List Oper} {i:Nat},j∈fl1 r i↔i<=j/\ ∃o,r[j-i]? = some o/\ZaZ o=true
 |[],i=>by simp[fl1]
 |o::r,i=>by
  have ih:=Ztr (j:=j) (r:=r) (i:=i+1)
  have hs: ∀h:i+1<=j,j-i=(j-(i+1))+1:=fun h=>by omega
  by_cases hf:ZaZ o=true
  ·rw[fl1,if_pos hf,Yav,ih]
   constructor
   ·rintro(rfl|⟨h1,o2,h2,h3⟩)
    ·exact⟨Nat.le_refl _,o,by simp,hf⟩
    ·exact⟨by omega,o2,by rw[hs h1,List.getElem?_cons_succ];exact h2,h3⟩
   ·rintro⟨h1,o2,h2,h3⟩
    by_cases e:j=i
    ·exact .inl e
    ·have h4:i+1<=j:=by omega
     rw[hs h4,List.getElem?_cons_succ]at h2
     exact .inr ⟨h4,o2,h2,h3⟩
  ·rw[fl1,if_neg hf,ih]
   constructor
   ·rintro⟨h1,o2,h2,h3⟩
    exact⟨by omega,o2,by rw[hs h1,List.getElem?_cons_succ];exact h2,h3⟩
   ·rintro⟨h1,o2,h2,h3⟩
    by_cases e:j=i
    ·subst e;simp at h2;subst h2;exact absurd h3 hf
    ·have h4:i+1<=j:=by omega
     rw[hs h4,List.getElem?_cons_succ]at h2
     exact⟨h4,o2,h2,h3⟩
theorem Zts: ∀(r:List Oper) (i:Nat),(fl1 r i).length<=r.length
 |[],_=>Nat.le_refl _
 |o::r,i=>by
  have:=Zts r (i+1)
  unfold fl1;split<;>simp<;>omega
theorem Zd3 {l:List Oper}{k j:Nat}:j∈ZcP l k↔j<k/\ ∃o,l[j]? = some o/\ZaZ o=true:=by
 unfold ZcP
 rw[Ztr]
 simp only[Nat.zero_le,true_and,Nat.sub_zero,List.getElem?_take]
 constructor
 ·rintro⟨o,h1,h2⟩
  split at h1
  ·exact⟨by assumption,o,h1,h2⟩
  ·cases h1
 ·rintro⟨h0,o,h1,h2⟩
  exact⟨o,by rw[if_pos h0];exact h1,h2⟩
def Zn9 (ops:List Oper)(k:Nat):Bool:=
 decide (k<=ops.length) &&
 ((List.range ops.length).all fun i=>match ops[i]? with
   |some o=>o.after.toList.all fun e=> !Region.binds .any e||decide (e.on<i)
   |none=>true) &&
 ((List.range k).all fun i=>(List.range k).all fun j=>match ops[i]?,ops[j]? with
   |some o,some p=>ZaZ o||ZaZ p||(match p.dst with
    |some d=>(i==j||o.dst != some d)&&(!(o.looksAt ops.toArray).contains d||((Zgj ops).getD i 0).testBit j)
    |none=>true)
   |_,_=>true) &&
 ((List.range ops.length).all fun i=>decide (i<k)||(List.range i).all fun j=>((Zgj ops).getD i 0).testBit j||(ZcP ops k).contains j) &&
 Region.noSelect ops.toArray&&ZCb ops (Array.replicate ops.length false) (ZcP ops k)
def FL (l:List Oper)(i:Nat):Prop:= ∃o,l[i]? = some o/\ZaZ o=true
structure ZGl (l:List Oper)(k:Nat):Prop where
 le:k<=l.length
 topo: ∀i o j,l[i]? = some o->Zs4 o j->j<i
 dist: ∀i j o p d,i<k->j<k-> ¬FL l i-> ¬FL l j->l[i]? = some o->l[j]? = some p->o.dst=some d->p.dst=some d->i=j
 reads: ∀i j o p d,i<k->j<k-> ¬FL l i-> ¬FL l j->l[i]? = some o->l[j]? = some p->p.dst=some d->d∈o.looksAt l.toArray->((Zgj l).getD i 0).testBit j=true
 tail: ∀i j,k<=i->i<l.length->j<i->((Zgj l).getD i 0).testBit j=true\/j∈ZcP l k
 nosel:Region.noSelect l.toArray=true
 fl:ZCb l (Array.replicate l.length false) (ZcP l k)=true
theorem Ztt {l:List Oper}{k:Nat}(h:Zn9 l k=true):ZGl l k:=by
 unfold Zn9 at h
 simp only[Yao,Yaz,Yat,List.mem_range]at h
 obtain⟨⟨⟨⟨⟨h1,h2⟩,h3⟩,h4⟩,h5⟩,h6⟩:=h
 have nf: ∀{i o},l[i]? = some o-> ¬FL l i->ZaZ o=false:=fun{i o} ho hn=>by
  cases hf:ZaZ o with
  |false=>rfl
  |true=>exact absurd ⟨o,ho,hf⟩ hn
 refine⟨h1,?_,?_,?_,?_,h5,h6⟩
 ·intro i o j hi ⟨e,he,hb,hj⟩
  have hlt:=(Yak.1 hi).1
  have:=h2 i hlt
  rw[hi]at this
  simp only[Yat]at this
  have:=this e (by simpa using he)
  rw[hb]at this
  simp only[Bool.not_true,Bool.false_or,Yaz]at this
  omega
 ·intro i j o p d hi hj hni hnj ho hp hod hpd
  have:=h3 i hi j hj
  rw[ho,hp]at this
  simp only[nf ho hni,nf hp hnj,Bool.false_or,hpd,Yao,Bool.or_eq_true,beq_iff_eq,bne_iff_ne,ne_eq,hod,not_true_eq_false,or_false]at this
  exact this.1
 ·intro i j o p d hi hj hni hnj ho hp hpd hd
  have:=h3 i hi j hj
  rw[ho,hp]at this
  simp only[nf ho hni,nf hp hnj,Bool.false_or,hpd,Yao,Bool.or_eq_true]at this
  rcases this.2 with h|h
  ·simp[hd]at h
  ·exact h
 ·intro i j hk hi hj
  have:=h4 i hi
  simp only[Bool.or_eq_true,Yaz,Yat,List.mem_range]at this
  rcases this with h|h
  ·omega
  ·rcases h j hj with h|h
   ·exact .inl h
   ·exact .inr (by simpa using h)
structure Rc where
 d:Nat
 v:V
 ks:List Nat
 objs:List (Nat×ZaK)
def St.add1 (st:St):Option Rc->St
 |none=>st
 |some r=>st.add r.d r.v r.objs
def St.adds (st:St)(rs:List (Option Rc)):St:=rs.foldl St.add1 st
theorem Zi6 (rs:List (Option Rc)): ∀st:St,(st.adds rs).n=st.n/\(st.adds rs).lent=st.lent:=by
 induction rs with
 |nil=>intro st;exact⟨rfl,rfl⟩
 |cons r rs ih=>
  intro st
  have:=ih (st.add1 r)
  cases r<;>exact this
def St.wm (st:St)(m:List (Nat×ZaK)):St:={ st with mem:=m }
structure AgR (rs:List (Option Rc))(L:Nat->Prop)(st st':St):Prop where
 slot: ∀t,(∃i r,rs[i]? = some (some r)/\r.d=t/\L i/\st'.get t=r.v)\/((∀i r,rs[i]? = some (some r)->r.d=t-> ¬L i)/\st'.get t=st.get t)
 obj: ∀k,(∃i r o,rs[i]? = some (some r)/\lk r.objs k=some o/\L i/\st'.obj k=some o)\/((∀i r,rs[i]? = some (some r)->lk r.objs k≠none-> ¬L i)/\st'.obj k=st.obj k)
theorem AgR.add {rs:List (Option Rc)}{L L':Nat->Prop}{st st':St}(h:AgR rs L st st'){i:Nat}{r:Rc}(hi:rs[i]? = some (some r))(hL: ∀j,L' j↔j=i\/L j):AgR rs L' st (st'.add r.d r.v r.objs) where
 slot t:=by
  by_cases ht:t=r.d
  ·subst ht
   exact .inl ⟨i,r,hi,rfl,(hL i).2 (.inl rfl),by rw[St.get_add,if_pos rfl]⟩
  ·rcases h.slot t with⟨j,p,hj,hp,hLj,hg⟩|⟨hno,hg⟩
   ·exact .inl ⟨j,p,hj,hp,(hL j).2 (.inr hLj),by rw[St.get_add,if_neg ht];exact hg⟩
   ·refine .inr ⟨fun j p hj hp hLj=> ?_,by rw[St.get_add,if_neg ht];exact hg⟩
    rcases(hL j).1 hLj with rfl|h1
    ·rw[hi]at hj;cases hj;exact ht hp.symm
    ·exact hno j p hj hp h1
 obj k:=by
  cases hk:lk r.objs k with
  |some o=>exact .inl ⟨i,r,o,hi,hk,(hL i).2 (.inl rfl),by rw[St.obj_add,hk];rfl⟩
  |none=>
   have e:(st'.add r.d r.v r.objs).obj k=st'.obj k:=by rw[St.obj_add,hk];rfl
   rcases h.obj k with⟨j,p,o,hj,ho,hLj,hg⟩|⟨hno,hg⟩
   ·exact .inl ⟨j,p,o,hj,ho,(hL j).2 (.inr hLj),e.trans hg⟩
   ·refine .inr ⟨fun j p hj hp hLj=> ?_,e.trans hg⟩
    rcases(hL j).1 hLj with rfl|h1
    ·rw[hi]at hj;cases hj;exact hp hk
    ·exact hno j p hj hp h1
theorem AgR.congr {rs:List (Option Rc)}{L L':Nat->Prop}{st st':St}(h:AgR rs L st st')(hL: ∀j r,rs[j]? = some (some r)->(L' j↔L j)):AgR rs L' st st' where
 slot t:=by
  rcases h.slot t with⟨j,p,hj,hp,hLj,hg⟩|⟨hno,hg⟩
  ·exact .inl ⟨j,p,hj,hp,(hL j p hj).2 hLj,hg⟩
  ·exact .inr ⟨fun j p hj hp hLj=>hno j p hj hp ((hL j p hj).1 hLj),hg⟩
 obj k:=by
  rcases h.obj k with⟨j,p,o,hj,ho,hLj,hg⟩|⟨hno,hg⟩
  ·exact .inl ⟨j,p,o,hj,ho,(hL j p hj).2 hLj,hg⟩
  ·exact .inr ⟨fun j p hj hp hLj=>hno j p hj hp ((hL j p hj).1 hLj),hg⟩
theorem AgR.refl (rs:List (Option Rc))(st:St):AgR rs (fun _=>False) st st:=⟨fun _=> .inr ⟨fun _ _ _ _ h=>h,rfl⟩,fun _=> .inr ⟨fun _ _ _ _ h=>h,rfl⟩⟩
theorem AgR.text (rs:List (Option Rc))(st:St): ∀i,i<=rs.length->AgR rs (fun j=>j<i) st (st.adds (rs.take i)):=by
 intro i
 induction i with
 |zero=>intro _;exact(AgR.refl rs st).congr (fun j _ _=>by simp)
 |succ i ih=>
  intro hi
  have hlt:i<rs.length:=by omega
  have e:st.adds (rs.take (i+1))=(st.adds (rs.take i)).add1 rs[i]:=by
    rw[List.take_succ_eq_append_getElem hlt]
    simp only[St.adds,List.foldl_append,List.foldl_cons,List.foldl_nil]
  rw[e]
  have hri:rs[i]? = some rs[i]:=Yab hlt
  cases hr:rs[i]with
  |none=>
   refine(ih (by omega)).congr fun j r hj=>⟨fun h=> ?_,fun h=>by omega⟩
   rcases Nat.lt_or_ge j i with h'|h'
   ·exact h'
   ·have:j=i:=by omega
    subst this
    rw[hri,hr]at hj;cases hj
  |some r=>
   rw[hr]at hri
   exact(ih (by omega)).add hri (fun j=>by omega)
section
variable {P:Program}{C:Ctx}{S:Nat->Prop}{β:Nat->Option BI}{st st':St}{a:Act}{w w':World}{l:List Oper}{rest:List Oper}{o:Oper}
def ZEB (P:Program)(ops:Array Oper)(st:St)(o:Oper)(r:Rc):Prop:=
 (o.guard=none/\QS P st o r.d r.v r.ks r.objs)\/ ∃j want y dj,o.guard=some (j,want)/\(ops[j]?).bind (·.dst)=some dj/\dj<st.n/\GV (st.get dj) y/\((y=some want/\QS P st o r.d r.v r.ks r.objs)\/(y≠some want/\r.v= .con undef/\r.objs=[]))
structure Fit (l:List Oper)(F:List Nat)(st:St)(rs:List (Option Rc)):Prop where
 base: ∀k∈F,Fr k st
 inF: ∀(i:Nat) (r:Rc),rs[i]? = some (some r)-> ∀k∈r.ks,k∈F
 disj: ∀(i j:Nat) (r p:Rc) (k:Nat),rs[i]? = some (some r)->rs[j]? = some (some p)->k∈r.ks->k∈p.ks->i=j
 keys: ∀(i:Nat) (r:Rc) (k:Nat),rs[i]? = some (some r)->lk r.objs k≠none->k∈r.ks
 apart: ∀(i:Nat) (r:Rc) (k:Nat),rs[i]? = some (some r)->k∈F->k∉r.ks->(r.v.wipe k 4=r.v/\ ∀(k':Nat) (o:ZaK),lk r.objs k'=some o->o.wipe k=o)\/(∃(j:Nat) (p:Rc),rs[j]? = some (some p)/\k∈p.ks/\((Zgj l).getD i 0).testBit j=true)
theorem ZEC {Q:Exit->St->Prop}{k:Nat}(hc:ZGl l k){F:List Nat}{rs:List (Option Rc)}(hrs:rs.length=k)(hfit:Fit l F st rs)
 (hnone: ∀i,i<k->(FL l i↔rs[i]? = some none))
 (hres: ∀(i:Nat) (o:Oper) (r:Rc),l[i]? = some o->rs[i]? = some (some r)->o.dst=some r.d/\r.d<st.n/\ZEB P l.toArray ((st.adds (rs.take i)).wm st.mem) o r)
 (htail:AWL P l.toArray (l.drop k) Q (st.adds rs)): ∀(fuel:Nat) (L:Array Bool) (ls:List Nat) (st':St) (a:Act) (w:World),Ze9 l L ls->(∀j,LS L j->j<k)->(∀j,j<k->FL l j->LS L j)->fuel+ls.length=l.length->
  st'.n=st.n->st'.lent=st.lent->AgR rs (LS L) st st'->SRx C st' a w->wpAny P .any l.toArray (AQ C Q) fuel L a w:=by
 intro fuel
 have hkl:=hc.le
 have some_of: ∀i:Nat,i<k-> ¬FL l i-> ∃r:Rc,rs[i]? = some (some r):=fun i hi hn=>by
  have h1:rs[i]? = some rs[i]:=Yab (by omega)
  cases hr:rs[i]with
  |none=>exact absurd ((hnone i hi).2 (by rw[h1,hr])) hn
  |some r=>exact⟨r,by rw[h1,hr]⟩
 have lt_of: ∀{i:Nat} {r:Rc},rs[i]? = some (some r)->i<k:=fun{i r} h=>by
  have:=(Yak.1 h).1;omega
 have nf_of: ∀{i:Nat} {r:Rc},rs[i]? = some (some r)-> ¬FL l i:=fun{i r} h hf=>by
  have:=(hnone i (lt_of h)).1 hf
  rw[h]at this;cases this
 have same_d: ∀{i j:Nat} {r p:Rc},rs[i]? = some (some r)->rs[j]? = some (some p)->r.d=p.d->i=j:=fun{i j r p} hi hj e=>by
  have h1:=lt_of hi
  have h2:=lt_of hj
  have e1:=(hres i l[i] r (Yab (by omega)) hi).1
  have e2:=(hres j l[j] p (Yab (by omega)) hj).1
  exact hc.dist i j l[i] l[j] r.d h1 h2 (nf_of hi) (nf_of hj) (Yab (by omega)) (Yab (by omega)) e1 (by rw[e2,e])
 have agree: ∀{A B:Nat->Prop} {s1 s2:St},AgR rs A st s1->AgR rs B st s2->(∀(j:Nat) (r:Rc),rs[j]? = some (some r)->(A j↔B j))->(∀t,s1.get t=s2.get t)/\ ∀k,s1.obj k=s2.obj k:=by
  intro A B s1 s2 h1 h2 hAB
  have h2:=h2.congr hAB
  refine⟨fun t=> ?_,fun k=> ?_⟩
  ·rcases h1.slot t with⟨i,r,hi,hr,hA,hg⟩|⟨hno,hg⟩
   ·rcases h2.slot t with⟨j,p,hj,hp,hA',hg'⟩|⟨hno',hg'⟩
    ·have:=same_d hi hj (hr.trans hp.symm);subst this
     rw[hi]at hj;cases hj
     rw[hg,hg']
    ·exact absurd hA (hno' i r hi hr)
   ·rcases h2.slot t with⟨j,p,hj,hp,hA',hg'⟩|⟨hno',hg'⟩
    ·exact absurd hA' (hno j p hj hp)
    ·rw[hg,hg']
  ·rcases h1.obj k with⟨i,r,o,hi,hr,hA,hg⟩|⟨hno,hg⟩
   ·rcases h2.obj k with⟨j,p,o',hj,hp,hA',hg'⟩|⟨hno',hg'⟩
    ·have:=hfit.disj i j r p k hi hj (hfit.keys i r k hi (by rw[hr];simp)) (hfit.keys j p k hj (by rw[hp];simp));subst this
     rw[hi]at hj;cases hj
     rw[hr]at hp;cases hp
     rw[hg,hg']
    ·exact absurd hA (hno' i r hi (by rw[hr];simp))
   ·rcases h2.obj k with⟨j,p,o',hj,hp,hA',hg'⟩|⟨hno',hg'⟩
    ·exact absurd hA' (hno j p hj (by rw[hp];simp))
    ·rw[hg,hg']
 have tailC: ∀(fuel m:Nat) (L:Array Bool) (ls:List Nat) (a:Act) (w:World) {Q:Exit->Act->World->Prop},Ze9 l L ls->k<=m->m<=l.length->(∀j,LS L j↔j<m)->l.length<=fuel+m->
  wpList P l.toArray Q (l.drop m) a w->wpAny P .any l.toArray Q fuel L a w:=by
  intro fuel
  have next: ∀(m:Nat) (L:Array Bool) (ls:List Nat),Ze9 l L ls->k<=m->(∀j,LS L j↔j<m)-> ∀i,i∈Region.ready .any l.toArray L↔i=m/\m<l.length:=by
   intro m L ls hl hk hL i
   rw[Zcc hl]
   constructor
   ·rintro⟨h1,o,ho,h2⟩
    have hlt:i<l.length:=(Yak.1 ho).1
    rw[hL]at h1
    have:i=m:=by
     by_cases hne:i=m
     ·exact hne
     ·have hmi:m<i:=by omega
      rcases hc.tail i m (by omega) hlt hmi with ht|ht
      ·have:=ZbD (L:=LS L) hl.closed i o m ho h2 ht
       rw[hL]at this
       omega
      ·have:=(Zd3.1 ht).1
       omega
    exact⟨this,by omega⟩
   ·rintro⟨rfl,hlt⟩
    refine⟨by rw[hL];omega,l[i],Yab hlt,fun j hd=> ?_⟩
    rw[hL]
    exact hc.topo i _ j (Yab hlt) hd
  induction fuel with
  |zero=>
   intro m L ls a w Q hl hk hm hL hf hw
   have hml:m=l.length:=by omega
   rw[hml,List.drop_length]at hw
   refine⟨?_,hw⟩
   cases hr:Region.ready .any l.toArray L with
   |nil=>rfl
   |cons x xs=>have:=(next m L ls hl hk hL x).1 (by rw[hr];simp);omega
  |succ fuel ih=>
   intro m L ls a w Q hl hk hm hL hf hw
   refine⟨fun hr=> ?_,fun i hi=> ?_⟩
   ·have: ¬m<l.length:=fun hlt=>by
      have:=(next m L ls hl hk hL m).2 ⟨rfl,hlt⟩
      rw[hr]at this;cases this
    have hml:m=l.length:=by omega
    rw[hml,List.drop_length]at hw
    exact hw
   ·obtain⟨rfl,hlt⟩:=(next m L ls hl hk hL i).1 hi
    have hst:=hl.step hi
    have hs:i<L.size:=by rw[hl.size];exact hlt
    have hK: ∀a w,wpList P l.toArray Q (l.drop (i+1)) a w->wpAny P .any l.toArray Q fuel (L.setIfInBounds i true) a w:=fun a w hw=>
      ih (i+1) _ _ a w hst (by omega) hlt (fun j=>by rw[Zf5 hs,hL];omega) (by omega) hw
    rw[List.drop_eq_getElem_cons hlt]at hw
    refine wpOp_mono hK ?_
    unfold wpOp
    have e:l.toArray[i]? = some l[i]:=by simp[hlt]
    rw[e]
    exact hw
 have full: ∀(fuel:Nat) (L:Array Bool) (ls:List Nat) (st':St) (a:Act) (w:World),Ze9 l L ls->(∀j,LS L j↔j<k)->l.length<=fuel+k->
  st'.n=st.n->st'.lent=st.lent->AgR rs (LS L) st st'->SRx C st' a w->wpAny P .any l.toArray (AQ C Q) fuel L a w:=by
  intro fuel L ls st' a w hl hL hf hn hlt hag hs
  refine tailC fuel k L ls a w hl (Nat.le_refl _) hkl hL hf ?_
  have hag2:=AgR.text rs st k (by omega)
  rw[Yad (by omega)]at hag2
  obtain⟨g1,g2⟩:=agree hag2 hag (fun j r _=>(hL j).symm)
  exact htail C a w (hs.ext2 (by rw[hn];exact(Zi6 rs st).1) g2 (by rw[hlt];exact(Zi6 rs st).2) g1)
 have left: ∀(L:Array Bool) (ls:List Nat),Ze9 l L ls->(∀j,LS L j->j<k)->(∀j,LS L j↔j<k)\/ ∃i,i<k/\i∈Region.ready .any l.toArray L:=by
  intro L ls hl hL
  by_cases h: ∃i,i<k/\ ¬LS L i
  ·obtain⟨i,⟨hik,hni⟩,hmin⟩:=ZsG (fun i=>i<k/\ ¬LS L i) h
   refine .inr ⟨i,hik,(Zcc hl).2 ⟨hni,l[i],Yab (by omega),fun j hd=> ?_⟩⟩
   have hji:=hc.topo i _ j (Yab (by omega)) hd
   by_cases hLj:LS L j
   ·exact hLj
   ·have:=hmin j ⟨by omega,hLj⟩;omega
  ·refine .inl fun j=>⟨hL j,fun hj=> ?_⟩
   by_cases hLj:LS L j
   ·exact hLj
   ·exact absurd ⟨j,hj,hLj⟩ h
 induction fuel with
 |zero=>
  intro L ls st' a w hl hL hF hf hn hlt hag hs
  rcases left L ls hl hL with h|⟨i,hik,hi⟩
  ·have:=ZdB k ls hl.nodup (fun j hj=>hL j ((hl.mem j).1 hj))
   exact full 0 L ls st' a w hl h (by omega) hn hlt hag hs
  ·have hst:=hl.step hi
   have:=ZdB l.length (i::ls) hst.nodup hst.lt
   simp only[Yag]at this
   omega
 |succ fuel ih=>
  intro L ls st' a w hl hL hF hf hn hlt hag hs
  rcases left L ls hl hL with h|⟨i0,hik0,hi0⟩
  ·have:=ZdB k ls hl.nodup (fun j hj=>hL j ((hl.mem j).1 hj))
   exact full (fuel+1) L ls st' a w hl h (by omega) hn hlt hag hs
  ·refine⟨fun hr=>(by rw[hr]at hi0;cases hi0),fun i hi=> ?_⟩
   obtain⟨hni,o,ho,hdir⟩:=(Zcc hl).1 hi
   have hlen:i<l.length:=(Yak.1 ho).1
   have hik:i<k:=by
     by_cases hlt':i<k
     ·exact hlt'
     ·have h0:=((Zcc hl).1 hi0).1
      rcases hc.tail i i0 (by omega) hlen (by omega)with ht|ht
      ·exact absurd (ZbD (L:=LS L) hl.closed i o i0 ho hdir ht) h0
      ·exact absurd (hF i0 hik0 (Zd3.1 ht).2) h0
   have hnf: ¬FL l i:=fun hf=>hni (hF i hik hf)
   obtain⟨r,hp⟩:=some_of i hik hnf
   obtain⟨hd,hdn,hr⟩:=hres i o r ho hp
   have hst:=hl.step hi
   have hsz:i<L.size:=by rw[hl.size];exact hlen
   have hag2:=AgR.text rs st i (by omega)
   have hsame:=Zi6 (rs.take i) st
   have hwmget: ∀t,((st.adds (rs.take i)).wm st.mem).get t=(st.adds (rs.take i)).get t:=fun _=>rfl
   have hlook: ∀t,t∈o.looksAt l.toArray->st'.get t=(st.adds (rs.take i)).get t:=by
     intro t ht
     have key: ∀(j:Nat) (p:Rc),rs[j]? = some (some p)->p.d=t->((Zgj l).getD i 0).testBit j=true:=fun j p hj hpt=>by
      have hjk:=lt_of hj
      have e1:=(hres j l[j] p (Yab (by omega)) hj).1
      exact hc.reads i j o l[j] t hik hjk hnf (nf_of hj) ho (Yab (by omega)) (by rw[e1,hpt]) ht
     rcases hag.slot t with⟨j,p,hj,hpt,hLj,hg⟩|⟨hno,hg⟩
     ·rcases hag2.slot t with⟨j',q,hj',hq,hLj',hg2⟩|⟨hno2,hg2⟩
      ·have:=same_d hj hj' (hpt.trans hq.symm);subst this
       rw[hj]at hj';cases hj'
       rw[hg2,hg]
      ·have hji:j<i:=ZbD (ops:=l) (L:=fun j=>j<i) (fun i' o' ho' hL' j' hd'=>Nat.lt_trans (hc.topo i' o' j' ho' hd') hL') i o j ho (fun j' hd'=>hc.topo i o j' ho hd') (key j p hj hpt)
       exact absurd hji (hno2 j p hj hpt)
     ·rcases hag2.slot t with⟨j',q,hj',hq,hLj',hg2⟩|⟨hno2,hg2⟩
      ·exact absurd (ZbD (L:=LS L) hl.closed i o j' ho hdir (key j' q hj' hq)) (hno j' q hj' hq)
      ·rw[hg2,hg]
   have hops: ∀x∈o.op.operands,st'.ev x=((st.adds (rs.take i)).wm st.mem).ev x:=fun x hx=>ZpQ fun t ht=>hlook t (by
     unfold Oper.looksAt
     refine List.mem_append_left _ (List.mem_filterMap.2 ⟨x,by simpa using hx,by rw[ht]⟩))
   have hmem: ∀k' o',((st.adds (rs.take i)).wm st.mem).obj k'=some o'->st'.obj k'=some o':=fun k' o' hk'=>by
     have hk':st.obj k'=some o':=hk'
     rcases hag.obj k' with⟨j,p,o2,hj,hp2,_,_⟩|⟨_,hg⟩
     ·have hkk:=hfit.keys j p k' hj (by rw[hp2];simp)
      have:=(hfit.base k' (hfit.inF j p hj k' hkk)).obj
      rw[hk']at this;cases this
     ·rw[hg];exact hk'
   have hfresh: ∀k'∈r.ks,Fr k' st':=fun k' hk'=>by
     have hb:=hfit.base k' (hfit.inF i r hp k' hk')
     have other: ∀(j:Nat) (p:Rc),rs[j]? = some (some p)->LS L j->(p.v.wipe k' 4=p.v/\ ∀(k2:Nat) (o2:ZaK),lk p.objs k2=some o2->o2.wipe k'=o2)/\k'∉p.ks:=fun j p hj hLj=>by
      have hne:k'∉p.ks:=fun hin=>by
       have:=hfit.disj i j r p k' hp hj hk' hin;subst this
       exact hni hLj
      refine⟨?_,hne⟩
      rcases hfit.apart j p k' hj (hfit.inF i r hp k' hk') hne with h|⟨j2,p2,hj2,hin2,hb2⟩
      ·exact h
      ·have:=hfit.disj i j2 r p2 k' hp hj2 hk' hin2;subst this
       have hjl:j<l.length:=by have:=lt_of hj;omega
       exact absurd (ZbD (L:=LS L) hl.closed j l[j] i (Yab hjl) (fun j' hd'=>hl.closed j l[j] (Yab hjl) hLj j' hd') hb2) hni
     refine⟨?_,fun t=> ?_,fun j2 o2 hj2=> ?_,by rw[hlt];exact hb.lent⟩
     ·rcases hag.obj k' with⟨j,p,o2,hj,hp2,hLj,_⟩|⟨_,hg⟩
      ·exact absurd (hfit.keys j p k' hj (by rw[hp2];simp)) (other j p hj hLj).2
      ·rw[hg];exact hb.obj
     ·rcases hag.slot t with⟨j,p,hj,_,hLj,hg⟩|⟨_,hg⟩
      ·rw[hg];exact(other j p hj hLj).1.1
      ·rw[hg];exact hb.slot t
     ·rcases hag.obj j2 with⟨j,p,o3,hj,hp2,hLj,hg⟩|⟨_,hg⟩
      ·rw[hg]at hj2;cases hj2;exact(other j p hj hLj).1.2 j2 _ hp2
      ·rw[hg]at hj2;exact hb.objs j2 o2 hj2
   have hag':AgR rs (LS (L.setIfInBounds i true)) st (st'.add r.d r.v r.objs):=hag.add hp (fun j=>Zf5 hsz)
   have hnext: ∀a' w',SRx C (st'.add r.d r.v r.objs) a' w'->wpAny P .any l.toArray (AQ C Q) fuel (L.setIfInBounds i true) a' w':=fun a' w' hs'=>
     ih (L.setIfInBounds i true) (i::ls) (st'.add r.d r.v r.objs) a' w' hst (fun j hj=>by
      rcases(Zf5 hsz).1 hj with rfl|hj
      ·exact hik
      ·exact hL j hj) (fun j hj hfj=>(Zf5 hsz).2 (.inr (hF j hj hfj))) (by simp only[Yag];omega) hn hlt hag' hs'
   unfold wpOp
   have e:l.toArray[i]? = some o:=by simpa using ho
   rw[e]
   simp only
   have hwn:((st.adds (rs.take i)).wm st.mem).n=st.n:=hsame.1
   have hwl:((st.adds (rs.take i)).wm st.mem).lent=st.lent:=hsame.2
   rcases hr with⟨hg,hq⟩|⟨j,want,t,dj,hg,hdj,hdjn,hgt,hcase⟩
   ·rw[if_pos (by simp[Region.wanted,hg])]
    exact .inl (hq st' (by rw[hn,hwn]) (by rw[hlt,hwl]) hmem hops hfresh C a w _ _ hd (by rw[hwn];exact hdn) hs hnext)
   ·have hgt':GV (st'.get dj) t:=by
      rw[hlook dj (by
       unfold Oper.looksAt
       refine List.mem_append_right _ ?_
       rw[hg]
       show dj∈Option.toList ((l.toArray[j]?).bind (·.dst))
       rw[hdj]
       simp)];exact hgt
    obtain⟨S,β,hs1⟩:=hs
    have hy:=Zhq (ops:=l.toArray) hdj (by rw[hn,<- hwn];exact hdjn) hgt' hs1
    rcases hcase with⟨htw,hq⟩|⟨htw,hv,ho0⟩
    ·rw[if_pos (by simp[Region.wanted,hg,hy,htw])]
     exact .inl (hq st' (by rw[hn,hwn]) (by rw[hlt,hwl]) hmem hops hfresh C a w _ _ hd (by rw[hwn];exact hdn) ⟨S,β,hs1⟩ hnext)
    ·rw[if_neg (by simp[Region.wanted,hg,hy,htw])]
     refine hnext _ _ ?_
     rw[hd,hv,ho0]
     exact⟨S,β,hs1.put (by rw[hn];exact hdn) (.flat (.con _))⟩
end
end Go.Abs
namespace Go.Abs
open Go Go.RowKit
def St.wipe1 (st:St)(k:Nat):St:={ st with slots:=st.slots.map fun p=>(p.1,p.2.wipe k 4),mem:=rm (st.mem.map fun p=>(p.1,p.2.wipe k)) k }
def St.wipeL (st:St):List Nat->St
 |[]=>st
 |k::ks=>(st.wipe1 k).wipeL ks
section
variable {P:Program}{C:Ctx}{S:Nat->Prop}{β:Nat->Option BI}{st st':St}{a:Act}{w w':World}{l:List Oper}{rest:List Oper}{o:Oper}{Q:Exit->St->Prop}
theorem ZmU {j k:Nat}: ∀(d:Nat) (v:V),v.wipe k d=v->(v.wipe j d).wipe k d=v.wipe j d:=by
 intro d
 induction d with
 |zero=>intro v _;rfl
 |succ d ih=>
  intro v h
  have lst: ∀cs:List V,cs.map (V.wipe k d)=cs->(cs.map (V.wipe j d)).map (V.wipe k d)=cs.map (V.wipe j d):=by
    intro cs
    induction cs with
    |nil=>intro _;rfl
    |cons x cs ih2=>
     intro h
     simp only[List.map_cons,List.cons.injEq]at h ⊢
     exact⟨ih x h.1,ih2 h.2⟩
  cases v with
  |ref k' o n s=>
   rw[ZgI j d k' o n s]
   cases hk:k'==j with
   |true=>rfl
   |false=>exact h
  |ptr k' o=>
   rw[ZgJ j d k' o]
   cases hk:k'==j with
   |true=>rfl
   |false=>exact h
  |agg cs=>rw[Zeo]at h;rw[Zeo j,Zeo,lst cs (V.agg.inj h)]
  |tup cs=>rw[Zep]at h;rw[Zep j,Zep,lst cs (V.tup.inj h)]
  |fn f cs=>rw[Zgi]at h;rw[Zgi j,Zgi,lst cs (V.fn.inj h).2]
  |_=>rfl
theorem ZmV {k:Nat}: ∀(d:Nat) (v:V),(v.wipe k d).wipe k d=v.wipe k d:=by
 intro d
 induction d with
 |zero=>intro v;rfl
 |succ d ih=>
  intro v
  have lst: ∀cs:List V,(cs.map (V.wipe k d)).map (V.wipe k d)=cs.map (V.wipe k d):=by
    intro cs
    rw[List.map_map]
    exact List.map_congr_left fun x _=>ih x
  cases v with
  |ref k' o n s=>
   rw[ZgI k d k' o n s]
   cases hk:k'==k with
   |true=>rfl
   |false=>rw[cond_false,ZgI,hk];rfl
  |ptr k' o=>
   rw[ZgJ k d k' o]
   cases hk:k'==k with
   |true=>rfl
   |false=>rw[cond_false,ZgJ,hk];rfl
  |agg cs=>rw[Zeo,Zeo,lst]
  |tup cs=>rw[Zep,Zep,lst]
  |fn f cs=>rw[Zgi,Zgi,lst]
  |_=>rfl
theorem Zrr {j k:Nat}{ob:ZaK}(h:ob.wipe k=ob):(ob.wipe j).wipe k=ob.wipe j:=by
 obtain⟨fl,cs⟩:=ob
 cases fl with
 |true=>rfl
 |false=>
  simp only[ZaK.wipe,cond_false,ZaK.mk.injEq,true_and]at h ⊢
  have: ∀cs:List V,cs.map (V.wipe k 3)=cs->(cs.map (V.wipe j 3)).map (V.wipe k 3)=cs.map (V.wipe j 3):=by
    intro cs
    induction cs with
    |nil=>intro _;rfl
    |cons x cs ih=>
     intro h
     simp only[List.map_cons,List.cons.injEq]at h ⊢
     exact⟨ZmU 3 x h.1,ih h.2⟩
  exact this cs h
theorem Zrs {k:Nat}{ob:ZaK}:(ob.wipe k).wipe k=ob.wipe k:=by
 obtain⟨fl,cs⟩:=ob
 cases fl with
 |true=>rfl
 |false=>
  simp only[ZaK.wipe,cond_false,List.map_map]
  congr 1
  exact List.map_congr_left fun x _=>ZmV 3 x
theorem Zi7 (st:St)(k t:Nat):(st.wipe1 k).get t=(st.get t).wipe k 4:=by
 unfold St.get St.wipe1
 simp only[Ze5]
 cases lk st.slots t with
 |none=>exact Zi4.symm
 |some v=>rfl
theorem Zfc (st:St)(k j:Nat):(st.wipe1 k).obj j=if j=k then none else(st.obj j).map (ZaK.wipe k):=by
 unfold St.obj St.wipe1
 simp only[ZnS,Ze5]
theorem SRx.wipe1 (h:SRx C st a w){k:Nat}(hk:ZcX st.lent k=false):SRx C (st.wipe1 k) a w:=by
 obtain⟨S,β,h⟩:=h
 refine⟨S,upd β k none,(h.empty k).forget rfl ?_ (fun i=> .inl ?_) (fun j ob hj=> ?_)⟩
 ·show st.lent=ZcO k st.lent
  rw[ZkQ hk]
 ·rw[Zi7,St.get_repl]
  unfold St.get
  cases lk st.slots i with
  |none=>exact Zi4
  |some v=>rfl
 ·rw[Zfc]at hj
  rw[St.obj_repl]
  split at hj
  ·cases hj
  ·rename_i hne;rw[if_neg hne];exact hj
theorem SRx.wipeL: ∀(F:List Nat) {st:St},SRx C st a w->(F.all fun k=> !ZcX st.lent k)=true->SRx C (st.wipeL F) a w
 |[],_,h,_=>h
 |k::F,st,h,hF=>by
  simp only[List.all_cons,Yao,Bool.not_eq_true']at hF
  exact SRx.wipeL F (h.wipe1 hF.1) hF.2
theorem Fr.wipe1 {k j:Nat}(h:Fr k st):Fr k (st.wipe1 j) where
 obj:=by rw[Zfc,h.obj];split<;>rfl
 slot t:=by rw[Zi7];exact ZmU 4 _ (h.slot t)
 objs i ob hi:=by
  rw[Zfc]at hi
  split at hi
  ·cases hi
  ·obtain⟨ob2,h2,rfl⟩:=Yaj.1 hi
   exact Zrr (h.objs i ob2 h2)
 lent:=h.lent
theorem Fr.new {k:Nat}(hk:ZcX st.lent k=false):Fr k (st.wipe1 k) where
 obj:=by rw[Zfc,if_pos rfl]
 slot t:=by rw[Zi7];exact ZmV 4 _
 objs i ob hi:=by
  rw[Zfc]at hi
  split at hi
  ·cases hi
  ·obtain⟨ob2,h2,rfl⟩:=Yaj.1 hi
   exact Zrs
 lent:=hk
theorem Fr.wipeL {k:Nat}: ∀(F:List Nat) {st:St},Fr k st->Fr k (st.wipeL F)
 |[],_,h=>h
 |j::F,_,h=>Fr.wipeL F h.wipe1
theorem Fr.all: ∀(F:List Nat) {st:St},(F.all fun k=> !ZcX st.lent k)=true-> ∀k∈F,Fr k (st.wipeL F)
 |[],_,_,k,h=>by cases h
 |j::F,st,hF,k,h=>by
  simp only[List.all_cons,Yao,Bool.not_eq_true']at hF
  rcases Yav.1 h with rfl|h
  ·exact Fr.wipeL F (Fr.new hF.1)
  ·exact Fr.all F (st:=st.wipe1 j) hF.2 k h
theorem SR.unput {d:Nat}{v:Value}(h:SR C S β st (a.put (some d) v) w):SR C S β (st.put d .any) a w where
 tsize:=by have:=h.tsize;simp only[Act.put,Array.size_setIfInBounds]at this;exact this
 slots i:=by
  rw[St.get_put]
  split
  ·exact .any _
  ·rename_i hne
   have:=h.slots i
   have e:(a.put (some d) v).tmps.getD i undef=a.tmps.getD i undef:=by
    simp only[Act.put,Yan,Array.getElem?_setIfInBounds]
    rw[if_neg (fun e=>hne e.symm)]
   rw[e]at this;exact this
 defers:=h.defers
 objs:=h.objs
 inj:=h.inj
 own:=h.own
 pins:=h.pins
 sub:=h.sub
 snew:=h.snew
 slt:=h.slt
 frame:=h.frame
def flP (l:List Oper):List Nat->St->St
 |[],st=>st
 |i::is,st=>match l[i]? with
  |some o=>(match o.dst,o.op with
   |some d,.move x=>flP l is (st.put d (st.ev x))
   |_,_=>st)
  |none=>st
def ZED (l:List Oper):List Nat->St->Prop
 |[],_=>True
 |i::is,st=> ∃o d x,l[i]? = some o/\o.dst=some d/\o.op= .move x/\o.guard=none/\d<st.n/\ZED l is (st.put d (st.ev x))
def ZcQ (Q:Exit->St->Prop):Prop:= ∀c st d,Q (.panic c) st->Q (.panic c) (st.put d .any)
theorem Ztu (hsel:Region.noSelect l.toArray=true)(hpan:ZcQ Q): ∀(is:List Nat) (fuel:Nat) (L:Array Bool) (ls:List Nat) (st:St),ZCb l L is=true->Ze9 l L ls->ZED l is st->
 (∀L' ls',Ze9 l L' ls'->(∀j,LS L' j↔LS L j\/j∈is)->ls'.length=ls.length+is.length-> ∀a w,SRx C (flP l is st) a w->wpAny P .any l.toArray (AQ C Q) fuel L' a w)->
 ∀a w,SRx C st a w->wpAny P .any l.toArray (AQ C Q) (fuel+is.length) L a w:=by
 intro is
 induction is with
 |nil=>
  intro fuel L ls st _ hl _ h a w hs
  exact h L ls hl (fun j=>by simp) rfl a w hs
 |cons i is ih=>
  intro fuel L ls st hc hl hok h a w hs
  obtain⟨o,d,x,ho,hd,hop,hg,hdn,hok⟩:=hok
  simp only[ZCb,Yao]at hc
  obtain⟨⟨hf,hr⟩,hc⟩:=hc
  have hi:i∈Region.ready .any l.toArray L:=by simpa using hr
  have hst:=hl.step hi
  have hsz:i<L.size:=by rw[hl.size];exact(Yak.1 ho).1
  have hflp:flP l (i::is) st=flP l is (st.put d (st.ev x)):=by simp only[flP,ho,hd,hop]
  have hoi:l.toArray[i]? = some o:=by simpa using ho
  show wpAny P .any l.toArray (AQ C Q) ((fuel+is.length)+1) L a w
  refine wpAny_take (v:=a.eval x) hoi hsel hf hr ?_ ?_ ?_
  ·rintro c a w ⟨s,hq,S,β,hs⟩
   rw[hd]at hs
   exact⟨_,hpan c s d hq,S,β,hs.unput⟩
  ·refine .inl ⟨by simp[Region.wanted,hg],fun w=> ?_⟩
   unfold execOp;simp[hop]
  ·refine ih fuel _ (i::ls) (st.put d (st.ev x)) hc hst hok (fun L' ls' h1 h2 h3 a' w' hs'=> ?_) _ _ ?_
   ·refine h L' ls' h1 (fun j=> ?_) (by rw[h3];simp only[Yag];omega) a' w' (by rw[hflp];exact hs')
    rw[h2,Zf5 hsz,Yav]
    constructor
    ·rintro((h|h)|h)
     ·exact .inr (.inl h)
     ·exact .inl h
     ·exact .inr (.inr h)
    ·rintro(h|h|h)
     ·exact .inl (.inr h)
     ·exact .inl (.inl h)
     ·exact .inr h
   ·obtain⟨S,β,hs⟩:=hs
    rw[hd]
    exact⟨S,β,hs.put hdn (Zag hs x)⟩
def ZwC (ms:List Nat)(F:List Nat)(U:List (Nat×Nat))(i:Nat)(r:Rc):Prop:=
 (∀k∈r.ks,k∈F/\ ∀j,(k,j)∉U)/\(∀k,lk r.objs k≠none->k∈r.ks)/\
 ∀k∈F,k∉r.ks->(r.v.wipe k 4=r.v/\ ∀k' ob,lk r.objs k'=some ob->ob.wipe k=ob)\/ ∃j,(k,j)∈U/\(ms.getD i 0).testBit j=true
def CW (b:Bool)(nq:List Nat)(P:Program)(ops:Array Oper)(Q:Exit->St->Prop)(ms F:List Nat)(M:List (Nat×ZaK)):List Oper->Nat->List (Nat×Nat)->St->Prop
 |[],_,_,st=>AWL P ops [] Q st
 |o::rest,i,U,st=>if Zcd b nq o=true then(if ZaZ o=true then CW b nq P ops Q ms F M rest (i+1) U st
   else ∃r:Rc,o.dst=some r.d/\r.d<st.n/\ZEB P ops (st.wm M) o r/\ZwC ms F U i r/\CW b nq P ops Q ms F M rest (i+1) (r.ks.map (fun k=>(k,i))++U) (st.add r.d r.v r.objs))else AWL P ops (o::rest) Q st
def FW (b:Bool)(nq:List Nat)(P:Program)(ops:Array Oper)(Q:Exit->St->Prop)(ms F:List Nat)(all:List Oper):List Oper->St->Prop
 |[],st=>CW b nq P ops Q ms F st.mem all 0 [] st
 |o::rest,st=>if Zcd b nq o=true then(if ZaZ o=true then ∃d x,o.dst=some d/\o.op= .move x/\d<st.n/\FW b nq P ops Q ms F all rest (st.put d (st.ev x))else FW b nq P ops Q ms F all rest st)
   else CW b nq P ops Q ms F st.mem all 0 [] st
theorem Zoa (h:ZaZ o=true):o.guard=none:=by
 unfold ZaZ at h
 split at h
 ·simp only[Yao,Option.isNone_iff_eq_none]at h;exact h.1.2
 ·cases h
theorem FW.out {b:Bool}{nq ms F:List Nat}{all:List Oper}{ops:Array Oper}: ∀(rest:List Oper) (i:Nat) (st:St),(∀j o,rest[j]? = some o->l[i+j]? = some o)->FW b nq P ops Q ms F all rest st->
 ZED l (fl1 (rest.take (rest.takeWhile (Zcd b nq)).length) i) st/\CW b nq P ops Q ms F st.mem all 0 [] (flP l (fl1 (rest.take (rest.takeWhile (Zcd b nq)).length) i) st)
 |[],i,st,_,h=>⟨trivial,h⟩
 |o::rest,i,st,hl,h=>by
  have ho:l[i]? = some o:=by have:=hl 0 o rfl;simpa using this
  have hl': ∀j o,rest[j]? = some o->l[i+1+j]? = some o:=fun j o hj=>by have:=hl (j+1) o (by simpa using hj);rwa [show i+1+j=i+(j+1)from by omega]
  unfold FW at h
  by_cases hcm:Zcd b nq o=true
  ·rw[if_pos hcm]at h
   rw[List.takeWhile_cons_of_pos hcm,Yag,List.take_succ_cons,fl1]
   by_cases hf:ZaZ o=true
   ·rw[if_pos hf]at h
    rw[if_pos hf]
    obtain⟨d,x,hd,hop,hdn,h⟩:=h
    obtain⟨h1,h2⟩:=FW.out rest (i+1) _ hl' h
    refine⟨⟨o,d,x,ho,hd,hop,Zoa hf,hdn,h1⟩,?_⟩
    simp only[flP,ho,hd,hop]
    exact h2
   ·rw[if_neg hf]at h
    rw[if_neg hf]
    exact FW.out rest (i+1) st hl' h
  ·rw[if_neg hcm]at h
   rw[List.takeWhile_cons_of_neg hcm]
   exact⟨trivial,h⟩
theorem CW.out {b:Bool}{nq ms F:List Nat}{M:List (Nat×ZaK)}{ops:Array Oper}: ∀(rest:List Oper) (i:Nat) (U:List (Nat×Nat)) (st:St),CW b nq P ops Q ms F M rest i U st->
 ∃rs:List (Option Rc),rs.length=(rest.takeWhile (Zcd b nq)).length/\
  (∀j,j<rs.length->((∃o,rest[j]? = some o/\ZaZ o=true)↔rs[j]? = some none))/\
  (∀(j:Nat) (o:Oper) (r:Rc),rest[j]? = some o->rs[j]? = some (some r)->o.dst=some r.d/\r.d<st.n/\ZEB P ops ((st.adds (rs.take j)).wm M) o r)/\
  (∀(j:Nat) (r:Rc),rs[j]? = some (some r)-> ∀k∈r.ks,k∈F/\ ∀j',(k,j')∉U)/\
  (∀(j j':Nat) (r p:Rc) (k:Nat),rs[j]? = some (some r)->rs[j']? = some (some p)->k∈r.ks->k∈p.ks->j=j')/\
  (∀(j:Nat) (r:Rc) (k:Nat),rs[j]? = some (some r)->lk r.objs k≠none->k∈r.ks)/\
  (∀(j:Nat) (r:Rc) (k:Nat),rs[j]? = some (some r)->k∈F->k∉r.ks->(r.v.wipe k 4=r.v/\ ∀(k':Nat) (ob:ZaK),lk r.objs k'=some ob->ob.wipe k=ob)\/(∃j',(k,j')∈U/\(ms.getD (i+j) 0).testBit j'=true)\/
   ∃(j':Nat) (p:Rc),rs[j']? = some (some p)/\k∈p.ks/\(ms.getD (i+j) 0).testBit (i+j')=true)/\
  AWL P ops (rest.drop (rest.takeWhile (Zcd b nq)).length) Q (st.adds rs)
 |[],i,U,st,h=>⟨[],rfl,fun j hj=>(by simp at hj),fun j o r hj=>(by simp at hj),fun j r hj=>(by simp at hj),fun j j' r p k hj=>(by simp at hj),fun j r k hj=>(by simp at hj),fun j r k hj=>(by simp at hj),h⟩
 |o::rest,i,U,st,h=>by
  unfold CW at h
  by_cases hcm:Zcd b nq o=true
  ·rw[if_pos hcm]at h
   by_cases hf:ZaZ o=true
   ·rw[if_pos hf]at h
    obtain⟨rs,h1,h2,h3,h4,h5,h6,h7,h8⟩:=CW.out rest (i+1) U st h
    refine⟨none::rs,by rw[List.takeWhile_cons_of_pos hcm];simp[h1],?_,?_,?_,?_,?_,?_,?_⟩
    ·intro j hj
     cases j with
     |zero=>exact⟨fun _=>rfl,fun _=>⟨o,rfl,hf⟩⟩
     |succ j=>simpa using h2 j (by simpa using hj)
    ·intro j o' r hj hr
     cases j with
     |zero=>simp at hr
     |succ j=>
      have:=h3 j o' r (by simpa using hj) (by simpa using hr)
      exact this
    ·intro j r hr
     cases j with
     |zero=>simp at hr
     |succ j=>exact h4 j r (by simpa using hr)
    ·intro j j' r p k hr hp
     cases j with
     |zero=>simp at hr
     |succ j=>cases j' with
      |zero=>simp at hp
      |succ j'=>intro a b;rw[h5 j j' r p k (by simpa using hr) (by simpa using hp) a b]
    ·intro j r k hr
     cases j with
     |zero=>simp at hr
     |succ j=>exact h6 j r k (by simpa using hr)
    ·intro j r k hr hk hn
     cases j with
     |zero=>simp at hr
     |succ j=>
      rcases h7 j r k (by simpa using hr) hk hn with g|⟨j',g1,g2⟩|⟨j',p,g1,g2,g3⟩
      ·exact .inl g
      ·exact .inr (.inl ⟨j',g1,by rwa [show i+(j+1)=i+1+j from by omega]⟩)
      ·exact .inr (.inr ⟨j'+1,p,by simpa using g1,g2,by rwa [show i+(j+1)=i+1+j from by omega,show i+(j'+1)=i+1+j' from by omega]⟩)
    ·rw[List.takeWhile_cons_of_pos hcm,Yag,List.drop_succ_cons];exact h8
   ·rw[if_neg hf]at h
    obtain⟨r0,g1,g2,g3,⟨g4,g5,g6⟩,h⟩:=h
    obtain⟨rs,h1,h2,h3,h4,h5,h6,h7,h8⟩:=CW.out rest (i+1) _ _ h
    have inU: ∀k∈r0.ks,(k,i)∈r0.ks.map (fun k=>(k,i))++U:=fun k hk=>List.mem_append_left _ (Ya3.2 ⟨k,hk,rfl⟩)
    refine⟨some r0::rs,by rw[List.takeWhile_cons_of_pos hcm];simp[h1],?_,?_,?_,?_,?_,?_,?_⟩
    ·intro j hj
     cases j with
     |zero=>exact⟨fun⟨o',ho',hf'⟩=>by simp at ho';subst ho';exact absurd hf' hf,fun h=>by simp at h⟩
     |succ j=>simpa using h2 j (by simpa using hj)
    ·intro j o' r hj hr
     cases j with
     |zero=>
      simp only[List.getElem?_cons_zero,Yac]at hj hr
      subst hj;subst hr
      exact⟨g1,g2,g3⟩
     |succ j=>
      have:=h3 j o' r (by simpa using hj) (by simpa using hr)
      exact this
    ·intro j r hr
     cases j with
     |zero=>
      simp only[List.getElem?_cons_zero,Yac]at hr
      subst hr;exact g4
     |succ j=>
      intro k hk
      have:=h4 j r (by simpa using hr) k hk
      exact⟨this.1,fun j' hj'=>this.2 j' (List.mem_append_right _ hj')⟩
    ·intro j j' r p k hr hp hk hk'
     cases j with
     |zero=>
      simp only[List.getElem?_cons_zero,Yac]at hr
      subst hr
      cases j' with
      |zero=>rfl
      |succ j'=>exact absurd (inU k hk) ((h4 j' p (by simpa using hp) k hk').2 i)
     |succ j=>cases j' with
      |zero=>
       simp only[List.getElem?_cons_zero,Yac]at hp
       subst hp
       exact absurd (inU k hk') ((h4 j r (by simpa using hr) k hk).2 i)
      |succ j'=>rw[h5 j j' r p k (by simpa using hr) (by simpa using hp) hk hk']
    ·intro j r k hr
     cases j with
     |zero=>
      simp only[List.getElem?_cons_zero,Yac]at hr
      subst hr;exact g5 k
     |succ j=>exact h6 j r k (by simpa using hr)
    ·intro j r k hr hk hn
     cases j with
     |zero=>
      simp only[List.getElem?_cons_zero,Yac]at hr
      subst hr
      rcases g6 k hk hn with g|⟨j',g1,g2⟩
      ·exact .inl g
      ·exact .inr (.inl ⟨j',g1,g2⟩)
     |succ j=>
      rcases h7 j r k (by simpa using hr) hk hn with g|⟨j',g1,g2⟩|⟨j',p,g1,g2,g3⟩
      ·exact .inl g
      ·rcases List.mem_append.1 g1 with g1|g1
       ·obtain⟨k2,hk2,e⟩:=Ya3.1 g1
        cases e
        exact .inr (.inr ⟨0,r0,rfl,hk2,by rwa [show i+(j+1)=i+1+j from by omega]⟩)
       ·exact .inr (.inl ⟨j',g1,by rwa [show i+(j+1)=i+1+j from by omega]⟩)
      ·exact .inr (.inr ⟨j'+1,p,by simpa using g1,g2,by rwa [show i+(j+1)=i+1+j from by omega,show i+(j'+1)=i+1+j' from by omega]⟩)
    ·rw[List.takeWhile_cons_of_pos hcm,Yag,List.drop_succ_cons];exact h8
  ·rw[if_neg hcm]at h
   rw[List.takeWhile_cons_of_neg hcm]
   exact⟨[],rfl,fun j hj=>(by simp at hj),fun j o r _ hj=>(by simp at hj),fun j r hj=>(by simp at hj),fun j j' r p k hj=>(by simp at hj),fun j r k hj=>(by simp at hj),fun j r k hj=>(by simp at hj),h⟩
theorem ZpZ (l:List Oper): ∀(is:List Nat) (st:St),(flP l is st).n=st.n/\(flP l is st).mem=st.mem/\(flP l is st).lent=st.lent
 |[],_=>⟨rfl,rfl,rfl⟩
 |i::is,st=>by
  unfold flP
  split
  ·split
   ·exact ZpZ l is _
   ·exact⟨rfl,rfl,rfl⟩
  ·exact⟨rfl,rfl,rfl⟩
theorem Fr.put {k d:Nat}{v:V}(h:Fr k st)(hv:v.wipe k 4=v):Fr k (st.put d v) where
 obj:=h.obj
 slot t:=by rw[St.get_put];split;exact hv;exact h.slot t
 objs:=h.objs
 lent:=h.lent
theorem Fr.ev {k:Nat}(h:Fr k st)(x:Operand):(st.ev x).wipe k 4=st.ev x:=by
 cases x with
 |tmp t=>exact h.slot t
 |const v=>
  show(Zbu v).wipe k 4=Zbu v
  unfold Zbu
  split<;>rfl
 |global g=>show(gV g).wipe k 4=gV g;unfold gV;split<;>rfl
 |func f=>rfl
theorem Fr.flP {k:Nat}: ∀(is:List Nat) (st:St),Fr k st->Fr k (flP l is st)
 |[],_,h=>h
 |i::is,st,h=>by
  unfold Go.Abs.flP
  split
  ·split
   ·exact Fr.flP is _ (h.put (h.ev _))
   ·exact h
  ·exact h
theorem AW.calm (b:Bool)(nq F:List Nat){id:Nat}(hm:P.follows .mixedOrders=true)(hpan:ZcQ Q)(hc:Zn9 l (l.takeWhile (Zcd b nq)).length=true)(hF:(F.all fun k=> !ZcX st.lent k)=true)
 (h:FW b nq P l.toArray Q (Zgj l) F l l (st.wipeL F)):AW P (.region id l.toArray true) Q st:=fun C a w hs=>by
 have hc:=Ztt hc
 have hs:=hs.wipeL F hF
 have hFr:=Fr.all F hF
 generalize st.wipeL F=s at h hs hFr
 obtain⟨hok,hcw⟩:=FW.out (l:=l) l 0 s (fun j o hj=>by simpa using hj) h
 obtain⟨rs,h1,h2,h3,h4,h5,h6,h7,h8⟩:=CW.out l 0 [] _ hcw
 have hfls:ZcP l (l.takeWhile (Zcd b nq)).length=fl1 (l.take (l.takeWhile (Zcd b nq)).length) 0:=rfl
 rw[<- hfls]at hok h3 h8 hcw
 generalize hk:(l.takeWhile (Zcd b nq)).length=k at *
 obtain⟨f1,f2,f3⟩:=ZpZ l (ZcP l k) s
 have hle:=hc.le
 have hnone0: ∀j,¬LS (Array.replicate l.length false) j:=fun j hL=>by
  unfold LS at hL
  simp only[Yan,Array.getElem?_replicate]at hL
  split at hL<;>cases hL
 have hfll:(ZcP l k).length<=l.length:=Nat.le_trans (Zts _ _) (by rw[Yar];omega)
 have hnone: ∀i,i<k->(FL l i↔rs[i]? = some none):=fun i hi=>h2 i (by omega)
 refine wp_region_any hm ?_
 have hsz:l.toArray.size=(l.length-(ZcP l k).length)+(ZcP l k).length:=by simp;omega
 rw[hsz]
 have hsz2:(l.length-(ZcP l k).length)+(ZcP l k).length=l.length:=by omega
 rw[hsz2]
 rw[<- hsz2]
 refine Ztu hc.nosel hpan (ZcP l k) _ _ [] s (by rw[hsz2];exact hc.fl) ?_ hok ?_ _ _ ?_
 ·rw[hsz2]
  refine⟨by simp,List.nodup_nil,fun j=> ?_,fun j hj=>(by cases hj),fun i o _ hL=>absurd hL (hnone0 _)⟩
  constructor
  ·intro h;cases h
  ·intro h;exact absurd h (hnone0 _)
 ·intro L' ls' hl' hL' hlen a' w' hs'
  rw[hsz2]at hL'
  have hL2: ∀j,LS L' j↔j∈ZcP l k:=fun j=>by
   rw[hL'];exact⟨fun h=>h.resolve_left (hnone0 j),.inr⟩
  refine ZEC (F:=F) hc (by rw[h1]) ⟨?_,?_,?_,?_,?_⟩ hnone ?_ h8 _ L' ls' _ a' w' hl' ?_ ?_ ?_ rfl rfl ?_ hs'
  ·exact fun k' hk'=>Fr.flP _ _ (hFr k' hk')
  ·exact fun i r hi k' hk'=>(h4 i r hi k' hk').1
  ·exact h5
  ·exact h6
  ·intro i r k' hi hk' hn
   rcases h7 i r k' hi hk' hn with g|⟨j',g1,_⟩|⟨j',p,g1,g2,g3⟩
   ·exact .inl g
   ·cases g1
   ·exact .inr ⟨j',p,g1,g2,by simpa using g3⟩
  ·intro i o r ho hr
   have:=h3 i o r ho hr
   rw[f2]
   exact this
  ·exact fun j hj=>(Zd3.1 ((hL2 j).1 hj)).1
  ·exact fun j hj hf=>(hL2 j).2 (Zd3.2 ⟨hj,hf⟩)
  ·rw[hlen];simp only[List.length_nil];omega
  ·refine(AgR.refl rs _).congr fun j r hj=>⟨fun hL=> ?_,fun h=>h.elim⟩
   have hjk:j<k:=by have:=(Yak.1 hj).1;omega
   have:=(hnone j hjk).1 (Zd3.1 ((hL2 j).1 hL)).2
   rw[hj]at this;cases this
 ·obtain⟨S,β,hs⟩:=hs
  exact hs.drawn _
end
end Go.Abs
namespace Go.Abs
open Go Go.RowKit
section
variable {P:Program}{C:Ctx}{st st':St}{l rest all:List Oper}{o:Oper}{Q:Exit->St->Prop}{ops:Array Oper}{b:Bool}{nq ms F:List Nat}{M:List (Nat×ZaK)}{U:List (Nat×Nat)}{i:Nat}
theorem Zs {K:St->Prop}(h:ZcQ Q):ZcQ (Zbd K Q):=fun c st d hq=>h c st d hq
theorem Zo {id:Nat}(h:ZcQ Q):ZcQ (blockQ id Q):=fun c st d hq=>h c st d hq
theorem Zh {rs:List ResultVar}{R:V->List (Nat×List V)->Prop}:ZcQ (Zf4 P rs R):=fun c st d hq=>by
 rcases hq.1 with h|h<;>cases h
theorem Zd {rs:List ResultVar}{keep:List Nat}{pn:Nat->Option BI}{R:V->Mem->Prop}:ZcQ (ZjX P rs keep pn R):=fun c st d hq=>by
 rcases hq.1 with h|h<;>cases h
theorem FW.nil (h:CW b nq P ops Q ms F st.mem all 0 [] st):FW b nq P ops Q ms F all [] st:=h
theorem FW.float {d:Nat}{x:Operand}(hq:Zcd b nq o=true)(hf:ZaZ o=true)(hd:o.dst=some d)(hop:o.op= .move x)(hdn:Nat.ble (d+1) st.n=true)(k:FW b nq P ops Q ms F all rest (st.put d (st.ev x))):FW b nq P ops Q ms F all (o::rest) st:=by
 unfold FW;rw[if_pos hq,if_pos hf]
 exact⟨d,x,hd,hop,Yaa hdn,k⟩
theorem FW.pass (hq:Zcd b nq o=true)(hf:ZaZ o=false)(k:FW b nq P ops Q ms F all rest st):FW b nq P ops Q ms F all (o::rest) st:=by
 unfold FW;rw[if_pos hq,if_neg (by rw[hf];simp)];exact k
theorem FW.go (hq:Zcd b nq o=false)(k:CW b nq P ops Q ms F st.mem all 0 [] st):FW b nq P ops Q ms F all (o::rest) st:=by
 unfold FW;rw[if_neg (by rw[hq];simp)];exact k
def Zrt (ms:List Nat)(U:List (Nat×Nat))(i:Nat)(ks:List Nat)(v:V):List Nat->Prop
 |[]=>True
 |k::F=>(ks.contains k=true\/v.wipe k 4=v\/(U.any fun p=>p.1==k&&(ms.getD i 0).testBit p.2)=true)/\Zrt ms U i ks v F
theorem Zrt.spec {ks:List Nat}{v:V}: ∀{F:List Nat},Zrt ms U i ks v F-> ∀k∈F,k∉ks->v.wipe k 4=v\/ ∃j,(k,j)∈U/\(ms.getD i 0).testBit j=true
 |[],_,k,h,_=>by cases h
 |k0::F,⟨h,hs⟩,k,hk,hn=>by
  rcases Yav.1 hk with rfl|hk
  ·rcases h with h|h|h
   ·exact absurd (by simpa using h) hn
   ·exact .inl h
   ·obtain⟨p,hp,hb⟩:=List.any_eq_true.1 h
    simp only[Yao,beq_iff_eq]at hb
    obtain⟨rfl,hb⟩:=hb
    exact .inr ⟨p.2,hp,hb⟩
  ·exact Zrt.spec hs k hk hn
def Ze1 (F:List Nat)(U:List (Nat×Nat))(ks:List Nat):Bool:=ks.all fun k=>F.contains k&&U.all fun p=>p.1 != k
theorem Zru {ks:List Nat}(h:Ze1 F U ks=true): ∀k∈ks,k∈F/\ ∀j,(k,j)∉U:=fun k hk=>by
 have:=Yat.1 h k hk
 simp only[Yao,Yat,bne_iff_ne,ne_eq]at this
 exact⟨by simpa using this.1,fun j hj=>this.2 _ hj rfl⟩
theorem ZwC.quiet {d:Nat}{v:V}(h:Zrt ms U i [] v F):ZwC ms F U i ⟨d,v,[],[]⟩:=
 ⟨fun k hk=>(by cases hk),fun k hk=>absurd rfl hk,fun k hk hn=>(h.spec k hk hn).imp (fun e=>⟨e,fun k' ob ho=>(by cases ho)⟩) id⟩
theorem Zob {d k:Nat}: ∀{m:List (Nat×List V)} {ob:ZaK},lk (ZaG d m) k=some ob->k∈Zbm d m/\ob.flat=true
 |[],ob,h=>by cases h
 |(k0,cs0)::m,ob,h=>by
  simp only[ZaG,lk]at h
  cases e:ZdA d k0==k with
  |true=>
   rw[e]at h
   simp only[cond_true,Yac]at h
   subst h
   exact⟨Yav.2 (.inl (beq_iff_eq.1 e).symm),rfl⟩
  |false=>
   rw[e]at h
   have:=Zob (m:=m) h
   exact⟨Yaq _ this.1,this.2⟩
theorem ZwC.call {d:Nat}{r:V}{m:List (Nat×List V)}(hn:Ze1 F U (Zbm d m)=true)(h:Zrt ms U i (Zbm d m) (Zae d 4 r) F):ZwC ms F U i ⟨d,Zae d 4 r,Zbm d m,ZaG d m⟩:=by
 refine⟨Zru hn,fun k hk=> ?_,fun k hk hn=>(h.spec k hk hn).imp (fun e=>⟨e,fun k' ob ho=> ?_⟩) id⟩
 ·cases e:lk (ZaG d m) k with
  |none=>exact absurd e hk
  |some ob=>exact(Zob e).1
 ·have:=(Zob ho).2
  simp[ZaK.wipe,this]
theorem CW.nil (h:Q .normal st):CW b nq P ops Q ms F M [] i U st:=AWL.nil h
theorem CW.tail (hq:Zcd b nq o=false)(h:AWL P ops (o::rest) Q st):CW b nq P ops Q ms F M (o::rest) i U st:=by
 unfold CW;rw[if_neg (by rw[hq];simp)];exact h
theorem CW.skip (hq:Zcd b nq o=true)(hf:ZaZ o=true)(k:CW b nq P ops Q ms F M rest (i+1) U st):CW b nq P ops Q ms F M (o::rest) i U st:=by
 unfold CW;rw[if_pos hq,if_pos hf];exact k
def CWr (b:Bool)(nq:List Nat)(P:Program)(ops:Array Oper)(Q:Exit->St->Prop)(ms F:List Nat)(M:List (Nat×ZaK))(o:Oper)(rest:List Oper)(i:Nat)(U:List (Nat×Nat))(st:St)(d:Nat):Prop:=
 ∃r:Rc,r.d=d/\QS P (st.wm M) o r.d r.v r.ks r.objs/\ZwC ms F U i r/\CW b nq P ops Q ms F M rest (i+1) (r.ks.map (fun k=>(k,i))++U) (st.add r.d r.v r.objs)
theorem CW.step {d:Nat}(hq:Zcd b nq o=true)(hf:ZaZ o=false)(hg:o.guard=none)(hd:o.dst=some d)(hdn:Nat.ble (d+1) st.n=true)(h:CWr b nq P ops Q ms F M o rest i U st d):CW b nq P ops Q ms F M (o::rest) i U st:=by
 unfold CW;rw[if_pos hq,if_neg (by rw[hf];simp)]
 obtain⟨r,rfl,h1,h2,h3⟩:=h
 exact⟨r,hd,Yaa hdn,.inl ⟨hg,h1⟩,h2,h3⟩
theorem CW.guard2 {d j dj:Nat}{want t:Bool}(hq:Zcd b nq o=true)(hf:ZaZ o=false)(hg:o.guard=some (j,want))(hd:o.dst=some d)(hdn:Nat.ble (d+1) st.n=true)(hj:(ops[j]?).bind (·.dst)=some dj)(hdj:Nat.ble (dj+1) st.n=true)(ht:st.get dj= .bool t)
 (hyes:t=want->CWr b nq P ops Q ms F M o rest i U st d) (hno:t= !want->CW b nq P ops Q ms F M rest (i+1) U (st.put d (.con undef))):CW b nq P ops Q ms F M (o::rest) i U st:=by
 unfold CW;rw[if_pos hq,if_neg (by rw[hf];simp)]
 by_cases htw:t=want
 ·obtain⟨r,rfl,h1,h2,h3⟩:=hyes htw
  exact⟨r,hd,Yaa hdn,.inr ⟨j,want,some t,dj,hg,hj,Yaa hdj,.inl ⟨t,ht,rfl⟩,.inl ⟨by rw[htw],h1⟩⟩,h2,h3⟩
 ·refine⟨⟨d,.con undef,[],[]⟩,hd,Yaa hdn,.inr ⟨j,want,some t,dj,hg,hj,Yaa hdj,.inl ⟨t,ht,rfl⟩,.inr ⟨fun e=>htw (Option.some.inj e),rfl,rfl⟩⟩,?_,hno (by cases t<;>cases want<;>simp_all)⟩
  exact⟨fun k hk=>(by cases hk),fun k hk=>absurd rfl hk,fun k hk hn=> .inl ⟨rfl,fun k' ob ho=>(by cases ho)⟩⟩
theorem CWr.op {d:Nat}{c:Prop}{v:V}(h:vop P (st.wm M) o.op=some (c,v))(hc:c)(hfit:Zrt ms U i [] v F)(k:CW b nq P ops Q ms F M rest (i+1) U (st.put d v)):CWr b nq P ops Q ms F M o rest i U st d:=
 ⟨⟨d,v,[],[]⟩,rfl,QS.op h hc,ZwC.quiet hfit,k⟩
theorem CWr.assign {d:Nat}{x:Operand}(ho:o.op= .assign x)(hfit:Zrt ms U i [] (st.ev x) F)(k:CW b nq P ops Q ms F M rest (i+1) U (st.put d (st.ev x))):CWr b nq P ops Q ms F M o rest i U st d:=
 ⟨⟨d,st.ev x,[],[]⟩,rfl,by
   have:st.ev x=(st.wm M).ev x:=by cases x<;>rfl
   rw[this];exact QS.assign ho,ZwC.quiet hfit,k⟩
theorem CWr.call {f:FuncId}{args:Array Operand}{argTypes:Array TypeId}{d:Nat}{r:V}{m:List (Nat×List V)}{R:V->List (Nat×List V)->Prop}(ho:o.op= .call { callee:= .value (.func f),args,argTypes })(hf:Za P f=true)
 (hfl:((args.toList.map (st.wm M).ev).all ZcY)=true) (hAC:AC P f (args.toList.map (st.wm M).ev) R) (hR: ∀r' m',R r' m'->r'=r/\m'=m) (hn:Ze1 F U (Zbm d m)=true) (hfit:Zrt ms U i (Zbm d m) (Zae d 4 r) F)
 (k:CW b nq P ops Q ms F M rest (i+1) ((Zbm d m).map (fun k=>(k,i))++U) (st.add d (Zae d 4 r) (ZaG d m))):CWr b nq P ops Q ms F M o rest i U st d:=
 ⟨⟨d,Zae d 4 r,Zbm d m,ZaG d m⟩,rfl,QS.call ho hf hfl hAC hR,ZwC.call hn hfit,k⟩
theorem CWr.callS {f:FuncId}{args:Array Operand}{argTypes:Array TypeId}{d:Nat}{r:V}{m:List (Nat×List V)}{R:V->List (Nat×List V)->Prop}(ho:o.op= .call { callee:= .value (.func f),args,argTypes })(hf:Za P f=true)
 (hfl:((args.toList.map fun x=>(st.wm M).vw ((st.wm M).ev x)).all ZcY)=true) (hAC:AC P f (args.toList.map fun x=>(st.wm M).vw ((st.wm M).ev x)) R) (hR: ∀r' m',R r' m'->r'=r/\m'=m) (hnd:ZmT (ZmS m)=true) (hnv:Zhr r/\ ∀k cs,(k,cs)∈m-> ∀v∈cs,Zd1 v)
 (hn:Ze1 F U (Zbm d m)=true) (hfit:Zrt ms U i (Zbm d m) (Zae d 4 r) F)
 (k:CW b nq P ops Q ms F M rest (i+1) ((Zbm d m).map (fun k=>(k,i))++U) (st.add d (Zae d 4 r) (ZaG d m))):CWr b nq P ops Q ms F M o rest i U st d:=
 ⟨⟨d,Zae d 4 r,Zbm d m,ZaG d m⟩,rfl,QS.callS ho hf hfl hAC hR (by rw[<- Ztq];exact Zi5 hnd) hnv,ZwC.call hn hfit,k⟩
end
end Go.Abs
namespace Go.Abs
open Go Go.RowKit
theorem ZzI (st:St)(k:IntKind)(x:Int):st.vw (.int k x)= .int k x:=rfl
theorem Ztv (st:St)(k:IntKind)(x:Int):st.vw1 (.int k x)= .int k x:=rfl
theorem Ztw (st:St)(b:Bool):st.vw (.bool b)= .bool b:=rfl
theorem Zp0 (st:St)(b:Bool):st.vw1 (.bool b)= .bool b:=rfl
theorem ZzJ (st:St)(s:List UInt8):st.vw (.str s)= .str s:=rfl
theorem Ztx (st:St)(s:List UInt8):st.vw1 (.str s)= .str s:=rfl
theorem ZzK (st:St)(v:Value):st.vw (.con v)= .con v:=rfl
theorem Zty (st:St)(v:Value):st.vw1 (.con v)= .con v:=rfl
theorem Ztz (st:St)  : st.vw (.nils)= .nils:=rfl
theorem Zp1 (st:St)  : st.vw1 (.nils)= .nils:=rfl
theorem ZtA (st:St)(n s:Nat)(cs:List V):st.vw (.view n s cs)= .view n s cs:=rfl
theorem Zp2 (st:St)(n s:Nat)(cs:List V):st.vw1 (.view n s cs)= .view n s cs:=rfl
theorem ZtB (st:St)(cs:List V):st.vw (.vptr cs)= .vptr cs:=rfl
theorem Zp3 (st:St)(cs:List V):st.vw1 (.vptr cs)= .vptr cs:=rfl
theorem ZtC (st:St)(cs:List V):st.vw (.fagg cs)= .fagg cs:=rfl
theorem Zp4 (st:St)(cs:List V):st.vw1 (.fagg cs)= .fagg cs:=rfl
theorem ZzL (st:St)(g:FuncId)(cs:List V):st.vw (.clo g cs)= .clo g cs:=rfl
theorem ZtD (st:St)(g:FuncId)(cs:List V):st.vw1 (.clo g cs)= .clo g cs:=rfl
theorem ZzM (st:St)  : st.vw (.any)= .any:=rfl
theorem ZtE (st:St)  : st.vw1 (.any)= .any:=rfl
theorem ZzN (st:St)(cs:List V):st.vw (.tup cs)= .tup cs:=rfl
theorem ZtF (st:St)(cs:List V):st.vw1 (.tup cs)= .tup cs:=rfl
theorem ZCt (st:St)(g:FuncId)(cs:List V):st.vw (.fn g cs)= .fn g cs:=rfl
theorem ZzO (st:St)(g:FuncId)(cs:List V):st.vw1 (.fn g cs)= .fn g cs:=rfl
theorem ZzP (st:St)(k off n sz:Nat):st.vw (.ref k off n sz)=match st.obj k with
 |some o=>bif o.flat then .view n sz ((o.cs.drop off).take (n*sz))else .ref k off n sz
 |none=> .ref k off n sz:=rfl
theorem ZtG (st:St)(k off n sz:Nat):st.vw1 (.ref k off n sz)=match st.obj k with
 |some o=>bif o.flat then .view n sz ((o.cs.drop off).take (n*sz))else .ref k off n sz
 |none=> .ref k off n sz:=rfl
theorem ZzQ (st:St)(k off:Nat):st.vw (.ptr k off)=match st.obj k with
 |some o=>bif o.flat||o.cs.all ZbJ then .vptr (o.cs.drop off)else .ptr k off
 |none=> .ptr k off:=rfl
theorem ZtH (st:St)(k off:Nat):st.vw1 (.ptr k off)=match st.obj k with
 |some o=>bif o.flat||o.cs.all ZbJ then .vptr (o.cs.drop off)else .ptr k off
 |none=> .ptr k off:=rfl
theorem ZzR (st:St)(cs:List V):st.vw (.agg cs)= .agg (cs.map st.vw1):=rfl
theorem VW:type_of% @ZzI/\type_of% @Ztv/\type_of% @Ztw/\type_of% @Zp0/\type_of% @ZzJ/\type_of% @Ztx/\type_of% @ZzK/\type_of% @Zty/\type_of% @Ztz/\type_of% @Zp1/\type_of% @ZtA/\type_of% @Zp2/\type_of% @ZtB/\type_of% @Zp3/\type_of% @ZtC/\type_of% @Zp4/\type_of% @ZzL/\type_of% @ZtD/\type_of% @ZzM/\type_of% @ZtE/\type_of% @ZzN/\type_of% @ZtF/\type_of% @ZCt/\type_of% @ZzO/\type_of% @ZzP/\type_of% @ZtG/\type_of% @ZzQ/\type_of% @ZtH/\type_of% @ZzR:=
 ⟨@ZzI,@Ztv,@Ztw,@Zp0,@ZzJ,@Ztx,@ZzK,@Zty,@Ztz,@Zp1,@ZtA,@Zp2,@ZtB,@Zp3,@ZtC,@Zp4,@ZzL,@ZtD,@ZzM,@ZtE,@ZzN,@ZtF,@ZCt,@ZzO,@ZzP,@ZtG,@ZzQ,@ZtH,@ZzR⟩
section
variable {P:Program}{C:Ctx}{st st':St}{l rest all:List Oper}{o:Oper}{Q:Exit->St->Prop}{ops:Array Oper}{b:Bool}{nq ms F:List Nat}{M:List (Nat×ZaK)}{U:List (Nat×Nat)}{i:Nat}
theorem CWr.callA {f:FuncId}{args:Array Operand}{argTypes:Array TypeId}{d:Nat}{r:V}{m:List (Nat×List V)}{vs:List V}{R:V->List (Nat×List V)->Prop}(ho:o.op= .call { callee:= .value (.func f),args,argTypes })(hf:Za P f=true)
 (hargs:(args.toList.map fun x=>(st.wm M).vw ((st.wm M).ev x))=vs) (hAC:AC P f vs R) (hfl:vs.all ZcY=true) (hR: ∀r' m',R r' m'->r'=r/\m'=m) (hnd:ZmT (ZmS m)=true) (hnv:Zhr r/\ ∀k cs,(k,cs)∈m-> ∀v∈cs,Zd1 v)
 (hn:Ze1 F U (Zbm d m)=true) (hfit:Zrt ms U i (Zbm d m) (Zae d 4 r) F)
 (k:CW b nq P ops Q ms F M rest (i+1) ((Zbm d m).map (fun k=>(k,i))++U) (st.add d (Zae d 4 r) (ZaG d m))):CWr b nq P ops Q ms F M o rest i U st d:=by
 subst hargs;exact CWr.callS ho hf hfl hAC hR hnd hnv hn hfit k
end
end Go.Abs
namespace Go.Abs
open Go Go.RowKit
def ZnO (l:List Int)(k:Nat)(x:Int):List Int:=l.take k++[x]++l.drop (k+1)
theorem ZwX {l:List Int}{k:Nat}(x:Int)(h:k<l.length):(ZnO l k x).length=l.length:=by
 simp only[ZnO,Yal,Yar,Yaw,Yag,List.length_nil];omega
theorem ZmW (kd:IntKind)(l:List Int)(k:Nat)(x:Int):Zi kd (List.take k l)++[V.int kd x]++List.drop (k+1) (Zi kd l)=Zi kd (ZnO l k x):=by
 simp[Zi,ZnO,List.map_append,List.map_drop]
theorem Zkm (kd:IntKind)(l:List Int)(k:Nat)(x:Int):Zi kd (List.take k l)++V.int kd x::List.drop (k+1) (Zi kd l)=Zi kd (ZnO l k x):=by
 simp[Zi,ZnO,List.map_append,List.map_drop]
end Go.Abs
namespace Go.Abs
open Go Go.RowKit
section
variable {P:Program}{C:Ctx}{S:Nat->Prop}{β:Nat->Option BI}{st st':St}{a:Act}{w w':World}{l rest all:List Oper}{o:Oper}{Q:Exit->St->Prop}{ops:Array Oper}{b:Bool}{nq ms F:List Nat}{M:List (Nat×ZaK)}{U:List (Nat×Nat)}{i:Nat}
theorem AWL.ends (hg:o.guard=none)(h: ∀C S β a w,SR C S β st a w->Zsi C P o a w st')(k:AWL P ops rest Q st'):AWL P ops (o::rest) Q st:=fun C a w ⟨S,β,hs⟩=>by
 obtain⟨a',w',S',β',hr,hs'⟩:=h C S β a w hs
 refine wpList_plain hg fun K hK=> ?_
 unfold Oper.wp
 rcases hr with⟨u,hr,rfl⟩|⟨hr,rfl⟩
 ·rw[hr];exact hK _ _ (k C _ _ ⟨S',β',hs'⟩)
 ·rw[hr];exact hK _ _ (k C _ _ ⟨S',β',hs'⟩)
theorem AWL.boxF {t:TypeId}{x:Operand}{d:Nat}(hg:o.guard=none)(ho:o.op= .box t x)(hd:o.dst=some d)(hdn:Nat.ble (d+1) st.n=true)(hv:ZcY (st.ev x)=true)
 (k:AWL P ops rest Q ((st.create d true (ZaA (st.ev x))).put d (.ptr d 0))):AWL P ops (o::rest) Q st:=
 AWL.ends hg (fun C S β a w hsr=>by
  have hR:=Zen true (Zag hsr x) hv
  obtain⟨β',hs⟩:=hsr.newobj (Yaa hdn) true (ZaA (st.ev x)) (a.eval x).cells t (0,0) w.drawn (ZnZ _) (Nat.le_of_eq hR.1) (ZdZ hR) ZkI
  refine⟨_,_,S,β',.inl ⟨.pointer (some ⟨w.heap.size,0,none⟩),?_,by rw[hd]⟩,hs⟩
  unfold execOp
  simp[ho,Instr.box,newVar,newRow]) k
theorem AWL.allocF {t:TypeId}{d:Nat}{z:Value}(hg:o.guard=none)(ho:o.op= .alloc t)(hd:o.dst=some d)(hdn:Nat.ble (d+1) st.n=true)(hz:Zhn P t=some z)(hzf:(Zaj z).all ZbJ=true)
 (k:AWL P ops rest Q ((st.create d true (Zaj z)).put d (.ptr d 0))):AWL P ops (o::rest) Q st:=
 AWL.ends hg (fun C S β a w hsr=>by
  have hz':=hz
  unfold Zhn at hz'
  split at hz'<;>first|(cases hz';done)|skip
  rename_i i hi
  have hR:=ZdK (S:=S) (w:=w) (β:=β) hzf
  obtain⟨β',hs⟩:=hsr.newobj (Yaa hdn) true (Zaj z) z.cells t (0,0) w.drawn (ZnZ _) (Nat.le_of_eq hR.1) (ZdZ hR) ZkI
  refine⟨_,_,S,β',.inl ⟨.pointer (some ⟨w.heap.size,0,none⟩),?_,by rw[hd]⟩,hs⟩
  unfold execOp
  simp[ho,Instr.alloc,zeroValue,typeInfo,hi,hz',newVar,newRow]) k
end
end Go.Abs
namespace Go.Abs
open Go Go.RowKit
theorem ZmX (k:IntKind)(l:List Int):ZiJ (Zi k l)=l:=by
 induction l with
 |nil=>rfl
 |cons x l ih=>simp only[Zi,ZiJ,List.map_cons,List.map_map]at ih ⊢;rw[ih];rfl
theorem Zp5:ZiJ []=[]:=rfl
theorem ZmY (v:V)(l:List V):ZiJ (v::l)=vi v::ZiJ l:=rfl
theorem Zhz:eqL [] []=true:=rfl
theorem Zfz (a b:V)(as bs:List V):eqL (a::as) (b::bs)=(eqS a b&&eqL as bs):=rfl
theorem ZhA (k k':IntKind)(a b:Int):eqS (.int k a) (.int k' b)=(a==b):=rfl
theorem Zp6 (a b:Bool):eqS (.bool a) (.bool b)=(a==b):=rfl
theorem ZhB (a b:List UInt8):eqS (.str a) (.str b)=(a==b):=rfl
end Go.Abs
