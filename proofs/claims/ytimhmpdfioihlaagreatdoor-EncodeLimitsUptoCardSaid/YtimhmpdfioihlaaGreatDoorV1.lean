/- A library of mine, for walks over abstract states: part 1. It imports the kit alone. -/
import Derived.WalkKit
import Derived.ChangeKeysEq
import Derived.Laws.StructEq
set_option linter.unusedSimpArgs false
set_option linter.unusedVariables false
namespace Go.Abs
theorem Yaa:type_of% @Nat.le_of_ble_eq_true:= @Nat.le_of_ble_eq_true
theorem Yab.{u}:type_of% @List.getElem?_eq_getElem.{u}:= @List.getElem?_eq_getElem.{u}
theorem Yac.{u}:type_of% @Option.some.injEq.{u}:= @Option.some.injEq.{u}
theorem Yad.{u}:type_of% @List.take_of_length_le.{u}:= @List.take_of_length_le.{u}
theorem Yae:type_of% @decide_eq_true:= @decide_eq_true
theorem Yaf:type_of% @decide_eq_false:= @decide_eq_false
theorem Yag.{u}:type_of% @List.length_cons.{u}:= @List.length_cons.{u}
theorem Yah.{u}:type_of% @List.getD_eq_getElem?_getD.{u}:= @List.getD_eq_getElem?_getD.{u}
theorem Yai.{u,v}:type_of% @Prod.mk.injEq.{u,v}:= @Prod.mk.injEq.{u,v}
theorem Yaj.{u,v}:type_of% @Option.map_eq_some_iff.{u,v}:= @Option.map_eq_some_iff.{u,v}
theorem Yak.{u}:type_of% @List.getElem?_eq_some_iff.{u}:= @List.getElem?_eq_some_iff.{u}
theorem Yal.{u}:type_of% @List.length_append.{u}:= @List.length_append.{u}
theorem Yam.{u}:type_of% @beq_eq_false_iff_ne.{u}:= @beq_eq_false_iff_ne.{u}
theorem Yan.{u}:type_of% @Array.getD_eq_getD_getElem?.{u}:= @Array.getD_eq_getD_getElem?.{u}
theorem Yao:type_of% @Bool.and_eq_true:= @Bool.and_eq_true
theorem Yap:type_of% @Int.toNat_natCast:= @Int.toNat_natCast
theorem Yaq.{u}:type_of% @List.mem_cons_of_mem.{u}:= @List.mem_cons_of_mem.{u}
theorem Yar.{u}:type_of% @List.length_take.{u}:= @List.length_take.{u}
theorem Yas.{u,v}:type_of% @List.getElem?_map.{u,v}:= @List.getElem?_map.{u,v}
theorem Yat.{u}:type_of% @List.all_eq_true.{u}:= @List.all_eq_true.{u}
theorem Yau.{u}:type_of% @List.take_length.{u}:= @List.take_length.{u}
theorem Yav.{u}:type_of% @List.mem_cons.{u}:= @List.mem_cons.{u}
theorem Yaw.{u}:type_of% @List.length_drop.{u}:= @List.length_drop.{u}
theorem Yax.{u}:type_of% @Option.isSome_iff_exists.{u}:= @Option.isSome_iff_exists.{u}
theorem Yay.{u}:type_of% @List.eq_nil_of_length_eq_zero.{u}:= @List.eq_nil_of_length_eq_zero.{u}
theorem Yaz:type_of% @decide_eq_true_eq:= @decide_eq_true_eq
theorem Ya0.{u}:type_of% @List.mem_of_getElem?.{u}:= @List.mem_of_getElem?.{u}
theorem Ya1.{u}:type_of% @List.getElem?_append_left.{u}:= @List.getElem?_append_left.{u}
theorem Ya2.{u}:type_of% @List.getElem?_drop.{u}:= @List.getElem?_drop.{u}
theorem Ya3.{u,v}:type_of% @List.mem_map.{u,v}:= @List.mem_map.{u,v}
theorem Ya4.{u}:type_of% @beq_self_eq_true.{u}:= @beq_self_eq_true.{u}
theorem Ya5.{u}:type_of% @List.forall_mem_cons.{u}:= @List.forall_mem_cons.{u}
theorem Ya6.{u}:type_of% @List.append_assoc.{u}:= @List.append_assoc.{u}
theorem Ya7.{u}:type_of% @List.drop_of_length_le.{u}:= @List.drop_of_length_le.{u}
theorem Ya8.{u}:type_of% @List.getElem?_append_right.{u}:= @List.getElem?_append_right.{u}
open Go Go.RowKit
inductive V where
 |int (k:IntKind) (n:Int)
 |bool (b:Bool)
 |str (s:List UInt8)
 |con (v:Value)
 |nils
 |view (n sz:Nat) (cs:List V)
 |vptr (cs:List V)
 |ref (k off n sz:Nat)
 |ptr (k off:Nat)
 |agg (cs:List V)
 |fagg (cs:List V)
 |tup (vs:List V)
 |fn (f:FuncId) (cap:List V)
 |clo (f:FuncId) (cap:List V)
 |any
 deriving Inhabited
def V.cell1:V->Bool
 |.agg _|.fagg _|.tup _|.any=>false
 |.con v=>v.oneCell'
 |_=>true
structure BI where
 blk:Nat
 off:Nat
 tot:Nat
 len:Nat
inductive FR (S:Nat->Prop) (w:World):V->Value->Prop
 |int (k:IntKind) (n:Int):FR S w (.int k n) (.int k n)
 |bool (b:Bool):FR S w (.bool b) (.bool b)
 |str (s:List UInt8):FR S w (.str s) (.string ⟨s.toArray⟩)
 |con (v:Value):FR S w (.con v) v
 |nils (A:Option Addr):FR S w .nils (.slice A 0 0)
 |view (n sz:Nat) (cs:List V) (A:Option Addr) (c:Nat) (us:Nat->Value) (hl:cs.length=n*sz) (hc:n<=c)
  (ha:cs≠[]-> ∃b o,A=some ⟨b,o,none⟩/\S b/\ ∀(j:Nat) (v:V),cs[j]? = some v->w.cell? ⟨b,o+j,none⟩=some (us j))
  (hr: ∀(j:Nat) (v:V),cs[j]? = some v->FR S w v (us j)) (h1: ∀(j:Nat) (v:V),cs[j]? = some v->v.cell1=true):FR S w (.view n sz cs) (.slice A n c)
 |vptr (cs:List V) (b o:Nat) (us:Nat->Value) (hS:cs≠[]->S b) (ha: ∀(j:Nat) (v:V),cs[j]? = some v->w.cell? ⟨b,o+j,none⟩=some (us j))
  (hr: ∀(j:Nat) (v:V),cs[j]? = some v->FR S w v (us j)) (h1: ∀(j:Nat) (v:V),cs[j]? = some v->v.cell1=true):FR S w (.vptr cs) (.pointer (some ⟨b,o,none⟩))
 |fagg (cs:List V) (us:Array Value) (hl:cs.length=us.size) (hr: ∀(j:Nat) (v:V) (u:Value),cs[j]? = some v->us[j]? = some u->FR S w v u)
  (h1: ∀(j:Nat) (v:V),cs[j]? = some v->v.cell1=true):FR S w (.fagg cs) (.agg us)
 |fn (f:FuncId):FR S w (.fn f []) (.func (.func f) #[] #[])
 |clo (f:FuncId) (cs:List V) (us:Array Value) (hl:cs.length=us.size) (hr: ∀(j:Nat) (v:V) (u:Value),cs[j]? = some v->us[j]? = some u->FR S w v u):FR S w (.clo f cs) (.func (.func f) #[] us)
 |mclo (f:FuncId) (cs:List V) (us:Array Value) (hl:cs.length=us.size) (hr: ∀(j:Nat) (v:V) (u:Value),cs[j]? = some v->us[j]? = some u->FR S w v u):FR S w (.clo f cs) (.func (.func f) us #[])
theorem Zfx {w w':World}{b o:Nat}(h:w'.heap[b]? = w.heap[b]?):w'.cell? ⟨b,o,none⟩=w.cell? ⟨b,o,none⟩:=by simp[World.cell?,h]
theorem FR.step {S S':Nat->Prop}{w w':World}{v:V}{u:Value}(h:FR S w v u)(hS: ∀b,S b->S' b)(hw: ∀b,S b->w'.heap[b]? = w.heap[b]?):FR S' w' v u:=by
 induction h with
 |int k n=>exact .int k n
 |bool b=>exact .bool b
 |str s=>exact .str s
 |con v=>exact .con v
 |nils A=>exact .nils A
 |view n sz cs A c us hl hc ha hr h1 ih=>
  refine .view n sz cs A c us hl hc (fun hne=> ?_) ih h1
  obtain⟨b,o,hA,hb,hcell⟩:=ha hne
  exact⟨b,o,hA,hS b hb,fun j v hj=>(Zfx (hw b hb)).trans (hcell j v hj)⟩
 |vptr cs b o us hS' ha hr h1 ih=>
  refine .vptr cs b o us (fun hne=>hS b (hS' hne)) (fun j v hj=> ?_) ih h1
  have hne:cs≠[]:=by intro e;subst e;simp at hj
  exact(Zfx (hw b (hS' hne))).trans (ha j v hj)
 |fagg cs us hl hr h1 ih=>exact .fagg cs us hl ih h1
 |fn f=>exact .fn f
 |clo f cs us hl hr ih=>exact .clo f cs us hl ih
 |mclo f cs us hl hr ih=>exact .mclo f cs us hl ih
theorem FR.oneCell {S:Nat->Prop}{w:World}{v:V}{u:Value}(h:FR S w v u)(h1:v.cell1=true):u.oneCell'=true:=by
 cases h<;>first|rfl|exact h1|(simp[V.cell1]at h1)
inductive VR (S:Nat->Prop) (w:World) (β:Nat->Option BI):V->Value->Prop
 |flat {v:V} {u:Value} (h:FR S w v u):VR S w β v u
 |any (u:Value):VR S w β .any u
 |ref (k off n sz:Nat) (A:Option Addr) (c:Nat)
  (h:(n=0/\c=0)\/ ∃bi,β k=some bi/\A=some ⟨bi.blk,bi.off+off,none⟩/\n<=c/\bi.off+off+c*sz<=bi.tot/\off+n*sz<=bi.len):VR S w β (.ref k off n sz) (.slice A n c)
 |ptr (k off:Nat) (bi:BI) (h:β k=some bi):VR S w β (.ptr k off) (.pointer (some ⟨bi.blk,bi.off+off,none⟩))
 |agg (cs:List V) (us:Array Value) (hl:cs.length=us.size) (hr: ∀(j:Nat) (v:V) (u:Value),cs[j]? = some v->us[j]? = some u->VR S w β v u):VR S w β (.agg cs) (.agg us)
 |tup (vs:List V) (us:Array Value) (hl:vs.length=us.size) (hr: ∀(j:Nat) (v:V) (u:Value),vs[j]? = some v->us[j]? = some u->VR S w β v u):VR S w β (.tup vs) (.tuple us)
 |fn (f:FuncId) (cap:List V) (us:Array Value) (hl:cap.length=us.size) (hr: ∀(j:Nat) (v:V) (u:Value),cap[j]? = some v->us[j]? = some u->VR S w β v u):VR S w β (.fn f cap) (.func (.func f) #[] us)
 |mfn (f:FuncId) (cap:List V) (us:Array Value) (hl:cap.length=us.size) (hr: ∀(j:Nat) (v:V) (u:Value),cap[j]? = some v->us[j]? = some u->VR S w β v u):VR S w β (.fn f cap) (.func (.func f) us #[])
theorem VR.step {S S':Nat->Prop}{w w':World}{β:Nat->Option BI}{v:V}{u:Value}(h:VR S w β v u)(hS: ∀b,S b->S' b)(hw: ∀b,S b->w'.heap[b]? = w.heap[b]?):VR S' w' β v u:=by
 induction h with
 |flat h=>exact .flat (h.step hS hw)
 |any u=>exact .any u
 |ref k off n sz A c h=>exact .ref k off n sz A c h
 |ptr k off bi h=>exact .ptr k off bi h
 |agg cs us hl hr ih=>exact .agg cs us hl ih
 |tup vs us hl hr ih=>exact .tup vs us hl ih
 |fn f cap us hl hr ih=>exact .fn f cap us hl ih
 |mfn f cap us hl hr ih=>exact .mfn f cap us hl ih
theorem VR.oneCell {S:Nat->Prop}{w:World}{β:Nat->Option BI}{v:V}{u:Value}(h:VR S w β v u)(h1:v.cell1=true):u.oneCell'=true:=by
 cases h<;>first|rfl|(rename_i h;exact h.oneCell h1)|(simp[V.cell1]at h1)
def V.wipe (k:Nat):Nat->V->V
 |0,_=> .any
 |d+1,v=>match v with
  |.ref j o n s=>bif j==k then .any else .ref j o n s
  |.ptr j o=>bif j==k then .any else .ptr j o
  |.agg cs=> .agg (cs.map (V.wipe k d))
  |.tup vs=> .tup (vs.map (V.wipe k d))
  |.fn f cap=> .fn f (cap.map (V.wipe k d))
  |v=>v
theorem VR.wipe {S:Nat->Prop}{w:World}{β β':Nat->Option BI}{k:Nat}(hβ: ∀j,j≠k->β' j=β j): ∀(d:Nat) {v:V} {u:Value},VR S w β v u->VR S w β' (v.wipe k d) u:=by
 intro d
 induction d with
 |zero=>intro v u _;exact .any u
 |succ d ih=>
  intro v u h
  cases h with
  |flat h=>
   cases h with
   |fn f=>exact .flat (.fn f)
   |_=>refine .flat ?_;first|exact .int _ _|exact .bool _|exact .str _|exact .con _|exact .nils _|(apply FR.view<;>assumption)|(apply FR.vptr<;>assumption)|(apply FR.fagg<;>assumption)|(apply FR.clo<;>assumption)|(apply FR.mclo<;>assumption)
  |any u=>exact .any u
  |ref j off n sz A c h=>
   simp only[V.wipe]
   by_cases hj:j=k
   ·subst hj;simp only[Ya4,cond_true];exact .any _
   ·rw[show(j==k)=false from by simpa using hj];simp only[cond_false]
    refine .ref j off n sz A c ?_
    rw[hβ j hj];exact h
  |ptr j off bi h=>
   simp only[V.wipe]
   by_cases hj:j=k
   ·subst hj;simp only[Ya4,cond_true];exact .any _
   ·rw[show(j==k)=false from by simpa using hj];simp only[cond_false]
    exact .ptr j off bi (by rw[hβ j hj];exact h)
  |agg cs us hl hr=>
   refine .agg _ us (by simpa using hl) ?_
   intro j v u hv hu
   simp only[Yas,Yaj]at hv
   obtain⟨v0,hv0,rfl⟩:=hv
   exact ih (hr j v0 u hv0 hu)
  |tup vs us hl hr=>
   refine .tup _ us (by simpa using hl) ?_
   intro j v u hv hu
   simp only[Yas,Yaj]at hv
   obtain⟨v0,hv0,rfl⟩:=hv
   exact ih (hr j v0 u hv0 hu)
  |fn f cap us hl hr=>
   refine .fn f _ us (by simpa using hl) ?_
   intro j v u hv hu
   simp only[Yas,Yaj]at hv
   obtain⟨v0,hv0,rfl⟩:=hv
   exact ih (hr j v0 u hv0 hu)
  |mfn f cap us hl hr=>
   refine .mfn f _ us (by simpa using hl) ?_
   intro j v u hv hu
   simp only[Yas,Yaj]at hv
   obtain⟨v0,hv0,rfl⟩:=hv
   exact ih (hr j v0 u hv0 hu)
def V.ren (k k':Nat):Nat->V->V
 |0,_=> .any
 |d+1,v=>match v with
  |.ref j o n s=>bif j==k then .ref k' o n s else bif j==k' then .any else .ref j o n s
  |.ptr j o=>bif j==k then .ptr k' o else bif j==k' then .any else .ptr j o
  |.agg cs=> .agg (cs.map (V.ren k k' d))
  |.tup vs=> .tup (vs.map (V.ren k k' d))
  |.fn f cap=> .fn f (cap.map (V.ren k k' d))
  |v=>v
theorem VR.ren {S:Nat->Prop}{w:World}{β β':Nat->Option BI}{k k':Nat}(hk:β' k'=β k)(hβ: ∀j,j≠k->j≠k'->β' j=β j): ∀(d:Nat) {v:V} {u:Value},VR S w β v u->VR S w β' (v.ren k k' d) u:=by
 intro d
 induction d with
 |zero=>intro v u _;exact .any u
 |succ d ih=>
  intro v u h
  cases h with
  |flat h=>
   cases h with
   |fn f=>exact .flat (.fn f)
   |_=>refine .flat ?_;first|exact .int _ _|exact .bool _|exact .str _|exact .con _|exact .nils _|(apply FR.view<;>assumption)|(apply FR.vptr<;>assumption)|(apply FR.fagg<;>assumption)|(apply FR.clo<;>assumption)|(apply FR.mclo<;>assumption)
  |any u=>exact .any u
  |ref j off n sz A c h=>
   simp only[V.ren]
   by_cases hj:j=k
   ·subst hj;simp only[Ya4,cond_true]
    refine .ref k' off n sz A c ?_
    rw[hk];exact h
   ·rw[show(j==k)=false from by simpa using hj];simp only[cond_false]
    by_cases hj':j=k'
    ·subst hj';simp only[Ya4,cond_true];exact .any _
    ·rw[show(j==k')=false from by simpa using hj'];simp only[cond_false]
     refine .ref j off n sz A c ?_
     rw[hβ j hj hj'];exact h
  |ptr j off bi h=>
   simp only[V.ren]
   by_cases hj:j=k
   ·subst hj;simp only[Ya4,cond_true];exact .ptr k' off bi (by rw[hk];exact h)
   ·rw[show(j==k)=false from by simpa using hj];simp only[cond_false]
    by_cases hj':j=k'
    ·subst hj';simp only[Ya4,cond_true];exact .any _
    ·rw[show(j==k')=false from by simpa using hj'];simp only[cond_false]
     exact .ptr j off bi (by rw[hβ j hj hj'];exact h)
  |agg cs us hl hr=>
   refine .agg _ us (by simpa using hl) ?_
   intro j v u hv hu
   simp only[Yas,Yaj]at hv
   obtain⟨v0,hv0,rfl⟩:=hv
   exact ih (hr j v0 u hv0 hu)
  |tup vs us hl hr=>
   refine .tup _ us (by simpa using hl) ?_
   intro j v u hv hu
   simp only[Yas,Yaj]at hv
   obtain⟨v0,hv0,rfl⟩:=hv
   exact ih (hr j v0 u hv0 hu)
  |fn f cap us hl hr=>
   refine .fn f _ us (by simpa using hl) ?_
   intro j v u hv hu
   simp only[Yas,Yaj]at hv
   obtain⟨v0,hv0,rfl⟩:=hv
   exact ih (hr j v0 u hv0 hu)
  |mfn f cap us hl hr=>
   refine .mfn f _ us (by simpa using hl) ?_
   intro j v u hv hu
   simp only[Yas,Yaj]at hv
   obtain⟨v0,hv0,rfl⟩:=hv
   exact ih (hr j v0 u hv0 hu)
def lk {α:Type}:List (Nat×α)->Nat->Option α
 |[],_=>none
 |p::l,i=>bif p.1==i then some p.2 else lk l i
def rm {α:Type}:List (Nat×α)->Nat->List (Nat×α)
 |[],_=>[]
 |p::l,i=>bif p.1==i then rm l i else p::rm l i
theorem ZnS {α:Type}(l:List (Nat×α))(i j:Nat):lk (rm l i) j=if j=i then none else lk l j:=by
 induction l with
 |nil=>simp[rm,lk]
 |cons p l ih=>
  simp only[rm]
  by_cases h:p.1=i
  ·rw[show(p.1==i)=true from by simpa using h];simp only[cond_true,lk,ih]
   by_cases hj:j=i
   ·simp[hj]
   ·simp only[hj,if_false]
    rw[show(p.1==j)=false from by simp;omega];rfl
  ·rw[show(p.1==i)=false from by simpa using h];simp only[cond_false,lk]
   by_cases hj:p.1=j
   ·subst hj;simp[h]
   ·rw[show(p.1==j)=false from by simpa using hj];simpa using ih
theorem ZkF {α:Type}(l:List (Nat×α))(i j:Nat)(v:α):lk ((i,v)::rm l i) j=if j=i then some v else lk l j:=by
 simp only[lk]
 by_cases h:i=j
 ·subst h;simp
 ·rw[show(i==j)=false from by simpa using h];simp only[cond_false,ZnS];rw[if_neg (fun e=>h e.symm),if_neg (fun e=>h e.symm)]
theorem Ze5 {α γ:Type}(f:α->γ)(l:List (Nat×α))(i:Nat):lk (l.map fun p=>(p.1,f p.2)) i=(lk l i).map f:=by
 induction l with
 |nil=>rfl
 |cons p l ih=>
  simp only[List.map_cons,lk]
  by_cases h:p.1=i
  ·rw[show(p.1==i)=true from by simpa using h];rfl
  ·rw[show(p.1==i)=false from by simpa using h];simpa using ih
structure ZaK where
 flat:Bool
 cs:List V
def ZcX:List (Nat×Option BI)->Nat->Bool
 |[],_=>false
 |p::l,k=>p.1==k||ZcX l k
def ZcO (k:Nat):List (Nat×Option BI)->List (Nat×Option BI)
 |[]=>[]
 |p::l=>(bif p.1==k then(p.1,none)else p)::ZcO k l
theorem ZbB (k j:Nat): ∀l,ZcX (ZcO k l) j=ZcX l j
 |[]=>rfl
 |p::l=>by
  simp only[ZcO,ZcX,ZbB k j l]
  cases p.1==k<;>rfl
theorem Zdh {k j:Nat}{bi:BI}: ∀{l},(j,some bi)∈ZcO k l->j≠k/\(j,some bi)∈l
 |[],h=>by simp[ZcO]at h
 |p::l,h=>by
  simp only[ZcO,Yav]at h
  rcases h with h|h
  ·cases hp:p.1==k with
   |true=>rw[hp]at h;simp at h
   |false=>
    rw[hp,cond_false]at h
    subst h
    exact⟨by simpa using hp,by simp⟩
  ·have:=Zdh h
   exact⟨this.1,Yaq _ this.2⟩
structure St where
 n:Nat
 slots:List (Nat×V)
 mem:List (Nat×ZaK)
 lent:List (Nat×Option BI):=[]
def St.get (st:St)(i:Nat):V:=(lk st.slots i).getD .any
def St.obj (st:St)(k:Nat):Option ZaK:=lk st.mem k
def St.put (st:St)(d:Nat)(v:V):St:={ st with slots:=(d,v)::rm st.slots d }
def ZaK.wipe (k:Nat)(o:ZaK):ZaK:=bif o.flat then o else{ o with cs:=o.cs.map (V.wipe k 3) }
def ZaK.ren (k k':Nat)(o:ZaK):ZaK:=bif o.flat then o else{ o with cs:=o.cs.map (V.ren k k' 3) }
def St.repl (st:St)(k:Nat)(o:ZaK):St:=
 { st with slots:=st.slots.map fun p=>(p.1,p.2.wipe k 4),mem:=(k,o)::rm (st.mem.map fun p=>(p.1,p.2.wipe k)) k,lent:=ZcO k st.lent }
def St.setObj (st:St)(k:Nat)(o:ZaK):St:={ st with mem:=(k,o)::rm st.mem k }
def St.rename (st:St)(k k':Nat):St:=
 bif k==k' then st else
 { st with slots:=st.slots.map fun p=>(p.1,p.2.ren k k' 4),
           mem:=match lk st.mem k with
            |some o=>(k',o.ren k k')::rm (rm (st.mem.map fun p=>(p.1,p.2.ren k k')) k) k'
            |none=>rm (rm (st.mem.map fun p=>(p.1,p.2.ren k k')) k) k',
           lent:=bif ZcX st.lent k then(k',none)::ZcO k' (ZcO k st.lent)else ZcO k' st.lent }
def ZB8 (fz:Nat×Nat)(n:Nat):Prop:=fz.1<=fz.2/\ ∀j,j<n-> ¬(fz.1<=j/\j<fz.2)
structure ORs (S:Nat->Prop)(w:World)(β:Nat->Option BI)(o:ZaK)(bi:BI)(cur:Array Value)(e:TypeId)(fz:Nat×Nat):Prop where
 heap:w.heap[bi.blk]? = some (.cells cur e fz)
 size:cur.size=bi.tot
 free:ZB8 fz cur.size
 fits:bi.off+o.cs.length<=bi.tot
 len:bi.len=o.cs.length
 cells: ∀(j:Nat) (v:V),o.cs[j]? = some v-> ∃u,cur[bi.off+j]? = some u/\u.oneCell'=true/\(if o.flat=true then v.cell1=true/\FR S w v u else VR S w β v u)
def OR (S:Nat->Prop)(w:World)(β:Nat->Option BI)(k:Nat)(o:ZaK):Prop:=
 (o.flat=true/\o.cs=[]/\β k=none)\/ ∃bi cur e fz,β k=some bi/\ORs S w β o bi cur e fz
structure ZhV (L:Nat->Prop)(w0 w:World):Prop where
 os:w.os=w0.os
 tape:w.tape=w0.tape
 output:w.output=w0.output
 size:w0.heap.size<=w.heap.size
 block: ∀b,b<w0.heap.size-> ¬L b->w.heap[b]? = w0.heap[b]?
def Zca:List Int:=List.replicate 128 240++List.replicate 66 241++List.replicate 30 2++19::List.replicate 12 3++35::3::3::52::4::4::4::68::List.replicate 11 241
def Z5:List Int:=128::191::160::191::128::159::144::191::128::143::List.replicate 22 0
def ZEx:List (Nat×List Int):=[(0,Zca),(1,Z5)]
def GT (S:Nat->Prop)(w:World):Prop:= ∀g cs,lk ZEx g=some cs->S g/\ ∀(j:Nat) (v:Int),cs[j]? = some v->w.cell? ⟨g,j,none⟩=some (.int .u8 v)
theorem GT.step {S S':Nat->Prop}{w w':World}(h:GT S w)(hS: ∀b,S b->S' b)(hw: ∀b,S b->w'.heap[b]? = w.heap[b]?):GT S' w':=fun g cs hg=>
 ⟨hS g (h g cs hg).1,fun j v hj=>(Zfx (hw g (h g cs hg).1)).trans ((h g cs hg).2 j v hj)⟩
def Sok (S:Nat->Prop)(w:World):Prop:=(∀b,S b->b<w.heap.size)/\GT S w
structure Ctx where
 S0:Nat->Prop
 w0:World
 L:Nat->Prop
 ok:Sok S0 w0
 sep: ∀b,S0 b-> ¬L b
 ds:List Deferred
structure SR (C:Ctx)(S:Nat->Prop)(β:Nat->Option BI)(st:St)(a:Act)(w:World):Prop where
 tsize:a.tmps.size=st.n
 slots: ∀i,VR S w β (st.get i) (a.tmps.getD i undef)
 defers:a.defers=C.ds
 objs: ∀k o,st.obj k=some o->OR S w β k o
 inj: ∀k k' bi bi',(st.obj k).isSome=true->(st.obj k').isSome=true->β k=some bi->β k'=some bi'->bi.blk=bi'.blk->k=k'
 own: ∀k bi,(st.obj k).isSome=true->β k=some bi-> ¬S bi.blk/\(C.w0.heap.size<=bi.blk\/(C.L bi.blk/\ZcX st.lent k=true))
 pins: ∀k bi,(k,some bi)∈st.lent->β k=some bi
 sub: ∀b,C.S0 b->S b
 snew: ∀b,S b->C.S0 b\/C.w0.heap.size<=b
 slt: ∀b,S b->b<w.heap.size
 frame:ZhV C.L C.w0 w
theorem SR.sok {C:Ctx}{S:Nat->Prop}{β:Nat->Option BI}{st:St}{a:Act}{w:World}(h:SR C S β st a w):Sok S w:=
 ⟨h.slt,C.ok.2.step h.sub fun b hb=>h.frame.block b (C.ok.1 b hb) (C.sep b hb)⟩
end Go.Abs
namespace Go.Abs
open Go Go.RowKit
def upd (β:Nat->Option BI)(k:Nat)(x:Option BI):Nat->Option BI:=fun j=>if j=k then x else β j
theorem ZaU (β:Nat->Option BI)(k:Nat)(x:Option BI):upd β k x k=x:=by simp[upd]
theorem ZbO (β:Nat->Option BI)(k j:Nat)(x:Option BI)(h:j≠k):upd β k x j=β j:=by simp[upd,h]
theorem Zge {w:World}{b:Nat}{o:Obj}(h:w.heap[b]? = some o):b<w.heap.size:=(Array.getElem?_eq_some_iff.1 h).1
theorem St.get_put (st:St)(d:Nat)(v:V)(i:Nat):(st.put d v).get i=if i=d then v else st.get i:=by
 simp only[St.get,St.put,ZkF]
 split<;>rfl
theorem St.get_repl (st:St)(k:Nat)(o:ZaK)(i:Nat):(st.repl k o).get i=((lk st.slots i).map (V.wipe k 4)).getD .any:=by
 simp only[St.get,St.repl,Ze5]
theorem St.obj_repl (st:St)(k:Nat)(o:ZaK)(j:Nat):(st.repl k o).obj j=if j=k then some o else(st.obj j).map (ZaK.wipe k):=by
 simp only[St.obj,St.repl,ZkF,Ze5]
theorem St.obj_setObj (st:St)(k:Nat)(o:ZaK)(j:Nat):(st.setObj k o).obj j=if j=k then some o else st.obj j:=by
 simp only[St.obj,St.setObj,ZkF]
section
variable {C:Ctx}{S:Nat->Prop}{β:Nat->Option BI}{st:St}{a:Act}{w w':World}
theorem SR.put (h:SR C S β st a w){d:Nat}{v:V}{u:Value}(hd:d<st.n)(hv:VR S w β v u):SR C S β (st.put d v) (a.put (some d) u) w where
 tsize:=by simpa[Act.put,St.put]using h.tsize
 slots i:=by
  rw[St.get_put]
  by_cases hi:i=d
  ·subst hi
   have:i<a.tmps.size:=by rw[h.tsize];exact hd
   simp only[if_true,Act.put,Yan,Array.getElem?_setIfInBounds,this]
   simpa using hv
  ·have:(a.put (some d) u).tmps.getD i undef=a.tmps.getD i undef:=by
    simp only[Act.put,Yan,Array.getElem?_setIfInBounds]
    rw[if_neg (fun e=>hi e.symm)]
   rw[if_neg hi,this]
   exact h.slots i
 defers:=h.defers
 objs:=h.objs
 inj:=h.inj
 own:=h.own
 pins:=h.pins
 sub:=h.sub
 snew:=h.snew
 slt:=h.slt
 frame:=h.frame
theorem SR.putNone (h:SR C S β st a w)(u:Value):SR C S β st (a.put none u) w:=h
theorem ORs.step {S':Nat->Prop}{β':Nat->Option BI}{o:ZaK}{bi:BI}{cur:Array Value}{e:TypeId}{fz:Nat×Nat}(h:ORs S w β o bi cur e fz)(hS: ∀b,S b->S' b)(hw: ∀b,S b->w'.heap[b]? = w.heap[b]?)(hb:w'.heap[bi.blk]? = w.heap[bi.blk]?)
 (f:V->V) (hf: ∀v u,VR S' w' β v u->VR S' w' β' (f v) u):ORs S' w' β' (bif o.flat then o else{ o with cs:=o.cs.map f }) bi cur e fz where
 heap:=hb.trans h.heap
 size:=h.size
 free:=h.free
 fits:=by cases ho:o.flat<;>simp[h.fits]
 len:=by cases ho:o.flat<;>simp[h.len]
 cells j v hv:=by
  cases ho:o.flat with
  |true=>
   rw[ho]at hv
   obtain⟨u,hu,h1,hr⟩:=h.cells j v hv
   rw[ho]at hr
   simp only[if_true]at hr
   refine⟨u,hu,h1,?_⟩
   simp only[cond_true,ho,if_true]
   exact⟨hr.1,hr.2.step hS hw⟩
  |false=>
   rw[ho]at hv
   simp only[cond_false,Yas,Yaj]at hv
   obtain⟨v0,hv0,rfl⟩:=hv
   obtain⟨u,hu,h1,hr⟩:=h.cells j v0 hv0
   rw[ho]at hr
   refine⟨u,hu,h1,?_⟩
   simp only[cond_false]
   exact hf v0 u (VR.step (by simpa using hr) hS hw)
theorem OR.step {S':Nat->Prop}{k:Nat}{β':Nat->Option BI}{o:ZaK}(h:OR S w β k o)(hS: ∀b,S b->S' b)(hw: ∀b,S b->w'.heap[b]? = w.heap[b]?)(hb: ∀bi,β k=some bi->w'.heap[bi.blk]? = w.heap[bi.blk]?){k':Nat}(hk:β' k'=β k)
 (f:V->V) (hf: ∀v u,VR S' w' β v u->VR S' w' β' (f v) u):OR S' w' β' k' (bif o.flat then o else{ o with cs:=o.cs.map f }):=by
 rcases h with⟨h1,h2,h3⟩|⟨bi,cur,e,fz,hbi,h⟩
 ·exact .inl ⟨by simp[h1],by simp[h1,h2],hk.trans h3⟩
 ·exact .inr ⟨bi,cur,e,fz,hk.trans hbi,h.step hS hw (hb bi hbi) f hf⟩
theorem OR.step' {S':Nat->Prop}{k:Nat}{o:ZaK}(h:OR S w β k o)(hS: ∀b,S b->S' b)(hw: ∀b,S b->w'.heap[b]? = w.heap[b]?)(hb: ∀bi,β k=some bi->w'.heap[bi.blk]? = w.heap[bi.blk]?):OR S' w' β k o:=by
 have:=OR.step h hS hw hb (k':=k) (β':=β) rfl id (fun _ _ h=>h)
 cases o with
 |mk fl cs=>cases fl<;>simpa using this
theorem SR.grow (h:SR C S β st a w){S':Nat->Prop}(hos:w'.os=w.os)(htape:w'.tape=w.tape)(hout:w'.output=w.output)(hsize:w.heap.size<=w'.heap.size)
 (hkeep: ∀b,b<w.heap.size->w'.heap[b]? = w.heap[b]?) (hS: ∀b,S b->S' b) (hS': ∀b,S' b->S b\/(w.heap.size<=b/\b<w'.heap.size)):SR C S' β st a w' where
 tsize:=h.tsize
 slots i:=(h.slots i).step hS (fun b hb=>hkeep b (h.slt b hb))
 defers:=h.defers
 objs k o ho:=(h.objs k o ho).step' hS (fun b hb=>hkeep b (h.slt b hb)) (fun bi hbi=>by
  rcases h.objs k o ho with⟨_,_,h3⟩|⟨bi',cur,e,fz,hbi',hr⟩
  ·rw[h3]at hbi;cases hbi
  ·rw[hbi']at hbi;cases hbi;exact hkeep _ (Zge hr.heap))
 inj:=h.inj
 own k bi ho hbi:=by
  refine⟨fun hb=> ?_,(h.own k bi ho hbi).2⟩
  rcases hS' _ hb with hb|⟨hb,_⟩
  ·exact(h.own k bi ho hbi).1 hb
  ·obtain⟨o,ho'⟩:=Yax.1 ho
   rcases h.objs k o ho' with⟨_,_,h3⟩|⟨bi',cur,e,fz,hbi',hr⟩
   ·rw[h3]at hbi;cases hbi
   ·rw[hbi']at hbi;cases hbi;have:=Zge hr.heap;omega
 pins:=h.pins
 sub b hb:=hS b (h.sub b hb)
 snew b hb:=by
  rcases hS' b hb with hb|⟨hb,_⟩
  ·exact h.snew b hb
  ·right;have:=h.frame.size;omega
 slt b hb:=by
  rcases hS' b hb with hb|⟨_,hb⟩
  ·have:=h.slt b hb;omega
  ·exact hb
 frame:=⟨hos.trans h.frame.os,htape.trans h.frame.tape,hout.trans h.frame.output,Nat.le_trans h.frame.size hsize,fun b hb hl=>
  (hkeep b (Nat.lt_of_lt_of_le hb h.frame.size)).trans (h.frame.block b hb hl)⟩
theorem SR.blk_lt (h:SR C S β st a w){k:Nat}{bi:BI}(ho:(st.obj k).isSome=true)(hbi:β k=some bi):bi.blk<w.heap.size:=by
 obtain⟨o,ho'⟩:=Yax.1 ho
 rcases h.objs k o ho' with⟨_,_,h3⟩|⟨bi',cur,e,fz,hbi',hr⟩
 ·rw[h3]at hbi;cases hbi
 ·rw[hbi']at hbi;cases hbi;exact Zge hr.heap
theorem SR.repl (h:SR C S β st a w)(k:Nat)(o':ZaK)(bi':Option BI)(hos:w'.os=w.os)(htape:w'.tape=w.tape)(hout:w'.output=w.output)(hsize:w.heap.size<=w'.heap.size)
 (hkeep: ∀b,b<w.heap.size->(∀bi,(st.obj k).isSome=true->β k=some bi->b≠bi.blk)->w'.heap[b]? = w.heap[b]?)
 (hbi: ∀x,bi'=some x->w.heap.size<=x.blk\/((st.obj k).isSome=true/\ ∃bi,β k=some bi/\x.blk=bi.blk))
 (hor:OR S w' (upd β k bi') k o'):SR C S (upd β k bi') (st.repl k o') a w':=by
 have hSk: ∀b,S b->w'.heap[b]? = w.heap[b]? :=fun b hb=>hkeep b (h.slt b hb) (fun bi ho hbi e=>(h.own k bi ho hbi).1 (e▸hb))
 have hoth: ∀j,j≠k->upd β k bi' j=β j:=fun j hj=>ZbO β k j bi' hj
 exact{
  tsize:=h.tsize
  slots:=fun i=>by
   rw[St.get_repl]
   have hi:=h.slots i
   unfold St.get at hi
   cases hl:lk st.slots i with
   |none=>exact .any _
   |some v=>
    rw[hl]at hi
    exact VR.wipe hoth 4 (VR.step hi (fun _ h=>h) hSk)
  defers:=h.defers
  objs:=fun j o ho=>by
   rw[St.obj_repl]at ho
   by_cases hj:j=k
   ·subst hj;simp only[if_true,Yac]at ho;subst ho;exact hor
   ·rw[if_neg hj,Yaj]at ho
    obtain⟨o0,ho0,rfl⟩:=ho
    refine OR.step (h.objs j o0 ho0) (fun _ h=>h) hSk (fun bi hbij=>hkeep _ (h.blk_lt (by simp[ho0]) hbij) (fun bi2 hk2 hbi2 e=>hj (h.inj j k bi bi2 (by simp[ho0]) hk2 hbij hbi2 e))) (hoth j hj) _ (fun v u hv=>VR.wipe hoth 3 hv)
  inj:=fun j j' bj bj' hj hj' hbj hbj' hblk=>by
   rw[St.obj_repl]at hj hj'
   have key: ∀{i:Nat} {bi bx:BI},i≠k->(st.obj i).isSome=true->β i=some bi->bi'=some bx->bi.blk=bx.blk->False:=by
    intro i bi bx hi hs hbi0 hbx e
    rcases hbi bx hbx with hge|⟨hks,b2,hb2,e2⟩
    ·have:=h.blk_lt hs hbi0;omega
    ·exact hi (h.inj i k bi b2 hs hks hbi0 hb2 (e.trans e2))
   by_cases e1:j=k
   ·by_cases e2:j'=k
    ·exact e1.trans e2.symm
    ·exfalso
     subst e1
     rw[ZaU]at hbj
     rw[hoth j' e2]at hbj'
     rw[if_neg e2]at hj'
     exact key e2 (by simpa using hj') hbj' hbj hblk.symm
   ·by_cases e2:j'=k
    ·exfalso
     subst e2
     rw[ZaU]at hbj'
     rw[hoth j e1]at hbj
     rw[if_neg e1]at hj
     exact key e1 (by simpa using hj) hbj hbj' hblk
    ·rw[hoth j e1]at hbj
     rw[hoth j' e2]at hbj'
     rw[if_neg e1]at hj
     rw[if_neg e2]at hj'
     exact h.inj j j' bj bj' (by simpa using hj) (by simpa using hj') hbj hbj' hblk
  own:=fun j bj hj hbj=>by
   rw[St.obj_repl]at hj
   by_cases e1:j=k
   ·subst e1
    rw[ZaU]at hbj
    rcases hbi bj hbj with hge|⟨hks,b2,hb2,e2⟩
    ·refine⟨fun hb=> ?_,.inl ?_⟩
     ·have:=h.slt _ hb;omega
     ·have:=h.frame.size;omega
    ·have:=h.own j b2 hks hb2
     rw[e2];refine⟨this.1,this.2.imp id (fun hL=>⟨hL.1,?_⟩)⟩
     show ZcX (ZcO j st.lent) j=true
     rw[ZbB];exact hL.2
   ·rw[hoth j e1]at hbj
    rw[if_neg e1]at hj
    have:=h.own j bj (by simpa using hj) hbj
    refine⟨this.1,this.2.imp id (fun hL=>⟨hL.1,?_⟩)⟩
    show ZcX (ZcO k st.lent) j=true
    rw[ZbB];exact hL.2
  pins:=fun j bj hj=>by
   obtain⟨hne,hm⟩:=Zdh hj
   rw[hoth j hne];exact h.pins j bj hm
  sub:=h.sub
  snew:=h.snew
  slt:=fun b hb=>Nat.lt_of_lt_of_le (h.slt b hb) hsize
  frame:=⟨hos.trans h.frame.os,htape.trans h.frame.tape,hout.trans h.frame.output,Nat.le_trans h.frame.size hsize,fun b hb hl=>
   (hkeep b (Nat.lt_of_lt_of_le hb h.frame.size) (fun bi hs hbi0 e=>by
    rcases(h.own k bi hs hbi0).2 with hge|hL
    ·omega
    ·exact hl (e▸hL.1))).trans (h.frame.block b hb hl)⟩ }
theorem SR.write (h:SR C S β st a w)(k:Nat)(o':ZaK)(hk:(st.obj k).isSome=true)(hos:w'.os=w.os)(htape:w'.tape=w.tape)(hout:w'.output=w.output)(hsize:w.heap.size=w'.heap.size)
 (hkeep: ∀b,b<w.heap.size->(∀bi,β k=some bi->b≠bi.blk)->w'.heap[b]? = w.heap[b]?)
 (hor:OR S w' β k o'):SR C S β (st.setObj k o') a w':=by
 have hSk: ∀b,S b->w'.heap[b]? = w.heap[b]? :=fun b hb=>hkeep b (h.slt b hb) (fun bi hbi e=>(h.own k bi hk hbi).1 (e▸hb))
 have hsome: ∀{j},((st.setObj k o').obj j).isSome=true->(st.obj j).isSome=true:=by
  intro j hj
  rw[St.obj_setObj]at hj
  by_cases e:j=k
  ·rw[e];exact hk
  ·rw[if_neg e]at hj;exact hj
 exact{
  tsize:=h.tsize
  slots:=fun i=>VR.step (h.slots i) (fun _ h=>h) hSk
  defers:=h.defers
  objs:=fun j o ho=>by
   rw[St.obj_setObj]at ho
   by_cases hj:j=k
   ·subst hj;simp only[if_true,Yac]at ho;subst ho;exact hor
   ·rw[if_neg hj]at ho
    exact(h.objs j o ho).step' (fun _ h=>h) hSk (fun bi hbij=>hkeep _ (h.blk_lt (by simp[ho]) hbij) (fun bi2 hbi2 e=>hj (h.inj j k bi bi2 (by simp[ho]) hk hbij hbi2 e)))
  inj:=fun j j' bj bj' hj hj' hbj hbj' hblk=>h.inj j j' bj bj' (hsome hj) (hsome hj') hbj hbj' hblk
  own:=fun j bj hj hbj=>h.own j bj (hsome hj) hbj
  pins:=h.pins
  sub:=h.sub
  snew:=h.snew
  slt:=fun b hb=>by rw[<- hsize];exact h.slt b hb
  frame:=⟨hos.trans h.frame.os,htape.trans h.frame.tape,hout.trans h.frame.output,by rw[<- hsize];exact h.frame.size,fun b hb hl=>
   (hkeep b (Nat.lt_of_lt_of_le hb h.frame.size) (fun bi hbi0 e=>by
    rcases(h.own k bi hk hbi0).2 with hge|hL
    ·omega
    ·exact hl (e▸hL.1))).trans (h.frame.block b hb hl)⟩ }
theorem St.get_rename (st:St)(k k' i:Nat)(hne:k≠k'):(st.rename k k').get i=((lk st.slots i).map (V.ren k k' 4)).getD .any:=by
 have:(k==k')=false:=by simpa using hne
 simp only[St.get,St.rename,this,cond_false,Ze5]
theorem St.obj_rename (st:St)(k k' j:Nat)(hne:k≠k'):(st.rename k k').obj j=if j=k' then(st.obj k).map (ZaK.ren k k')else if j=k then none else(st.obj j).map (ZaK.ren k k'):=by
 have:(k==k')=false:=by simpa using hne
 simp only[St.obj,St.rename,this,cond_false]
 cases hk:lk st.mem k with
 |none=>
  simp only[ZnS,Ze5,Option.map_none]
 |some o=>
  simp only[ZkF,ZnS,Ze5,Option.map_some]
theorem SR.rename (h:SR C S β st a w)(k k':Nat): ∃β',SR C S β' (st.rename k k') a w:=by
 by_cases hne:k=k'
 ·refine⟨β,?_⟩
  have:st.rename k k'=st:=by simp[St.rename,hne]
  rw[this];exact h
 ·let β':Nat->Option BI:=upd (upd β k none) k' (β k)
  have hk':β' k'=β k:=ZaU _ _ _
  have hoth: ∀j,j≠k->j≠k'->β' j=β j:=fun j h1 h2=>by simp only[β'];rw[ZbO _ _ _ _ h2,ZbO _ _ _ _ h1]
  have hsome: ∀{j},((st.rename k k').obj j).isSome=true->(j=k'/\(st.obj k).isSome=true)\/(j≠k'/\j≠k/\(st.obj j).isSome=true):=by
   intro j hj
   rw[St.obj_rename st k k' j hne]at hj
   by_cases e:j=k'
   ·rw[if_pos e]at hj;exact .inl ⟨e,by simpa using hj⟩
   ·rw[if_neg e]at hj
    by_cases e2:j=k
    ·rw[if_pos e2]at hj;cases hj
    ·rw[if_neg e2]at hj;exact .inr ⟨e,e2,by simpa using hj⟩
  have Zcv:(ZcX st.lent k=true->ZcX (st.rename k k').lent k'=true)/\(∀j,ZcX st.lent j=true->ZcX (st.rename k k').lent j=true):=by
   have hb:(k==k')=false:=by simpa using hne
   simp only[St.rename,hb,cond_false]
   cases hc:ZcX st.lent k with
   |true=>simp only[cond_true,ZcX,ZbB];exact⟨fun _=>by simp,fun j hj=>by simp[hj]⟩
   |false=>simp only[cond_false,ZbB];exact⟨fun hk=>(by cases hk),fun j hj=>hj⟩
  have lentPin: ∀j bi,(j,some bi)∈(st.rename k k').lent->β' j=some bi:=by
   intro j bi hj
   have hb:(k==k')=false:=by simpa using hne
   have key:(j,some bi)∈ZcO k' (ZcO k st.lent)\/((j,some bi)∈ZcO k' st.lent/\ZcX st.lent k=false):=by
    simp only[St.rename,hb,cond_false]at hj
    cases hc:ZcX st.lent k with
    |true=>
     rw[hc,cond_true]at hj
     rcases Yav.1 hj with h|h
     ·simp at h
     ·exact .inl h
    |false=>rw[hc,cond_false]at hj;exact .inr ⟨hj,rfl⟩
   have noK: ∀{l:List (Nat×Option BI)} {x},ZcX l k=false->(k,x)∉l:=by
    intro l x
    induction l with
    |nil=>intro _ h;cases h
    |cons p l ih=>
     intro h hm
     simp only[ZcX,Bool.or_eq_false_iff]at h
     rcases Yav.1 hm with e|hm
     ·subst e;simp at h
     ·exact ih h.2 hm
   rcases key with h1|⟨h1,hc⟩
   ·obtain⟨n1,h1⟩:=Zdh h1
    obtain⟨n2,h1⟩:=Zdh h1
    rw[hoth j n2 n1];exact h.pins j bi h1
   ·obtain⟨n1,h1⟩:=Zdh h1
    by_cases hjk:j=k
    ·subst hjk;exact absurd h1 (noK hc)
    ·rw[hoth j hjk n1];exact h.pins j bi h1
  refine⟨β',{
   tsize:= ?_,slots:= ?_,defers:=h.defers,objs:= ?_,inj:= ?_,own:= ?_,pins:=lentPin,sub:=h.sub,snew:=h.snew,slt:=h.slt,frame:=h.frame }⟩
  ·have:(st.rename k k').n=st.n:=by simp only[St.rename];cases (k==k')<;>rfl
   rw[this];exact h.tsize
  ·intro i
   rw[St.get_rename st k k' i hne]
   have hi:=h.slots i
   unfold St.get at hi
   cases hl:lk st.slots i with
   |none=>exact .any _
   |some v=>rw[hl]at hi;exact VR.ren hk' hoth 4 hi
  ·intro j o ho
   rw[St.obj_rename st k k' j hne]at ho
   by_cases e:j=k'
   ·rw[if_pos e,Yaj]at ho
    obtain⟨o0,ho0,rfl⟩:=ho
    subst e
    exact OR.step (h.objs k o0 ho0) (fun _ h=>h) (fun _ _=>rfl) (fun _ _=>rfl) hk' _ (fun v u hv=>VR.ren hk' hoth 3 hv)
   ·rw[if_neg e]at ho
    by_cases e2:j=k
    ·rw[if_pos e2]at ho;cases ho
    ·rw[if_neg e2,Yaj]at ho
     obtain⟨o0,ho0,rfl⟩:=ho
     exact OR.step (h.objs j o0 ho0) (fun _ h=>h) (fun _ _=>rfl) (fun _ _=>rfl) (hoth j e2 e) _ (fun v u hv=>VR.ren hk' hoth 3 hv)
  ·intro j j' bj bj' hj hj' hbj hbj' hblk
   rcases hsome hj with⟨e,hs⟩|⟨n1,n2,hs⟩<;>rcases hsome hj' with⟨e',hs'⟩|⟨n1',n2',hs'⟩
   ·rw[e,e']
   ·exfalso
    rw[e,hk']at hbj
    rw[hoth j' n2' n1']at hbj'
    exact n2' (h.inj k j' bj bj' hs hs' hbj hbj' hblk).symm
   ·exfalso
    rw[e',hk']at hbj'
    rw[hoth j n2 n1]at hbj
    exact n2 (h.inj j k bj bj' hs hs' hbj hbj' hblk)
   ·rw[hoth j n2 n1]at hbj
    rw[hoth j' n2' n1']at hbj'
    exact h.inj j j' bj bj' hs hs' hbj hbj' hblk
  ·intro j bj hj hbj
   rcases hsome hj with⟨e,hs⟩|⟨n1,n2,hs⟩
   ·rw[e,hk']at hbj
    refine⟨(h.own k bj hs hbj).1,(h.own k bj hs hbj).2.imp id (fun hL=>⟨hL.1,?_⟩)⟩
    rw[e];exact Zcv.1 hL.2
   ·rw[hoth j n2 n1]at hbj
    refine⟨(h.own j bj hs hbj).1,(h.own j bj hs hbj).2.imp id (fun hL=>⟨hL.1,Zcv.2 j hL.2⟩)⟩
theorem SR.forget (h:SR C S β st a w){st':St}(hn:st'.n=st.n)(hlent:st'.lent=st.lent)(hs: ∀i,st'.get i=st.get i\/st'.get i= .any)(hm: ∀k o,st'.obj k=some o->st.obj k=some o):SR C S β st' a w where
 tsize:=by rw[hn];exact h.tsize
 slots i:=by
  rcases hs i with e|e<;>rw[e]
  ·exact h.slots i
  ·exact .any _
 defers:=h.defers
 objs k o ho:=h.objs k o (hm k o ho)
 inj k k' bi bi' hk hk':=by
  obtain⟨o,ho⟩:=Yax.1 hk
  obtain⟨o',ho'⟩:=Yax.1 hk'
  exact h.inj k k' bi bi' (by simp[hm k o ho]) (by simp[hm k' o' ho'])
 own k bi hk:=by
  obtain⟨o,ho⟩:=Yax.1 hk
  rw[hlent]
  exact h.own k bi (by simp[hm k o ho])
 pins:=by rw[hlent];exact h.pins
 sub:=h.sub
 snew:=h.snew
 slt:=h.slt
 frame:=h.frame
def St.keep (st:St)(is ks:List Nat):St:=
 { n:=st.n,slots:=is.map fun i=>(i,st.get i),mem:=ks.filterMap fun k=>(st.obj k).map fun o=>(k,o),lent:=st.lent }
theorem Zso (f:Nat->V)(is:List Nat)(i:Nat):lk (is.map fun i=>(i,f i)) i=if i∈is then some (f i)else none:=by
 induction is with
 |nil=>rfl
 |cons j is ih=>
  simp only[List.map_cons,lk]
  by_cases e:j=i
  ·subst e;simp
  ·rw[show(j==i)=false from by simpa using e];simp only[cond_false,ih,Yav]
   have:(i=j)=False:=by simp;exact fun h=>e h.symm
   simp[this]
theorem ZwJ (f:Nat->Option ZaK)(ks:List Nat)(k:Nat)(o:ZaK):lk (ks.filterMap fun k=>(f k).map fun o=>(k,o)) k=some o->f k=some o:=by
 induction ks with
 |nil=>intro h;cases h
 |cons j ks ih=>
  intro h
  rw[List.filterMap_cons]at h
  cases hj:f j with
  |none=>rw[hj]at h;exact ih h
  |some o'=>
   rw[hj]at h
   simp only[Option.map_some,lk]at h
   by_cases e:j=k
   ·subst e;simp at h;rw[hj,h]
   ·rw[show(j==k)=false from by simpa using e]at h;exact ih h
theorem SR.keep (h:SR C S β st a w)(is ks:List Nat):SR C S β (st.keep is ks) a w:=by
 refine h.forget rfl rfl (fun i=> ?_) (fun k o ho=>ZwJ st.obj ks k o ho)
 have:=Zso st.get is i
 simp only[St.get,St.keep]at this ⊢
 rw[this]
 split
 ·exact .inl rfl
 ·exact .inr rfl
end
end Go.Abs
namespace Go.Abs
open Go Go.RowKit
def Zbu:Value->V
 |.int k n=> .int k n
 |.bool b=> .bool b
 |.string s=> .str s.data.toList
 |.slice none 0 0=> .nils
 |v=> .con v
theorem Zhm (S:Nat->Prop)(w:World)(v:Value):FR S w (Zbu v) v:=by
 unfold Zbu
 split
 ·exact .int _ _
 ·exact .bool _
 ·rename_i s
  exact FR.str (S:=S) (w:=w) s.data.toList
 ·exact .nils _
 ·exact .con _
def gV (g:Nat):V:=match lk ZEx g with
 |some cs=> .vptr (cs.map (V.int .u8))
 |none=> .any
def St.ev (st:St):Operand->V
 |.tmp t=>st.get t
 |.const v=>Zbu v
 |.global g=>gV g
 |.func f=> .fn f []
def Zgf (P:Program)(t:TypeId):Option (TypeId×Nat×Nat):=
 match P.underlying t with
 |some (.slice e)=>(P.info? e).map fun i=>(e,i.size,i.bytes)
 |_=>none
def ZAu (P:Program)(t:TypeId):Option (TypeId×Nat×Nat):=
 match P.underlying t with
 |some (.array n e)=>(P.info? e).map fun i=>(e,n,i.size)
 |_=>none
def szT (P:Program)(t:TypeId):Option Nat:=(P.info? t).map (·.size)
def ZnT (P:Program)(t:TypeId):Option Bool:=
 match P.underlying t with
 |some (.struct _)|some (.array _ _)=>some true
 |some _=>some false
 |none=>none
def ZhW (P:Program)(t:TypeId):Option IntKind:=
 match P.underlying t with
 |some (.int k)=>some k
 |_=>none
def ZiH (P:Program)(t:TypeId):Bool:=
 match P.underlying t with
 |some .string=>true
 |_=>false
def ZnU (P:Program)(t:TypeId):Bool:=
 match P.underlying t with
 |some .bool=>true
 |_=>false
def ZCi (P:Program)(t:TypeId)(f:Nat):Option (Nat×Bool×Nat×TypeId):=
 match P.underlying t with
 |some (.struct fs)=>match fs[f]? with
  |some g=>match ZnT P g.type,szT P g.type with
   |some b,some n=>some (g.offset,b,n,g.type)
   |_,_=>none
  |none=>none
 |_=>none
def Zhn (P:Program)(t:TypeId):Option Value:=match P.info? t with|some i=>i.zero|none=>none
theorem Zaz {P:Program}{t e:TypeId}{sz by_:Nat}(h:Zgf P t=some (e,sz,by_)):P.underlying t=some (.slice e)/\ ∃i,P.info? e=some i/\i.size=sz/\i.bytes=by_:=by
 unfold Zgf at h
 split at h
 ·rename_i e' he
  rw[Yaj]at h
  obtain⟨i,hi,h⟩:=h
  injection h with h1 h
  injection h with h2 h3
  subst h1
  exact⟨he,i,hi,h2,h3⟩
 ·cases h
theorem Ze6 {P:Program}{t e:TypeId}{n sz:Nat}(h:ZAu P t=some (e,n,sz)):P.underlying t=some (.array n e)/\ ∃i,P.info? e=some i/\i.size=sz:=by
 unfold ZAu at h
 split at h
 ·rename_i n' e' he
  rw[Yaj]at h
  obtain⟨i,hi,h⟩:=h
  injection h with h1 h
  injection h with h2 h3
  subst h1 h2
  exact⟨he,i,hi,h3⟩
 ·cases h
theorem ZiI {P:Program}{t ty:TypeId}{f off n:Nat}{b:Bool}(h:ZCi P t f=some (off,b,n,ty)): ∃fs g,P.underlying t=some (.struct fs)/\fs[f]? = some g/\g.offset=off/\ZnT P g.type=some b/\szT P g.type=some n:=by
 unfold ZCi at h
 split at h
 ·rename_i fs hfs
  split at h
  ·rename_i g hg
   split at h
   ·rename_i b' n' hb hn
    injection h with h
    injection h with h1 h
    injection h with h2 h
    injection h with h3 h4
    subst h2 h3
    exact⟨fs,g,hfs,hg,h1,hb,hn⟩
   ·cases h
  ·cases h
 ·cases h
theorem Zpf {P:Program}{t:TypeId}{n:Nat}(h:szT P t=some n): ∃i,P.info? t=some i/\i.size=n:=by
 unfold szT at h
 rw[Yaj]at h
 exact h
theorem Zdg {P:Program}{t:TypeId}{n:Nat}(h:szT P t=some n)(w:World):(sizeOf t).run P w= .ok n w:=by
 obtain⟨i,hi,rfl⟩:=Zpf h
 simp[sizeOf,typeInfo,hi]
theorem Zaw {P:Program}{t:TypeId}{i:TypeInfo}(hi:P.info? t=some i)(w:World):(sizeOf t).run P w= .ok i.size w:=by
 simp[sizeOf,typeInfo,hi]
theorem ZdY {P:Program}{t:TypeId}{b:Bool}(h:ZnT P t=some b)(w:World):(isAgg t).run P w= .ok b w:=by
 unfold ZnT at h
 split at h
 ·rename_i d hd;cases h;simp[isAgg,run_underlying hd]
 ·rename_i n e hd;cases h;simp[isAgg,run_underlying hd]
 ·rename_i d h1 h2 hd
  cases h
  simp only[isAgg,Sem.run_bind,run_underlying hd,Result.andThen_ok]
  rfl
 ·cases h
def vi:V->Int|.int _ n=>n|_=>0
def vb:V->Bool|.bool b=>b|_=>false
def vst:V->List UInt8|.str s=>s|_=>[]
def vn:V->Nat|.view n _ _=>n|_=>0
def vcs:V->List V|.view _ _ cs=>cs|_=>[]
def Zac (P:Program)(t:TypeId)(v:V):Prop×V:=
 match ZhW P t with
 |some k=>(∃n,v= .int k n,.int k (vi v))
 |none=>bif ZnU P t then(∃b,v= .bool b,.bool (vb v))else bif ZiH P t then(∃s,v= .str s,.str (vst v))else
  match Zgf P t with
  |some (_,sz,_)=>(∃n cs,v= .view n sz cs,.view (vn v) sz (vcs v))
  |none=>(True,v)
theorem Zik {P:Program}{t:TypeId}{v:V}(h:(Zac P t v).1):(Zac P t v).2=v:=by
 unfold Zac at h ⊢
 split
 ·rename_i k hk
  rw[hk]at h
  obtain⟨n,rfl⟩:=h
  rfl
 ·rename_i hk
  rw[hk]at h
  simp only at h
  cases hb:ZnU P t with
  |true=>rw[hb]at h;obtain⟨b,rfl⟩:=h;rfl
  |false=>
   rw[hb]at h
   simp only[cond_false]at h ⊢
   cases hs:ZiH P t with
   |true=>rw[hs]at h;obtain⟨s,rfl⟩:=h;rfl
   |false=>
    rw[hs]at h
    simp only[cond_false]at h ⊢
    split
    ·rename_i e sz b he
     rw[he]at h
     obtain⟨n,cs,rfl⟩:=h
     rfl
    ·rfl
def Zt (op:BinOp)(k:IntKind)(x y:Int):Int:=
 match op with
 |.and=>k.wrap (BitVec.ofInt k.bits x &&& BitVec.ofInt k.bits y).toNat
 |.or=>k.wrap (BitVec.ofInt k.bits x ||| BitVec.ofInt k.bits y).toNat
 |.xor=>k.wrap (BitVec.ofInt k.bits x ^^^ BitVec.ofInt k.bits y).toNat
 |_=>k.wrap (BitVec.ofInt k.bits x &&& ~~~ BitVec.ofInt k.bits y).toNat
def ZCj (op:BinOp)(k:IntKind)(a b:Int):Option (Prop×V):=
 match op with
 |.add=>some (True,.int k (k.wrap (a+b)))
 |.sub=>some (True,.int k (k.wrap (a-b)))
 |.mul=>some (True,.int k (k.wrap (a*b)))
 |.quo=>some (b≠0,.int k (k.wrap (a.tdiv b)))
 |.rem=>some (b≠0,.int k (a.tmod b))
 |.and=>some (True,.int k (Zt .and k a b))
 |.or=>some (True,.int k (Zt .or k a b))
 |.xor=>some (True,.int k (Zt .xor k a b))
 |.andNot=>some (True,.int k (Zt .andNot k a b))
 |.eql=>some (True,.bool (a==b))
 |.neq=>some (True,.bool (a != b))
 |.lss=>some (True,.bool (decide (a<b)))
 |.leq=>some (True,.bool (decide (a<=b)))
 |.gtr=>some (True,.bool (decide (a>b)))
 |.geq=>some (True,.bool (decide (a>=b)))
 |_=>none
def ZEe (op:BinOp)(k:IntKind)(a b:Int):Option (Prop×V):=
 match op with
 |.shl=>some (0<=b,.int k (k.wrap (a*2^min b.toNat k.bits)))
 |.shr=>some (0<=b,.int k (a.fdiv (2^min b.toNat k.bits)))
 |_=>none
def ZCk (op:BinOp)(a b:List UInt8):Option (Prop×V):=
 match op with
 |.add=>some (a.length+b.length<=9223372036854775807,.str (a++b))
 |.eql=>some (True,.bool (a==b))
 |.neq=>some (True,.bool (!(a==b)))
 |_=>none
def eqS:V->V->Bool
 |.int _ a,.int _ b=>a==b
 |.bool a,.bool b=>a==b
 |.str a,.str b=>a==b
 |_,_=>false
def eqL:List V->List V->Bool
 |[],[]=>true
 |a::as,b::bs=>eqS a b&&eqL as bs
 |_,_=>false
def ZwK:V->Option (List V)
 |.agg cs=>some cs
 |.fagg cs=>some cs
 |_=>none
def ZiJ (cs:List V):List Int:=cs.map vi
def Zl0 (P:Program):Nat->List Field->List V->List V->Bool
 |_,[],[],[]=>true
 |i,f::fs,.int k _::as,.int k' _::bs=>f.offset==i&&f.name != "_" && (ZhW P f.type).isSome&&decide (k=k')&&Zl0 P (i+1) fs as bs
 |i,f::fs,.bool _::as,.bool _::bs=>f.offset==i&&f.name != "_" && ZnU P f.type&&Zl0 P (i+1) fs as bs
 |i,f::fs,.str _::as,.str _::bs=>f.offset==i&&f.name != "_" && ZiH P f.type&&Zl0 P (i+1) fs as bs
 |_,_,_,_=>false
def Zsp (P:Program)(t:TypeId)(a b:List V):Option (Prop×Bool):=
 match P.underlying t with
 |some (.array n e)=>match ZhW P e,szT P e with
  |some _,some 1=>some ((∃k,a=(ZiJ a).map (V.int k)/\b=(ZiJ b).map (V.int k))/\a.length=n/\b.length=n,decide (ZiJ a=ZiJ b))
  |_,_=>none
 |some (.struct fs)=>some (P.stoodInHeld t=false/\Zl0 P 0 fs.toList a b=true,eqL a b)
 |_=>none
def Zsq (P:Program)(op:BinOp)(t:TypeId)(a b:List V):Option (Prop×V):=
 match op,Zsp P t a b with
 |.eql,some (c,r)=>some (P.eqGuardType P.depth t=false/\c,.bool r)
 |.neq,some (c,r)=>some (P.eqGuardType P.depth t=false/\c,.bool !r)
 |_,_=>none
def ZEf (P:Program)(op:BinOp)(xt:TypeId)(x y:V):Option (Prop×V):=
 match x,y with
 |.int k a,.int k' b=>match op with
  |.shl=>ZEe .shl k a b
  |.shr=>ZEe .shr k a b
  |op=>if k=k' then ZCj op k a b else none
 |.str a,.str b=>ZCk op a b
 |.bool a,.bool b=>bif ZnU P xt then(match op with
  |.eql=>some (True,.bool (a==b))
  |.neq=>some (True,.bool (!(a==b)))
  |_=>none)else none
 |.agg a,.agg b|.agg a,.fagg b|.fagg a,.agg b|.fagg a,.fagg b=>Zsq P op xt a b
 |_,_=>none
section
variable {P:Program}{S:Nat->Prop}{w:World}{β:Nat->Option BI}
theorem VR.int_inv {k:IntKind}{n:Int}{u:Value}(h:VR S w β (.int k n) u):u= .int k n:=by
 cases h with|flat h=>cases h with|int=>rfl
theorem VR.bool_inv {b:Bool}{u:Value}(h:VR S w β (.bool b) u):u= .bool b:=by
 cases h with|flat h=>cases h with|bool=>rfl
theorem VR.str_inv {s:List UInt8}{u:Value}(h:VR S w β (.str s) u):u= .string ⟨s.toArray⟩:=by
 cases h with|flat h=>cases h with|str=>rfl
theorem VR.nils_inv {u:Value}(h:VR S w β .nils u): ∃A,u= .slice A 0 0:=by
 cases h with|flat h=>cases h with|nils A=>exact⟨A,rfl⟩
theorem VR.con_inv {v u:Value}(h:VR S w β (.con v) u):u=v:=by
 cases h with|flat h=>cases h with|con=>rfl
theorem VR.int {k:IntKind}{n:Int}:VR S w β (.int k n) (.int k n):= .flat (.int k n)
theorem VR.bool {b:Bool}:VR S w β (.bool b) (.bool b):= .flat (.bool b)
theorem VR.str {s:List UInt8}:VR S w β (.str s) (.string ⟨s.toArray⟩):= .flat (.str s)
theorem Zag {C:Ctx}{st:St}{a:Act}(h:SR C S β st a w)(x:Operand):VR S w β (st.ev x) (a.eval x):=by
 cases x with
 |tmp t=>exact h.slots t
 |const v=>exact .flat (Zhm S w v)
 |global g=>
  show VR S w β (gV g) (.pointer (some ⟨g,0,none⟩))
  unfold gV
  split
  ·rename_i cs hcs
   obtain⟨h1,h2⟩:=h.sok.2 g cs hcs
   refine .flat (.vptr _ g 0 (fun j=> .int .u8 (cs.getD j 0)) (fun _=>h1) ?_ ?_ ?_)
   ·intro j v hj
    rw[Yas,Yaj]at hj
    obtain⟨x,hx,rfl⟩:=hj
    rw[Nat.zero_add,h2 j x hx,Yah,hx];rfl
   ·intro j v hj
    rw[Yas,Yaj]at hj
    obtain⟨x,hx,rfl⟩:=hj
    rw[Yah,hx];exact .int _ _
   ·intro j v hj
    rw[Yas,Yaj]at hj
    obtain⟨x,hx,rfl⟩:=hj
    rfl
  ·exact .any _
 |func f=>exact .flat (.fn f)
theorem Zgy {v:V}{cs:List V}{u:Value}(hv:ZwK v=some cs)(h:VR S w β v u): ∃us,u= .agg us/\cs.length=us.size/\ ∀(j:Nat) (v:V) (u:Value),cs[j]? = some v->us[j]? = some u->VR S w β v u:=by
 cases v<;>simp only[ZwK,Yac]at hv<;>first|(cases hv;done)|skip
 ·subst hv
  cases h with
  |flat h=>cases h
  |agg _ us hl hr=>exact⟨us,rfl,hl,hr⟩
 ·subst hv
  cases h with
  |flat h=>cases h with
   |fagg _ us hl hr h1=>exact⟨us,rfl,hl,fun j v u h1 h2=> .flat (hr j v u h1 h2)⟩
theorem ZeT {e:TypeId}{k k':IntKind}(d:Nat)(he:P.underlying e=some (.int k'))(xs ys:List Int)(w:World): ∀(l:List Nat),(∀i∈l,i<xs.length/\i<ys.length)->
 (Op.eqItems (d+1) e 1 (xs.map (Value.int k)).toArray (ys.map (Value.int k)).toArray l).run P w= .ok (l.all fun i=>xs.getD i 0==ys.getD i 0) w
 |[],_=>by simp[Op.eqItems]
 |i::l,h=>by
  have h1:=(h i (List.mem_cons_self ..)).1
  have h2:=(h i (List.mem_cons_self ..)).2
  have px:(part e (xs.map (Value.int k)).toArray (i*1)).run P w= .ok (.int k (xs.getD i 0)) w:=by
    simp[part,isAgg,run_underlying he,List.getD,Yab h1]
  have py:(part e (ys.map (Value.int k)).toArray (i*1)).run P w= .ok (.int k (ys.getD i 0)) w:=by
    simp[part,isAgg,run_underlying he,List.getD,Yab h2]
  have pe:(Op.equalIn (d+1) e (.int k (xs.getD i 0)) (.int k (ys.getD i 0))).run P w= .ok (xs.getD i 0==ys.getD i 0) w:=run_equalIn_int w d e k k' _ _ he
  simp only[Op.eqItems,Sem.run_bind,px,py,pe,Result.andThen_ok,List.all_cons]
  cases hb:(xs.getD i 0==ys.getD i 0)
  ·simp
  ·simp only[Bool.not_true,Bool.false_eq_true,if_false,Bool.true_and]
   exact ZeT d he xs ys w l fun j hj=>h j (Yaq _ hj)
theorem Zgz: ∀(xs ys:List Int),xs.length=ys.length->((List.range xs.length).all fun i=>xs.getD i 0==ys.getD i 0)=decide (xs=ys)
 |[],[],_=>rfl
 |x::xs,y::ys,h=>by
  have ih:=Zgz xs ys (by simpa using h)
  rw[Yag,List.range_succ_eq_map,List.all_cons,List.all_map]
  simp only[List.getD_cons_zero,Function.comp_def,List.getD_cons_succ,ih]
  rw[Bool.eq_iff_iff];simp
 |[],_::_,h=>by simp at h
 |_::_,[],h=>by simp at h
theorem Zpg {cs:List V}{k:IntKind}{us:Array Value}(hc:cs=(ZiJ cs).map (V.int k))(hl:cs.length=us.size)(hr: ∀(j:Nat) (v:V) (u:Value),cs[j]? = some v->us[j]? = some u->VR S w β v u):us=((ZiJ cs).map (Value.int k)).toArray:=by
 apply Array.ext
 ·rw[<- hl];simp[ZiJ]
 ·intro j h1 h2
  have hj:j<(ZiJ cs).length:=by simpa using h2
  have hv:cs[j]? = some (.int k (ZiJ cs)[j]):=by
   have:cs[j]? = ((ZiJ cs).map (V.int k))[j]? :=congrArg (fun l=>l[j]?) hc
   rw[this];simp[Yab hj]
  have:=VR.int_inv (hr j _ _ hv (Array.getElem?_eq_getElem h1))
  rw[this];simp
theorem Zdy {us us':Array Value}(d:Nat): ∀(fs:List Field) (i:Nat) (a b:List V),Zl0 P i fs a b=true->
 (∀(j:Nat) (v:V),a[j]? = some v-> ∃u,us[i+j]? = some u/\VR S w β v u)->(∀(j:Nat) (v:V),b[j]? = some v-> ∃u,us'[i+j]? = some u/\VR S w β v u)->
 (Op.eqFields (d+1) us us' fs).run P w= .ok (eqL a b) w
 |[],i,a,b,h,_,_=>by
  rcases a with _|⟨va,as⟩
  ·rcases b with _|⟨vb,bs⟩
   ·simp[Op.eqFields,eqL]
   ·simp[Zl0]at h
  ·cases va<;>simp[Zl0]at h
 |f::fs,i,a,b,h,ha,hb=>by
  have key: ∀(x y:V) (as bs:List V) (r:Bool),a=x::as->b=y::bs->f.offset=i->f.name ≠ "_" -> ZnT P f.type=some false->eqS x y=r->Zl0 P (i+1) fs as bs=true->
    (∀ux uy,VR S w β x ux->VR S w β y uy->(Op.equalIn (d+1) f.type ux uy).run P w= .ok r w)->(Op.eqFields (d+1) us us' (f::fs)).run P w= .ok (eqL a b) w:=by
    intro x y as bs r ea eb ho hn hag hr hok hrun
    subst ea;subst eb
    obtain⟨ux,hux,hvx⟩:=ha 0 x rfl
    obtain⟨uy,huy,hvy⟩:=hb 0 y rfl
    have px:(part f.type us f.offset).run P w= .ok ux w:=by
     rw[ho];simp[part,ZdY hag];rw[Nat.add_zero]at hux;simp[hux]
    have py:(part f.type us' f.offset).run P w= .ok uy w:=by
     rw[ho];simp[part,ZdY hag];rw[Nat.add_zero]at huy;simp[huy]
    have ih:=Zdy (us:=us) (us':=us') d fs (i+1) as bs hok (fun j v hj=>by
     have:=ha (j+1) v (by simpa using hj);rwa [show i+(j+1)=i+1+j from by omega]at this) (fun j v hj=>by
     have:=hb (j+1) v (by simpa using hj);rwa [show i+(j+1)=i+1+j from by omega]at this)
    simp only[Op.eqFields,if_pos hn,Sem.run_bind,px,py,hrun ux uy hvx hvy,Result.andThen_ok,eqL,hr]
    cases r
    ·simp
    ·simp only[Bool.not_true,Bool.false_eq_true,if_false,Bool.true_and];exact ih
  rcases a with _|⟨va,as⟩
  ·simp[Zl0]at h
  rcases b with _|⟨vb,bs⟩
  ·cases va<;>simp[Zl0]at h
  cases va<;>first|(simp[Zl0]at h;done)|skip
  case int k x=>
    cases vb<;>first|(simp[Zl0]at h;done)|skip
    rename_i k' y
    simp only[Zl0,Yao,beq_iff_eq,bne_iff_ne,ne_eq,Yaz]at h
    obtain⟨⟨⟨⟨h1,h2⟩,h3⟩,h4⟩,h5⟩:=h
    subst h4
    obtain⟨q,hq⟩:=Yax.1 h3
    have hu:P.underlying f.type=some (.int q):=by
     unfold ZhW at hq
     split at hq
     ·injection hq with hq;subst hq;assumption
     ·cases hq
    refine key _ _ _ _ (x==y) rfl rfl h1 h2 (by simp[ZnT,hu]) rfl h5 fun ux uy hx hy=> ?_
    rw[VR.int_inv hx,VR.int_inv hy]
    exact run_equalIn_int w d f.type k q x y hu
  case bool x=>
    cases vb<;>first|(simp[Zl0]at h;done)|skip
    rename_i y
    simp only[Zl0,Yao,beq_iff_eq,bne_iff_ne,ne_eq]at h
    obtain⟨⟨⟨h1,h2⟩,h3⟩,h5⟩:=h
    have hu:P.underlying f.type=some .bool:=by
     unfold ZnU at h3
     split at h3
     ·assumption
     ·cases h3
    refine key _ _ _ _ (x==y) rfl rfl h1 h2 (by simp[ZnT,hu]) rfl h5 fun ux uy hx hy=> ?_
    rw[VR.bool_inv hx,VR.bool_inv hy]
    exact run_equalIn_bool w d f.type x y hu
  case str x=>
    cases vb<;>first|(simp[Zl0]at h;done)|skip
    rename_i y
    simp only[Zl0,Yao,beq_iff_eq,bne_iff_ne,ne_eq]at h
    obtain⟨⟨⟨h1,h2⟩,h3⟩,h5⟩:=h
    have hu:P.underlying f.type=some .string:=by
     unfold ZiH at h3
     split at h3
     ·assumption
     ·cases h3
    refine key _ _ _ _ (x==y) rfl rfl h1 h2 (by simp[ZnT,hu]) rfl h5 fun ux uy hx hy=> ?_
    rw[VR.str_inv hx,VR.str_inv hy,run_equalIn_string w d f.type _ _ hu]
    simp[ByteArray.toList_eq]
theorem ZhX {t:TypeId}{a b:List V}{c:Prop}{r:Bool}{us us':Array Value}(h:Zsp P t a b=some (c,r))(hc:c)(hla:a.length=us.size)(hlb:b.length=us'.size)
 (ha: ∀(j:Nat) (v:V) (u:Value),a[j]? = some v->us[j]? = some u->VR S w β v u) (hb: ∀(j:Nat) (v:V) (u:Value),b[j]? = some v->us'[j]? = some u->VR S w β v u) :
 (Op.equalIn 10000 t (.agg us) (.agg us')).run P w= .ok r w:=by
 unfold Zsp at h
 split at h<;>first|(cases h;done)|skip
 ·rename_i n e hu
  split at h<;>first|(cases h;done)|skip
  rename_i k' hk hs
  simp only[Yac,Yai]at h
  obtain⟨rfl,rfl⟩:=h
  obtain⟨⟨k,e1,e2⟩,e3,e4⟩:=hc
  have hue:P.underlying e=some (.int k'):=by
   unfold ZhW at hk
   split at hk
   ·injection hk with hk;subst hk;assumption
   ·cases hk
  obtain⟨i,hi,hsz⟩:=Zpf hs
  have hcell:P.cellsOf e=1:=by simp[Program.cellsOf,hi,hsz]
  rw[run_equalIn_array w 9999 us us' hu hi,hcell,Zpg e1 hla ha,Zpg e2 hlb hb]
  have l1:(ZiJ a).length=n:=by rw[<- e3];simp[ZiJ]
  have l2:(ZiJ b).length=n:=by rw[<- e4];simp[ZiJ]
  rw[ZeT 9998 hue (ZiJ a) (ZiJ b) w (List.range n) (fun i hi=>by rw[List.mem_range]at hi;omega),<- Zgz (ZiJ a) (ZiJ b) (by omega),l1]
 ·rename_i fs hu
  simp only[Yac,Yai]at h
  obtain⟨rfl,rfl⟩:=h
  have hf:P.fieldsOf t=fs:=by simp[Program.fieldsOf,hu]
  rw[run_equalIn_struct w 9999 t us us' (by rw[hf];exact hu) hc.1,hf]
  exact Zdy 9998 fs.toList 0 a b hc.2 (fun j v hj=>by
   have hlt:j<us.size:=by rw[<- hla];exact(Yak.1 hj).1
   exact⟨us[j],by simp[hlt],ha j v _ hj (by simp[hlt])⟩) (fun j v hj=>by
   have hlt:j<us'.size:=by rw[<- hlb];exact(Yak.1 hj).1
   exact⟨us'[j],by simp[hlt],hb j v _ hj (by simp[hlt])⟩)
theorem Zeg {op:BinOp}{t:TypeId}{x y v:V}{a b:List V}{c:Prop}{ux uy:Value}(hxa:ZwK x=some a)(hyb:ZwK y=some b)(h:Zsq P op t a b=some (c,v))(hc:c)(hx:VR S w β x ux)(hy:VR S w β y uy) :
 ∃u,(binOp op t ux uy).run P w= .ok u w/\VR S w β v u:=by
 obtain⟨us,rfl,hla,ha⟩:=Zgy hxa hx
 obtain⟨us',rfl,hlb,hb⟩:=Zgy hyb hy
 unfold Zsq at h
 split at h<;>first|(cases h;done)|skip
 ·rename_i c' r he
  simp only[Yac,Yai]at h
  obtain⟨rfl,rfl⟩:=h
  have:=ZhX he hc.2 hla hlb ha hb
  exact⟨_,by simp only[binOp,Op.equal,Op.maxDepth,Sem.run_bind,this,Result.andThen_ok,Sem.run_pure],.bool⟩
 ·rename_i c' r he
  simp only[Yac,Yai]at h
  obtain⟨rfl,rfl⟩:=h
  have:=ZhX he hc.2 hla hlb ha hb
  exact⟨_,by simp only[binOp,Op.equal,Op.maxDepth,Sem.run_bind,this,Result.andThen_ok,Sem.run_pure],.bool⟩
theorem ZnV {op:BinOp}{t:TypeId}{v:V}{a b:List V}{c:Prop}(h:Zsq P op t a b=some (c,v))(hc:c):P.eqGuardType P.depth t=false:=by
 unfold Zsq at h
 split at h<;>first|(cases h;done)|skip
 all_goals(simp only[Yac,Yai]at h;obtain⟨rfl,rfl⟩:=h;exact hc.1)
theorem ZiK {op:BinOp}{t:TypeId}(x y:Operand)(us us':Array Value)(h:P.eqGuardType P.depth t=false):(eqGuard op t x y (.agg us) (.agg us')).run P w= .ok () w:=by
 unfold eqGuard
 cases op<;>first|rfl|(simp[h])
theorem Zrf {op:BinOp}{xt:TypeId}{x y v:V}{c:Prop}{ux uy:Value}(h:ZEf P op xt x y=some (c,v))(hc:c)(hx:VR S w β x ux)(hy:VR S w β y uy) :
 ∃u,(binOp op xt ux uy).run P w= .ok u w/\VR S w β v u:=by
 unfold ZEf at h
 split at h
 ·rename_i k a k' b
  rw[VR.int_inv hx,VR.int_inv hy]
  split at h
  ·simp only[ZEe,Yac,Yai]at h
   obtain⟨rfl,rfl⟩:=h
   refine⟨_,?_,.int⟩
   simp only[binOp,Op.shift]
   rw[if_neg (by omega)]
   simp
  ·simp only[ZEe,Yac,Yai]at h
   obtain⟨rfl,rfl⟩:=h
   refine⟨_,?_,.int⟩
   simp only[binOp,Op.shift]
   rw[if_neg (by omega)]
   simp
  ·split at h
   ·rename_i h1 h2 hk
    subst hk
    unfold ZCj at h
    split at h<;>first|(cases h;done)|skip
    all_goals(simp only[Yac,Yai]at h;obtain⟨rfl,rfl⟩:=h)
    all_goals first
     |(refine⟨_,?_,.int⟩;simp[binOp,Op.intArith];done)
     |(refine⟨_,?_,.int⟩;simp[binOp,Op.intBits,Zt];done)
     |(refine⟨_,?_,.bool⟩;simp[binOp,Op.intCmp];done)
     |(refine⟨_,?_,.int⟩;simp[binOp,Op.intDiv,hc];done)
   ·cases h
 ·rename_i a b
  rw[VR.str_inv hx,VR.str_inv hy]
  unfold ZCk at h
  split at h<;>first|(cases h;done)|skip
  all_goals(simp only[Yac,Yai]at h;obtain⟨rfl,rfl⟩:=h)
  ·refine⟨.string (⟨a.toArray⟩++⟨b.toArray⟩),?_,?_⟩
   ·have: ¬((((⟨a.toArray⟩:ByteArray).size+(⟨b.toArray⟩:ByteArray).size:Nat):Int)>IntKind.i64.max):=by
     have e1:(⟨a.toArray⟩:ByteArray).size=a.length:=by simp[ByteArray.size]
     have e2:(⟨b.toArray⟩:ByteArray).size=b.length:=by simp[ByteArray.size]
     rw[e1,e2]
     simp[IntKind.max,IntKind.signed,IntKind.bits]
     omega
    simp only[binOp,Op.stringOp]
    rw[if_neg this]
    rfl
   ·have:(⟨a.toArray⟩++⟨b.toArray⟩:ByteArray)=⟨(a++b).toArray⟩:=by
     apply ByteArray.ext
     simp
    rw[this]
    exact .str
  ·refine⟨_,?_,.bool⟩
   simp[binOp,Op.stringOp,ByteArray.toList_eq]
  ·refine⟨_,?_,.bool⟩
   simp[binOp,Op.stringOp,ByteArray.toList_eq]
 ·rename_i a b
  rw[VR.bool_inv hx,VR.bool_inv hy]
  cases hb:ZnU P xt with
  |false=>rw[hb]at h;cases h
  |true=>
   rw[hb]at h
   simp only[cond_true]at h
   have hu:P.underlying xt=some .bool:=by
     unfold ZnU at hb
     split at hb
     ·assumption
     ·cases hb
   split at h<;>first|(cases h;done)|skip
   all_goals(simp only[Yac,Yai]at h;obtain⟨rfl,rfl⟩:=h)
   ·refine⟨_,?_,.bool⟩
    have he:=run_equalIn_bool (P:=P) w 9999 xt a b hu
    simp only[binOp,Op.equal,Op.maxDepth,Sem.run_bind,he,Result.andThen_ok,Sem.run_pure]
   ·refine⟨_,?_,.bool⟩
    have he:=run_equalIn_bool (P:=P) w 9999 xt a b hu
    simp only[binOp,Op.equal,Op.maxDepth,Sem.run_bind,he,Result.andThen_ok,Sem.run_pure]
 ·exact Zeg rfl rfl h hc hx hy
 ·exact Zeg rfl rfl h hc hx hy
 ·exact Zeg rfl rfl h hc hx hy
 ·exact Zeg rfl rfl h hc hx hy
 ·cases h
end
end Go.Abs
namespace Go.Abs
open Go Go.RowKit
def byteOf:V->UInt8
 |.int _ n=>UInt8.ofNat n.toNat
 |_=>0
def Zgg (b:UInt8):V:= .int .u8 b.toNat
def unV (op:UnOp)(x:V):Option (Prop×V):=
 match op,x with
 |.not,.bool b=>some (True,.bool !b)
 |.neg,.int k n=>some (True,.int k (k.wrap (0-n)))
 |.xor,.int k n=>some (True,.int k (Zt .xor k (if k.signed then -1 else k.max) n))
 |_,_=>none
def St.cells (st:St):V->Option (List V)
 |.nils=>some []
 |.view _ _ cs=>some cs
 |.ref k off n sz=>(st.obj k).map fun o=>(o.cs.drop off).take (n*sz)
 |_=>none
def ZjV (P:Program)(st:St)(src dst:TypeId)(x:V):Option (Prop×V):=
 match x with
 |.int _ n=>match ZhW P dst,(P.underlying src).isSome with
  |some k,true=>some (True,.int k (k.wrap n))
  |_,_=>none
 |.str s=>bif ZiH P src&&ZiH P dst then some (True,.str s)else none
 |.view _ sz cs=>match Zgf P src with
  |some (e,_,_)=>match ZhW P e,ZiH P dst,sz with
   |some .u8,true,1=>some (cs=(cs.map byteOf).map Zgg,.str (cs.map byteOf))
   |_,_,_=>none
  |none=>none
 |.ref k off n sz=>match Zgf P src,st.obj k with
  |some (e,_,_),some o=>match ZhW P e,ZiH P dst,sz with
   |some .u8,true,1=>some (off+n<=o.cs.length/\o.flat=true/\((o.cs.drop off).take n)=(((o.cs.drop off).take n).map byteOf).map Zgg,.str (((o.cs.drop off).take n).map byteOf))
   |_,_,_=>none
  |_,_=>none
 |.nils=>match Zgf P src with
  |some (e,_,_)=>match ZhW P e,ZiH P dst with
   |some .u8,true=>some (True,.str [])
   |_,_=>none
  |none=>none
 |_=>none
def Zsr (P:Program)(t:TypeId)(x:V)(f:Nat):Option (Prop×V):=
 match ZCi P t f with
 |some (off,b,n,ty)=>match x with
  |.agg cs=>bif b then some (True,.agg ((cs.drop off).take n))else some (off<cs.length,cs.getD off .any)
  |.fagg cs=>bif b then some (True,.fagg ((cs.drop off).take n))else some (off<cs.length/\(Zac P ty (cs.getD off .any)).1,(Zac P ty (cs.getD off .any)).2)
  |_=>none
 |none=>none
def ZkG (x:V)(i:Nat):Option (Prop×V):=
 match x with
 |.tup vs=>some (i<vs.length,vs.getD i .any)
 |_=>none
def Zss (P:Program)(t:TypeId)(x i:V):Option (Prop×V):=
 match i with
 |.int _ i=>match x with
  |.str s=>bif ZiH P t then some (0<=i/\i<s.length,.int .u8 (s.getD i.toNat 0).toNat)else none
  |.agg cs=>match ZAu P t with
   |some (e,n,sz)=>match ZnT P e with
    |some false=>some ((0<=i/\i<n)/\i.toNat*sz<cs.length,cs.getD (i.toNat*sz) .any)
    |_=>none
   |none=>none
  |.fagg cs=>match ZAu P t with
   |some (e,n,sz)=>match ZnT P e with
    |some false=>some (((0<=i/\i<n)/\i.toNat*sz<cs.length)/\(Zac P e (cs.getD (i.toNat*sz) .any)).1,(Zac P e (cs.getD (i.toNat*sz) .any)).2)
    |_=>none
   |none=>none
  |_=>none
 |_=>none
def Zho (P:Program)(t:TypeId)(x i:V):Option (Prop×V):=
 match i with
 |.int _ i=>match x with
  |.view n sz cs=>match Zgf P t with
   |some (_,sz',_)=>bif sz==sz'&&decide (0<sz)then some (0<=i/\i<n,.vptr (cs.drop (i.toNat*sz)))else none
   |none=>none
  |.ref k off n sz=>match Zgf P t with
   |some (_,sz',_)=>bif sz==sz'&&decide (0<sz)then some (0<=i/\i<n,.ptr k (off+i.toNat*sz))else none
   |none=>none
  |.ptr k off=>match ZAu P t with
   |some (_,n,sz)=>some (0<=i/\i<n,.ptr k (off+i.toNat*sz))
   |none=>none
  |.vptr cs=>match ZAu P t with
   |some (_,n,sz)=>some (0<=i/\i<n,.vptr (cs.drop (i.toNat*sz)))
   |none=>none
  |_=>none
 |_=>none
def Zhp (P:Program)(t:TypeId)(x:V)(f:Nat):Option (Prop×V):=
 match ZCi P t f with
 |some (off,_,n,_)=>bif decide (0<n)then(match x with
  |.ptr k o=>some (True,.ptr k (o+off))
  |.vptr cs=>some (True,.vptr (cs.drop off))
  |_=>none)else none
 |none=>none
def ZiL (P:Program)(st:St)(t:TypeId)(x:V):Option (Prop×V):=
 match ZnT P t,szT P t with
 |some b,some n=>match x with
  |.vptr cs=>bif b then some (n<=cs.length,.fagg (cs.take n))else some (0<cs.length/\(Zac P t (cs.getD 0 .any)).1,(Zac P t (cs.getD 0 .any)).2)
  |.ptr k off=>match st.obj k with
   |some o=>bif b then some (off+n<=o.cs.length,bif o.flat then .fagg ((o.cs.drop off).take n)else .agg ((o.cs.drop off).take n))
    else bif o.flat then some (off<o.cs.length/\(Zac P t (o.cs.getD off .any)).1,(Zac P t (o.cs.getD off .any)).2)
    else some (off<o.cs.length,o.cs.getD off .any)
   |none=>none
  |_=>none
 |_,_=>none
def loI:Option V->Option Int
 |none=>some 0
 |some (.int _ i)=>some i
 |_=>none
def hiI (n:Nat):Option V->Option Int
 |none=>some n
 |some (.int _ i)=>some i
 |_=>none
def ZgA (P:Program)(st:St)(t:TypeId)(x:V)(lo hi:Option V):Option (Prop×V):=
 match x with
 |.str s=>bif ZiH P t then(match loI lo,hiI s.length hi with
  |some l,some h=>some (0<=l/\l<=h/\h<=s.length,.str ((s.drop l.toNat).take (h.toNat-l.toNat)))
  |_,_=>none)else none
 |.view n sz cs=>match Zgf P t,loI lo,hiI n hi with
  |some (_,sz',_),some l,some h=>bif sz==sz' then some (0<=l/\l<=h/\h<=n,.view (h.toNat-l.toNat) sz ((cs.drop (l.toNat*sz)).take ((h.toNat-l.toNat)*sz)))else none
  |_,_,_=>none
 |.nils=>match Zgf P t,loI lo,hiI 0 hi with
  |some _,some l,some h=>some (0<=l/\l<=h/\h<=0,.nils)
  |_,_,_=>none
 |.ref k off n sz=>match Zgf P t,loI lo,hiI n hi with
  |some (_,sz',_),some l,some h=>bif sz==sz' then some (0<=l/\l<=h/\h<=n,.ref k (off+l.toNat*sz) (h.toNat-l.toNat) sz)else none
  |_,_,_=>none
 |.ptr k off=>match ZAu P t,st.obj k with
  |some (_,n,sz),some o=>match loI lo,hiI n hi with
   |some l,some h=>some ((0<=l/\l<=h/\h<=n)/\off+n*sz<=o.cs.length,.ref k (off+l.toNat*sz) (h.toNat-l.toNat) sz)
   |_,_=>none
  |_,_=>none
 |_=>none
def ZEy (P:Program)(t:TypeId)(x:V):Option (Prop×V):=
 match x with
 |.str s=>bif ZiH P t then some (True,.int .i64 s.length)else none
 |.view n _ _=>bif (Zgf P t).isSome then some (True,.int .i64 n)else none
 |.ref _ _ n _=>bif (Zgf P t).isSome then some (True,.int .i64 n)else none
 |.nils=>bif (Zgf P t).isSome then some (True,.int .i64 0)else none
 |_=>none
section
variable {P:Program}{S:Nat->Prop}{w:World}{β:Nat->Option BI}{C:Ctx}{st:St}{a:Act}
theorem Zbl {t:TypeId}{k:IntKind}(h:ZhW P t=some k):P.underlying t=some (.int k):=by
 unfold ZhW at h
 split at h
 ·injection h with h;subst h;assumption
 ·cases h
theorem ZaL {t:TypeId}(h:ZiH P t=true):P.underlying t=some .string:=by
 unfold ZiH at h
 split at h
 ·assumption
 ·cases h
theorem ZaP (b o n:Nat):(⟨b,o,none⟩:Addr).add n=⟨b,o+n,none⟩:=by
 unfold Addr.add;split<;>simp_all
theorem VR.view_inv {n sz:Nat}{cs:List V}{u:Value}(h:VR S w β (.view n sz cs) u): ∃(A:Option Addr) (c:Nat),u= .slice A n c/\n<=c/\cs.length=n*sz/\ ∃us:Nat->Value,
 (cs≠[]-> ∃b o,A=some ⟨b,o,none⟩/\S b/\ ∀(j:Nat) (v:V),cs[j]? = some v->w.cell? ⟨b,o+j,none⟩=some (us j))/\
 (∀(j:Nat) (v:V),cs[j]? = some v->FR S w v (us j))/\(∀(j:Nat) (v:V),cs[j]? = some v->v.cell1=true):=by
 cases h with
 |flat h=>cases h with
  |view _ _ _ A c us hl hc ha hr h1=>exact⟨A,c,rfl,hc,hl,us,ha,hr,h1⟩
theorem VR.ref_inv {k off n sz:Nat}{u:Value}(h:VR S w β (.ref k off n sz) u): ∃(A:Option Addr) (c:Nat),u= .slice A n c/\
 ((n=0/\c=0)\/ ∃bi,β k=some bi/\A=some ⟨bi.blk,bi.off+off,none⟩/\n<=c/\bi.off+off+c*sz<=bi.tot/\off+n*sz<=bi.len):=by
 cases h with
 |flat h=>cases h
 |ref _ _ _ _ A c h=>exact⟨A,c,rfl,h⟩
theorem Zst {op:UnOp}{x v:V}{c:Prop}{ux:Value}(h:unV op x=some (c,v))(hx:VR S w β x ux) :
 ∃u,(Op.unary op ux).run P w= .ok u w/\VR S w β v u:=by
 unfold unV at h
 split at h<;>first|(cases h;done)|skip
 all_goals(simp only[Yac,Yai]at h;obtain⟨rfl,rfl⟩:=h)
 ·rw[VR.bool_inv hx];exact⟨_,by simp[Op.unary],.bool⟩
 ·rw[VR.int_inv hx];exact⟨_,by simp[Op.unary,Op.intArith],.int⟩
 ·rw[VR.int_inv hx];exact⟨_,by simp only[Op.unary,Op.intBits,Zt];rfl,.int⟩
theorem ZjW {x v:V}{i:Nat}{c:Prop}{ux:Value}(h:ZkG x i=some (c,v))(hc:c)(hx:VR S w β x ux) :
 ∃u,(Instr.extract ux i).run P w= .ok u w/\VR S w β v u:=by
 unfold ZkG at h
 split at h<;>first|(cases h;done)|skip
 rename_i vs
 simp only[Yac,Yai]at h;obtain⟨rfl,rfl⟩:=h
 cases hx with
 |flat h=>cases h
 |tup _ us hl hr=>
  have hi:i<us.size:=by rw[<- hl];exact hc
  refine⟨us[i],?_,?_⟩
  ·simp[Instr.extract,hi]
  ·exact hr i _ _ (by simp[List.getD,Yab hc]) (by simp[hi])
theorem ZgB {cs:List V}{u:Value}(h:VR S w β (.vptr cs) u): ∃(b o:Nat) (us:Nat->Value),u= .pointer (some ⟨b,o,none⟩)/\(cs≠[]->S b)/\(∀(j:Nat) (v:V),cs[j]? = some v->w.cell? ⟨b,o+j,none⟩=some (us j))/\
 (∀(j:Nat) (v:V),cs[j]? = some v->FR S w v (us j))/\(∀(j:Nat) (v:V),cs[j]? = some v->v.cell1=true):=by
 cases h with
 |flat h=>cases h with
  |vptr _ b o us hS ha hr h1=>exact⟨b,o,us,rfl,hS,ha,hr,h1⟩
theorem ZiM {cs:List V}{b o:Nat}{us:Nat->Value}(n:Nat)(hS:cs≠[]->S b)(ha: ∀(j:Nat) (v:V),cs[j]? = some v->w.cell? ⟨b,o+j,none⟩=some (us j))
 (hr: ∀(j:Nat) (v:V),cs[j]? = some v->FR S w v (us j)) (h1: ∀(j:Nat) (v:V),cs[j]? = some v->v.cell1=true):VR S w β (.vptr (cs.drop n)) (.pointer (some ⟨b,o+n,none⟩)):=by
 refine .flat (.vptr _ b (o+n) (fun j=>us (n+j)) (fun hne=>hS (fun e=>hne (by simp[e]))) ?_ ?_ ?_)
 ·intro j v hj
  rw[Ya2]at hj
  have:=ha (n+j) v hj
  rwa [<- Nat.add_assoc]at this
 ·intro j v hj
  rw[Ya2]at hj
  exact hr (n+j) v hj
 ·intro j v hj
  rw[Ya2]at hj
  exact h1 (n+j) v hj
theorem Zib {t:TypeId}{x v:V}{f:Nat}{c:Prop}{ux:Value}(h:Zhp P t x f=some (c,v))(hx:VR S w β x ux) :
 ∃u,(Instr.fieldAt t ux f).run P w= .ok u w/\VR S w β v u:=by
 unfold Zhp at h
 split at h<;>first|(cases h;done)|skip
 rename_i off b n ty hf
 obtain⟨fs,g,hfs,hg,rfl,hb,hn⟩:=ZiI hf
 cases hn0:decide (0<n)with
 |false=>rw[hn0]at h;cases h
 |true=>
  rw[hn0]at h
  simp only[cond_true]at h
  have hpos:n≠0:=by have:=of_decide_eq_true hn0;omega
  split at h<;>first|(cases h;done)|skip
  ·rename_i k o
   simp only[Yac,Yai]at h;obtain⟨rfl,rfl⟩:=h
   cases hx with
   |flat h=>cases h
   |ptr _ _ bi hbi=>
    refine⟨_,?_,.ptr k (o+g.offset) bi hbi⟩
    simp[Instr.fieldAt,run_underlying hfs,hg,Instr.sureAddr,fieldPlace,Zdg hn,hpos,ZaP,Nat.add_assoc]
  ·rename_i cs
   simp only[Yac,Yai]at h;obtain⟨rfl,rfl⟩:=h
   obtain⟨b,o,us,rfl,hS,ha,hr,h1⟩:=ZgB hx
   refine⟨_,?_,ZiM g.offset hS ha hr h1⟩
   simp[Instr.fieldAt,run_underlying hfs,hg,Instr.sureAddr,fieldPlace,Zdg hn,hpos,ZaP]
theorem Zrg {t ty:TypeId}{x v:V}{c:Prop}{ux:Value}(h:ZEy P t x=some (c,v))(hx:VR S w β x ux) :
 ∃u,(Builtin.len_ #[t] ty #[ux]).run P w= .ok u w/\VR S w β v u:=by
 unfold ZEy at h
 have slice: ∀{A:Option Addr} {n cp:Nat},(Zgf P t).isSome=true->(Builtin.len_ #[t] ty #[.slice A n cp]).run P w= .ok (.int .i64 n) w:=by
  intro A n cp he
  obtain⟨⟨e,sz,by_⟩,he⟩:=Yax.1 he
  obtain⟨hu,_⟩:=Zaz he
  simp[Builtin.len_,run_underlying hu,goInt]
 split at h<;>first|(cases h;done)|skip
 ·rename_i s
  cases hs:ZiH P t with
  |false=>rw[hs]at h;cases h
  |true=>
   rw[hs]at h
   simp only[cond_true,Yac,Yai]at h;obtain⟨rfl,rfl⟩:=h
   rw[VR.str_inv hx]
   have e1:(⟨s.toArray⟩:ByteArray).size=s.length:=by simp[ByteArray.size]
   have hr:(Builtin.len_ #[t] ty #[.string ⟨s.toArray⟩]).run P w= .ok (goInt (⟨s.toArray⟩:ByteArray).size) w:=by
     generalize (⟨s.toArray⟩:ByteArray)=bs
     simp[Builtin.len_,run_underlying (ZaL hs)]
   rw[e1]at hr
   exact⟨_,hr,.int⟩
 all_goals
  cases he:(Zgf P t).isSome with
  |false=>rw[he]at h;cases h
  |true=>
   rw[he]at h
   simp only[cond_true,Yac,Yai]at h;obtain⟨rfl,rfl⟩:=h
   first
     |(obtain⟨A,rfl⟩:=VR.nils_inv hx;exact⟨_,slice he,.int⟩)
     |(obtain⟨A,c,rfl,_⟩:=VR.view_inv hx;exact⟨_,slice he,.int⟩)
     |(obtain⟨A,c,rfl,_⟩:=VR.ref_inv hx;exact⟨_,slice he,.int⟩)
end
end Go.Abs
namespace Go.Abs
open Go Go.RowKit
section
variable {P:Program}{S:Nat->Prop}{w:World}{β:Nat->Option BI}{C:Ctx}{st:St}{a:Act}
theorem VR.fagg_inv {cs:List V}{u:Value}(h:VR S w β (.fagg cs) u): ∃us,u= .agg us/\cs.length=us.size/\(∀(j:Nat) (v:V) (u:Value),cs[j]? = some v->us[j]? = some u->FR S w v u)/\(∀(j:Nat) (v:V),cs[j]? = some v->v.cell1=true):=by
 cases h with
 |flat h=>cases h with
  |fagg _ us hl hr h1=>exact⟨us,rfl,hl,hr,h1⟩
theorem VR.agg_inv {cs:List V}{u:Value}(h:VR S w β (.agg cs) u): ∃us,u= .agg us/\cs.length=us.size/\(∀(j:Nat) (v:V) (u:Value),cs[j]? = some v->us[j]? = some u->VR S w β v u):=by
 cases h with
 |flat h=>cases h
 |agg _ us hl hr=>exact⟨us,rfl,hl,hr⟩
theorem VR.ptr_inv {k off:Nat}{u:Value}(h:VR S w β (.ptr k off) u): ∃bi,β k=some bi/\u= .pointer (some ⟨bi.blk,bi.off+off,none⟩):=by
 cases h with
 |flat h=>cases h
 |ptr _ _ bi h=>exact⟨bi,h,rfl⟩
theorem Zic {t:TypeId}{x i v:V}{c:Prop}{ux ui:Value}(h:Zho P t x i=some (c,v))(hc:c)(hx:VR S w β x ux)(hi:VR S w β i ui) :
 ∃u,(Instr.indexAt t ux ui).run P w= .ok u w/\VR S w β v u:=by
 unfold Zho at h
 split at h<;>first|(cases h;done)|skip
 rename_i k i
 rw[VR.int_inv hi]
 split at h<;>first|(cases h;done)|skip
 ·rename_i n sz cs
  split at h<;>first|(cases h;done)|skip
  rename_i e sz' by_ he
  obtain⟨hu,inf,hinf,rfl,rfl⟩:=Zaz he
  cases hs:sz==inf.size&&decide (0<sz)with
  |false=>rw[hs]at h;cases h
  |true=>
   rw[hs]at h
   simp only[cond_true,Yac,Yai]at h;obtain⟨rfl,rfl⟩:=h
   simp only[Yao,beq_iff_eq,Yaz]at hs
   obtain⟨rfl,hpos⟩:=hs
   obtain⟨A,cp,rfl,hcp,hl,us,ha,hr,h1⟩:=VR.view_inv hx
   have hne:cs≠[]:=by
     intro e0;subst e0
     have:0<n*inf.size:=Nat.mul_pos (by omega) hpos
     simp at hl;omega
   obtain⟨b,o,rfl,hS,hcell⟩:=ha hne
   refine⟨_,?_,ZiM (i.toNat*inf.size) (fun _=>hS) hcell hr h1⟩
   simp[Instr.indexAt,run_underlying hu,asIntOf,hc.1,hc.2,Zaw hinf,ZaP]
 ·rename_i k' off n sz
  split at h<;>first|(cases h;done)|skip
  rename_i e sz' by_ he
  obtain⟨hu,inf,hinf,rfl,rfl⟩:=Zaz he
  cases hs:sz==inf.size&&decide (0<sz)with
  |false=>rw[hs]at h;cases h
  |true=>
   rw[hs]at h
   simp only[cond_true,Yac,Yai]at h;obtain⟨rfl,rfl⟩:=h
   simp only[Yao,beq_iff_eq,Yaz]at hs
   obtain⟨rfl,hpos⟩:=hs
   obtain⟨A,cp,rfl,hcase⟩:=VR.ref_inv hx
   rcases hcase with⟨hn0,_⟩|⟨bi,hbi,rfl,hncp,hroom⟩
   ·omega
   ·refine⟨_,?_,.ptr k' (off+i.toNat*inf.size) bi hbi⟩
    simp[Instr.indexAt,run_underlying hu,asIntOf,hc.1,hc.2,Zaw hinf,ZaP,Nat.add_assoc]
 ·rename_i k' off
  split at h<;>first|(cases h;done)|skip
  rename_i e n sz he
  obtain⟨hu,inf,hinf,rfl⟩:=Ze6 he
  simp only[Yac,Yai]at h;obtain⟨rfl,rfl⟩:=h
  obtain⟨bi,hbi,rfl⟩:=VR.ptr_inv hx
  refine⟨_,?_,.ptr k' (off+i.toNat*inf.size) bi hbi⟩
  simp[Instr.indexAt,run_underlying hu,asIntOf,hc.1,hc.2,Zaw hinf,ZaP,Nat.add_assoc,Instr.sureAddr]
 ·rename_i cs
  split at h<;>first|(cases h;done)|skip
  rename_i e n sz he
  obtain⟨hu,inf,hinf,rfl⟩:=Ze6 he
  simp only[Yac,Yai]at h;obtain⟨rfl,rfl⟩:=h
  obtain⟨b,o,us,rfl,hS,ha,hr,h1⟩:=ZgB hx
  refine⟨_,?_,ZiM (i.toNat*inf.size) hS ha hr h1⟩
  simp[Instr.indexAt,run_underlying hu,asIntOf,hc.1,hc.2,Zaw hinf,ZaP,Instr.sureAddr]
theorem Zcy {cs:List V}{i:Nat}(h:i<cs.length):cs[i]? = some (cs.getD i .any):=by
 simp[List.getD,Yab h]
theorem Zc6 {t:TypeId}{cs:Array Value}{off:Nat}{u:Value}(hb:ZnT P t=some false)(hu:cs[off]? = some u):(part t cs off).run P w= .ok u w:=by
 simp[part,ZdY hb,hu]
theorem ZhY {t:TypeId}{cs:Array Value}{off n:Nat}(hb:ZnT P t=some true)(hn:szT P t=some n):(part t cs off).run P w= .ok (.agg (cs.extract off (off+n))) w:=by
 simp[part,ZdY hb,Zdg hn]
theorem ZbC {α:Type}{l:List α}{n j:Nat}{v:α}(h:(l.take n)[j]? = some v):j<n/\l[j]? = some v:=by
 rw[List.getElem?_take]at h
 split at h
 ·exact⟨by assumption,h⟩
 ·cases h
theorem ZiN {α:Type}{us:Array α}{a b j:Nat}{v:α}(h:(us.extract a b)[j]? = some v):us[a+j]? = some v:=by
 rw[Array.getElem?_extract]at h
 split at h
 ·exact h
 ·cases h
theorem ZCl {cs:List V}{us:Array Value}(off n:Nat)(hl:cs.length=us.size)(hr: ∀(j:Nat) (v:V) (u:Value),cs[j]? = some v->us[j]? = some u->FR S w v u)(h1: ∀(j:Nat) (v:V),cs[j]? = some v->v.cell1=true) :
 VR S w β (.fagg ((cs.drop off).take n)) (.agg (us.extract off (off+n))):=by
 refine .flat (.fagg _ _ ?_ ?_ ?_)
 ·simp[hl];omega
 ·intro j v u hv hu
  obtain⟨hjn,hv⟩:=ZbC hv
  rw[Ya2]at hv
  replace hu:=ZiN hu
  exact hr (off+j) v u hv hu
 ·intro j v hv
  obtain⟨hjn,hv⟩:=ZbC hv
  rw[Ya2]at hv
  exact h1 (off+j) v hv
theorem ZCm {cs:List V}{us:Array Value}(off n:Nat)(hl:cs.length=us.size)(hr: ∀(j:Nat) (v:V) (u:Value),cs[j]? = some v->us[j]? = some u->VR S w β v u) :
 VR S w β (.agg ((cs.drop off).take n)) (.agg (us.extract off (off+n))):=by
 refine .agg _ _ ?_ ?_
 ·simp[hl];omega
 ·intro j v u hv hu
  obtain⟨hjn,hv⟩:=ZbC hv
  rw[Ya2]at hv
  replace hu:=ZiN hu
  exact hr (off+j) v u hv hu
theorem Zl1 {t:TypeId}{x v:V}{f:Nat}{c:Prop}{ux:Value}(h:Zsr P t x f=some (c,v))(hc:c)(hx:VR S w β x ux) :
 ∃u,(Instr.field t ux f).run P w= .ok u w/\VR S w β v u:=by
 unfold Zsr at h
 split at h<;>first|(cases h;done)|skip
 rename_i off b n ty hf
 obtain⟨fs,g,hfs,hg,rfl,hb,hn⟩:=ZiI hf
 split at h<;>first|(cases h;done)|skip
 ·rename_i cs
  obtain⟨us,rfl,hl,hr⟩:=VR.agg_inv hx
  cases b with
  |true=>
   simp only[cond_true,Yac,Yai]at h;obtain⟨rfl,rfl⟩:=h
   refine⟨_,?_,ZCm g.offset n hl hr⟩
   simp[Instr.field,run_underlying hfs,hg,asAgg,ZhY hb hn]
  |false=>
   simp only[cond_false,Yac,Yai]at h;obtain⟨rfl,rfl⟩:=h
   have hu:us[g.offset]? = some us[g.offset]:=by simp[<- hl,hc]
   refine⟨us[g.offset]'(by omega),?_,hr g.offset _ _ (Zcy hc) hu⟩
   simp only[Instr.field,Sem.run_bind,run_underlying hfs,Result.andThen_ok,hg,asAgg,Sem.run_pure,Zc6 hb hu]
 ·rename_i cs
  obtain⟨us,rfl,hl,hr,h1⟩:=VR.fagg_inv hx
  cases b with
  |true=>
   simp only[cond_true,Yac,Yai]at h;obtain⟨rfl,rfl⟩:=h
   refine⟨_,?_,ZCl g.offset n hl hr h1⟩
   simp[Instr.field,run_underlying hfs,hg,asAgg,ZhY hb hn]
  |false=>
   simp only[cond_false,Yac,Yai]at h;obtain⟨rfl,rfl⟩:=h
   obtain⟨hc,hcast⟩:=hc
   rw[Zik hcast]
   have hu:us[g.offset]? = some us[g.offset]:=by simp[<- hl,hc]
   refine⟨us[g.offset]'(by omega),?_,.flat (hr g.offset _ _ (Zcy hc) hu)⟩
   simp only[Instr.field,Sem.run_bind,run_underlying hfs,Result.andThen_ok,hg,asAgg,Sem.run_pure,Zc6 hb hu]
theorem Zl2 {t:TypeId}{x i v:V}{c:Prop}{ux ui:Value}(h:Zss P t x i=some (c,v))(hc:c)(hx:VR S w β x ux)(hi:VR S w β i ui) :
 ∃u,(Instr.index t ux ui).run P w= .ok u w/\VR S w β v u:=by
 unfold Zss at h
 split at h<;>first|(cases h;done)|skip
 rename_i k i
 rw[VR.int_inv hi]
 split at h<;>first|(cases h;done)|skip
 ·rename_i s
  cases hs:ZiH P t with
  |false=>rw[hs]at h;cases h
  |true=>
   rw[hs]at h
   simp only[cond_true,Yac,Yai]at h;obtain⟨rfl,rfl⟩:=h
   rw[VR.str_inv hx]
   refine⟨_,?_,.int⟩
   have hlt:i.toNat<s.length:=by omega
   have e2:(⟨s.toArray⟩:ByteArray)[i.toNat]? = some (s.getD i.toNat 0):=by
     have h3:i.toNat<(⟨s.toArray⟩:ByteArray).size:=by simpa[ByteArray.size]using hlt
     rw[getElem?_pos (⟨s.toArray⟩:ByteArray) i.toNat h3]
     show some (s.toArray[i.toNat]'(by simpa using hlt))=_
     simp[List.getD,Yab hlt]
   simp only[Instr.index,Sem.run_bind,asIntOf,Sem.run_pure,Result.andThen_ok,run_underlying (ZaL hs),if_pos hc.1,e2]
 ·rename_i cs
  split at h<;>first|(cases h;done)|skip
  rename_i e n sz he
  split at h<;>first|(cases h;done)|skip
  rename_i hb
  obtain⟨hu,inf,hinf,rfl⟩:=Ze6 he
  simp only[Yac,Yai]at h;obtain⟨rfl,rfl⟩:=h
  obtain⟨us,rfl,hl,hr⟩:=VR.agg_inv hx
  have hui:us[i.toNat*inf.size]? = some us[i.toNat*inf.size]:=by simp[<- hl,hc.2]
  refine⟨us[i.toNat*inf.size]'(by omega),?_,hr _ _ _ (Zcy hc.2) hui⟩
  simp only[Instr.index,Sem.run_bind,asIntOf,Sem.run_pure,Result.andThen_ok,run_underlying hu,if_pos hc.1,Zaw hinf,Zc6 hb hui]
 ·rename_i cs
  split at h<;>first|(cases h;done)|skip
  rename_i e n sz he
  split at h<;>first|(cases h;done)|skip
  rename_i hb
  obtain⟨hu,inf,hinf,rfl⟩:=Ze6 he
  simp only[Yac,Yai]at h;obtain⟨rfl,rfl⟩:=h
  obtain⟨us,rfl,hl,hr,h1⟩:=VR.fagg_inv hx
  obtain⟨hc,hcast⟩:=hc
  rw[Zik hcast]
  have hui:us[i.toNat*inf.size]? = some us[i.toNat*inf.size]:=by simp[<- hl,hc.2]
  refine⟨us[i.toNat*inf.size]'(by omega),?_,.flat (hr _ _ _ (Zcy hc.2) hui)⟩
  simp only[Instr.index,Sem.run_bind,asIntOf,Sem.run_pure,Result.andThen_ok,run_underlying hu,if_pos hc.1,Zaw hinf,Zc6 hb hui]
theorem ZeU {t:TypeId}{b o:Nat}{u:Value}(hb:ZnT P t=some false)(hu:w.cell? ⟨b,o,none⟩=some u):(loadVar t ⟨b,o,none⟩).run P w= .ok u w:=by
 simp[loadVar,ZdY hb,hu]
theorem Ze7 {t:TypeId}{n b o:Nat}(us:List Value)(hb:ZnT P t=some true)(hn:szT P t=some n)(hl:us.length=n)(hu: ∀(j:Nat) (v:Value),us[j]? = some v->w.cell? ⟨b,o+j,none⟩=some v):(loadVar t ⟨b,o,none⟩).run P w= .ok (.agg us.toArray) w:=by
 have:=run_loadCells_list (P:=P) w ⟨b,o,none⟩ us (fun j v hj=>by rw[ZaP];exact hu j v hj)
 rw[hl]at this
 simp[loadVar,ZdY hb,Zdg hn,this]
theorem Zbc {o:ZaK}{bi:BI}{cur:Array Value}{e:TypeId}{fz:Nat×Nat}(h:ORs S w β o bi cur e fz)(i:Nat):w.cell? ⟨bi.blk,i,none⟩=cur[i]? :=cell_of_row w bi.blk i cur e fz h.heap
theorem ZiO {t:TypeId}{x v:V}{c:Prop}{ux:Value}(h:ZiL P st t x=some (c,v))(hc:c)(hx:VR S w β x ux)(hsr:SR C S β st a w) :
 ∃u,(Instr.loadAt t ux).run P w= .ok u w/\VR S w β v u:=by
 unfold ZiL at h
 split at h<;>first|(cases h;done)|skip
 rename_i b n hb hn
 split at h<;>first|(cases h;done)|skip
 ·rename_i cs
  obtain⟨bl,o,us,rfl,hS,ha,hr,h1⟩:=ZgB hx
  cases b with
  |true=>
   simp only[cond_true,Yac,Yai]at h;obtain⟨rfl,rfl⟩:=h
   have hget: ∀j,j<n-> ∃v,cs[j]? = some v:=fun j hj=>⟨_,Yab (by omega)⟩
   have hrun:=Ze7 (P:=P) (w:=w) (b:=bl) (o:=o) ((List.range n).map us) hb hn (by simp) (fun j v hj=>by
     have hjn:j<n:=by have:=(Yak.1 hj).1;simpa using this
     obtain⟨v0,hv0⟩:=hget j hjn
     rw[ha j v0 hv0]
     simp[hjn]at hj
     rw[hj])
   refine⟨_,by simp only[Instr.loadAt,Instr.sureAddr,Sem.run_bind,Sem.run_pure,Result.andThen_ok];exact hrun,.flat (.fagg _ _ ?_ ?_ ?_)⟩
   ·simp;omega
   ·intro j v u hv hu
    obtain⟨hj,hv⟩:=ZbC hv
    simp[hj]at hu
    subst hu
    exact hr j v hv
   ·intro j v hv
    obtain⟨_,hv⟩:=ZbC hv
    exact h1 j v hv
  |false=>
   simp only[cond_false,Yac,Yai]at h;obtain⟨rfl,rfl⟩:=h
   obtain⟨hc,hcast⟩:=hc
   rw[Zik hcast]
   have h0:=Zcy hc
   refine⟨us 0,?_,.flat (hr 0 _ h0)⟩
   simp only[Instr.loadAt,Instr.sureAddr,Sem.run_bind,Sem.run_pure,Result.andThen_ok]
   exact ZeU hb (by have:=ha 0 _ h0;simpa using this)
 ·rename_i k off
  split at h<;>first|(cases h;done)|skip
  rename_i o ho
  obtain⟨bi,hbi,rfl⟩:=VR.ptr_inv hx
  rcases hsr.objs k o ho with⟨_,_,h3⟩|⟨bi',cur,e,fz,hbi',hor⟩
  ·rw[h3]at hbi;cases hbi
  rw[hbi']at hbi;cases hbi
  cases b with
  |true=>
   simp only[cond_true,Yac,Yai]at h;obtain⟨rfl,rfl⟩:=h
   have hin: ∀j,j<n-> ∃v u,o.cs[off+j]? = some v/\cur[bi.off+(off+j)]? = some u/\(if o.flat=true then v.cell1=true/\FR S w v u else VR S w β v u):=fun j hj=>by
     have hv:o.cs[off+j]? = some (o.cs[off+j]'(by omega)):=Yab (by omega)
     obtain⟨u,hu,_,hr⟩:=hor.cells _ _ hv
     exact⟨_,u,hv,hu,hr⟩
   have hrun:=Ze7 (P:=P) (w:=w) (b:=bi.blk) (o:=bi.off+off) ((List.range n).map fun j=>cur.getD (bi.off+(off+j)) undef) hb hn (by simp) (fun j v hj=>by
     have hjn:j<n:=by have:=(Yak.1 hj).1;simpa using this
     obtain⟨v0,u0,_,hu0,_⟩:=hin j hjn
     rw[Zbc hor,Nat.add_assoc,hu0]
     simp[hjn,Yan,hu0]at hj
     rw[hj])
   refine⟨_,by simp only[Instr.loadAt,Instr.sureAddr,Sem.run_bind,Sem.run_pure,Result.andThen_ok];exact hrun,?_⟩
   have hpt: ∀(j:Nat) (v:V) (u:Value),((o.cs.drop off).take n)[j]? = some v->((List.range n).map fun j=>cur.getD (bi.off+(off+j)) undef).toArray[j]? = some u->(if o.flat=true then v.cell1=true/\FR S w v u else VR S w β v u):=by
     intro j v u hv hu
     obtain⟨hj,hv⟩:=ZbC hv
     rw[Ya2]at hv
     obtain⟨v0,u0,hv0,hu0,hr⟩:=hin j hj
     rw[hv0]at hv;cases hv
     simp[hj,Yan,hu0]at hu
     subst hu
     exact hr
   cases hfl:o.flat with
   |true=>
    refine .flat (.fagg _ _ (by simp;omega) (fun j v u hv hu=> ?_) (fun j v hv=> ?_))
    ·have:=hpt j v u hv hu;rw[if_pos hfl]at this;exact this.2
    ·have hj:j<n:=(ZbC hv).1
     have:=hpt j v _ hv (by simp[hj];rfl)
     rw[if_pos hfl]at this;exact this.1
   |false=>
    refine .agg _ _ (by simp;omega) (fun j v u hv hu=> ?_)
    have:=hpt j v u hv hu;rw[if_neg (by simp[hfl])]at this;exact this
  |false=>
   have hlt:off<o.cs.length/\v=o.cs.getD off .any:=by
     simp only[cond_false]at h
     cases hfl:o.flat with
     |true=>
      rw[hfl]at h
      simp only[cond_true,Yac,Yai]at h;obtain⟨rfl,rfl⟩:=h
      exact⟨hc.1,Zik hc.2⟩
     |false=>
      rw[hfl]at h
      simp only[cond_false,Yac,Yai]at h;obtain⟨rfl,rfl⟩:=h
      exact⟨hc,rfl⟩
   obtain⟨hlt,rfl⟩:=hlt
   have h0:=Zcy hlt
   obtain⟨u,hu,_,hr⟩:=hor.cells _ _ h0
   refine⟨u,?_,?_⟩
   ·simp only[Instr.loadAt,Instr.sureAddr,Sem.run_bind,Sem.run_pure,Result.andThen_ok]
    exact ZeU hb (by rw[Zbc hor];exact hu)
   ·cases hfl:o.flat with
    |true=>rw[if_pos hfl]at hr;exact .flat hr.2
    |false=>rw[if_neg (by simp[hfl])]at hr;exact hr
end
end Go.Abs
namespace Go.Abs
open Go Go.RowKit
section
variable {P:Program}{S:Nat->Prop}{w:World}{β:Nat->Option BI}{C:Ctx}{st:St}{a:Act}
theorem Zf3 {k:IntKind}{i:Int}{y:Nat}{code:BoundsCode}(h:0<=i/\i<=y):(Instr.sliceBound (.int k i) y code).run P w= .ok i.toNat w:=by
 simp[Instr.sliceBound,asIntOf,h.1,h.2]
theorem Zbx {isS:Bool}{len cap:Nat}{lo hi:Option V}{ulo uhi:Option Value}{l h:Int}(hlo:loI lo=some l)(hhi:hiI len hi=some h)
 (hl: ∀x,lo=some x-> ∃u,ulo=some u/\VR S w β x u) (hl0:lo=none->ulo=none) (hh: ∀x,hi=some x-> ∃u,uhi=some u/\VR S w β x u) (hh0:hi=none->uhi=none)
 (h1:0<=l) (h2:l<=h) (h3:h<=cap) (_:len<=cap) :
 (Instr.sliceBounds isS len cap ulo uhi none).run P w= .ok (l.toNat,h.toNat,cap) w:=by
 have b1: ∀(k:IntKind),(Instr.sliceBound (.int k h) cap (if isS then .sliceAcap else .sliceAlen)).run P w= .ok h.toNat w:=fun k=>Zf3 ⟨by omega,h3⟩
 have b2: ∀(k:IntKind) (y:Nat),(y:Int)=h->(Instr.sliceBound (.int k l) y .sliceB).run P w= .ok l.toNat w:=fun k y hy=>Zf3 ⟨h1,by omega⟩
 cases hi with
 |none=>
  rw[hh0 rfl]
  simp only[hiI,Yac]at hhi
  subst hhi
  cases lo with
  |none=>
   rw[hl0 rfl]
   simp only[loI,Yac]at hlo
   subst hlo
   rfl
  |some x=>
   obtain⟨u,rfl,hu⟩:=hl x rfl
   cases x<;>simp[loI]at hlo
   subst hlo
   rw[VR.int_inv hu]
   simp only[Instr.sliceBounds,Sem.run_bind,Sem.run_pure,Result.andThen_ok,Option.isSome_none,Bool.false_eq_true,if_false,b2 _ len rfl]
   rfl
 |some y=>
  obtain⟨u,rfl,hu⟩:=hh y rfl
  cases y<;>simp[hiI]at hhi
  subst hhi
  rw[VR.int_inv hu]
  cases lo with
  |none=>
   rw[hl0 rfl]
   simp only[loI,Yac]at hlo
   subst hlo
   simp only[Instr.sliceBounds,Sem.run_bind,Sem.run_pure,Result.andThen_ok,b1]
   rfl
  |some x=>
   obtain⟨u,rfl,hu⟩:=hl x rfl
   cases x<;>simp[loI]at hlo
   subst hlo
   rw[VR.int_inv hu]
   simp only[Instr.sliceBounds,Sem.run_bind,Sem.run_pure,Result.andThen_ok,b1,Option.isSome_none,Bool.false_eq_true,if_false,b2 _ _ (Int.toNat_of_nonneg (Int.le_trans h1 h2))]
theorem Zl3 {t:TypeId}{x v:V}{lo hi:Option V}{ulo uhi:Option Value}{c:Prop}{ux:Value}(h:ZgA P st t x lo hi=some (c,v))(hc:c)(hx:VR S w β x ux)
 (hl: ∀x,lo=some x-> ∃u,ulo=some u/\VR S w β x u) (hl0:lo=none->ulo=none) (hh: ∀x,hi=some x-> ∃u,uhi=some u/\VR S w β x u) (hh0:hi=none->uhi=none) (hsr:SR C S β st a w) :
 ∃u,(Instr.sliceAt t ux ulo uhi none).run P w= .ok u w/\VR S w β v u:=by
 unfold ZgA at h
 split at h<;>first|(cases h;done)|skip
 ·rename_i s
  cases hs:ZiH P t with
  |false=>rw[hs]at h;cases h
  |true=>
   rw[hs]at h
   simp only[cond_true]at h
   split at h<;>first|(cases h;done)|skip
   rename_i l hh' hlo hhi
   simp only[Yac,Yai]at h;obtain⟨rfl,rfl⟩:=h
   rw[VR.str_inv hx]
   have e1:(⟨s.toArray⟩:ByteArray).size=s.length:=by simp[ByteArray.size]
   have hb:=Zbx (P:=P) (w:=w) (isS:=false) (cap:=s.length) hlo hhi hl hl0 hh hh0 hc.1 hc.2.1 hc.2.2 (Nat.le_refl _)
   refine⟨.string ((⟨s.toArray⟩:ByteArray).extract l.toNat hh'.toNat),?_,?_⟩
   ·simp only[Instr.sliceAt,Sem.run_bind,run_underlying (ZaL hs),Result.andThen_ok,Instr.slice,Option.isSome_none,Bool.false_eq_true,if_false,e1,hb,Sem.run_pure]
   ·have:((⟨s.toArray⟩:ByteArray).extract l.toNat hh'.toNat)=⟨((s.drop l.toNat).take (hh'.toNat-l.toNat)).toArray⟩:=by
      apply ByteArray.ext
      simp[ByteArray.data_extract]
    rw[this];exact .str
 ·rename_i n sz cs
  split at h<;>first|(cases h;done)|skip
  rename_i e sz' by_ l hh' he hlo hhi
  obtain⟨hu,inf,hinf,rfl,rfl⟩:=Zaz he
  cases hs:sz==inf.size with
  |false=>rw[hs]at h;cases h
  |true=>
   rw[hs]at h
   simp only[cond_true,Yac,Yai]at h;obtain⟨rfl,rfl⟩:=h
   obtain rfl:sz=inf.size:=by simpa using hs
   obtain⟨A,cp,rfl,hcp,hlen,us,ha,hr,h1⟩:=VR.view_inv hx
   have hb:=Zbx (P:=P) (w:=w) (isS:=true) (cap:=cp) hlo hhi hl hl0 hh hh0 hc.1 hc.2.1 (by omega) hcp
   refine⟨.slice (if cp=l.toNat then A else A.map (·.add (l.toNat*inf.size))) (hh'.toNat-l.toNat) (cp-l.toNat),?_,.flat (.view _ _ _ _ _ (fun j=>us (l.toNat*inf.size+j)) ?_ ?_ ?_ ?_ ?_)⟩
   ·simp only[Instr.sliceAt,Sem.run_bind,run_underlying hu,Result.andThen_ok,Instr.slice,hb,Zaw hinf,Sem.run_pure]
   ·rw[Yar,Yaw,hlen,<- Nat.sub_mul]
    exact Nat.min_eq_left (Nat.mul_le_mul_right _ (by omega))
   ·omega
   ·intro hne
    have hpos:0<hh'.toNat-l.toNat:=by
      rcases Nat.eq_zero_or_pos (hh'.toNat-l.toNat)with h0|h0
      ·rw[h0]at hne;simp at hne
      ·exact h0
    have hne':cs≠[]:=by intro e0;subst e0;simp at hne
    obtain⟨b,o,rfl,hS,hcell⟩:=ha hne'
    refine⟨b,o+l.toNat*inf.size,?_,hS,?_⟩
    ·rw[if_neg (by omega)];simp[ZaP]
    ·intro j v hj
     obtain⟨_,hj⟩:=ZbC hj
     rw[Ya2]at hj
     have:=hcell _ _ hj
     rwa [<- Nat.add_assoc]at this
   ·intro j v hj
    obtain⟨_,hj⟩:=ZbC hj
    rw[Ya2]at hj
    exact hr _ _ hj
   ·intro j v hj
    obtain⟨_,hj⟩:=ZbC hj
    rw[Ya2]at hj
    exact h1 _ _ hj
 ·split at h<;>first|(cases h;done)|skip
  rename_i x0 l hh' he hlo hhi
  obtain⟨e,sz',by_⟩:=x0
  obtain⟨hu,inf,hinf,rfl,rfl⟩:=Zaz he
  simp only[Yac,Yai]at h;obtain⟨rfl,rfl⟩:=h
  obtain⟨A,rfl⟩:=VR.nils_inv hx
  have hb:=Zbx (P:=P) (w:=w) (isS:=true) (cap:=0) hlo hhi hl hl0 hh hh0 hc.1 hc.2.1 (by omega) (Nat.le_refl _)
  have e1:l.toNat=0:=by omega
  have e2:hh'.toNat=0:=by omega
  refine⟨.slice A 0 0,?_,.flat (.nils _)⟩
  simp only[Instr.sliceAt,Sem.run_bind,run_underlying hu,Result.andThen_ok,Instr.slice,hb,Zaw hinf,Sem.run_pure,e1,e2,if_true]
 ·rename_i k off n sz
  split at h<;>first|(cases h;done)|skip
  rename_i e sz' by_ l hh' he hlo hhi
  obtain⟨hu,inf,hinf,rfl,rfl⟩:=Zaz he
  cases hs:sz==inf.size with
  |false=>rw[hs]at h;cases h
  |true=>
   rw[hs]at h
   simp only[cond_true,Yac,Yai]at h;obtain⟨rfl,rfl⟩:=h
   obtain rfl:sz=inf.size:=by simpa using hs
   obtain⟨A,cp,rfl,hcase⟩:=VR.ref_inv hx
   have hncp:n<=cp:=by
     rcases hcase with⟨h1,h2⟩|⟨bi,_,_,h3,_⟩<;>omega
   have hb:=Zbx (P:=P) (w:=w) (isS:=true) (cap:=cp) hlo hhi hl hl0 hh hh0 hc.1 hc.2.1 (by omega) hncp
   refine⟨.slice (if cp=l.toNat then A else A.map (·.add (l.toNat*inf.size))) (hh'.toNat-l.toNat) (cp-l.toNat),?_,.ref _ _ _ _ _ _ ?_⟩
   ·simp only[Instr.sliceAt,Sem.run_bind,run_underlying hu,Result.andThen_ok,Instr.slice,hb,Zaw hinf,Sem.run_pure]
   ·by_cases hcl:cp=l.toNat
    ·left;omega
    ·rcases hcase with⟨h1,h2⟩|⟨bi,hbi,rfl,h3,h4⟩
     ·left;omega
     ·right
      refine⟨bi,hbi,?_,by omega,?_,?_⟩
      ·rw[if_neg hcl];simp[ZaP,Nat.add_assoc]
      ·have:l.toNat*inf.size+(cp-l.toNat)*inf.size=cp*inf.size:=by rw[<- Nat.add_mul];congr 1;omega
       omega
      ·have:l.toNat*inf.size+(hh'.toNat-l.toNat)*inf.size<=n*inf.size:=by rw[<- Nat.add_mul];exact Nat.mul_le_mul_right _ (by omega)
       omega
 ·rename_i k off
  split at h<;>first|(cases h;done)|skip
  rename_i e n sz o he ho
  split at h<;>first|(cases h;done)|skip
  rename_i l hh' hlo hhi
  obtain⟨hu,inf,hinf,rfl⟩:=Ze6 he
  simp only[Yac,Yai]at h;obtain⟨rfl,rfl⟩:=h
  obtain⟨hc,hroom⟩:=hc
  obtain⟨bi,hbi,rfl⟩:=VR.ptr_inv hx
  have htot:bi.off+o.cs.length<=bi.tot/\bi.len=o.cs.length:=by
   rcases hsr.objs k o ho with⟨_,_,h3⟩|⟨bi',cur,e',fz,hbi',hor⟩
   ·rw[h3]at hbi;cases hbi
   ·rw[hbi']at hbi;cases hbi;exact⟨hor.fits,hor.len⟩
  obtain⟨htot,hlenb⟩:=htot
  have hb:=Zbx (P:=P) (w:=w) (isS:=false) (cap:=n) hlo hhi hl hl0 hh hh0 hc.1 hc.2.1 hc.2.2 (Nat.le_refl _)
  refine⟨.slice (some (if n=l.toNat then⟨bi.blk,bi.off+off,none⟩else(⟨bi.blk,bi.off+off,none⟩:Addr).add (l.toNat*inf.size))) (hh'.toNat-l.toNat) (n-l.toNat),?_,.ref _ _ _ _ _ _ ?_⟩
  ·simp only[Instr.sliceAt,Sem.run_bind,run_underlying hu,Result.andThen_ok,Instr.sureAddr,hb,Zaw hinf,Sem.run_pure]
  ·by_cases hcl:n=l.toNat
   ·left;omega
   ·right
    refine⟨bi,hbi,?_,by omega,?_,?_⟩
    ·rw[if_neg hcl];simp[ZaP,Nat.add_assoc]
    ·have:l.toNat*inf.size+(n-l.toNat)*inf.size=n*inf.size:=by rw[<- Nat.add_mul];congr 1;omega
     omega
    ·have:l.toNat*inf.size+(hh'.toNat-l.toNat)*inf.size<=n*inf.size:=by rw[<- Nat.add_mul];exact Nat.mul_le_mul_right _ (by omega)
     omega
theorem ZnW {src dst:TypeId}{x v:V}{c:Prop}{ux:Value}(h:ZjV P st src dst x=some (c,v))(hc:c)(hx:VR S w β x ux)(hsr:SR C S β st a w) :
 ∃u,(convert src dst ux).run P w= .ok u w/\VR S w β v u:=by
 unfold ZjV at h
 split at h<;>first|(cases h;done)|skip
 ·rename_i k n
  split at h<;>first|(cases h;done)|skip
  rename_i k' hk hs
  simp only[Yac,Yai]at h;obtain⟨rfl,rfl⟩:=h
  rw[VR.int_inv hx]
  obtain⟨d,hd⟩:=Yax.1 hs
  refine⟨_,?_,.int⟩
  simp[convert,run_underlying hd,run_underlying (Zbl hk),Conv.intToInt]
 ·rename_i s
  cases hs:ZiH P src&&ZiH P dst with
  |false=>rw[hs]at h;cases h
  |true=>
   rw[hs]at h
   simp only[cond_true,Yac,Yai]at h;obtain⟨rfl,rfl⟩:=h
   simp only[Yao]at hs
   rw[VR.str_inv hx]
   refine⟨_,?_,.str⟩
   simp[convert,run_underlying (ZaL hs.1),run_underlying (ZaL hs.2)]
 ·rename_i n sz cs
  split at h<;>first|(cases h;done)|skip
  rename_i e sz' by_ he
  split at h<;>first|(cases h;done)|skip
  rename_i hi hd
  obtain⟨hu,inf,hinf,rfl,rfl⟩:=Zaz he
  simp only[Yac,Yai]at h;obtain⟨rfl,rfl⟩:=h
  obtain⟨A,cp,rfl,hcp,hlen,us,ha,hr,h1⟩:=VR.view_inv hx
  have hn:n=(cs.map byteOf).length:=by simp[hlen]
  generalize hL:cs.map byteOf=L at hc hn ⊢
  by_cases hne:cs=[]
  ·subst hne
   obtain rfl:L=[]:=by simpa using hL.symm
   simp at hlen;subst hlen
   cases A with
   |none=>exact⟨_,run_convert_bytes_nil (P:=P) w src e hu (Zbl hi) _ _ dst (ZaL hd),.str⟩
   |some ad=>
    have:=run_convert_bytes_back (P:=P) w src dst e ad cp [] hu (Zbl hi) (ZaL hd) (by intro j hj;simp at hj)
    exact⟨_,this,.str⟩
  ·obtain⟨b,o,rfl,hS,hcell⟩:=ha hne
   have hcells: ∀j (hj:j<L.length),w.cell? ((⟨b,o,none⟩:Addr).add j)=some (.int .u8 (L[j].toNat:Int)):=by
    intro j hj
    rw[ZaP]
    have hv:cs[j]? = some (Zgg L[j]):=by rw[hc];simp[Yab hj]
    have h2:=hr j _ hv
    rw[hcell j _ hv]
    generalize us j=u at h2
    cases h2
    rfl
   have:=run_convert_bytes_back (P:=P) w src dst e ⟨b,o,none⟩ cp L hu (Zbl hi) (ZaL hd) hcells
   rw[<- hn]at this
   exact⟨_,this,.str⟩
 ·rename_i k off n sz
  split at h<;>first|(cases h;done)|skip
  rename_i e sz' by_ o he ho
  split at h<;>first|(cases h;done)|skip
  rename_i hi hd
  obtain⟨hu,inf,hinf,rfl,rfl⟩:=Zaz he
  simp only[Yac,Yai]at h;obtain⟨rfl,rfl⟩:=h
  obtain⟨hfit,hfl,hc⟩:=hc
  obtain⟨A,cp,rfl,hcase⟩:=VR.ref_inv hx
  generalize hL:((o.cs.drop off).take n).map byteOf=L at hc ⊢
  have hn:L.length=n:=by rw[<- hL];simp;omega
  rcases hcase with⟨h1,h2⟩|⟨bi,hbi,rfl,h3,h4⟩
  ·subst h1
   have:L=[]:=Yay hn
   subst this
   cases A with
   |none=>exact⟨_,run_convert_bytes_nil (P:=P) w src e hu (Zbl hi) _ _ dst (ZaL hd),.str⟩
   |some ad=>
    have:=run_convert_bytes_back (P:=P) w src dst e ad cp [] hu (Zbl hi) (ZaL hd) (by intro j hj;simp at hj)
    exact⟨_,this,.str⟩
  ·rcases hsr.objs k o ho with⟨_,_,h3'⟩|⟨bi',cur,e',fz,hbi',hor⟩
   ·rw[h3']at hbi;cases hbi
   rw[hbi']at hbi;cases hbi
   have hcells: ∀j (hj:j<L.length),w.cell? ((⟨bi.blk,bi.off+off,none⟩:Addr).add j)=some (.int .u8 (L[j].toNat:Int)):=by
    intro j hj
    rw[ZaP]
    have hv:o.cs[off+j]? = some (Zgg L[j]):=by
     have:((o.cs.drop off).take n)[j]? = some (Zgg L[j]):=by rw[hc];simp[Yab hj]
     obtain⟨_,this⟩:=ZbC this
     rwa [Ya2]at this
    obtain⟨u,hu',_,hr⟩:=hor.cells _ _ hv
    rw[if_pos hfl]at hr
    rw[Zbc hor,Nat.add_assoc,hu']
    have h2:=hr.2
    cases h2
    rfl
   have:=run_convert_bytes_back (P:=P) w src dst e ⟨bi.blk,bi.off+off,none⟩ cp L hu (Zbl hi) (ZaL hd) hcells
   rw[hn]at this
   exact⟨_,this,.str⟩
 ·split at h<;>first|(cases h;done)|skip
  rename_i e sz' by_ he
  split at h<;>first|(cases h;done)|skip
  rename_i hi hd
  obtain⟨hu,inf,hinf,rfl,rfl⟩:=Zaz he
  simp only[Yac,Yai]at h;obtain⟨rfl,rfl⟩:=h
  obtain⟨A,rfl⟩:=VR.nils_inv hx
  cases A with
  |none=>exact⟨_,run_convert_bytes_nil (P:=P) w src e hu (Zbl hi) _ _ dst (ZaL hd),.str⟩
  |some ad=>
   have:=run_convert_bytes_back (P:=P) w src dst e ad 0 [] hu (Zbl hi) (ZaL hd) (by intro j hj;simp at hj)
   exact⟨_,this,.str⟩
end
end Go.Abs
namespace Go.Abs
open Go Go.RowKit
def ZaR (st:St)(ps:List (Nat×Operand)):List (Nat×V):=ps.map fun p=>(p.1,st.ev p.2)
def ZaA:V->List V
 |.agg cs=>cs
 |.fagg cs=>cs
 |v=>[v]
def vok:V->Bool
 |.agg _=>true
 |.fagg _=>true
 |v=>v.cell1
def Zaj (z:Value):List V:=z.cells.toList.map Zbu
def ZnN (cs:List V)(off:Nat)(vs:List V):List V:=cs.take off++vs++cs.drop (off+vs.length)
inductive Plc where
 |rows (l:List (Nat×Nat))
 |each (n:Nat)
def Plc.at:Plc->Nat->Option (Nat×Nat)
 |.rows l,i=>l[i]?
 |.each n,i=>some (i*n,n)
def Zsu (P:Program)(t:TypeId):Option Plc:=
 match P.underlying t with
 |some (.array _ e)=>(P.info? e).map fun i=> .each i.size
 |some (.struct fields)=>(fields.toList.mapM (fun f=>(P.info? f.type).map fun i=>(f.offset,i.size))).map .rows
 |_=>none
def Zgh (pl:Plc):List V->List (Nat×V)->Option (Prop×List V)
 |cs,[]=>some (True,cs)
 |cs,(i,v)::rest=>match pl.at i,vok v with
  |some (off,n),true=>match Zgh pl (ZnN cs off (ZaA v)) rest with
   |some (c,r)=>some (((ZaA v).length=n/\off+n<=cs.length)/\c,r)
   |none=>none
  |_,_=>none
def Zl4 (P:Program)(st:St)(t:TypeId)(ps:List (Nat×Operand)):Option (Prop×V):=
 match Zhn P t,Zsu P t with
 |some z,some pl=>match Zgh pl (Zaj z) (ZaR st ps)with
  |some (c,cs)=>some (c,.agg cs)
  |none=>none
 |_,_=>none
section
variable {P:Program}{S:Nat->Prop}{w:World}{β:Nat->Option BI}{C:Ctx}{st:St}{a:Act}
def RRs (R:V->Value->Prop)(cs:List V)(us:Array Value):Prop:=
 cs.length=us.size/\ ∀(j:Nat) (v:V) (u:Value),cs[j]? = some v->us[j]? = some u->R v u
abbrev VRs (S:Nat->Prop)(w:World)(β:Nat->Option BI)(cs:List V)(us:Array Value):Prop:=RRs (VR S w β) cs us
theorem ZwL {v:V}{u:Value}(h:VR S w β v u)(hv:vok v=true):VRs S w β (ZaA v) u.cells:=by
 have one: ∀{v:V} {u:Value},VR S w β v u->v.cell1=true->VRs S w β [v] u.cells:=by
  intro v u h h1
  have h2:=h.oneCell h1
  have:u.cells= #[u]:=by cases u<;>first|rfl|(simp[Value.oneCell']at h2)
  rw[this]
  refine⟨rfl,?_⟩
  intro j v' u' hv hu
  cases j with
  |zero=>simp at hv hu;subst hv hu;exact h
  |succ j=>simp at hv
 cases v with
 |agg cs=>obtain⟨us,rfl,hl,hr⟩:=VR.agg_inv h;exact⟨hl,hr⟩
 |fagg cs=>obtain⟨us,rfl,hl,hr,_⟩:=VR.fagg_inv h;exact⟨hl,fun j v u h1 h2=> .flat (hr j v u h1 h2)⟩
 |any=>simp[vok,V.cell1]at hv
 |tup vs=>simp[vok,V.cell1]at hv
 |_=>exact one h hv
theorem Zsv (us:List Value): ∀(k off:Nat) (cells:Array Value),
 ((us.zipIdx k).foldl (fun cs (p:Value×Nat)=>cs.setIfInBounds (off+p.2) p.1) cells).size=cells.size/\
 ∀j,((us.zipIdx k).foldl (fun cs (p:Value×Nat)=>cs.setIfInBounds (off+p.2) p.1) cells)[j]? = if off+k<=j/\j<off+k+us.length/\j<cells.size then us[j-(off+k)]? else cells[j]? :=by
 induction us with
 |nil=>intro k off cells;simp;omega
 |cons u us ih=>
  intro k off cells
  simp only[List.zipIdx_cons,List.foldl_cons]
  obtain⟨h1,h2⟩:=ih (k+1) off (cells.setIfInBounds (off+k) u)
  refine⟨by rw[h1];simp,fun j=> ?_⟩
  rw[h2 j]
  simp only[Array.size_setIfInBounds,Yag]
  by_cases hc:off+(k+1)<=j/\j<off+(k+1)+us.length/\j<cells.size
  ·rw[if_pos hc,if_pos (by omega)]
   have:j-(off+k)=(j-(off+(k+1)))+1:=by omega
   rw[this,List.getElem?_cons_succ]
  ·rw[if_neg hc,Array.getElem?_setIfInBounds]
   by_cases hj:off+k=j
   ·subst hj
    by_cases hlt:off+k<cells.size
    ·rw[if_pos rfl,if_pos hlt,if_pos ⟨by omega,by omega,hlt⟩];simp
    ·rw[if_pos rfl,if_neg hlt,if_neg (by omega)]
     exact(Array.getElem?_eq_none (by omega)).symm
   ·rw[if_neg hj,if_neg (by omega)]
theorem Zsw (R:V->Value->Prop)(pl:Plc): ∀(ps:List (Nat×V)) (cs r:List V) (c:Prop) (cells:Array Value) (us:List (Nat×Value)),Zgh pl cs ps=some (c,r)->c->RRs R cs cells->
 ps.length=us.length->(∀(j:Nat) (p:Nat×V) (q:Nat×Value),ps[j]? = some p->us[j]? = some q->p.1=q.1/\RRs R (ZaA p.2) q.2.cells)-> ∃cells',Instr.fill pl.at cells us=some cells'/\RRs R r cells':=by
 intro ps
 induction ps with
 |nil=>
  intro cs r c cells us h _ hcs hl _
  cases us with
  |cons _ _=>simp at hl
  |nil=>
   simp only[Zgh,Yac,Yai]at h
   obtain⟨_,rfl⟩:=h
   exact⟨cells,rfl,hcs⟩
 |cons p ps ih=>
  intro cs r c cells us h hc hcs hl hps
  cases us with
  |nil=>simp at hl
  |cons q us=>
   obtain⟨i,v⟩:=p
   obtain⟨i',u⟩:=q
   obtain⟨e,hvu⟩:=hps 0 _ _ rfl rfl
   simp only at e hvu
   subst e
   simp only[Zgh]at h
   split at h<;>first|(cases h;done)|skip
   rename_i off n hpl _
   split at h<;>first|(cases h;done)|skip
   rename_i c' r' hrest
   simp only[Yac,Yai]at h
   obtain⟨rfl,rfl⟩:=h
   obtain⟨⟨hn,hfit⟩,hc'⟩:=hc
   obtain⟨hlv,hrv⟩:=hvu
   obtain⟨hlc,hrc⟩:=hcs
   have hset:=Zsv u.cells.toList 0 off cells
   have hfold:(u.cells.zipIdx.foldl (fun cs (p:Value×Nat)=>cs.setIfInBounds (off+p.2) p.1) cells)=((u.cells.toList.zipIdx 0).foldl (fun cs (p:Value×Nat)=>cs.setIfInBounds (off+p.2) p.1) cells):=by
      rw[<- Array.foldl_toList,Array.toList_zipIdx]
   generalize hW:((u.cells.toList.zipIdx 0).foldl (fun cs (p:Value×Nat)=>cs.setIfInBounds (off+p.2) p.1) cells)=W at hset hfold
   have hW1:RRs R (ZnN cs off (ZaA v)) W:=by
      refine⟨?_,?_⟩
      ·rw[hset.1,<- hlc]
       simp only[ZnN,Yal,Yar,Yaw]
       omega
      ·intro j v' u' hv' hu'
       rw[hset.2 j]at hu'
       simp only[Nat.add_zero,Array.length_toList]at hu'
       simp only[ZnN]at hv'
       have hlen1:(cs.take off).length=off:=by rw[Yar];omega
       by_cases h1:j<off
       ·rw[if_neg (by omega)]at hu'
        rw[Ya1 (by simp;omega),Ya1 (by omega),List.getElem?_take,if_pos h1]at hv'
        exact hrc j v' u' hv' hu'
       ·by_cases h2:j<off+(ZaA v).length
        ·rw[if_pos (by omega)]at hu'
         rw[Ya1 (by simp;omega),Ya8 (by omega),hlen1]at hv'
         exact hrv (j-off) v' u' hv' (by simpa using hu')
        ·rw[if_neg (by omega)]at hu'
         rw[Ya8 (by simp;omega),Ya2]at hv'
         have:off+(ZaA v).length+(j-(List.take off cs++ZaA v).length)=j:=by
          rw[Yal,hlen1];omega
         rw[this]at hv'
         exact hrc j v' u' hv' hu'
   obtain⟨cells',hf,hr'⟩:=ih _ _ _ W us hrest hc' hW1 (by simpa using hl) (fun j p q hp hq=>hps (j+1) p q (by simpa using hp) (by simpa using hq))
   refine⟨cells',?_,hr'⟩
   simp only[Instr.fill,hpl]
   rw[if_neg (by simp;omega),hfold]
   exact hf
theorem ZAv (pl:Plc)(ps:List (Nat×V))(cs r:List V)(c:Prop)(cells:Array Value)(us:List (Nat×Value))(h:Zgh pl cs ps=some (c,r))(hc:c)(hcs:VRs S w β cs cells)
 (hl:ps.length=us.length) (hps: ∀(j:Nat) (p:Nat×V) (q:Nat×Value),ps[j]? = some p->us[j]? = some q->p.1=q.1/\VR S w β p.2 q.2): ∃cells',Instr.fill pl.at cells us=some cells'/\VRs S w β r cells':=by
 have hv: ∀(ps:List (Nat×V)) (cs r:List V) (c:Prop),Zgh pl cs ps=some (c,r)-> ∀p∈ps,vok p.2=true:=by
  intro ps
  induction ps with
  |nil=>intro cs r c _ p hp;cases hp
  |cons q ps ih=>
   intro cs r c h p hp
   obtain⟨i,v⟩:=q
   simp only[Zgh]at h
   split at h<;>first|(cases h;done)|skip
   rename_i off n hpl hvk
   split at h<;>first|(cases h;done)|skip
   rename_i c' r' hrest
   rcases Yav.1 hp with rfl|hp
   ·exact hvk
   ·exact ih _ _ _ hrest p hp
 exact Zsw (VR S w β) pl ps cs r c cells us h hc hcs hl (fun j p q hp hq=>⟨(hps j p q hp hq).1,ZwL (hps j p q hp hq).2 (hv ps cs r c h p (Ya0 hp))⟩)
theorem Zsx (z:Value):VRs S w β (Zaj z) z.cells:=by
 refine⟨by simp[Zaj],?_⟩
 intro j v u hv hu
 simp only[Zaj,Yas,Yaj]at hv
 obtain⟨u0,hu0,rfl⟩:=hv
 have:u0=u:=by
  rw[Array.getElem?_toList]at hu0
  rw[hu0]at hu;exact Option.some.inj hu
 subst this
 exact .flat (Zhm S w _)
theorem Zl5 {t:TypeId}{ps:Array (Nat×Operand)}{v:V}{c:Prop}(h:Zl4 P st t ps.toList=some (c,v))(hc:c)(hsr:SR C S β st a w) :
 ∃u,(Instr.build t (ps.map fun(i,x)=>(i,a.eval x))).run P w= .ok u w/\VR S w β v u:=by
 unfold Zl4 at h
 split at h<;>first|(cases h;done)|skip
 rename_i z pl hz hpl
 split at h<;>first|(cases h;done)|skip
 rename_i c' cs hf
 simp only[Yac,Yai]at h
 obtain⟨rfl,rfl⟩:=h
 obtain⟨cells',hfill,hl,hr⟩:=ZAv (S:=S) (w:=w) (β:=β) pl (ZaR st ps.toList) (Zaj z) cs c' z.cells (ps.toList.map fun p=>(p.1,a.eval p.2)) hf hc (Zsx z) (by simp[ZaR]) (fun j p q hp hq=>by
  simp only[ZaR,Yas,Yaj]at hp hq
  obtain⟨x,hx,rfl⟩:=hp
  obtain⟨y,hy,rfl⟩:=hq
  rw[hx]at hy;cases hy
  exact⟨rfl,Zag hsr _⟩)
 refine⟨.agg cells',?_,.agg _ _ hl hr⟩
 apply run_build
 have hps:(ps.map fun(i,x)=>(i,a.eval x)).toList=ps.toList.map fun p=>(p.1,a.eval p.2):=by simp
 rw[hps]
 unfold Zhn at hz
 split at hz
 ·rename_i it hit
  unfold Zsu at hpl
  split at hpl
  ·rename_i n e hu
   rw[Yaj]at hpl
   obtain⟨ie,hie,rfl⟩:=hpl
   simp only[Program.built,hit,hu,hz,hie]
   exact hfill
  ·rename_i fields hu
   rw[Yaj]at hpl
   obtain⟨places,hp,rfl⟩:=hpl
   simp only[Program.built,hit,hu,hz,hp]
   have:(Plc.rows places).at=fun i=>places.toArray[i]? :=by funext i;simp[Plc.at]
   rw[this]at hfill
   exact hfill
  ·cases hpl
 ·cases hz
end
end Go.Abs
namespace Go.Abs
open Go Go.RowKit
def V.frz (k:Nat)(cs:List V):Nat->V->V
 |0,_=> .any
 |d+1,v=>match v with
  |.ref j o n s=>bif j==k then .view n s ((cs.drop o).take (n*s))else .ref j o n s
  |.ptr j o=>bif j==k then .vptr (cs.drop o)else .ptr j o
  |.agg as=> .agg (as.map (V.frz k cs d))
  |.tup vs=> .tup (vs.map (V.frz k cs d))
  |.fn f cap=> .fn f (cap.map (V.frz k cs d))
  |v=>v
def ZaK.frz (k:Nat)(cs:List V)(o:ZaK):ZaK:=bif o.flat then o else{ o with cs:=o.cs.map (V.frz k cs 3) }
def St.freeze (st:St)(k:Nat):St:=
 match lk st.mem k with
 |some o=>bif o.flat&& !ZcX st.lent k then
  { st with slots:=st.slots.map fun p=>(p.1,p.2.frz k o.cs 4),mem:=rm (st.mem.map fun p=>(p.1,p.2.frz k o.cs)) k }
  else st
 |none=>st
def ZCn (k j:Nat):Nat:=(k+1)*1000+j
def St.create (st:St)(k:Nat)(flat:Bool)(cs:List V):St:=st.repl k { flat:=flat,cs:=bif flat then cs else cs.map (V.wipe k 3) }
def St.settle (st:St)(ck k j s:Nat):St:=
 match (st.repl ck { flat:=true,cs:=[] }).obj k with
 |some o=>match o.flat,o.cs[j]? with
  |false,some .nils=>(st.repl ck { flat:=true,cs:=[] }).setObj k { o with cs:=o.cs.set j (.ref ck 0 0 s) }
  |_,_=>st.repl ck { flat:=true,cs:=[] }
 |none=>st.repl ck { flat:=true,cs:=[] }
def St.own1 (st:St)(k j s:Nat):St:=
 match st.obj k with
 |some o=>match o.cs[j]? with
  |some .nils=>st.settle (ZCn k j) k j s
  |some (.ref k' _ _ _)=>st.rename k' (ZCn k j)
  |_=>st
 |none=>st
def St.ownL (st:St)(k:Nat):List (Nat×Nat)->St
 |[]=>st
 |(j,s)::l=>(st.own1 k j s).ownL k l
section
variable {P:Program}{C:Ctx}{S:Nat->Prop}{β:Nat->Option BI}{st:St}{a:Act}{w w':World}
theorem ORs.view {o:ZaK}{bi:BI}{cur:Array Value}{e:TypeId}{fz:Nat×Nat}(h:ORs S w β o bi cur e fz)(hfl:o.flat=true){S':Nat->Prop}(hS: ∀b,S b->S' b)(hS':S' bi.blk){off n sz c:Nat}(hn:n<=c)(hfit:off+n*sz<=bi.len) :
 FR S' w (.view n sz ((o.cs.drop off).take (n*sz))) (.slice (some ⟨bi.blk,bi.off+off,none⟩) n c):=by
 have hin: ∀(j:Nat) (v:V),((o.cs.drop off).take (n*sz))[j]? = some v->o.cs[off+j]? = some v:=by
  intro j v hj
  obtain⟨_,hj⟩:=ZbC hj
  rwa [Ya2]at hj
 refine .view n sz _ _ c (fun j=>cur.getD (bi.off+off+j) undef) ?_ hn (fun _=>⟨_,_,rfl,hS',?_⟩) ?_ ?_
 ·rw[Yar,Yaw];have:=h.len;omega
 ·intro j v hj
  obtain⟨u,hu,_,_⟩:=h.cells _ _ (hin j v hj)
  rw[Zbc h,Yan]
  rw[<- Nat.add_assoc]at hu
  rw[hu];rfl
 ·intro j v hj
  obtain⟨u,hu,_,hr⟩:=h.cells _ _ (hin j v hj)
  rw[if_pos hfl]at hr
  rw[<- Nat.add_assoc]at hu
  simp only[Yan,hu,Option.getD_some]
  exact hr.2.step hS (fun _ _=>rfl)
 ·intro j v hj
  obtain⟨u,hu,_,hr⟩:=h.cells _ _ (hin j v hj)
  rw[if_pos hfl]at hr
  exact hr.1
theorem ORs.vptr {o:ZaK}{bi:BI}{cur:Array Value}{e:TypeId}{fz:Nat×Nat}(h:ORs S w β o bi cur e fz)(hfl:o.flat=true){S':Nat->Prop}(hS: ∀b,S b->S' b)(hS':S' bi.blk)(off:Nat) :
 FR S' w (.vptr (o.cs.drop off)) (.pointer (some ⟨bi.blk,bi.off+off,none⟩)):=by
 have hin: ∀(j:Nat) (v:V),(o.cs.drop off)[j]? = some v->o.cs[off+j]? = some v:=by
  intro j v hj
  rwa [Ya2]at hj
 refine .vptr _ bi.blk _ (fun j=>cur.getD (bi.off+off+j) undef) (fun _=>hS') ?_ ?_ ?_
 ·intro j v hj
  obtain⟨u,hu,_,_⟩:=h.cells _ _ (hin j v hj)
  rw[Zbc h,Yan]
  rw[<- Nat.add_assoc]at hu
  rw[hu];rfl
 ·intro j v hj
  obtain⟨u,hu,_,hr⟩:=h.cells _ _ (hin j v hj)
  rw[if_pos hfl]at hr
  rw[<- Nat.add_assoc]at hu
  simp only[Yan,hu,Option.getD_some]
  exact hr.2.step hS (fun _ _=>rfl)
 ·intro j v hj
  obtain⟨u,hu,_,hr⟩:=h.cells _ _ (hin j v hj)
  rw[if_pos hfl]at hr
  exact hr.1
theorem VR.frz {k:Nat}{o:ZaK}(ho:OR S w β k o)(hfl:o.flat=true){S':Nat->Prop}(hS: ∀b,S b->S' b)(hS': ∀bi,β k=some bi->S' bi.blk): ∀(d:Nat) {v:V} {u:Value},VR S w β v u->VR S' w β (v.frz k o.cs d) u:=by
 intro d
 induction d with
 |zero=>intro v u _;exact .any u
 |succ d ih=>
  intro v u h
  have hlist: ∀{cs:List V} {us:Array Value},(∀(j:Nat) (v:V) (u:Value),cs[j]? = some v->us[j]? = some u->VR S w β v u)-> ∀(j:Nat) (v:V) (u:Value),(cs.map (V.frz k o.cs d))[j]? = some v->us[j]? = some u->VR S' w β v u:=by
    intro cs us hr j v u hv hu
    simp only[Yas,Yaj]at hv
    obtain⟨v0,hv0,rfl⟩:=hv
    exact ih (hr j v0 u hv0 hu)
  cases h with
  |flat h=>
   have h':=h.step (S':=S') (w':=w) hS (fun _ _=>rfl)
   cases h with
   |fn f=>exact .flat (.fn f)
   |_=>exact .flat h'
  |any u=>exact .any u
  |ref j off n sz A c h=>
   simp only[V.frz]
   by_cases hj:j=k
   ·subst hj;simp only[Ya4,cond_true]
    rcases h with⟨rfl,rfl⟩|⟨bi,hbi,rfl,hn,_,hfit⟩
    ·refine .flat (.view 0 sz _ A 0 (fun _=>undef) (by simp) (Nat.le_refl _) (fun hne=> ?_) (fun j v hj=> ?_) (fun j v hj=> ?_))
     ·simp at hne
     ·simp at hj
     ·simp at hj
    ·rcases ho with⟨_,_,h3⟩|⟨bi',cur,e,fz,hbi',hor⟩
     ·rw[h3]at hbi;cases hbi
     ·rw[hbi']at hbi;cases hbi
      exact .flat (hor.view hfl hS (hS' _ hbi') hn hfit)
   ·rw[show(j==k)=false from by simpa using hj];simp only[cond_false]
    exact .ref j off n sz A c h
  |ptr j off bi h=>
   simp only[V.frz]
   by_cases hj:j=k
   ·subst hj;simp only[Ya4,cond_true]
    rcases ho with⟨_,_,h3⟩|⟨bi',cur,e,fz,hbi',hor⟩
    ·rw[h3]at h;cases h
    ·rw[hbi']at h;cases h
     exact .flat (hor.vptr hfl hS (hS' _ hbi') off)
   ·rw[show(j==k)=false from by simpa using hj];simp only[cond_false]
    exact .ptr j off bi h
  |agg cs us hl hr=>exact .agg _ us (by simpa using hl) (hlist hr)
  |tup vs us hl hr=>exact .tup _ us (by simpa using hl) (hlist hr)
  |fn f cap us hl hr=>exact .fn f _ us (by simpa using hl) (hlist hr)
  |mfn f cap us hl hr=>exact .mfn f _ us (by simpa using hl) (hlist hr)
theorem SR.freeze (h:SR C S β st a w)(k:Nat): ∃S',(∀b,S b->S' b)/\SR C S' β (st.freeze k) a w:=by
 unfold St.freeze
 split
 ·rename_i o ho
  have ho':st.obj k=some o:=ho
  cases hc:o.flat&& !ZcX st.lent k with
  |false=>exact⟨S,fun _ h=>h,h⟩
  |true=>
   simp only[Yao,Bool.not_eq_true']at hc
   obtain⟨hfl,hlent⟩:=hc
   have hor:=h.objs k o ho'
   let S':Nat->Prop:=fun b=>S b\/ ∃bi,β k=some bi/\b=bi.blk
   have hS: ∀b,S b->S' b:=fun b hb=> .inl hb
   have hS': ∀bi,β k=some bi->S' bi.blk:=fun bi hbi=> .inr ⟨bi,hbi,rfl⟩
   have hobj: ∀j,(St.obj { st with slots:=st.slots.map fun p=>(p.1,p.2.frz k o.cs 4),mem:=rm (st.mem.map fun p=>(p.1,p.2.frz k o.cs)) k } j)=if j=k then none else(st.obj j).map (ZaK.frz k o.cs):=by
     intro j
     simp only[St.obj,ZnS,Ze5]
   refine⟨S',hS,{ tsize:=h.tsize,slots:= ?_,defers:=h.defers,objs:= ?_,inj:= ?_,own:= ?_,pins:=h.pins,sub:=fun b hb=> .inl (h.sub b hb),snew:= ?_,slt:= ?_,frame:=h.frame }⟩
   ·intro i
    have hi:=h.slots i
    unfold St.get at hi
    simp only[cond_true,St.get,Ze5]
    cases hl:lk st.slots i with
    |none=>exact .any _
    |some v=>rw[hl]at hi;exact VR.frz hor hfl hS hS' 4 hi
   ·intro j oj hj
    simp only[cond_true]at hj
    rw[hobj]at hj
    by_cases e:j=k
    ·rw[if_pos e]at hj;cases hj
    ·rw[if_neg e,Yaj]at hj
     obtain⟨o0,ho0,rfl⟩:=hj
     rcases h.objs j o0 ho0 with⟨h1,h2,h3⟩|⟨bi,cur,e',fz,hbi,hr⟩
     ·exact .inl ⟨by simp[ZaK.frz,h1],by simp[ZaK.frz,h1,h2],h3⟩
     ·refine .inr ⟨bi,cur,e',fz,hbi,?_⟩
      have:=ORs.step (S':=S') (w':=w) (β':=β) hr hS (fun _ _=>rfl) rfl (fun v=>v) (fun v u h=>h)
      cases hf:o0.flat with
      |true=>
       have e1:o0.frz k o.cs=o0:=by simp[ZaK.frz,hf]
       rw[e1]
       rw[hf]at this;exact this
      |false=>
       have e1:o0.frz k o.cs={ o0 with cs:=o0.cs.map (V.frz k o.cs 3) }:=by simp[ZaK.frz,hf]
       rw[e1]
       refine⟨hr.heap,hr.size,hr.free,by simpa using hr.fits,by simpa using hr.len,?_⟩
       intro i v hv
       simp only[Yas,Yaj]at hv
       obtain⟨v0,hv0,rfl⟩:=hv
       obtain⟨u,hu,h1,hr'⟩:=hr.cells i v0 hv0
       rw[if_neg (by simp[hf])]at hr'
       exact⟨u,hu,h1,by rw[if_neg (by simp[hf])];exact VR.frz hor hfl hS hS' 3 hr'⟩
   ·intro j j' bj bj' hj hj' hbj hbj' e
    simp only[cond_true]at hj hj'
    rw[hobj]at hj hj'
    by_cases e1:j=k
    ·rw[if_pos e1]at hj;cases hj
    ·by_cases e2:j'=k
     ·rw[if_pos e2]at hj';cases hj'
     ·rw[if_neg e1]at hj;rw[if_neg e2]at hj'
      exact h.inj j j' bj bj' (by simpa using hj) (by simpa using hj') hbj hbj' e
   ·intro j bj hj hbj
    simp only[cond_true]at hj ⊢
    rw[hobj]at hj
    by_cases e1:j=k
    ·rw[if_pos e1]at hj;cases hj
    ·rw[if_neg e1]at hj
     have hj':(st.obj j).isSome=true:=by simpa using hj
     refine⟨?_,(h.own j bj hj' hbj).2⟩
     rintro(hb|⟨bi,hbi,e⟩)
     ·exact(h.own j bj hj' hbj).1 hb
     ·exact e1 (h.inj j k bj bi hj' (by simp[ho']) hbj hbi e)
   ·rintro b (hb|⟨bi,hbi,rfl⟩)
    ·exact h.snew b hb
    ·rcases(h.own k bi (by simp[ho']) hbi).2 with hge|⟨_,hmem⟩
     ·exact .inr hge
     ·rw[hlent]at hmem;cases hmem
   ·rintro b (hb|⟨bi,hbi,rfl⟩)
    ·exact h.slt b hb
    ·exact h.blk_lt (by simp[ho']) hbi
 ·exact⟨S,fun _ h=>h,h⟩
theorem SR.create (h:SR C S β st a w)(k:Nat)(flat:Bool)(cs:List V)(cells:Array Value)(e:TypeId)(fz:Nat×Nat)(n:Nat)(hfz:ZB8 fz cells.size)(hfit:cs.length<=cells.size)
 (hcs: ∀(j:Nat) (v:V),cs[j]? = some v-> ∃u,cells[j]? = some u/\u.oneCell'=true/\(if flat=true then v.cell1=true/\FR S w v u else VR S w β v u)) :
 SR C S (upd β k (some ⟨w.heap.size,0,cells.size,cs.length⟩)) (st.create k flat cs) a { w with heap:=w.heap.push (.cells cells e fz),drawn:=n }:=by
 have hold: ∀b,b<w.heap.size->(w.heap.push (.cells cells e fz))[b]? = w.heap[b]? :=fun b hb=>by rw[Array.getElem?_push,if_neg (by omega)]
 refine SR.repl h k _ _ rfl rfl rfl (by simp) (fun b hb _=>hold b hb) (fun x hx=>by cases hx;exact .inl (Nat.le_refl _)) (.inr ⟨_,cells,e,fz,ZaU _ _ _,?_⟩)
 refine⟨by simp,rfl,hfz,by cases flat<;>simpa using hfit,by cases flat<;>simp,?_⟩
 have hSb: ∀b,S b->({ w with heap:=w.heap.push (.cells cells e fz),drawn:=n }:World).heap[b]? = w.heap[b]? :=fun b hb=>hold b (h.slt b hb)
 intro j v hv
 cases flat with
 |true=>
  simp only[cond_true]at hv
  obtain⟨u,hu,h1,hr⟩:=hcs j v hv
  rw[if_pos rfl]at hr
  refine⟨u,by simpa using hu,h1,?_⟩
  rw[if_pos rfl]
  exact⟨hr.1,hr.2.step (fun _ h=>h) hSb⟩
 |false=>
  simp only[cond_false,Yas,Yaj]at hv
  obtain⟨v0,hv0,rfl⟩:=hv
  obtain⟨u,hu,h1,hr⟩:=hcs j v0 hv0
  rw[if_neg (by simp)]at hr
  refine⟨u,by simpa using hu,h1,?_⟩
  rw[if_neg (by simp)]
  exact VR.wipe (fun j hj=>ZbO _ _ _ _ hj) 3 (VR.step hr (fun _ h=>h) hSb)
theorem SR.empty (h:SR C S β st a w)(k:Nat):SR C S (upd β k none) (st.repl k { flat:=true,cs:=[] }) a w:=
 SR.repl h k _ none rfl rfl rfl (Nat.le_refl _) (fun _ _ _=>rfl) (fun x hx=>by cases hx) (.inl ⟨rfl,rfl,ZaU _ _ _⟩)
theorem SR.retype (h:SR C S β st a w){k j ck s:Nat}{o:ZaK}(ho:st.obj k=some o)(hfl:o.flat=false)(hj:o.cs[j]? = some .nils):SR C S β (st.setObj k { o with cs:=o.cs.set j (.ref ck 0 0 s) }) a w:=by
 refine SR.write h k _ (by simp[ho]) rfl rfl rfl rfl (fun _ _ _=>rfl) ?_
 rcases h.objs k o ho with⟨h1,_,_⟩|⟨bi,cur,e,fz,hbi,hr⟩
 ·rw[hfl]at h1;cases h1
 ·refine .inr ⟨bi,cur,e,fz,hbi,hr.heap,hr.size,hr.free,by simpa using hr.fits,by simpa using hr.len,?_⟩
  intro i v hv
  simp only[List.getElem?_set]at hv
  by_cases e1:j=i
  ·subst e1
   obtain⟨u,hu,h1,hr'⟩:=hr.cells j _ hj
   rw[if_neg (by simp[hfl])]at hr'
   obtain⟨A,rfl⟩:=VR.nils_inv hr'
   refine⟨_,hu,h1,?_⟩
   rw[if_neg (by simp[hfl])]
   have:v= .ref ck 0 0 s:=by
    rw[if_pos rfl]at hv
    split at hv
    ·exact(Option.some.inj hv).symm
    ·cases hv
   rw[this]
   exact .ref ck 0 0 s A 0 (.inl ⟨rfl,rfl⟩)
  ·rw[if_neg e1]at hv
   exact hr.cells i v hv
theorem SR.own1 (h:SR C S β st a w)(k j s:Nat): ∃β',SR C S β' (st.own1 k j s) a w:=by
 unfold St.own1
 split
 ·split
  ·unfold St.settle
   have h1:=h.empty (ZCn k j)
   split
   ·rename_i o ho
    split
    ·rename_i hfl hj
     exact⟨_,h1.retype ho hfl hj⟩
    ·exact⟨_,h1⟩
   ·exact⟨_,h1⟩
  ·exact h.rename _ _
  ·exact⟨β,h⟩
 ·exact⟨β,h⟩
theorem SR.ownL (k:Nat): ∀(l:List (Nat×Nat)) {β:Nat->Option BI} {st:St},SR C S β st a w-> ∃β',SR C S β' (st.ownL k l) a w:=by
 intro l
 induction l with
 |nil=>intro β st h;exact⟨β,h⟩
 |cons p l ih=>
  intro β st h
  obtain⟨j,s⟩:=p
  obtain⟨β',h'⟩:=h.own1 k j s
  exact ih h'
end
end Go.Abs
namespace Go.Abs
open Go Go.RowKit
def ZwA:Array Value->Nat->List Value->Array Value
 |cur,_,[]=>cur
 |cur,o,v::vs=>ZwA (cur.setIfInBounds o v) (o+1) vs
theorem Ze8: ∀(vs:List Value) (cur:Array Value) (o:Nat),(ZwA cur o vs).size=cur.size
 |[],_,_=>rfl
 |v::vs,cur,o=>by simp[ZwA,Ze8 vs]
theorem ZkH: ∀(vs:List Value) (cur:Array Value) (o j:Nat),o+vs.length<=cur.size->(ZwA cur o vs)[j]? = if o<=j/\j<o+vs.length then vs[j-o]? else cur[j]?
 |[],cur,o,j,_=>by simp only[ZwA,List.length_nil];rw[if_neg (by omega)]
 |v::vs,cur,o,j,h=>by
  simp only[Yag]at h
  simp only[ZwA]
  rw[ZkH vs _ (o+1) j (by simp;omega)]
  by_cases h1:o+1<=j/\j<o+1+vs.length
  ·rw[if_pos h1,if_pos (by simp;omega)]
   have:j-o=(j-(o+1))+1:=by omega
   rw[this,List.getElem?_cons_succ]
  ·rw[if_neg h1,Array.getElem?_setIfInBounds]
   by_cases h2:o=j
   ·subst h2
    rw[if_pos rfl,if_pos (by omega),if_pos (by simp)]
    simp
   ·rw[if_neg h2,if_neg (by simp;omega)]
theorem Zeh (b:Nat)(e:TypeId)(fz:Nat×Nat): ∀(vs:List Value) (o:Nat) (w:World) (cur:Array Value),w.heap[b]? = some (.cells cur e fz)->(w.setCells b o vs).heap[b]? = some (.cells (ZwA cur o vs) e fz)
 |[],_,_,_,h=>h
 |v::vs,o,w,cur,h=>by
  simp only[World.setCells,ZwA]
  refine Zeh b e fz vs (o+1) _ _ ?_
  simp only[World.setCell,Array.getElem?_modify,h]
  simp
theorem ZbP (b:Nat): ∀(vs:List Value) (o:Nat) (w:World) (k:Nat),k≠b->(w.setCells b o vs).heap[k]? = w.heap[k]?
 |[],_,_,_,_=>rfl
 |v::vs,o,w,k,h=>by
  simp only[World.setCells]
  rw[ZbP b vs (o+1) _ k h]
  exact Below.heap_setCell w ⟨b,o,none⟩ v k h
theorem Zei (b:Nat): ∀(vs:List Value) (o:Nat) (w:World),(w.setCells b o vs).heap.size=w.heap.size
 |[],_,_=>rfl
 |v::vs,o,w=>by simp only[World.setCells];rw[Zei b vs];simp[World.setCell]
theorem Zej (b:Nat): ∀(vs:List Value) (o:Nat) (w:World),(w.setCells b o vs).os=w.os/\(w.setCells b o vs).tape=w.tape/\(w.setCells b o vs).output=w.output
 |[],_,_=>⟨rfl,rfl,rfl⟩
 |v::vs,o,w=>by simp only[World.setCells];exact Zej b vs (o+1) _
section
variable {P:Program}{C:Ctx}{S:Nat->Prop}{β:Nat->Option BI}{st:St}{a:Act}{w w':World}
theorem Zdz {o:ZaK}{bi:BI}{cur:Array Value}{e:TypeId}{fz:Nat×Nat}(hor:ORs S w β o bi cur e fz)(off:Nat)(us:List Value)(hfit:off+us.length<=bi.tot)(h1: ∀u∈us,u.oneCell'=true) :
 (storeCells ⟨bi.blk,off,none⟩ us).run P w= .ok () (w.setCells bi.blk off us):=by
 have hsz:=hor.size
 have:=run_storeCells_cells (P:=P) bi.blk off us 0 w (fun j hj=>by
  rw[Zbc hor]
  have:off+0+j<cur.size:=by omega
  rw[Array.getElem?_eq_getElem this];rfl) (fun j hj=>by
  simp only[World.frozen?,hor.heap]
  have:=hor.free.2 (off+0+j) (by omega)
  simp only[Bool.and_eq_false_iff,decide_eq_false_iff_not]
  by_cases h2:fz.1<=off+0+j
  ·exact .inr (fun h3=>this ⟨h2,h3⟩)
  ·exact .inl h2) h1
 simpa using this
theorem ORs.stored {o:ZaK}{bi:BI}{cur:Array Value}{e:TypeId}{fz:Nat×Nat}(hor:ORs S w β o bi cur e fz)(hS: ¬S bi.blk)(off:Nat)(vs:List V)(us:List Value)(hl:vs.length=us.length)(hfit:off+vs.length<=o.cs.length)
 (hvs: ∀(j:Nat) (v:V) (u:Value),vs[j]? = some v->us[j]? = some u->u.oneCell'=true/\(if o.flat=true then v.cell1=true/\FR S w v u else VR S w β v u)) :
 ORs S (w.setCells bi.blk (bi.off+off) us) β { o with cs:=ZnN o.cs off vs } bi (ZwA cur (bi.off+off) us) e fz:=by
 have hSk: ∀b,S b->(w.setCells bi.blk (bi.off+off) us).heap[b]? = w.heap[b]? :=fun b hb=>ZbP _ _ _ _ _ (fun e=>hS (e▸hb))
 have hlen:(ZnN o.cs off vs).length=o.cs.length:=by simp[ZnN];omega
 have hfits:=hor.fits
 have hsize:=hor.size
 refine⟨Zeh _ _ _ _ _ _ _ hor.heap,by rw[Ze8];exact hor.size,by rw[Ze8];exact hor.free,by simpa only[hlen]using hor.fits,by simpa only[hlen]using hor.len,?_⟩
 intro j v hv
 rw[ZkH _ _ _ _ (by omega)]
 have hlen1:(o.cs.take off).length=off:=by rw[Yar];omega
 simp only[ZnN]at hv
 have step: ∀{v:V} {u:Value},(if o.flat=true then v.cell1=true/\FR S w v u else VR S w β v u)->(if o.flat=true then v.cell1=true/\FR S (w.setCells bi.blk (bi.off+off) us) v u else VR S (w.setCells bi.blk (bi.off+off) us) β v u):=by
  intro v u h
  split at h
  ·rename_i hf;rw[if_pos hf];exact⟨h.1,h.2.step (fun _ h=>h) hSk⟩
  ·rename_i hf;rw[if_neg hf];exact VR.step h (fun _ h=>h) hSk
 by_cases h1:j<off
 ·rw[if_neg (by omega)]
  rw[Ya1 (by simp;omega),Ya1 (by omega),List.getElem?_take,if_pos h1]at hv
  obtain⟨u,hu,hu1,hr⟩:=hor.cells j v hv
  exact⟨u,hu,hu1,step hr⟩
 ·by_cases h2:j<off+vs.length
  ·rw[if_pos (by omega)]
   rw[Ya1 (by simp;omega),Ya8 (by omega),hlen1]at hv
   have hj:j-off<us.length:=by omega
   have e1:bi.off+j-(bi.off+off)=j-off:=by omega
   rw[e1]
   have hu:us[j-off]? = some us[j-off]:=Yab hj
   obtain⟨hu1,hr⟩:=hvs (j-off) v _ hv hu
   exact⟨_,hu,hu1,step hr⟩
  ·rw[if_neg (by omega)]
   rw[Ya8 (by simp;omega),Ya2]at hv
   have:off+vs.length+(j-(List.take off o.cs++vs).length)=j:=by
    rw[Yal,hlen1];omega
   rw[this]at hv
   obtain⟨u,hu,hu1,hr⟩:=hor.cells j v hv
   exact⟨u,hu,hu1,step hr⟩
def Zj4:TypeDesc->Bool
 |.int _=>true
 |_=>false
theorem Zl6 (t tx ty e:TypeId)(i:TypeInfo)(z:Value)(dx:TypeDesc)(ht:P.underlying t=some (.slice e))(hi:P.info? e=some i)(hz:i.zero=some z)(htx:P.underlying tx=some dx)(hdx:Zj4 dx=false)
 (A:Option Addr) (n c:Nat) (ux:Value) (m:Nat) (news olds:List Value) (hm: ∀w0:World,(Builtin.lenOf ux).run P w0= .ok m w0) (hf: ∀d,(Builtin.firstCells i.size m ux).run P { w with drawn:=d }= .ok news.toArray { w with drawn:=d })
 (ho: ∀d,(Builtin.firstCells i.size n (.slice A n c)).run P { w with drawn:=d }= .ok olds.toArray { w with drawn:=d })
 (w1:World) (hst:n+m<=c-> ∀ad,A=some ad->(storeCells (ad.add (n*i.size)) news).run P w= .ok () w1) (hst0:n+m<=c->A=none->w1=w)
 (h63:n+m<=maxLen) (hbytes:(n+m)*i.bytes<=140737488355328) :
 (Builtin.append_ #[t,tx] ty #[.slice A n c,ux]).run P w =
  if n+m<=c then .ok (.slice A (n+m) c) w1
  else .ok (.slice (some ⟨w.heap.size,0,none⟩) (n+m) (grownCap w (n+m) c e))
   (w.drew.alloc (.cells ((olds++news).toArray++Builtin.zeroCells z.cells (grownCap w (n+m) c e-(n+m))) e)):=by
 have h0:=hf w.drawn
 have e0:({ w with drawn:=w.drawn }:World)=w:=rfl
 rw[e0]at h0
 by_cases hroom:n+m<=c
 ·rw[if_pos hroom]
  cases A with
  |none=>
   rw[hst0 hroom rfl]
   simp[Builtin.append_,run_underlying ht,run_underlying htx,sizeOf,typeInfo,hi,hm,hroom,h0]
   cases dx<;>first|(simp[Zj4]at hdx;done)|simp
  |some ad=>
   have h2:=hst hroom ad rfl
   simp[Builtin.append_,run_underlying ht,run_underlying htx,sizeOf,typeInfo,hi]
   cases dx<;>first|(simp[Zj4]at hdx;done)|simp[hm,hroom,h0,h2]
 ·rw[if_neg hroom]
  have h63': ¬((n:Int)+(m:Int)>9223372036854775807):=by simp only[maxLen]at h63;omega
  have hfit:=growslice_fits (need:=n+m) (old:=c) (bytes:=i.bytes) (by omega) hbytes
  have h48': ¬(281474976710656<Builtin.nextslicecap (n+m) c*i.bytes):=by omega
  have h1:(Builtin.firstCells i.size m ux).run P w.drew= .ok news.toArray w.drew:=hf (w.drawn+1)
  have h2:(Builtin.firstCells i.size n (.slice A n c)).run P w.drew= .ok olds.toArray w.drew:=ho (w.drawn+1)
  simp[Builtin.append_,run_underlying ht,run_underlying htx,sizeOf,typeInfo,zeroValue,hi,hz]
  cases dx<;>first|(simp[Zj4]at hdx;done)|(simp[hm,hroom,h63',h48',Question.forced,h1,h2,newRow,grownCap];rw[<- Array.append_assoc];simp)
end
end Go.Abs
