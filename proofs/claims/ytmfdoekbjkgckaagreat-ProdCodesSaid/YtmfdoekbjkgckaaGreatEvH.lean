import Derived.Test.YtmfdoekbjkgckaaGreatEvO
import Derived.Laws.Append
import Derived.Laws.BytesString
namespace Go.Aug
open Go
def Blk.ro:Blk->Bool
 | .cells _ _ ro=>ro
 | _=>false
def Aq (c:Cx):Blk->Obj->Prop
 | .cells cs _ _,o=>∃ C e,o=.cells C e (0,0)/\cs.length<=C.size/\VRs c cs (C.toList.take cs.length)/\DD e=true
 | .iter s p,o=>o=.stringIter s p
 | .free,_=>False
theorem Aq.mono {c c':Cx}(e:Ext c c'){b:Blk}{o:Obj}(h:Aq c b o):Aq c' b o:=by
 cases b with
 | cells cs v ro=>
  obtain⟨C,t,h1,h3,h4,h5⟩:=h
  exact⟨C,t,h1,h3,h4.mono e,h5⟩
 | iter s p=>exact h
 | free=>exact h
def YG (A:List Blk)(i:Nat):Prop:=∃ b,A[i]? =some b/\b.ro=false
structure Rel (c:Cx):Prop where
 blk:∀ i b,c.Pr i->c.A[i]? =some b->∃ o,c.w.heap[c.ρ i]? =some o/\Aq c b o/\(b.ro=true->c.I (c.ρ i))/\(b.ro=false->¬c.I (c.ρ i))
 inj:∀ i j,c.Pr i->c.Pr j->YG c.A i->YG c.A j->c.ρ i=c.ρ j->i=j
 lt:∀ b,c.I b->b<c.w.heap.size
structure Fr (c c':Cx):Prop extends Ext c c' where
 os:c'.w.os=c.w.os
 tape:c'.w.tape=c.w.tape
 output:c'.w.output=c.w.output
 size:c.w.heap.size<=c'.w.heap.size
 keep:∀ b,b<c.w.heap.size->(∀ i,c.Pr i->YG c.A i->c.ρ i≠b)->c'.w.heap[b]? =c.w.heap[b]?
 old:∀ i,c'.Pr i->YG c'.A i->c'.ρ i<c.w.heap.size->c.Pr i/\YG c.A i/\c'.ρ i=c.ρ i
 imm:∀ b,c'.I b->c.I b∨c.w.heap.size<=b∨∃ i,c.Pr i/\YG c.A i/\c.ρ i=b
theorem Fr.refl (c:Cx):Fr c c:=⟨Ext.refl c,rfl,rfl,rfl,Nat.le_refl _,fun _ _ _=>rfl,fun _ h1 h2 _=>⟨h1,h2,rfl⟩,fun _ h=>.inl h⟩
theorem Fr.trans {a b c:Cx}(h:Fr a b)(k:Fr b c):Fr a c where
 toExt:=h.toExt.trans k.toExt
 os:=k.os.trans h.os
 tape:=k.tape.trans h.tape
 output:=k.output.trans h.output
 size:=Nat.le_trans h.size k.size
 keep:=fun x hx hn=>by
  rw[<-h.keep x hx hn]
  refine k.keep x (Nat.lt_of_lt_of_le hx h.size) fun i hp ho he=> ?_
  obtain⟨p,o,e⟩:=h.old i hp ho (by omega)
  exact hn i p o (by omega)
 old:=fun i hp ho hl=>by
  obtain⟨p,o,e⟩:=k.old i hp ho (Nat.lt_of_lt_of_le hl h.size)
  obtain⟨p',o',e'⟩:=h.old i p o (by omega)
  exact⟨p',o',e.trans e'⟩
 imm:=fun x hx=>by
  rcases k.imm x hx with h1 | h1 | ⟨i,p,o,e⟩
  ·exact h.imm x h1
  ·exact .inr (.inl (Nat.le_trans h.size h1))
  ·by_cases hlt : b.ρ i < a.w.heap.size
   ·obtain ⟨p', o', e'⟩ := h.old i p o hlt
    exact .inr (.inr ⟨i,p',o',by omega⟩)
   ·exact .inr (.inl (by omega))
theorem Rel.heap {c:Cx}(h:Rel c){A:List Blk}(hA:∀ i,c.Pr i->A[i]? =c.A[i]?)(hv:∀ i v,Zk c.A i=some v->Zk A i=some v):Rel { c with A:=A }/\Fr c { c with A:=A }:=by
 have hown:∀ i,c.Pr i->(YG A i↔YG c.A i):=fun i hi=>by unfold YG;rw[hA i hi]
 have fr:Fr c { c with A:=A }:=
  {I := fun _ h => h, im := fun _ _ => rfl, pr := fun _ h => h, ver := fun i v e => ⟨v, hv i v e, Nat.le_refl _, fun _ _ => ⟨rfl, rfl⟩⟩
   os:=rfl,tape:=rfl,output:=rfl,size:=Nat.le_refl _,keep:=fun _ _ _=>rfl
   old:=fun i hp ho _=>⟨hp,(hown i hp).1 ho,rfl⟩,imm:=fun _ h=>.inl h }
 refine⟨⟨?_,?_,h.lt⟩,fr⟩
 ·intro i b hp he
  have he':c.A[i]? =some b:=by rw[<-hA i hp];exact he
  obtain⟨o,h1,h2,h3⟩:=h.blk i b hp he'
  exact⟨o,h1,h2.mono fr.toExt,h3⟩
 ·intro i j hi hj oi oj
  exact h.inj i j hi hj ((hown i hi).1 oi) ((hown j hj).1 oj)
theorem Fv {A:List Blk}{i:Nat}{cs:List AV}{v:Nat}{ro:Bool}(h:A[i]? =some (.cells cs v ro)):Zk A i=some v:=by simp[Zk,h,Blk.ver]
theorem Rel.lt_of {c:Cx}(h:Rel c){i:Nat}{b:Blk}(hp:c.Pr i)(he:c.A[i]? =some b):c.ρ i<c.w.heap.size:=by
 obtain⟨o,h1,_⟩:=h.blk i b hp he
 rcases Nat.lt_or_ge (c.ρ i) c.w.heap.size with h' | h'
 ·exact h'
 ·simp[Array.getElem?_eq_none h'] at h1
theorem Rel.rho_lt {c:Cx}(h:Rel c){i:Nat}(hp:c.Pr i)(ho:YG c.A i):c.ρ i<c.w.heap.size:=by
 obtain⟨b,he,_⟩:=ho
 exact h.lt_of hp he
theorem C1 {A:List Blk}{i v:Nat}(h:Zk A i=some v):∃ b,A[i]? =some b/\b.ver=some v:=by
 unfold Zk at h
 cases hq:A[i]? with
 | none=>simp[hq] at h
 | some b=>exact⟨b,rfl,by simpa [hq] using h⟩
theorem Rel.alloc {c:Cx}(h:Rel c){A:List Blk}{nb:Nat}{b:Blk}{o:Obj}{w':World}(hnb:¬c.Pr nb)
  (hA:∀ i,c.Pr i->A[i]? =c.A[i]?) (hver:∀ i v,Zk c.A i=some v->Zk A i=some v) (hb:A[nb]? =some b) (hr:b.ro=false) (hv:Aq c b o)
  (hh:w'.heap=c.w.heap.push o) (h1:w'.os=c.w.os) (h2:w'.tape=c.w.tape) (h3:w'.output=c.w.output):
  Fr c ⟨c.I,fun i=>if i=nb then c.w.heap.size else c.ρ i,w',A,fun i=>c.Pr i∨i=nb⟩/\Rel ⟨c.I,fun i=>if i=nb then c.w.heap.size else c.ρ i,w',A,fun i=>c.Pr i∨i=nb⟩:=by
 let c':Cx:=⟨c.I,fun i=>if i=nb then c.w.heap.size else c.ρ i,w',A,fun i=>c.Pr i∨i=nb⟩
 have hold:∀ b,b<c.w.heap.size->w'.heap[b]? =c.w.heap[b]? :=fun b hb=>by rw[hh,Array.getElem?_push,if_neg (by omega)]
 have hnew:w'.heap[c.w.heap.size]? =some o:=by rw[hh];simp
 have hne:∀ i,c.Pr i->i≠nb:=fun i hi e=>hnb (e ▸ hi)
 have hown:∀ i,c.Pr i->(YG A i↔YG c.A i):=fun i hi=>by unfold YG;rw[hA i hi]
 have hbs:∀ b,b<c.w.heap.size->Yz w' b=Yz c.w b:=fun b hb=>by unfold Yz;rw[hold b hb]
 have fr:Fr c c':=
  {I := fun _ h => h
   im:=fun b hb=>hold b (h.lt b hb)
   pr:=fun _ h=>.inl h
   ver:=fun i v hv=>⟨v,hver i v hv,Nat.le_refl _,fun hp _=>by
    obtain⟨bk,he,_⟩:=C1 hv
    exact⟨if_neg (hne i hp),hbs _ (h.lt_of hp he)⟩⟩
   os:=h1,tape:=h2,output:=h3
   size:=by show c.w.heap.size<=w'.heap.size;rw[hh];simp
   keep:=fun b hb _=>hold b hb
   old:=fun i hp ho hl=>by
    rcases hp with hp | hp
    ·exact⟨hp,(hown i hp).1 ho,if_neg (hne i hp)⟩
    ·simp[c',hp] at hl
   imm:=fun _ h=>.inl h }
 refine⟨fr,?_,?_,fun b hb=>Nat.lt_of_lt_of_le (h.lt b hb) fr.size⟩
 ·intro i bk hp he
  rcases hp with hp | hp
  ·have he' : c.A[i]? = some bk := by rw [<- hA i hp]; exact he
   obtain⟨o',g1,g2,g3⟩:=h.blk i bk hp he'
   have hr:c'.ρ i=c.ρ i:=if_neg (hne i hp)
   refine⟨o',?_,g2.mono fr.toExt,?_⟩
   ·show w'.heap[c'.ρ i]? = _
    rw[hr,hold _ (h.lt_of hp he')];exact g1
   ·show (bk.ro = true -> c.I (c'.ρ i)) /\ (bk.ro = false -> ¬ c.I (c'.ρ i))
    rw[hr]
    exact g3
  ·subst hp
   have he':A[i]? =some bk:=he
   rw[hb] at he'
   simp at he'
   subst he'
   have hr':c'.ρ i=c.w.heap.size:=if_pos rfl
   refine⟨o,?_,hv.mono fr.toExt,by simp[hr],fun _ hI=> ?_⟩
   ·show w'.heap[c'.ρ i]? = _
    rw[hr'];exact hnew
   ·have := h.lt _ hI
    simp at this
 ·intro i j hi hj oi oj hij
  rcases hi with hi | hi<;>rcases hj with hj | hj
  ·have e1 : c'.ρ i = c.ρ i := if_neg (hne i hi)
   have e2:c'.ρ j=c.ρ j:=if_neg (hne j hj)
   exact h.inj i j hi hj ((hown i hi).1 oi) ((hown j hj).1 oj) (by rw[<-e1,<-e2];exact hij)
  ·have e1 : c'.ρ i = c.ρ i := if_neg (hne i hi)
   have e2:c'.ρ j=c.w.heap.size:=if_pos hj
   have:=h.rho_lt hi ((hown i hi).1 oi)
   have e3:c'.ρ i=c'.ρ j:=hij
   omega
  ·have e1 : c'.ρ j = c.ρ j := if_neg (hne j hj)
   have e2:c'.ρ i=c.w.heap.size:=if_pos hi
   have:=h.rho_lt hj ((hown j hj).1 oj)
   have e3:c'.ρ i=c'.ρ j:=hij
   omega
  ·omega
theorem Rel.turn {c:Cx}(h:Rel c){i:Nat}{b b':Blk}{o':Obj}{w':World}{r:Nat}{v v':Nat}(hp:c.Pr i)(hb:c.A[i]? =some b)(hr:b.ro=false)(hr':b'.ro=false)(hv:b.ver=some v)(hv':b'.ver=some v')
  (hvv:v<=v') (hsame:v'=v->r=c.ρ i/\Yz w' (c.ρ i)=Yz c.w (c.ρ i)) (hplace:r=c.ρ i∨c.w.heap.size<=r) (hnew:w'.heap[r]? =some o')
  (hrel:∀ c',Ext c c'->Aq c' b' o')
  (hold:∀ k,k<c.w.heap.size->k≠c.ρ i->w'.heap[k]? =c.w.heap[k]?) (hsz:c.w.heap.size<=w'.heap.size) (h1:w'.os=c.w.os) (h2:w'.tape=c.w.tape) (h3:w'.output=c.w.output):
  Fr c ⟨c.I,fun j=>if j=i then r else c.ρ j,w',c.A.set i b',c.Pr⟩/\Rel ⟨c.I,fun j=>if j=i then r else c.ρ j,w',c.A.set i b',c.Pr⟩:=by
 let c':Cx:=⟨c.I,fun j=>if j=i then r else c.ρ j,w',c.A.set i b',c.Pr⟩
 have hlen:i<c.A.length:=by
  rcases Nat.lt_or_ge i c.A.length with h' | h'
  ·exact h'
  ·simp[List.getElem?_eq_none h'] at hb
 have hset:∀ j,(c.A.set i b')[j]? =if j=i then some b' else c.A[j]? :=fun j=>by
  rw[List.getElem?_set]
  by_cases hj:i=j
  ·subst hj;simp[hlen]
  ·rw[if_neg hj,if_neg (by omega)]
 have oi:YG c.A i:=⟨b,hb,hr⟩
 have nI:¬c.I (c.ρ i):=by
  obtain⟨_,_,_,_,g⟩:=h.blk i b hp hb
  exact g hr
 have hlt:=h.lt_of hp hb
 have hown:∀ j,YG (c.A.set i b') j↔YG c.A j:=fun j=>by
  unfold YG
  rw[hset j]
  by_cases hj:j=i
  ·subst hj;simp[hb,hr,hr']
  ·simp[hj]
 have fr:Fr c c':=
  {I := fun _ h => h
   im:=fun k hk=>hold k (h.lt k hk) (fun e=>nI (e ▸ hk))
   pr:=fun _ h=>h
   ver:=fun j u hu=>by
    obtain⟨bk,he,hbv⟩:=C1 hu
    by_cases hj:j=i
    ·subst hj
     rw[hb] at he
     simp at he
     subst he
     rw[hv] at hbv
     simp at hbv
     subst hbv
     refine⟨v',by simp[c',Zk,hset,hv'],hvv,fun _ he=> ?_⟩
     obtain⟨e1,e2⟩:=hsame he
     exact⟨by simp[c',e1],e2⟩
    ·refine ⟨u, by simp [c', Zk, hset, hj, he, hbv], Nat.le_refl _, fun hpj _ => ⟨by simp [c', hj], ?_⟩⟩
     show Yz w' (c.ρ j)=Yz c.w (c.ρ j)
     unfold Yz
     rw[hold _ (h.lt_of hpj he) (fun e=> ?_)]
     obtain⟨_,_,_,g1,g2⟩:=h.blk j bk hpj he
     cases hro:bk.ro with
     | true=>exact nI (e ▸ g1 hro)
     | false=>exact hj (h.inj j i hpj hp ⟨bk,he,hro⟩ oi e)
   os:=h1,tape:=h2,output:=h3,size:=hsz
   keep:=fun k hk hn=>hold k hk (fun e=>hn i hp oi e.symm)
   old:=fun j hpj ho hl=>by
    have ho':=(hown j).1 ho
    by_cases hj:j=i
    ·subst hj
     refine⟨hp,ho',?_⟩
     rcases hplace with e | e
     ·simp[c',e]
     ·simp[c'] at hl;omega
    ·exact⟨hpj,ho',by simp[c',hj]⟩
   imm:=fun _ h=>.inl h }
 refine⟨fr,?_,?_,fun k hk=>Nat.lt_of_lt_of_le (h.lt k hk) hsz⟩
 ·intro j bk hpj he
  have he':(c.A.set i b')[j]? =some bk:=he
  rw[hset] at he'
  by_cases hj:j=i
  ·subst hj
   simp at he'
   subst he'
   refine⟨o',by simpa using hnew,hrel _ fr.toExt,by simp[hr'],fun _ hI=> ?_⟩
   simp at hI
   rcases hplace with e | e
   ·exact nI (e ▸ hI)
   ·have:=h.lt _ hI;omega
  ·rw [if_neg hj] at he'
   obtain⟨o2,g1,g2,g3,g4⟩:=h.blk j bk hpj he'
   refine⟨o2,?_,g2.mono fr.toExt,?_⟩
   ·show w'.heap[if j = i then r else c.ρ j]? = _
    rw[if_neg hj,hold _ (h.lt_of hpj he') (fun e=> ?_)]
    ·exact g1
    ·cases hro : bk.ro with
     | true=>exact nI (e ▸ g3 hro)
     | false=>exact hj (h.inj j i hpj hp ⟨bk,he',hro⟩ oi e)
   ·show (bk.ro = true -> c.I (c'.ρ j)) /\ (bk.ro = false -> ¬ c.I (c'.ρ j))
    rw[show c'.ρ j=c.ρ j from if_neg hj]
    exact⟨g3,g4⟩
 ·intro j k hj hk oj ok hjk
  have hjk':(if j=i then r else c.ρ j)=(if k=i then r else c.ρ k):=hjk
  have oj':=(hown j).1 oj
  have ok':=(hown k).1 ok
  by_cases ej:j=i<;>by_cases ek:k=i
  ·omega
  ·rw [if_pos ej, if_neg ek] at hjk'
   have:=h.rho_lt hk ok'
   rcases hplace with e | e
   ·exact ej.trans (h.inj i k hp hk oi ok' (by omega))
   ·omega
  ·rw [if_neg ej, if_pos ek] at hjk'
   have:=h.rho_lt hj oj'
   rcases hplace with e | e
   ·exact(h.inj j i hj hp oj' oi (by omega)).trans ek.symm
   ·omega
  ·rw [if_neg ej, if_neg ek] at hjk'
   exact h.inj j k hj hk oj' ok' hjk'
def CQ (w:World)(b o:Nat)(Xs:List Value):Prop:=∀ j v,Xs[j]? =some v->w.cell? ⟨b,o+j,none⟩=some v
theorem CQ.drop {w:World}{b o:Nat}{Xs:List Value}(h:CQ w b o Xs)(n:Nat):CQ w b (o+n) (Xs.drop n):=by
 intro j v hj
 rw[List.getElem?_drop] at hj
 have:=h _ _ hj
 rwa [<-Nat.add_assoc] at this
theorem CQ.take {w:World}{b o:Nat}{Xs:List Value}(h:CQ w b o Xs)(n:Nat):CQ w b o (Xs.take n):=by
 intro j v hj
 rw[List.getElem?_take] at hj
 split at hj
 ·exact h _ _ hj
 ·simp at hj
theorem DRm.mem {I:Nat->Prop}{w:World}:∀ {cs:List DV} {b o:Nat},DRm I w cs b o->∃ Xs,DRs I w cs Xs/\CQ w b o Xs
 | _,_,_,.nil=>⟨[],.nil,fun j v h=>by simp at h⟩
 | _,b,o,.cons hc h hs=>by
  obtain⟨Xs,h1,h2⟩:=DRm.mem hs
  refine⟨_::Xs,.cons h h1,fun j v hj=> ?_⟩
  cases j with
  | zero=>simp at hj;subst hj;exact hc
  | succ j=>
   simp at hj
   have:=h2 j v hj
   rwa [show o+1+j=o+(j+1) by omega] at this
theorem Pq {P:Program}{w:World}{b o:Nat}{Xs:List Value}(h:CQ w b o Xs):(loadCells ⟨b,o,none⟩ Xs.length).run P w=.ok Xs.toArray w:=
 run_loadCells_list w ⟨b,o,none⟩ Xs fun j v hj=>by rw[Addr.add_mk];exact h j v hj
theorem T7 {P:Program}{t:TypeId}{ag:Bool}{n:Nat}{w:World}{b o:Nat}{Xs:List Value}{X:Value}(ha:Aj P t=some ag)(hs:Q0 P t=some n)(h:CQ w b o Xs)
  (h1:ag=true->n<=Xs.length/\X=.agg (Xs.take n).toArray) (h2:ag=false->Xs[0]? =some X):(Instr.loadAt t (.pointer (some ⟨b,o,none⟩))).run P w=.ok X w:=by
 cases ag with
 | true=>
  obtain⟨hn,rfl⟩:=h1 rfl
  have:=Pq (P:=P) (h.take n)
  rw[List.length_take,Nat.min_eq_left hn] at this
  simp[Instr.loadAt,Instr.sureAddr,loadVar,N1 ha,E3 hs,this]
 | false=>
  have:=h 0 X (h2 rfl)
  rw[Nat.add_zero] at this
  simp[Instr.loadAt,Instr.sureAddr,loadVar,N1 ha,this]
theorem Rel.mem {c:Cx}(h:Rel c){i:Nat}{cs:List AV}{v:Nat}{ro:Bool}(hp:c.Pr i)(hb:c.A[i]? =some (.cells cs v ro)):
  ∃(C:Array Value) (e:TypeId),c.w.heap[c.ρ i]? =some (.cells C e (0,0))/\C.size=Yz c.w (c.ρ i)/\cs.length<=C.size/\VRs c cs (C.toList.take cs.length)/\CQ c.w (c.ρ i) 0 C.toList:=by
 obtain⟨o,h1,⟨C,e,rfl,h3,h4,_⟩,_⟩:=h.blk i _ hp hb
 refine⟨C,e,h1,by simp[Yz,h1],h3,h4,fun j x hj=> ?_⟩
 simp only[World.cell?,h1]
 simpa using hj
theorem Rel.mem_okT {c:Cx}(h:Rel c){i:Nat}{cs:List AV}{v:Nat}{ro:Bool}(hp:c.Pr i)(hb:c.A[i]? =some (.cells cs v ro)){C:Array Value}{e:TypeId}(hh:c.w.heap[c.ρ i]? =some (.cells C e (0,0))):DD e=true:=by
 obtain⟨o,h1,⟨C',e',rfl,_,_,h5⟩,_⟩:=h.blk i _ hp hb
 rw[hh] at h1
 cases h1
 exact h5
theorem Rw {A:List Blk}{i ver off:Nat}{cs:List AV}(h:cellsAt A i ver off=some cs):∃ all ro,A[i]? =some (.cells all ver ro)/\cs=all.drop off:=by
 unfold cellsAt at h
 split at h
 ·split at h
  ·rename_i e;subst e;simp at h;exact⟨_,_,by assumption,h.symm⟩
  ·simp at h
 ·simp at h
theorem VR.ref_inv {c:Cx}{i ver off:Nat}{X:Value}(h:VR c (.ref i ver off) X)(hv:∀ v,Zk c.A i=some v->v=ver):X=.pointer (some ⟨c.ρ i,off,none⟩)/\c.Pr i:=by
 cases h with
 | ref hp _=>exact⟨rfl,hp⟩
 | refS h1 h2=>have:=hv _ h1;omega
theorem VR.sref_inv {c:Cx}{i ver off len sz:Nat}{k:Option Nat}{X:Value}(h:VR c (.sref i ver off len sz k) X)(hv:∀ v,Zk c.A i=some v->v=ver):
  ∃ cap,X=.slice (some ⟨c.ρ i,off,none⟩) len cap/\c.Pr i/\len<=cap/\(∀ n,k=some n->cap=n)/\off+cap*sz<=Yz c.w (c.ρ i)/\(k=none->off+cap*sz=Yz c.w (c.ρ i)):=by
 cases h with
 | sref hp _ hl hk hs hn=>exact⟨_,rfl,hp,hl,hk,hs,hn⟩
 | srefS h1 h2=>have:=hv _ h1;omega
theorem KS {A:List Blk}{i ver:Nat}(h:Zk A i=some ver):∀ v,Zk A i=some v->v=ver:=fun v hv=>by rw[h] at hv;simpa using hv.symm
theorem Rel.cellsAt {c:Cx}(h:Rel c){A:List Blk}{i ver off:Nat}{cs:List AV}(hp:c.Pr i)(hA:∀ b,A[i]? =some b->c.A[i]? =some b)(hc:Aug.cellsAt A i ver off=some cs):
  Zk c.A i=some ver/\∃ Xs,VRs c cs Xs/\CQ c.w (c.ρ i) off Xs/\(cs≠[]->off+cs.length<=Yz c.w (c.ρ i)):=by
 obtain⟨all,ro,h1,rfl⟩:=Rw hc
 replace h1:=hA _ h1
 obtain⟨C,e,_,g1,g2,g3,g4⟩:=h.mem hp h1
 refine⟨Fv h1,(C.toList.take all.length).drop off,g3.drop off,?_,fun hne=> ?_⟩
 ·have := (g4.take all.length).drop off
  rwa [Nat.zero_add] at this
 ·have:off<=all.length:=by
   rcases Nat.lt_or_ge all.length off with h' | h'
   ·exact absurd (List.drop_of_length_le (by omega)) hne
   ·exact h'
  simp
  omega
theorem Rz {A:List Blk}{i ver off:Nat}{cs:List AV}(h:Aug.cellsAt A i ver off=some cs):Zk A i=some ver:=by
 obtain⟨all,ro,h1,_⟩:=Rw h
 exact Fv h1
theorem HE {A B:List Blk}{i:Nat}(h:A[i]? =B[i]?):Zk A i=Zk B i:=by unfold Zk;rw[h]
theorem Z5h {P:Program}{c:Cx}(hr:Rel c){A:List Blk}{x y:AV}{X:Value}{t:TypeId}{ag:Bool}{n:Nat}(ha:Aj P t=some ag)(hs:Q0 P t=some n)(hx:VR c x X)
  (hA:∀ i ver off b,x=.ref i ver off->A[i]? =some b->c.A[i]? =some b) (h:DQ A x ag n=some y):∃ Y,(Instr.loadAt t X).run P c.w=.ok Y c.w/\VR c y Y:=by
 unfold DQ at h
 split at h
 ·rename_i cs
  obtain⟨b,o,rfl,hI,hm⟩:=hx.vptr_inv
  obtain⟨Xs,hd,hM⟩:=hm.mem
  cases he:BQ ag n cs with
  | none=>simp[he] at h
  | some z=>
   simp[he] at h;subst h
   obtain⟨h1,h2⟩:=Z04 hd he
   cases ag with
   | true=>
    obtain⟨hn,hv⟩:=h1 rfl
    exact⟨_,T7 ha hs hM (fun _=>⟨by rw[<-hd.length];exact hn,rfl⟩) (by simp),.d hv⟩
   | false=>
    obtain⟨Z,hz,hv⟩:=h2 rfl
    exact⟨Z,T7 ha hs hM (by simp) (fun _=>hz),.d hv⟩
 ·rename_i i ver off
  split at h
  ·rename_i cs hc
   have hAi:=fun b=>hA i ver off b rfl
   obtain⟨rfl,hp⟩:=hx.ref_inv (by
    obtain⟨all,ro,h1,_⟩:=Rw hc
    exact KS (Fv (hAi _ h1)))
   obtain⟨_,Xs,hv,hM,_⟩:=hr.cellsAt hp hAi hc
   obtain⟨h1,h2⟩:=Z02 hv h
   cases ag with
   | true=>
    obtain⟨hn,hv'⟩:=h1 rfl
    exact⟨_,T7 ha hs hM (fun _=>⟨by rw[<-hv.length];exact hn,rfl⟩) (by simp),hv'⟩
   | false=>
    obtain⟨Z,hz,hv'⟩:=h2 rfl
    exact⟨Z,T7 ha hs hM (by simp) (fun _=>hz),hv'⟩
  ·simp at h
 ·simp at h
theorem TV {P:Program}{t:TypeId}{y:Operand}{f:Zw}(h:ZN P (.load t y)=some f):∃ x ag n,Zx y=some x/\Aj P t=some ag/\Q0 P t=some n/\f=oL x ag n:=by
 simp only[ZN] at h
 split at h
 ·rename_i x ag s h1 h2 h3
  simp at h
  exact⟨x,ag,s,h1,h2,h3,h.symm⟩
 ·simp at h
theorem VJ {P:Program}{c:Cx}(hr:Rel c){tm:List AV}{a:Act}(ht:TR c tm a){A:List Blk}{o:Oper}{t:TypeId}{y:Operand}{x:Opd}{ag:Bool}{n:Nat}{z:AV}(ho:o.op=.load t y)
  (hx:Zx y=some x) (ha:Aj P t=some ag) (hs:Q0 P t=some n) (hA:∀ i ver off b,look tm x=.ref i ver off->A[i]? =some b->c.A[i]? =some b) (h:DQ A (look tm x) ag n=some z):
  ∃ X,(execOp a.eval o).run P c.w=.ok (.value X) c.w/\VR c z X:=by
 obtain⟨Y,h1,h2⟩:=Z5h (P:=P) hr ha hs (VR.look ht hx) hA h
 refine⟨Y,?_,h2⟩
 simp only[execOp,ho]
 exact QD h1
theorem Sq {P:Program}{w w':World}{s:Sem Value}{X:Value}(h:s.run P w=.ok X w'):(do pure (Next.value (<-s)):Sem Next).run P w=.ok (.value X) w':=by
 simp[h]
theorem S7 {α:Type}(Z:List α)(k:Nat)(l:List α)(h:k+l.length<=Z.length):(splice Z k l).length=Z.length:=by
 unfold splice;simp;omega
theorem Z41 {tm:List AV}:∀(ps:List (Nat×Nat×Opd)) (zs cs:List AV),JJ tm zs ps=some cs->cs.length=zs.length
 | [],zs,cs,h=>by simp[JJ] at h;rw[h]
 | (off,size,x)::ps,zs,cs,h=>by
  simp only[JJ] at h
  split at h
  ·rename_i hc
   rw[Z41 ps _ cs h,S7 _ _ _ (by omega)]
  ·simp at h
def Z7m (nb sz:Nat)(o:Obj)(x:AV)(X:Value):Prop:=
 (x = .ref nb 0 0 /\ X = .pointer (some ⟨sz, 0, none⟩)) ∨
  ∃ len s k cap,x=.sref nb 0 0 len s k/\X=.slice (some ⟨sz,0,none⟩) len cap/\len<=cap/\(∀ n,k=some n->cap=n)/\∃ C e fr,o=.cells C e fr/\cap*s=C.size
def BJ (P:Program)(c:Cx)(a:Act)(o:Oper)(nb:Nat)(x:AV)(b:Blk):Prop:=
 ∃ X ob w',(execOp a.eval o).run P c.w=.ok (.value X) w'/\w'.heap=c.w.heap.push ob/\w'.os=c.w.os/\w'.tape=c.w.tape/\w'.output=c.w.output/\b.ver=some 0/\b.ro=false/\Aq c b ob/\Z7m nb c.w.heap.size ob x X
theorem BJ.done {P:Program}{c:Cx}{a:Act}{o:Oper}{nb:Nat}{x:AV}{b:Blk}(h:BJ P c a o nb x b)(hr:Rel c){A:List Blk}(hnb:¬c.Pr nb)
  (hA:∀ i,c.Pr i->A[i]? =c.A[i]?) (hver:∀ i v,Zk c.A i=some v->Zk A i=some v) (hb:A[nb]? =some b):
  ∃ X c',(execOp a.eval o).run P c.w=.ok (.value X) c'.w/\Fr c c'/\Rel c'/\VR c' x X/\c'.A=A/\c'.Pr=(fun i=>c.Pr i∨i=nb)/\c'.I=c.I:=by
 obtain⟨X,ob,w',hrun,hh,h1,h2,h3,hv0,hro,hrel,hnew⟩:=h
 obtain⟨fr,rel⟩:=hr.alloc hnb hA hver hb hro hrel hh h1 h2 h3
 refine⟨X,_,hrun,fr,rel,?_,rfl,rfl,rfl⟩
 have hver':Zk A nb=some 0:=by simp[Zk,hb,hv0]
 have hrho:(if nb=nb then c.w.heap.size else c.ρ nb)=c.w.heap.size:=if_pos rfl
 rcases hnew with⟨rfl,rfl⟩ | ⟨len,s,k,cap,rfl,rfl,hl,hk,C,e,frz,rfl,hC⟩
 ·have := VR.ref (c := ⟨c.I, fun i => if i = nb then c.w.heap.size else c.ρ i, w', A, fun i => c.Pr i ∨ i = nb⟩) (off := 0) (.inr rfl) hver'
  simpa using this
 ·have hbs : Yz w' c.w.heap.size = C.size := by unfold Yz; rw [hh]; simp
  have:=VR.sref (c:=⟨c.I,fun i=>if i=nb then c.w.heap.size else c.ρ i,w',A,fun i=>c.Pr i∨i=nb⟩) (i:=nb) (ver:=0) (off:=0) (sz:=s) (k:=k) (.inr rfl) hver' hl hk (by simp[hbs,hC]) (fun _=>by simp[hbs,hC])
  simpa using this
theorem Z2w {P:Program}{c:Cx}{a:Act}{o:Oper}{t:TypeId}{f:Zw}{tm:List AV}{E:Env}{call:cT}{A:List Blk}{nb:Nat}{d:Done}(ho:o.op=.alloc t)(h:ZN P (.alloc t)=some f)
  (hd:f E call tm A nb=some d):∃ x b,d=.made x [b]/\BJ P c a o nb x b:=by
 simp only[ZN] at h
 have hok:DD t=true:=by
  cases hk:DD t with
  | true=>rfl
  | false=>simp[hk] at h
 rw[if_pos hok] at h
 cases hz:Gv P t with
 | none=>simp[hz] at h
 | some zs=>
  simp[hz] at h;subst h
  simp only[YC,Option.some.injEq] at hd
  refine⟨_,_,hd.symm,?_⟩
  unfold Gv at hz
  split at hz
  ·rename_i i hi
   split at hz
   ·rename_i z hzz
    have hv:=RA (c:=c) hz
    refine⟨.pointer (some ⟨c.w.heap.size,0,none⟩),.cells z.cells t,c.w.alloc (.cells z.cells t),?_,rfl,rfl,rfl,rfl,rfl,rfl,⟨z.cells,t,rfl,?_,?_⟩,.inl ⟨rfl,rfl⟩⟩
    ·simp only [execOp, ho]
     simp[Instr.alloc,zeroValue,typeInfo,hi,hzz,newVar,newRow]
    ·have:=hv.length;simp at this;omega
    ·have := hv.length
     rw[List.take_of_length_le (by omega)]
     exact⟨hv,hok⟩
   ·simp at hz
  ·simp at hz
theorem Z2v {P:Program}{c:Cx}{a:Act}{o:Oper}{t:TypeId}{y:Operand}{f:Zw}{tm:List AV}{E:Env}{call:cT}{A:List Blk}{nb:Nat}{d:Done}(ho:o.op=.box t y)(h:ZN P (.box t y)=some f)(ht:TR c tm a)
  (hd:f E call tm A nb=some d):∃ x b,d=.made x [b]/\BJ P c a o nb x b:=by
 simp only[ZN] at h
 have hok:DD t=true:=by
  cases hk:DD t with
  | true=>rfl
  | false=>simp[hk] at h
 rw[if_pos hok] at h
 cases hz:Zx y with
 | none=>simp[hz] at h
 | some x=>
  simp[hz] at h;subst h
  simp only[Y0,RG] at hd
  cases hb:(look tm x).isBot with
  | true=>simp[hb] at hd
  | false=>
  simp[hb] at hd
  refine⟨_,_,hd.symm,?_⟩
  have hv:=(VR.look ht hz).cells hb
  have hl:=hv.length
  refine⟨.pointer (some ⟨c.w.heap.size,0,none⟩),.cells (a.eval y).cells t,c.w.alloc (.cells (a.eval y).cells t),?_,rfl,rfl,rfl,rfl,rfl,rfl,⟨(a.eval y).cells,t,rfl,?_,?_⟩,.inl ⟨rfl,rfl⟩⟩
  ·simp only [execOp, ho]
   simp[Instr.box,newVar,newRow]
  ·simp at hl;omega
  ·rw [List.take_of_length_le (by omega)]
   exact⟨hv,hok⟩
theorem VRs.rep {c:Cx}{z:List AV}{Z:List Value}(h:VRs c z Z):∀ n,VRs c (Aug.rep z n) (Aug.rep Z n)
 | 0=>.nil
 | n+1=>h.append (VRs.rep h n)
theorem Z0z {α:Type}(l:List α):∀ n,(rep l n).length=n*l.length
 | 0=>by simp[rep]
 | n+1=>by simp[rep,Z0z l n,Nat.succ_mul];omega
theorem Z0y (Z:Array Value)(hZ:Z.size≠0):∀ n,(List.range (n*Z.size)).map (fun i=>Z[i%Z.size]!)=rep Z.toList n
 | 0=>by simp[rep]
 | n+1=>by
  rw[show(n+1)*Z.size=Z.size+n*Z.size by rw[Nat.succ_mul];omega,List.range_add,List.map_append,List.map_map]
  simp only[rep]
  congr 1
  ·apply List.ext_getElem
   ·simp
   ·intro i h1 h2
    simp at h1
    simp[Nat.mod_eq_of_lt h1,h1]
  ·rw [<- Z0y Z hZ n]
   apply List.map_congr_left
   intro i _
   simp[Nat.add_mod_left]
theorem Sz (Z:Array Value)(hZ:Z.size≠0)(n:Nat):((Array.range (n*Z.size)).map (fun i=>Z[i%Z.size]!)).toList=rep Z.toList n:=by
 rw[<-Z0y Z hZ n];simp
theorem TU {P:Program}{t:TypeId}{zs:List AV}(h:Gv P t=some zs):∃ i z,P.info? t=some i/\i.zero=some z/\KC z=some zs/\z.cells.size=zs.length:=by
 unfold Gv at h
 split at h
 ·rename_i i hi
  split at h
  ·rename_i z hz
   refine⟨i,z,hi,hz,h,?_⟩
   unfold KC at h
   split at h
   ·simp at h;subst h;simp
   ·simp at h
  ·simp at h
 ·simp at h
theorem DRm.ofAt {I:Nat->Prop}{w:World}{b:Nat}:∀ {xs:List DV} {Xs:List Value} {o:Nat},DRs I w xs Xs->(∀ i,i<Xs.length->w.cell? ⟨b,o+i,none⟩=Xs[i]?)->DRm I w xs b o
 | [],[],_,_,_=>.nil
 | _::_,X::Xs,o,.cons h hs,hc=>by
  refine .cons (X:=X) ?_ h (DRm.ofAt hs fun i hi=> ?_)
  ·simpa using hc 0 (by simp)
  ·have := hc (i + 1) (by simp; omega)
   simpa [Nat.add_assoc,Nat.add_comm 1 i] using this
theorem Z63:∀ {cs:List AV} {ds:List DV},CM cs=some ds->cs=ds.map .d
 | [],ds,h=>by simp[CM] at h;subst h;rfl
 | .d x::l,ds,h=>by
  simp only[CM,Option.map_eq_some_iff] at h
  obtain⟨r,hr,rfl⟩:=h
  simp[Z63 hr]
 | .agg _::_,_,h | .tup _::_,_,h | .ref .. ::_,_,h | .sref .. ::_,_,h | .fn .. ::_,_,h | .ifc .. ::_,_,h | .bot::_,_,h=>by simp[CM] at h
theorem BJ.imm {P:Program}{c:Cx}{a:Act}{o:Oper}{nb len s:Nat}{ds:List DV}(h:BJ P c a o nb (.sref nb 0 0 len s (some len)) (.cells (ds.map .d) 0 false))(hr:Rel c){A:List Blk}
  (hA:∀ i,c.Pr i->A[i]? =c.A[i]?) (hver:∀ i v,Zk c.A i=some v->Zk A i=some v):
  ∃ X c',(execOp a.eval o).run P c.w=.ok (.value X) c'.w/\Fr c c'/\Rel c'/\VR c' (.d (.lst ds len (some len))) X/\c'.A=A/\c'.Pr=c.Pr:=by
 obtain⟨X,ob,w',hrun,hh,h1,h2,h3,hv0,hro,⟨C,e,rfl,hle,hvs⟩,hnew⟩:=h
 rcases hnew with⟨hx,_⟩ | ⟨len',s',k,cap,hx,rfl,hl,hk,_⟩
 ·simp at hx
 simp only[AV.sref.injEq] at hx
 obtain⟨-,-,-,rfl,rfl,rfl⟩:=hx
 have hold:∀ b,b<c.w.heap.size->w'.heap[b]? =c.w.heap[b]? :=fun b hb=>by rw[hh,Array.getElem?_push,if_neg (by omega)]
 have hnw:w'.heap[c.w.heap.size]? =some (.cells C e (0,0)):=by rw[hh];simp
 have hbs:∀ b,b<c.w.heap.size->Yz w' b=Yz c.w b:=fun b hb=>by unfold Yz;rw[hold b hb]
 have hown:∀ i,c.Pr i->(YG A i↔YG c.A i):=fun i hi=>by unfold YG;rw[hA i hi]
 let c':Cx:=⟨fun b=>c.I b∨b=c.w.heap.size,c.ρ,w',A,c.Pr⟩
 have fr:Fr c c':=
  {I := fun _ h => .inl h
   im:=fun b hb=>hold b (hr.lt b hb)
   pr:=fun _ h=>h
   ver:=fun i v hv=>⟨v,hver i v hv,Nat.le_refl _,fun hp _=>by
    obtain⟨bk,he,_⟩:=C1 hv
    exact⟨rfl,hbs _ (hr.lt_of hp he)⟩⟩
   os:=h1,tape:=h2,output:=h3
   size:=by show c.w.heap.size<=w'.heap.size;rw[hh];simp
   keep:=fun b hb _=>hold b hb
   old:=fun i hp ho _=>⟨hp,(hown i hp).1 ho,rfl⟩
   imm:=fun b h=>by
    rcases h with h | h
    ·exact .inl h
    ·exact .inr (.inl (by omega)) }
 refine⟨_,c',hrun,fr,⟨?_,?_,?_⟩,?_,rfl,rfl⟩
 ·intro i bk hp he
  have he':c.A[i]? =some bk:=by rw[<-hA i hp];exact he
  obtain⟨o',g1,g2,g3,g4⟩:=hr.blk i bk hp he'
  have hlt:=hr.lt_of hp he'
  refine⟨o',?_,g2.mono fr.toExt,fun h=>.inl (g3 h),fun h hI=> ?_⟩
  ·show w'.heap[c.ρ i]? = _
   rw[hold _ hlt];exact g1
  ·rcases hI with hI | hI
   ·exact g4 h hI
   ·have : c.ρ i = c.w.heap.size := hI
    omega
 ·intro i j hi hj oi oj hij
  exact hr.inj i j hi hj ((hown i hi).1 oi) ((hown j hj).1 oj) hij
 ·intro b hb
  show b<w'.heap.size
  rcases hb with hb | hb
  ·have := hr.lt b hb
   rw[hh];simp;omega
  ·rw[hh,hb];simp
 ·have hds : DRs c'.I c'.w ds (C.toList.take (ds.map AV.d).length) := (VRs.toD hvs.1).mono fr.I fr.im
  refine .d (.lst (.inr rfl) hl hk (DRm.ofAt hds fun i hi=> ?_))
  have hn:i<(ds.map AV.d).length:=Nat.lt_of_lt_of_le hi (by rw[List.length_take];exact Nat.min_le_left _ _)
  rw[List.getElem?_take_of_lt hn]
  have hnw':c'.w.heap[c.w.heap.size]? =some (.cells C e (0,0)):=hnw
  simp only[World.cell?,hnw']
  simp
theorem Z2u {P:Program}{c:Cx}{a:Act}{o:Oper}{t:TypeId}{n:Nat}{ps:Array (Nat×Operand)}{f:Zw}{tm:List AV}{E:Env}{call:cT}{A:List Blk}{nb:Nat}{d:Done}(ho:o.op=.buildSlice t n ps)
  (h:ZN P (.buildSlice t n ps)=some f) (ht:TR c tm a) (hd:f E call tm A nb=some d):(∃ x b,d=.made x [b]/\BJ P c a o nb x b)∨∃ ds len s,d=.made (.d (.lst ds len (some len))) []/\BJ P c a o nb (.sref nb 0 0 len s (some len)) (.cells (ds.map .d) 0 false):=by
 simp only[ZN] at h
 split at h
 ·rename_i e hu
  split at h
  ·rename_i s zs hs hz
   split at h
   ·rename_i hc
    obtain⟨hc1,hc2,hc3,hok⟩:=hc
    cases hp:D9 (fun i=>some (i*s,s)) ps.toList with
    | none=>simp[hp] at h
    | some qs=>
     simp[hp] at h;subst h
     simp only[Y2] at hd
     cases hf:JJ tm (rep zs n) qs with
     | none=>cases hw:HG E 1000000<;>simp[hf,GU,M7,hw] at hd
     | some cs=>
      suffices hM:BJ P c a o nb (.sref nb 0 0 n s (some n)) (.cells cs 0 false) by
       cases hw:HG E 1000000 with
       | false=>
        simp[hf,GU,M7,hw] at hd
        exact .inl ⟨_,_,hd.symm,hM⟩
       | true=>
        simp only[hf,GU,hw] at hd
        cases hdl:CM cs with
        | none=>
         simp[hdl,M6,M7] at hd
         exact .inl ⟨_,_,hd.symm,hM⟩
        | some ds=>
         simp[hdl,M6] at hd
         rw[Z63 hdl] at hM
         exact .inr ⟨ds,n,s,hd.symm,hM⟩
      obtain⟨i,z,hi,hzz,hzo,hzs⟩:=TU hz
      have hv:=RA (c:=c) hzo
      have hi':i.size=s:=by unfold Q0 at hs;simp[hi] at hs;exact hs
      have hZ:z.cells.size=s:=by omega
      let Z0:Array Value:=(rep z.cells.toList n).toArray
      obtain⟨C,hC,hvC⟩:=WR ht _ _ _ hp (rep zs n) Z0 cs (by simpa [Z0] using hv.rep n) hf
      have hCl:C.size=n*s:=by
       have h1:=hvC.length
       have h2:cs.length=(rep zs n).length:=Z41 _ _ _ hf
       rw[Z0z,hc2] at h2
       simp at h1
       omega
      refine⟨.slice (some ⟨c.w.heap.size,0,none⟩) n n,.cells C e,c.w.alloc (.cells C e),?_,rfl,rfl,rfl,rfl,rfl,rfl,⟨C,e,rfl,?_,?_⟩,
       .inr ⟨n,s,some n,n,rfl,rfl,Nat.le_refl _,fun m hm=>by simpa using hm,C,e,(0,0),rfl,hCl.symm⟩⟩
      ·simp only [execOp, ho]
       apply Sq
       have hle:¬(n*s>2^24):=by omega
       have harr:(Array.range (n*s)).map (fun i=>z.cells[i%z.cells.size]!)=Z0:=by
        apply Array.ext'
        have:=Sz z.cells (by omega) n
        rw[hZ] at this
        simpa [Z0,hZ] using this
       have hmap:(ps.map fun(x:Nat×Operand)=>(x.1,a.eval x.2)).toList=ps.toList.map fun p=>(p.1,a.eval p.2):=by simp
       simp only[Instr.buildSlice,Sem.run_bind,run_underlying hu,Result.andThen_ok,E3 hs,Sem.run_ite,if_neg hle]
       by_cases h0:n*s=0
       ·have hn:n=0:=by
         rcases Nat.mul_eq_zero.1 h0 with h0 | h0
         ·exact h0
         ·omega
        subst hn
        have hZ0:Z0= #[]:=by simp[Z0,rep]
        rw[hZ0] at hC
        simp only[Nat.zero_mul,if_true,Sem.run_pure,Result.andThen_ok]
        rw[hmap]
        have h00:(Array.range 0).map (fun i=>(#[]:Array Value)[i%(#[]:Array Value).size]!)= #[]:=by simp
        rw[h00,hC]
        simp[newRow]
       ·have hzr : (zeroValue e).run P c.w = .ok z c.w := by simp [zeroValue, typeInfo, hi, hzz]
        simp only[Sem.run_pure,Result.andThen_ok,if_neg h0,hzr]
        rw[harr,hmap,hC]
        simp[newRow]
      ·have:=hvC.length;simp at this;omega
      ·have := hvC.length
       rw[List.take_of_length_le (by simp at this;simp;omega)]
       exact⟨hvC,hok⟩
   ·simp at h
  ·simp at h
 ·simp at h
end Go.Aug
