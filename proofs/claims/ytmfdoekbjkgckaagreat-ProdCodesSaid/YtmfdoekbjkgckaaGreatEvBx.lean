import Derived.Test.YtmfdoekbjkgckaaGreatEvD
namespace Go.Aug
open Go
section
variable {c:Cx} {ids:List Nat} {nb:Nat}
def J9 (c:Cx)(ids:List Nat)(nb:Nat)(c2:Cx)(A3:List Blk):Cx:=
 ⟨c2.I, fun j => match Q8 ids j with
  | some m=>c2.ρ m
  | none=>if nb<=j/\j<nb+(c2.A.length-ids.length) then c2.ρ (ids.length+(j-nb)) else c.ρ j,c2.w,A3,fun j=>c.Pr j∨(nb<=j/\j<nb+(c2.A.length-ids.length))⟩
structure PutQ (c:Cx) (ids:List Nat) (nb:Nat) (c2:Cx) (A3:List Blk):Prop where
 le:ids.length<=c2.A.length
 loc:∀(m i:Nat),ids[m]? =some i->∃(b:Blk) (dv:Nat),c2.A[m]? =some b/\A3[i]? =some (Jk ids (Y4 c.A ids) nb dv b)/\dv=(Q4 c.A i).getD 0/\((∃ cs v ro,b=.cells cs v ro)∨dv=0)
 old:∀ j,c.Pr j->j ∉ ids->A3[j]? =c.A[j]?
 new:∀ m:Nat,ids.length<=m->m<c2.A.length->A3[nb+(m-ids.length)]? =(c2.A[m]?).map (Jk ids (Y4 c.A ids) nb 0)
 fresh:∀ j,nb<=j->j<nb+(c2.A.length-ids.length)->¬c.Pr j
 hn:ids.Nodup
 hip:∀ i ∈ ids,c.Pr i
 has:∀ i,c.Pr i->i<c.A.length
 abs:∀ i,¬c.Pr i->Zk c.A i=none
 hpr:∀ i,c2.Pr i↔i<c2.A.length
section
variable {c2:Cx} {A3:List Blk}
theorem Z3s {A:List Blk}{m v:Nat}(h:Zk A m=some v):m<A.length:=GV h
theorem Zcr (H:PutQ c ids nb c2 A3){i v:Nat}(h:Zk c.A i=some v):c.Pr i:=Classical.byContradiction fun hp=>by rw[H.abs i hp] at h;cases h
theorem F6 (H:PutQ c ids nb c2 A3){m i:Nat}(h:ids[m]? =some i):(J9 c ids nb c2 A3).ρ i=c2.ρ m:=by
 simp only[J9,R1 H.hn h]
theorem H2 (H:PutQ c ids nb c2 A3){j:Nat}(h:c.Pr j)(hni:j ∉ ids):(J9 c ids nb c2 A3).ρ j=c.ρ j:=by
 simp only[J9,Mx hni]
 rw[if_neg (fun q=>H.fresh j q.1 q.2 h)]
theorem Gq (H:PutQ c ids nb c2 A3){m:Nat}(h:ids.length<=m)(hm:m<c2.A.length):(J9 c ids nb c2 A3).ρ (nb+(m-ids.length))=c2.ρ m:=by
 have:nb+(m-ids.length) ∉ ids:=fun hh=>H.fresh _ (by omega) (by omega) (H.hip _ hh)
 simp only[J9,Mx this]
 rw[if_pos ⟨by omega,by omega⟩]
 congr 1;omega
theorem PE (H:PutQ c ids nb c2 A3){m v:Nat}(h:Zk c2.A m=some v):(∀ i,ids[m]? =some i->Zk A3 i=some ((Y4 c.A ids).getD m 0+v)/\(J9 c ids nb c2 A3).Pr i)/\(ids[m]? =none->Zk A3 (nb+(m-ids.length))=some v/\(J9 c ids nb c2 A3).Pr (nb+(m-ids.length))):=by
 obtain⟨b0,hb0,hv0⟩:=C1 h
 have hml:m<c2.A.length:=(List.getElem?_eq_some_iff.1 hb0).1
 constructor
 ·intro i hi
  obtain⟨b,dv,h1,h2,h3,h4⟩:=H.loc m i hi
  rw[hb0] at h1
  simp at h1;subst h1
  refine⟨?_,.inl (H.hip i (List.mem_of_getElem? hi))⟩
  unfold Zk
  rw[h2,P4 hi,<-h3]
  exact S2 h4 hv0
 ·intro hi
  have hm:ids.length<=m:=by simpa using hi
  have:=H.new m hm hml
  rw[hb0] at this
  refine⟨?_,.inr ⟨by omega,by omega⟩⟩
  unfold Zk
  rw[this]
  have:=S2 (ids:=ids) (vs:=Y4 c.A ids) (nb:=nb) (.inr rfl) hv0
  simpa using this
theorem XR (H:PutQ c ids nb c2 A3):∀(n:Nat) {x:AV} {X:Value},VR c2 x X->VR (J9 c ids nb c2 A3) (Qj ids (Y4 c.A ids) nb n x) X:=by
 intro n
 induction n with
 | zero=>intro x X _;exact .bot
 | succ n ih=>
  intro x X h
  have all:∀ {cs:List AV} {Xs:List Value},VRs c2 cs Xs->VRs (J9 c ids nb c2 A3) (cs.map (Qj ids (Y4 c.A ids) nb n)) Xs:=by
   intro cs
   induction cs with
   | nil=>intro Xs h;cases h;exact .nil
   | cons x cs ihc=>intro Xs h;cases h with | cons h hs=>exact .cons (ih h) (ihc hs)
  cases h with
  | bot=>exact .bot
  | d h=>exact .d h
  | agg h=>exact .agg (all h)
  | tup h=>exact .tup (all h)
  | fn h=>exact .fn (all h)
  | ifc h=>exact .ifc (ih h)
  | @ref m ver off hpm hv=>
   obtain⟨g1,g2⟩:=PE H hv
   simp only[Qj]
   cases hi:ids[m]? with
   | some i=>
    obtain⟨q1,q2⟩:=g1 i hi
    have:=VR.ref (c:=J9 c ids nb c2 A3) (i:=i) (off:=off) q2 q1
    rw[F6 H hi] at this
    exact this
   | none=>
    obtain⟨q1,q2⟩:=g2 hi
    have:=VR.ref (c:=J9 c ids nb c2 A3) (off:=off) q2 q1
    rw[Gq H (by simpa using hi) (Z3s hv)] at this
    exact this
  | @refS m ver off v b o hv hlv=>
   obtain⟨g1,g2⟩:=PE H hv
   simp only[Qj]
   cases hi:ids[m]? with
   | some i=>exact .refS (c:=J9 c ids nb c2 A3) (g1 i hi).1 (by omega)
   | none=>exact .refS (c:=J9 c ids nb c2 A3) (g2 hi).1 hlv
  | @sref m ver off len cap sz k hpm hv hl hk hs hbn=>
   obtain⟨g1,g2⟩:=PE H hv
   simp only[Qj]
   cases hi:ids[m]? with
   | some i=>
    obtain⟨q1,q2⟩:=g1 i hi
    have e:=F6 H hi
    have:=VR.sref (c:=J9 c ids nb c2 A3) (i:=i) (off:=off) (sz:=sz) (k:=k) q2 q1 hl hk (by rw[e];exact hs) (by rw[e];exact hbn)
    rw[e] at this
    exact this
   | none=>
    obtain⟨q1,q2⟩:=g2 hi
    have e:=Gq H (show ids.length<=m by simpa using hi) (Z3s hv)
    have:=VR.sref (c:=J9 c ids nb c2 A3) (off:=off) (sz:=sz) (k:=k) q2 q1 hl hk (by rw[e];exact hs) (by rw[e];exact hbn)
    rw[e] at this
    exact this
  | @srefS m ver off len sz v cap b o k hv hlv hc hk=>
   obtain⟨g1,g2⟩:=PE H hv
   simp only[Qj]
   cases hi:ids[m]? with
   | some i=>exact .srefS (c:=J9 c ids nb c2 A3) (g1 i hi).1 (by omega) hc hk
   | none=>exact .srefS (c:=J9 c ids nb c2 A3) (g2 hi).1 hlv hc hk
theorem XP (H:PutQ c ids nb c2 A3)(n:Nat):∀ {cs:List AV} {Xs:List Value},VRs c2 cs Xs->VRs (J9 c ids nb c2 A3) (cs.map (Qj ids (Y4 c.A ids) nb n)) Xs
 | [],_,.nil=>.nil
 | _::_,_,.cons h hs=>.cons (XR H n h) (XP H n hs)
theorem XT (H:PutQ c ids nb c2 A3){dv:Nat}{b:Blk}{o:Obj}(h:Aq c2 b o):Aq (J9 c ids nb c2 A3) (Jk ids (Y4 c.A ids) nb dv b) o:=by
 cases b with
 | cells cs v ro=>
  obtain⟨C,e,h1,h2,h3,h5⟩:=h
  refine⟨C,e,h1,by simpa using h2,?_⟩
  simp only[List.length_map]
  exact⟨XP H 8 h3,h5⟩
 | iter s p=>exact h
 | free=>exact h
theorem SG (H:PutQ c ids nb c2 A3){j:Nat}{b:Blk}(hp:(J9 c ids nb c2 A3).Pr j)(h:A3[j]? =some b):
  (∃ (m : Nat) (b0 : Blk) (dv : Nat), ids[m]? = some j /\ c2.A[m]? = some b0 /\ b = Jk ids (Y4 c.A ids) nb dv b0) ∨ (c.Pr j /\ j ∉ ids /\ c.A[j]? = some b) ∨
   ∃(m:Nat) (b0:Blk),ids.length<=m/\j=nb+(m-ids.length)/\c2.A[m]? =some b0/\b=Jk ids (Y4 c.A ids) nb 0 b0:=by
 by_cases hi:j ∈ ids
 ·obtain ⟨m, hm⟩ := List.getElem?_of_mem hi
  obtain⟨b0,dv,h1,h2,_,_⟩:=H.loc m j hm
  rw[h] at h2
  simp at h2
  exact .inl ⟨m,b0,dv,hm,h1,h2⟩
 ·rcases hp with hp | ⟨h1, h2⟩
  ·exact .inr (.inl ⟨hp,hi,(H.old j hp hi).symm.trans h⟩)
  ·have hl := H.le
   have:=H.new (ids.length+(j-nb)) (by omega) (by omega)
   have e:nb+(ids.length+(j-nb)-ids.length)=j:=by omega
   rw[e,h] at this
   cases hq:c2.A[ids.length+(j-nb)]? with
   | none=>simp[hq] at this
   | some b0=>
    simp[hq] at this
    exact .inr (.inr ⟨_,b0,by omega,e.symm,hq,this⟩)
theorem Zhc (H:PutQ c ids nb c2 A3)(hr:Rel c)(hr2:Rel c2)(hfr:Fr (cxN c 0 ids) c2):Rel (J9 c ids nb c2 A3)/\Fr c (J9 c ids nb c2 A3):=by
 have hgl:∀ i ∈ ids,i<c.A.length:=fun i hi=>H.has i (H.hip i hi)
 have sg:∀ {m i:Nat},ids[m]? =some i->J1 0 ids m=i:=fun {m i} h=>by have:=MY (n0:=0) h;rwa [Nat.zero_add] at this
 have ln:(ZV c.A 0 ids).length=ids.length:=by rw[GK];omega
 have getN:∀ {m i:Nat},ids[m]? =some i->(ZV c.A 0 ids)[m]? =(c.A[i]?).map (AE c.A 0 ids false):=fun {m i} h=>by
  have:=Pw (n0:=0) (Nat.zero_le _) h (hgl i (List.mem_of_getElem? h));rwa [Nat.zero_add] at this
 have ownN:∀ {m i:Nat},ids[m]? =some i->(YG (ZV c.A 0 ids) m↔YG c.A i):=by
  intro m i h
  unfold YG
  rw[getN h]
  cases c.A[i]? with
  | none=>simp
  | some b=>simp[KV]
 have notIn:∀ {j:Nat} {b:Blk},c.Pr j->j ∉ ids->c.A[j]? =some b->b.ro=false->∀ m,(cxN c 0 ids).Pr m->YG (cxN c 0 ids).A m->(cxN c 0 ids).ρ m≠c.ρ j:=by
  intro j b hj hni hb ho m hm om e
  have hml:m<ids.length:=by rw[<-ln];exact hm
  obtain⟨i,hi⟩:∃ i,ids[m]? =some i:=⟨_,List.getElem?_eq_getElem hml⟩
  have e':c.ρ i=c.ρ j:=by rw[<-sg hi];exact e
  have:=hr.inj i j (H.hip i (List.mem_of_getElem? hi)) hj ((ownN hi).1 om) ⟨b,hb,ho⟩ e'
  subst this
  exact hni (List.mem_of_getElem? hi)
 have DM:∀ {j:Nat} {b:Blk},c.Pr j->j ∉ ids->c.A[j]? =some b->c2.w.heap[c.ρ j]? =c.w.heap[c.ρ j]? :=by
  intro j b hj hni hb
  cases ho:b.ro with
  | true=>
   obtain⟨o,h1,_,h3,_⟩:=hr.blk j b hj hb
   exact hfr.im _ (h3 ho)
  | false=>exact hfr.keep _ (hr.lt_of hj hb) (notIn hj hni hb ho)
 have ext:Ext c (J9 c ids nb c2 A3):=by
  refine { I:=hfr.I,im:=hfr.im,pr:=fun i hi=>.inl hi,ver:=fun i v hv=> ?_ }
  obtain⟨b,hb,hbv⟩:=C1 hv
  have hil:i<c.A.length:=(List.getElem?_eq_some_iff.1 hb).1
  by_cases hi:i ∈ ids
  ·obtain ⟨m, hm⟩ := List.getElem?_of_mem hi
   have hbk:Q4 c.A i=some v:=by
    unfold Q4
    rw[hb]
    cases b<;>simp[Blk.ver] at hbv ⊢ <;>exact hbv
   have hvN:Zk (cxN c 0 ids).A m=some 0:=by
    have:=S0 (n0:=0) (Nat.zero_le _) hm hil hbk
    rwa [Nat.zero_add] at this
   obtain⟨v',g1,g2,g3⟩:=hfr.ver m 0 hvN
   have g4:=(PE H g1).1 i hm
   rw[P4 hm,hbk] at g4
   refine⟨v+v',g4.1,by omega,fun hpi e=> ?_⟩
   have:=g3 (by show m<(ZV c.A 0 ids).length;rw[ln];exact(List.getElem?_eq_some_iff.1 hm).1) (by omega)
   have e1:(cxN c 0 ids).ρ m=c.ρ i:=by show c.ρ (J1 0 ids m)=_;rw[sg hm]
   rw[e1] at this
   rw[F6 H hm]
   exact this
  ·have hp := Zcr H hv
   refine⟨v,?_,Nat.le_refl _,fun hpi _=> ?_⟩
   ·show Zk A3 i = _
    unfold Zk
    rw[H.old i hp hi,hb]
    exact hbv
   ·rw [H2 H hp hi]
    refine⟨rfl,?_⟩
    show Yz c2.w _=_
    unfold Yz
    rw[DM hp hi hb]
 have frOld:∀ m,c2.Pr m->YG c2.A m->c2.ρ m<c.w.heap.size->∃ i,ids[m]? =some i/\YG c.A i/\c2.ρ m=c.ρ i:=by
  intro m hm om hlt
  obtain⟨p,o,e⟩:=hfr.old m hm om hlt
  have hml:m<ids.length:=by rw[<-ln];exact p
  obtain⟨i,hi⟩:∃ i,ids[m]? =some i:=⟨_,List.getElem?_eq_getElem hml⟩
  refine⟨i,hi,(ownN hi).1 o,?_⟩
  rw[e]
  show c.ρ (J1 0 ids m)=_
  rw[sg hi]
 have oldNe:∀ {j m:Nat} {b:Blk},c.Pr j->j ∉ ids->c.A[j]? =some b->b.ro=false->c2.Pr m->YG c2.A m->c2.ρ m≠c.ρ j:=by
  intro j m b hj hni hb ho hm om e
  have hlt:=hr.lt_of hj hb
  obtain⟨i,hi,oi,e'⟩:=frOld m hm om (by rw[e];exact hlt)
  have:=hr.inj i j (H.hip i (List.mem_of_getElem? hi)) hj oi ⟨b,hb,ho⟩ (by rw[<-e',e])
  subst this
  exact hni (List.mem_of_getElem? hi)
 have lt2:∀ {m:Nat} {b:Blk},c2.A[m]? =some b->c2.Pr m:=fun {m b} h=>(H.hpr m).2 (List.getElem?_eq_some_iff.1 h).1
 have ltA:∀ {m:Nat} {b:Blk},c2.A[m]? =some b->m<c2.A.length:=fun {m b} h=>(List.getElem?_eq_some_iff.1 h).1
 refine⟨⟨fun j b hj hb=> ?_,fun i j hi hj oi oj e=> ?_,hr2.lt⟩,{ toExt:=ext,os:=hfr.os,tape:=hfr.tape,output:=hfr.output,size:=hfr.size,keep:=fun b hb hne=> ?_,old:=fun j hj oj hlt=> ?_,imm:=fun b hb=> ?_ }⟩
 ·rcases SG H hj (show A3[j]? = some b from hb) with ⟨m, b0, dv, h1, h2, rfl⟩ | ⟨h1, h2, h3⟩ | ⟨m, b0, h1, rfl, h2, rfl⟩
  ·obtain ⟨o, g1, g2, g3, g4⟩ := hr2.blk m b0 (lt2 h2) h2
   rw[F6 H h1]
   exact⟨o,g1,XT H g2,by rw[QQ];exact g3,by rw[QQ];exact g4⟩
  ·obtain ⟨o, g1, g2, g3, g4⟩ := hr.blk j b h1 h3
   rw[H2 H h1 h2]
   refine⟨o,(DM h1 h2 h3).trans g1,g2.mono ext,fun h=>hfr.I _ (g3 h),fun h hI=> ?_⟩
   rcases hfr.imm _ hI with q | q | ⟨m,q1,q2,q3⟩
   ·exact g4 h q
   ·have := hr.lt_of h1 h3
    have:c.w.heap.size<=c.ρ j:=q
    omega
   ·exact notIn h1 h2 h3 h m q1 q2 q3
  ·obtain ⟨o, g1, g2, g3, g4⟩ := hr2.blk m b0 (lt2 h2) h2
   rw[Gq H h1 (ltA h2)]
   exact⟨o,g1,XT H g2,by rw[QQ];exact g3,by rw[QQ];exact g4⟩
 ·obtain ⟨b, hb, ho⟩ := oi
  obtain⟨b',hb',ho'⟩:=oj
  rcases SG H hi (show A3[i]? =some b from hb) with⟨m,b0,dv,h1,h2,rfl⟩ | ⟨h1,h2,h3⟩ | ⟨m,b0,h1,rfl,h2,rfl⟩<;>
   rcases SG H hj (show A3[j]? =some b' from hb') with⟨m',b0',dv',h1',h2',rfl⟩ | ⟨h1',h2',h3'⟩ | ⟨m',b0',h1',rfl,h2',rfl⟩
  ·rw [F6 H h1, F6 H h1'] at e
   rw[QQ] at ho ho'
   have:=hr2.inj m m' (lt2 h2) (lt2 h2') ⟨_,h2,ho⟩ ⟨_,h2',ho'⟩ e
   subst this
   rw[h1] at h1';simpa using h1'
  ·rw [F6 H h1, H2 H h1' h2'] at e
   rw[QQ] at ho
   exact absurd e (oldNe h1' h2' h3' ho' (lt2 h2) ⟨_,h2,ho⟩)
  ·rw [F6 H h1, Gq H h1' (ltA h2')] at e
   rw[QQ] at ho ho'
   have:=hr2.inj m m' (lt2 h2) (lt2 h2') ⟨_,h2,ho⟩ ⟨_,h2',ho'⟩ e
   have:=(List.getElem?_eq_some_iff.1 h1).1
   omega
  ·rw [H2 H h1 h2, F6 H h1'] at e
   rw[QQ] at ho'
   exact absurd e.symm (oldNe h1 h2 h3 ho (lt2 h2') ⟨_,h2',ho'⟩)
  ·rw [H2 H h1 h2, H2 H h1' h2'] at e
   exact hr.inj i j h1 h1' ⟨_,h3,ho⟩ ⟨_,h3',ho'⟩ e
  ·rw [H2 H h1 h2, Gq H h1' (ltA h2')] at e
   rw[QQ] at ho'
   exact absurd e.symm (oldNe h1 h2 h3 ho (lt2 h2') ⟨_,h2',ho'⟩)
  ·rw [Gq H h1 (ltA h2), F6 H h1'] at e
   rw[QQ] at ho ho'
   have:=hr2.inj m m' (lt2 h2) (lt2 h2') ⟨_,h2,ho⟩ ⟨_,h2',ho'⟩ e
   have:=(List.getElem?_eq_some_iff.1 h1').1
   omega
  ·rw [Gq H h1 (ltA h2), H2 H h1' h2'] at e
   rw[QQ] at ho
   exact absurd e (oldNe h1' h2' h3' ho' (lt2 h2) ⟨_,h2,ho⟩)
  ·rw [Gq H h1 (ltA h2), Gq H h1' (ltA h2')] at e
   rw[QQ] at ho ho'
   have:=hr2.inj m m' (lt2 h2) (lt2 h2') ⟨_,h2,ho⟩ ⟨_,h2',ho'⟩ e
   rw[this]
 ·refine hfr.keep b hb fun m hm om e => ?_
  have hml:m<ids.length:=by rw[<-ln];exact hm
  obtain⟨i,hi⟩:∃ i,ids[m]? =some i:=⟨_,List.getElem?_eq_getElem hml⟩
  refine hne i (H.hip i (List.mem_of_getElem? hi)) ((ownN hi).1 om) ?_
  rw[<-sg hi];exact e
 ·obtain ⟨b, hb, ho⟩ := oj
  rcases SG H hj (show A3[j]? =some b from hb) with⟨m,b0,dv,h1,h2,rfl⟩ | ⟨h1,h2,h3⟩ | ⟨m,b0,h1,rfl,h2,rfl⟩
  ·rw [F6 H h1] at hlt ⊢
   rw[QQ] at ho
   obtain⟨i,hi,oi,e⟩:=frOld m (lt2 h2) ⟨_,h2,ho⟩ hlt
   rw[h1] at hi
   simp at hi
   subst hi
   exact⟨H.hip j (List.mem_of_getElem? h1),oi,e⟩
  ·rw [H2 H h1 h2]
   exact⟨h1,⟨b,h3,ho⟩,rfl⟩
  ·rw [Gq H h1 (ltA h2)] at hlt
   rw[QQ] at ho
   obtain⟨i,hi,_⟩:=frOld m (lt2 h2) ⟨_,h2,ho⟩ hlt
   have:=(List.getElem?_eq_some_iff.1 hi).1
   omega
 ·rcases hfr.imm b hb with q | q | ⟨m, q1, q2, q3⟩
  ·exact .inl q
  ·exact .inr (.inl q)
  ·have hml : m < ids.length := by rw [<- ln]; exact q1
   obtain⟨i,hi⟩:∃ i,ids[m]? =some i:=⟨_,List.getElem?_eq_getElem hml⟩
   refine .inr (.inr ⟨i,H.hip i (List.mem_of_getElem? hi),(ownN hi).1 q2,?_⟩)
   rw[<-sg hi];exact q3
end
theorem Zhe (hrel:Rel c)(hip:∀ i ∈ ids,c.Pr i)(hl:∀ i ∈ ids,i<c.A.length)(hn:ids.Nodup):Rel (cxN c 0 ids):=by
 have hg:∀ i ∈ ids,0<=i/\i<c.A.length:=fun i hi=>⟨Nat.zero_le _,hl i hi⟩
 have sg:∀ {m i:Nat},ids[m]? =some i->J1 0 ids m=i:=fun {m i} h=>by have:=MY (n0:=0) h;rwa [Nat.zero_add] at this
 have back:∀ {m:Nat} {b:Blk},(ZV c.A 0 ids)[m]? =some b->∃ i b0,ids[m]? =some i/\c.A[i]? =some b0/\b=AE c.A 0 ids false b0/\c.Pr i:=by
  intro m b h
  have hm:m<ids.length:=by
   have:=(List.getElem?_eq_some_iff.1 h).1
   rw[GK] at this;omega
  obtain⟨i,hi⟩:∃ i,ids[m]? =some i:=⟨_,List.getElem?_eq_getElem hm⟩
  have hmem:=List.mem_of_getElem? hi
  have:=Pw (n0:=0) (Nat.zero_le _) hi (hl i hmem)
  rw[Nat.zero_add,h] at this
  cases hq:c.A[i]? with
  | none=>simp[hq] at this
  | some b0=>simp[hq] at this;exact⟨i,b0,hi,hq,this,hip i hmem⟩
 refine⟨fun m b hm hb=> ?_,fun m m' hm hm' om om' e=> ?_,hrel.lt⟩
 ·obtain ⟨i, b0, h1, h2, rfl, h3⟩ := back (show (ZV c.A 0 ids)[m]? = some b from hb)
  obtain⟨o,g1,g2,g3,g4⟩:=hrel.blk _ b0 h3 h2
  have er:(cxN c 0 ids).ρ m=c.ρ i:=by show c.ρ (J1 0 ids m)=_;rw[sg h1]
  rw[er]
  exact⟨o,g1,Z16 hg g2,by rw[KV];exact g3,by rw[KV];exact g4⟩
 ·obtain ⟨b, hb, ho⟩ := om
  obtain⟨b',hb',ho'⟩:=om'
  obtain⟨i,b0,h1,h2,rfl,h3⟩:=back (show(ZV c.A 0 ids)[m]? =some b from hb)
  obtain⟨i',b0',h1',h2',rfl,h3'⟩:=back (show(ZV c.A 0 ids)[m']? =some b' from hb')
  have e':c.ρ i=c.ρ i':=by
   have:c.ρ (J1 0 ids m)=c.ρ (J1 0 ids m'):=e
   rwa [sg h1,sg h1'] at this
  have:=hrel.inj i i' h3 h3' ⟨b0,h2,PN ho⟩ ⟨b0',h2',PN ho'⟩ e'
  subst this
  have l1:m<ids.length:=(List.getElem?_eq_some_iff.1 h1).1
  exact(List.getElem?_inj l1 hn).1 (h1.trans h1'.symm)
section
variable {A A':List Blk} (hA:∀ i ∈ ids,A'[i]? =A[i]?)
include hA
theorem Z9r (i v:Nat):spot A' 0 ids i v=spot A 0 ids i v:=by
 unfold spot
 have h0:Nat.blt i 0=false:=by
  cases hq:Nat.blt i 0 with
  | false=>rfl
  | true=>exact absurd (Nat.le_of_ble_eq_true hq) (by omega)
 rw[h0]
 simp only[cond_false]
 by_cases hi:i ∈ ids
 ·have : Q4 A' i = Q4 A i := by unfold Q4; rw [hA i hi]
  rw[this]
 ·rw [Mx hi]
  cases Q4 A' i<;>cases Q4 A i<;>rfl
theorem Z13:∀(n:Nat) (x:AV),YA A' 0 ids n x=YA A 0 ids n x:=by
 intro n
 induction n with
 | zero=>intro x;rfl
 | succ n ih=>
  intro x
  have hm:∀ cs:List AV,cs.map (YA A' 0 ids n)=cs.map (YA A 0 ids n):=fun cs=>List.map_congr_left fun x _=>ih x
  cases x<;>simp only[YA,hm,ih,Z9r hA]
theorem Zae (k:Bool)(b:Blk):AE A' 0 ids k b=AE A 0 ids k b:=by
 cases b with
 | cells cs v ro=>
  show Blk.cells (cs.map (YA A' 0 ids 8)) _ ro=Blk.cells (cs.map (YA A 0 ids 8)) _ ro
  rw[List.map_congr_left fun x _=>Z13 hA 8 x]
 | _=>rfl
theorem Zac:ZV A' 0 ids=ZV A 0 ids:=by
 unfold ZV
 simp only[List.take_zero,List.map_nil,List.nil_append]
 refine List.map_congr_left fun i hi=> ?_
 have:A'.getD i .free=A.getD i .free:=by rw[List.getD_eq_getElem?_getD,List.getD_eq_getElem?_getD,hA i hi]
 rw[this,Zae hA]
theorem Z9b:Y4 A' ids=Y4 A ids:=by
 unfold Y4
 refine List.map_congr_left fun i hi=> ?_
 have:Q4 A' i=Q4 A i:=by unfold Q4;rw[hA i hi]
 rw[this]
end
end
def Z7l (c:Cx)(n:Nat)(x:AV)(A1:List Blk)(e:Ending)(w':World):Prop:=
 ∃ X c',e=.returned X/\c'.w=w'/\Fr c c'/\Rel c'/\VR c' x X/\c'.A=A1++c.A.drop A1.length/\∀ i,c'.Pr i↔(c.Pr i∨(n<=i/\i<A1.length))
theorem Ziq {P:Program}{E:Env}{call:cT}(hok:CallsOk P E call){f:FuncId}(hbr:ZW f E.br=true){c:Cx}(hr:Rel c)(hgl:Gl c.I c.w){A:List Blk}{args:List AV}{args':Array Value}
  (hA:∀ i,i<A.length->c.Pr i/\c.A[i]? =A[i]?) (has:∀ i,c.Pr i->i<c.A.length) (abs:∀ i,¬c.Pr i->Zk c.A i=none) (hv:VRs c args args'.toList)
  {ids:List Nat} (hn:ids.Nodup) (hg:∀ i ∈ ids,0<=i/\i<A.length) {x:AV} {A1:List Blk} (h:ME call f args A ids=some (.turned x A1)) (hf:∀ i,A.length<=i->i<A1.length->¬c.Pr i):
  Calls P f args' c.w (Z7l c A.length x A1):=by
 obtain⟨x0,B,hc,hl,hb,e⟩:=X2 h
 simp only[Done.turned.injEq] at e
 obtain⟨rfl,e2⟩:=e
 have hA':∀ i ∈ ids,c.A[i]? =A[i]? :=fun i hi=>(hA i (hg i hi).2).2
 have hip:∀ i ∈ ids,c.Pr i:=fun i hi=>(hA i (hg i hi).2).1
 have hl':∀ i ∈ ids,i<c.A.length:=fun i hi=>has i (hip i hi)
 have hgc:∀ i ∈ ids,0<=i/\i<c.A.length:=fun i hi=>⟨Nat.zero_le _,hl' i hi⟩
 have hc':call f (args.map (YA c.A 0 ids 8)) (ZV c.A 0 ids)=some (x0,B):=by
  rw[Zac hA',List.map_congr_left fun x _=>Z13 hA' 8 x];exact hc
 have hvers:Y4 c.A ids=Y4 A ids:=Z9b hA'
 refine(hok.br f _ _ x0 B hbr hc' (cxN c 0 ids) args' (Zhe hr hip hl' hn) hgl rfl (fun i=>Iff.rfl) (Sw hgc 8 hv)).mono ?_
 rintro e w' ⟨X,c2,rfl,rfl,fr,rel,hx,rfl,hp⟩
 have put:=Z1i (c:={ c with A:=A }) (c2:=c2) hn (fun i hi=>(hg i hi).2) hl hb
 rw[<-show A1=_ from e2] at put
 have hlen:A1.length=A.length+(c2.A.length-ids.length):=put.len
 have lo:∀ {i},i<A1.length->(A1++c.A.drop A1.length)[i]? =A1[i]? :=fun h=>List.getElem?_append_left h
 have hi':∀ {i},A1.length<=i->(A1++c.A.drop A1.length)[i]? =c.A[i]? :=fun {i} h=>by
  rw[List.getElem?_append_right h,List.getElem?_drop];congr 1;omega
 have H:PutQ c ids A.length c2 (A1++c.A.drop A1.length):=by
  refine⟨hl,fun m i hm=> ?_,fun j hj hni=> ?_,fun m hm hmc=> ?_,fun j h1 h2=>hf j h1 (by omega),hn,hip,has,abs,hp⟩
  ·obtain ⟨b, dv, g1, g2, g3, g4⟩ := put.loc m i hm
   have hiA:=(hg i (List.mem_of_getElem? hm)).2
   refine⟨b,dv,g1,?_,?_,g4⟩
   ·rw[lo (by omega),hvers];exact g2
   ·rw [g3]
    show(Q4 A i).getD 0=_
    unfold Q4
    rw[hA' i (List.mem_of_getElem? hm)]
  ·by_cases hjA : j < A.length
   ·rw[lo (by omega),put.old j hjA hni];exact(hA j hjA).2.symm
   ·have : ¬ j < A1.length := fun h => hf j (by omega) h hj
    rw[hi' (by omega)]
  ·rw [lo (by omega), hvers]
   exact put.new m hm
 obtain⟨rel3,fr3⟩:=Zhc H hr rel fr
 refine⟨X,J9 c ids A.length c2 _,rfl,rfl,fr3,rel3,?_,rfl,fun i=> ?_⟩
 ·have := XR H 8 hx
  rw[hvers] at this
  exact this
 ·show (c.Pr i ∨ (A.length <= i /\ i < A.length + (c2.A.length - ids.length))) ↔ _
  rw[hlen]
theorem Z6m {A:List Blk}{i v o:Nat}{cs:List AV}(h:cellsAt A i v o=some cs):i<A.length:=by
 unfold cellsAt at h
 rcases Nat.lt_or_ge i A.length with h' | h'
 ·exact h'
 ·rw[List.getElem?_eq_none h'] at h;simp at h
theorem PY {A:List Blk}{f:AV->Option (DV×List Nat)}(hf:∀ x r u,f x=some (r,u)->∀ i ∈ u,i<A.length):∀ {cs:List AV} {ds:List DV} {us:List Nat},Y8 f cs=some (ds,us)->∀ i ∈ us,i<A.length
 | [],ds,us,h,i,hi=>by simp[Y8] at h;rw[h.2] at hi;cases hi
 | x::cs,ds,us,h,i,hi=>by
  simp only[Y8] at h
  split at h
  ·rename_i a u b w h1 h2
   simp at h
   obtain⟨rfl,rfl⟩:=h
   rcases List.mem_append.1 hi with h | h
   ·exact hf _ _ _ h1 i h
   ·exact PY hf h2 i h
  ·cases h
theorem Zh7 {A:List Blk}:∀(n:Nat) (x:AV) (r:DV) (u:List Nat),deep A n x=some (r,u)->∀ i ∈ u,i<A.length:=by
 intro n
 induction n with
 | zero=>intro x r u h;cases h
 | succ n ih=>
  intro x r u h
  have all:∀ {g:List DV->DV} {cs:List AV},((Y8 (deep A n) cs).map fun r=>(g r.1,r.2))=some (r,u)->∀ i ∈ u,i<A.length:=by
   intro g cs h
   cases hm:Y8 (deep A n) cs with
   | none=>rw[hm] at h;cases h
   | some p=>
    rw[hm] at h
    simp at h
    obtain⟨_,rfl⟩:=h
    exact PY ih hm
  unfold deep at h
  split at h
  ·simp at h;rw[h.2];simp
  ·exact all h
  ·exact all h
  ·exact all (g:=fun l=>.fn _ l) h
  ·rename_i t y
   cases hm:deep A n y with
   | none=>rw[hm] at h;cases h
   | some p=>
    rw[hm] at h
    simp at h
    obtain⟨_,rfl⟩:=h
    exact ih _ _ _ hm
  ·rename_i i ver off
   split at h
   ·rename_i cs hc
    cases hm:Y8 (deep A n) cs with
    | none=>rw[hm] at h;cases h
    | some p=>
     rw[hm] at h
     simp at h
     obtain⟨_,rfl⟩:=h
     intro j hj
     rcases List.mem_cons.1 hj with rfl | hj
     ·exact Z6m hc
     ·exact PY ih hm j hj
   ·cases h
  ·rename_i i ver off len sz k
   split at h
   ·simp at h;rw[h.2];simp
   ·split at h
    ·rename_i cs hc
     split at h
     ·cases hm : Y8 (deep A n) (cs.take (len * sz)) with
      | none=>rw[hm] at h;cases h
      | some p=>
       rw[hm] at h
       simp at h
       obtain⟨_,rfl⟩:=h
       intro j hj
       rcases List.mem_cons.1 hj with rfl | hj
       ·exact Z6m hc
       ·exact PY ih hm j hj
     ·cases h
    ·cases h
  ·cases h
theorem Zgj {P:Program}{E:Env}{call:cT}(hok:CallsOk P E call){c:Cx}(hr:Rel c)(hgl:Gl c.I c.w){A:List Blk}
  (hA:∀ i,i<A.length->c.Pr i/\c.A[i]? =A[i]?) (has:∀ i,c.Pr i->i<c.A.length) (abs:∀ i,¬c.Pr i->Zk c.A i=none) {f:FuncId} {args:List AV} {args':Array Value} (hv:VRs c args args'.toList)
  {x:AV} {A1:List Blk} (h:DS E call f args A A.length=some (.turned x A1)) (hfr:∀ i,A.length<=i->i<A1.length->¬c.Pr i):Calls P f args' c.w (Z7l c A.length x A1):=by
 have agr:Agr c A:=⟨fun i b hp hb=>(hA i (List.getElem?_eq_some_iff.1 hb).1).2.trans hb,fun i v hv v' hv'=>by
  have:=(hA i (GV hv)).2
  rw[HE this,hv] at hv'
  exact(Option.some.inj hv').symm⟩
 unfold DS at h
 cases hbr:ZW f E.br with
 | true=>
  rw[hbr] at h
  simp only[cond_true] at h
  obtain⟨hn,hg⟩:=SC A 0 100000 (args.flatMap (YT 8))
  exact Ziq hok hbr hr hgl hA has abs hv hn hg h hfr
 | false=>
  rw[hbr] at h
  simp only[cond_false] at h
  cases hm:Y8 (deep A 8) args with
  | none=>simp[hm,MA] at h
  | some p=>
   obtain⟨ds,used⟩:=p
   have hul:∀ i ∈ used,i<A.length:=PY (Zh7 8) hm
   simp only[hm,MA] at h
   cases hraw:Jz E call f (ds.map (Aug.fk 4)) with
   | none=>simp[hraw,G8] at h
   | some q=>
    obtain⟨x',Ac⟩:=q
    simp only[hraw,G8] at h
    have hd:=HY (fun x X r u=>TK hr agr 8 x X r u) hv hm
    have hlt:∀ b,IU c used b->b<c.w.heap.size:=by
     rintro b (hb | ⟨i,_,hp,rfl,cs,v,ro,hi⟩)
     ·exact hr.lt b hb
     ·exact hr.lt_of hp hi
    have hcall:=hok.raw f (ds.map (Aug.fk 4)) x' Ac hraw (IU c used) c.w args' hlt (hgl.mono (fun _ h=>.inl h) fun _ _=>rfl) (DRs.fk 4 hd)
    have vfr:∀ b:Blk,b.freeze.ver=b.ver:=by intro b;cases b<;>rfl
    have lo:∀(bs:List Blk) {i},i<(Yv A used++bs).length->((Yv A used++bs)++c.A.drop (Yv A used++bs).length)[i]? =(Yv A used++bs)[i]? :=fun bs i h=>List.getElem?_append_left h
    have hi':∀(bs:List Blk) {i},(Yv A used++bs).length<=i->((Yv A used++bs)++c.A.drop (Yv A used++bs).length)[i]? =c.A[i]? :=fun bs {i} h=>by
     rw[List.getElem?_append_right h,List.getElem?_drop];congr 1;omega
    have aget:∀(bs:List Blk),(∀ i,A.length<=i->i<(Yv A used++bs).length->¬c.Pr i)->∀ i,c.Pr i->((Yv A used++bs)++c.A.drop (Yv A used++bs).length)[i]? =if i ∈ used then(c.A[i]?).map Blk.freeze else c.A[i]? :=by
     intro bs hf i hp
     by_cases hiA:i<A.length
     ·rw[lo bs (by simp[CX];omega),List.getElem?_append_left (by rw[CX];exact hiA),S8,(hA i hiA).2]
     ·have h1 : ¬ i < (Yv A used ++ bs).length := fun h => hf i (by omega) h hp
      rw[hi' bs (by omega),if_neg (fun h=>hiA (hul i h))]
    have aver:∀(bs:List Blk),(∀ i,A.length<=i->i<(Yv A used++bs).length->¬c.Pr i)->∀ i v,Zk c.A i=some v->Zk ((Yv A used++bs)++c.A.drop (Yv A used++bs).length) i=some v:=by
     intro bs hf i v hv
     have hp:c.Pr i:=Classical.byContradiction fun hp=>by rw[abs i hp] at hv;cases hv
     obtain⟨b,hb,hbv⟩:=C1 hv
     unfold Zk
     rw[aget bs hf i hp,hb]
     split<;>simp[vfr,hbv]
    have anew:∀(bs:List Blk),(∀ i,A.length<=i->i<(Yv A used++bs).length->¬c.Pr i)->∀ j,j<bs.length->((Yv A used++bs)++c.A.drop (Yv A used++bs).length)[A.length+j]? =bs[j]? /\¬c.Pr (A.length+j):=by
     intro bs hf j hj
     have hl:A.length+j<(Yv A used++bs).length:=by simp[CX];omega
     refine⟨?_,hf _ (by omega) hl⟩
     rw[lo bs hl,List.getElem?_append_right (by rw[CX];omega),CX];congr 1;omega
    cases hth:HG E f with
    | true=>
     rw[hth] at h
     simp only[cond_true] at h
     cases ht:CE Ac A.length 6 x' [] [] with
     | none=>simp[ht,GH] at h
     | some r=>
      obtain⟨y,bs,us⟩:=r
      simp only[ht,GH] at h
      cases hf:(CJ used || (CK 8 y&&K6 bs)) with
      | true=>rw[hf] at h;simp at h
      | false=>
       rw[hf] at h
       simp at h
       obtain⟨rfl,rfl⟩:=h
       refine hcall.mono ?_
       rintro e w' ⟨X,c1,rfl,rfl,k,hr1,rfl,hx,g1,g2,g3⟩
       obtain⟨i1,_,gd⟩:=Uw (c1:=c1) (nb:=A.length) 6 x' X [] [] y bs us hx ⟨rfl,.nil,by simp⟩ ht
       obtain⟨fr,rel,s1,s2,s3⟩:=NY hr hr1 (ro:=true) (A':=(Yv A used++bs)++c.A.drop (Yv A used++bs).length) (nb:=A.length) k g1 g2 g3 i1 (.inl rfl) (aver bs hfr) (fun i hp=>by rw[aget bs hfr i hp];simp) (anew bs hfr)
       refine⟨X,⟨IA c c1 us used true,rhoA c c1 A.length us,c1.w,(Yv A used++bs)++c.A.drop (Yv A used++bs).length,fun i=>c.Pr i∨(A.length<=i/\i<A.length+bs.length)⟩,rfl,rfl,fr,rel,gd _ ⟨rfl,s1,s3⟩,rfl,fun i=> ?_⟩
       have e1:(Yv A used++bs).length=A.length+bs.length:=by rw[List.length_append,CX]
       rw[e1]
    | false=>
     rw[hth] at h
     simp only[cond_false] at h
     cases hdp:deep Ac 8 x' with
     | none=>simp[hdp,GZ] at h
     | some r=>
      obtain⟨r,u2⟩:=r
      simp only[hdp,GZ] at h
      have hdr0:∀(c1:Cx) (X:Value),Rel c1->c1.A=Ac->VR c1 x' X->DR (IU c1 u2) c1.w r X:=by
       intro c1 X hr1 hA1 hx
       subst hA1
       exact TK hr1 (Agr.refl c1) 8 x' X r u2 hx hdp
      have hdr:∀(c1:Cx) (X:Value),Rel c1->c1.A=Ac->VR c1 x' X->DR (IU c1 u2) c1.w (Aug.fk 4 r) X:=fun c1 X a b d=>(hdr0 c1 X a b d).fk 4
      have sub3:∀(c1:Cx),Rel c1->Kept c.w c1.w->(∀ b,IU c used b->c1.I b)->(∀ b,c1.I b->IU c used b∨c.w.heap.size<=b)->(∀ i,c1.Pr i->YG c1.A i->c.w.heap.size<=c1.ρ i)->
        ∀(ro:Bool),((∀ b,c1.I b->IA c c1 [] used ro b))->∀ b,IU c1 u2 b->IA c c1 [] used ro b:=by
       intro c1 hr1 _ _ _ g3 ro hs b hb
       rcases hb with hb | ⟨i,_,hp,rfl,cs,v,r0,hi⟩
       ·exact hs b hb
       ·cases r0 with
        | true=>
         obtain⟨_,_,_,g5,_⟩:=hr1.blk i _ hp hi
         exact hs _ (g5 rfl)
        | false=>exact .inr (.inl ⟨g3 i hp ⟨_,hi,rfl⟩,hr1.lt_of hp hi,by simp⟩)
      cases hf:(CJ used || r.flat 8) with
      | true=>rw[hf] at h;simp at h
      | false=>
       rw[hf] at h
       simp at h
       obtain⟨rfl,rfl⟩:=h
       refine hcall.mono ?_
       rintro e w' ⟨X,c1,rfl,rfl,k,hr1,hA1,hx,g1,g2,g3⟩
       have hfr':∀ i,A.length<=i->i<(Yv A used++([]:List Blk)).length->¬c.Pr i:=by rw[List.append_nil];exact hfr
       have ave:=aver [] hfr'
       have ag:=aget [] hfr'
       rw[List.append_nil] at ave ag
       obtain⟨fr,rel,s1,s2,s3⟩:=NY hr hr1 (ro:=true) (us:=[]) (bs:=[]) (nb:=A.length) (used:=used) (A':=Yv A used++c.A.drop (Yv A used).length) k g1 g2 g3 ⟨rfl,.nil,by simp⟩ (.inl rfl) ave
        (fun i hp=>by rw[ag i hp];simp) (by simp)
       refine⟨X,⟨IA c c1 [] used true,rhoA c c1 A.length [],c1.w,Yv A used++c.A.drop (Yv A used).length,fun i=>c.Pr i∨(A.length<=i/\i<A.length+([]:List Blk).length)⟩,rfl,rfl,fr,rel,.d ((hdr c1 X hr1 hA1 hx).imm (sub3 c1 hr1 k g1 g2 g3 true s1)),rfl,fun i=> ?_⟩
       rw[CX];exact Iff.rfl
theorem Zd4 {F:Fence}{n:Nat}(hF:Wd F){P:Program}{E:Env}{call:cT}(hok:CallsOk P E call)(hen:EntersOk P E call){o:Oper}{f:Zw}(h:ZN P o.op=some f){c:Cx}(hrel:Rel c){tm:List AV}{a:Act}(htr:TR c tm a){A:List Blk}
  (hA:∀ i,i<A.length->c.Pr i/\c.A[i]? =A[i]?) (has:∀ i,c.Pr i->i<c.A.length) (abs:∀ i,¬c.Pr i->Zk c.A i=none) (hX:(ZH P o.op).isX=true) {x:AV} {A1:List Blk} (hd:f E call tm A A.length=some (.turned x A1)) (hfr:∀ i,A.length<=i->i<A1.length->¬c.Pr i)
  {next:Act->World->Prop} {Q:Exit->Act->World->Prop}
  (ha:∀ X c',Fr c c'->Rel c'->VR c' x X->c'.A=A1++c.A.drop A1.length->(∀ i,c'.Pr i↔(c.Pr i∨(A.length<=i/\i<A1.length)))->next (a.put o.dst X) c'.w):o.wpIn F n P a c.w next Q:=by
 have hnd:=RD h
 have agr:Agr c A:=⟨fun i b hp hb=>(hA i (List.getElem?_eq_some_iff.1 hb).1).2.trans hb,fun i v hv v' hv'=>by
  have:=(hA i (GV hv)).2
  rw[HE this,hv] at hv'
  exact(Option.some.inj hv').symm⟩
 have pureCase:(∃ y X,Done.turned x A1=.made y []/\(execOp a.eval o).run P c.w=.ok (.value X) c.w/\VR c y X)->o.wpIn F n P a c.w next Q:=by
  rintro⟨y,X,e,_⟩;cases e
 have makeCase:(∃ y b,Done.turned x A1=.made y [b]/\BJ P c a o A.length y b)->o.wpIn F n P a c.w next Q:=by
  rintro⟨y,b,e,_⟩;cases e
 rcases SK h with hp | ⟨s,t,y,he⟩ | ⟨t,y,lo,hi,mx,he⟩ | ⟨t,y,he⟩ | ⟨t,y,z,he⟩ | ⟨t,he⟩ | ⟨t,y,he⟩ | ⟨t,n,ps,he⟩ | ⟨t,l,cc,he⟩ | ⟨cl,he,hxt⟩ | ⟨t,y,he⟩ | ⟨y,s,he⟩ | ⟨bo,t,y,z,u,he,x1,x2,e,q1,q2,q3,q4,q5,q6⟩
 ·exact pureCase (hp c tm a E call A A.length _ o rfl htr hd)
 ·rw [he] at h
  rcases SM h with hp | ⟨x',r,e,hx,rfl,h1,h2,h3⟩
  ·exact pureCase (hp c tm a E call A A.length _ o he htr hd)
  ·obtain ⟨z, hz, e⟩ := one?_inv hd
   cases e
 ·rw [he] at h
  by_cases hna:∃ n e,P.underlying t=some (.array n e)
  ·obtain ⟨n, e, hu⟩ := hna
   exact pureCase (UH (P:=P) hrel htr agr he hu h hd)
  ·exact pureCase (SJ (fun n e hu=>hna ⟨n,e,hu⟩) h c tm a E call A A.length _ o he htr hd)
 ·rw[he] at hX;simp[ZH,Kd.isX] at hX
 ·rw[he] at hX;simp[ZH,Kd.isX] at hX
 ·rw[he] at hX;simp[ZH,Kd.isX] at hX
 ·rw[he] at hX;simp[ZH,Kd.isX] at hX
 ·rw[he] at hX;simp[ZH,Kd.isX] at hX
 ·rw[he] at hX;simp[ZH,Kd.isX] at hX
 ·rw [he] at h
  simp only[ZN,hxt] at h
  cases hc:cl.callee with
  | value y=>
   obtain⟨x',xs,hx,hxs,rfl⟩:=WX hc h
   simp only[oK] at hd
   cases ht:target (xs.map (look tm)) (look tm x') with
   | none=>simp[ht,Gz] at hd
   | some p=>
    obtain⟨g,as⟩:=p
    simp only[ht,Gz] at hd
    obtain⟨cap,hy,hv⟩:=UA (VR.look htr hx) (VR.looks htr hxs) ht
    have hent:=W9 hen hd
    have hrun:=UM (P:=P) (w:=c.w) he hc hy hent
    have hv':VRs c as (cl.args.map a.eval++cap).toList:=by simpa using hv
    refine RX hF hnd hrun (Zgj hok hrel htr.1 hA has abs hv' hd hfr) ?_
    rintro e w' ⟨X,c',rfl,hw',fr,rel,hvx,hA',hP'⟩
    refine⟨X,rfl,?_⟩
    rw[<-hw']
    exact ha X c' fr rel hvx hA' hP'
  | builtin b=>
   by_cases hb:b=.append∨b=.clear
   ·rcases Xx (P := P) hrel htr agr he hc hb h hd with hp | hm | ⟨x', X, i, b, w', c', e, hrun, fr, rel, hw', hA', hP', _, hv, hpi, hiA⟩
    ·exact pureCase hp
    ·exact makeCase hm
    ·simp at e
     obtain⟨rfl,rfl⟩:=e
     obtain rfl:=hw'
     have key:c'.A=A.set i b++c.A.drop (A.set i b).length:=by
      rw[hA']
      have hlen:A.length<=c.A.length:=by
       rcases Nat.eq_zero_or_pos A.length with h | h
       ·omega
       ·have:=has _ (hA (A.length-1) (by omega)).1;omega
      apply List.ext_getElem?
      intro k
      rw[List.length_set]
      by_cases hk:k<A.length
      ·rw [List.getElem?_append_left (by rw [List.length_set]; exact hk)]
       by_cases hik:i=k
       ·subst hik
        rw[List.getElem?_set_self hiA,List.getElem?_set_self (by omega)]
       ·rw[List.getElem?_set_ne hik,List.getElem?_set_ne hik,(hA k hk).2]
      ·rw [List.getElem?_append_right (by rw [List.length_set]; omega), List.length_set, List.getElem?_drop, List.getElem?_set_ne (by omega)]
       congr 1;omega
     refine EH hF hnd hrun (ha X c' fr rel hv key (fun j=> ?_))
     rw[hP']
     simp only[List.length_set]
     constructor
     ·exact .inl
     ·rintro (h | h)
      ·exact h
      ·omega
   ·exact pureCase (SN h ⟨b,hc,hb⟩ c tm a E call A A.length _ o he htr hd)
  | invoke r m=>unfold BZ at h;rw[hc] at h;simp at h
 ·rw[he] at hX;simp[ZH,Kd.isX] at hX
 ·rw [he] at h
  rcases Vv (P:=P) hrel htr agr he h hd with hp | ⟨x',X,i,b,w',c',e,hrun,fr,rel,hw',hA',hP',_,hv,hpi,hiA⟩
  ·exact pureCase hp
  ·simp at e
   obtain⟨rfl,rfl⟩:=e
   obtain rfl:=hw'
   have key:c'.A=A.set i b++c.A.drop (A.set i b).length:=by
    rw[hA']
    have hlen:A.length<=c.A.length:=by
     rcases Nat.eq_zero_or_pos A.length with h | h
     ·omega
     ·have:=has _ (hA (A.length-1) (by omega)).1;omega
    apply List.ext_getElem?
    intro k
    rw[List.length_set]
    by_cases hk:k<A.length
    ·rw [List.getElem?_append_left (by rw [List.length_set]; exact hk)]
     by_cases hik:i=k
     ·subst hik
      rw[List.getElem?_set_self hiA,List.getElem?_set_self (by omega)]
     ·rw[List.getElem?_set_ne hik,List.getElem?_set_ne hik,(hA k hk).2]
    ·rw [List.getElem?_append_right (by rw [List.length_set]; omega), List.length_set, List.getElem?_drop, List.getElem?_set_ne (by omega)]
     congr 1;omega
   refine EH hF hnd hrun (ha X c' fr rel hv key (fun j=> ?_))
   rw[hP']
   simp only[List.length_set]
   constructor
   ·exact .inl
   ·rintro (h | h)
    ·exact h
    ·omega
 ·subst q3
  exact pureCase (UV htr agr he q1 q2 q4 q5 q6 hd)
end Go.Aug
