import Derived.Test.YtmfdoekbjkgckaaGreatEvB
namespace Go.Aug
open Go
def IU (c:Cx)(u:List Nat):Nat->Prop:=fun b=>c.I b∨∃ i,i ∈ u/\c.Pr i/\c.ρ i=b/\∃ cs v ro,c.A[i]? =some (.cells cs v ro)
theorem IU.mono {c:Cx}{u u':List Nat}(h:∀ i,i ∈ u->i ∈ u'):∀ b,IU c u b->IU c u' b
 | _,.inl h'=>.inl h'
 | _,.inr ⟨i,hi,hp,hr⟩=>.inr ⟨i,h i hi,hp,hr⟩
theorem DRm.ofMem {I:Nat->Prop}{w:World}:∀ {cs:List DV} {Xs:List Value} {b o:Nat},DRs I w cs Xs->CQ w b o Xs->DRm I w cs b o
 | _,_,_,_,.nil,_=>.nil
 | _,_,b,o,.cons h hs,hM=>.cons (by simpa using hM 0 _ rfl) h (DRm.ofMem hs (hM.drop 1))
theorem DR.imm {I I':Nat->Prop}{w:World}{x:DV}{X:Value}(h:DR I w x X)(hI:∀ b,I b->I' b):DR I' w x X:=h.mono hI fun _ _=>rfl
theorem DRs.imm {I I':Nat->Prop}{w:World}{x:List DV}{X:List Value}(h:DRs I w x X)(hI:∀ b,I b->I' b):DRs I' w x X:=h.mono hI fun _ _=>rfl
theorem HY {c:Cx}{f:AV->Option (DV×List Nat)}(hf:∀ x X r u,VR c x X->f x=some (r,u)->DR (IU c u) c.w r X):∀ {xs:List AV} {Xs:List Value} {r:List DV} {u:List Nat},VRs c xs Xs->Y8 f xs=some (r,u)->DRs (IU c u) c.w r Xs
 | [],_,r,u,.nil,h=>by
  simp[Y8] at h
  obtain⟨rfl,rfl⟩:=h
  exact .nil
 | x::xs,_,r,u,.cons hx hxs,h=>by
  simp only[Y8] at h
  cases h1:f x with
  | none=>simp[h1] at h
  | some p=>
   obtain⟨a,u1⟩:=p
   cases h2:Y8 f xs with
   | none=>simp[h1,h2] at h
   | some q=>
    obtain⟨b,u2⟩:=q
    simp[h1,h2] at h
    obtain⟨rfl,rfl⟩:=h
    exact .cons ((hf _ _ _ _ hx h1).imm (IU.mono fun i hi=>by simp[hi])) ((HY hf hxs h2).imm (IU.mono fun i hi=>by simp[hi]))
theorem TK {c:Cx}(hr:Rel c){A:List Blk}(hA:Agr c A):∀(n:Nat) (x:AV) (X:Value) (r:DV) (u:List Nat),VR c x X->deep A n x=some (r,u)->DR (IU c u) c.w r X:=by
 intro n
 induction n with
 | zero=>intro x X r u _ h;simp[deep] at h
 | succ n ih=>
  intro x X r u hx h
  unfold deep at h
  split at h
  ·simp at h
   obtain⟨rfl,rfl⟩:=h
   cases hx with
   | d hx=>exact hx.imm fun _ h=>.inl h
  ·rename_i cs
   cases hm:Y8 (deep A n) cs with
   | none=>simp[hm] at h
   | some p=>
    simp[hm] at h
    obtain⟨rfl,rfl⟩:=h
    obtain⟨Xs,rfl,hv⟩:=hx.agg_inv
    exact .agg (HY ih hv hm)
  ·rename_i cs
   cases hm:Y8 (deep A n) cs with
   | none=>simp[hm] at h
   | some p=>
    simp[hm] at h
    obtain⟨rfl,rfl⟩:=h
    obtain⟨Xs,rfl,hv⟩:=hx.tup_inv
    exact .tup (HY ih hv hm)
  ·rename_i f cs
   cases hm:Y8 (deep A n) cs with
   | none=>simp[hm] at h
   | some p=>
    simp[hm] at h
    obtain⟨rfl,rfl⟩:=h
    cases hx with
    | fn hv=>exact .fn (HY ih hv hm)
  ·rename_i t y
   cases hm:deep A n y with
   | none=>simp[hm] at h
   | some p=>
    simp[hm] at h
    obtain⟨rfl,rfl⟩:=h
    obtain⟨Y,rfl,hv⟩:=hx.ifc_inv
    exact .ifc (ih _ _ _ _ hv hm)
  ·rename_i i ver off
   split at h
   ·rename_i cs hc
    cases hm:Y8 (deep A n) cs with
    | none=>simp[hm] at h
    | some p=>
     simp[hm] at h
     obtain⟨rfl,rfl⟩:=h
     obtain⟨rfl,hp⟩:=hx.ref_inv (hA.ver _ _ (Rz hc))
     obtain⟨_,Xs,hv,hM,_⟩:=hr.cellsAt hp (fun b=>hA.pr _ b hp) hc
     have hbk:∃ cs v ro,c.A[i]? =some (.cells cs v ro):=by
      obtain⟨all,ro,h1,_⟩:=Rw hc
      exact⟨_,_,_,hA.pr _ _ hp h1⟩
     have hd:=(HY ih hv hm).imm (IU.mono (u':=i::p.2) fun j hj=>by simp[hj])
     exact .vptr (.inr ⟨i,by simp,hp,rfl,hbk⟩) (DRm.ofMem hd hM)
   ·simp at h
  ·rename_i i ver off len sz k
   split at h
   ·rename_i h0
    subst h0
    simp at h
    obtain⟨rfl,rfl⟩:=h
    cases hx with
    | sref=>exact .nil (by simp)
    | srefS=>exact .nil (by simp)
   ·split at h
    ·rename_i cs hc
     split at h
     ·rename_i hle
      cases hm:Y8 (deep A n) (cs.take (len*sz)) with
      | none=>simp[hm] at h
      | some p=>
       simp[hm] at h
       obtain⟨rfl,rfl⟩:=h
       obtain⟨cap,rfl,hp,hlc,hk,_,_⟩:=hx.sref_inv (hA.ver _ _ (Rz hc))
       obtain⟨_,Xs,hv,hM,_⟩:=hr.cellsAt hp (fun b=>hA.pr _ b hp) hc
       have hbk:∃ cs v ro,c.A[i]? =some (.cells cs v ro):=by
        obtain⟨all,ro,h1,_⟩:=Rw hc
        exact⟨_,_,_,hA.pr _ _ hp h1⟩
       have hd:=(HY ih (hv.take (len*sz)) hm).imm (IU.mono (u':=i::p.2) fun j hj=>by simp[hj])
       exact .lst (.inr ⟨i,by simp,hp,rfl,hbk⟩) hlc hk (DRm.ofMem hd (hM.take _))
     ·simp at h
    ·simp at h
  ·simp at h
theorem Tv {n:Nat}{I I':Nat->Prop}{w w':World}(ih:∀ {x:DV} {X:Value},DV.flat n x=true->DR I w x X->DR I' w' x X):∀ {cs:List DV} {Xs:List Value},cs.all (DV.flat n)=true->DRs I w cs Xs->DRs I' w' cs Xs
 | [],_,_,.nil=>.nil
 | x::cs,_,h,.cons hx hs=>by
  simp at h
  exact .cons (ih h.1 hx) (Tv ih (by simpa using h.2) hs)
theorem W0:∀(n:Nat) {I I':Nat->Prop} {w w':World} {x:DV} {X:Value},DV.flat n x=true->DR I w x X->DR I' w' x X:=by
 intro n
 induction n with
 | zero=>intro I I' w w' x X h;simp[DV.flat] at h
 | succ n ih=>
  intro I I' w w' x X h hd
  cases hd with
  | v X h1=>exact .v X h1
  | agg hd=>exact .agg (Tv ih (by simpa [DV.flat] using h) hd)
  | tup hd=>exact .tup (Tv ih (by simpa [DV.flat] using h) hd)
  | emp hk=>exact .emp hk
  | nil hk=>exact .nil hk
  | @lst cs len cap b o k hI hl hk hd=>
   cases cs with
   | nil=>cases len with
    | zero=>exact .nil hk
    | succ=>simp[DV.flat] at h
   | cons=>simp[DV.flat] at h
  | vptr=>simp[DV.flat] at h
  | fn=>simp[DV.flat] at h
  | ifc hd=>exact .ifc (ih (by simpa [DV.flat] using h) hd)
  | nel=>exact .nel
mutual
theorem DR.fk {I:Nat->Prop}{w:World}:∀(n:Nat) {x:DV} {X:Value},DR I w x X->DR I w (Aug.fk n x) X
 | 0,_,_,h=>h
 | n+1,_,_,h=>by
  cases h with
  | v _ h=>exact .v _ h
  | agg h=>exact .agg (DRs.fk n h)
  | tup h=>exact .tup (DRs.fk n h)
  | emp hk=>exact .emp (by simp)
  | nil hk=>exact .nil (by simp)
  | lst hI hl hk h=>exact .lst hI hl (by simp) h
  | vptr hI h=>exact .vptr hI h
  | fn h=>exact .fn h
  | ifc h=>exact .ifc h
  | nel=>exact .nel
theorem DRs.fk {I:Nat->Prop}{w:World}:∀(n:Nat) {xs:List DV} {Xs:List Value},DRs I w xs Xs->DRs I w (xs.map (Aug.fk n)) Xs
 | _,[],_,.nil=>.nil
 | n,_::_,_,.cons h hs=>.cons (DR.fk n h) (DRs.fk n hs)
end
structure Kept (w w':World):Prop where
 os:w'.os=w.os
 tape:w'.tape=w.tape
 output:w'.output=w.output
 size:w.heap.size<=w'.heap.size
 block:∀ k,k<w.heap.size->w'.heap[k]? =w.heap[k]?
theorem Rel.after {c:Cx}(h:Rel c){w':World}(k:Kept c.w w'){I':Nat->Prop}{A':List Blk}{ρ':Nat->Nat}{Pr':Nat->Prop}
  (hI:∀ b,c.I b->I' b) (hI':∀ b,I' b->b<w'.heap.size) (hIo:∀ b,I' b->c.I b∨c.w.heap.size<=b∨∃ i,c.Pr i/\YG c.A i/\c.ρ i=b/\∀ bk,A'[i]? =some bk->bk.ro=true)
  (hP:∀ i,c.Pr i->Pr' i) (hρ:∀ i,c.Pr i->ρ' i=c.ρ i) (hver:∀ i v,Zk c.A i=some v->Zk A' i=some v)
  (hA:∀ i,c.Pr i->∀ b',A'[i]? =some b'->c.A[i]? =some b'∨(∃ cs v,c.A[i]? =some (.cells cs v false)/\b'=.cells cs v true/\I' (c.ρ i)))
  (hnew:∀ i b',Pr' i->¬c.Pr i->A'[i]? =some b'->c.w.heap.size<=ρ' i/\¬I' (ρ' i)/\b'.ro=false/\∃ o,w'.heap[ρ' i]? =some o/\∀ c',c'.w=w'->c'.I=I'->Aq c' b' o)
  (hinj:∀ i j,Pr' i->Pr' j->¬c.Pr i->¬c.Pr j->YG A' i->YG A' j->ρ' i=ρ' j->i=j):
  Fr c ⟨I',ρ',w',A',Pr'⟩/\Rel ⟨I',ρ',w',A',Pr'⟩:=by
 have hown:∀ i,c.Pr i->YG A' i->YG c.A i:=by
  rintro i hi ⟨b',hb,hro⟩
  rcases hA i hi b' hb with h1 | ⟨cs,v,h1,rfl,_⟩
  ·exact⟨b',h1,hro⟩
  ·simp[Blk.ro] at hro
 have hbs:∀ b,b<c.w.heap.size->Yz w' b=Yz c.w b:=fun b hb=>by unfold Yz;rw[k.block b hb]
 have fr:Fr c ⟨I',ρ',w',A',Pr'⟩:=
  {I := hI
   im:=fun b hb=>k.block b (h.lt b hb)
   pr:=hP
   ver:=fun i v hv=>⟨v,hver i v hv,Nat.le_refl _,fun hp _=>by
    obtain⟨bk,he,_⟩:=C1 hv
    exact⟨hρ i hp,hbs _ (h.lt_of hp he)⟩⟩
   os:=k.os,tape:=k.tape,output:=k.output,size:=k.size
   keep:=fun b hb _=>k.block b hb
   old:=fun i hp ho hl=>by
    by_cases hc:c.Pr i
    ·exact⟨hc,hown i hc ho,hρ i hc⟩
    ·obtain ⟨b', hb, hro⟩ := ho
     have:=(hnew i b' hp hc hb).1
     have hl':ρ' i<c.w.heap.size:=hl
     omega
   imm:=fun b hb=>by
    rcases hIo b hb with h1 | h1 | ⟨i,h1,h2,h3,_⟩
    ·exact .inl h1
    ·exact .inr (.inl h1)
    ·exact .inr (.inr ⟨i,h1,h2,h3⟩) }
 refine⟨fr,?_,?_,hI'⟩
 ·intro i b' hp hb
  by_cases hc:c.Pr i
  ·have e1 : ρ' i = c.ρ i := hρ i hc
   rcases hA i hc b' hb with h1 | ⟨cs,v,h1,rfl,h2⟩
   ·obtain ⟨o, g1, g2, g3, g4⟩ := h.blk i b' hc h1
    refine⟨o,?_,g2.mono fr.toExt,fun hro=> ?_,fun hro hI2=> ?_⟩
    ·show w'.heap[ρ' i]? = _
     rw[e1,k.block _ (h.lt_of hc h1)];exact g1
    ·show I' (ρ' i)
     rw[e1];exact hI _ (g3 hro)
    ·have hI2 : I' (ρ' i) := hI2
     rw[e1] at hI2
     rcases hIo _ hI2 with h5 | h5 | ⟨j,h5,h6,h7,h8⟩
     ·exact g4 hro h5
     ·have:=h.lt_of hc h1;omega
     ·have : j = i := h.inj j i h5 hc h6 ⟨b', h1, hro⟩ h7
      subst this
      have:=h8 b' hb
      rw[hro] at this;simp at this
   ·obtain ⟨o, g1, g2, g3, g4⟩ := h.blk i _ hc h1
    refine⟨o,?_,Aq.mono fr.toExt g2,fun _=> ?_,by simp[Blk.ro]⟩
    ·show w'.heap[ρ' i]? = _
     rw[e1,k.block _ (h.lt_of hc h1)];exact g1
    ·show I' (ρ' i)
     rw[e1];exact h2
  ·obtain ⟨h1, h2, h3, o, h4, h5⟩ := hnew i b' hp hc hb
   exact⟨o,h4,h5 _ rfl rfl,by simp[h3],fun _=>h2⟩
 ·intro i j hi hj oi oj hij
  have hij:ρ' i=ρ' j:=hij
  by_cases ci:c.Pr i<;>by_cases cj:c.Pr j
  ·exact h.inj i j ci cj (hown i ci oi) (hown j cj oj) (by rw[<-hρ i ci,<-hρ j cj];exact hij)
  ·obtain ⟨b', hb, hro⟩ := oj
   have h1:=(hnew j b' hj cj hb).1
   have h2:=h.rho_lt ci (hown i ci oi)
   rw[hρ i ci] at hij
   omega
  ·obtain ⟨b', hb, hro⟩ := oi
   have h1:=(hnew i b' hi ci hb).1
   have h2:=h.rho_lt cj (hown j cj oj)
   rw[hρ j cj] at hij
   omega
  ·exact hinj i j hi hj ci cj oi oj hij
def MN (I:Nat->Prop)(w:World)(x:AV)(Ac:List Blk)(e:Ending)(w':World):Prop:=
 ∃ X c1,e=.returned X/\c1.w=w'/\Kept w w'/\Rel c1/\c1.A=Ac/\VR c1 x X/\(∀ b,I b->c1.I b)/\(∀ b,c1.I b->I b∨w.heap.size<=b)/\∀ i,c1.Pr i->YG c1.A i->w.heap.size<=c1.ρ i
structure Handed (c1:Cx) (bs:List Blk) (us:List Nat):Prop where
 len:bs.length=us.length
 nodup:us.Nodup
 at_:∀(k i:Nat),us[k]? =some i->c1.Pr i/\∃(cs:List DV) (v:Nat),bs[k]? =some (Blk.cells (cs.map AV.d) 0 false)/\c1.A[i]? =some (Blk.cells (cs.map AV.d) v false)
structure Good (c1:Cx) (nb:Nat) (us:List Nat) (c':Cx):Prop where
 w:c'.w=c1.w
 I:∀ b,c1.I b->c'.I b
 at_:∀(k i:Nat),us[k]? =some i->c'.Pr (nb+k)/\Zk c'.A (nb+k)=some 0/\c'.ρ (nb+k)=c1.ρ i
theorem Good.pre {c1 c':Cx}{nb:Nat}{us us':List Nat}(h:Good c1 nb us' c')(hp:us<+:us'):Good c1 nb us c':=
 ⟨h.w, h.I, fun k i hk => h.at_ k i (by
  obtain⟨t,rfl⟩:=hp
  rw[List.getElem?_append_left]
  ·exact hk
  ·rcases Nat.lt_or_ge k us.length with h' | h'
   ·exact h'
   ·simp[List.getElem?_eq_none h'] at hk)⟩
theorem Z2l {n:Nat}:∀ {l:List Nat},ZW n l=false->n ∉ l
 | [],_=>by simp
 | m::l,h=>by
  unfold ZW at h
  split at h
  ·simp at h
  ·rename_i hne
   have:n≠m:=fun e=>hne (by subst e;simp)
   simp[this,Z2l h]
theorem Zja {cs:List AV}(h:cs.all (fun x=>match x with | .d _=>true | _=>false)=true):∃ ds:List DV,cs=ds.map AV.d:=by
 induction cs with
 | nil=>exact⟨[],rfl⟩
 | cons x cs ih=>
  simp only[List.all_cons,Bool.and_eq_true] at h
  obtain⟨ds,rfl⟩:=ih h.2
  cases x with
  | d x=>exact⟨x::ds,rfl⟩
  | _=>simp at h
theorem VE {c1:Cx}{nb:Nat}{f:AV->List Blk->List Nat->Option (AV×List Blk×List Nat)}
  (hf:∀ x X bs us y bs' us',VR c1 x X->Handed c1 bs us->f x bs us=some (y,bs',us')->Handed c1 bs' us'/\us<+:us'/\∀ c',Good c1 nb us' c'->VR c' y X):
  ∀ {xs:List AV} {Xs:List Value} {bs:List Blk} {us:List Nat} {ys:List AV} {bs':List Blk} {us':List Nat},VRs c1 xs Xs->Handed c1 bs us->FX f xs bs us=some (ys,bs',us')->
   Handed c1 bs' us'/\us<+:us'/\∀ c',Good c1 nb us' c'->VRs c' ys Xs
 | [],_,bs,us,ys,bs',us',.nil,hi,h=>by
  simp[FX] at h
  obtain⟨rfl,rfl,rfl⟩:=h
  exact⟨hi,List.prefix_refl _,fun _ _=>.nil⟩
 | x::xs,_,bs,us,ys,bs',us',.cons hx hxs,hi,h=>by
  simp only[FX] at h
  cases h1:f x bs us with
  | none=>simp[h1] at h
  | some p=>
   obtain⟨y,b1,u1⟩:=p
   cases h2:FX f xs b1 u1 with
   | none=>simp[h1,h2] at h
   | some q=>
    obtain⟨l,b2,u2⟩:=q
    simp[h1,h2] at h
    obtain⟨rfl,rfl,rfl⟩:=h
    obtain⟨i1,p1,g1⟩:=hf _ _ _ _ _ _ _ hx hi h1
    obtain⟨i2,p2,g2⟩:=VE hf hxs i1 h2
    exact⟨i2,p1.trans p2,fun c' hg=>.cons (g1 c' (hg.pre p2)) (g2 c' hg)⟩
theorem Uw {c1:Cx}{nb:Nat}:∀(n:Nat) (x:AV) (X:Value) (bs:List Blk) (us:List Nat) (y:AV) (bs':List Blk) (us':List Nat),VR c1 x X->Handed c1 bs us->CE c1.A nb n x bs us=some (y,bs',us')->
  Handed c1 bs' us'/\us<+:us'/\∀ c',Good c1 nb us' c'->VR c' y X:=by
 intro n
 induction n with
 | zero=>intro x X bs us y bs' us' _ _ h;simp[CE] at h
 | succ n ih=>
  intro x X bs us y bs' us' hx hi h
  unfold CE at h
  split at h
  ·simp at h
   obtain⟨rfl,rfl,rfl⟩:=h
   cases hx with
   | d hx=>
    exact⟨hi,List.prefix_refl _,fun c' hg=>.d (hx.mono hg.I fun b _=>by rw[hg.w])⟩
  ·cases hm : FX (CE c1.A nb n) ‹List AV› bs us with
   | none=>simp[hm] at h
   | some p=>
    obtain⟨l,b1,u1⟩:=p
    simp[hm] at h
    obtain⟨rfl,rfl,rfl⟩:=h
    obtain⟨Xs,rfl,hv⟩:=hx.agg_inv
    obtain⟨i1,p1,g1⟩:=VE ih hv hi hm
    exact⟨i1,p1,fun c' hg=>.agg (g1 c' hg)⟩
  ·cases hm : FX (CE c1.A nb n) ‹List AV› bs us with
   | none=>simp[hm] at h
   | some p=>
    obtain⟨l,b1,u1⟩:=p
    simp[hm] at h
    obtain⟨rfl,rfl,rfl⟩:=h
    obtain⟨Xs,rfl,hv⟩:=hx.tup_inv
    obtain⟨i1,p1,g1⟩:=VE ih hv hi hm
    exact⟨i1,p1,fun c' hg=>.tup (g1 c' hg)⟩
  ·rename_i i ver off len sz k
   split at h
   ·rename_i cs v hA
    split at h
    ·rename_i hc
     obtain⟨rfl,h2,h3⟩:=hc
     simp at h
     obtain⟨rfl,rfl,rfl⟩:=h
     obtain⟨ds,rfl⟩:=Zja h3
     obtain⟨cap,rfl,hp,hl,hk,hs,hn⟩:=hx.sref_inv (KS (Fv hA))
     have hlen:=hi.len
     have hni:=Z2l h2
     refine⟨⟨by simp[hlen],?_,?_⟩,List.prefix_append _ _,fun c' hg=> ?_⟩
     ·rw [List.nodup_append]
      exact⟨hi.nodup,by simp,fun a ha b hb=>by simp at hb;subst hb;exact fun e=>hni (e ▸ ha)⟩
     ·intro j q hj
      rw[List.getElem?_append] at hj
      split at hj
      ·obtain ⟨g1, cs, v', g2, g3⟩ := hi.at_ j q hj
       refine⟨g1,cs,v',?_,g3⟩
       rw[List.getElem?_append_left (by omega)];exact g2
      ·rename_i hge
       have:j=us.length:=by
        rcases Nat.lt_or_ge (j-us.length) 1 with h' | h'
        ·omega
        ·rw[List.getElem?_eq_none (by simpa using h')] at hj;simp at hj
       subst this
       simp at hj
       subst hj
       exact⟨hp,ds,v,by rw[<-hlen];simp,hA⟩
     ·obtain ⟨g1, g2, g3⟩ := hg.at_ us.length i (by simp)
      rw[<-hlen] at g1 g2 g3
      rw[<-g3]
      rw[<-g3,<-hg.w] at hs hn
      exact .sref g1 g2 hl hk hs hn
    ·simp at h
   ·simp at h
  ·simp at h
theorem Zgd:∀(n:Nat) {c c':Cx} {x:AV} {X:Value},CK n x=true->c'.w=c.w->c'.A=c.A->c'.ρ=c.ρ->(∀ i,c.Pr i->c'.Pr i)->VR c x X->VR c' x X:=by
 intro n
 induction n with
 | zero=>intro c c' x X h;simp[CK] at h
 | succ n ih=>
  intro c c' x X h hw hA hρ hP hx
  have all:∀ {cs:List AV} {Xs:List Value},cs.all (CK n)=true->VRs c cs Xs->VRs c' cs Xs:=by
   intro cs
   induction cs with
   | nil=>intro Xs _ hx;cases hx;exact .nil
   | cons x cs ihc=>
    intro Xs h hx
    cases hx with
    | cons hx hs=>
     simp at h
     exact .cons (ih h.1 hw hA hρ hP hx) (ihc (by simpa using h.2) hs)
  cases hx with
  | bot=>exact .bot
  | d hx=>exact .d (W0 n (by simpa [CK] using h) hx)
  | agg hx=>exact .agg (all (by simpa [CK] using h) hx)
  | tup hx=>exact .tup (all (by simpa [CK] using h) hx)
  | ref hp hv=>simp[CK] at h
  | refS hv hl=>simp[CK] at h
  | sref hp hv hl hk hs hn=>
   rw[<-hρ]
   rw[<-hρ,<-hw] at hs hn
   exact .sref (hP _ hp) (by rw[hA];exact hv) hl hk hs hn
  | srefS hv hl hc hk=>exact .srefS (by rw[hA];exact hv) hl hc hk
  | fn=>simp[CK] at h
  | ifc=>simp[CK] at h
def Blk.freeze:Blk->Blk
 | .cells cs v _=>.cells cs v true
 | b=>b
theorem S8:∀(us:List Nat) (A:List Blk) (i:Nat),(Yv A us)[i]? =if i ∈ us then(A[i]?).map Blk.freeze else A[i]?
 | [],A,i=>by simp[Yv]
 | j::us,A,i=>by
  unfold Yv
  split
  ·rename_i cs v ro hj
   rw[S8 us]
   have hlt:j<A.length:=by
    rcases Nat.lt_or_ge j A.length with h' | h'
    ·exact h'
    ·simp[List.getElem?_eq_none h'] at hj
   by_cases hij:i=j
   ·subst hij
    have h1:(A.set i (.cells cs v true))[i]? =some (.cells cs v true):=by simp[hlt]
    rw[h1,hj]
    split<;>simp[Blk.freeze]
   ·have : (A.set j (.cells cs v true))[i]? = A[i]? := by rw [List.getElem?_set_ne (fun e => hij e.symm)]
    simp[this,hij]
  ·rename_i hj
   rw[S8 us]
   by_cases hij:i=j
   ·subst hij
    have:(A[i]?).map Blk.freeze=A[i]? :=by
     cases hq:A[i]? with
     | none=>rfl
     | some b=>cases b with
      | cells cs v ro=>exact absurd hq (hj cs v ro)
      | _=>rfl
    by_cases hm:i ∈ us<;>simp[hm,this]
   ·simp[hij]
theorem CX:∀(us:List Nat) (A:List Blk),(Yv A us).length=A.length
 | [],A=>rfl
 | j::us,A=>by
  unfold Yv
  split
  ·rw[CX us];simp
  ·rw[CX us]
def IA (c c1:Cx)(us used:List Nat)(ro:Bool):Nat->Prop:=fun b=>
 c.I b∨(c.w.heap.size<=b/\b<c1.w.heap.size/\∀ q,q ∈ us->c1.ρ q≠b)∨(ro=true/\∃ i,i ∈ used/\c.Pr i/\(∃ cs v,c.A[i]? =some (.cells cs v false))/\c.ρ i=b)
open Classical in
noncomputable def rhoA (c c1:Cx) (nb:Nat) (us:List Nat):Nat->Nat:=fun i=>if c.Pr i then c.ρ i else c1.ρ (us.getD (i-nb) 0)
theorem NY {c c1:Cx}(hr:Rel c)(hr1:Rel c1){used us:List Nat}{bs:List Blk}{nb:Nat}{ro:Bool}(k:Kept c.w c1.w)(hI:∀ b,IU c used b->c1.I b)(hI2:∀ b,c1.I b->IU c used b∨c.w.heap.size<=b)
  (hown:∀ i,c1.Pr i->YG c1.A i->c.w.heap.size<=c1.ρ i) (hh:Handed c1 bs us) (hro:ro=true∨used=[]∨K6 bs=true) {A':List Blk} (hver:∀ i v,Zk c.A i=some v->Zk A' i=some v)
  (hA:∀ i,c.Pr i->A'[i]? =if ro=true/\i ∈ used then(c.A[i]?).map Blk.freeze else c.A[i]?) (hnew:∀ j,j<bs.length->A'[nb+j]? =bs[j]? /\¬c.Pr (nb+j)):
  let c':Cx:=⟨IA c c1 us used ro,rhoA c c1 nb us,c1.w,A',fun i=>c.Pr i∨(nb<=i/\i<nb+bs.length)⟩
  Fr c c'/\Rel c'/\(∀ b,c1.I b->IA c c1 us used true b)/\(ro=true∨used=[]->∀ b,c1.I b->IA c c1 us used ro b)/\
   ∀(j i:Nat),us[j]? =some i->c'.Pr (nb+j)/\Zk A' (nb+j)=some 0/\c'.ρ (nb+j)=c1.ρ i:=by
 intro c'
 have hus:∀ q,q ∈ us->c1.Pr q/\YG c1.A q:=by
  intro q hq
  obtain⟨j,hj⟩:=List.getElem?_of_mem hq
  obtain⟨g1,cs,v,_,g3⟩:=hh.at_ j q hj
  exact⟨g1,_,g3,rfl⟩
 have sub:∀ b,c1.I b->IA c c1 us used true b:=by
  intro b hb
  rcases hI2 b hb with h1 | h1
  ·rcases h1 with h1 | ⟨i, g1, g2, g3, cs, v, r, g4⟩
   ·exact .inl h1
   ·obtain ⟨_, _, _, g5, _⟩ := hr.blk i _ g2 g4
    cases r with
    | true=>exact .inl (g3 ▸ g5 rfl)
    | false=>exact .inr (.inr ⟨rfl,i,g1,g2,⟨cs,v,g4⟩,g3⟩)
  ·refine .inr (.inl ⟨h1, hr1.lt b hb, fun q hq e => ?_⟩)
   obtain⟨g1,bk,g2,g3⟩:=hus q hq
   obtain⟨_,_,_,_,g4⟩:=hr1.blk q bk g1 g2
   exact g4 g3 (e ▸ hb)
 have sub2:ro=true∨used=[]->∀ b,c1.I b->IA c c1 us used ro b:=by
  intro h b hb
  rcases h with rfl | rfl
  ·exact sub b hb
  ·rcases sub b hb with h1 | h1 | ⟨_, i, h1, _⟩
   ·exact .inl h1
   ·exact .inr (.inl h1)
   ·simp at h1
 have hrho:∀ i,c.Pr i->rhoA c c1 nb us i=c.ρ i:=fun i hi=>by simp[rhoA,hi]
 have hrho2:∀(j i:Nat),us[j]? =some i->rhoA c c1 nb us (nb+j)=c1.ρ i:=by
  intro j i hj
  have hlt:j<bs.length:=by
   rw[hh.len]
   rcases Nat.lt_or_ge j us.length with h' | h'
   ·exact h'
   ·simp[List.getElem?_eq_none h'] at hj
  simp[rhoA,(hnew j hlt).2,List.getD,hj]
 have hat:∀ i,¬c.Pr i->(nb<=i/\i<nb+bs.length)->∃ j q,i=nb+j/\us[j]? =some q/\j<bs.length:=by
  intro i _ hi
  have hlt:i-nb<us.length:=by rw[<-hh.len];omega
  exact⟨i-nb,us[i-nb],by omega,by simp[hlt],by omega⟩
 obtain⟨fr,rel⟩:=hr.after (I':=IA c c1 us used ro) (A':=A') (ρ':=rhoA c c1 nb us) (Pr':=fun i=>c.Pr i∨(nb<=i/\i<nb+bs.length)) k
  (fun b h=>.inl h)
  (fun b h => by
   rcases h with h | ⟨_,h,_⟩ | ⟨_,i,_,h1,⟨cs,v,h2⟩,rfl⟩
   ·exact Nat.lt_of_lt_of_le (hr.lt b h) k.size
   ·exact h
   ·exact Nat.lt_of_lt_of_le (hr.lt_of h1 h2) k.size)
  (fun b h => by
   rcases h with h | ⟨h,_⟩ | ⟨hro',i,h0,h1,⟨cs,v,h2⟩,h3⟩
   ·exact .inl h
   ·exact .inr (.inl h)
   ·refine .inr (.inr ⟨i, h1, ⟨_, h2, rfl⟩, h3, fun bk hbk => ?_⟩)
    rw[hA i h1,if_pos ⟨hro',h0⟩,h2] at hbk
    simp at hbk
    subst hbk
    rfl)
  (fun i h=>.inl h) hrho hver
  (fun i hp b' hb => by
   rw[hA i hp] at hb
   split at hb
   ·rename_i hc
    cases hq:c.A[i]? with
    | none=>simp[hq] at hb
    | some b0=>
     simp[hq] at hb
     subst hb
     cases b0 with
     | cells cs v r=>
      cases r with
      | true=>exact .inl rfl
      | false=>exact .inr ⟨cs,v,rfl,rfl,.inr (.inr ⟨hc.1,i,hc.2,hp,⟨cs,v,hq⟩,rfl⟩)⟩
     | iter s p=>exact .inl rfl
     | free=>exact .inl rfl
   ·exact .inl hb)
  (fun i b' hp hn hb => by
   rcases hp with hp | hp
   ·exact absurd hp hn
   ·obtain ⟨j, q, rfl, hj, hjl⟩ := hat i hn hp
    obtain⟨g1,cs,v,g2,g3⟩:=hh.at_ j q hj
    rw[(hnew j hjl).1,g2] at hb
    simp at hb
    subst hb
    obtain⟨o,f1,f2,f3,f4⟩:=hr1.blk q _ g1 g3
    have hge:=hown q g1 ⟨_,g3,rfl⟩
    rw[hrho2 j q hj]
    refine⟨hge,?_,rfl,o,f1,fun c2 hw hI2=> ?_⟩
    ·rintro (h | ⟨_, _, h⟩ | ⟨_, i', _, h1, ⟨cs', v', h2⟩, h3⟩)
     ·have:=hr.lt _ h;omega
     ·exact h q (List.mem_of_getElem? hj) rfl
     ·have:=hr.lt_of h1 h2;omega
    ·obtain ⟨C, e, rfl, f5, f6, f9⟩ := f2
     refine⟨C,e,rfl,f5,?_⟩
     have f7:=f6.toD
     rw[List.length_map] at f7
     have f8:DRs c2.I c2.w cs (C.toList.take cs.length):=by
      rcases hro with h | h | h
      ·exact f7.mono (fun b hb=>by rw[hI2];exact sub2 (.inl h) b hb) (fun b _=>by rw[hw])
      ·exact f7.mono (fun b hb=>by rw[hI2];exact sub2 (.inr h) b hb) (fun b _=>by rw[hw])
      ·refine Tv (n := 6) (fun h hd => W0 6 h hd) ?_ f7
       have:=List.mem_of_getElem? g2
       simp only[K6,List.all_eq_true] at h
       have h':=h _ this
       simpa [List.all_map] using h'
     have:=VRs.ofD (c:=c2) f8
     exact⟨by simpa using this,f9⟩)
  (fun i j hi hj hni hnj oi oj hij => by
   rcases hi with hi | hi
   ·exact absurd hi hni
   rcases hj with hj | hj
   ·exact absurd hj hnj
   obtain⟨ji,qi,rfl,e1,_⟩:=hat i hni hi
   obtain⟨jj,qj,rfl,e2,_⟩:=hat j hnj hj
   rw[hrho2 _ _ e1,hrho2 _ _ e2] at hij
   obtain⟨p1,o1⟩:=hus qi (List.mem_of_getElem? e1)
   obtain⟨p2,o2⟩:=hus qj (List.mem_of_getElem? e2)
   have:=hr1.inj qi qj p1 p2 o1 o2 hij
   subst this
   have l1:ji<us.length:=by
    rcases Nat.lt_or_ge ji us.length with h' | h'
    ·exact h'
    ·simp[List.getElem?_eq_none h'] at e1
   have:ji=jj:=(List.getElem?_inj l1 hh.nodup).1 (e1.trans e2.symm)
   omega)
 refine⟨fr,rel,sub,sub2,fun j i hj=> ?_⟩
 have hlt:j<bs.length:=by
  rw[hh.len]
  rcases Nat.lt_or_ge j us.length with h' | h'
  ·exact h'
  ·simp[List.getElem?_eq_none h'] at hj
 obtain⟨_,cs,v,g2,_⟩:=hh.at_ j i hj
 exact⟨.inr ⟨by omega,by omega⟩,by simp[Zk,(hnew j hlt).1,g2,Blk.ver],hrho2 j i hj⟩
theorem Z3f {l:List Nat}:CJ l=true↔l=[]:=by cases l<;>simp[CJ]
def Zjf (c:Cx)(x:AV)(Anew:List Blk)(nb n:Nat)(e:Ending)(w':World):Prop:=
 ∃ X c',e=.returned X/\c'.w=w'/\Fr c c'/\Rel c'/\VR c' x X/\c'.A=Anew/\c'.Pr=fun i=>c.Pr i∨(nb<=i/\i<nb+n)
def B9 (c:Cx)(x:AV)(A1:List Blk)(e:Ending)(w':World):Prop:=
 ∃ X c',e=.returned X/\c'.w=w'/\Fr c c'/\Rel c'/\VR c' x X/\c'.A=A1/\∀ i,c'.Pr i↔i<A1.length
def Zjg (P:Program)(c:Cx)(f:FuncId)(args:Array Value)(nb:Nat)(x:AV)(bs:List Blk):Prop:=
 ∀ Anew,(∀ i,c.Pr i->Anew[i]? =c.A[i]?)->(∀ i v,Zk c.A i=some v->Zk Anew i=some v)->(∀ j,j<bs.length->Anew[nb+j]? =bs[j]? /\¬c.Pr (nb+j))->
  Calls P f args c.w (Zjf c x Anew nb bs.length)
def Zje (P:Program)(c:Cx)(f:FuncId)(args:Array Value)(A:List Blk)(nb:Nat)(x:AV)(A1:List Blk):Prop:=
 c.A=A->nb=A.length->(∀ i,c.Pr i↔i<A.length)->Calls P f args c.w (B9 c x A1)
structure CallsOk (P:Program) (E:Env) (call:cT):Prop where
 raw:∀ f ds x Ac,Jz E call f ds=some (x,Ac)->∀(I:Nat->Prop) (w:World) (args:Array Value),(∀ b,I b->b<w.heap.size)->Gl I w->DRs I w ds args.toList->Calls P f args w (MN I w x Ac)
 br:∀ f args A x A',ZW f E.br=true->call f args A=some (x,A')->∀(c:Cx) (args':Array Value),Rel c->Gl c.I c.w->c.A=A->(∀ i,c.Pr i↔i<A.length)->VRs c args args'.toList->Calls P f args' c.w (B9 c x A')
theorem X2 {call:cT}{f:FuncId}{args:List AV}{A:List Blk}{ids:List Nat}{d:Done}(h:ME call f args A ids=some d):
  ∃ x B,call f (args.map (YA A 0 ids 8)) (ZV A 0 ids)=some (x,B)/\ids.length<=B.length/\DT (Y4 A ids) B=true/\
   d=.turned (Qj ids (Y4 A ids) A.length 8 x) (Bx ids (Y4 A ids) A.length A ids (Y4 A ids) B++(B.drop ids.length).map (Jk ids (Y4 A ids) A.length 0)):=by
 unfold ME at h
 cases hc:call f (args.map (YA A 0 ids 8)) (ZV A 0 ids) with
 | none=>simp[hc,H5] at h
 | some q=>
  obtain⟨x,B⟩:=q
  simp only[hc,H5] at h
  cases hb:(Nat.ble ids.length B.length&&DT (Y4 A ids) B) with
  | false=>simp[hb] at h
  | true=>
   simp only[hb,cond_true,Option.some.injEq] at h
   simp only[Bool.and_eq_true] at hb
   exact⟨x,B,rfl,Nat.le_of_ble_eq_true hb.1,hb.2,h.symm⟩
theorem Zir {P:Program}{E:Env}{call:cT}(hok:CallsOk P E call){f:FuncId}(hbr:ZW f E.br=true){c:Cx}(hr:Rel c)(hgl:Gl c.I c.w){args:List AV}{args':Array Value}(hP:∀ i,c.Pr i↔i<c.A.length)(hv:VRs c args args'.toList)
  {ids:List Nat} (hn:ids.Nodup) (hg:∀ i ∈ ids,0<=i/\i<c.A.length) {x:AV} {B:List Blk} (hc:call f (args.map (YA c.A 0 ids 8)) (ZV c.A 0 ids)=some (x,B)) (hl:ids.length<=B.length) (hb:DT (Y4 c.A ids) B=true):
  Calls P f args' c.w (B9 c (Qj ids (Y4 c.A ids) c.A.length 8 x) (Bx ids (Y4 c.A ids) c.A.length c.A ids (Y4 c.A ids) B++(B.drop ids.length).map (Jk ids (Y4 c.A ids) c.A.length 0))):=by
 have hg':∀ i ∈ ids,i<c.A.length:=fun i hi=>(hg i hi).2
 refine(hok.br f _ _ x B hbr hc (cxN c 0 ids) args' (Z66 hr hP hn hg) hgl rfl (fun i=>Iff.rfl) (Sw hg 8 hv)).mono ?_
 rintro e w' ⟨X,c2,rfl,rfl,fr,rel,hx,rfl,hp⟩
 have put:=Z1i hn hg' hl hb
 have H:PutH c ids c2 _:=⟨put,hn,hg',hp⟩
 obtain⟨rel3,fr3⟩:=Zhd H hr hP rel fr
 exact⟨X,JM c ids c2 _,rfl,rfl,fr3,rel3,XQ H 8 hx,rfl,fun i=>Iff.rfl⟩
theorem Z5l {P:Program}{E:Env}{call:cT}(hok:CallsOk P E call){c:Cx}(hr:Rel c)(hgl:Gl c.I c.w){A:List Blk}(hA:Agr c A){f:FuncId}{args:List AV}{args':Array Value}{nb:Nat}{d:Done}(hv:VRs c args args'.toList)
  (h:DS E call f args A nb=some d):(∃ x bs,d=.made x bs/\Zjg P c f args' nb x bs)∨∃ x A1,d=.turned x A1/\Zje P c f args' A nb x A1:=by
 unfold DS at h
 cases hbr:ZW f E.br with
 | true=>
  rw[hbr] at h
  simp only[cond_true] at h
  obtain⟨x,B,hc,hl,hb,rfl⟩:=X2 h
  refine .inr ⟨_,_,rfl,fun hcA _ hP=> ?_⟩
  subst hcA
  obtain⟨hn,hg⟩:=SC c.A 0 100000 (args.flatMap (YT 8))
  exact Zir hok hbr hr hgl hP hv hn hg hc hl hb
 | false=>
  rw[hbr] at h
  simp only[cond_false] at h
  cases hm:Y8 (deep A 8) args with
  | none=>simp[hm,MA] at h
  | some p=>
   obtain⟨ds,used⟩:=p
   simp only[hm,MA] at h
   cases hraw:Jz E call f (ds.map (Aug.fk 4)) with
   | none=>simp[hraw,G8] at h
   | some q=>
    obtain⟨x,Ac⟩:=q
    simp only[hraw,G8] at h
    have hd:=HY (fun x X r u=>TK hr hA 8 x X r u) hv hm
    have hlt:∀ b,IU c used b->b<c.w.heap.size:=by
     rintro b (hb | ⟨i,_,hp,rfl,cs,v,ro,hi⟩)
     ·exact hr.lt b hb
     ·exact hr.lt_of hp hi
    have hcall:=hok.raw f (ds.map (Aug.fk 4)) x Ac hraw (IU c used) c.w args' hlt (hgl.mono (fun _ h=>.inl h) fun _ _=>rfl) (DRs.fk 4 hd)
    have alen:∀ i,i<c.A.length->∀ bs:List Blk,(Yv c.A used++bs)[i]? =if i ∈ used then(c.A[i]?).map Blk.freeze else c.A[i]? :=by
     intro i hi bs
     rw[List.getElem?_append_left (by rw[CX];exact hi),S8]
    have vfr:∀ b:Blk,b.freeze.ver=b.ver:=by intro b;cases b<;>rfl
    have averS:∀(bs:List Blk) i v,Zk c.A i=some v->Zk (Yv c.A used++bs) i=some v:=by
     intro bs i v hv
     obtain⟨b,hb,hbv⟩:=C1 hv
     have hi:i<c.A.length:=by
      rcases Nat.lt_or_ge i c.A.length with h' | h'
      ·exact h'
      ·simp[List.getElem?_eq_none h'] at hb
     unfold Zk
     rw[alen i hi,hb]
     split<;>simp[vfr,hbv]
    cases hth:HG E f with
    | true=>
     rw[hth] at h
     simp only[cond_true] at h
     cases ht:CE Ac nb 6 x [] [] with
     | none=>simp[ht,GH] at h
     | some r=>
      obtain⟨y,bs,us⟩:=r
      simp only[ht,GH] at h
      cases hf:(CJ used || (CK 8 y&&K6 bs)) with
      | true=>
       rw[hf] at h
       simp at h
       refine .inl ⟨y,bs,h.symm,fun Anew h1 h2 h3=>hcall.mono ?_⟩
       rintro e w' ⟨X,c1,rfl,rfl,k,hr1,rfl,hx,g1,g2,g3⟩
       obtain⟨i1,_,gd⟩:=Uw (c1:=c1) (nb:=nb) 6 x X [] [] y bs us hx ⟨rfl,.nil,by simp⟩ ht
       have hfl:used=[]∨(CK 8 y=true/\K6 bs=true):=by
        simp only[Bool.or_eq_true,Bool.and_eq_true,Z3f] at hf
        exact hf
       obtain⟨fr,rel,s1,s2,s3⟩:=NY hr hr1 (ro:=false) k g1 g2 g3 i1 (by rcases hfl with h | h;exact .inr (.inl h);exact .inr (.inr h.2)) h2 (fun i hp=>by simpa using h1 i hp) h3
       refine⟨X,⟨IA c c1 us used false,rhoA c c1 nb us,c1.w,Anew,fun i=>c.Pr i∨(nb<=i/\i<nb+bs.length)⟩,rfl,rfl,fr,rel,?_,rfl,rfl⟩
       rcases hfl with h | ⟨h,_⟩
       ·exact gd _ ⟨rfl,s2 (.inr h),s3⟩
       ·have := gd ⟨IA c c1 us used true, rhoA c c1 nb us, c1.w, Anew, fun i => c.Pr i ∨ (nb <= i /\ i < nb + bs.length)⟩ ⟨rfl, s1, s3⟩
        refine Zgd 8 h ?_ ?_ ?_ ?_ this
        ·rfl
        ·rfl
        ·rfl
        ·exact fun _ h=>h
      | false=>
       rw[hf] at h
       simp at h
       refine .inr ⟨y,_,h.symm,fun hcA hnb hP=>hcall.mono ?_⟩
       subst hcA
       subst hnb
       rintro e w' ⟨X,c1,rfl,rfl,k,hr1,rfl,hx,g1,g2,g3⟩
       obtain⟨i1,_,gd⟩:=Uw (c1:=c1) (nb:=c.A.length) 6 x X [] [] y bs us hx ⟨rfl,.nil,by simp⟩ ht
       obtain⟨fr,rel,s1,s2,s3⟩:=NY hr hr1 (ro:=true) (A':=Yv c.A used++bs) (nb:=c.A.length) k g1 g2 g3 i1 (.inl rfl) (averS bs) (fun i hp=>by rw[alen i ((hP i).1 hp)];simp)
        (fun j hj=>⟨by rw[List.getElem?_append_right (by rw[CX];omega),CX];congr 1;omega,fun hp=>by have:=(hP _).1 hp;omega⟩)
       refine⟨X,⟨IA c c1 us used true,rhoA c c1 c.A.length us,c1.w,Yv c.A used++bs,fun i=>c.Pr i∨(c.A.length<=i/\i<c.A.length+bs.length)⟩,rfl,rfl,fr,rel,gd _ ⟨rfl,s1,s3⟩,rfl,fun i=> ?_⟩
       simp only[List.length_append,CX,hP i]
       omega
    | false=>
     rw[hth] at h
     simp only[cond_false] at h
     cases hdp:deep Ac 8 x with
     | none=>simp[hdp,GZ] at h
     | some r=>
      obtain⟨r,u2⟩:=r
      simp only[hdp,GZ] at h
      have hdr0:∀(c1:Cx) (X:Value),Rel c1->c1.A=Ac->VR c1 x X->DR (IU c1 u2) c1.w r X:=by
       intro c1 X hr1 hA1 hx
       subst hA1
       exact TK hr1 (Agr.refl c1) 8 x X r u2 hx hdp
      have hdr:∀(c1:Cx) (X:Value),Rel c1->c1.A=Ac->VR c1 x X->DR (IU c1 u2) c1.w (Aug.fk 4 r) X:=fun c1 X a b d=>(hdr0 c1 X a b d).fk 4
      have sub3:∀(c1:Cx),Rel c1->Kept c.w c1.w->(∀ b,IU c used b->c1.I b)->(∀ b,c1.I b->IU c used b∨c.w.heap.size<=b)->(∀ i,c1.Pr i->YG c1.A i->c.w.heap.size<=c1.ρ i)->
        ∀(ro:Bool),((∀ b,c1.I b->IA c c1 [] used ro b))->∀ b,IU c1 u2 b->IA c c1 [] used ro b:=by
       intro c1 hr1 _ _ _ g3 ro hs b hb
       rcases hb with hb | ⟨i,_,hp,rfl,cs,v,r0,hi⟩
       ·exact hs b hb
       ·cases r0 with
        | true=>
         obtain⟨_,_,_,g5,_⟩:=hr1.blk i _ hp hi
         exact hs _ (g5 rfl)
        | false=>exact .inr (.inl ⟨g3 i hp ⟨_,hi,rfl⟩,hr1.lt_of hp hi,by simp⟩)
      cases hf:(CJ used || r.flat 8) with
      | true=>
       rw[hf] at h
       simp at h
       refine .inl ⟨_,[],h.symm,fun Anew h1 h2 h3=>hcall.mono ?_⟩
       rintro e w' ⟨X,c1,rfl,rfl,k,hr1,hA1,hx,g1,g2,g3⟩
       have hfl:used=[]∨r.flat 8=true:=by
        simp only[Bool.or_eq_true,Z3f] at hf
        exact hf
       obtain⟨fr,rel,s1,s2,s3⟩:=NY hr hr1 (ro:=false) (us:=[]) (bs:=[]) (nb:=nb) (used:=used) k g1 g2 g3 ⟨rfl,.nil,by simp⟩ (.inr (.inr rfl)) h2 (fun i hp=>by simpa using h1 i hp) (by simp)
       refine⟨X,⟨IA c c1 [] used false,rhoA c c1 nb [],c1.w,Anew,fun i=>c.Pr i∨(nb<=i/\i<nb+([]:List Blk).length)⟩,rfl,rfl,fr,rel,.d ?_,rfl,rfl⟩
       rcases hfl with h | h
       ·exact(hdr c1 X hr1 hA1 hx).imm (sub3 c1 hr1 k g1 g2 g3 false (s2 (.inr h)))
       ·exact(W0 8 h (hdr0 c1 X hr1 hA1 hx)).fk 4
      | false=>
       rw[hf] at h
       simp at h
       refine .inr ⟨_,_,h.symm,fun hcA hnb hP=>hcall.mono ?_⟩
       subst hcA
       rintro e w' ⟨X,c1,rfl,rfl,k,hr1,hA1,hx,g1,g2,g3⟩
       have ave:=averS []
       rw[List.append_nil] at ave
       obtain⟨fr,rel,s1,s2,s3⟩:=NY hr hr1 (ro:=true) (us:=[]) (bs:=[]) (nb:=nb) (used:=used) (A':=Yv c.A used) k g1 g2 g3 ⟨rfl,.nil,by simp⟩ (.inl rfl) ave
        (fun i hp=>by have:=alen i ((hP i).1 hp) [];rw[List.append_nil] at this;rw[this];simp) (by simp)
       refine⟨X,⟨IA c c1 [] used true,rhoA c c1 nb [],c1.w,Yv c.A used,fun i=>c.Pr i∨(nb<=i/\i<nb+([]:List Blk).length)⟩,rfl,rfl,fr,rel,.d ((hdr c1 X hr1 hA1 hx).imm (sub3 c1 hr1 k g1 g2 g3 true s1)),rfl,fun i=> ?_⟩
       simp only[CX,hP i,List.length_nil]
       omega
end Go.Aug
