import Derived.Test.YtmfdoekbjkgckaaGreatEvK
import Derived.Test.YtmfdoekbjkgckaaGreatEvBx
namespace Go.Aug
open Go
section
variable {P:Program} {ops:Array Oper} {as:List Nat} {fl:Nat} {ps:List (Nat×Nat)} {E:Env} {call:cT} {T:Nat->List AV} {H:Nat->List Blk}
theorem Sim.fresh (ht:Txt P ops fl ps E call T H){lo:Nat}{c0 c:Cx}{listed:Array Bool}{a:Act}{w:World}{tS:List AV}(hs:Sim ops T H lo c0 listed a w c tS){j:Nat}(hjs:j<ops.size)(hj:¬Ls listed j){i:Nat}(h1:(H j).length<=i)(h2:i<(H (j+1)).length):¬c.Pr i:=by
 intro hp
 rcases(hs.pr i).1 hp with h | ⟨k,hk,hkl,h3,h4⟩
 ·have:=ht.mono (Nat.zero_le j) (by omega);omega
 ·rcases Nat.lt_or_ge k j with h | h
  ·have:=ht.mono (i:=k+1) (j:=j) h (by omega);omega
  ·have : k ≠ j := fun e => hj (e ▸ hkl)
   have:=ht.mono (i:=j+1) (j:=k) (by omega) (by omega);omega
theorem Txt.turned (ht:Txt P ops fl ps E call T H){d b:Nat}{y:Oper}(hy:ops[d]? =some y)(h:C0 H d b):∃ s x,H4 P ops y=some s/\s.op E call (T d) (H d) (H d).length=some (.turned x (H (d+1))):=by
 obtain⟨s,hs1,hs⟩:=ht.step hy
 rcases hs with⟨_,_,h2⟩ | ⟨_,⟨x,bs,_,_,_,h2⟩ | ⟨_,_,x,h1,_⟩⟩
 ·exact absurd (by rw[h2]) h.2
 ·exact absurd (by rw[h2,List.getElem?_append_left h.1]) h.2
 ·exact⟨s,x,hs1,h1⟩
theorem Z3b {op:Op}{a:Operand}(h:ZH P op=.S a):∃ t z,op=.store t a z:=by
 cases op<;>simp only[ZH] at h<;>first | (simp at h;done) | (split at h<;>simp at h;done) | (split at h<;>first | (simp at h;done) | (split at h<;>simp at h;done)) | skip
 ·simp at h;subst h;exact⟨_,_,rfl⟩
theorem Z3c {op:Op}{a:Operand}(h:ZH P op=.L a):∃ t,op=.load t a:=by
 cases op<;>simp only[ZH] at h<;>first | (simp at h;done) | (split at h<;>simp at h;done) | (split at h<;>first | (simp at h;done) | (split at h<;>simp at h;done)) | skip
 ·simp at h;subst h;exact⟨_,rfl⟩
theorem Txt.bringsL (ht:Txt P ops fl ps E call T H){i b:Nat}{y:Oper}(hy:ops[i]? =some y)(h1:(H i).length<=b)(h2:b<(H (i+1)).length)(z:Operand):ZH P y.op≠ .L z:=by
 intro hk
 obtain⟨t,hld⟩:=Z3c hk
 obtain⟨s,hs1,hs⟩:=ht.step hy
 rcases hs with⟨_,_,h3⟩ | ⟨_,⟨x,bs,hd,_,_,h3⟩ | ⟨h3,_⟩⟩
 ·rw[h3] at h2;omega
 ·have hc := HQ (NQ hs1).1 hd
  rw[hld] at hc
  obtain⟨x',ag,n,hx,g1,g2,e⟩:=TV hc
  rw[e] at hd
  obtain⟨u,_,e2⟩:=one?_inv hd
  simp at e2
  obtain⟨rfl,rfl⟩:=e2
  rw[h3] at h2;simp at h2;omega
 ·rw[hk] at h3;simp[C8] at h3
theorem Txt.final (hc:Chk P ops as fl ps)(ht:Txt P ops fl ps E call T H){k:Nat}(hps:GW k ps=true){y:Oper}(hy:ops[k]? =some y){z:Operand}{q:Opd}(hz:z ∈ y.op.operands)(hq:Zx z=some q):look (T ops.size) q=look (T k) q:=by
 have hk:=E5 hy
 refine HZ hq fun t e=> ?_
 subst e
 have hr:t ∈ CZ ops y:=by
  simp only[CZ,List.mem_append]
  exact .inl (Nv (by simpa using hz))
 refine ht.slot (by omega) (Nat.le_refl _) fun i x h1 h2 hx hd=> ?_
 rcases Nat.lt_or_eq_of_le h1 with h | h
 ·have := (hc.late h hy hx hd hr).2
  rw[hps] at this
  cases this
 ·subst h
  have:x=y:=by rw[hy] at hx;exact(Option.some.inj hx).symm
  subst this
  have:=hc.self hy t hd hr
  rw[hps] at this
  cases this
theorem T3 {i j:Nat}:∀ {ps:List (Nat×Nat)},BT i j ps=true->GW i ps=true/\GW j ps=true
 | p::l,h=>by
  simp only[BT,Bool.or_eq_true,Bool.and_eq_true] at h
  simp only[GW,List.any_cons,Bool.or_eq_true]
  rcases h with⟨h1,h2⟩ | h
  ·exact⟨.inl (.inl h1),.inl (.inr h2)⟩
  ·exact⟨.inr (T3 h).1,.inr (T3 h).2⟩
theorem Sim.here {lo:Nat}{c0 c:Cx}{listed:Array Bool}{a:Act}{w:World}{tS:List AV}(hs:Sim ops T H lo c0 listed a w c tS){q:Opd}{z:Operand}(hq:Zx z=some q){i ver off:Nat}(h:look tS q=.ref i ver off):c.Pr i:=by
 have hv:=VR.look hs.tr hq
 rw[h] at hv
 generalize a.eval z=X at hv
 cases hv with
 | ref hp _=>exact hp
 | refS hv _=>exact Classical.byContradiction fun hp=>by rw[hs.abs i hp] at hv;simp at hv
theorem W4 {k:Kd}{i:Nat}(h:C8 fl i k=.any):(∃ a,k=.S a)∨(k=.X/\D8 fl i=false/\F1 fl i=false):=by
 cases k<;>simp[C8] at h
 ·refine .inr ⟨rfl, ?_⟩
  cases hT:F1 fl i<;>cases hM:D8 fl i<;>simp[hT,hM] at h ⊢
 ·exact .inl ⟨_,rfl⟩
theorem W3 {k:Kd}{i:Nat}(h:C8 fl i k=.tn):k=.X/\F1 fl i=true:=by
 cases k<;>simp[C8] at h
 refine⟨rfl,?_⟩
 cases hT:F1 fl i with
 | true=>rfl
 | false=>cases hM:D8 fl i<;>simp[hT,hM] at h
theorem Sim.step {F:Fence}{n:Nat}(hF:Wd F)(hok:CallsOk P E call)(hen:EntersOk P E call)(hc:Chk P ops as fl ps)(ht:Txt P ops fl ps E call T H){Q:Exit->Act->World->Prop}{lo:Nat}{c0 c:Cx}{listed:Array Bool}{a:Act}{w:World}{tS:List AV}
  (hs:Sim ops T H lo c0 listed a w c tS) (hcl:RS ops listed) (hsz:listed.size=ops.size) {j:Nat} (hr:j ∈ Region.ready .any ops listed):
  wpOpIn F n P ops Q j (fun a' w'=>∃ c' tS',Sim ops T H lo c0 (listed.setIfInBounds j true) a' w' c' tS') a w:=by
 obtain⟨hun,y,hy,hall⟩:=mem_ready.1 hr
 have hjs:=E5 hy
 have hj:¬Ls listed j:=by
  unfold Ls
  have:listed.getD j false=false:=by
   have hjl:j<listed.size:=by omega
   simp[hjl] at hun ⊢
   exact hun
  rw[this];simp
 have hanc:∀ i,CC as i j->Ls listed i:=fun i hi=>hc.anc hcl j hy hall i hi
 have iffO:∀ {d x},ops[d]? =some x->((d<j/\CC as d j)∨(j<d/\CC as j d))->(Ls listed d↔d<j):=by
  rintro d x hx (⟨h1,h2⟩ | ⟨h1,h2⟩)
  ·exact⟨fun _=>h1,fun _=>hanc d h2⟩
  ·exact⟨fun h=>absurd (hc.anc' hcl hx h h2) hj,fun h=>by omega⟩
 have hag:∀ t,t ∈ CZ ops y->ZM tS t=ZM (T j) t:=fun t hr=>hs.agree hc ht hcl hy hj hanc hr
 obtain⟨s,hs1,hst⟩:=ht.step hy
 obtain⟨g1,g2,g3⟩:=NQ hs1
 have hw:BP tS s.guard=BP (T j) s.guard:=Z96 g2 hag
 have hagO:∀ t,Operand.tmp t ∈ y.op.operands->ZM tS t=ZM (T j) t:=fun t h=>hag t (by simp only[CZ,List.mem_append];exact .inl (Nv (by simpa using h)))
 have hop:∀ nb,s.op E call tS (H j) nb=s.op E call (T j) (H j) nb:=fun nb=>by
  rcases g1 with g1 | g1
  ·exact Zd6 g1 hagO E call (H j) nb
  ·rw[g1];rfl
 have conj:∀ b,c.Pr b->b<(H j).length->(∀ d x,d≠j->ops[d]? =some x->C0 H d b->((d<j/\CC as d j)∨(j<d/\CC as j d)))->c.A[b]? =(H j)[b]? :=by
  intro b hp hb hd
  refine hs.con b j hp (by omega) hb fun d hds hto=> ?_
  by_cases hdj:d=j
  ·subst hdj;exact⟨fun h=>absurd h hj,fun h=>by omega⟩
  ·exact iffO (Q7 hds) (hd d _ hdj (Q7 hds) hto)
 obtain rfl:=hs.eqw
 unfold wpOpIn
 simp only[hy]
 rcases hst with⟨h1,h2,h3⟩ | ⟨h1,h2⟩
 ·rw [RZ hs.tr g2 (hw.trans h1)]
  simp only[Bool.false_eq_true,if_false]
  rw[g3] at h2
  refine⟨fun f _=>hF.fn f,?_⟩
  exact hs.made hc ht hy hsz hj h2 (bs:=[]) (by simpa using h3) (Fr.refl c) hs.rel VR.undef ⟨fun _ _=>rfl,fun _ _ h=>h,by simp,fun _ _ h=>h⟩ (fun i=>by simp;omega)
 ·rw [RZ hs.tr g2 (hw.trans h1)]
  simp only[if_true]
  rw[g3] at h2
  rcases h2 with⟨x,bs,hd,_,hx,hH⟩ | ⟨hfg,hlen,x,hd,hx⟩
  ·rw [<- hop] at hd
   have hl1:(H (j+1)).length=(H j).length+bs.length:=by rw[hH];simp
   have an:AnOk c (H j).length bs (PG c.A (H j).length bs):=Zc4 hs.has (fun i h1 h2=>hs.fresh ht hjs hj h1 (by omega)) hs.abs
   refine Zd5 hF hok hen (HQ g1 hd) hs.rel hs.tr (fun hX=> ?_) (fun z hL q i ver off b hq hl hb=> ?_) hd an.old an.ver (fun k hk=>⟨an.new k hk,hs.fresh ht hjs hj (by omega) (by omega)⟩) ?_
   ·have key:∀ i b,c.Pr i->(H j)[i]? =some b->c.A[i]? =some b:=by
     intro i b hp hb
     rw[conj i hp (K5 hb) fun d x hne hx hto=> ?_]
     ·exact hb
     ·rcases hc.any hne hx hy (ht.touch hx hto) (by cases hk : ZH P y.op <;> simp [hk, Kd.isX] at hX; rfl) with h | h | ⟨_, h | ⟨b, h, _⟩⟩ | ⟨_, _, h, _⟩ | ⟨_, ⟨b, h⟩, _⟩
      ·exact .inl h
      ·exact .inr h
      ·rw[h] at hX;simp[Kd.isX] at hX
      ·rw[h] at hX;simp[Kd.isX] at hX
      ·rw[h] at hX;simp[Kd.isX] at hX
      ·rw[h] at hX;simp[Kd.isX] at hX
    refine⟨key,fun i v hv v' hv'=> ?_⟩
    have hp:c.Pr i:=Classical.byContradiction fun hp=>by rw[hs.abs i hp] at hv';simp at hv'
    obtain⟨b,hb,hbv⟩:=C1 hv
    have:=key i b hp hb
    simp[Zk,this,hbv] at hv'
    exact hv'.symm
   ·have hp := hs.here hq hl
    obtain⟨t,hld⟩:=Z3c hL
    have hzo:z ∈ y.op.operands:=by rw[hld];simp[Op.operands]
    rw[conj i hp (K5 hb) fun d x hne hx hto=> ?_]
    ·exact hb
    ·rcases hc.any hne hx hy (ht.touch hx hto) (by rw [hL]; rfl) with h | h | ⟨⟨z1, h1⟩, h | ⟨z2, h2, h3⟩⟩ | ⟨_, _, h, _⟩ | ⟨hkx, _, h3⟩
     ·exact .inl h
     ·exact .inr h
     ·rw[hL] at h;simp at h
     ·exfalso
      rw[hL] at h2
      simp at h2
      subst h2
      obtain⟨t1,v1,hst⟩:=Z3b h1
      obtain⟨s',x',hs',hd'⟩:=ht.turned hx hto
      obtain⟨q1,i1,ver1,off1,b0,blk,e1,e2,e3,e4,_⟩:=Z1x hst (HQ (NQ hs').1 hd') hd'
      simp at e3
      have hi1:i1=i:=Classical.byContradiction fun hne'=>hto.2 (by rw[e3.2,List.getElem?_set_ne hne'])
      subst hi1
      obtain⟨hps1,hps2⟩:=T3 h3
      obtain⟨p1,p2,a1,a2,a3⟩:=ht.apart h3 (by simp[EY,hx,h1,Kd.isX])
      have ha1:QP P ops d=some q1:=by simp[QP,hx,h1,e1]
      have ha2:QP P ops j=some q:=by simp[QP,hy,hL,hq]
      rw[ha1] at a1
      rw[ha2] at a2
      simp at a1 a2
      subst a1 a2
      rw[ht.final hc hps1 hx (z:=z1) (by rw[hst];simp[Op.operands]) e1,ht.final hc hps2 hy hzo hq,e2,<-HZ hq (fun t e=>hagO t (e ▸ hzo)),hl] at a3
      simp[FN] at a3
     ·rw[hL] at h;simp at h
     ·exfalso
      obtain⟨hps1,hps2⟩:=T3 h3
      obtain⟨b0,a2,a3⟩:=ht.keep h3 (by simp[EY,hx,hkx,Kd.isX])
      have ha2:QP P ops j=some q:=by simp[QP,hy,hL,hq]
      rw[ha2] at a2
      simp at a2
      subst a2
      rw[ht.final hc hps2 hy hzo hq,<-HZ hq (fun t e=>hagO t (e ▸ hzo)),hl] at a3
      exact hto.2 (Zf6 a3 hto.1)
   ·intro X c' fr rel hv hA hP
    exact hs.made hc ht hy hsz hj hx hH fr rel hv (by rw[hA];exact an) hP
  ·rw [<- hop] at hd
   have hls:∀ {i},Ls (listed.setIfInBounds j true) i↔(Ls listed i∨i=j):=fun {i}=>P2 (by omega)
   rcases hfg with hfg | hfg
   rotate_left
   ·
    obtain⟨hk,hfl⟩:=W3 hfg
    have tchK:∀ d x b,ops[d]? =some x->C0 H d b->(ZH P x.op).isP=false/\ZH P x.op≠ .M/\∀ z,ZH P x.op≠ .L z:=by
     intro d x b hx' hto
     rcases ht.touch hx' hto with h | h
     ·rcases W4 h with ⟨z, h⟩ | ⟨h, _⟩
      ·rw[h];exact⟨rfl,by simp,by simp⟩
      ·rw[h];exact⟨rfl,by simp,by simp⟩
     ·rw[(W3 h).1];exact⟨rfl,by simp,by simp⟩
    have ordX:∀ d x,ops[d]? =some x->(ZH P x.op).isP=false->(∀ z,ZH P x.op≠ .L z)->d≠j->(Ls listed d↔d<j)∨(ZH P x.op=.M/\j<d):=by
     intro d x hx' hnp hnl hne
     rcases hc.any (Ne.symm hne) hy hx' (.inr hfg) hnp with h | h | ⟨⟨z,h⟩,_⟩ | ⟨_,_,h1,h2⟩ | ⟨_,⟨z,h⟩,_⟩
     ·exact .inl (iffO hx' (.inr h))
     ·exact .inl (iffO hx' (.inl h))
     ·rw[hk] at h;simp at h
     ·exact .inr ⟨h1,h2⟩
     ·exact absurd h (hnl z)
    have ordT:∀ d x b,ops[d]? =some x->C0 H d b->d≠j->(Ls listed d↔d<j):=by
     intro d x b hx' hto hne
     rcases ordX d x hx' (tchK d x b hx' hto).1 (tchK d x b hx' hto).2.2 hne with h | ⟨h,_⟩
     ·exact h
     ·exact absurd h (tchK d x b hx' hto).2.1
    have prLt:∀ b,b<(H j).length->c.Pr b:=by
     intro b h
     rw[hs.pr]
     rcases ht.origin (by omega) h with h | ⟨k,h1,h3,h4⟩
     ·exact .inl h
     ·refine .inr ⟨k, by omega, ?_, h3, h4⟩
      rcases ordX k _ (Q7 (by omega)) (ht.brings (Q7 (by omega)) h3 h4) (ht.bringsL (Q7 (by omega)) h3 h4) (by omega) with h | ⟨_,h⟩
      ·exact h.2 h1
      ·omega
    have prGe:∀ b,c.Pr b->b<(H j).length∨(H (j+1)).length<=b:=by
     intro b hp
     rcases(hs.pr b).1 hp with h | ⟨k,h1,h2,h3,h4⟩
     ·have:=ht.mono (Nat.zero_le j) (by omega);exact .inl (by omega)
     ·have hkj : k ≠ j := fun e => hj (e ▸ h2)
      rcases Nat.lt_or_gt_of_ne hkj with h | h
      ·have:=ht.mono (i:=k+1) (j:=j) h (by omega);exact .inl (by omega)
      ·have:=ht.mono (i:=j+1) (j:=k) h (by omega);exact .inr (by omega)
    have hAj:∀ i,i<(H j).length->c.Pr i/\c.A[i]? =(H j)[i]? :=by
     intro b hb
     have hp:=prLt b hb
     refine⟨hp,hs.con b j hp (by omega) hb fun d h1 h2=> ?_⟩
     by_cases hdj:d=j
     ·subst hdj;exact⟨fun h=>absurd h hj,fun h=>by omega⟩
     ·exact ordT d _ b (Q7 h1) h2 hdj
    refine Zd4 hF hok hen (HQ g1 hd) hs.rel hs.tr hAj hs.has hs.abs (by rw[hk];rfl) hd (fun i h1 h2 hp=>by rcases prGe i hp with h | h<;>omega) ?_
    intro X c' fr rel hv hA' hP'
    have lo:∀ {i},i<(H (j+1)).length->c'.A[i]? =(H (j+1))[i]? :=fun h=>by rw[hA'];exact List.getElem?_append_left h
    have hi:∀ {i},(H (j+1)).length<=i->c'.A[i]? =c.A[i]? :=fun {i} h=>by
     rw[hA',List.getElem?_append_right h,List.getElem?_drop];congr 1;omega
    refine hs.next hc ht hy hsz hx fr rel hv (fun b=> ?_) (fun b hb=> ?_) (fun b hb=> ?_) (fun b t hb htn hbt hdd=> ?_) (fun d b hd1 hdl hto=> ?_)
    ·rw [hP', hs.pr]
     constructor
     ·rintro ((h | ⟨k, h1, h2, h3⟩) | h)
      ·exact .inl h
      ·exact .inr ⟨k,h1,hls.2 (.inl h2),h3⟩
      ·exact .inr ⟨j,hjs,hls.2 (.inr rfl),h.1,h.2⟩
     ·rintro (h | ⟨k, h1, h2, h3⟩)
      ·exact .inl (.inl h)
      ·rcases hls.1 h2 with h2 | rfl
       ·exact .inl (.inr ⟨k,h1,h2,h3⟩)
       ·exact .inr h3
    ·have h1 : ¬ c.Pr b := fun h => hb ((hP' b).2 (.inl h))
     have h2:(H (j+1)).length<=b:=by
      refine Nat.le_of_not_lt fun h=> ?_
      rcases Nat.lt_or_ge b (H j).length with h3 | h3
      ·exact h1 (prLt b h3)
      ·exact hb ((hP' b).2 (.inr ⟨h3,h⟩))
     rw[HE (hi h2)]
     exact hs.abs b h1
    ·rw [hA', List.length_append, List.length_drop]
     rcases(hP' b).1 hb with h | h
     ·have:=hs.has b h;omega
     ·omega
    ·by_cases hbj : b < (H (j + 1)).length
     ·rw [lo hbj]
      rcases Nat.lt_or_ge j t with h | h
      ·refine (ht.stay (i := j + 1) hbj h htn fun d h1 h2 hto => ?_).symm
       rcases hls.1 ((hdd d (by omega) hto).2 h2) with h' | h'
       ·have:=(ordT d _ b (Q7 (by omega)) hto (by omega)).1 h';omega
       ·omega
      ·refine ht.stay (i := t) hbt (by omega) (by omega) fun d h1 h2 hto => ?_
       have hdt:d<t:=(hdd d (by omega) hto).1 (hls.2 (by
        by_cases hdj:d=j
        ·exact .inr hdj
        ·exact .inl ((ordT d _ b (Q7 (by omega)) hto hdj).2 (by omega))))
       omega
     ·have hp:c.Pr b:=by
       rcases(hP' b).1 hb with h | h
       ·exact h
       ·omega
      rw[hi (by omega)]
      refine hs.con b t hp htn hbt fun d h1 h2=> ?_
      have hdj:d≠j:=by rintro rfl;have:=h2.1;omega
      rw[<-hdd d h1 h2,hls]
      constructor
      ·exact .inl
      ·rintro (h | h)
       ·exact h
       ·exact absurd h hdj
    ·rw [hP']
     rcases hls.1 hdl with h | rfl
     ·exact .inl (hs.tch d b hd1 h hto)
     ·exact .inl (prLt b hto.1)
   rcases W4 hfg with⟨z,hk⟩ | ⟨hk,hfl⟩
   ·
    obtain⟨t,v,hst⟩:=Z3b hk
    obtain⟨q,i,ver,off,b0,blk,e1,e2,e3,e4,e5,e6⟩:=Z1x hst (HQ g1 hd) hd
    simp at e3
    obtain⟨rfl,hH⟩:=e3
    have hp:=hs.here e1 e2
    have hbi:c.A[i]? =some b0:=by
     rw[conj i hp (K5 e4) fun d x hne hx' hto=> ?_]
     ·exact e4
     ·rcases hc.any hne hx' hy (ht.touch hx' hto) (by rw [hk]; rfl) with h | h | ⟨_, h | ⟨b, h, _⟩⟩ | ⟨_, _, h, _⟩ | ⟨_, ⟨b, h⟩, _⟩
      ·exact .inl h
      ·exact .inr h
      ·rw[hk] at h;simp at h
      ·rw[hk] at h;simp at h
      ·rw[hk] at h;simp at h
      ·rw[hk] at h;simp at h
    obtain⟨_,e6⟩:=e6 c a hs.rel hs.tr hbi
    refine e6 hF fun c' fr rel hA hP=> ?_
    have hl1:(H (j+1)).length=(H j).length:=by rw[hH];simp
    have noT:∀ b,b≠i->¬C0 H j b:=fun b hb h=>h.2 (by rw[hH,List.getElem?_set_ne (Ne.symm hb)])
    have nonP:∀ d x,ops[d]? =some x->C0 H d i->d≠j->(Ls listed d↔d<j):=by
     intro d x hx' hto hne
     rcases hc.any hne hx' hy (ht.touch hx' hto) (by rw[hk];rfl) with h | h | ⟨_,h | ⟨b,h,_⟩⟩ | ⟨_,_,h,_⟩ | ⟨_,⟨b,h⟩,_⟩
     ·exact iffO hx' (.inl h)
     ·exact iffO hx' (.inr h)
     ·rw[hk] at h;simp at h
     ·rw[hk] at h;simp at h
     ·rw[hk] at h;simp at h
     ·rw[hk] at h;simp at h
    refine hs.next hc ht hy hsz hx fr rel VR.undef (fun b=> ?_) (fun b hb=> ?_) (fun b hb=> ?_) (fun b t hb htn hbt hd=> ?_) (fun d b hd hdl hto=> ?_)
    ·rw [hP, hs.pr]
     constructor
     ·rintro (h | ⟨k, h1, h2, h3⟩)
      ·exact .inl h
      ·exact .inr ⟨k,h1,hls.2 (.inl h2),h3⟩
     ·rintro (h | ⟨k, h1, h2, h3⟩)
      ·exact .inl h
      ·rcases hls.1 h2 with h2 | rfl
       ·exact .inr ⟨k,h1,h2,h3⟩
       ·omega
    ·rw [hP] at hb
     have hbne:i≠b:=fun e=>hb (e ▸ hp)
     rw[hA,HE (List.getElem?_set_ne hbne)]
     exact hs.abs b hb
    ·rw [hP] at hb
     rw[hA];simp;exact hs.has b hb
    ·rw [hP] at hb
     by_cases hbi':b=i
     ·subst hbi'
      have hil:=hs.has b hb
      have hself:c'.A[b]? =(H (j+1))[b]? :=by
       rw[hA,hH,List.getElem?_set_self hil,List.getElem?_set_self (K5 e4)]
      by_cases hto:C0 H j b
      ·have hjt : j < t := (hd j hjs hto).1 (hls.2 (.inr rfl))
       rw[hself,ht.stay (i:=j+1) (by rw[hl1];exact K5 e4) hjt htn]
       intro d h1 h2 hto'
       rcases hls.1 ((hd d (by omega) hto').2 h2) with h | h
       ·have:=(nonP d _ (Q7 (by omega)) hto' (by omega)).1 h;omega
       ·omega
      ·have hsame : (H (j + 1))[b]? = (H j)[b]? := Classical.byContradiction fun he => hto ⟨K5 e4, he⟩
       rw[hself,hsame,<-(by rw[hbi,e4]:c.A[b]? =(H j)[b]?)]
       refine hs.con b t hb htn hbt fun d h1 h2=> ?_
       rw[<-hd d h1 h2,hls]
       constructor
       ·exact .inl
       ·rintro (h | rfl)
        ·exact h
        ·exact absurd h2 hto
     ·rw [hA, List.getElem?_set_ne (Ne.symm hbi')]
      refine hs.con b t hb htn hbt fun d h1 h2=> ?_
      rw[<-hd d h1 h2,hls]
      constructor
      ·exact .inl
      ·rintro (h | rfl)
       ·exact h
       ·exact absurd h2 (noT b hbi')
    ·rw [hP]
     rcases hls.1 hdl with h | rfl
     ·exact hs.tch d b hd h hto
     ·by_cases hbi' : b = i
      ·subst hbi';exact hp
      ·exact absurd hto (noT b hbi')
   ·
    have ordX:∀ d x,ops[d]? =some x->(ZH P x.op).isP=false->(∀ z,ZH P x.op≠ .L z)->d≠j->(Ls listed d↔d<j):=by
     intro d x hx' hnp hnl hne
     rcases hc.any (Ne.symm hne) hy hx' (.inl (by rw[hk];simp[C8,hfl.1,hfl.2])) hnp with h | h | ⟨⟨z,h⟩,_⟩ | ⟨_,h,_⟩ | ⟨_,⟨z,h⟩,_⟩
     ·exact iffO hx' (.inr h)
     ·exact iffO hx' (.inl h)
     ·rw[hk] at h;simp at h
     ·rw[hfl.2] at h;simp at h
     ·exact absurd h (hnl z)
    have tchP:∀ d x b,ops[d]? =some x->C0 H d b->(ZH P x.op).isP=false/\∀ z,ZH P x.op≠ .L z:=by
     intro d x b hx' hto
     rcases ht.touch hx' hto with h | h
     ·rcases W4 h with ⟨z, h⟩ | ⟨h, _⟩
      ·rw[h];exact⟨rfl,by simp⟩
      ·rw[h];exact⟨rfl,by simp⟩
     ·rw[(W3 h).1];exact⟨rfl,by simp⟩
    have hprj:∀ b,c.Pr b↔b<(H j).length:=by
     intro b
     rw[hs.pr]
     constructor
     ·rintro (h | ⟨k, h1, h2, h3, h4⟩)
      ·have:=ht.mono (Nat.zero_le j) (by omega);omega
      ·have hkj : k ≠ j := fun e => hj (e ▸ h2)
       have:=(ordX k _ (Q7 h1) (ht.brings (Q7 h1) h3 h4) (ht.bringsL (Q7 h1) h3 h4) hkj).1 h2
       have:=ht.mono (i:=k+1) (j:=j) this (by omega)
       omega
     ·intro h
      rcases ht.origin (by omega) h with h | ⟨k,h1,h3,h4⟩
      ·exact .inl h
      ·exact .inr ⟨k,by omega,(ordX k _ (Q7 (by omega)) (ht.brings (Q7 (by omega)) h3 h4) (ht.bringsL (Q7 (by omega)) h3 h4) (by omega)).2 h1,h3,h4⟩
    have hcon:∀ b,c.Pr b->c.A[b]? =(H j)[b]? :=by
     intro b hp
     refine hs.con b j hp (by omega) ((hprj b).1 hp) fun d h1 h2=> ?_
     by_cases hdj:d=j
     ·subst hdj;exact⟨fun h=>absurd h hj,fun h=>by omega⟩
     ·exact ordX d _ (Q7 h1) (tchP d _ b (Q7 h1) h2).1 (tchP d _ b (Q7 h1) h2).2 hdj
    obtain⟨rel1,fr1⟩:=hs.rel.heap (A:=H j) (fun i hi=>(hcon i hi).symm) (fun i v hv=>by
     have hp:c.Pr i:=Classical.byContradiction fun hp=>by rw[hs.abs i hp] at hv;simp at hv
     rw[HE (hcon i hp).symm];exact hv)
    have sr:SR lo c0 tS (H j) a c.w { c with A:=H j }:=⟨rfl,rfl,hprj,rel1,hs.fr.trans fr1,TR.mono fr1.toExt hs.tr,hs.df.imp fun _ m=>m.mono hs.rel fr1 rfl⟩
    refine Z1y hF hok hen (HQ g1 hd) sr hd ?_
    intro X w' c' hs'
    obtain⟨q1,q2,q3,q4,q5,q6,q7⟩:=hs'
    subst q1
    have hX:VR c' x X∨True:=.inr trivial
    obtain⟨s1,s2,s3⟩:=hs.slots hc ht hy hsz hx
    refine⟨c',YN tS y.dst x,rfl,q4,q5,q7,q6,s1,s2,s3,fun b=> ?_,fun b hb=> ?_,fun b hb=> ?_,fun b t hb htn hbt hd=> ?_,fun d b hd hdl hto=> ?_⟩
    ·rw [q3]
     constructor
     ·intro h
      rcases ht.origin (j:=j+1) (by omega) h with h | ⟨k,h1,h3,h4⟩
      ·exact .inl h
      ·refine .inr ⟨k, by omega, hls.2 ?_, h3, h4⟩
       by_cases hkj:k=j
       ·exact .inr hkj
       ·exact .inl ((ordX k _ (Q7 (by omega)) (ht.brings (Q7 (by omega)) h3 h4) (ht.bringsL (Q7 (by omega)) h3 h4) hkj).2 (by omega))
     ·rintro (h | ⟨k, h1, h2, h3, h4⟩)
      ·have:=ht.mono (i:=0) (j:=j+1) (by omega) (by omega);omega
      ·rcases hls.1 h2 with h2 | rfl
       ·have hkj : k ≠ j := fun e => hj (e ▸ h2)
        have:=(ordX k _ (Q7 h1) (ht.brings (Q7 h1) h3 h4) (ht.bringsL (Q7 h1) h3 h4) hkj).1 h2
        have:=ht.mono (i:=k+1) (j:=j+1) (by omega) (by omega)
        omega
       ·exact h4
    ·rw [q3] at hb
     exact Uj (by rw[q2];exact List.getElem?_eq_none (by omega))
    ·rw [q3] at hb
     rw[q2];exact hb
    ·rw [q3] at hb
     rw[q2]
     rcases Nat.lt_or_ge j t with h | h
     ·refine (ht.stay (i := j + 1) hb h htn fun d h1 h2 hto => ?_).symm
      rcases hls.1 ((hd d (by omega) hto).2 h2) with h' | h'
      ·have:=(ordX d _ (Q7 (by omega)) (tchP d _ b (Q7 (by omega)) hto).1 (tchP d _ b (Q7 (by omega)) hto).2 (by omega)).1 h';omega
      ·omega
     ·refine ht.stay (i := t) hbt (by omega) (by omega) fun d h1 h2 hto => ?_
      have hdt:d<t:=(hd d (by omega) hto).1 (hls.2 (by
       by_cases hdj:d=j
       ·exact .inr hdj
       ·exact .inl ((ordX d _ (Q7 (by omega)) (tchP d _ b (Q7 (by omega)) hto).1 (tchP d _ b (Q7 (by omega)) hto).2 hdj).2 (by omega))))
      omega
    ·rw [q3]
     rcases hls.1 hdl with h | rfl
     ·have:=(hprj b).1 (hs.tch d b hd h hto);omega
     ·have:=hto.1;omega
end
end Go.Aug
