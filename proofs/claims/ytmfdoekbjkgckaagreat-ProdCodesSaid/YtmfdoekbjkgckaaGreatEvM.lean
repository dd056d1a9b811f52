import Derived.Test.YtmfdoekbjkgckaaGreatEvL
import Derived.Test.YtmfdoekbjkgckaaGreatEvT
namespace Go.Aug
open Go
theorem Rel.world {c:Cx}(h:Rel c){w':World}(hh:w'.heap=c.w.heap)(h1:w'.os=c.w.os)(h2:w'.tape=c.w.tape)(h3:w'.output=c.w.output):Rel { c with w:=w' }/\Fr c { c with w:=w' }:=by
 have fr:Fr c { c with w:=w' }:=
  {I := fun _ h => h, im := fun b _ => by show w'.heap[b]? = _; rw [hh], pr := fun _ h => h
   ver:=fun i v e=>⟨v,e,Nat.le_refl _,fun _ _=>⟨rfl,by show Yz w' _=_;unfold Yz;rw[hh]⟩⟩
   os:=h1,tape:=h2,output:=h3,size:=by show c.w.heap.size<=w'.heap.size;rw[hh];exact Nat.le_refl _,keep:=fun b _ _=>by show w'.heap[b]? =_;rw[hh]
   old:=fun i hp ho _=>⟨hp,ho,rfl⟩,imm:=fun _ h=>.inl h }
 refine⟨⟨fun i b hp he=> ?_,h.inj,fun b hb=>by show b<w'.heap.size;rw[hh];exact h.lt b hb⟩,fr⟩
 obtain⟨o,g1,g2,g3⟩:=h.blk i b hp he
 exact⟨o,by show w'.heap[_]? =_;rw[hh];exact g1,g2.mono fr.toExt,g3⟩
section
variable {P:Program} {ops:Array Oper} {as:List Nat} {fl:Nat} {ps:List (Nat×Nat)} {E:Env} {call:cT} {T:Nat->List AV} {H:Nat->List Blk}
def cnt (listed:Array Bool):Nat->Nat
 | 0=>0
 | n+1=>cnt listed n+if listed.getD n false then 0 else 1
theorem Z6g {listed:Array Bool}{j:Nat}:∀ {n:Nat},n<=j->cnt (listed.setIfInBounds j true) n=cnt listed n
 | 0,_=>rfl
 | n+1,h=>by
  simp only[cnt]
  rw[Z6g (by omega),getD_set_ne false (by omega)]
theorem Z6f {listed:Array Bool}{j:Nat}(hj:j<listed.size)(hl:listed.getD j false=false):∀ {n:Nat},j<n->cnt (listed.setIfInBounds j true) n+1=cnt listed n
 | 0,h=>by omega
 | n+1,h=>by
  simp only[cnt]
  by_cases hjn:j=n
  ·subst hjn
   rw[Z6g (Nat.le_refl _),hl]
   have:(listed.setIfInBounds j true).getD j false=true:=by simp[hj]
   rw[this];simp
  ·rw [getD_set_ne false hjn]
   have:=Z6f hj hl (n:=n) (by omega)
   omega
theorem Z6e {listed:Array Bool}:∀ {n:Nat},cnt listed n=0->∀ i,i<n->listed.getD i false=true
 | 0,_,i,hi=>by omega
 | n+1,h,i,hi=>by
  simp only[cnt] at h
  rcases Nat.lt_or_eq_of_le (Nat.le_of_lt_succ hi) with h' | h'
  ·exact Z6e (by omega) i h'
  ·subst h'
   cases hq:listed.getD i false with
   | true=>rfl
   | false=>rw[hq] at h;simp at h
theorem Zj9 (hc:Chk P ops as fl ps){listed:Array Bool}(hsz:listed.size=ops.size)(hr:Region.ready .any ops listed=[]):∀ i,i<ops.size->Ls listed i:=by
 intro i
 induction i using Nat.strongRecOn with
 | _ i ih=>
  intro hi
  refine Classical.byContradiction fun hl=> ?_
  have:i ∈ Region.ready .any ops listed:=mem_ready.2 ⟨getD_in (by omega) (by unfold Ls at hl;simpa using hl),_,Q7 hi,fun e he hb=>ih e.on (hc.edge (Q7 hi) e he hb) (Nat.lt_trans (hc.edge (Q7 hi) e he hb) hi)⟩
  rw[hr] at this
  cases this
where
 getD_in {listed:Array Bool} {i:Nat} (hi:i<listed.size) (h:listed.getD i false=false):listed.getD i true=false:=by
  simp[hi] at h ⊢;exact h
theorem Sim.any {F:Fence}{n:Nat}(hF:Wd F)(hok:CallsOk P E call)(hen:EntersOk P E call)(hc:Chk P ops as fl ps)(ht:Txt P ops fl ps E call T H){Q:Exit->Act->World->Prop}{lo:Nat}{c0:Cx}
  (hQ:∀ listed a w c tS,Sim ops T H lo c0 listed a w c tS->(∀ i,i<ops.size->Ls listed i)->Q .normal a w):∀(fuel:Nat) (listed:Array Bool) (a:Act) (w:World) (c:Cx) (tS:List AV),
  Sim ops T H lo c0 listed a w c tS->RS ops listed->listed.size=ops.size->cnt listed ops.size<=fuel->wpAnyIn F n P .any ops Q fuel listed a w
 | 0,listed,a,w,c,tS,hs,hcl,hsz,hn=>by
  have hall:=Z6e (by omega:cnt listed ops.size=0)
  refine⟨?_,hQ _ _ _ _ _ hs hall⟩
  cases hr:Region.ready .any ops listed with
  | nil=>rfl
  | cons j l=>
   have hj:j ∈ Region.ready .any ops listed:=by rw[hr];simp
   obtain⟨h1,y,hy,_⟩:=mem_ready.1 hj
   have:=hall j (E5 hy)
   have hjl:j<listed.size:=by rw[hsz];exact E5 hy
   simp[hjl] at h1 this
   rw[h1] at this;simp at this
 | fuel+1,listed,a,w,c,tS,hs,hcl,hsz,hn=>by
  refine⟨fun hr=>hQ _ _ _ _ _ hs (Zj9 hc hsz hr),fun j hj=> ?_⟩
  obtain⟨h1,y,hy,hall⟩:=mem_ready.1 hj
  have hjl:j<listed.size:=by rw[hsz];exact E5 hy
  have hjf:listed.getD j false=false:=by simp[hjl] at h1 ⊢;exact h1
  refine wpOpIn_mono ?_ (hs.step hF hok hen hc ht hcl hsz hj)
  rintro a' w' ⟨c',tS',hs'⟩
  refine Sim.any hF hok hen hc ht hQ fuel _ a' w' c' tS' hs' ?_ (by simp[hsz]) ?_
  ·intro k z hz hl e he hb
   rcases(P2 hjl).1 hl with h | rfl
   ·exact(P2 hjl).2 (.inl (hcl k z hz h e he hb))
   ·have : z = y := by rw [hy] at hz; exact (Option.some.inj hz).symm
    subst this
    exact(P2 hjl).2 (.inl (hall e he hb))
  ·have := Z6f hjl hjf (n := ops.size) (E5 hy)
   omega
theorem X1 {i j:Nat}(hX:EY P ops i=false):∀ {ps:List (Nat×Nat)} {qs:List (Opd×Opd)},RF P ops ps=some qs->BT i j ps=true->∃ a b,QP P ops i=some a/\QP P ops j=some b/\(a,b) ∈ qs
 | [],qs,_,h=>by simp[BT] at h
 | p::ps,qs,h,hm=>by
  simp only[RF] at h
  simp only[BT,Bool.or_eq_true,Bool.and_eq_true] at hm
  cases hp:EY P ops p.1 with
  | true=>
   simp only[hp,cond_true] at h
   rcases hm with⟨g1,g2⟩ | hm
   ·have g1 := GD.1 g1
    subst g1
    rw[hp] at hX;simp at hX
   ·exact X1 hX h hm
  | false=>
   simp only[hp,cond_false] at h
   split at h
   ·rename_i a b r h1 h2 h3
    simp at h;subst h
    rcases hm with⟨g1,g2⟩ | hm
    ·have g1 := GD.1 g1
     have g2:=GD.1 g2
     subst g1 g2
     exact⟨a,b,h1,h2,by simp⟩
    ·obtain ⟨a', b', q1, q2, q3⟩ := X1 hX h3 hm
     exact⟨a',b',q1,q2,by simp[q3]⟩
   ·simp at h
theorem WU {i j:Nat}(hX:EY P ops i=true):∀ {ps:List (Nat×Nat)} {qs:List (Nat×Opd)},RE P ops ps=some qs->BT i j ps=true->∃ b,QP P ops j=some b/\(i,b) ∈ qs
 | [],qs,_,h=>by simp[BT] at h
 | p::ps,qs,h,hm=>by
  simp only[RE] at h
  simp only[BT,Bool.or_eq_true,Bool.and_eq_true] at hm
  cases hp:EY P ops p.1 with
  | false=>
   simp only[hp,cond_false] at h
   rcases hm with⟨g1,g2⟩ | hm
   ·have g1 := GD.1 g1
    subst g1
    rw[hp] at hX;simp at hX
   ·exact WU hX h hm
  | true=>
   simp only[hp,cond_true] at h
   split at h
   ·rename_i b r h1 h2
    simp at h;subst h
    rcases hm with⟨g1,g2⟩ | hm
    ·have g1 := GD.1 g1
     have g2:=GD.1 g2
     subst g1 g2
     exact⟨b,h1,by simp⟩
    ·obtain ⟨b', q1, q2⟩ := WU hX h2 hm
     exact⟨b',q1,by simp[q2]⟩
   ·simp at h
theorem Z5z {E:Env}{call:cT}:∀(l:List (Fl×Stp)) (d:Nat) (k:K),Kk E call [] d l k=Gk E call l k
 | [],_,_=>rfl
 | s::l,d,k=>by
  funext tm A
  simp only[Kk,Gk]
  congr 1
  funext tm1 A1
  rw[Z5z l]
  rfl
theorem Z1a {tm:List AV}:∀ {qs:List (Opd×Opd)},BR tm qs=true->∀ p ∈ qs,FN (look tm p.1) (look tm p.2)=true
 | [],_,p,hp=>by simp at hp
 | q::qs,h,p,hp=>by
  simp only[BR,Bool.and_eq_true] at h
  simp only[List.mem_cons] at hp
  rcases hp with rfl | hp
  ·exact h.1
  ·exact Z1a h.2 p hp
theorem Zh5 (hm:P.follows .mixedOrders=true)(hok:CallsOk P E call)(hen:EntersOk P E call):U3 P E call:=by
 intro F n hF ops t id kn kx kr lo c0 c r tm A a w ht hs h
 unfold WW at ht
 generalize MK ops.toList []=as at ht
 generalize Z40 _ as _=fl at ht
 generalize Z1q _ as _=ps at ht
 unfold Z6s at ht
 split at ht
 ·rename_i ss qs ls hss hqs hls
  split at ht
  ·rename_i hchk
   have h:Kk E call ls 0 (G5 P fl 0 ops.toList ss) (Gj qs kn) tm A=some r:=by
    revert ht
    cases ls with
    | nil=>
     intro ht
     simp at ht;subst ht
     rw[Z5z]
     exact h
    | cons p ls=>
     intro ht
     simp at ht;subst ht
     exact h
   clear ht
   have hc:=Zh6 hchk
   obtain⟨hlen,hget⟩:=Z6q hss
   obtain⟨T,H,hT,hH,hsteps,hend,hkeep⟩:=Z60 _ _ _ _ _ h
   have hfl:=Z3y (P:=P) (fl:=fl) ops.toList ss 0 hlen
   rw[hfl] at hend
   simp only[Array.length_toList] at hend
   unfold Gj at hend
   cases href:BR (T ops.size) qs with
   | false=>simp[href] at hend
   | true=>
    simp only[href,cond_true] at hend
    have txt:Txt P ops fl ps E call T H:=by
     refine⟨fun {j y} hy=> ?_,fun {i j} hij hX=> ?_,fun {i j} hij hX=> ?_⟩
     ·have hy' : ops.toList[j]? = some y := by simpa using hy
      obtain⟨s,h1,h2⟩:=hget j y hy'
      have:=Z3z (P:=P) (fl:=fl) ops.toList ss 0 j y s hy' h1
      rw[Nat.zero_add] at this
      exact⟨s,h2,hsteps j _ this⟩
     ·obtain ⟨b, h1, h2⟩ := WU hX hls hij
      have hi:i<ops.size:=by
       unfold EY at hX
       split at hX
       ·exact E5 ‹_›
       ·simp at hX
      have:=hkeep i _ (by rw[hfl];simpa using hi) h2 (by simp)
      rw[hfl] at this
      simp only[Array.length_toList] at this
      exact⟨b,h1,this⟩
     ·obtain ⟨a, b, h1, h2, h3⟩ := X1 hX hqs hij
      exact⟨a,b,h1,h2,Z1a href _ h3⟩
    obtain⟨rfl,hA,hpr,hrel,hfr,htr,hdf⟩:=hs
    obtain⟨rel1,fr1⟩:=hrel.world (w':={ c.w with drawn:=c.w.drawn+1 }) rfl rfl rfl rfl
    refine wpIn_region_any hm (Sim.any hF hok hen hc txt (Q:=KQ lo c0 r kn kx kr) (lo:=lo) (c0:=c0) ?_ ops.size _ a _ { c with w:={ c.w with drawn:=c.w.drawn+1 } } tm ?_ ?_ (by simp) ?_)
    ·intro listed a' w' c' tS hs' hall
     obtain⟨rfl,q2,q3,q4,q5,q6,q7,q8,q9,q10,_,q11,_⟩:=hs'
     have hp:∀ b,c'.Pr b↔b<(H ops.size).length:=by
      intro b
      rw[q9]
      constructor
      ·rintro (h | ⟨k, h1, _, _, h4⟩)
       ·exact Nat.lt_of_lt_of_le h (txt.mono (Nat.zero_le _) (Nat.le_refl _))
       ·exact Nat.lt_of_lt_of_le h4 (txt.mono h1 (Nat.le_refl _))
      ·intro h
       rcases txt.origin (Nat.le_refl _) h with h | ⟨k,h1,h2⟩
       ·exact .inl h
       ·exact .inr ⟨k,h1,hall k h1,h2⟩
     have hcon:∀ b,c'.Pr b->c'.A[b]? =(H ops.size)[b]? :=fun b hb=>q11 b _ hb (Nat.le_refl _) ((hp b).1 hb) fun d h1 _=>⟨fun _=>h1,fun _=>hall d h1⟩
     obtain⟨rel2,fr2⟩:=q2.heap (A:=H ops.size) (fun i hi=>(hcon i hi).symm) (fun i v hv=>by
      have hp:c'.Pr i:=Classical.byContradiction fun hp=>by rw[q10 i hp] at hv;simp at hv
      rw[HE (hcon i hp).symm];exact hv)
     have htm:tS=T ops.size:=by
      refine Zgf (q6.trans (txt.len (Nat.le_refl _)).symm) fun t=> ?_
      by_cases hex:∃(i:Nat) (y:Oper),ops[i]? =some y/\y.dst=some t
      ·obtain ⟨i, y, hy, hd⟩ := hex
       rw[q7 hy (hall i (E5 hy)) hd]
       exact(txt.slot (E5 hy) (Nat.le_refl _) fun k z h1 h2 hz=>hc.dsts (by omega) hy hz hd).symm
      ·rw [q8 fun i y hy _ hd => hex ⟨i, y, hy, hd⟩]
       exact(txt.slot (Nat.zero_le _) (Nat.le_refl _) fun k z _ _ hz hd=>hex ⟨k,z,hz,hd⟩).symm
     refine⟨T ops.size,H ops.size,{ c' with A:=H ops.size },⟨rfl,rfl,hp,rel2,q3.trans fr2,?_,q4.imp fun _ m=>m.mono q2 fr2 rfl⟩,hend⟩
     rw[<-htm]
     exact TR.mono fr2.toExt q5
    ·have noL:∀ i,¬Ls (Array.replicate ops.size false) i:=by
      intro i hi
      unfold Ls at hi
      rcases Nat.lt_or_ge i ops.size with h | h
      ·simp[h] at hi
      ·simp[h] at hi
     refine⟨rfl,rel1,hfr.trans fr1,hdf.imp fun _ m=>m.mono hrel fr1 rfl,TR.mono fr1.toExt htr,by rw[hT],fun _ hl=>absurd hl (noL _),fun _=>by rw[hT],fun b=> ?_,fun b hb=> ?_,fun b hb=> ?_,fun b t hb htn hbt hd=> ?_,fun d b _ hl=>absurd hl (noL _)⟩
     ·rw [hH]
      show c.Pr b↔_
      rw[hpr]
      exact⟨.inl,fun h=>h.elim (fun h=>h) fun⟨k,_,hl,_⟩=>absurd hl (noL k)⟩
     ·refine Uj ?_
      show c.A[b]? =none
      have:¬b<A.length:=fun h=>hb ((hpr b).2 h)
      rw[hA]
      exact List.getElem?_eq_none (by omega)
     ·show b < c.A.length
      rw[hA]
      exact(hpr b).1 hb
     ·show c.A[b]? = _
      rw[hA,<-hH]
      refine(txt.stay (i:=0) ?_ (Nat.zero_le _) htn fun d _ h2 hto=>noL d ((hd d (by omega) hto).2 h2)).symm
      rw[hH];exact(hpr b).1 hb
    ·intro j y _ hl
     exfalso
     unfold Ls at hl
     rcases Nat.lt_or_ge j ops.size with h | h
     ·simp[h] at hl
     ·simp[h] at hl
    ·have:∀ n m,cnt (Array.replicate m false) n<=n:=by
      intro n m
      induction n with
      | zero=>exact Nat.le_refl _
      | succ n ih=>
       simp only[cnt]
       split<;>omega
     exact this _ _
  ·simp at ht
 ·simp at ht
end
theorem Wj {P:Program}(hm:P.follows .mixedOrders=true){E:Env}{fn:FuncId->Option (Env->cT->cT)}(hfn:∀ f F,fn f=some F->RR P f F)(hprim:KN P E)(hbk:ED P E){n:Nat}{f:FuncId}{args:List AV}{A:List Blk}{x:AV}{A':List Blk}
  (h:Z5 E fn n f args A=some (x,A')) {c:Cx} {args':Array Value} (hr:Rel c) (hgl:Gl c.I c.w) (hA:c.A=A) (hp:∀ i,c.Pr i↔i<A.length) (hv:VRs c args args'.toList):Calls P f args' c.w (B9 c x A'):=
 (Zgl hfn hprim hbk (fun call h1 h2 nb lv=>Zh5 (E:={ E with nb0:=nb,live:=lv }) hm (⟨h1.raw,h1.br⟩:CallsOk P { E with nb0:=nb,live:=lv } call) (⟨h2.raw,h2.br⟩:EntersOk P { E with nb0:=nb,live:=lv } call)) n).2.2 f args A x A' h c args' hr hgl hA hp hv
end Go.Aug
