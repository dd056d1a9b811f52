import Derived.Test.YtmfdoekbjkgckaaGreatEvI
import Derived.RangeFuncIn
import Derived.Below
namespace Go.Aug
open Go
theorem Rel.put {c0 c:Cx}(h:Rel c)(f:Fr c0 c){D:Nat}{o:Obj}(h1:c0.w.heap.size<=D)(h2:¬c.I D)(h3:∀ i b,c.Pr i->c.A[i]? =some b->c.ρ i≠D):
    Rel { c with w:=c.w.putObj D o }/\Ext c { c with w:=c.w.putObj D o }/\Fr c0 { c with w:=c.w.putObj D o }:=by
  have same:∀ b,b≠D->(c.w.putObj D o).heap[b]? =c.w.heap[b]? :=fun b hb=>World.putObj_heap_other hb
  have ext:Ext c { c with w:=c.w.putObj D o }:=
    { I := fun _ h => h, im := fun b hb => same b fun e => h2 (e ▸ hb), pr := fun _ h => h
      ver:=fun i v hv=>⟨v,hv,Nat.le_refl _,fun hp _=>⟨rfl,by
        obtain⟨b,hb,_⟩:=C1 hv
        show Yz (c.w.putObj D o) _=_
        unfold Yz
        rw[same _ (h3 i b hp hb)]⟩⟩ }
  refine⟨⟨fun i b hp he=> ?_,h.inj,fun b hb=>by show b<(c.w.putObj D o).heap.size;rw[World.putObj_size];exact h.lt b hb⟩,ext,?_⟩
  · obtain ⟨o', g1, g2, g3⟩ := h.blk i b hp he
    exact⟨o',(same _ (h3 i b hp he)).trans g1,g2.mono ext,g3⟩
  · exact { toExt := f.toExt.trans ext, os := f.os, tape := f.tape, output := f.output
            size:=by show _<=(c.w.putObj D o).heap.size;rw[World.putObj_size];exact f.size
            keep:=fun b hb hn=>(same b (by omega)).trans (f.keep b hb hn),old:=f.old,imm:=f.imm }
theorem Rel.noPr {c:Cx}(h:Rel c){D:Nat}{ds:Option (List Deferred)}(hD:c.w.heap[D]? =some (.deferred ds)):∀ i b,c.Pr i->c.A[i]? =some b->c.ρ i≠D:=by
  intro i b hp hb e
  obtain⟨o,h1,h2,_⟩:=h.blk i b hp hb
  rw[e,hD] at h1
  simp at h1
  subst h1
  cases b with
  | cells cs v ro=>obtain⟨C,e',h3,_⟩:=h2;simp at h3
  | iter s p=>simp[Aq] at h2
  | free=>exact h2
def ED (P:Program)(E:Env):Prop:=∀ g s ag,E.back g=some (s,ag)->IsBack P g s ag
theorem Zbv {E:Env}{x:AV}{es:List (List AV)}(h:PC E x=some es):∃ g cs len k rest s ag,x=.d (.fn (.func g) [.vptr (.lst cs len k::rest)])/\E.back g=some (s,ag)/\cs.length=len*s/\len<=Z4/\s≠0/\(ag=false->s=1)/\KF cs s ag len=some es:=by
  unfold PC at h
  split at h
  · rename_i g cs len k rest
    split at h
    · rename_i s ag hb
      split at h
      · rename_i hc
        exact⟨g,cs,len,k,rest,s,ag,rfl,hb,hc.1,hc.2.1,hc.2.2.1,hc.2.2.2,h⟩
      · simp at h
    · simp at h
  · simp at h
theorem Z74 {cs:List DV}{s:Nat}{ag:Bool}:∀ {n:Nat} {es:List (List AV)},KF cs s ag n=some es->∀ i,i<n->∃ x,BQ ag s (cs.drop (i*s))=some x
  | 0,_,_,i,hi=>by omega
  | n + 1, es, h, i, hi => by
    simp only[KF] at h
    split at h
    · rename_i x r h1 h2
      rcases Nat.lt_or_eq_of_le (Nat.le_of_lt_succ hi) with h' | h'
      · exact Z74 h2 i h'
      · subst h';exact⟨x,h1⟩
    · simp at h
theorem Z1j {c:Cx}:∀(ps:List Nat) (xs:List AV) (Xs:List Value) {tm:List AV} {t:Array Value},VRs c xs Xs->VRs c tm t.toList->VRs c (FS tm ps xs) ((ps.zip Xs).foldl (fun t (p,v)=>t.setIfInBounds p v) t).toList
  | [],_,_,_,_,_,h=>by simpa [FS] using h
  | p::ps,[],_,_,_,.nil,h=>by simpa [FS] using h
  | p :: ps, x :: xs, _, tm, t, .cons (X := X) hx hs, h => by
    simp only[FS,List.zip_cons_cons,List.foldl_cons]
    refine Z1j ps xs _ hs ?_
    rw[Array.toList_setIfInBounds]
    exact VRs.set h p hx
theorem Rel.noLoop {c:Cx}(h:Rel c){D:Nat}{r:Loop}(hD:c.w.heap[D]? =some (.loop r)):∀ i b,c.Pr i->c.A[i]? =some b->c.ρ i≠D:=by
  intro i b hp hb e
  obtain⟨o,h1,h2,_⟩:=h.blk i b hp hb
  rw[e,hD] at h1
  simp at h1
  subst h1
  cases b with
  | cells cs v ro=>obtain⟨C,e',h3,_⟩:=h2;simp at h3
  | iter s p=>simp[Aq] at h2
  | free=>exact h2
theorem Marks.put {lo:Nat}{c:Cx}{a:Act}{Ds:List Nat}(h:Marks lo c a Ds){l:Nat}{r:Loop}{o:Obj}(hl:c.w.heap[l]? =some (.loop r)):Marks lo { c with w:=c.w.putObj l o } a Ds:=by
  refine⟨h.eq,h.nodup,fun D hD=> ?_⟩
  obtain⟨h1,h2,h3⟩:=h.at_ D hD
  refine⟨?_,h2,h3⟩
  have:D≠l:=fun e=>by rw[e,hl] at h1;simp at h1
  exact(World.putObj_heap_other this).trans h1
theorem Rel.more {c:Cx}(h:Rel c)(o:Obj):Rel { c with w:=c.w.alloc o }/\Fr c { c with w:=c.w.alloc o }:=by
  have hheap:(c.w.alloc o).heap=c.w.heap.push o:=rfl
  have same:∀ b,b<c.w.heap.size->(c.w.alloc o).heap[b]? =c.w.heap[b]? :=fun b hb=>by rw[hheap,Array.getElem?_push,if_neg (by omega)]
  have fr:Fr c { c with w:=c.w.alloc o }:=
    { I := fun _ h => h, im := fun b hb => same b (h.lt b hb), pr := fun _ h => h
      ver:=fun i v hv=>⟨v,hv,Nat.le_refl _,fun hp _=>⟨rfl,by
        obtain⟨b,hb,_⟩:=C1 hv
        show Yz (c.w.alloc o) _=_
        unfold Yz
        rw[same _ (h.lt_of hp hb)]⟩⟩
      os:=rfl,tape:=rfl,output:=rfl,size:=by show c.w.heap.size<=(c.w.alloc o).heap.size;rw[hheap];simp
      keep:=fun b hb _=>same b hb,old:=fun i hp ho _=>⟨hp,ho,rfl⟩,imm:=fun _ h=>.inl h }
  refine⟨⟨fun i b hp he=> ?_,h.inj,fun b hb=>Nat.lt_of_lt_of_le (h.lt b hb) fr.size⟩,fr⟩
  obtain⟨o',g1,g2,g3⟩:=h.blk i b hp he
  exact⟨o',(same _ (h.lt_of hp he)).trans g1,g2.mono fr.toExt,g3⟩
def U4 (P:Program)(E:Env)(call:cT)(F:Fence)(c:Code)(t:CT):Prop:=
  ∀(n lo:Nat) (c0:Cx) (r:AV×List Blk) (kn:K) (kx:Nat->K) (kr:K) (tm:List AV) (A:List Blk) (a:Act) (w:World) (cx:Cx),lo<=c0.w.heap.size->(∀ i,c0.Pr i->i<E.nb0)->c0.A.length<=E.nb0->SR lo c0 tm A a w cx->t E call kn kx kr tm A=some r->c.wpIn F n P (KQ lo c0 r kn kx kr) a w
def U5 (P:Program)(E:Env)(call:cT)(F:Fence)(c:Code)(t:CT):Prop:=∀ n0 live,U4 P { E with nb0:=n0,live:=live } call F c t
structure Betw (c c0:Cx) (lo l:Nat) (tm:List AV) (a1:Act) (rec:LoopState->Option Code->Loop) (A:List Blk) (W:World) (cx:Cx):Prop where
  eqw:cx.w=W
  eqA:cx.A=A
  pr:∀ i,cx.Pr i↔i<A.length
  rel:Rel cx
  fr:Fr c0 cx
  tr:TR cx tm a1
  marks:∃ Ds,Marks lo cx a1 Ds
  I:∀ b,c.I b->cx.I b
  im:∀ b,c.I b->W.heap[b]? =c.w.heap[b]?
  rcd:W.heap[l]? =some (.loop (rec .ready none))
  noI:¬cx.I l
  lb:c0.w.heap.size<=l
theorem Zbt {P:Program}{E:Env}{call:cT}(hbk:ED P E){f:Operand}{ps:Array Nat}{asg body:Code}{f':Opd}{ta tb:CT}(hf:Zx f=some f')(hps:ps.size=2)
    (ha:∀ F,Wd F->∀ m,U4 P { E with nb0:=m } call F asg ta) (hb:∀ F,Wd F->∀ m,U4 P { E with nb0:=m } call F body tb):U4 P E call Fence.wide (.rangeFunc f ps asg body) (RC f' ps.toList ta tb):=by
  intro n lo c0 r kn kx kr tm A a w c hlo hn0 hn1 hs h
  unfold RC at h
  cases he:PC E (look tm f') with
  | none=>simp[he,PB] at h
  | some es =>
    simp only[he,PB] at h
    obtain⟨g,cs,len,k,rest,s,ag,hx,hg,hcl,hlen,hs0,hag,hes⟩:=Zbv he
    have hback:=hbk g s ag hg
    obtain⟨rfl,hA,hpr,hrel,hfr,htr,Ds,hm⟩:=hs
    have hglc:=htr.1
    have hX:=VR.look htr hf
    rw[hx] at hX
    obtain⟨b,o,hXe,hDR⟩:∃ b o,a.eval f=.func (.func g) #[] #[.pointer (some ⟨b,o,none⟩)]/\DR c.I c.w (.vptr (.lst cs len k::rest)) (.pointer (some ⟨b,o,none⟩)):=by
      revert hX
      generalize a.eval f=X
      intro hX
      cases hX with
      | d h => cases h with
        | @fn _ _ Y h =>
          obtain⟨P0,hY,hP0⟩:∃ P0,Y.toList=[P0]/\DR c.I c.w (.vptr (.lst cs len k::rest)) P0:=by
            revert h
            generalize Y.toList=L
            intro h
            cases h with
            | cons h hs=>cases hs;exact⟨_,rfl,h⟩
          have hYe:Y= #[P0]:=by cases Y;simp at hY;simp[hY]
          cases hP0 with
          | vptr hI hm=>exact⟨_,_,by rw[hYe],.vptr hI hm⟩
    refine wpIn_rangeFunc fun fn _=> ?_
    obtain⟨rec,hrec⟩:∃ rec:LoopState->Option Code->Loop,rec=fun st pe=>{ state:=st,pending:=pe,fn,tmps:=a.tmps,params:=ps,assign:=asg,body,defers:=c.w.heap.size }:=⟨_,rfl⟩
    obtain⟨W1,hW1⟩:∃ W1,(c.w.alloc (.deferred (some []))).alloc (.loop (rec .ready none))=W1:=⟨_,rfl⟩
    obtain⟨relA,frA⟩:=hrel.more (.deferred (some []))
    obtain⟨relB,frB⟩:=relA.more (.loop (rec .ready none))
    have frAB:=frA.trans frB
    have hL1:W1.heap[c.w.heap.size+1]? =some (.loop (rec .ready none)):=by
      rw[<-hW1];have:=World.alloc_heap_new (c.w.alloc (.deferred (some []))) (.loop (rec .ready none));rwa [World.size_alloc] at this
    have hK1:W1.heap[c.w.heap.size]? =some (.deferred (some [])):=by
      rw[<-hW1];exact(frB.keep c.w.heap.size (by show c.w.heap.size<(c.w.alloc _).heap.size;simp) (fun i hp ⟨b,hb,_⟩ e=>by have:=hrel.lt_of hp hb;have e:c.ρ i=c.w.heap.size:=e;omega)).trans (World.alloc_heap_new c.w _)
    have hent:=Z0s hback.ent
    refine⟨c.w.heap.size+1,[NA c.w.heap.size],W1,{ target:=.fn (.func g) #[.pointer (some ⟨b,o,none⟩)],args:= #[.func (.yield (c.w.heap.size+1)) #[] #[]] },W1,g,#[.func (.yield (c.w.heap.size+1)) #[] #[],.pointer (some ⟨b,o,none⟩)],W1,?_,?_,?_,?_,?_,?_⟩
    · rw[<-hW1,hrec];exact run_enterLoop_outer _ _ _ _ _
    · simp only [resolve, hXe, Deferred.ofValue]
      simp[Act.eval]
    · intro f' _;trivial
    · simp only [invoke]
      have:=hent (#[.func (.yield (c.w.heap.size+1)) #[] #[]]++ #[.pointer (some ⟨b,o,none⟩)]) W1
      simpa using this
    · simp[Fence.wide]
    · show CallsIn _ _ _ _ _ _ (rangePost Fence.wide n P (c.w.heap.size + 1) (KQ lo c0 r kn kx kr) { a with defers := NA c.w.heap.size :: a.defers })
      obtain⟨a1,ha1⟩:∃ a1:Act,{ a with defers:=NA c.w.heap.size::a.defers }=a1:=⟨_,rfl⟩
      rw[ha1]
      obtain⟨l,hl⟩:∃ l,c.w.heap.size+1=l:=⟨_,rfl⟩
      rw[hl] at hL1 ⊢
      have hsz0:c0.w.heap.size<=c.w.heap.size:=hfr.size
      have key:∀ i es A W cx,KF cs s ag i=some es->N2 ta tb ps.toList E call kn kx kr tm es A=some r->Betw c c0 lo l tm a1 rec A W cx->
          P1 P 0 l cs s ag len k rest b o c.I (rangePost Fence.wide n P l (KQ lo c0 r kn kx kr) a1) i W:=by
        intro i
        induction i with
        | zero =>
          intro es A W cx hes h hB
          simp[KF] at hes
          subst hes
          simp only[N2] at h
          obtain⟨rfl,hA,hpr,hrel,hfr,htr,⟨Ds,hm⟩,hI,him,hrc,hnI,hlb⟩:=hB
          obtain⟨rel2,ext2,fr2⟩:=hrel.put hfr (o:=.loop { rec .ready none with state:=.exhausted }) hlb hnI (hrel.noLoop hrc)
          refine⟨⟨?_,hDR.mono (fun _ h=>h) him,hglc.mono (fun _ h=>h) him⟩,none,cx.w.putObj l (.loop { rec .ready none with state:=.exhausted }),by have:=run_endLoop (P:=P) hrc (by rw[hrec];simp);rw[hrec] at this ⊢;exact this,?_⟩
          · intro b hb
            exact hrel.lt b (hI b hb)
          · exact⟨tm,A,{ cx with w:=cx.w.putObj l (.loop { rec .ready none with state:=.exhausted }) },⟨rfl,hA,hpr,rel2,fr2,TR.mono ext2 htr,Ds,hm.put hrc⟩,h⟩
        | succ i ih =>
          intro es A W cx hes h hB
          simp only[KF] at hes
          split at hes
          · rename_i x0 es' hx0 hes'
            simp at hes
            subst hes
            simp only[N2] at h
            obtain⟨rfl,hA,hpr,hrel,hfr,htr,⟨Ds,hm⟩,hI,him,hrc,hnI,hlb⟩:=hB
            refine⟨⟨fun b hb=>hrel.lt b (hI b hb),hDR.mono (fun _ h=>h) him,hglc.mono (fun _ h=>h) him⟩,fun x X hx hdx=> ?_⟩
            rw[hx0] at hx
            simp at hx
            subst hx
            have hy:=run_yield (P:=P) (args:= #[.int .i64 i,X]) hrc (by rw[hrec];exact hps.symm)
            rw[hrec] at hy
            refine⟨fn,_,asg,body,hy,roundIn_of_wpIn trivial ?_⟩
            have htr':TR cx (FS tm ps.toList [aI i,.d x0]) { tmps:=(ps.zip #[.int .i64 i,X]).foldl (fun tmps (t,a)=>tmps.setIfInBounds t a) a.tmps,defers:=[] }:=by
              have h1:VRs cx tm a.tmps.toList:=by rw[<-ha1] at htr;exact htr.2
              have:=Z1j (c:=cx) ps.toList [aI i,.d x0] [.int .i64 i,X] (.cons (VR.vv rfl) (.cons (.d (hdx.mono hI fun _ _=>rfl)) .nil)) h1
              refine⟨htr.1,?_⟩
              show VRs cx _ _
              rw[<-Array.foldl_toList,Array.toList_zip]
              exact this
            refine wpIn_mono (ha (Fence.wide.inRound l) (Wd.round l) A.length 0 0 cx r _ _ _ _ A _ cx.w cx (Nat.zero_le _) (fun i hi=>(hpr i).1 hi) (by rw[hA];exact Nat.le_refl _) ⟨rfl,hA,hpr,hrel,Fr.refl cx,htr',[],rfl,by simp,by simp⟩ h) ?_
            intro e a' w' hq
            cases e with
            | normal =>
              obtain⟨tm1,A1,c1,⟨rfl,hA1,hpr1,hrel1,hfr1,htr1,Ds1,hm1⟩,hk1⟩:=hq
              have hll:l<cx.w.heap.size:=(Array.getElem?_eq_some_iff.1 hrc).1
              have hown:∀ i,cx.Pr i->YG cx.A i->cx.ρ i≠l:=fun i hp ⟨b,hb,_⟩=>hrel.noLoop hrc i b hp hb
              have hrc1:c1.w.heap[l]? =some (.loop (rec .ready none)):=(hfr1.keep l hll hown).trans hrc
              have hnI1:¬c1.I l:=fun h=>by
                rcases hfr1.imm l h with h | h | ⟨i,p,o,e⟩
                · exact hnI h
                · omega
                · exact hown i p o e
              obtain⟨rel2,ext2,fr2⟩:=hrel1.put (hfr.trans hfr1) (o:=.loop { rec .ready none with state:=.busy }) hlb hnI1 (hrel1.noLoop hrc1)
              have hrc2:(c1.w.putObj l (.loop { rec .ready none with state:=.busy })).heap[l]? =some (.loop { rec .ready none with state:=.busy }):=World.putObj_heap_same (Array.getElem?_eq_some_iff.1 hrc1).1
              refine⟨_,run_beginRound hrc1 (by rw[hrec]),?_⟩
              refine wpIn_mono (hb (Fence.wide.inRound l) (Wd.round l) A1.length 0 0 { c1 with w:=c1.w.putObj l (.loop { rec .ready none with state:=.busy }) } r _ _ _ tm1 A1 a' _ { c1 with w:=c1.w.putObj l (.loop { rec .ready none with state:=.busy }) } (Nat.zero_le _) (fun i hi=>(hpr1 i).1 hi) (by show c1.A.length<=_;rw[hA1];exact Nat.le_refl _)
                ⟨rfl,hA1,hpr1,rel2,Fr.refl _,TR.mono ext2 htr1,Ds1,hm1.put hrc1⟩ hk1) ?_
              have fin:∀(jump:Option Code) (c3:Cx) (A3:List Blk),c3.A=A3->(∀ i,c3.Pr i↔i<A3.length)->Rel c3->Fr { c1 with w:=c1.w.putObj l (.loop { rec .ready none with state:=.busy }) } c3->
                  (Instr.endRound l jump).run P c3.w=.ok (.bool jump.isNone) (c3.w.putObj l (.loop (rec (if jump.isNone then .ready else .done) jump)))/\(∀ b,c.I b->(c3.w.putObj l (.loop (rec (if jump.isNone then .ready else .done) jump))).heap[b]? =cx.w.heap[b]?)/\
                  (c3.w.putObj l (.loop (rec (if jump.isNone then .ready else .done) jump))).heap[l]? =some (.loop (rec (if jump.isNone then .ready else .done) jump))/\
                  Betw c c0 lo l tm a1 (fun _ _=>rec (if jump.isNone then .ready else .done) jump) A3 (c3.w.putObj l (.loop (rec (if jump.isNone then .ready else .done) jump))) { c3 with w:=c3.w.putObj l (.loop (rec (if jump.isNone then .ready else .done) jump)) }:=by
                intro jump c3 A3 hA3 hpr3 hrel3 hfr3
                have hll2:l<(c1.w.putObj l (.loop { rec .ready none with state:=.busy })).heap.size:=(Array.getElem?_eq_some_iff.1 hrc2).1
                have hown2:∀ i,c1.Pr i->YG c1.A i->c1.ρ i≠l:=fun i hp ⟨b,hb,_⟩=>hrel1.noLoop hrc1 i b hp hb
                have hrc3:c3.w.heap[l]? =some (.loop { rec .ready none with state:=.busy }):=(hfr3.keep l hll2 hown2).trans hrc2
                have hnI3:¬c3.I l:=fun h=>by
                  rcases hfr3.imm l h with h | h | ⟨i,p,o,e⟩
                  · exact hnI1 h
                  · have : (c1.w.putObj l (.loop { rec .ready none with state := .busy })).heap.size <= l := h
                    omega
                  · exact hown2 i p o e
                obtain⟨rel4,ext4,fr4⟩:=hrel3.put (fr2.trans hfr3) (o:=.loop (rec (if jump.isNone then .ready else .done) jump)) hlb hnI3 (hrel3.noLoop hrc3)
                have hext:=hfr1.toExt.trans (ext2.trans (hfr3.toExt.trans ext4))
                have hrun:=run_endRound (P:=P) jump hrc3
                have him4:∀ b,c.I b->(c3.w.putObj l (.loop (rec (if jump.isNone then .ready else .done) jump))).heap[b]? =cx.w.heap[b]? :=fun b hb=>hext.im b (hI b hb)
                have hl4:(c3.w.putObj l (.loop (rec (if jump.isNone then .ready else .done) jump))).heap[l]? =some (.loop (rec (if jump.isNone then .ready else .done) jump)):=World.putObj_heap_same (Array.getElem?_eq_some_iff.1 hrc3).1
                refine⟨?_,him4,hl4,rfl,hA3,hpr3,rel4,fr4,TR.mono hext htr,⟨Ds,(((hm.mono hrel hfr1 rfl).put hrc1).mono rel2 hfr3 rfl).put hrc3⟩,fun b hb=>hext.I b (hI b hb),fun b hb=>(him4 b hb).trans (him b hb),hl4,hnI3,hlb⟩
                rw[hrun,hrec]
              intro e3 a3 w3 hq3
              cases e3 with
              | normal =>
                obtain⟨tm3,A3,c3,⟨rfl,hA3,hpr3,hrel3,hfr3,htr3,_⟩,hk3⟩:=hq3
                obtain⟨q1,q2,q3,q4⟩:=fin none c3 A3 hA3 hpr3 hrel3 hfr3
                exact⟨_,_,q1,.inl ⟨rfl,q2,ih es' A3 _ _ hes' hk3 ⟨q4.eqw,q4.eqA,q4.pr,q4.rel,q4.fr,q4.tr,q4.marks,q4.I,q4.im,q4.rcd,q4.noI,q4.lb⟩⟩⟩
              | ret =>
                obtain⟨tm3,A3,c3,⟨rfl,hA3,hpr3,hrel3,hfr3,htr3,_⟩,hk3⟩:=hq3
                obtain⟨q1,q2,q3,q4⟩:=fin (some .ret) c3 A3 hA3 hpr3 hrel3 hfr3
                obtain⟨r1,r2,r3,r4,r5,r6,⟨Ds5,r7⟩,_,_,r8,r9,r10⟩:=q4
                obtain⟨rel6,ext6,fr6⟩:=r4.put r5 (o:=.loop { rec .done (some .ret) with state:=.exhausted }) r10 r9 (r4.noLoop q3)
                refine⟨_,_,q1,.inr ⟨rfl,q2,(some .ret),(c3.w.putObj l (.loop (rec .done (some .ret)))).putObj l (.loop { rec .done (some .ret) with state:=.exhausted }),by have:=run_endLoop (P:=P) q3 (by rw[hrec];simp);rw[hrec] at this ⊢;exact this,wpIn_ret ?_⟩⟩
                exact⟨tm,A3,{ c3 with w:=(c3.w.putObj l (.loop (rec .done (some .ret)))).putObj l (.loop { rec .done (some .ret) with state:=.exhausted }) },⟨rfl,r2,r3,rel6,fr6,TR.mono ext6 r6,Ds5,r7.put q3⟩,hk3⟩
              | exit id =>
                obtain⟨tm3,A3,c3,⟨rfl,hA3,hpr3,hrel3,hfr3,htr3,_⟩,hk3⟩:=hq3
                obtain⟨q1,q2,q3,q4⟩:=fin (some (.exit id)) c3 A3 hA3 hpr3 hrel3 hfr3
                obtain⟨r1,r2,r3,r4,r5,r6,⟨Ds5,r7⟩,_,_,r8,r9,r10⟩:=q4
                obtain⟨rel6,ext6,fr6⟩:=r4.put r5 (o:=.loop { rec .done (some (.exit id)) with state:=.exhausted }) r10 r9 (r4.noLoop q3)
                refine⟨_,_,q1,.inr ⟨rfl,q2,(some (.exit id)),(c3.w.putObj l (.loop (rec .done (some (.exit id))))).putObj l (.loop { rec .done (some (.exit id)) with state:=.exhausted }),by have:=run_endLoop (P:=P) q3 (by rw[hrec];simp);rw[hrec] at this ⊢;exact this,wpIn_exit ?_⟩⟩
                exact⟨tm,A3,{ c3 with w:=(c3.w.putObj l (.loop (rec .done (some (.exit id))))).putObj l (.loop { rec .done (some (.exit id)) with state:=.exhausted }) },⟨rfl,r2,r3,rel6,fr6,TR.mono ext6 r6,Ds5,r7.put q3⟩,hk3⟩
              | goto t=>exact hq3.elim
              | panic ch=>exact hq3.elim
              | outgrown=>exact hq3.elim
            | exit id=>obtain⟨_,_,_,_,h⟩:=hq;simp at h
            | ret=>obtain⟨_,_,_,_,h⟩:=hq;simp at h
            | goto t=>exact hq.elim
            | panic ch=>exact hq.elim
            | outgrown=>exact hq.elim
          · simp at hes
      refine callsIn_wide.2 (callsIn_wide.1 (Ziu (m:=0) hback hlen hcl (Z74 hes) (key len es A W1 { c with w:=W1 } hes h ?_)))
      have hDlt:∀ D ∈ Ds,D<c.w.heap.size:=fun D hD=>(Array.getElem?_eq_some_iff.1 (hm.at_ D hD).1).1
      have hm1:Marks lo { c with w:=W1 } a1 (c.w.heap.size::Ds):=by
        refine⟨?_,List.nodup_cons.2 ⟨fun h=>by have:=hDlt _ h;omega,hm.nodup⟩,fun D hD=> ?_⟩
        · rw[<-ha1];simp[hm.eq]
        · simp only [List.mem_cons] at hD
          rcases hD with rfl | hD
          · exact⟨hK1,by omega,fun h=>by have:=hrel.lt _ h;omega⟩
          · have := (hm.mono hrel frAB rfl).at_ D hD
            rw[<-hW1]
            exact this
      have hB:Betw c c0 lo (c.w.heap.size+1) tm a1 rec A W1 { c with w:=W1 }:=by
        refine⟨rfl,hA,hpr,?_,?_,?_,⟨_,hm1⟩,fun _ h=>h,fun b hb=> ?_,by rw[hl];exact hL1,fun h=>by have:=hrel.lt _ h;omega,by omega⟩
        · rw[<-hW1];exact relB
        · rw[<-hW1];exact hfr.trans frAB
        · rw[<-hW1,<-ha1];exact TR.mono frAB.toExt htr
        · rw[<-hW1];exact frAB.im b hb
      rw[hl] at hB
      exact hB
theorem Zbu {P:Program}{E:Env}{call:cT}(hbk:ED P E){f:Operand}{ps:Array Nat}{asg body:Code}{f':Opd}{ta tb:CT}(hf:Zx f=some f')(hps:ps.size=2)
    (ha:∀ F,Wd F->U5 P E call F asg ta) (hb:∀ F,Wd F->U5 P E call F body tb):U5 P E call Fence.wide (.rangeFunc f ps asg body) (RC f' ps.toList ta tb):=
  fun nb lv=>Zbt (E:={ E with nb0:=nb,live:=lv }) hbk hf hps (fun F hF m=>ha F hF m lv) (fun F hF m=>hb F hF m lv)
theorem Zhh {P:Program}{E:Env}{call:cT}(hok:CallsOk P E call)(hen:EntersOk P E call)(hdr:∀ nb lv,U3 P { E with nb0:=nb,live:=lv } call)(hbk:ED P E):∀(c:Code) (rg:Bool) (t:CT),QZ P rg c=some t->∀ F,Wd F->(rg=true->F=Fence.wide)->U5 P E call F c t:=by
  intro c
  induction c with
  | skip =>
    intro rg t ht F hF hrg nb lv n lo c0 r kn kx kr tm A a w cx hlo hn0 hn1 hs h
    simp[QZ] at ht;subst ht
    exact wpIn_skip ⟨tm,A,cx,hs,h⟩
  | region id ops draw =>
    intro rg t ht F hF hrg nb lv n lo c0 r kn kx kr tm A a w cx hlo hn0 hn1 hs h
    cases draw with
    | true=>exact hdr nb lv F n hF ops t id kn kx kr lo c0 cx r tm A a w (by simpa [QZ] using ht) hs h
    | false =>
      simp only[QZ] at ht
      cases hc:A9 P ops ops.toList with
      | none=>simp[hc] at ht
      | some ss =>
        simp[hc] at ht;subst ht
        refine wpIn_region ?_
        rw[<-List.append_nil (List.range ops.size)]
        refine Z07 (n:=n) hF (⟨hok.raw,hok.br⟩:CallsOk P { E with nb0:=nb,live:=lv } call) (⟨hen.raw,hen.br⟩:EntersOk P { E with nb0:=nb,live:=lv } call) (k:=kn) (rest:=[]) (Q:=KQ lo c0 r kn kx kr) (fun tm A a w c hs h=>(show KQ lo c0 r kn kx kr .normal a w from⟨tm,A,c,hs,h⟩)) _ ops.toList ss ?_ hc tm A a w cx hs h
        apply List.ext_getElem
        · simp
        · intro i h1 h2
          simp at h1
          simp[h1]
  | seq x y ihx ihy =>
    intro rg t ht F hF hrg nb lv n lo c0 r kn kx kr tm A a w cx hlo hn0 hn1 hs h
    simp only[QZ] at ht
    split at ht
    · rename_i tx ty hx hy
      simp at ht;subst ht
      refine wpIn_seq (wpIn_mono (ihx rg tx hx F hF hrg nb lv n lo c0 r (ty { E with nb0:=nb,live:=lv } call kn kx kr) kx kr tm A a w cx hlo hn0 hn1 hs h) ?_)
      intro e a' w' hq
      cases e with
      | normal =>
        obtain⟨tm',A',c',hs',h'⟩:=hq
        exact ihy rg ty hy F hF hrg nb lv n lo c0 r kn kx kr tm' A' a' w' c' hlo hn0 hn1 hs' h'
      | exit id=>exact hq
      | ret=>exact hq
      | goto l=>exact hq
      | panic ch=>exact hq
      | outgrown=>exact hq
    · simp at ht
  | cond c x y ihx ihy =>
    intro rg t ht F hF hrg nb lv n lo c0 r kn kx kr tm A a w cx hlo hn0 hn1 hs h
    simp only[QZ] at ht
    split at ht
    · rename_i cc tx ty hc hx hy
      simp at ht;subst ht
      have hv:=VR.look hs.tr hc
      simp only[cJ] at h
      have back:∀(key:Nat) (e:Exit) (a:Act) (w:World),KQ lo c0 r (C6 { E with nb0:=nb,live:=lv } key kn) kx kr e a w->KQ lo c0 r kn kx kr e a w:=by
        intro key e a w hq
        cases e with
        | normal =>
          obtain⟨tm,A,c,hs,h⟩:=hq
          exact Z2b (E:={ E with nb0:=nb,live:=lv }) hs hn0 hn1 h
        | exit id=>exact hq
        | ret=>exact hq
        | goto l=>exact hq
        | panic ch=>exact hq
        | outgrown=>exact hq
      have back:=back (2*F2 (.cond c x y)+1)
      unfold NS at h
      split at h
      · rename_i e
        rw[e] at hv
        exact wpIn_cond_true hv.bool_inv (wpIn_mono (ihx rg tx hx F hF hrg nb lv n lo c0 r _ kx kr tm A a w cx hlo hn0 hn1 hs h) back)
      · rename_i e
        rw[e] at hv
        exact wpIn_cond_false hv.bool_inv (wpIn_mono (ihy rg ty hy F hF hrg nb lv n lo c0 r _ kx kr tm A a w cx hlo hn0 hn1 hs h) back)
      · simp at h
    · simp at ht
  | block id c ih =>
    intro rg t ht F hF hrg nb lv n lo c0 r kn kx kr tm A a w cx hlo hn0 hn1 hs h
    simp only[QZ] at ht
    cases hc:QZ P rg c with
    | none=>simp[hc] at ht
    | some tc =>
      simp[hc] at ht;subst ht
      refine wpIn_block (wpIn_mono (ih rg tc hc F hF hrg nb lv n lo c0 r kn (KE id kn kx) kr tm A a w cx hlo hn0 hn1 hs h) ?_)
      intro e a' w' hq
      cases e with
      | normal=>exact hq
      | exit i =>
        obtain⟨tm',A',c',hs',h'⟩:=hq
        simp only[KE] at h'
        simp only[Exit.inBlock]
        by_cases hi:i=id
        · subst hi
          simp at h'
          rw[if_pos rfl]
          exact⟨tm',A',c',hs',h'⟩
        · have hb:Nat.beq i id=false:=by
            cases hq2:Nat.beq i id with
            | false=>rfl
            | true=>exact absurd (Nat.eq_of_beq_eq_true hq2) hi
          rw[hb] at h'
          simp at h'
          rw[if_neg hi]
          exact⟨tm',A',c',hs',h'⟩
      | ret=>exact hq
      | goto l=>exact hq
      | panic ch=>exact hq
      | outgrown=>exact hq
  | loop c ih =>
    intro rg t ht F hF hrg nb lv m lo c0 r kn kx kr tm A a w cx hlo hn0 hn1 hs h
    simp only[QZ] at ht
    cases hc:QZ P rg c with
    | none=>simp[hc] at ht
    | some tc =>
      simp[hc] at ht;subst ht
      refine XE (fun n a w=>∃ tm A cz,SR lo c0 tm A a w cz/\Z9 (2*F2 c) tc { E with nb0:=nb,live:=lv } call kx kr n tm A=some r) ?_ 1000000000000000000000000000000 a w ⟨tm,A,cx,hs,h⟩
      rintro n a w ⟨tm,A,c',hs,h⟩
      cases n with
      | zero=>simp[Z9] at h
      | succ n =>
        simp only[Z9] at h
        obtain⟨tm2,A2,c2,hs2,h2⟩:=Z2b (E:={ E with nb0:=nb,live:=lv }) hs hn0 hn1 h
        refine⟨n,rfl,wpIn_mono (ih rg tc hc F hF hrg nb lv m lo c0 r (Z9 (2*F2 c) tc { E with nb0:=nb,live:=lv } call kx kr n) kx kr tm2 A2 a w c2 hlo hn0 hn1 hs2 h2) ?_⟩
        intro e a' w' hq
        cases e with
        | normal=>exact hq
        | exit i=>exact hq
        | ret=>exact hq
        | goto l=>exact hq
        | panic ch=>exact hq
        | outgrown=>exact hq
  | exit id =>
    intro rg t ht F hF hrg nb lv n lo c0 r kn kx kr tm A a w cx hlo hn0 hn1 hs h
    simp[QZ] at ht;subst ht
    exact wpIn_exit ⟨tm,A,cx,hs,h⟩
  | label l =>
    intro rg t ht F hF hrg nb lv n lo c0 r kn kx kr tm A a w cx hlo hn0 hn1 hs h
    simp[QZ] at ht;subst ht
    exact wpIn_label ⟨tm,A,cx,hs,h⟩
  | ret =>
    intro rg t ht F hF hrg nb lv n lo c0 r kn kx kr tm A a w cx hlo hn0 hn1 hs h
    simp[QZ] at ht;subst ht
    exact wpIn_ret ⟨tm,A,cx,hs,h⟩
  | scope c ih=>intro rg t ht;cases rg<;>simp[QZ] at ht
  | goto l=>intro rg t ht;cases rg<;>simp[QZ] at ht
  | refuse s=>intro rg t ht;cases rg<;>simp[QZ] at ht
  | rangeFunc f ps a b iha ihb =>
    intro rg t ht F hF hrg
    cases rg with
    | false=>simp[QZ] at ht
    | true =>
      obtain rfl:=hrg rfl
      simp only[QZ] at ht
      split at ht
      · rename_i f' ta tb hf h1 h2
        split at ht
        · rename_i hps
          simp at ht;subst ht
          exact Zbu hbk hf hps (fun F hF=>iha false ta h1 F hF (by simp)) (fun F hF=>ihb false tb h2 F hF (by simp))
        · simp at ht
      · simp at ht
end Go.Aug
