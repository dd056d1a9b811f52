import Derived.Test.YtmfdoekbjkgckaaGreatEvU
import Derived.RangeFuncLeaves
namespace Go.Aug
open Go
def KZ (tmps:Array Value):ResultVar->Sem Value
 | .tmp t=>pure (tmps.getD t undef)
 | .cell p t=>do loadVar t (<-asAddr (tmps.getD p undef))
def PM (vs:Array Value):Value:=if h:vs.size=1 then vs[0] else .tuple vs
theorem Za9 (fn:Func)(tmps:Array Value):results fn tmps=(fn.results.mapM (KZ tmps)).bind fun vs=>Sem.pure (PM vs):=by
 unfold results PM
 have:(fun r=>match r with | .tmp t=>pure (tmps.getD t undef) | .cell a t=>do loadVar t (<-asAddr (tmps.getD a undef)):ResultVar->Sem Value)=KZ tmps:=by
  funext r;cases r<;>rfl
 rw[<-this]
 rfl
theorem Z0r {P:Program}{fn:Func}{tmps:Array Value}{w:World}{vs:Array Value}(h:(fn.results.mapM (KZ tmps)).run P w=.ok vs w):(results fn tmps).run P w=.ok (PM vs) w:=by
 rw[Za9,Sem.run_bind',h]
 rfl
theorem WQ {P:Program}{c:Cx}(hr:Rel c){tm:List AV}{a:Act}(ht:TR c tm a):∀(rs:List ResultVar) (is:List IRes) (xs:List AV),F8 P rs=some is->JW tm c.A is=some xs->
  ∃ Xs:List Value,VRs c xs Xs/\(rs.mapM (KZ a.tmps):Sem (List Value)).run P c.w=.ok Xs c.w
 | [],is,xs,h,hx=>by
  simp[F8] at h;subst h
  simp[JW] at hx;subst hx
  exact⟨[],.nil,by simp⟩
 | .tmp t::rs,is,xs,h,hx=>by
  simp only[F8] at h
  cases hq:F8 P rs with
  | none=>simp[hq] at h
  | some js=>
   simp[hq] at h;subst h
   simp only[JW,R5] at hx
   cases hy:JW tm c.A js with
   | none=>simp[hy] at hx
   | some ys=>
    simp[hy] at hx;subst hx
    obtain⟨Xs,hv,hrun⟩:=WQ hr ht rs js ys hq hy
    have h0:=VRs.nth ht.2 t
    rw[Tw] at h0
    refine⟨a.tmps.getD t undef::Xs,.cons h0 hv,?_⟩
    rw[List.mapM_cons]
    simp only[KZ,Sem.run_bind,Sem.run_pure,Result.andThen_ok,hrun]
 | .cell p t::rs,is,xs,h,hx=>by
  simp only[F8] at h
  split at h
  ·rename_i ag n js h1 h2 hq
   simp at h;subst h
   simp only[JW,R5] at hx
   cases hl:DQ c.A (ZM tm p) ag n with
   | none=>simp[hl] at hx
   | some y=>
    cases hy:JW tm c.A js with
    | none=>simp[hl,hy] at hx
    | some ys=>
     simp[hl,hy] at hx;subst hx
     obtain⟨Xs,hv,hrun⟩:=WQ hr ht rs js ys hq hy
     have h0:=VRs.nth ht.2 p
     rw[Tw] at h0
     obtain⟨Y,hY,hvY⟩:=Z5h (P:=P) hr h1 h2 h0 (fun _ _ _ _ _ h=>h) hl
     refine⟨Y::Xs,.cons hvY hv,?_⟩
     rw[List.mapM_cons]
     have hload:(do loadVar t (<-asAddr (a.tmps.getD p undef)):Sem Value).run P c.w=.ok Y c.w:=by
      cases hp:a.tmps.getD p undef with
      | pointer q=>
       cases q with
       | some q=>rw[hp] at hY;simpa [Instr.loadAt,Instr.sureAddr,asAddr] using hY
       | none=>rw[hp] at hY;simp[Instr.loadAt,Instr.sureAddr] at hY
      | _=>rw[hp] at hY;simp[Instr.loadAt,Instr.sureAddr] at hY
     simp only[KZ,Sem.run_bind] at hload ⊢
     rw[hload]
     simp only[Result.andThen_ok,hrun,Sem.run_pure]
  ·simp at h
theorem Zf8 {P:Program}{fn:Func}{is:List IRes}(hres:F8 P fn.results.toList=some is){lo:Nat}{c0 c:Cx}{tm:List AV}{A:List Blk}{a:Act}{w:World}(hs:SR lo c0 tm A a w c){x:AV}{A':List Blk}(h:GM A (JW tm A is)=some (x,A')):
  ∃ X,(results fn a.tmps).run P w=.ok X w/\B9 c0 x A' (.returned X) w:=by
 obtain⟨rfl,rfl,hpr,hrel,hfr,htr,hdf⟩:=hs
 cases hx:JW tm c.A is with
 | none=>simp[hx,GM] at h
 | some xs=>
  obtain⟨Xs,hv,hrun⟩:=WQ (P:=P) hrel htr _ _ _ hres hx
  have hrun':(fn.results.mapM (KZ a.tmps):Sem (Array Value)).run P c.w=.ok Xs.toArray c.w:=by
   rw[Array.mapM_eq_mapM_toList]
   simp only[Sem.run_map,hrun,Result.andThen_ok]
  have hl:=hv.length
  rw[hx] at h
  have fin:∀(X:Value),(results fn a.tmps).run P c.w=.ok X c.w->VR c x X->A'=c.A->∃ X,(results fn a.tmps).run P c.w=.ok X c.w/\B9 c0 x A' (.returned X) c.w:=
   fun X h1 h2 h3=>⟨X,h1,X,c,rfl,rfl,hfr,hrel,h2,h3.symm,fun i=>by rw[h3];exact hpr i⟩
  unfold GM at h
  split at h
  ·rename_i y e
   simp at e h
   obtain⟨rfl,rfl⟩:=h
   subst e
   cases hv with
   | cons h0 hv=>
    cases hv
    refine fin _ ?_ h0 rfl
    rw[Z0r hrun']
    simp[PM]
  ·rename_i ys hne e
   simp at e h
   obtain⟨rfl,rfl⟩:=h
   subst e
   refine fin (.tuple Xs.toArray) ?_ (.tup (by simpa using hv)) rfl
   rw[Z0r hrun']
   have:Xs.length≠1:=by
    intro e1
    rw[<-hl] at e1
    obtain⟨y,hy⟩:=List.length_eq_one_iff.1 e1
    exact hne y hy
   simp[PM,this]
  ·simp at h
theorem Zf7 {P:Program}{fn:Func}{is:List IRes}(hres:F8 P fn.results.toList=some is){lo:Nat}{c0 c:Cx}{tm:List AV}{A:List Blk}{a:Act}{w:World}(hs:SR lo c0 tm A a w c){x:AV}{A':List Blk}{n0:Nat}(h0:∀ i,c0.Pr i->i<n0)(h0':c0.A.length<=n0)(h:YD n0 is tm A=some (x,A')):
  ∃ X,(results fn a.tmps).run P w=.ok X w/\B9 c0 x A' (.returned X) w:=by
 unfold YD at h
 cases hpk:GM A (JW tm A is) with
 | none=>simp[hpk,Cj] at h
 | some q=>
  obtain⟨y,B⟩:=q
  rw[hpk] at h
  obtain⟨X,h1,h2⟩:=Zf8 hres hs hpk
  exact⟨X,h1,Zgv h0 h0' h2 h⟩
theorem VK {P:Program}{fn:Func}{is:List IRes}(hres:F8 P fn.results.toList=some is){c0:Cx}{tm:List AV}{A:List Blk}{x:AV}{A':List Blk}{n0:Nat}(h0:∀ i,c0.Pr i->i<n0)(h0':c0.A.length<=n0)(h:YD n0 is tm A=some (x,A'))(n:Nat):∀(Ds:List Nat) (c:Cx) (a:Act) (w:World),
  SR c0.w.heap.size c0 tm A a w c->Marks c0.w.heap.size c a Ds->LeavesInM Fence.wide n P fn a.tmps (B9 c0 x A') a.defers .returning w
 | [],c,a,w,hs,hm=>by
  rw[hm.eq]
  obtain⟨X,h1,h2⟩:=Zf7 hres hs h0 h0' h
  simp only[List.map_nil,LeavesInM,LeavesIn]
  exact⟨X,h1,h2⟩
 | D::Ds,c,a,w,hs,hm=>by
  rw[hm.eq]
  obtain⟨h1,h2,h3⟩:=hm.at_ D (by simp)
  have hw:=hs.eqw
  subst hw
  obtain⟨rel,ext,fr⟩:=hs.rel.put hs.fr (o:=.deferred none) h2 h3 (hs.rel.noPr h1)
  have hm':Marks c0.w.heap.size { c with w:=c.w.putObj D (.deferred none) } { a with defers:=Ds.map NA } Ds:=by
   refine⟨rfl,(List.nodup_cons.1 hm.nodup).2,fun D' hD'=> ?_⟩
   obtain⟨g1,g2,g3⟩:=hm.at_ D' (by simp[hD'])
   refine⟨?_,g2,g3⟩
   have hne:D'≠D:=fun e=>(List.nodup_cons.1 hm.nodup).1 (e ▸ hD')
   exact(World.putObj_heap_other hne).trans g1
  have:=VK hres h0 h0' h n Ds { c with w:=c.w.putObj D (.deferred none) } { a with defers:=Ds.map NA } _ ⟨rfl,hs.eqA,hs.pr,rel,fr,TR.mono ext hs.tr,Ds,hm'⟩ hm'
  simp only[List.map_cons,LeavesInM]
  exact⟨by simp,.inl ⟨D,_,rfl,run_takeDeferred h1,this⟩⟩
theorem Zg6 {P:Program}{E:Env}{call:cT}(hok:CallsOk P E call)(hen:EntersOk P E call)(hdr:∀ nb lv,U3 P { E with nb0:=nb,live:=lv } call)(hbk:ED P E){f:FuncId}{F:Env->cT->cT}(hF:GA P f=some F){args:List AV}{A:List Blk}{x:AV}{A':List Blk}
  (h:F E call f args A=some (x,A')) {c:Cx} {args':Array Value} (hr:Rel c) (hgl:Gl c.I c.w) (hA:c.A=A) (hp:∀ i,c.Pr i↔i<A.length) (hv:VRs c args args'.toList):Calls P f args' c.w (B9 c x A'):=by
 unfold GA at hF
 split at hF
 ·rename_i fn hfn
  split at hF
  ·rename_i code hcode
   split at hF
   ·simp at hF
   ·split at hF
    ·rename_i t is ht his
     simp at hF;subst hF
     simp only[Y7] at h
     have hlen:args.length=args'.size:=by have:=hv.length;simpa using this
     have hs:SR c.w.heap.size c (args++FB (fn.ntmps-args.length)) A { tmps:=args'++Array.replicate (fn.ntmps-args'.size) undef,defers:=[] } c.w c:=
      ⟨rfl, hA, hp, hr, Fr.refl c, ⟨hgl, by
       show VRs c _ (args'++Array.replicate (fn.ntmps-args'.size) undef).toList
       rw[Array.toList_append,hlen]
       exact hv.append (by simpa using Uq (c:=c) (fn.ntmps-args'.size))⟩,[],rfl,by simp,by simp⟩
     refine callsIn_wide.1 (callsIn_of_wp_marks (n:=0) hfn hcode trivial (wpIn_mono (Zhh hok hen hdr hbk code true t ht Fence.wide Wd.wide (fun _=>rfl) A.length (E.lives f) 0 _ c _ _ _ _ _ A _ c.w c (Nat.le_refl _) (fun i hi=>(hp i).1 hi) (by rw[hA];exact Nat.le_refl _) hs h) ?_))
     intro e a w hq
     cases e with
     | normal=>
      obtain⟨tm,A2,c2,hs2,h2⟩:=hq
      obtain⟨Ds,hm⟩:=hs2.defers
      exact VK his (fun i hi=>(hp i).1 hi) (by rw[hA];exact Nat.le_refl _) h2 0 Ds c2 a w hs2 hm
     | ret=>
      obtain⟨tm,A2,c2,hs2,h2⟩:=hq
      obtain⟨Ds,hm⟩:=hs2.defers
      exact VK his (fun i hi=>(hp i).1 hi) (by rw[hA];exact Nat.le_refl _) h2 0 Ds c2 a w hs2 hm
     | exit id=>
      obtain⟨tm,A2,c2,hs2,h2⟩:=hq
      simp at h2
     | goto l=>exact hq
     | panic ch=>exact hq.elim
     | outgrown=>exact hq.elim
    ·simp at hF
  ·simp at hF
 ·simp at hF
theorem Z6r {P:Program}{f:FuncId}{F:Env->cT->cT}(hF:GA P f=some F):Enters P f:=by
 unfold GA at hF
 split at hF
 ·rename_i fn hfn
  split at hF
  ·rename_i code hcode
   split at hF
   ·simp at hF
   ·rename_i hne
    exact⟨fn,hfn,by simp[hcode],by simpa using hne⟩
  ·simp at hF
 ·simp at hF
def KN (P:Program)(E:Env):Prop:=
 ∀ f g,E.prim f=some g->Enters P f/\∀ ds x Ac,g ds=some (x,Ac)->∀(I:Nat->Prop) (w:World) (args:Array Value),(∀ b,I b->b<w.heap.size)->Gl I w->DRs I w ds args.toList->Calls P f args w (MN I w x Ac)
theorem SE {I:Nat->Prop}{w:World}{x:AV}{Ac:List Blk}{e:Ending}{w':World}(h:B9 ⟨I,fun _=>0,w,[],fun _=>False⟩ x Ac e w'):MN I w x Ac e w':=by
 obtain⟨X,c',rfl,rfl,fr,rel,hv,hA,_⟩:=h
 refine⟨X,c',rfl,rfl,⟨fr.os,fr.tape,fr.output,fr.size,fun k hk=>fr.keep k hk fun i hp _=>hp.elim⟩,rel,hA,hv,fr.I,fun b hb=> ?_,fun i hp ho=> ?_⟩
 ·rcases fr.imm b hb with h | h | ⟨i, hp, _⟩
  ·exact .inl h
  ·exact .inr h
  ·exact hp.elim
 ·rcases Nat.lt_or_ge (c'.ρ i) w.heap.size with h | h
  ·exact(fr.old i hp ho h).1.elim
  ·exact h
def RT (P:Program)(f:FuncId)(F:Env->cT->cT):Prop:=
 Enters P f/\∀ E call args A x A',F E call f args A=some (x,A')->∀(c:Cx) (args':Array Value),Rel c->Gl c.I c.w->c.A=A->(∀ i,c.Pr i↔i<A.length)->VRs c args args'.toList->Calls P f args' c.w (B9 c x A')
def RR (P:Program)(f:FuncId)(F:Env->cT->cT):Prop:=GA P f=some F∨RT P f F
theorem Zgl {P:Program}{E:Env}{fn:FuncId->Option (Env->cT->cT)}(hfn:∀ f F,fn f=some F->RR P f F)(hprim:KN P E)(hbk:ED P E)(hdr:∀ call,CallsOk P E call->EntersOk P E call->∀ nb lv,U3 P { E with nb0:=nb,live:=lv } call):∀ n,
  CallsOk P E (Z5 E fn n)/\EntersOk P E (Z5 E fn n)/\∀ f args A x A',Z5 E fn n f args A=some (x,A')->∀(c:Cx) (args':Array Value),Rel c->Gl c.I c.w->c.A=A->(∀ i,c.Pr i↔i<A.length)->VRs c args args'.toList->Calls P f args' c.w (B9 c x A'):=by
 have base:∀ call:cT,(∀ f args A x A',call f args A=some (x,A')->∀(c:Cx) (args':Array Value),Rel c->Gl c.I c.w->c.A=A->(∀ i,c.Pr i↔i<A.length)->VRs c args args'.toList->Calls P f args' c.w (B9 c x A'))->
   (∀ f args A r,call f args A=some r->Enters P f)->CallsOk P E call/\EntersOk P E call:=by
  intro call h1 h2
  refine⟨⟨?_,fun f args A x A' _ hc c args'=>h1 f args A x A' hc c args'⟩,⟨?_,fun f args A r _ hc=>h2 f args A r hc⟩⟩
  ·intro f ds x Ac hraw I w args hI hgl hd
   unfold Jz at hraw
   split at hraw
   ·rename_i g hg
    exact(hprim f g hg).2 ds x Ac hraw I w args hI hgl hd
   ·refine(h1 f _ [] x Ac hraw ⟨I,fun _=>0,w,[],fun _=>False⟩ args ⟨fun i b hp=>hp.elim,fun i j hp=>hp.elim,hI⟩ hgl rfl (fun i=>by simp) (VRs.ofD hd)).mono fun e w' h=>SE h
  ·intro f ds r hraw
   unfold Jz at hraw
   split at hraw
   ·rename_i g hg
    exact(hprim f g hg).1
   ·exact h2 f _ [] r hraw
 intro n
 induction n with
 | zero=>
  have h1:∀ f args A x A',Z5 E fn 0 f args A=some (x,A')->∀(c:Cx) (args':Array Value),Rel c->Gl c.I c.w->c.A=A->(∀ i,c.Pr i↔i<A.length)->VRs c args args'.toList->Calls P f args' c.w (B9 c x A'):=by
   intro f args A x A' h;simp[Z5] at h
  obtain⟨a,b⟩:=base _ h1 (by intro f args A r h;simp[Z5] at h)
  exact⟨a,b,h1⟩
 | succ n ih=>
  obtain⟨i1,i2,_⟩:=ih
  have hd:=hdr _ i1 i2
  have h1:∀ f args A x A',Z5 E fn (n+1) f args A=some (x,A')->∀(c:Cx) (args':Array Value),Rel c->Gl c.I c.w->c.A=A->(∀ i,c.Pr i↔i<A.length)->VRs c args args'.toList->Calls P f args' c.w (B9 c x A'):=by
   intro f args A x A' h c args' hr hgl hA hp hv
   simp only[Z5] at h
   cases hF:fn f with
   | none=>simp[hF,H7] at h
   | some F=>
    simp only[hF,H7] at h
    rcases hfn f F hF with hc | hc
    ·exact Zg6 i1 i2 hd hbk hc h hr hgl hA hp hv
    ·exact hc.2 _ _ args A x A' h c args' hr hgl hA hp hv
  have h2:∀ f args A r,Z5 E fn (n+1) f args A=some r->Enters P f:=by
   intro f args A r h
   simp only[Z5] at h
   cases hF:fn f with
   | none=>simp[hF,H7] at h
   | some F=>
    rcases hfn f F hF with hc | hc
    ·exact Z6r hc
    ·exact hc.1
  obtain⟨a,b⟩:=base _ h1 h2
  exact⟨a,b,h1⟩
end Go.Aug
