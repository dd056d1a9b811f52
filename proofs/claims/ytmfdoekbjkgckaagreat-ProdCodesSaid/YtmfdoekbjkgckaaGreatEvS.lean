import Derived.Test.YtmfdoekbjkgckaaGreatEvF
import Derived.OrdersIn
import Derived.RangeFuncRecord
namespace Go.Aug
open Go
def Enters (P : Program)(f : FuncId) : Prop := ∃ fn, P.funcs[f]? = some fn /\ fn.body.isSome = true /\ (fn.name == "runtime.NumGoroutine") = false
structure EntersOk (P:Program) (E:Env) (call:cT):Prop where
 raw:∀ f ds r,Jz E call f ds=some r->Enters P f
 br:∀ f args A r,ZW f E.br=true->call f args A=some r->Enters P f
theorem W9 {P:Program}{E:Env}{call:cT}(hok:EntersOk P E call){f:FuncId}{args:List AV}{A:List Blk}{nb:Nat}{d:Done}(h:DS E call f args A nb=some d):Enters P f:=by
 unfold DS at h
 cases hbr:ZW f E.br with
 | true=>
  rw[hbr] at h
  simp only[cond_true] at h
  obtain⟨x,B,hc,_⟩:=X2 h
  exact hok.br f _ _ _ hbr hc
 | false=>
  rw[hbr] at h
  simp only[cond_false] at h
  cases hm:Y8 (deep A 8) args with
  | none=>simp[hm,MA] at h
  | some p=>
   obtain⟨ds,used⟩:=p
   simp only[hm,MA] at h
   cases hraw:Jz E call f (ds.map (fk 4)) with
   | none=>simp[hraw,G8] at h
   | some q=>exact hok.raw f _ q hraw
theorem Z0s {P:Program}{f:FuncId}(h:Enters P f)(args:Array Value)(w:World):(callFunc f args).run P w=.ok (.enter f args) w:=by
 obtain⟨fn,h1,h2,h3⟩:=h
 have h4:fn.body.isNone=false:=by
  cases hq:fn.body with
  | none=>simp[hq] at h2
  | some _=>rfl
 simp only[callFunc,Sem.run_bind,run_program,Result.andThen_ok,h1,h3,h4]
 simp
def NA (D:Nat):Deferred:={ target:=.collected D,args:= #[] }
structure Marks (lo:Nat) (c:Cx) (a:Act) (Ds:List Nat):Prop where
 eq:a.defers=Ds.map NA
 nodup:Ds.Nodup
 at_:∀ D ∈ Ds,c.w.heap[D]? =some (.deferred (some []))/\lo<=D/\¬c.I D
theorem Rel.noOwn {c:Cx}(h:Rel c){D:Nat}{ds:Option (List Deferred)}(hD:c.w.heap[D]? =some (.deferred ds)):∀ i,c.Pr i->YG c.A i->c.ρ i≠D:=by
 rintro i hp ⟨b,hb,_⟩ e
 obtain⟨o,h1,h2,_⟩:=h.blk i b hp hb
 rw[e,hD] at h1
 simp at h1
 subst h1
 cases b with
 | cells cs v ro=>obtain⟨C,e',h3,_⟩:=h2;simp at h3
 | iter s p=>simp[Aq] at h2
 | free=>exact h2
theorem Marks.mono {lo:Nat}{c c':Cx}{a:Act}{Ds:List Nat}(h:Marks lo c a Ds)(hr:Rel c)(f:Fr c c'){a':Act}(ha:a'.defers=a.defers):Marks lo c' a' Ds:=by
 refine⟨ha.trans h.eq,h.nodup,fun D hD=> ?_⟩
 obtain⟨h1,h2,h3⟩:=h.at_ D hD
 have hlt:D<c.w.heap.size:=(Array.getElem?_eq_some_iff.1 h1).1
 refine⟨by rw[f.keep D hlt (hr.noOwn h1)];exact h1,h2,fun hI=> ?_⟩
 rcases f.imm D hI with h | h | ⟨i,p,o,e⟩
 ·exact h3 h
 ·omega
 ·exact hr.noOwn h1 i p o e
structure SR (lo:Nat) (c0:Cx) (tm:List AV) (A:List Blk) (a:Act) (w:World) (c:Cx):Prop where
 eqw:c.w=w
 eqA:c.A=A
 pr:∀ i,c.Pr i↔i<A.length
 rel:Rel c
 fr:Fr c0 c
 tr:TR c tm a
 defers:∃ Ds,Marks lo c a Ds
theorem TR.put {c:Cx}{tm:List AV}{a:Act}(h:TR c tm a){dst:Option Nat}{x:AV}{X:Value}(hx:VR c x X):TR c (YN tm dst x) (a.put dst X):=by
 cases dst with
 | none=>exact h
 | some t=>
  refine⟨h.1,?_⟩
  show VRs c (Bk tm t x) ((a.tmps.setIfInBounds t X).toList)
  rw[Array.toList_setIfInBounds]
  exact VRs.set h.2 t hx
theorem M0 (a:Act)(dst:Option Nat)(X:Value):(a.put dst X).defers=a.defers:=by cases dst<;>rfl
theorem SR.same {lo:Nat}{c0 c:Cx}{tm:List AV}{A:List Blk}{a:Act}{w:World}(h:SR lo c0 tm A a w c){dst:Option Nat}{x:AV}{X:Value}(hx:VR c x X):SR lo c0 (YN tm dst x) (A++[]) (a.put dst X) w c:=by
 rw[List.append_nil]
 exact⟨h.eqw,h.eqA,h.pr,h.rel,h.fr,TR.put h.tr hx,h.defers.imp fun _ m=>m.mono h.rel (Fr.refl c) (M0 _ _ _)⟩
theorem SR.step {lo:Nat}{c0 c c':Cx}{tm:List AV}{A A':List Blk}{a:Act}{w w':World}(h:SR lo c0 tm A a w c)(hw:c'.w=w')(hA:c'.A=A')(hp:∀ i,c'.Pr i↔i<A'.length)(hr:Rel c')(hf:Fr c c'){dst:Option Nat}{x:AV}{X:Value}
  (hx:VR c' x X):SR lo c0 (YN tm dst x) A' (a.put dst X) w' c':=
 ⟨hw,hA,hp,hr,h.fr.trans hf,TR.put (TR.mono hf.toExt h.tr) hx,h.defers.imp fun _ m=>m.mono h.rel hf (M0 _ _ _)⟩
def Zji (lo:Nat)(c0:Cx)(tm:List AV)(A:List Blk)(dst:Option Nat)(a:Act)(next:Act->World->Prop)(d:Done):Prop:=
 match d with
 | .made x bs=>∀ X w' c',SR lo c0 (YN tm dst x) (A++bs) (a.put dst X) w' c'->next (a.put dst X) w'
 | .turned x A1=>∀ X w' c',SR lo c0 (YN tm dst x) A1 (a.put dst X) w' c'->next (a.put dst X) w'
theorem Zib {P:Program}{t:TypeId}{y:Operand}{lo hi mx:Option Operand}{f:Zw}{n:Nat}{e:TypeId}(hu:P.underlying t=some (.array n e))(h:ZN P (.slice t y lo hi mx)=some f):
  ∃ x lo' hi' mx' s,Zx y=some x/\AQ lo=some lo'/\AQ hi=some hi'/\AQ mx=some mx'/\Q0 P e=some s/\f=PQ x lo' hi' mx' n s:=by
 simp only[ZN,hu] at h
 split at h
 ·rename_i hq _ _ _ _;simp at hq
 ·rename_i hq _ _ _ _;simp at hq
 ·rename_i n' e' x lo' hi' mx' hq hx h1 h2 h3
  simp at hq
  obtain⟨rfl,rfl⟩:=hq
  cases hs:Q0 P e with
  | none=>simp[hs] at h
  | some s=>simp[hs] at h;exact⟨x,lo',hi',mx',s,hx,h1,h2,h3,rfl,h.symm⟩
 ·simp at h
theorem UH {P:Program}{c:Cx}(hr:Rel c){tm:List AV}{a:Act}(ht:TR c tm a){A:List Blk}(hA:Agr c A){o:Oper}{t:TypeId}{y:Operand}{lo hi mx:Option Operand}{f:Zw}{n:Nat}{e:TypeId}{E:Env}{call:cT}{nb:Nat}{d:Done}
  (ho:o.op=.slice t y lo hi mx) (hu:P.underlying t=some (.array n e)) (h:ZN P (.slice t y lo hi mx)=some f) (hd:f E call tm A nb=some d):
  ∃ x X,d=.made x []/\(execOp a.eval o).run P c.w=.ok (.value X) c.w/\VR c x X:=by
 obtain⟨x,lo',hi',mx',s,hx,h1,h2,h3,hs,rfl⟩:=Zib hu h
 obtain⟨y',hy,rfl⟩:=one?_inv hd
 have hX:=VR.look ht hx
 have runS:∀(b of l h m:Nat),a.eval y=.pointer (some ⟨b,of,none⟩)->JX n tm lo' hi' mx'=some (l,h,m)->
   (execOp a.eval o).run P c.w=.ok (.value (.slice (some (if(if mx'.isSome then m else n)=l then⟨b,of,none⟩ else⟨b,of+l*s,none⟩)) (h-l) ((if mx'.isSome then m else n)-l))) c.w:=by
  intro b of l h m e1 hb
  simp only[execOp,ho]
  apply QD
  rw[e1]
  simp only[Instr.sliceAt,Sem.run_bind,run_underlying hu,Result.andThen_ok,Instr.sureAddr,(H6 (P:=P) ht h1 h2 h3 hb (Nat.le_refl _) c.w).1,E3 hs,Sem.run_pure,Addr.add_mk]
 have hmn:∀ l h m,JX n tm lo' hi' mx'=some (l,h,m)->(if mx'.isSome then m else n)=m:=by
  intro l h m hb
  by_cases hm:mx'.isSome
  ·rw[if_pos hm]
  ·rw [if_neg hm]
   unfold JX at hb
   split at hb
   ·rename_i m' h' l' em eh el
    split at hb
    ·simp at hb
     obtain⟨_,_,rfl⟩:=hb
     cases mx' with
     | none=>simp[CP] at em;exact em
     | some _=>simp at hm
    ·simp at hb
   ·simp at hb
 unfold R4 at hy
 split at hy
 ·rename_i i ver off e1
  rw[e1] at hX
  split at hy
  ·rename_i l h m cs hb hc
   obtain⟨_,hlh,hhm,hml⟩:=H6 (P:=P) (isS:=false) ht h1 h2 h3 hb (Nat.le_refl _) c.w
   split at hy
   ·simp at hy
   ·rename_i hne
    simp only[not_or,not_and,Nat.not_lt] at hne
    obtain⟨hne,hcl,hns⟩:=hne
    simp at hy;subst hy
    have hme:=hmn _ _ _ hb
    obtain⟨hXe,hp⟩:=hX.ref_inv (hA.ver _ _ (Rz hc))
    obtain⟨hver,Xs,_,_,hbz⟩:=hr.cellsAt hp (fun b=>hA.pr _ b hp) hc
    have hrun:=runS _ _ _ _ _ hXe hb
    rw[hme] at hrun
    have haddr:(if m=l then(⟨c.ρ i,off,none⟩:Addr) else⟨c.ρ i,off+l*s,none⟩)=⟨c.ρ i,off+l*s,none⟩:=by
     split
     ·rename_i hml'
      have hlh':l=h:=by omega
      have:¬(l≠0):=fun h0=>by
       have:=hne hlh'
       exact h0 (by omega)
      have:l=0:=by omega
      subst this;simp
     ·rfl
    rw[haddr] at hrun
    refine⟨_,_,rfl,hrun,.sref hp hver (by omega) (fun q hq=>by simpa using hq) ?_ (by simp)⟩
    have e2:off+l*s+(m-l)*s=off+m*s:=by
     rw[Nat.add_assoc,<-Nat.add_mul];congr 2;omega
    rw[e2]
    have hle:m*s<=n*s:=Nat.mul_le_mul_right s hml
    have hbz':=hbz (by intro e;subst e;simp at hcl;omega)
    omega
  ·simp at hy
 ·rename_i cs e1
  rw[e1] at hX
  split at hy
  ·rename_i l h m hb
   obtain⟨_,hlh,hhm,hml⟩:=H6 (P:=P) (isS:=false) ht h1 h2 h3 hb (Nat.le_refl _) c.w
   split at hy
   ·simp at hy
   ·rename_i hne
    simp at hy;subst hy
    have hme:=hmn _ _ _ hb
    obtain⟨b,of,hX,hI,hm⟩:=hX.vptr_inv
    have hr:=runS _ _ _ _ _ hX hb
    rw[hme] at hr
    rw[if_neg (by omega)] at hr
    exact⟨_,_,rfl,hr,.d (.lst hI (by omega) (fun k hk=>by simpa using hk) ((hm.drop _).take _))⟩
  ·simp at hy
 ·simp at hy
theorem Z3h {c:Cx}{k:IntKind}:∀ {xs:List AV} {Xs:List Value} {ns:List Int},VRs c xs Xs->EZ k xs=some ns->Xs=ns.map (Value.int k)
 | [],_,ns,.nil,h=>by simp[EZ] at h;subst h;rfl
 | x::xs,_,ns,.cons hx hs,h=>by
  unfold EZ at h
  split at h
  ·rename_i e;simp at e
  ·rename_i k' n rest e
   simp at e
   obtain⟨rfl,rfl⟩:=e
   split at h
   ·rename_i hk
    subst hk
    cases hb:EZ k' xs with
    | none=>simp[hb] at h
    | some l=>
     simp[hb] at h;subst h
     rw[hx.int_inv,Z3h hs hb]
     rfl
   ·simp at h
  ·simp at h
theorem Z00 {P:Program}{c:Cx}(hr:Rel c){tm:List AV}{a:Act}(ht:TR c tm a){A:List Blk}(hA:Agr c A){o:Oper}{s t e:TypeId}{y:Operand}{x:Opd}{r:Bool}{z:AV}
  (ho:o.op=.convert s t y) (hx:Zx y=some x) (hs:P.underlying s=some (.slice e)) (hu:P.underlying t=some .string) (he:P.underlying e=some (.int (if r then .i32 else .u8))) (h:K7 A r (look tm x)=some z):
  ∃ X,(execOp a.eval o).run P c.w=.ok (.value X) c.w/\VR c z X:=by
 have hX:=VR.look ht hx
 unfold K7 at h
 split at h
 ·rename_i cs hcs
  split at h
  ·rename_i ns hns
   simp at h;subst h
   refine⟨_,?_,VR.vv rfl⟩
   have conv:∀(Y:Value),a.eval y=Y->(∃ b l cp,Y=.slice b l cp)->((if r then Conv.runesToString Y else Conv.bytesToString Y).run P c.w=.ok (.string (if r then runesBytes ns else JP ns)) c.w)->
     (execOp a.eval o).run P c.w=.ok (.value (.string (if r then runesBytes ns else JP ns))) c.w:=by
    intro Y hY hsh hrun
    obtain⟨b,l,cp,rfl⟩:=hsh
    simp only[execOp,ho,hY]
    apply QD
    cases r with
    | true=>
     simp only[Go.convert,Sem.run_bind,run_underlying hs,run_underlying hu,Result.andThen_ok]
     simp only[if_true] at he
     simpa [run_underlying he] using hrun
    | false=>
     simp only[Go.convert,Sem.run_bind,run_underlying hs,run_underlying hu,Result.andThen_ok]
     simp only[Bool.false_eq_true,if_false] at he
     simpa [run_underlying he] using hrun
   have fin:∀(b o' len cap:Nat) (Xs:List Value),a.eval y=.slice (some ⟨b,o',none⟩) len cap->VRs c cs Xs->CQ c.w b o' Xs->cs.length=len->
     (execOp a.eval o).run P c.w=.ok (.value (.string (if r then runesBytes ns else JP ns))) c.w:=by
    intro b o' len cap Xs hY hv hM hl
    refine conv _ hY ⟨_,_,_,rfl⟩ ?_
    have hXs:=Z3h hv hns
    have hload:=Pq (P:=P) hM
    rw[<-hv.length,hl,hXs] at hload
    cases r with
    | true=>
     simp only[if_true] at hload ⊢
     exact run_runesToString c.w _ _ _ ns hload
    | false=>
     simp only[Bool.false_eq_true,if_false] at hload ⊢
     exact run_bytesToString c.w _ _ _ ns hload
   have nilcase:∀ b l cp,a.eval y=.slice b l cp->cs=[]->l=0->(execOp a.eval o).run P c.w=.ok (.value (.string (if r then runesBytes ns else JP ns))) c.w:=by
    intro b l cp hY hc hl
    subst hc hl
    simp[EZ] at hns
    subst hns
    cases b with
    | none=>
     refine conv _ hY ⟨_,_,_,rfl⟩ ?_
     cases r<;>simp[Conv.runesToString,Conv.bytesToString,runesBytes,JP]
    | some b=>
     refine conv _ hY ⟨_,_,_,rfl⟩ ?_
     cases r with
     | true=>exact run_runesToString c.w b 0 cp [] (by simp[loadCells,loadCellsFrom])
     | false=>exact run_bytesToString c.w b 0 cp [] (by simp[loadCells,loadCellsFrom])
   unfold SB at hcs
   split at hcs
   ·rename_i e1
    rw[e1] at hX
    simp at hcs
    exact nilcase _ _ _ hX.v_inv hcs rfl
   ·rename_i l len k e1
    rw[e1] at hX
    split at hcs
    ·rename_i hl
     simp at hcs;subst hcs
     obtain⟨ad,cap,hY,_,_,hm⟩:=hX.lst_inv
     rcases hm with⟨rfl,rfl⟩ | ⟨b,o',rfl,hI,hm⟩
     ·exact nilcase _ _ _ hY rfl rfl
     ·obtain ⟨Xs, hd, hM⟩ := hm.mem
      exact fin b o' len cap Xs hY (VRs.ofD hd) hM (by simpa using hl)
    ·simp at hcs
   ·rename_i i ver off len sz k e1
    rw[e1] at hX
    split at hcs
    ·rename_i all hc
     split at hcs
     ·rename_i hcc
      simp at hcs;subst hcs
      obtain⟨cap,hY,hp,_⟩:=hX.sref_inv (hA.ver _ _ (Rz hc))
      obtain⟨_,Xs,hv,hM,_⟩:=hr.cellsAt hp (fun b=>hA.pr _ b hp) hc
      exact fin _ _ _ _ _ hY (hv.take len) (hM.take len) (by simp;omega)
     ·simp at hcs
    ·simp at hcs
   ·simp at hcs
  ·simp at h
 ·simp at h
structure Wd (F:Fence):Prop where
 fn:∀ f,F.fn f
 dep:F.depth=none
 calls:∀(m:Nat) (P:Program) (f:FuncId) (args:Array Value) (w:World) (R:Ending->World->Prop),Calls P f args w R->CallsIn F m P f args w R
theorem Wd.wide:Wd Fence.wide:=⟨fun _=>trivial,rfl,fun _ _ _ _ _ _ h=>callsIn_wide.2 h⟩
theorem Wd.round (l:Nat):Wd (Fence.wide.inRound l):=⟨fun _=>trivial,rfl,fun m P f args w R h=>(callsIn_wide (n:=m) (P:=P) (f:=f) (args:=args) (w:=w) (R:=R)).2 h⟩
theorem RD {P:Program}{o:Oper}{f:Zw}(h:ZN P o.op=some f):∀ c,o.op≠ .defer c:=by
 intro c e
 rw[e] at h
 simp[ZN] at h
theorem EH {F:Fence}{n:Nat}(hF:Wd F){P:Program}{o:Oper}{a:Act}{w w':World}{next:Act->World->Prop}{Q:Exit->Act->World->Prop}{X:Value}(hnd:∀ c,o.op≠ .defer c)(h:(execOp a.eval o).run P w=.ok (.value X) w')(hn:next (a.put o.dst X) w'):o.wpIn F n P a w next Q:=by
 refine⟨fun f _=>hF.fn f,?_⟩
 rw[Oper.semAt_eq _ _ _ hnd,h]
 exact hn
theorem XD {F:Fence}{n:Nat}(hF:Wd F){P:Program}{o:Oper}{a:Act}{w w':World}{next:Act->World->Prop}{Q:Exit->Act->World->Prop}(hnd:∀ c,o.op≠ .defer c)(h:(execOp a.eval o).run P w=.ok .skip w')(hn:next (a.put o.dst undef) w'):o.wpIn F n P a w next Q:=by
 refine⟨fun f _=>hF.fn f,?_⟩
 rw[Oper.semAt_eq _ _ _ hnd,h]
 exact hn
theorem RX {F:Fence}{n:Nat}(hF:Wd F){P:Program}{o:Oper}{a:Act}{w:World}{next:Act->World->Prop}{Q:Exit->Act->World->Prop}{f:FuncId}{args:Array Value}{R:Ending->World->Prop}(hnd:∀ c,o.op≠ .defer c)(h:(execOp a.eval o).run P w=.ok (.enter f args) w)(hc:Calls P f args w R)
  (hR:∀ e w',R e w'->∃ X,e=.returned X/\next (a.put o.dst X) w'):o.wpIn F n P a w next Q:=by
 refine⟨fun f _=>hF.fn f,?_⟩
 rw[Oper.semAt_eq _ _ _ hnd,h]
 refine⟨fun h=>by rw[hF.dep] at h;simp at h,hF.calls _ _ _ _ _ _ (hc.mono fun e w' hr=> ?_)⟩
 obtain⟨X,rfl,hn⟩:=hR e w' hr
 exact hn
theorem UA {c:Cx}{args:List AV}{Args:List Value}{x:AV}{X:Value}{g:FuncId}{as:List AV}(hx:VR c x X)(ha:VRs c args Args)(h:target args x=some (g,as)):∃ cap:Array Value,X=.func (.func g) #[] cap/\VRs c as (Args++cap.toList):=by
 unfold target at h
 split at h
 ·simp at h
  obtain⟨rfl,rfl⟩:=h
  cases hx with
  | fn hc=>exact⟨_,rfl,ha.append hc⟩
 ·simp at h
  obtain⟨rfl,rfl⟩:=h
  cases hx with
  | d hx=>cases hx with
   | fn hc=>exact⟨_,rfl,ha.append (VRs.ofD hc)⟩
 ·simp at h
theorem WX {P:Program}{cl:Call}{y:Operand}{f:Zw}(hc:cl.callee=.value y)(h:BZ P cl=some f):∃ x xs,Zx y=some x/\Qx cl.args.toList=some xs/\f=oK x xs:=by
 unfold BZ at h
 rw[hc] at h
 simp only at h
 split at h
 ·rename_i x xs h1 h2
  simp at h
  exact⟨x,xs,h1,h2,h.symm⟩
 ·simp at h
theorem UM {P:Program}{cl:Call}{o:Oper}{y:Operand}{a:Act}{w:World}{g:FuncId}{cap:Array Value}(ho:o.op=.call cl)(hc:cl.callee=.value y)(hy:a.eval y=.func (.func g) #[] cap)(he:Enters P g):
  (execOp a.eval o).run P w=.ok (.enter g (cl.args.map a.eval++cap)) w:=by
 simp only[execOp,ho,resolve,hc,hy,Deferred.ofValue,pure_bind,invoke,Array.empty_append]
 exact Z0s he _ _
theorem Z1y {F:Fence}{n:Nat}(hF:Wd F){P:Program}{E:Env}{call:cT}(hok:CallsOk P E call)(hen:EntersOk P E call){o:Oper}{f:Zw}(h:ZN P o.op=some f){lo:Nat}{c0 c:Cx}{tm:List AV}{A:List Blk}{a:Act}{w:World}(hs:SR lo c0 tm A a w c)
  {d:Done} (hd:f E call tm A A.length=some d) {next:Act->World->Prop} {Q:Exit->Act->World->Prop} (ha:Zji lo c0 tm A o.dst a next d):o.wpIn F n P a w next Q:=by
 have hnd:=RD h
 obtain⟨rfl,rfl,hpr,hrel,hfr,htr,hdf⟩:=hs
 have hs:SR lo c0 tm c.A a c.w c:=⟨rfl,rfl,hpr,hrel,hfr,htr,hdf⟩
 have nnb:¬c.Pr c.A.length:=fun hp=>by have:=(hpr _).1 hp;omega
 have agr:Agr c c.A:=Agr.refl c
 have app:∀(bs:List Blk) i,c.Pr i->(c.A++bs)[i]? =c.A[i]? :=fun bs i hi=>List.getElem?_append_left ((hpr i).1 hi)
 have vapp:∀(bs:List Blk) i v,Zk c.A i=some v->Zk (c.A++bs) i=some v:=fun bs i v hv=>by
  obtain⟨b,hb,hbv⟩:=C1 hv
  have hi:i<c.A.length:=by
   rcases Nat.lt_or_ge i c.A.length with h' | h'
   ·exact h'
   ·simp[List.getElem?_eq_none h'] at hb
  unfold Zk
  rw[List.getElem?_append_left hi,hb]
  simpa using hbv
 have pureCase:(∃ x X,d=.made x []/\(execOp a.eval o).run P c.w=.ok (.value X) c.w/\VR c x X)->o.wpIn F n P a c.w next Q:=by
  rintro⟨x,X,rfl,hrun,hv⟩
  exact EH hF hnd hrun (ha X c.w c (hs.same hv))
 have makeCase:(∃ x b,d=.made x [b]/\BJ P c a o c.A.length x b)->o.wpIn F n P a c.w next Q:=by
  rintro⟨x,b,rfl,hm⟩
  obtain⟨X,c',hrun,fr,rel,hv,hA',hP',_⟩:=hm.done hrel (A:=c.A++[b]) nnb (app [b]) (vapp [b]) (by simp)
  refine EH hF hnd hrun (ha X _ c' (hs.step rfl hA' (fun i=> ?_) rel fr hv))
  rw[hP']
  simp only[hpr i,List.length_append,List.length_cons,List.length_nil]
  omega
 rcases SK h with hp | ⟨s,t,y,he⟩ | ⟨t,y,lo,hi,mx,he⟩ | ⟨t,y,he⟩ | ⟨t,y,z,he⟩ | ⟨t,he⟩ | ⟨t,y,he⟩ | ⟨t,n,ps,he⟩ | ⟨t,l,cc,he⟩ | ⟨cl,he,hxt⟩ | ⟨t,y,he⟩ | ⟨y,s,he⟩ | ⟨bo,t,y,z,u,he,x1,x2,e,q1,q2,q3,q4,q5,q6⟩
 ·exact pureCase (hp c tm a E call c.A c.A.length d o rfl htr hd)
 ·rw [he] at h
  rcases SM h with hp | ⟨x,r,e,hx,rfl,h1,h2,h3⟩
  ·exact pureCase (hp c tm a E call c.A c.A.length d o he htr hd)
  ·obtain ⟨z, hz, rfl⟩ := one?_inv hd
   obtain⟨X,hrun,hv⟩:=Z00 (P:=P) hrel htr agr he hx h1 h2 h3 hz
   exact pureCase ⟨z,X,rfl,hrun,hv⟩
 ·rw [he] at h
  by_cases hna:∃ n e,P.underlying t=some (.array n e)
  ·obtain ⟨n, e, hu⟩ := hna
   exact pureCase (UH (P:=P) hrel htr agr he hu h hd)
  ·exact pureCase (SJ (fun n e hu=>hna ⟨n,e,hu⟩) h c tm a E call c.A c.A.length d o he htr hd)
 ·rw [he] at h
  obtain⟨x,ag,n,hx,h1,h2,rfl⟩:=TV h
  obtain⟨z,hz,rfl⟩:=one?_inv hd
  obtain⟨X,hrun,hv⟩:=VJ (P:=P) hrel htr he hx h1 h2 (fun _ _ _ _ _ h=>h) hz
  exact pureCase ⟨z,X,rfl,hrun,hv⟩
 ·rw [he] at h
  obtain⟨p,x,n,hp,hx,h1,rfl⟩:=WS h
  simp only[oS] at hd
  cases hst:GX c.A (look tm p) (look tm x) n with
  | none=>simp[hst,EQ] at hd
  | some A1=>
   simp[hst,EQ] at hd;subst hd
   obtain⟨i,ver,off,cs,e1,e2,e3,e4,e5,rfl⟩:=W6 hst
   obtain⟨w',c',hrun,fr,rel,hw',hA',hP',_⟩:=Z06 (P:=P) hrel htr he hp hx h1 e1 e2 e3 e4 e5
   refine XD hF hnd hrun (ha undef w' c' (hs.step hw' hA' (fun j=> ?_) rel fr VR.undef))
   rw[hP']
   simpa using hpr j
 ·rw [he] at h
  exact makeCase (Z2w he h hd)
 ·rw [he] at h
  exact makeCase (Z2v he h htr hd)
 ·rw [he] at h
  rcases Z2u he h htr hd with hm | ⟨ds,len,s,rfl,hm⟩
  ·exact makeCase hm
  ·obtain ⟨X, c', hrun, fr, rel, hv, hA', hP'⟩ := hm.imm hrel (A := c.A ++ []) (app []) (vapp [])
   refine EH hF hnd hrun (ha X _ c' (hs.step rfl hA' (fun i=> ?_) rel fr hv))
   rw[hP',hpr i];simp
 ·rw [he] at h
  exact makeCase (Z2t he h htr hd)
 ·rw [he] at h
  simp only[ZN,hxt] at h
  cases hc:cl.callee with
  | value y=>
   obtain⟨x,xs,hx,hxs,rfl⟩:=WX hc h
   simp only[oK] at hd
   cases ht:target (xs.map (look tm)) (look tm x) with
   | none=>simp[ht,Gz] at hd
   | some p=>
    obtain⟨g,as⟩:=p
    simp only[ht,Gz] at hd
    obtain⟨cap,hy,hv⟩:=UA (VR.look htr hx) (VR.looks htr hxs) ht
    have hent:=W9 hen hd
    have hrun:=UM (P:=P) (w:=c.w) he hc hy hent
    have hv':VRs c as (cl.args.map a.eval++cap).toList:=by simpa using hv
    rcases Z5l hok hrel htr.1 agr hv' hd with⟨r,bs,rfl,hm⟩ | ⟨r,A1,rfl,hm⟩
    ·refine RX hF hnd hrun (hm (c.A ++ bs) (app bs) (vapp bs) (fun j hj => ⟨by rw [List.getElem?_append_right (by omega)]; congr 1; omega, fun hp => by have := (hpr _).1 hp; omega⟩)) ?_
     rintro e w' ⟨X,c',rfl,hw',fr,rel,hvx,hA',hP'⟩
     refine⟨X,rfl,ha X w' c' (hs.step hw' hA' (fun i=> ?_) rel fr hvx)⟩
     rw[hP']
     simp only[hpr i,List.length_append]
     omega
    ·refine RX hF hnd hrun (hm rfl rfl hpr) ?_
     rintro e w' ⟨X,c',rfl,hw',fr,rel,hvx,hA',hP'⟩
     exact⟨X,rfl,ha X w' c' (hs.step hw' hA' hP' rel fr hvx)⟩
  | builtin b=>
   by_cases hb:b=.append∨b=.clear
   ·rcases Xx (P := P) hrel htr agr he hc hb h hd with hp | hm | ⟨x, X, i, b, w', c', rfl, hrun, fr, rel, hw', hA', hP', _, hv, _⟩
    ·exact pureCase hp
    ·exact makeCase hm
    ·refine EH hF hnd hrun (ha X w' c' (hs.step hw' hA' (fun j => ?_) rel fr hv))
     rw[hP']
     simpa using hpr j
   ·exact pureCase (SN h ⟨b,hc,hb⟩ c tm a E call c.A c.A.length d o he htr hd)
  | invoke r m=>unfold BZ at h;rw[hc] at h;simp at h
 ·rw [he] at h
  exact makeCase (Z2s he h htr hd)
 ·rw [he] at h
  rcases Vv (P:=P) hrel htr agr he h hd with hp | ⟨x,X,i,b,w',c',rfl,hrun,fr,rel,hw',hA',hP',_,hv,_⟩
  ·exact pureCase hp
  ·refine EH hF hnd hrun (ha X w' c' (hs.step hw' hA' (fun j => ?_) rel fr hv))
   rw[hP']
   simpa using hpr j
 ·subst q3
  exact pureCase (UV htr agr he q1 q2 q4 q5 q6 hd)
theorem RZ {c:Cx}{tm:List AV}{a:Act}(ht:TR c tm a){ops:Array Oper}{o:Oper}{g:Option (Nat×Bool)}{b:Bool}(hg:KD ops o.guard=some g)(h:BP tm g=some b):Region.wanted o (yielded ops a.tmps)=b:=by
 unfold Region.wanted
 cases hq:o.guard with
 | none=>
  rw[hq] at hg
  simp[KD] at hg
  subst hg
  simp[BP] at h
  simp[h]
 | some p=>
  obtain⟨j,want⟩:=p
  rw[hq] at hg
  simp only[KD] at hg
  split at hg
  ·rename_i t hd
   simp at hg
   subst hg
   simp only[BP] at h
   have hv:=VRs.nth ht.2 t
   rw[Tw] at hv
   have hget:a.tmps.getD t undef=(a.tmps[t]?).getD undef:=by rw[Array.getD_eq_getD_getElem?]
   rw[hget] at hv
   simp only[yielded,hd,Option.bind_some]
   unfold KR at h
   split at h
   ·rename_i cb e
    rw[e] at hv
    simp at h
    have:=hv.bool_inv
    cases hq2:a.tmps[t]? with
    | none=>rw[hq2] at this;simp[undef] at this
    | some X=>
     rw[hq2] at this
     simp at this
     subst this
     rw[<-h]
     cases cb<;>cases want<;>rfl
   ·rename_i e
    rw[e] at hv
    simp at h
    subst h
    obtain⟨Xs,hX,_⟩:=hv.dtup_inv
    cases hq2:a.tmps[t]? with
    | none=>rfl
    | some X=>
     rw[hq2] at hX
     simp at hX
     subst hX
     rfl
   ·simp at h
  ·simp at hg
theorem NQ {P:Program}{ops:Array Oper}{o:Oper}{s:Stp}(h:H4 P ops o=some s):(ZN P o.op=some s.op∨s.op=Nk)/\KD ops o.guard=some s.guard/\s.dst=o.dst:=by
 unfold H4 at h
 split at h
 ·rename_i g h2
  simp at h;subst h
  refine⟨?_,h2,rfl⟩
  cases hc:ZN P o.op with
  | none=>exact .inr rfl
  | some f=>exact .inl rfl
 ·simp at h
theorem HQ {P:Program}{op:Op}{f:Zw}(h:ZN P op=some f∨f=Nk){E:Env}{call:cT}{tm:List AV}{A:List Blk}{nb:Nat}{d:Done}(hd:f E call tm A nb=some d):ZN P op=some f:=by
 rcases h with h | h
 ·exact h
 ·subst h;simp[Nk] at hd
theorem Z07 {F:Fence}{n:Nat}(hF:Wd F){P:Program}{E:Env}{call:cT}(hok:CallsOk P E call)(hen:EntersOk P E call){ops:Array Oper}{Q:Exit->Act->World->Prop}{lo:Nat}{c0:Cx}{r:AV×List Blk}{k:K}{rest:List Nat}
  (hk:∀ tm A a w c,SR lo c0 tm A a w c->k tm A=some r->wpOpsIn F n P ops Q rest a w):∀(is:List Nat) (l:List Oper) (ss:List Stp),is.map (ops[·]?)=l.map some->A9 P ops l=some ss->
  ∀(tm:List AV) (A:List Blk) (a:Act) (w:World) (c:Cx),SR lo c0 tm A a w c->CV E call ss k tm A=some r->wpOpsIn F n P ops Q (is++rest) a w
 | [],l,ss,hil,hc,tm,A,a,w,c,hs,h=>by
  cases l with
  | cons o l=>simp at hil
  | nil=>
   simp[A9] at hc;subst hc
   exact hk tm A a w c hs h
 | i::is,[],ss,hil,hc,tm,A,a,w,c,hs,h=>by simp at hil
 | i::is,o::l,ss,hil,hc,tm,A,a,w,c,hs,h=>by
  simp only[List.map_cons,List.cons.injEq] at hil
  obtain⟨hi,hil⟩:=hil
  simp only[A9] at hc
  cases h1:H4 P ops o with
  | none=>simp[h1] at hc
  | some s=>
   cases h2:A9 P ops l with
   | none=>simp[h1,h2] at hc
   | some ss'=>
    simp[h1,h2] at hc;subst hc
    obtain⟨g1,g2,g3⟩:=NQ h1
    have ih:=Z07 (n:=n) hF hok hen hk is l ss' hil h2
    simp only[CV] at h
    simp only[List.cons_append,wpOpsIn,hi]
    cases hw:BP tm s.guard with
    | none=>simp[hw,ER] at h
    | some b=>
     have hwant:=RZ hs.tr g2 hw
     rw[hwant]
     cases b with
     | false=>
      simp only[hw,ER] at h
      simp only[Bool.false_eq_true,if_false]
      rw[g3] at h
      refine⟨fun f _=>hF.fn f,ih _ _ _ w c ?_ h⟩
      have:=hs.same (dst:=o.dst) (x:=AR) (X:=undef) VR.undef
      rwa [List.append_nil] at this
     | true=>
      simp only[hw,ER] at h
      simp only[if_true]
      cases hd:s.op E call tm A A.length with
      | none=>simp[hd,DP] at h
      | some d=>
       refine Z1y hF hok hen (HQ g1 hd) hs hd ?_
       cases d with
       | made x bs=>
        simp only[hd,DP,Zj4] at h
        rw[g3] at h
        exact fun X w' c' hs'=>ih _ _ _ w' c' hs' h
       | turned x A1=>
        simp only[hd,DP] at h
        rw[g3] at h
        exact fun X w' c' hs'=>ih _ _ _ w' c' hs' h
def KQ (lo:Nat)(c0:Cx)(r:AV×List Blk)(kn:K)(kx:Nat->K)(kr:K):Exit->Act->World->Prop
 | .normal,a,w=>∃ tm A c,SR lo c0 tm A a w c/\kn tm A=some r
 | .exit id,a,w=>∃ tm A c,SR lo c0 tm A a w c/\kx id tm A=some r
 | .ret,a,w=>∃ tm A c,SR lo c0 tm A a w c/\kr tm A=some r
 | _,_,_=>False
theorem XE {F:Fence}{m:Nat}{P:Program}{Q:Exit->Act->World->Prop}{c:Code}(S:Nat->Act->World->Prop)(round:∀ n a w,S n a w->∃ k,n=k+1/\c.wpIn F m P (Exit.then (fun a' w'=>S k a' w') Q) a w):
  ∀ n a w,S n a w->(Code.loop c).wpIn F m P Q a w:=by
 intro n a w h b k cs hro hb hr
 have key:∀ n a w,S n a w->∃ e a' w',Q e a' w'/\ArrivesIn (Machine.fenced P F) P (lone (b.atR a (.code c:: .inLoop c::k)) cs w) b k cs e a' w':=by
  intro n
  induction n with
  | zero=>intro a w h;obtain⟨m,hm,_⟩:=round _ _ _ h;omega
  | succ n ih=>
   intro a w h
   obtain⟨j,hm,hwp⟩:=round _ _ _ h
   have hmn:j=n:=by omega
   subst hmn
   obtain⟨e,a₁,w₁,hq,harr⟩:=hwp b (.inLoop c::k) cs hro hb hr
   cases e with
   | normal=>
    obtain⟨e₂,a₂,w₂,hq₂,harr₂⟩:=ih a₁ w₁ hq
    exact⟨e₂,a₂,w₂,hq₂,.of_steps (StepsIn.trans harr (.one (fenced_calm hb hr rfl) stepR_inLoop)) harr₂⟩
   | exit id=>exact⟨_,a₁,w₁,hq,.pass (x:=.inLoop c) rfl (fun _ _=>.inl (by simp)) harr⟩
   | goto l=>exact⟨_,a₁,w₁,hq,.pass (x:=.inLoop c) rfl (fun _ _=>.inl (by simp)) harr⟩
   | ret=>exact⟨_,a₁,w₁,hq,.pass (x:=.inLoop c) rfl (fun _ _=>.inl (by simp)) harr⟩
   | panic ch=>exact⟨_,a₁,w₁,hq,.pass (x:=.inLoop c) rfl (fun _ _=>.inl (by simp)) harr⟩
   | outgrown=>exact⟨_,a₁,w₁,hq,.pass (x:=.inLoop c) rfl (fun _ _=>.inl (by simp)) harr⟩
 obtain⟨e,a',w',hq,harr⟩:=key n a w h
 exact⟨e,a',w',hq,.of_steps (.one (fenced_calm hb hr rfl) stepR_loop) harr⟩
def U3 (P:Program)(E:Env)(call:cT):Prop:=
 ∀(F:Fence) (n:Nat),Wd F->∀(ops:Array Oper) (t:CT) (id:Nat) (kn:K) (kx:Nat->K) (kr:K) (lo:Nat) (c0 c:Cx) (r:AV×List Blk) (tm:List AV) (A:List Blk) (a:Act) (w:World),WW P ops=some t->SR lo c0 tm A a w c->t E call kn kx kr tm A=some r->
  (Code.region id ops true).wpIn F n P (KQ lo c0 r kn kx kr) a w
end Go.Aug
