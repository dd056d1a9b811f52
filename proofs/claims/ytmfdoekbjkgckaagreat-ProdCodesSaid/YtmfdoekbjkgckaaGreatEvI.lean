import Derived.Test.YtmfdoekbjkgckaaGreatEvE
import Derived.RangeFuncSeq
import Derived.RangeFuncLeaves
namespace Go.Aug
open Go
def HU:Env:={ br:=[],th:=[],prim:=fun _=>none,back:=fun _=>none }
def HV:cT:=fun _ _ _=>none
def X8:List Stp:=[⟨some 4,none,oL (.t 1) false 1⟩,⟨some 5,none,BS (.t 4)⟩,⟨some 6,none,oB .sub (.t 5) (.c (.v (.int .i64 1)))⟩,⟨some 3,none,oV (.t 6)⟩]
def NV:List Stp:=[⟨some 7,none,oV (.t 3)⟩,⟨some 8,none,oB .geq (.t 7) (.c (.v (.int .i64 0)))⟩]
def Z75:List Stp:=[⟨some 9,none,oV (.t 3)⟩,⟨some 10,none,oB .sub (.t 9) (.c (.v (.int .i64 1)))⟩,⟨some 3,none,oV (.t 10)⟩]
def X7 (s:Nat)(ag:Bool):List Stp:=
 [⟨some 11,none,oV (.t 0)⟩,⟨some 12,none,oV (.t 3)⟩,⟨some 13,none,oL (.t 1) false 1⟩,⟨some 14,none,oV (.t 3)⟩,⟨some 15,none,DE (.t 13) (.t 14) s⟩,⟨some 16,none,oL (.t 15) ag s⟩]
def Kd.reads:Kd->Bool
 | .P=>true
 | .L _=>true
 | _=>false
structure IsBack (P:Program) (g:FuncId) (s:Nat) (ag:Bool):Prop where
 ent:Enters P g
 ex:∃(fn:Func) (i0 i1 i2 i3 b0 b1:Nat) (r0 r1 r2 r3:Array Oper) (l6:List Oper) (oc on:Oper) (cl:Call),
  P.funcs[g]? =some fn/\fn.ntmps=19/\fn.results= #[]/\
  fn.body=some (.seq (.region i0 r0 false) (.block b0 (.loop (.seq (.seq (.region i1 r1 false) (.cond (.tmp 8) .skip (.exit b0)))
   (.seq (.block b1 (.seq (.region i3 r3 false) (.cond (.tmp 18) .ret .skip))) (.region i2 r2 false))))))/\
  A9 P r0 r0.toList=some X8/\A9 P r1 r1.toList=some NV/\A9 P r2 r2.toList=some Z75/\
  r3=(l6++[oc,on]).toArray/\A9 P r3 l6=some (X7 s ag)/\H4 P r3 on=some ⟨some 18,none,AG .not (.t 17)⟩/\
  oc.op=.call cl/\cl.callee=.value (.tmp 11)/\cl.args= #[.tmp 12,.tmp 16]/\oc.dst=some 17/\oc.guard=none/\
  (r0.toList.all fun o=>(ZH P o.op).reads)=true/\(r1.toList.all fun o=>(ZH P o.op).reads)=true/\(r2.toList.all fun o=>(ZH P o.op).reads)=true/\(l6.all fun o=>(ZH P o.op).reads)=true/\(ZH P on.op).reads=true/\l6.length=6
def Xw (cs:List DV)(len:Nat)(k:Option Nat)(rest:List DV)(b o:Nat)(I:Nat->Prop)(W:World):Prop:=
 (∀ b,I b->b<W.heap.size)/\DR I W (.vptr (.lst cs len k::rest)) (.pointer (some ⟨b,o,none⟩))/\Gl I W
def P1 (P:Program)(m l:Nat)(cs:List DV)(s:Nat)(ag:Bool)(len:Nat)(k:Option Nat)(rest:List DV)(b o:Nat)(I:Nat->Prop)(R:Ending->World->Prop):Nat->World->Prop
 | 0,W=>Xw cs len k rest b o I W/\R (.returned (.tuple #[])) W
 | i + 1, W => Xw cs len k rest b o I W /\ ∀ x X, BQ ag s (cs.drop (i * s)) = some x -> DR I W x X ->
   YieldAt Fence.wide m P l #[.int .i64 i,X] W fun e W'=>(e=.returned (.bool true)/\(∀ b,I b->W'.heap[b]? =W.heap[b]?)/\P1 P m l cs s ag len k rest b o I R i W')∨(e=.returned (.bool false)/\(∀ b,I b->W'.heap[b]? =W.heap[b]?)/\R (.returned (.tuple #[])) W')
theorem P1.holds {P:Program}{m l:Nat}{cs:List DV}{s:Nat}{ag:Bool}{len:Nat}{k:Option Nat}{rest:List DV}{b o:Nat}{I:Nat->Prop}{R:Ending->World->Prop}:∀ {i:Nat} {W:World},P1 P m l cs s ag len k rest b o I R i W->Xw cs len k rest b o I W
 | 0,_,h=>h.1
 | _+1,_,h=>h.1
def BV (I:Nat->Prop)(W:World):Cx:=⟨I,fun _=>0,W,[],fun _=>False⟩
theorem KW {I:Nat->Prop}{W:World}(h:∀ b,I b->b<W.heap.size):Rel (BV I W):=⟨fun _ _ hp=>hp.elim,fun _ _ hp=>hp.elim,h⟩
def GY:K:=fun tm A=>some (.tup tm,A)
theorem Zak {P:Program}{E:Env}{call:cT}{o:Oper}{f:Zw}(h:ZN P o.op=some f)(hk:(ZH P o.op).reads=true){c:Cx}(hrel:Rel c){tm:List AV}{a:Act}(htr:TR c tm a){nb:Nat}{d:Done}(hd:f E call tm [] nb=some d):
  ∃ x X,d=.made x []/\(execOp a.eval o).run P c.w=.ok (.value X) c.w/\VR c x X:=by
 rcases SK h with hp | ⟨s,t,y,he⟩ | ⟨t,y,lo,hi,mx,he⟩ | ⟨t,y,he⟩ | ⟨t,y,z,he⟩ | ⟨t,he⟩ | ⟨t,y,he⟩ | ⟨t,n,ps,he⟩ | ⟨t,l,cc,he⟩ | ⟨cl,he,hxt⟩ | ⟨t,y,he⟩ | ⟨y,s,he⟩ | ⟨bo,t,y,z,u,he,x1,x2,e,q1,q2,q3,q4,q5,q6⟩
 ·exact hp c tm a E call [] nb _ o rfl htr hd
 ·rw [he] at h hk
  rcases SM h with hp | ⟨x',r,e,hx,rfl,g1,g2,g3⟩
  ·exact hp c tm a E call [] nb _ o he htr hd
  ·simp[ZH,g1,Kd.reads] at hk
 ·rw [he] at h hk
  by_cases hna:∃ n e,P.underlying t=some (.array n e)
  ·obtain ⟨n, e, hu⟩ := hna
   simp[ZH,hu,Kd.reads] at hk
  ·exact SJ (fun n e hu=>hna ⟨n,e,hu⟩) h c tm a E call [] nb _ o he htr hd
 ·rw [he] at h
  obtain⟨x',ag,n,hx,g1,g2,rfl⟩:=TV h
  obtain⟨z,hz,rfl⟩:=one?_inv hd
  obtain⟨X,hrun,hv⟩:=VJ (P:=P) hrel htr he hx g1 g2 (fun i ver off b e hb=>by simp at hb) hz
  exact⟨z,X,rfl,hrun,hv⟩
 ·rw[he] at hk;simp[ZH,Kd.reads] at hk
 ·rw[he] at hk;simp[ZH,Kd.reads] at hk
 ·rw[he] at hk;simp[ZH,Kd.reads] at hk
 ·rw[he] at hk;simp[ZH,Kd.reads] at hk
 ·rw[he] at hk;simp[ZH,Kd.reads] at hk
 ·rw [he] at h hk
  simp only[ZN,hxt] at h
  cases hc:cl.callee with
  | value y=>simp[ZH,hc,hxt,Kd.reads] at hk
  | builtin b=>
   by_cases hb:b=.append∨b=.clear
   ·rcases hb with rfl | rfl<;>simp[ZH,hc,Kd.reads] at hk
   ·exact SN h ⟨b,hc,hb⟩ c tm a E call [] nb _ o he htr hd
  | invoke r m=>unfold BZ at h;rw[hc] at h;simp at h
 ·rw[he] at hk;simp[ZH,Kd.reads] at hk
 ·rw[he] at hk;simp[ZH,Kd.reads] at hk
 ·rw[he] at hk;simp[ZH,q4,Kd.reads] at hk
theorem HJ {P:Program}{ops:Array Oper}{F:Fence}(hF:Wd F){Q:Exit->Act->World->Prop}{n:Nat}{rest:List Nat}{c:Cx}(hrel:Rel c){tm':List AV}:
  ∀(is:List Nat) (l:List Oper) (ss:List Stp),is.map (ops[·]?)=l.map some->A9 P ops l=some ss->(∀ o ∈ l,(ZH P o.op).reads=true)->∀(tm:List AV) (a:Act),TR c tm a->CV HU HV ss GY tm []=some (.tup tm',[])->
  (∀ a',TR c tm' a'->a'.defers=a.defers->wpOpsIn F n P ops Q rest a' c.w)->wpOpsIn F n P ops Q (is++rest) a c.w
 | [],l,ss,hil,hc,_,tm,a,ht,h,hk=>by
  cases l with
  | cons o l=>simp at hil
  | nil=>
   simp[A9] at hc;subst hc
   simp[CV,GY] at h
   subst h
   exact hk a ht rfl
 | i::is,[],ss,hil,_,_,tm,a,ht,h,hk=>by simp at hil
 | i::is,o::l,ss,hil,hc,hr,tm,a,ht,h,hk=>by
  simp only[List.map_cons,List.cons.injEq] at hil
  obtain⟨hi,hil⟩:=hil
  simp only[A9] at hc
  cases h1:H4 P ops o with
  | none=>simp[h1] at hc
  | some s=>
   cases h2:A9 P ops l with
   | none=>simp[h1,h2] at hc
   | some ss'=>
    simp[h1,h2] at hc;subst hc
    obtain⟨g1,g2,g3⟩:=NQ h1
    simp only[CV] at h
    simp only[List.cons_append,wpOpsIn,hi]
    cases hw:BP tm s.guard with
    | none=>simp[hw,ER] at h
    | some b=>
     rw[RZ ht g2 hw]
     cases b with
     | false=>
      simp only[hw,ER] at h
      simp only[Bool.false_eq_true,if_false]
      rw[g3] at h
      exact⟨fun f _=>hF.fn f,HJ hF hrel is l ss' hil h2 (fun o ho=>hr o (by simp[ho])) _ _ (TR.put ht VR.undef) h fun a' h3 h4=>hk a' h3 (h4.trans (M0 _ _ _))⟩
     | true=>
      simp only[hw,ER] at h
      simp only[if_true]
      cases hd:s.op HU HV tm [] ([]:List Blk).length with
      | none=>rw[hd] at h;simp[DP] at h
      | some d=>
       have g1:=HQ g1 hd
       obtain⟨x,X,rfl,hrun,hv⟩:=Zak g1 (hr o (by simp)) hrel ht hd
       rw[hd] at h
       simp only[DP,RN] at h
       rw[g3] at h
       exact EH hF (RD g1) hrun (HJ hF hrel is l ss' hil h2 (fun o ho=>hr o (by simp[ho])) _ _ (TR.put ht hv) h fun a' h3 h4=>hk a' h3 (h4.trans (M0 _ _ _)))
theorem Uq {c:Cx}:∀ n,VRs c (FB n) (List.replicate n undef)
 | 0=>.nil
 | n+1=>.cons VR.undef (Uq n)
theorem Zbs (l6:List Oper)(x y:Oper)(h:l6.length=6):(List.range (l6++[x,y]).toArray.size)=[0,1,2,3,4,5]++[6,7]:=by
 simp[h];rfl
theorem U7 {x:Int}(h1: -9223372036854775808<=x)(h2:x<9223372036854775808):IntKind.i64.wrap x=x:=by
 unfold IntKind.wrap
 simp[IntKind.bits,IntKind.signed]
 split<;>omega
theorem PA (r:Array Oper):(List.range r.size).map (r[·]?)=r.toList.map some:=by
 apply List.ext_getElem
 ·simp
 ·intro i h1 h2
  simp at h1
  simp[h1]
set_option maxHeartbeats 1000000 in
theorem Ziu {P:Program}{g s:Nat}{ag:Bool}(hb:IsBack P g s ag){m l:Nat}{cs:List DV}{len:Nat}{k:Option Nat}{rest:List DV}{b o:Nat}{I:Nat->Prop}{R:Ending->World->Prop}{W:World}(hlen:len<=Z4)(hcl:cs.length=len*s)
  (hel:∀ i,i<len->∃ x,BQ ag s (cs.drop (i*s))=some x) (h:P1 P m l cs s ag len k rest b o I R len W):CallsIn Fence.wide (m+1) P g #[.func (.yield l) #[] #[],.pointer (some ⟨b,o,none⟩)] W R:=by
 obtain⟨_,fn,i0,i1,i2,i3,b0,b1,r0,r1,r2,r3,l6,oc,on,cl,hfn,hnt,hres,hbody,c0,c1,c2,rfl,c3,con,hoc,hcal,hargs,hdst,hg,k0,k1,k2,k3,kon,hl6⟩:=hb
 have hR:∀(a:Act) (w:World),a.defers=[]->R (.returned (.tuple #[])) w->bodyPost P fn R .ret a w/\bodyPost P fn R .normal a w:=by
  intro a w hd hr
  have:(results fn a.tmps).run P w=.ok (.tuple #[]) w:=by
   unfold results
   rw[hres]
   simp
  exact⟨⟨hd,_,this,hr⟩,⟨hd,_,this,hr⟩⟩
 let y:AV:=.d (.fn (.yield l) [])
 let vp:AV:=.d (.vptr (.lst cs len k::rest))
 have all:∀ {r:List Oper},(r.all fun o=>(ZH P o.op).reads)=true->∀ o ∈ r,(ZH P o.op).reads=true:=fun h o ho=>List.all_eq_true.1 h o ho
 refine callsIn_of_wp hfn hbody trivial ?_
 have hh:=h.holds
 have ht0:TR (BV I W) (y::vp::FB 17) { tmps:= #[.func (.yield l) #[] #[],.pointer (some ⟨b,o,none⟩)]++Array.replicate (fn.ntmps-(#[.func (.yield l) #[] #[],.pointer (some ⟨b,o,none⟩)]:Array Value).size) undef,defers:=[] }:=by
  refine⟨hh.2.2,?_⟩
  show VRs _ _ _
  rw[Array.toList_append,hnt]
  refine .cons (.d (.fn .nil)) (.cons (.d hh.2.1) ?_)
  have:=Uq (c:=BV I W) 17
  simpa using this
 have toI:∀ {I:Nat->Prop} {W W':World} {tm:List AV} {a:Act},(∀ b,I b->W'.heap[b]? =W.heap[b]?)->TR (BV I W) tm a->TR (BV I W') tm a:=fun {I W W' tm a} him ht=>
  TR.mono (c:=BV I W) (c':=BV I W') { I:=fun _ h=>h,im:=him,pr:=fun _ h=>h,ver:=fun i v hv=>by simp[BV,Zk] at hv } ht
 have hlit:∀ n:Nat,n<len->IntKind.i64.wrap ((n:Int)+1-1)=n:=fun n hn=>by
  unfold Z4 at hlen
  rw[U7 (by omega) (by omega)];omega
 refine wpIn_seq (wpIn_region ?_)
 rw[<-List.append_nil (List.range r0.size)]
 have e0:CV HU HV X8 GY (y::vp::FB 17) []=some (.tup ([y,vp,AR,aI (IntKind.i64.wrap ((len:Int)-1)),.d (.lst cs len k),aI len,aI (IntKind.i64.wrap ((len:Int)-1))]++FB 12),[]):=rfl
 refine HJ Wd.wide (KW hh.1) _ _ X8 (PA r0) c0 (all k0) _ _ ht0 e0 fun a ht hd=> ?_
 have hw0:IntKind.i64.wrap ((len:Int)-1)=(len:Int)-1:=by
  unfold Z4 at hlen
  exact U7 (by omega) (by omega)
 rw[hw0] at ht
 show(Code.block b0 _).wpIn _ _ _ _ a W
 refine wpIn_block ?_
 have hd0:a.defers=[]:=hd
 clear hd
 refine XE (fun n a W=>∃ t,n=t+1/\t<=len/\P1 P m l cs s ag len k rest b o I R t W/\a.defers=[]/\∃ v2 v4 v5 v6 v7 v8 v9 v10 v11 v12 v13 v14 v15 v16 v17 v18,TR (BV I W) [y,vp,v2,aI ((t:Int)-1),v4,v5,v6,v7,v8,v9,v10,v11,v12,v13,v14,v15,v16,v17,v18] a) ?_
  (len+1) a W ⟨len,rfl,Nat.le_refl _,h,hd0,_,_,_,_,_,_,_,_,_,_,_,_,_,_,_,_,ht⟩
 clear h hh ht0 ht hd0
 rintro n a W ⟨t,rfl,htl,hr,hd,v2,v4,v5,v6,v7,v8,v9,v10,v11,v12,v13,v14,v15,v16,v17,v18,ht⟩
 refine⟨t,rfl,?_⟩
 have hh:=hr.holds
 refine wpIn_seq (wpIn_seq (wpIn_region ?_))
 rw[<-List.append_nil (List.range r1.size)]
 have e1:CV HU HV NV GY [y,vp,v2,aI ((t:Int)-1),v4,v5,v6,v7,v8,v9,v10,v11,v12,v13,v14,v15,v16,v17,v18] []=
   some (.tup [y,vp,v2,aI ((t:Int)-1),v4,v5,v6,aI ((t:Int)-1),ZZ (decide ((t:Int)-1>=0)),v9,v10,v11,v12,v13,v14,v15,v16,v17,v18],[]):=rfl
 refine HJ Wd.wide (KW hh.1) _ _ NV (PA r1) c1 (all k1) _ _ ht e1 fun a' ht1 hd1=> ?_
 have hd1:a'.defers=[]:=hd1.trans hd
 clear ht hd
 have hc8:a'.eval (.tmp 8)=.bool (decide ((t:Int)-1>=0)):=(VR.look (o:=.tmp 8) (x:=.t 8) ht1 rfl).bool_inv
 cases t with
 | zero=>
  refine wpIn_cond_false (by rw[hc8];rfl) (wpIn_exit ?_)
  show Exit.inBlock b0 _ (.exit b0) a' W
  simp only[Exit.inBlock,if_true]
  exact(hR a' W hd1 hr.2).2
 | succ i=>
  have hi:i<len:=by omega
  obtain⟨x,hx⟩:=hel i hi
  refine wpIn_cond_true (by rw[hc8];simp) (wpIn_skip ?_)
  have hcast:((i+1:Nat):Int)-1=(i:Int):=by omega
  rw[hcast] at ht1
  show(Code.seq (.block b1 _) _).wpIn _ _ _ _ a' W
  refine wpIn_seq (wpIn_block (wpIn_seq (wpIn_region ?_)))
  rw[Zbs l6 oc on hl6]
  have e3:CV HU HV (X7 s ag) GY [y,vp,v2,aI i,v4,v5,v6,aI i,ZZ (decide ((i:Int)>=0)),v9,v10,v11,v12,v13,v14,v15,v16,v17,v18] []=
    some (.tup [y,vp,v2,aI i,v4,v5,v6,aI i,ZZ (decide ((i:Int)>=0)),v9,v10,y,aI i,.d (.lst cs len k),aI i,.d (.vptr (cs.drop (i*s))),.d x,v17,v18],[]):=by
   have hb1:(0:Int)<=i/\(i:Int)<len/\(i:Int).toNat*s<=cs.length:=⟨by omega,by omega,by rw[hcl];exact Nat.mul_le_mul_right s (by simp;omega)⟩
   have e4:BE (.d (.lst cs len k)) (aI i) s=some (.d (.vptr (cs.drop (i*s)))):=by
    simp only[BE]
    rw[if_pos hb1]
    simp
   have e5:DQ [] (.d (.vptr (cs.drop (i*s)))) ag s=some (.d x):=by simp[DQ,hx]
   show CV HU HV [⟨some 15,none,DE (.t 13) (.t 14) s⟩,⟨some 16,none,oL (.t 15) ag s⟩] GY [y,vp,v2,aI i,v4,v5,v6,aI i,ZZ (decide ((i:Int)>=0)),v9,v10,y,aI i,.d (.lst cs len k),aI i,v15,v16,v17,v18] []=_
   simp only[CV,BP,ER,DE,oL,look,ZM,e4,one?,DP,RN,YN,Bk,e5,GY]
  refine HJ Wd.wide (KW hh.1) _ l6 (X7 s ag) (by
   have:([0,1,2,3,4,5]:List Nat)=List.range l6.length:=by rw[hl6];rfl
   rw[this]
   apply List.ext_getElem
   ·simp
   ·intro j h1 h2
    simp at h1
    simp[List.getElem?_append_left h1,h1]) c3 (all k3) _ _ ht1 e3 fun a2 ht2 hd2=> ?_
  have hd2:a2.defers=[]:=hd2.trans hd1
  change wpOpsIn _ _ _ _ _ [6,7] a2 W
  clear ht1 hd1 hc8
  have ho6:(l6++[oc,on]).toArray[6]? =some oc:=by simp[<-hl6]
  have ho7:(l6++[oc,on]).toArray[7]? =some on:=by
   rw[List.getElem?_toArray,List.getElem?_append_right (by omega)]
   simp[hl6]
  have c7:A9 P (l6++[oc,on]).toArray [on]=some [⟨some 18,none,AG .not (.t 17)⟩]:=by unfold A9;rw[con];rfl
  rw[wpOpsIn_cons]
  unfold wpOpIn
  simp only[ho6]
  have hwant:Region.wanted oc (yielded (l6++[oc,on]).toArray a2.tmps)=true:=by simp[Region.wanted,hg]
  rw[hwant]
  simp only[if_true]
  have h11:a2.eval (.tmp 11)=.func (.yield l) #[] #[]:=by
   have h11:=VR.look (o:=.tmp 11) (x:=.t 11) ht2 rfl
   revert h11
   generalize a2.eval (.tmp 11)=X
   intro h11
   cases h11 with
   | d h=>cases h with
    | @fn _ _ X h=>
     have hX:X.toList=[]:=by
      revert h
      generalize X.toList=l
      intro h
      cases h;rfl
     have:X= #[]:=by cases X;simp at hX;simp[hX]
     rw[this]
  have h12:a2.eval (.tmp 12)=.int .i64 i:=(VR.look (o:=.tmp 12) (x:=.t 12) ht2 rfl).int_inv
  have h16:DR I W x (a2.eval (.tmp 16)):=by
   have h16:=VR.look (o:=.tmp 16) (x:=.t 16) ht2 rfl
   revert h16
   generalize a2.eval (.tmp 16)=X
   intro h16
   cases h16 with
   | d h=>exact h
  have hy:=hr.2 x _ hx h16
  obtain⟨fn',tmps',asg,body,hrun,hround⟩:=hy
  have hexec:(execOp a2.eval oc).run P W=.ok (.round l fn' tmps' asg body) W:=by
   simp only[execOp,hoc,resolve,hcal,hargs]
   rw[h11]
   have ha:(#[.tmp 12,.tmp 16]:Array Operand).map a2.eval= #[.int .i64 i,a2.eval (.tmp 16)]:=by simp[h12]
   rw[ha]
   simp only[Deferred.ofValue,pure_bind,invoke]
   simpa using hrun
  refine⟨fun f _=>trivial,?_⟩
  rw[Oper.semAt_eq _ _ _ (by intro c e;rw[hoc] at e;simp at e),hexec]
  refine⟨by simp[Fence.wide],hround.mono ?_⟩
  rintro e W' (⟨rfl,him,hr'⟩ | ⟨rfl,him,hr'⟩)
  ·rw [hdst]
   have hh':=hr'.holds
   have ht3:=TR.put (dst:=some 17) (toI him ht2) (VR.vv (c:=BV I W') (x:=.bool true) rfl)
   rw[<-List.append_nil [7]]
   have e7:CV HU HV [⟨some 18,none,AG .not (.t 17)⟩] GY (YN [y,vp,v2,aI i,v4,v5,v6,aI i,ZZ (decide ((i:Int)>=0)),v9,v10,y,aI i,.d (.lst cs len k),aI i,.d (.vptr (cs.drop (i*s))),.d x,v17,v18] (some 17) (ZZ true)) []=
    some (.tup [y,vp,v2,aI i,v4,v5,v6,aI i,ZZ (decide ((i:Int)>=0)),v9,v10,y,aI i,.d (.lst cs len k),aI i,.d (.vptr (cs.drop (i*s))),.d x,ZZ true,ZZ false],[]):=rfl
   refine HJ Wd.wide (KW hh'.1) [7] [on] [⟨some 18,none,AG .not (.t 17)⟩] (by simp only[List.map_cons,List.map_nil,ho7]) c7 (by simpa using kon) _ _ ht3 e7 fun a3 ht4 hd3=> ?_
   have hd3:a3.defers=[]:=hd3.trans ((M0 _ _ _).trans hd2)
   have hc18:a3.eval (.tmp 18)=.bool false:=(VR.look (o:=.tmp 18) (x:=.t 18) ht4 rfl).bool_inv
   show(Code.cond (.tmp 18) .ret .skip).wpIn _ _ _ _ a3 W'
   refine wpIn_cond_false hc18 (wpIn_skip ?_)
   show(Code.region i2 r2 false).wpIn _ _ _ _ a3 W'
   refine wpIn_region ?_
   rw[<-List.append_nil (List.range r2.size)]
   refine HJ Wd.wide (KW hh'.1) _ _ Z75 (PA r2) c2 (all k2) _ _ ht4 (tm':=[y,vp,v2,aI (IntKind.i64.wrap ((i:Int)-1)),v4,v5,v6,aI i,ZZ (decide ((i:Int)>=0)),aI i,aI (IntKind.i64.wrap ((i:Int)-1)),y,aI i,.d (.lst cs len k),aI i,.d (.vptr (cs.drop (i*s))),.d x,ZZ true,ZZ false]) rfl fun a4 ht5 hd4=> ?_
   have hw:IntKind.i64.wrap ((i:Int)-1)=(i:Int)-1:=by
    unfold Z4 at hlen
    exact U7 (by omega) (by omega)
   rw[hw] at ht5
   exact⟨i,rfl,by omega,hr',hd4.trans hd3,_,_,_,_,_,_,_,_,_,_,_,_,_,_,_,_,ht5⟩
  ·rw [hdst]
   rw[<-List.append_nil [7]]
   have hlt:∀ b,I b->b<W'.heap.size:=fun b hb=>by
    have h1:=hh.1 b hb
    have h2:=him b hb
    rw[Array.getElem?_eq_getElem h1] at h2
    exact(Array.getElem?_eq_some_iff.1 h2).1
   have ht3:=TR.put (dst:=some 17) (toI him ht2) (VR.vv (c:=BV I W') (x:=.bool false) rfl)
   have e7:CV HU HV [⟨some 18,none,AG .not (.t 17)⟩] GY (YN [y,vp,v2,aI i,v4,v5,v6,aI i,ZZ (decide ((i:Int)>=0)),v9,v10,y,aI i,.d (.lst cs len k),aI i,.d (.vptr (cs.drop (i*s))),.d x,v17,v18] (some 17) (ZZ false)) []=
    some (.tup [y,vp,v2,aI i,v4,v5,v6,aI i,ZZ (decide ((i:Int)>=0)),v9,v10,y,aI i,.d (.lst cs len k),aI i,.d (.vptr (cs.drop (i*s))),.d x,ZZ false,ZZ true],[]):=rfl
   refine HJ Wd.wide (KW hlt) [7] [on] [⟨some 18,none,AG .not (.t 17)⟩] (by simp only[List.map_cons,List.map_nil,ho7]) c7 (by simpa using kon) _ _ ht3 e7 fun a3 ht4 hd3=> ?_
   have hd3:a3.defers=[]:=hd3.trans ((M0 _ _ _).trans hd2)
   have hc18:a3.eval (.tmp 18)=.bool true:=(VR.look (o:=.tmp 18) (x:=.t 18) ht4 rfl).bool_inv
   show(Code.cond (.tmp 18) .ret .skip).wpIn _ _ _ _ a3 W'
   refine wpIn_cond_true hc18 (wpIn_ret ?_)
   exact(hR a3 W' hd3 hr').1
end Go.Aug
