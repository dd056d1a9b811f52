import Derived.Test.YtmfdoekbjkgckaaGreatMc9
import Derived.Test.YtmfdoekbjkgckaaGreatMc33
import Derived.Test.YtmfdoekbjkgckaaGreatMc12
import Derived.Test.YtmfdoekbjkgckaaGreatMc53
import Derived.Test.YtmfdoekbjkgckaaGreatMc18
import Derived.Test.YtmfdoekbjkgckaaGreatMc49
import Derived.Test.YtmfdoekbjkgckaaGreatMl
import Derived.Test.YtmfdoekbjkgckaaGreatMc3
import Derived.Test.YtmfdoekbjkgckaaGreatMl3
namespace Go.Aug.Mc
open Go Go.Aug
set_option linter.unusedSimpArgs false
set_option linter.unusedVariables false
set_option maxHeartbeats 40000000
variable {E:Env} {fn:FuncId->Option (Env->cT->cT)}
section
variable (S:Sur E fn)
include S
theorem Zi6 (dp:Nat)(l:List Int)(x:Int)(hl:l.length<1073741823):Z6 E fn (dp+1) 153 [rD l,vi x] (rD (Md.push l x)):=by
 unfold Z6
 show Zj (Z4 E fn (dp+1) 153 [.d (rD l),.d (vi x)] [])=_
 rw[ZK,S.Z8e,ZM,Zdk,ZN _ _ _ _ _ _ _ _ rfl]
 have hl2:l.length<1073741824:=by omega
 have hpl:(Md.push l x).length<1073741824:=by unfold Md.push;rw[List.length_drop,List.length_append,List.length_singleton];omega
 by_cases h0:l.length=0
 ·have hl0 : l = [] := List.length_eq_zero_iff.1 h0
  have oa:∀ i,YG i l=.d (.lst [] 0 (some 0)):=fun i=>GD h0 i
  have ob:Yw l=[]:=GC h0
  have bd:=Pz 1 .i64 0 (by omega) (by omega)
  have oc:=fun(A:List Blk) (nb:Nat) (us:List Nat)=>E2 S (l:=[x]) (by simp) (Z4 E fn dp) A nb us
  have e1:∀ nb,YG nb [x]=.sref nb 0 0 1 1 none:=fun _=>rfl
  have e2:Yw [x]=[.cells [.d (vi x)] 0 false]:=rfl
  have e3:rD [x]=.lst [vi x] 1 none:=rfl
  simp only[e1,e2,e3] at oc
  have hp:Md.push l x=[x]:=by rw[hl0];rfl
  rw[hp]
  simp only[eG,go_sem,Z3 S,Z2 S,Nat.reduceLT,Nat.reduceEqDiff,Nat.reduceAdd,Nat.reduceMul,Nat.reduceLeDiff,Int.reduceEq,Int.reduceLT,Int.reduceLE,Int.reduceNeg,reduceCtorEq,E2 S hl2,oa,ob,ZE,ZF,ZG,ZH,Z7,Dq,A8,Option.map_some,show(1:Nat)*8<=Z5 by decide,show(1:Nat)<=Z5 by decide,Int.natCast_one,show IntKind.i64.wrap (-1)= -1 by decide,show max (-1:Int) 0=0 by decide,bd,Int.toNat_zero,oc,ne_eq,Nat.one_ne_zero,not_false_eq_true,Int.reduceSub,Nat.zero_mul,Nat.sub_zero,Nat.one_mul,Yk,Nat.le_refl,false_and,and_false,Nat.add_zero,Option.map_none]
  rfl
 ·have l4 : (l.length + 1) * 8 <= Z5 := by unfold Z5; omega
  have l5:l.length+1<=Z5:=by unfold Z5;omega
  have w1:max (IntKind.i64.wrap (((l.length+1:Nat):Int)-2)) 0=((l.length-1:Nat):Int):=by rw[YY (by omega) (by omega)];omega
  have bd:=Pz (l.length+1) .i64 ((l.length-1:Nat):Int) (by omega) (by omega)
  have n1:¬(l.length-1=l.length+1):=by omega
  have e1:(l++[x]).take (l.length-1)++(Md.push l x++[])=l++[x]:=by rw[List.append_nil];exact List.take_append_drop _ _
  have e2:l.length+1-(l.length-1)=(Md.push l x).length:=by simp[Md.push]
  have hd:∀ n v,deep [.cells ((rC (l++[x])).map .d) v false] (n+2) (.sref 0 v (l.length-1) (l.length+1-(l.length-1)) 1 none)=some (.lst (rC (Md.push l x)) (Md.push l x).length none,[0]):=by
   intro n v
   rw[e2]
   refine Pj (pre:=(l++[x]).take (l.length-1)) (junk:=[]) (ro:=false) (by rw[e1];rfl) ?_ n _ _ _ _ rfl ?_ ?_
   ·intro h
    have:=congrArg List.length h
    simp[Md.push] at this
    omega
   ·simp[Z5t];omega
   ·simp[Md.push]
  have hne:Md.push l x≠[]:=fun h=>by
   have:=congrArg List.length h
   unfold Md.push at this
   rw[List.length_drop,List.length_append,List.length_singleton,List.length_nil] at this
   omega
  have hln:(Md.push l x).length≠0:=fun h=>hne (List.length_eq_zero_iff.1 h)
  simp only[eG,go_sem,Z3 S,Z2 S,Nat.reduceLT,Nat.reduceEqDiff,Nat.reduceAdd,Nat.reduceMul,Nat.reduceLeDiff,Int.reduceEq,Int.reduceLT,Int.reduceLE,Int.reduceNeg,reduceCtorEq,E2 S hl2,ZB h0,ZA h0,ZE,ZF,ZG,ZH,Z7,Dq,BV,l4,l5,w1,bd,Int.toNat_natCast,n1,false_and,Nat.mul_one,Nat.zero_add,Option.map_some,Option.map_none,hd,Jw,E2 S hpl,ZB hln,ZA hln]
  rw[Cz _ hne _ rfl 6 1 none rfl]
  rfl
theorem Zbq (dp:Nat)(l:List Int)(x:Int)(hl:l.length<1073741823)(A:List Blk)(nb:Nat):ZC false E (Z4 E fn (dp+1)) 153 A nb (some ([rD l,vi x],[]))=some (.made (.d (rD (Md.push l x))) []):=
 Z6.deep (Zi6 S dp l x hl) (np S 153 (by decide)) A nb
end
open Nat renaming reduceLT -> zN0, reduceEqDiff -> zN1, reduceAdd -> zN2, reduceMul -> zN3, reduceLeDiff -> zN4
open Int renaming reduceEq -> zI0, reduceLT -> zI1, reduceLE -> zI2, reduceNeg -> zI3
set_option maxRecDepth 200000
def VC (o:Option (List Int)):Bool:=match o with | none=>true | some l=>decide (4<=l.length)
variable {E:Env} {fn:FuncId->Option (Env->cT->cT)}
section
variable (S:Sur E fn)
include S
theorem Z5g:E.lives 142 11=none:=off S 142 11 (by decide) rfl
theorem Hk:E.lives 113 13=none/\E.lives 113 15=none/\E.lives 113 19=none/\E.lives 113 23=none/\E.lives 113 27=none/\E.lives 113 33=none/\E.lives 113 37=none/\E.lives 113 39=none:=⟨off S 113 13 (by decide) rfl,off S 113 15 (by decide) rfl,off S 113 19 (by decide) rfl,off S 113 23 (by decide) rfl,off S 113 27 (by decide) rfl,off S 113 33 (by decide) rfl,off S 113 37 (by decide) rfl,off S 113 39 (by decide) rfl⟩
theorem Zqg (dp:Nat)(p:Prog)(r0 r1 r2 r3 pc en:Int)(mm sk rb:List Int)(bf:List Ent)(e1 e2 e3 e4 e5:Int)(e6 e7 e8:Bool)(hs:sk.length<1073741824)(hb:bf.length<1073741824)(hr:rb.length<1073741823):
  Z4 E fn (dp+4) 141 [.agg [.d (vi p.w),.d (vi p.window),.d (vi p.fuel),.d (vi p.regs.r0),.d (vi p.regs.r1),.d (vi p.regs.r2),.d (vi p.regs.r3),.d (rD p.mems),.d (rD p.labels),.d (rD p.ins)],.ref 0 0 0,.agg [.d (vi e1),.d (vi e2),.d (vi e3),.d (vi e4),.d (vi e5),.d (vb e6),.d (vb e7),.d (vb e8)]] [.cells [.d (vi r0),.d (vi r1),.d (vi r2),.d (vi r3),.d (rD mm),.d (rD sk),.d (vi pc),.d (rD bf),.d (rD rb),.d (vi en)] 0 false]=
  some (.agg [.d (vi e1),.d (vi e2),.d (vi e3),.d (vi e4),.d (vi e5),.d (vb true),.d (vb e7),.d (vb (VC (Md.real p sk bf bf.length)))],[.cells [.d (vi r0),.d (vi r1),.d (vi r2),.d (vi r3),.d (rD mm),.d (rD sk),.d (vi pc),.d (rD bf),.d (rD (Md.push rb (Md.ZX (e1+1)))),.d (vi en)] 0 false]):=by
 rw[ZK,S.Z9t,ZM,Zez,ZN _ _ _ _ _ _ _ _ rfl]
 cases hreal:Md.real p sk bf bf.length with
 | none=>simp only[go_sem,Z3 S,Z2 S,zN0,zN1,zN2,zN3,zN4,zI0,zI1,zI2,zI3,reduceCtorEq,YN,YC,YD,YE,YF,List.take_succ_cons,List.take_zero,ZE,ZF,ZG,ZH,Z7,Option.map_some,TG S,Zbq S,hs,hb,hr,hreal,B6,Ex,VC,Md.ZX,Bool.not_true,Bool.not_false]
 | some l=>
  have hr4:decide ((l.length:Int)>=4)=decide (4<=l.length):=decide_eq_decide.2 (by omega)
  simp only[go_sem,Z3 S,Z2 S,zN0,zN1,zN2,zN3,zN4,zI0,zI1,zI2,zI3,reduceCtorEq,hr4,YN,YC,YD,YE,YF,List.take_succ_cons,List.take_zero,ZE,ZF,ZG,ZH,Z7,Option.map_some,TG S,Zbq S,hs,hb,hr,hreal,B6,Ex,VC,Md.ZX,Bool.not_true,Bool.not_false]
theorem Z47 (dp:Nat)(r0 r1 r2 r3 pc en g:Int)(mm sk rb:List Int)(bf:List Ent)(e1 e2 e3 e4 e5:Int)(e6 e7 e8:Bool)(hr:rb.length<1073741824):
  Z4 E fn (dp+2) 142 [.ref 0 0 0,.agg [.d (vi e1),.d (vi e2),.d (vi e3),.d (vi e4),.d (vi e5),.d (vb e6),.d (vb e7),.d (vb e8)],.d (vi g)] [.cells [.d (vi r0),.d (vi r1),.d (vi r2),.d (vi r3),.d (rD mm),.d (rD sk),.d (vi pc),.d (rD bf),.d (rD rb),.d (vi en)] 0 false]=
  some (.agg [.d (vi e1),.d (vi e2),.d (vi e3),.d (vi e4),.d (vi (if rb.length=0 then g else Md.Cj rb)),.d (vb e6),.d (vb e7),.d (vb e8)],[.cells [.d (vi r0),.d (vi r1),.d (vi r2),.d (vi r3),.d (rD mm),.d (rD sk),.d (vi pc),.d (rD bf),.d (rD (if rb.length=0 then rb else rb.dropLast)),.d (vi en)] 0 false]):=by
 rw[ZK,S.Z9r,ZM,Zex,ZN _ _ _ _ _ _ _ _ rfl]
 by_cases h:rb.length=0
 ·simp only[go_sem,Z3 S,Z2 S,zN0,zN1,zN2,zN3,zN4,zI0,zI1,zI2,zI3,reduceCtorEq,Z5g S,YN,YC,YD,YE,YF,List.take_succ_cons,List.take_zero,ZE,ZF,ZG,ZH,Z7,Option.map_some,RT S,hr,h,ne_eq,not_true_eq_false,not_false_eq_true]
 ·simp only[go_sem,Z3 S,Z2 S,zN0,zN1,zN2,zN3,zN4,zI0,zI1,zI2,zI3,reduceCtorEq,Z5g S,YN,YC,YD,YE,YF,List.take_succ_cons,List.take_zero,ZE,ZF,ZG,ZH,Z7,Option.map_some,RT S,hr,h,ne_eq,not_true_eq_false,not_false_eq_true]
theorem Zpd (dp:Nat)(p:Prog)(c:Conf)(g:Int)(hs:c.state.stack.length<1073741824)(hb:c.buf.length<1073741824)(hr:c.rsb.length<1073741823):
  Z4 E fn (dp+5) 113 [.agg [.d (vi p.w),.d (vi p.window),.d (vi p.fuel),.d (vi p.regs.r0),.d (vi p.regs.r1),.d (vi p.regs.r2),.d (vi p.regs.r3),.d (rD p.mems),.d (rD p.labels),.d (rD p.ins)],.ref 0 0 0,.d (vi g)] [.cells ((J4 c).map .d) 0 false]=
  some (.agg ((Cl.cells (Md.QK p c g).1).map .d),[.cells ((J4 { c with rsb:=(Md.QK p c g).2 }).map .d) 0 false]):=by
 have hr':c.rsb.length<1073741824:=by omega
 rw[ZK,S.Z9s,ZM,Zey,ZN _ _ _ _ _ _ _ _ rfl]
 by_cases k5:(Md.at_ p c.state.pc).kind=5
 ·by_cases hg : g = 1
  ·simp only[go_sem,Z3 S,Z2 S,zN0,zN1,zN2,zN3,zN4,zI0,zI1,zI2,zI3,reduceCtorEq,Hk S,YN,YC,YD,YE,YF,List.take_succ_cons,List.take_zero,ZE,ZF,ZG,ZH,Z7,Option.map_some,Yx S,Md.QK,Md.ZX,zI0,if_true,if_false,or_self,true_or,or_true,k5,hg]
  ·simp only[go_sem,Z3 S,Z2 S,zN0,zN1,zN2,zN3,zN4,zI0,zI1,zI2,zI3,reduceCtorEq,Hk S,YN,YC,YD,YE,YF,List.take_succ_cons,List.take_zero,ZE,ZF,ZG,ZH,Z7,Option.map_some,Yx S,Md.QK,Md.ZX,zI0,if_true,if_false,or_self,true_or,or_true,k5,hg]
 by_cases k6:(Md.at_ p c.state.pc).kind=6
 ·simp only[go_sem,Z3 S,Z2 S,zN0,zN1,zN2,zN3,zN4,zI0,zI1,zI2,zI3,reduceCtorEq,Hk S,YN,YC,YD,YE,YF,List.take_succ_cons,List.take_zero,ZE,ZF,ZG,ZH,Z7,Option.map_some,Yx S,Md.QK,Md.ZX,zI0,if_true,if_false,or_self,true_or,or_true,k6]
 by_cases k7:(Md.at_ p c.state.pc).kind=7
 ·simp only[go_sem,Z3 S,Z2 S,zN0,zN1,zN2,zN3,zN4,zI0,zI1,zI2,zI3,reduceCtorEq,Hk S,YN,YC,YD,YE,YF,List.take_succ_cons,List.take_zero,ZE,ZF,ZG,ZH,Z7,Option.map_some,Yx S,Md.QK,Md.ZX,zI0,if_true,if_false,or_self,true_or,or_true,k7]
 by_cases k8:(Md.at_ p c.state.pc).kind=8
 ·simp only [go_sem, Z3 S, Z2 S, zN0, zN1, zN2, zN3, zN4, zI0, zI1, zI2, zI3, reduceCtorEq, Hk S, YN, YC, YD, YE, YF, List.take_succ_cons, List.take_zero, ZE, ZF, ZG, ZH, Z7, Option.map_some, Yx S, Md.QK, Md.ZX, zI0, if_true, if_false, or_self, true_or, or_true, QU, A7, AH, B1, Eq, AJ, A9, Aj, AW, AX, AN, AP, AK, AM, AQ, AR, Ak, Aq, Av, AU, E5, List.drop_succ_cons, List.drop_zero, List.getD_cons_zero, List.getD_cons_succ, show Nat.ble 1 1 = true from rfl, Z2 S, k8, Zqg S, hs, hb, hr, VC]
  rfl
 by_cases k9:(Md.at_ p c.state.pc).kind=9
 ·by_cases hz : c.rsb.length = 0
  ·simp only[go_sem,Z3 S,Z2 S,zN0,zN1,zN2,zN3,zN4,zI0,zI1,zI2,zI3,reduceCtorEq,Hk S,YN,YC,YD,YE,YF,List.take_succ_cons,List.take_zero,ZE,ZF,ZG,ZH,Z7,Option.map_some,Yx S,Md.QK,Md.ZX,zI0,if_true,if_false,or_self,true_or,or_true,QU,A7,AH,B1,Eq,AJ,A9,Aj,AW,AX,AN,AP,AK,AM,AQ,AR,Ak,Aq,Av,AU,E5,List.drop_succ_cons,List.drop_zero,List.getD_cons_zero,List.getD_cons_succ,show Nat.ble 1 1=true from rfl,Z2 S,k9,Z47 S,hr',hz]
  ·simp only[go_sem,Z3 S,Z2 S,zN0,zN1,zN2,zN3,zN4,zI0,zI1,zI2,zI3,reduceCtorEq,Hk S,YN,YC,YD,YE,YF,List.take_succ_cons,List.take_zero,ZE,ZF,ZG,ZH,Z7,Option.map_some,Yx S,Md.QK,Md.ZX,zI0,if_true,if_false,or_self,true_or,or_true,QU,A7,AH,B1,Eq,AJ,A9,Aj,AW,AX,AN,AP,AK,AM,AQ,AR,Ak,Aq,Av,AU,E5,List.drop_succ_cons,List.drop_zero,List.getD_cons_zero,List.getD_cons_succ,show Nat.ble 1 1=true from rfl,Z2 S,k9,Z47 S,hr',hz]
 by_cases k11:(Md.at_ p c.state.pc).kind=11
 ·simp only[go_sem,Z3 S,Z2 S,zN0,zN1,zN2,zN3,zN4,zI0,zI1,zI2,zI3,reduceCtorEq,Hk S,YN,YC,YD,YE,YF,List.take_succ_cons,List.take_zero,ZE,ZF,ZG,ZH,Z7,Option.map_some,Yx S,Md.QK,Md.ZX,zI0,if_true,if_false,or_self,true_or,or_true,k11]
 by_cases k12:(Md.at_ p c.state.pc).kind=12
 ·simp only[go_sem,Z3 S,Z2 S,zN0,zN1,zN2,zN3,zN4,zI0,zI1,zI2,zI3,reduceCtorEq,Hk S,YN,YC,YD,YE,YF,List.take_succ_cons,List.take_zero,ZE,ZF,ZG,ZH,Z7,Option.map_some,Yx S,Md.QK,Md.ZX,zI0,if_true,if_false,or_self,true_or,or_true,k12]
 ·simp only[go_sem,Z3 S,Z2 S,zN0,zN1,zN2,zN3,zN4,zI0,zI1,zI2,zI3,reduceCtorEq,Hk S,YN,YC,YD,YE,YF,List.take_succ_cons,List.take_zero,ZE,ZF,ZG,ZH,Z7,Option.map_some,Yx S,Md.QK,Md.ZX,zI0,if_true,if_false,or_self,true_or,or_true,k5,k6,k7,k8,k9,k11,k12]
end
section
variable (S:Sur E fn)
include S
theorem Z04:E.lives 66 7=none:=off S 66 7 (by decide) rfl
theorem Zjg (dp:Nat)(p:Prog)(c:Conf)(g:Int)(hi:p.ins.length<1073741824)(hb:c.buf.length<1073741823)(hm:c.state.mem.length<1073741824)(hs:c.state.stack.length<1073741824)(hr:c.rsb.length<1073741823):Z6 E fn (dp+6) 66 [Zz p,ZP c,vi g] (.tup [ZP (GM p c g),vb (Md.Cw p c g)]):=by
 unfold Z6
 show Zj (Z4 E fn (dp+5+1) 66 [.d (Zz p),.d (ZP c),.d (vi g)] [])=_
 rw[ZK,S.Z9v,ZM,Zf1,ZN _ _ _ _ _ _ _ _ rfl]
 have hb':c.buf.length<1073741824:=by omega
 have hr':c.rsb.length<1073741824:=by omega
 by_cases g0:g<0
 ·simp only[eG,go_sem,Z3 S,Z2 S,Nat.reduceLT,Nat.reduceEqDiff,Nat.reduceAdd,Nat.reduceMul,Nat.reduceLeDiff,Int.reduceEq,Int.reduceLT,Int.reduceLE,Int.reduceNeg,reduceCtorEq,Z04 S,g0,GM,Md.Cw,show ¬0<=g by omega,Md.JB]
 by_cases g1:g>=Md.Q1 p c
 ·simp only[eG,go_sem,Z3 S,Z2 S,Nat.reduceLT,Nat.reduceEqDiff,Nat.reduceAdd,Nat.reduceMul,Nat.reduceLeDiff,Int.reduceEq,Int.reduceLT,Int.reduceLE,Int.reduceNeg,reduceCtorEq,Z04 S,g0,g1,GM,Md.Cw,show ¬g<Md.Q1 p c by omega,Md.JB,Wx S,hi]
 have hc:Md.Cw p c g=true:=by simp[Md.Cw];omega
 have hw:¬(c.buf.length:Int)>=p.window:=by
  have:¬Md.Q1 p c<=0:=by omega
  intro h
  apply this
  unfold Md.Q1
  rw[if_pos (.inr (.inr h))]
  exact Int.le_refl 0
 unfold GM
 rw[hc,cond_true]
 unfold Md.BM
 have eg:=Zpd S dp p c g hs hb' hr
 generalize (Md.QK p c g).1=e at eg ⊢
 generalize (Md.QK p c g).2=rb at eg ⊢
 have hp:NK c.buf e p.window=c.buf++[e]:=by unfold NK;rw[if_neg hw]
 simp only[J4,H2,CV,Z1s,List.map_cons,List.map_nil,List.cons_append,List.nil_append,List.map_append] at eg
 simp only[eG,go_sem,Z3 S,Z2 S,Nat.reduceLT,Nat.reduceEqDiff,Nat.reduceAdd,Nat.reduceMul,Nat.reduceLeDiff,Int.reduceEq,Int.reduceLT,Int.reduceLE,Int.reduceNeg,reduceCtorEq,Z04 S,YN,YC,YD,YE,YF,List.take_succ_cons,List.take_zero,ZE,ZF,ZG,ZH,Z7,Option.map_some,QU,A7,AH,B1,Eq,AJ,A9,Aj,AW,AX,AN,AP,AK,AM,AQ,AR,Ak,Aq,Av,AU,E5,List.drop_succ_cons,List.drop_zero,List.getD_cons_zero,List.getD_cons_succ,show Nat.ble 1 1=true from rfl,Z2 S,g0,g1,Wx S,hi,Z1y S,hm,hs,hb,hb',hr',eg,Zqt S,hp]
end
theorem Zoy {p:Prog}{c:Conf}{g:Int}(hl:c.buf.length<1073741823)(hm:c.state.mem.length<1073741824)(hs:c.state.stack.length<1073741824)(hr:c.rsb.length<1073741823):
  (Md.BM p c g).state.mem.length<1073741824/\(Md.BM p c g).state.stack.length<1073741824/\(Md.BM p c g).buf.length<1073741824/\(Md.BM p c g).rsb.length<1073741824:=by
 refine⟨hm,hs,?_,?_⟩
 ·show (c.buf ++ [(Md.QK p c g).1]).length < _
  rw[List.length_append,List.length_singleton];omega
 ·show (Md.QK p c g).2.length < _
  unfold Md.QK
  simp only
  split
  ·show c.rsb.length<_;omega
  split
  ·show c.rsb.length<_;omega
  split
  ·show c.rsb.length<_;omega
  split
  ·show (Md.push c.rsb _).length < _
   unfold Md.push
   rw[List.length_drop,List.length_append,List.length_singleton];omega
  split
  ·split
   ·show c.rsb.length<_;omega
   ·show c.rsb.dropLast.length < _
    rw[List.length_dropLast];omega
  split
  ·show c.rsb.length<_;omega
  ·show c.rsb.length<_;omega
variable {E:Env} {fn:FuncId->Option (Env->cT->cT)}
section
variable (S:Sur E fn)
include S
theorem SW:E.lives 35 7=none/\E.lives 35 13=none/\E.lives 35 17=none/\E.lives 35 21=none:=⟨off S 35 7 (by decide) rfl,off S 35 13 (by decide) rfl,off S 35 17 (by decide) rfl,off S 35 21 (by decide) rfl⟩
theorem Zju (dp:Nat)(p:Prog)(c:Conf)(d:Dir)(hi:p.ins.length<1073741824)(hp:p.mems.length<1073741824)(hl:c.buf.length<1073741823)(hm:c.state.mem.length<1073741824)(hs:c.state.stack.length<1073741823)(hr:c.rsb.length<1073741823)(hg:(B6 (Md.real p c.state.stack c.buf d.n)).length<1073741824)(hd:0<=(Md.at_ p (Md.ZR c.buf 0).pc).d/\(Md.at_ p (Md.ZR c.buf 0).pc).d<=3):Z6 E fn (dp+11) 35 [Zz p,ZP c,.agg (Cl.cells d)] (.tup [ZP (J9 (Zk p.mems) p c d).1,rD (J9 (Zk p.mems) p c d).2,vb (Md.QB (Zk p.mems) p c d)]):=by
 unfold Z6
 show Zj (Z4 E fn (dp+10+1) 35 [.d (Zz p),.d (ZP c),.d (.agg (Cl.cells d))] [])=_
 rw[ZK,S.Za9,ZM,Zff,ZN _ _ _ _ _ _ _ _ rfl]
 have hl':c.buf.length<1073741824:=by omega
 have hs':c.state.stack.length<1073741824:=by omega
 have hr':c.rsb.length<1073741824:=by omega
 cases hcan:Md.QB (Zk p.mems) p c d with
 | false=>simp only[eG,go_sem,Z3 S,Z2 S,zN0,zN1,zN2,zN3,zN4,zI0,zI1,zI2,zI3,reduceCtorEq,SW S,TJ S,hi,hp,hl',hcan,Bool.not_false,J9,Md.JB]
 | true=>
  have hsay:J9 (Zk p.mems) p c d=Md.say (Zk p.mems) p c d:=by unfold J9;rw[hcan];rfl
  rw[hsay]
  have cF:=fun(A:List Blk) (nb:Nat)=>Z6.deep (Zjg S (dp+4) p c d.n hi hl hm hs' hr) (np S 66 (by decide)) A nb
  have cD:=fun(A:List Blk) (nb:Nat)=>Z6.deep (Zjq S dp p c d.n hp hm hs' hl' hr' hg) (np S 63 (by decide)) A nb
  have cA:=fun(A:List Blk) (nb:Nat)=>Z6.deep (Zjt S (dp+2) p c d.n hp hm hs' hl' hr') (np S 64 (by decide)) A nb
  have cR:=fun(A:List Blk) (nb:Nat)=>Z6.deep (Zi3 S (dp+5) p c hl hm hs hr' hd) (np S 65 (by decide)) A nb
  have hdd:=hcan
  obtain⟨dk,dn⟩:=d
  simp only at cF cD cA cR hcan hg
  by_cases k1:dk=1
  ·subst k1
   have hc:Md.Cw p c dn=true:=by simpa [Md.QB] using hcan
   have hF:GM p c dn=Md.BM p c dn:=by unfold GM;rw[hc];rfl
   obtain⟨f1,f2,f3,f4⟩:=Zoy (p:=p) (c:=c) (g:=dn) hl hm hs' hr
   rw[hF,hc] at cF
   have e1:Md.say (Zk p.mems) p c ⟨1,dn⟩=(Md.BM p c dn,[]):=rfl
   rw[e1]
   generalize Md.BM p c dn=X at *
   simp only[Zz,Y1,ZP,J4,H2,CV,List.cons_append,List.nil_append] at cF
   simp only[eG,go_sem,Z3 S,Z2 S,zN0,zN1,zN2,zN3,zN4,zI0,zI1,zI2,zI3,reduceCtorEq,SW S,TJ S,hi,hp,hl',hcan,Bool.not_true,cF,Z1y S,f1,f2,f3,f4]
  by_cases k2:dk=2
  ·subst k2
   have hc:Md.can (Zk p.mems) p c dn=true:=by simpa [Md.QB] using hcan
   have hF:A4 (Zk p.mems) p c dn=Md.A0 (Zk p.mems) p c dn:=by unfold A4;rw[hc];rfl
   rw[hF,hc] at cD
   have e1:Md.say (Zk p.mems) p c ⟨2,dn⟩=Md.A0 (Zk p.mems) p c dn:=rfl
   rw[e1]
   generalize Md.A0 (Zk p.mems) p c dn=X at *
   simp only[Zz,Y1,ZP,J4,H2,CV,List.cons_append,List.nil_append] at cD
   simp only[eG,go_sem,Z3 S,Z2 S,zN0,zN1,zN2,zN3,zN4,zI0,zI1,zI2,zI3,reduceCtorEq,SW S,TJ S,hi,hp,hl',hcan,Bool.not_true,cD]
  by_cases k3:dk=3
  ·subst k3
   have hc:Md.Q6 p c dn=true:=by simpa [Md.QB] using hcan
   have hF:Ev (Zk p.mems) p c dn=Md.Ew (Zk p.mems) p c dn:=by unfold Ev;rw[hc];rfl
   rw[hF,hc] at cA
   have e1:Md.say (Zk p.mems) p c ⟨3,dn⟩=Md.Ew (Zk p.mems) p c dn:=rfl
   rw[e1]
   generalize Md.Ew (Zk p.mems) p c dn=X at *
   simp only[Zz,Y1,ZP,J4,H2,CV,List.cons_append,List.nil_append] at cA
   simp only[eG,go_sem,Z3 S,Z2 S,zN0,zN1,zN2,zN3,zN4,zI0,zI1,zI2,zI3,reduceCtorEq,SW S,TJ S,hi,hp,hl',hcan,Bool.not_true,cA]
  have h4:dk=4/\dn=0/\Md.Q2 p c=true:=by
   simp[Md.QB,k1,k2,k3] at hcan
   exact⟨hcan.1.1,hcan.1.2,hcan.2⟩
  obtain⟨k4,n0,hc⟩:=h4
  subst k4
  have hF:J6 p c=Md.J5 p c:=by unfold J6;rw[hc];rfl
  rw[hF,hc] at cR
  have e1:Md.say (Zk p.mems) p c ⟨4,dn⟩=(Md.J5 p c,[]):=rfl
  rw[e1]
  generalize Md.J5 p c=X at *
  simp only[Zz,Y1,ZP,J4,H2,CV,List.cons_append,List.nil_append] at cR
  simp only[eG,go_sem,Z3 S,Z2 S,zN0,zN1,zN2,zN3,zN4,zI0,zI1,zI2,zI3,reduceCtorEq,SW S,TJ S,hi,hp,hl',hcan,Bool.not_true,cR]
end
theorem GR (k:K)(tm:List AV)(A:List Blk):HN [] k tm A=k tm A:=id rfl
theorem Z41 (a b:Obs):(decide (a.kind=b.kind)&&decide (a.at_=b.at_))=decide (a=b):=by
 cases a;cases b
 rw[Bool.eq_iff_iff]
 simp only[Bool.and_eq_true,decide_eq_true_eq,Obs.mk.injEq]
theorem R0 (a b:Dir):(decide (a.kind=b.kind)&&decide (a.n=b.n))=decide (a=b):=by
 cases a;cases b
 rw[Bool.eq_iff_iff]
 simp only[Bool.and_eq_true,decide_eq_true_eq,Dir.mk.injEq]
variable {E:Env} {fn:FuncId->Option (Env->cT->cT)}
section
variable (S:Sur E fn)
include S
theorem Mw:E.lives 37 1=none/\E.lives 37 7=none/\E.lives 37 17=none:=⟨off S 37 1 (by decide) rfl,off S 37 7 (by decide) rfl,off S 37 17 (by decide) rfl⟩
theorem MA:E.lives 12 1=none/\E.lives 12 7=none/\E.lives 12 17=none:=⟨off S 12 1 (by decide) rfl,off S 12 7 (by decide) rfl,off S 12 17 (by decide) rfl⟩
theorem Zna (dp:Nat)(a b:List Int)(hl:a.length<1073741824)(hab:a.length=b.length)(kx:Nat->K)(hx:∀ T,Zj (kx 0 (mk .bot 26 T) [])=some (vb true)):∀ m k f,k+m=a.length->m<=f->
  Zj (PP (Zx E 37) (Z4 E fn dp) (Z9 10 PP (Zx E 37) (Z4 E fn dp) kx (ZY 0 [.tmp 4]) f) kx (ZY 0 [.tmp 4]) (mk .bot 26 [(0,.d (rD a)),(1,.d (rD b)),(5,aI k)]) [])=
  some (vb (decide (a.drop k=b.drop k))):=by
 intro m
 induction m with
 | zero=>
  intro k f hk _
  obtain rfl:k=a.length:=by omega
  generalize Z9 10 PP _ _ kx _ f=KK
  rw[PP,show a.drop a.length=[] from List.drop_length,show b.drop a.length=[] by rw[hab];exact List.drop_length]
  simp only[eG,go_sem,Z3 S,Z2 S,zN0,zN1,zN2,zN3,zN4,zI0,zI1,zI2,zI3,reduceCtorEq,Mw S,Int.lt_irrefl]
  exact hx _
 | succ m ih=>
  intro k f hk hf
  obtain⟨e,he⟩:=Q4 (show k<a.length by omega)
  obtain⟨e',he'⟩:=Q4 (show k<b.length by omega)
  obtain⟨f,rfl⟩:∃ g,f=g+1:=⟨f-1,by omega⟩
  generalize hK:Z9 10 PP _ _ kx _ (f+1)=KK
  rw[PP,CM he,CM he']
  by_cases h:e=e'
  ·subst h
   simp only[eG,go_sem,Z3 S,Z2 S,zN0,zN1,zN2,zN3,zN4,zI0,zI1,zI2,zI3,reduceCtorEq,Mw S,show(k:Int)<a.length by omega,Zv he,Zv he',wi k (by omega),GR]
   rw[<-hK,Z8 (on S _ _ [0,1,5] (by decide) rfl) rfl _ _ _ _ _ _ _ _ _ rfl]
   simp only[eG,go_sem,Z3 S,Z2 S,zN0,zN1,zN2,zN3,zN4,zI0,zI1,zI2,zI3,reduceCtorEq,Mw S]
   have:=ih (k+1) f (by omega) (by omega)
   simp only[List.cons.injEq,true_and]
   exact this
  ·simp only [eG, go_sem, Z3 S, Z2 S, zN0, zN1, zN2, zN3, zN4, zI0, zI1, zI2, zI3, reduceCtorEq, Mw S, show (k : Int) < a.length by omega, Zv he, Zv he', wi k (by omega), GR, eq_false h]
   simp[h]
theorem Zj7 (dp:Nat)(a b:List Int)(hl:a.length<1073741824):Z6 E fn (dp+1) 37 [rD a,rD b] (vb (decide (a=b))):=by
 unfold Z6
 show Zj (Z4 E fn (dp+1) 37 [.d (rD a),.d (rD b)] [])=_
 rw[ZK,S.Z9k,ZM,Zeq,ZN _ _ _ _ _ _ _ _ rfl]
 by_cases hab:a.length=b.length
 ·simp only [eG, go_sem, Z3 S, Z2 S, zN0, zN1, zN2, zN3, zN4, zI0, zI1, zI2, zI3, reduceCtorEq, Mw S, hab, not_true_eq_false]
  rw[Y9,Z8 (on S _ _ [0,1,5] (by decide) rfl) rfl _ _ _ _ _ _ _ _ _ rfl]
  simp only[eG,go_sem,Z3 S,Z2 S,zN0,zN1,zN2,zN3,zN4,zI0,zI1,zI2,zI3,reduceCtorEq,Mw S]
  refine Zna S dp a b hl hab _ ?_ a.length 0 _ (by omega) (by omega)
  intro T
  simp only[eG,go_sem,Z3 S,Z2 S,zN0,zN1,zN2,zN3,zN4,zI0,zI1,zI2,zI3,reduceCtorEq,Mw S]
 ·have hne : ¬ a = b := fun e => hab (by rw [e])
  simp only[eG,go_sem,Z3 S,Z2 S,zN0,zN1,zN2,zN3,zN4,zI0,zI1,zI2,zI3,reduceCtorEq,Mw S,show ¬((a.length:Int)=b.length) by omega,not_false_eq_true,eq_false hne]
theorem Zr3 (dp:Nat)(a b:List Int)(hl:a.length<1073741824)(A:List Blk)(nb:Nat)(us:List Nat):ZC false E (Z4 E fn (dp+1)) 37 A nb (some ([rD a,rD b],us))=some (.made (.d (vb (decide (a=b)))) []):=
 Z6.flat (Zj7 S dp a b hl) (np S 37 (by decide)) (rfl) A nb us
theorem Zn9 (dp:Nat)(a b:List Dir)(hl:a.length<1073741824)(hab:a.length=b.length)(kx:Nat->K)(hx:∀ T,Zj (kx 0 (mk .bot 26 T) [])=some (vb true)):∀ m k f,k+m=a.length->m<=f->
  Zj (PM (Zx E 12) (Z4 E fn dp) (Z9 10 PM (Zx E 12) (Z4 E fn dp) kx (ZY 0 [.tmp 4]) f) kx (ZY 0 [.tmp 4]) (mk .bot 26 [(0,.d (rD a)),(1,.d (rD b)),(5,aI k)]) [])=
  some (vb (decide (a.drop k=b.drop k))):=by
 intro m
 induction m with
 | zero=>
  intro k f hk _
  obtain rfl:k=a.length:=by omega
  generalize Z9 10 PM _ _ kx _ f=KK
  rw[PM,show a.drop a.length=[] from List.drop_length,show b.drop a.length=[] by rw[hab];exact List.drop_length]
  simp only[eG,go_sem,Z3 S,Z2 S,zN0,zN1,zN2,zN3,zN4,zI0,zI1,zI2,zI3,reduceCtorEq,MA S,Int.lt_irrefl]
  exact hx _
 | succ m ih=>
  intro k f hk hf
  obtain⟨e,he⟩:=Q4 (show k<a.length by omega)
  obtain⟨e',he'⟩:=Q4 (show k<b.length by omega)
  obtain⟨f,rfl⟩:∃ g,f=g+1:=⟨f-1,by omega⟩
  generalize hK:Z9 10 PM _ _ kx _ (f+1)=KK
  rw[PM,CM he,CM he']
  by_cases h:e=e'
  ·subst h
   simp only[eG,go_sem,Z3 S,Z2 S,zN0,zN1,zN2,zN3,zN4,zI0,zI1,zI2,zI3,reduceCtorEq,MA S,show(k:Int)<a.length by omega,Zv he,Zv he',wi k (by omega),GR,R0]
   rw[<-hK,Z8 (on S _ _ [0,1,5] (by decide) rfl) rfl _ _ _ _ _ _ _ _ _ rfl]
   simp only[eG,go_sem,Z3 S,Z2 S,zN0,zN1,zN2,zN3,zN4,zI0,zI1,zI2,zI3,reduceCtorEq,MA S]
   have:=ih (k+1) f (by omega) (by omega)
   simp only[List.cons.injEq,true_and]
   exact this
  ·simp only [eG, go_sem, Z3 S, Z2 S, zN0, zN1, zN2, zN3, zN4, zI0, zI1, zI2, zI3, reduceCtorEq, MA S, show (k : Int) < a.length by omega, Zv he, Zv he', wi k (by omega), GR, R0, eq_false h]
   simp[h]
theorem Zih (dp:Nat)(a b:List Dir)(hl:a.length<1073741824):Z6 E fn (dp+1) 12 [rD a,rD b] (vb (decide (a=b))):=by
 unfold Z6
 show Zj (Z4 E fn (dp+1) 12 [.d (rD a),.d (rD b)] [])=_
 rw[ZK,S.Z8r,ZM,Zdx,ZN _ _ _ _ _ _ _ _ rfl]
 by_cases hab:a.length=b.length
 ·simp only [eG, go_sem, Z3 S, Z2 S, zN0, zN1, zN2, zN3, zN4, zI0, zI1, zI2, zI3, reduceCtorEq, MA S, hab, not_true_eq_false]
  rw[Y9,Z8 (on S _ _ [0,1,5] (by decide) rfl) rfl _ _ _ _ _ _ _ _ _ rfl]
  simp only[eG,go_sem,Z3 S,Z2 S,zN0,zN1,zN2,zN3,zN4,zI0,zI1,zI2,zI3,reduceCtorEq,MA S]
  refine Zn9 S dp a b hl hab _ ?_ a.length 0 _ (by omega) (by omega)
  intro T
  simp only[eG,go_sem,Z3 S,Z2 S,zN0,zN1,zN2,zN3,zN4,zI0,zI1,zI2,zI3,reduceCtorEq,MA S]
 ·have hne : ¬ a = b := fun e => hab (by rw [e])
  simp only[eG,go_sem,Z3 S,Z2 S,zN0,zN1,zN2,zN3,zN4,zI0,zI1,zI2,zI3,reduceCtorEq,MA S,show ¬((a.length:Int)=b.length) by omega,not_false_eq_true,eq_false hne]
end
end Go.Aug.Mc
namespace Go.Aug.Md
open Go Go.Aug
set_option linter.unusedSimpArgs false
set_option linter.unusedVariables false
def Kept (c:Conf)(k:Nat)(R:Conf×List Obs):Prop:=
 ∃(px:Int) (bx:List Ent) (o:List Obs),R=(⟨⟨c.state.regs,c.state.mem,c.state.stack,px⟩,bx,c.rsb,0⟩,o)/\k<bx.length/\bx.length<=c.buf.length/\o.length<=1/\bx.take k=c.buf.take k/\
  (bx.length=c.buf.length->k+1<c.buf.length->px=c.state.pc)/\(bx.length<c.buf.length->k+1<bx.length->∃ e,c.buf[bx.length]? =some e/\px=e.pc)
section
variable {N:Int} {p:Prog} {c:Conf} {k:Nat}
theorem X8 {l:List Ent}{k:Nat}{e:Ent}:(l.set k e).take k=l.take k:=List.take_set_of_le (Nat.le_refl _)
theorem HA (hend:c.end_=0)(hk:k<c.buf.length)(e:Ent)(o:List Obs)(ho:o.length<=1):Kept c k (put c (k:Int) e,o):=by
 refine⟨c.state.pc,c.buf.set k e,o,?_,by simpa using hk,by simp,ho,X8,fun _ _=>rfl,fun h=>by simp at h⟩
 unfold put
 rw[Int.toNat_natCast,<-hend]
theorem Z0w (hend:c.end_=0)(hk:k<c.buf.length)(e:Ent)(to:Int):Kept c k (B4 c (k:Int) e to):=by
 unfold B4
 split
 ·exact HA hend hk _ _ (by simp)
 ·refine ⟨to, (c.buf.set k { e with done := true, next := to }).take (k + 1), [⟨3, to⟩], ?_, by rw [List.length_take, List.length_set]; omega, by rw [List.length_take, List.length_set]; omega, Nat.le_refl 1, ?_, fun h1 h2 => ?_, fun h1 h2 => ?_⟩
  ·rw[Int.toNat_natCast,<-hend]
  ·rw[List.take_take,Nat.min_eq_left (by omega)];exact X8
  ·rw[List.length_take,List.length_set] at h1;omega
  ·rw[List.length_take,List.length_set] at h2;omega
theorem Znv (hk:k<c.buf.length)(hc:can N p c (k:Int)=true):Kept c k (A0 N p c (k:Int)):=by
 have hend:c.end_=0:=by
  simp only[can,Bool.and_eq_true] at hc
  exact(H9 hc.1.1).1
 unfold A0
 generalize ZR c.buf (k:Int)=e
 generalize Yv p c (k:Int)=x
 unfold J3
 split
 ·exact HA hend hk _ _ (by simp)
 split
 ·exact HA hend hk _ _ (by simp)
 split
 ·exact HA hend hk _ _ (by simp)
 split
 ·split
  ·exact HA hend hk _ _ (by simp)
  ·exact HA hend hk _ _ (by simp)
 split
 ·exact Z0w hend hk _ _
 split
 ·exact Z0w hend hk _ _
 split
 ·split
  ·exact HA hend hk _ _ (by simp)
  ·split
   ·exact HA hend hk _ _ (by simp)
   ·exact Z0w hend hk _ _
 ·exact HA hend hk _ _ (by simp)
theorem Znw (hk:k<c.buf.length)(hc:Q6 p c (k:Int)=true):Kept c k (Ew N p c (k:Int)):=by
 have hend:c.end_=0:=by
  simp only[Q6,Bool.and_eq_true] at hc
  exact(H9 hc.1.1.1.1).1
 unfold Ew
 generalize ZR c.buf (k:Int)=e
 generalize J7 p c (k:Int)=ad
 unfold KH
 split
 ·exact HA hend hk _ _ (by simp)
 ·rw [Int.toNat_natCast]
  generalize hL:c.buf.set k { e with addr:=ad,known:=true,fault:=false }=L
  have hLl:L.length=c.buf.length:=by rw[<-hL];exact List.length_set
  have hLt:L.take k=c.buf.take k:=by rw[<-hL];exact X8
  unfold MZ
  cases hz:(JK p L (k:Int) ad).2 with
  | false=>
   refine⟨c.state.pc,L,[⟨2,ad⟩],?_,by omega,by omega,Nat.le_refl 1,hLt,fun _ _=>rfl,fun h=>by omega⟩
   simp only[cond_false]
   rw[<-hend]
  | true=>
   obtain⟨z1,z2⟩:=Z74 hz (by omega) (by omega)
   simp only[cond_true]
   generalize (JK p L (k:Int) ad).1=z at *
   obtain⟨e2,he2⟩:∃ e,L[z.toNat]? =some e:=⟨_,List.getElem?_eq_getElem (by omega)⟩
   have he3:ZR L z=e2:=by unfold ZR;rw[he2];rfl
   have he4:c.buf[z.toNat]? =some e2:=by
    rw[<-hL,List.getElem?_set_ne (by omega)] at he2;exact he2
   have hlen:(L.take z.toNat).length=z.toNat:=by rw[List.length_take];omega
   refine⟨e2.pc,L.take z.toNat,[⟨2,ad⟩],?_,by omega,by omega,Nat.le_refl 1,?_,fun h1 h2=>by omega,fun h1 h2=>⟨e2,by rw[hlen];exact he4,rfl⟩⟩
   ·rw[he3,<-hend]
   ·rw[List.take_take,Nat.min_eq_left (by omega)];exact hLt
end
end Go.Aug.Md
namespace Go.Aug.Md
open Go Go.Aug
set_option linter.unusedSimpArgs false
set_option linter.unusedVariables false
section
variable {N:Int} {p:Prog} {c:Conf}
theorem Zgy (d:Dir)(hc:QB N p c d=true):(say N p c d).2.length<=1:=by
 unfold QB at hc
 unfold say
 split at hc
 ·rename_i h1;rw[if_pos h1];exact Nat.zero_le _
 rename_i h1;rw[if_neg h1]
 split at hc
 ·rename_i h2; rw [if_pos h2]
  have ho:JG p c d.n=true:=by
   simp only[can,Bool.and_eq_true] at hc;exact hc.1.1
  obtain⟨_,k,hk,hg⟩:=H9 ho
  have hlt:=(List.getElem?_eq_some_iff.1 hg).1
  rw[hk] at hc ⊢
  obtain⟨px,bx,ob,hR,_,_,f5,_⟩:=Znv hlt hc
  rw[hR]
  exact f5
 rename_i h2;rw[if_neg h2]
 split at hc
 ·rename_i h3; rw [if_pos h3]
  have ho:JG p c d.n=true:=by
   simp only[Q6,Bool.and_eq_true] at hc;exact hc.1.1.1.1
  obtain⟨_,k,hk,hg⟩:=H9 ho
  have hlt:=(List.getElem?_eq_some_iff.1 hg).1
  rw[hk] at hc ⊢
  obtain⟨px,bx,ob,hR,_,_,f5,_⟩:=Znw (N:=N) hlt hc
  rw[hR]
  exact f5
 ·rename_i h3;rw[if_neg h3];exact Nat.zero_le _
end
end Go.Aug.Md
