import Derived.Test.YtmfdoekbjkgckaaGreatMc9
import Derived.Test.YtmfdoekbjkgckaaGreatMc33
import Derived.Test.YtmfdoekbjkgckaaGreatMc12
import Derived.Test.YtmfdoekbjkgckaaGreatMc53
import Derived.Test.YtmfdoekbjkgckaaGreatMc18
import Derived.Test.YtmfdoekbjkgckaaGreatMl
import Derived.Test.YtmfdoekbjkgckaaGreatMc3
import Derived.Test.YtmfdoekbjkgckaaGreatMc36
namespace Go.Aug.Mc
open Go Go.Aug
set_option linter.unusedSimpArgs false
set_option linter.unusedVariables false
set_option maxHeartbeats 40000000
variable {E:Env} {fn:FuncId->Option (Env->cT->cT)}
section
variable (S:Sur E fn)
include S
theorem Zj0 (dp:Nat)(l:List Int)(x:Int)(hl:l.length<1073741823):Z6 E fn (dp+1) 153 [rD l,vi x] (rD (Md.push l x)):=by
 unfold Z6
 show Zk (Z4 E fn (dp+1) 153 [.d (rD l),.d (vi x)] [])=_
 rw[ZK,S.Z91,ZM,Zea,ZP _ _ _ _ _ _ _ _ rfl]
 have hl2:l.length<1073741824:=by omega
 have hpl:(Md.push l x).length<1073741824:=by unfold Md.push;rw[List.length_drop,List.length_append,List.length_singleton];omega
 by_cases h0:l.length=0
 ·have hl0 : l = [] := List.length_eq_zero_iff.1 h0
  have oa:∀ i,YJ i l=.d (.lst [] 0 (some 0)):=fun i=>GK h0 i
  have ob:Yw l=[]:=GJ h0
  have bd:=PF 1 .i64 0 (by omega) (by omega)
  have oc:=fun(A:List Blk) (nb:Nat) (us:List Nat)=>E9 S (l:=[x]) (by simp) (Z4 E fn dp) A nb us
  have e1:∀ nb,YJ nb [x]=.sref nb 0 0 1 1 none:=fun _=>rfl
  have e2:Yw [x]=[.cells [.d (vi x)] 0 false]:=rfl
  have e3:rD [x]=.lst [vi x] 1 none:=rfl
  simp only[e1,e2,e3] at oc
  have hp:Md.push l x=[x]:=by rw[hl0];rfl
  rw[hp]
  simp only[eG,go_sem,Z3 S,Z2 S,Nat.reduceLT,Nat.reduceEqDiff,Nat.reduceAdd,Nat.reduceMul,Nat.reduceLeDiff,Int.reduceEq,Int.reduceLT,Int.reduceLE,Int.reduceNeg,reduceCtorEq,E9 S hl2,oa,ob,ZD,ZE,ZF,ZG,Z9,DA,Ak,Option.map_some,show(1:Nat)*8<=Z5 by decide,show(1:Nat)<=Z5 by decide,Int.natCast_one,show IntKind.i64.wrap (-1)= -1 by decide,show max (-1:Int) 0=0 by decide,bd,Int.toNat_zero,oc,ne_eq,Nat.one_ne_zero,not_false_eq_true,Int.reduceSub,Nat.zero_mul,Nat.sub_zero,Nat.one_mul,Yk,Nat.le_refl,false_and,and_false,Nat.add_zero,Option.map_none]
  rfl
 ·have l4 : (l.length + 1) * 8 <= Z5 := by unfold Z5; omega
  have l5:l.length+1<=Z5:=by unfold Z5;omega
  have w1:max (IntKind.i64.wrap (((l.length+1:Nat):Int)-2)) 0=((l.length-1:Nat):Int):=by rw[Q4 (by omega) (by omega)];omega
  have bd:=PF (l.length+1) .i64 ((l.length-1:Nat):Int) (by omega) (by omega)
  have n1:¬(l.length-1=l.length+1):=by omega
  have e1:(l++[x]).take (l.length-1)++(Md.push l x++[])=l++[x]:=by rw[List.append_nil];exact List.take_append_drop _ _
  have e2:l.length+1-(l.length-1)=(Md.push l x).length:=by simp[Md.push]
  have hd:∀ n v,deep [.cells ((rC (l++[x])).map .d) v false] (n+2) (.sref 0 v (l.length-1) (l.length+1-(l.length-1)) 1 none)=some (.lst (rC (Md.push l x)) (Md.push l x).length none,[0]):=by
   intro n v
   rw[e2]
   refine PC (pre:=(l++[x]).take (l.length-1)) (junk:=[]) (ro:=false) (by rw[e1];rfl) ?_ n _ _ _ _ rfl ?_ ?_
   ·intro h
    have:=congrArg List.length h
    simp[Md.push] at this
    omega
   ·simp[Z6g];omega
   ·simp[Md.push]
  have hne:Md.push l x≠[]:=fun h=>by
   have:=congrArg List.length h
   unfold Md.push at this
   rw[List.length_drop,List.length_append,List.length_singleton,List.length_nil] at this
   omega
  have hln:(Md.push l x).length≠0:=fun h=>hne (List.length_eq_zero_iff.1 h)
  simp only[eG,go_sem,Z3 S,Z2 S,Nat.reduceLT,Nat.reduceEqDiff,Nat.reduceAdd,Nat.reduceMul,Nat.reduceLeDiff,Int.reduceEq,Int.reduceLT,Int.reduceLE,Int.reduceNeg,reduceCtorEq,E9 S hl2,ZC h0,ZB h0,ZD,ZE,ZF,ZG,Z9,DA,BX,l4,l5,w1,bd,Int.toNat_natCast,n1,false_and,Nat.mul_one,Nat.zero_add,Option.map_some,Option.map_none,hd,Jv,E9 S hpl,ZC hln,ZB hln]
  rw[CA _ hne _ rfl 6 1 none rfl]
  rfl
theorem Zcf (dp:Nat)(l:List Int)(x:Int)(hl:l.length<1073741823)(A:List Blk)(nb:Nat):ZH false E (Z4 E fn (dp+1)) 153 A nb (some ([rD l,vi x],[]))=some (.made (.d (rD (Md.push l x))) []):=
 Z6.deep (Zj0 S dp l x hl) (np S 153 (by decide)) A nb
end
open Nat renaming reduceLT -> zN0, reduceEqDiff -> zN1, reduceAdd -> zN2, reduceMul -> zN3, reduceLeDiff -> zN4
open Int renaming reduceEq -> zI0, reduceLT -> zI1, reduceLE -> zI2, reduceNeg -> zI3
set_option maxRecDepth 200000
def VT (o:Option (List Int)):Bool:=match o with | none=>true | some l=>decide (4<=l.length)
variable {E:Env} {fn:FuncId->Option (Env->cT->cT)}
section
variable (S:Sur E fn)
include S
theorem Z63:E.lives 142 11=none:=off S 142 11 (by decide) rfl
theorem HC:E.lives 113 13=none/\E.lives 113 15=none/\E.lives 113 19=none/\E.lives 113 23=none/\E.lives 113 27=none/\E.lives 113 33=none/\E.lives 113 37=none/\E.lives 113 39=none:=⟨off S 113 13 (by decide) rfl,off S 113 15 (by decide) rfl,off S 113 19 (by decide) rfl,off S 113 23 (by decide) rfl,off S 113 27 (by decide) rfl,off S 113 33 (by decide) rfl,off S 113 37 (by decide) rfl,off S 113 39 (by decide) rfl⟩
theorem Zre (dp:Nat)(p:Prog)(r0 r1 r2 r3 pc en:Int)(mm sk rb:List Int)(bf:List Ent)(e1 e2 e3 e4 e5:Int)(e6 e7 e8:Bool)(hs:sk.length<1073741824)(hb:bf.length<1073741824)(hr:rb.length<1073741823):
  Z4 E fn (dp+4) 141 [.agg [.d (vi p.w),.d (vi p.window),.d (vi p.fuel),.d (vi p.regs.r0),.d (vi p.regs.r1),.d (vi p.regs.r2),.d (vi p.regs.r3),.d (rD p.mems),.d (rD p.labels),.d (rD p.ins)],.ref 0 0 0,.agg [.d (vi e1),.d (vi e2),.d (vi e3),.d (vi e4),.d (vi e5),.d (vb e6),.d (vb e7),.d (vb e8)]] [.cells [.d (vi r0),.d (vi r1),.d (vi r2),.d (vi r3),.d (rD mm),.d (rD sk),.d (vi pc),.d (rD bf),.d (rD rb),.d (vi en)] 0 false]=
  some (.agg [.d (vi e1),.d (vi e2),.d (vi e3),.d (vi e4),.d (vi e5),.d (vb true),.d (vb e7),.d (vb (VT (Md.real p sk bf bf.length)))],[.cells [.d (vi r0),.d (vi r1),.d (vi r2),.d (vi r3),.d (rD mm),.d (rD sk),.d (vi pc),.d (rD bf),.d (rD (Md.push rb (Md.ZY (e1+1)))),.d (vi en)] 0 false]):=by
 rw[ZK,S.Zah,ZM,Zfq,ZP _ _ _ _ _ _ _ _ rfl]
 cases hreal:Md.real p sk bf bf.length with
 | none=>simp only[go_sem,Z3 S,Z2 S,zN0,zN1,zN2,zN3,zN4,zI0,zI1,zI2,zI3,reduceCtorEq,YR,YG,YH,YK,YM,List.take_succ_cons,List.take_zero,ZD,ZE,ZF,ZG,Z9,Option.map_some,TY S,Zcf S,hs,hb,hr,hreal,Bv,ED,VT,Md.ZY,Bool.not_true,Bool.not_false]
 | some l=>
  have hr4:decide ((l.length:Int)>=4)=decide (4<=l.length):=decide_eq_decide.2 (by omega)
  simp only[go_sem,Z3 S,Z2 S,zN0,zN1,zN2,zN3,zN4,zI0,zI1,zI2,zI3,reduceCtorEq,hr4,YR,YG,YH,YK,YM,List.take_succ_cons,List.take_zero,ZD,ZE,ZF,ZG,Z9,Option.map_some,TY S,Zcf S,hs,hb,hr,hreal,Bv,ED,VT,Md.ZY,Bool.not_true,Bool.not_false]
theorem Z4s (dp:Nat)(r0 r1 r2 r3 pc en g:Int)(mm sk rb:List Int)(bf:List Ent)(e1 e2 e3 e4 e5:Int)(e6 e7 e8:Bool)(hr:rb.length<1073741824):
  Z4 E fn (dp+2) 142 [.ref 0 0 0,.agg [.d (vi e1),.d (vi e2),.d (vi e3),.d (vi e4),.d (vi e5),.d (vb e6),.d (vb e7),.d (vb e8)],.d (vi g)] [.cells [.d (vi r0),.d (vi r1),.d (vi r2),.d (vi r3),.d (rD mm),.d (rD sk),.d (vi pc),.d (rD bf),.d (rD rb),.d (vi en)] 0 false]=
  some (.agg [.d (vi e1),.d (vi e2),.d (vi e3),.d (vi e4),.d (vi (if rb.length=0 then g else Md.Cz rb)),.d (vb e6),.d (vb e7),.d (vb e8)],[.cells [.d (vi r0),.d (vi r1),.d (vi r2),.d (vi r3),.d (rD mm),.d (rD sk),.d (vi pc),.d (rD bf),.d (rD (if rb.length=0 then rb else rb.dropLast)),.d (vi en)] 0 false]):=by
 rw[ZK,S.Zaf,ZM,Zfo,ZP _ _ _ _ _ _ _ _ rfl]
 by_cases h:rb.length=0
 ·simp only[go_sem,Z3 S,Z2 S,zN0,zN1,zN2,zN3,zN4,zI0,zI1,zI2,zI3,reduceCtorEq,Z63 S,YR,YG,YH,YK,YM,List.take_succ_cons,List.take_zero,ZD,ZE,ZF,ZG,Z9,Option.map_some,S3 S,hr,h,ne_eq,not_true_eq_false,not_false_eq_true]
 ·simp only[go_sem,Z3 S,Z2 S,zN0,zN1,zN2,zN3,zN4,zI0,zI1,zI2,zI3,reduceCtorEq,Z63 S,YR,YG,YH,YK,YM,List.take_succ_cons,List.take_zero,ZD,ZE,ZF,ZG,Z9,Option.map_some,S3 S,hr,h,ne_eq,not_true_eq_false,not_false_eq_true]
theorem Zqa (dp:Nat)(p:Prog)(c:Conf)(g:Int)(hs:c.state.stack.length<1073741824)(hb:c.buf.length<1073741824)(hr:c.rsb.length<1073741823):
  Z4 E fn (dp+5) 113 [.agg [.d (vi p.w),.d (vi p.window),.d (vi p.fuel),.d (vi p.regs.r0),.d (vi p.regs.r1),.d (vi p.regs.r2),.d (vi p.regs.r3),.d (rD p.mems),.d (rD p.labels),.d (rD p.ins)],.ref 0 0 0,.d (vi g)] [.cells ((QB c).map .d) 0 false]=
  some (.agg ((Cl.cells (Md.QU p c g).1).map .d),[.cells ((QB { c with rsb:=(Md.QU p c g).2 }).map .d) 0 false]):=by
 have hr':c.rsb.length<1073741824:=by omega
 rw[ZK,S.Zag,ZM,Zfp,ZP _ _ _ _ _ _ _ _ rfl]
 by_cases k5:(Md.at_ p c.state.pc).kind=5
 ·by_cases hg : g = 1
  ·simp only[go_sem,Z3 S,Z2 S,zN0,zN1,zN2,zN3,zN4,zI0,zI1,zI2,zI3,reduceCtorEq,HC S,YR,YG,YH,YK,YM,List.take_succ_cons,List.take_zero,ZD,ZE,ZF,ZG,Z9,Option.map_some,Yx S,Md.QU,Md.ZY,zI0,if_true,if_false,or_self,true_or,or_true,k5,hg]
  ·simp only[go_sem,Z3 S,Z2 S,zN0,zN1,zN2,zN3,zN4,zI0,zI1,zI2,zI3,reduceCtorEq,HC S,YR,YG,YH,YK,YM,List.take_succ_cons,List.take_zero,ZD,ZE,ZF,ZG,Z9,Option.map_some,Yx S,Md.QU,Md.ZY,zI0,if_true,if_false,or_self,true_or,or_true,k5,hg]
 by_cases k6:(Md.at_ p c.state.pc).kind=6
 ·simp only[go_sem,Z3 S,Z2 S,zN0,zN1,zN2,zN3,zN4,zI0,zI1,zI2,zI3,reduceCtorEq,HC S,YR,YG,YH,YK,YM,List.take_succ_cons,List.take_zero,ZD,ZE,ZF,ZG,Z9,Option.map_some,Yx S,Md.QU,Md.ZY,zI0,if_true,if_false,or_self,true_or,or_true,k6]
 by_cases k7:(Md.at_ p c.state.pc).kind=7
 ·simp only[go_sem,Z3 S,Z2 S,zN0,zN1,zN2,zN3,zN4,zI0,zI1,zI2,zI3,reduceCtorEq,HC S,YR,YG,YH,YK,YM,List.take_succ_cons,List.take_zero,ZD,ZE,ZF,ZG,Z9,Option.map_some,Yx S,Md.QU,Md.ZY,zI0,if_true,if_false,or_self,true_or,or_true,k7]
 by_cases k8:(Md.at_ p c.state.pc).kind=8
 ·simp only [go_sem, Z3 S, Z2 S, zN0, zN1, zN2, zN3, zN4, zI0, zI1, zI2, zI3, reduceCtorEq, HC S, YR, YG, YH, YK, YM, List.take_succ_cons, List.take_zero, ZD, ZE, ZF, ZG, Z9, Option.map_some, Yx S, Md.QU, Md.ZY, zI0, if_true, if_false, or_self, true_or, or_true, J1, Aj, AN, B3, EC, AP, Aq, Ax, AZ, B0, AS, AU, AQ, AR, AW, AX, Az, Aw, AC, AY, Eq, List.drop_succ_cons, List.drop_zero, List.getD_cons_zero, List.getD_cons_succ, show Nat.ble 1 1 = true from rfl, Z2 S, k8, Zre S, hs, hb, hr, VT]
  rfl
 by_cases k9:(Md.at_ p c.state.pc).kind=9
 ·by_cases hz : c.rsb.length = 0
  ·simp only[go_sem,Z3 S,Z2 S,zN0,zN1,zN2,zN3,zN4,zI0,zI1,zI2,zI3,reduceCtorEq,HC S,YR,YG,YH,YK,YM,List.take_succ_cons,List.take_zero,ZD,ZE,ZF,ZG,Z9,Option.map_some,Yx S,Md.QU,Md.ZY,zI0,if_true,if_false,or_self,true_or,or_true,J1,Aj,AN,B3,EC,AP,Aq,Ax,AZ,B0,AS,AU,AQ,AR,AW,AX,Az,Aw,AC,AY,Eq,List.drop_succ_cons,List.drop_zero,List.getD_cons_zero,List.getD_cons_succ,show Nat.ble 1 1=true from rfl,Z2 S,k9,Z4s S,hr',hz]
  ·simp only[go_sem,Z3 S,Z2 S,zN0,zN1,zN2,zN3,zN4,zI0,zI1,zI2,zI3,reduceCtorEq,HC S,YR,YG,YH,YK,YM,List.take_succ_cons,List.take_zero,ZD,ZE,ZF,ZG,Z9,Option.map_some,Yx S,Md.QU,Md.ZY,zI0,if_true,if_false,or_self,true_or,or_true,J1,Aj,AN,B3,EC,AP,Aq,Ax,AZ,B0,AS,AU,AQ,AR,AW,AX,Az,Aw,AC,AY,Eq,List.drop_succ_cons,List.drop_zero,List.getD_cons_zero,List.getD_cons_succ,show Nat.ble 1 1=true from rfl,Z2 S,k9,Z4s S,hr',hz]
 by_cases k11:(Md.at_ p c.state.pc).kind=11
 ·simp only[go_sem,Z3 S,Z2 S,zN0,zN1,zN2,zN3,zN4,zI0,zI1,zI2,zI3,reduceCtorEq,HC S,YR,YG,YH,YK,YM,List.take_succ_cons,List.take_zero,ZD,ZE,ZF,ZG,Z9,Option.map_some,Yx S,Md.QU,Md.ZY,zI0,if_true,if_false,or_self,true_or,or_true,k11]
 by_cases k12:(Md.at_ p c.state.pc).kind=12
 ·simp only[go_sem,Z3 S,Z2 S,zN0,zN1,zN2,zN3,zN4,zI0,zI1,zI2,zI3,reduceCtorEq,HC S,YR,YG,YH,YK,YM,List.take_succ_cons,List.take_zero,ZD,ZE,ZF,ZG,Z9,Option.map_some,Yx S,Md.QU,Md.ZY,zI0,if_true,if_false,or_self,true_or,or_true,k12]
 ·simp only[go_sem,Z3 S,Z2 S,zN0,zN1,zN2,zN3,zN4,zI0,zI1,zI2,zI3,reduceCtorEq,HC S,YR,YG,YH,YK,YM,List.take_succ_cons,List.take_zero,ZD,ZE,ZF,ZG,Z9,Option.map_some,Yx S,Md.QU,Md.ZY,zI0,if_true,if_false,or_self,true_or,or_true,k5,k6,k7,k8,k9,k11,k12]
end
section
variable (S:Sur E fn)
include S
theorem Z0i:E.lives 66 7=none:=off S 66 7 (by decide) rfl
theorem Zka (dp:Nat)(p:Prog)(c:Conf)(g:Int)(hi:p.ins.length<1073741824)(hb:c.buf.length<1073741823)(hm:c.state.mem.length<1073741824)(hs:c.state.stack.length<1073741824)(hr:c.rsb.length<1073741823):Z6 E fn (dp+6) 66 [Zw p,ZA c,vi g] (.tup [ZA (GV p c g),vb (Md.CB p c g)]):=by
 unfold Z6
 show Zk (Z4 E fn (dp+5+1) 66 [.d (Zw p),.d (ZA c),.d (vi g)] [])=_
 rw[ZK,S.Zaj,ZM,Zfs,ZP _ _ _ _ _ _ _ _ rfl]
 have hb':c.buf.length<1073741824:=by omega
 have hr':c.rsb.length<1073741824:=by omega
 by_cases g0:g<0
 ·simp only[eG,go_sem,Z3 S,Z2 S,Nat.reduceLT,Nat.reduceEqDiff,Nat.reduceAdd,Nat.reduceMul,Nat.reduceLeDiff,Int.reduceEq,Int.reduceLT,Int.reduceLE,Int.reduceNeg,reduceCtorEq,Z0i S,g0,GV,Md.CB,show ¬0<=g by omega,Md.QH]
 by_cases g1:g>=Md.Q8 p c
 ·simp only[eG,go_sem,Z3 S,Z2 S,Nat.reduceLT,Nat.reduceEqDiff,Nat.reduceAdd,Nat.reduceMul,Nat.reduceLeDiff,Int.reduceEq,Int.reduceLT,Int.reduceLE,Int.reduceNeg,reduceCtorEq,Z0i S,g0,g1,GV,Md.CB,show ¬g<Md.Q8 p c by omega,Md.QH,WN S,hi]
 have hc:Md.CB p c g=true:=by simp[Md.CB];omega
 have hw:¬(c.buf.length:Int)>=p.window:=by
  have:¬Md.Q8 p c<=0:=by omega
  intro h
  apply this
  unfold Md.Q8
  rw[if_pos (.inr (.inr h))]
  exact Int.le_refl 0
 unfold GV
 rw[hc,cond_true]
 unfold Md.BP
 have eg:=Zqa S dp p c g hs hb' hr
 generalize (Md.QU p c g).1=e at eg ⊢
 generalize (Md.QU p c g).2=rb at eg ⊢
 have hp:NV c.buf e p.window=c.buf++[e]:=by unfold NV;rw[if_neg hw]
 simp only[QB,H8,CX,Z2b,List.map_cons,List.map_nil,List.cons_append,List.nil_append,List.map_append] at eg
 simp only[eG,go_sem,Z3 S,Z2 S,Nat.reduceLT,Nat.reduceEqDiff,Nat.reduceAdd,Nat.reduceMul,Nat.reduceLeDiff,Int.reduceEq,Int.reduceLT,Int.reduceLE,Int.reduceNeg,reduceCtorEq,Z0i S,YR,YG,YH,YK,YM,List.take_succ_cons,List.take_zero,ZD,ZE,ZF,ZG,Z9,Option.map_some,J1,Aj,AN,B3,EC,AP,Aq,Ax,AZ,B0,AS,AU,AQ,AR,AW,AX,Az,Aw,AC,AY,Eq,List.drop_succ_cons,List.drop_zero,List.getD_cons_zero,List.getD_cons_succ,show Nat.ble 1 1=true from rfl,Z2 S,g0,g1,WN S,hi,Z2h S,hm,hs,hb,hb',hr',eg,Zrr S,hp]
end
theorem Zpv {p:Prog}{c:Conf}{g:Int}(hl:c.buf.length<1073741823)(hm:c.state.mem.length<1073741824)(hs:c.state.stack.length<1073741824)(hr:c.rsb.length<1073741823):
  (Md.BP p c g).state.mem.length<1073741824/\(Md.BP p c g).state.stack.length<1073741824/\(Md.BP p c g).buf.length<1073741824/\(Md.BP p c g).rsb.length<1073741824:=by
 refine⟨hm,hs,?_,?_⟩
 ·show (c.buf ++ [(Md.QU p c g).1]).length < _
  rw[List.length_append,List.length_singleton];omega
 ·show (Md.QU p c g).2.length < _
  unfold Md.QU
  simp only
  split
  ·show c.rsb.length<_;omega
  split
  ·show c.rsb.length<_;omega
  split
  ·show c.rsb.length<_;omega
  split
  ·show (Md.push c.rsb _).length < _
   unfold Md.push
   rw[List.length_drop,List.length_append,List.length_singleton];omega
  split
  ·split
   ·show c.rsb.length<_;omega
   ·show c.rsb.dropLast.length < _
    rw[List.length_dropLast];omega
  split
  ·show c.rsb.length<_;omega
  ·show c.rsb.length<_;omega
variable {E:Env} {fn:FuncId->Option (Env->cT->cT)}
section
variable (S:Sur E fn)
include S
theorem T9:E.lives 35 7=none/\E.lives 35 13=none/\E.lives 35 17=none/\E.lives 35 21=none:=⟨off S 35 7 (by decide) rfl,off S 35 13 (by decide) rfl,off S 35 17 (by decide) rfl,off S 35 21 (by decide) rfl⟩
theorem Zko (dp:Nat)(p:Prog)(c:Conf)(d:Dir)(hi:p.ins.length<1073741824)(hp:p.mems.length<1073741824)(hl:c.buf.length<1073741823)(hm:c.state.mem.length<1073741824)(hs:c.state.stack.length<1073741823)(hr:c.rsb.length<1073741823)(hg:(Bv (Md.real p c.state.stack c.buf d.n)).length<1073741824)(hd:0<=(Md.at_ p (Md.ZW c.buf 0).pc).d/\(Md.at_ p (Md.ZW c.buf 0).pc).d<=3):Z6 E fn (dp+11) 35 [Zw p,ZA c,.agg (Cl.cells d)] (.tup [ZA (QG (Z7 p.mems) p c d).1,rD (QG (Z7 p.mems) p c d).2,vb (Md.Qw (Z7 p.mems) p c d)]):=by
 unfold Z6
 show Zk (Z4 E fn (dp+10+1) 35 [.d (Zw p),.d (ZA c),.d (.agg (Cl.cells d))] [])=_
 rw[ZK,S.Zax,ZM,Zg6,ZP _ _ _ _ _ _ _ _ rfl]
 have hl':c.buf.length<1073741824:=by omega
 have hs':c.state.stack.length<1073741824:=by omega
 have hr':c.rsb.length<1073741824:=by omega
 cases hcan:Md.Qw (Z7 p.mems) p c d with
 | false=>simp only[eG,go_sem,Z3 S,Z2 S,zN0,zN1,zN2,zN3,zN4,zI0,zI1,zI2,zI3,reduceCtorEq,T9 S,TZ S,hi,hp,hl',hcan,Bool.not_false,QG,Md.QH]
 | true=>
  have hsay:QG (Z7 p.mems) p c d=Md.say (Z7 p.mems) p c d:=by unfold QG;rw[hcan];rfl
  rw[hsay]
  have cF:=fun(A:List Blk) (nb:Nat)=>Z6.deep (Zka S (dp+4) p c d.n hi hl hm hs' hr) (np S 66 (by decide)) A nb
  have cD:=fun(A:List Blk) (nb:Nat)=>Z6.deep (Zkk S dp p c d.n hp hm hs' hl' hr' hg) (np S 63 (by decide)) A nb
  have cA:=fun(A:List Blk) (nb:Nat)=>Z6.deep (Zkn S (dp+2) p c d.n hp hm hs' hl' hr') (np S 64 (by decide)) A nb
  have cR:=fun(A:List Blk) (nb:Nat)=>Z6.deep (Zix S (dp+5) p c hl hm hs hr' hd) (np S 65 (by decide)) A nb
  have hdd:=hcan
  obtain⟨dk,dn⟩:=d
  simp only at cF cD cA cR hcan hg
  by_cases k1:dk=1
  ·subst k1
   have hc:Md.CB p c dn=true:=by simpa [Md.Qw] using hcan
   have hF:GV p c dn=Md.BP p c dn:=by unfold GV;rw[hc];rfl
   obtain⟨f1,f2,f3,f4⟩:=Zpv (p:=p) (c:=c) (g:=dn) hl hm hs' hr
   rw[hF,hc] at cF
   have e1:Md.say (Z7 p.mems) p c ⟨1,dn⟩=(Md.BP p c dn,[]):=rfl
   rw[e1]
   generalize Md.BP p c dn=X at *
   simp only[Zw,ZZ,ZA,QB,H8,CX,List.cons_append,List.nil_append] at cF
   simp only[eG,go_sem,Z3 S,Z2 S,zN0,zN1,zN2,zN3,zN4,zI0,zI1,zI2,zI3,reduceCtorEq,T9 S,TZ S,hi,hp,hl',hcan,Bool.not_true,cF,Z2h S,f1,f2,f3,f4]
  by_cases k2:dk=2
  ·subst k2
   have hc:Md.can (Z7 p.mems) p c dn=true:=by simpa [Md.Qw] using hcan
   have hF:A7 (Z7 p.mems) p c dn=Md.A6 (Z7 p.mems) p c dn:=by unfold A7;rw[hc];rfl
   rw[hF,hc] at cD
   have e1:Md.say (Z7 p.mems) p c ⟨2,dn⟩=Md.A6 (Z7 p.mems) p c dn:=rfl
   rw[e1]
   generalize Md.A6 (Z7 p.mems) p c dn=X at *
   simp only[Zw,ZZ,ZA,QB,H8,CX,List.cons_append,List.nil_append] at cD
   simp only[eG,go_sem,Z3 S,Z2 S,zN0,zN1,zN2,zN3,zN4,zI0,zI1,zI2,zI3,reduceCtorEq,T9 S,TZ S,hi,hp,hl',hcan,Bool.not_true,cD]
  by_cases k3:dk=3
  ·subst k3
   have hc:Md.QC p c dn=true:=by simpa [Md.Qw] using hcan
   have hF:EG (Z7 p.mems) p c dn=Md.EF (Z7 p.mems) p c dn:=by unfold EG;rw[hc];rfl
   rw[hF,hc] at cA
   have e1:Md.say (Z7 p.mems) p c ⟨3,dn⟩=Md.EF (Z7 p.mems) p c dn:=rfl
   rw[e1]
   generalize Md.EF (Z7 p.mems) p c dn=X at *
   simp only[Zw,ZZ,ZA,QB,H8,CX,List.cons_append,List.nil_append] at cA
   simp only[eG,go_sem,Z3 S,Z2 S,zN0,zN1,zN2,zN3,zN4,zI0,zI1,zI2,zI3,reduceCtorEq,T9 S,TZ S,hi,hp,hl',hcan,Bool.not_true,cA]
  have h4:dk=4/\dn=0/\Md.Qv p c=true:=by
   simp[Md.Qw,k1,k2,k3] at hcan
   exact⟨hcan.1.1,hcan.1.2,hcan.2⟩
  obtain⟨k4,n0,hc⟩:=h4
  subst k4
  have hF:J8 p c=Md.J7 p c:=by unfold J8;rw[hc];rfl
  rw[hF,hc] at cR
  have e1:Md.say (Z7 p.mems) p c ⟨4,dn⟩=(Md.J7 p c,[]):=rfl
  rw[e1]
  generalize Md.J7 p c=X at *
  simp only[Zw,ZZ,ZA,QB,H8,CX,List.cons_append,List.nil_append] at cR
  simp only[eG,go_sem,Z3 S,Z2 S,zN0,zN1,zN2,zN3,zN4,zI0,zI1,zI2,zI3,reduceCtorEq,T9 S,TZ S,hi,hp,hl',hcan,Bool.not_true,cR]
end
theorem G4 (k:K)(tm:List AV)(A:List Blk):HW [] k tm A=k tm A:=id rfl
theorem UT (a b:Obs):(decide (a.kind=b.kind)&&decide (a.at_=b.at_))=decide (a=b):=by
 cases a;cases b
 rw[Bool.eq_iff_iff]
 simp only[Bool.and_eq_true,decide_eq_true_eq,Obs.mk.injEq]
theorem Rj (a b:Dir):(decide (a.kind=b.kind)&&decide (a.n=b.n))=decide (a=b):=by
 cases a;cases b
 rw[Bool.eq_iff_iff]
 simp only[Bool.and_eq_true,decide_eq_true_eq,Dir.mk.injEq]
variable {E:Env} {fn:FuncId->Option (Env->cT->cT)}
section
variable (S:Sur E fn)
include S
theorem MH:E.lives 37 1=none/\E.lives 37 7=none/\E.lives 37 17=none:=⟨off S 37 1 (by decide) rfl,off S 37 7 (by decide) rfl,off S 37 17 (by decide) rfl⟩
theorem MG:E.lives 50 1=none/\E.lives 50 7=none/\E.lives 50 17=none:=⟨off S 50 1 (by decide) rfl,off S 50 7 (by decide) rfl,off S 50 17 (by decide) rfl⟩
theorem MK:E.lives 12 1=none/\E.lives 12 7=none/\E.lives 12 17=none:=⟨off S 12 1 (by decide) rfl,off S 12 7 (by decide) rfl,off S 12 17 (by decide) rfl⟩
theorem Zo6 (dp:Nat)(a b:List Int)(hl:a.length<1073741824)(hab:a.length=b.length)(kx:Nat->K)(hx:∀ T,Zk (kx 0 (mk .bot 26 T) [])=some (vb true)):∀ m k f,k+m=a.length->m<=f->
  Zk (PZ (Zq E 37) (Z4 E fn dp) (Zj 10 PZ (Zq E 37) (Z4 E fn dp) kx (ZX 0 [.tmp 4]) f) kx (ZX 0 [.tmp 4]) (mk .bot 26 [(0,.d (rD a)),(1,.d (rD b)),(5,aI k)]) [])=
  some (vb (decide (a.drop k=b.drop k))):=by
 intro m
 induction m with
 | zero=>
  intro k f hk _
  obtain rfl:k=a.length:=by omega
  generalize Zj 10 PZ _ _ kx _ f=KK
  rw[PZ,show a.drop a.length=[] from List.drop_length,show b.drop a.length=[] by rw[hab];exact List.drop_length]
  simp only[eG,go_sem,Z3 S,Z2 S,zN0,zN1,zN2,zN3,zN4,zI0,zI1,zI2,zI3,reduceCtorEq,MH S,Int.lt_irrefl]
  exact hx _
 | succ m ih=>
  intro k f hk hf
  obtain⟨e,he⟩:=YX (show k<a.length by omega)
  obtain⟨e',he'⟩:=YX (show k<b.length by omega)
  obtain⟨f,rfl⟩:∃ g,f=g+1:=⟨f-1,by omega⟩
  generalize hK:Zj 10 PZ _ _ kx _ (f+1)=KK
  rw[PZ,JQ he,JQ he']
  by_cases h:e=e'
  ·subst h
   simp only[eG,go_sem,Z3 S,Z2 S,zN0,zN1,zN2,zN3,zN4,zI0,zI1,zI2,zI3,reduceCtorEq,MH S,show(k:Int)<a.length by omega,Zz he,Zz he',wi k (by omega),G4]
   rw[<-hK,Z8 (on S _ _ [0,1,5] (by decide) rfl) rfl _ _ _ _ _ _ _ _ _ rfl]
   simp only[eG,go_sem,Z3 S,Z2 S,zN0,zN1,zN2,zN3,zN4,zI0,zI1,zI2,zI3,reduceCtorEq,MH S]
   have:=ih (k+1) f (by omega) (by omega)
   simp only[List.cons.injEq,true_and]
   exact this
  ·simp only [eG, go_sem, Z3 S, Z2 S, zN0, zN1, zN2, zN3, zN4, zI0, zI1, zI2, zI3, reduceCtorEq, MH S, show (k : Int) < a.length by omega, Zz he, Zz he', wi k (by omega), G4, eq_false h]
   simp[h]
theorem Zk2 (dp:Nat)(a b:List Int)(hl:a.length<1073741824):Z6 E fn (dp+1) 37 [rD a,rD b] (vb (decide (a=b))):=by
 unfold Z6
 show Zk (Z4 E fn (dp+1) 37 [.d (rD a),.d (rD b)] [])=_
 rw[ZK,S.Za8,ZM,Zfh,ZP _ _ _ _ _ _ _ _ rfl]
 by_cases hab:a.length=b.length
 ·simp only [eG, go_sem, Z3 S, Z2 S, zN0, zN1, zN2, zN3, zN4, zI0, zI1, zI2, zI3, reduceCtorEq, MH S, hab, not_true_eq_false]
  rw[Y9,Z8 (on S _ _ [0,1,5] (by decide) rfl) rfl _ _ _ _ _ _ _ _ _ rfl]
  simp only[eG,go_sem,Z3 S,Z2 S,zN0,zN1,zN2,zN3,zN4,zI0,zI1,zI2,zI3,reduceCtorEq,MH S]
  refine Zo6 S dp a b hl hab _ ?_ a.length 0 _ (by omega) (by omega)
  intro T
  simp only[eG,go_sem,Z3 S,Z2 S,zN0,zN1,zN2,zN3,zN4,zI0,zI1,zI2,zI3,reduceCtorEq,MH S]
 ·have hne : ¬ a = b := fun e => hab (by rw [e])
  simp only[eG,go_sem,Z3 S,Z2 S,zN0,zN1,zN2,zN3,zN4,zI0,zI1,zI2,zI3,reduceCtorEq,MH S,show ¬((a.length:Int)=b.length) by omega,not_false_eq_true,eq_false hne]
theorem Zs0 (dp:Nat)(a b:List Int)(hl:a.length<1073741824)(A:List Blk)(nb:Nat)(us:List Nat):ZH false E (Z4 E fn (dp+1)) 37 A nb (some ([rD a,rD b],us))=some (.made (.d (vb (decide (a=b)))) []):=
 Z6.flat (Zk2 S dp a b hl) (np S 37 (by decide)) (rfl) A nb us
theorem Zo5 (dp:Nat)(a b:List Obs)(hl:a.length<1073741824)(hab:a.length=b.length)(kx:Nat->K)(hx:∀ T,Zk (kx 0 (mk .bot 26 T) [])=some (vb true)):∀ m k f,k+m=a.length->m<=f->
  Zk (PY (Zq E 50) (Z4 E fn dp) (Zj 10 PY (Zq E 50) (Z4 E fn dp) kx (ZX 0 [.tmp 4]) f) kx (ZX 0 [.tmp 4]) (mk .bot 26 [(0,.d (rD a)),(1,.d (rD b)),(5,aI k)]) [])=
  some (vb (decide (a.drop k=b.drop k))):=by
 intro m
 induction m with
 | zero=>
  intro k f hk _
  obtain rfl:k=a.length:=by omega
  generalize Zj 10 PY _ _ kx _ f=KK
  rw[PY,show a.drop a.length=[] from List.drop_length,show b.drop a.length=[] by rw[hab];exact List.drop_length]
  simp only[eG,go_sem,Z3 S,Z2 S,zN0,zN1,zN2,zN3,zN4,zI0,zI1,zI2,zI3,reduceCtorEq,MG S,Int.lt_irrefl]
  exact hx _
 | succ m ih=>
  intro k f hk hf
  obtain⟨e,he⟩:=YX (show k<a.length by omega)
  obtain⟨e',he'⟩:=YX (show k<b.length by omega)
  obtain⟨f,rfl⟩:∃ g,f=g+1:=⟨f-1,by omega⟩
  generalize hK:Zj 10 PY _ _ kx _ (f+1)=KK
  rw[PY,JQ he,JQ he']
  by_cases h:e=e'
  ·subst h
   simp only[eG,go_sem,Z3 S,Z2 S,zN0,zN1,zN2,zN3,zN4,zI0,zI1,zI2,zI3,reduceCtorEq,MG S,show(k:Int)<a.length by omega,Zz he,Zz he',wi k (by omega),G4,UT]
   rw[<-hK,Z8 (on S _ _ [0,1,5] (by decide) rfl) rfl _ _ _ _ _ _ _ _ _ rfl]
   simp only[eG,go_sem,Z3 S,Z2 S,zN0,zN1,zN2,zN3,zN4,zI0,zI1,zI2,zI3,reduceCtorEq,MG S]
   have:=ih (k+1) f (by omega) (by omega)
   simp only[List.cons.injEq,true_and]
   exact this
  ·simp only [eG, go_sem, Z3 S, Z2 S, zN0, zN1, zN2, zN3, zN4, zI0, zI1, zI2, zI3, reduceCtorEq, MG S, show (k : Int) < a.length by omega, Zz he, Zz he', wi k (by omega), G4, UT, eq_false h]
   simp[h]
theorem Zjv (dp:Nat)(a b:List Obs)(hl:a.length<1073741824):Z6 E fn (dp+1) 50 [rD a,rD b] (vb (decide (a=b))):=by
 unfold Z6
 show Zk (Z4 E fn (dp+1) 50 [.d (rD a),.d (rD b)] [])=_
 rw[ZK,S.Z9z,ZM,Zf8,ZP _ _ _ _ _ _ _ _ rfl]
 by_cases hab:a.length=b.length
 ·simp only [eG, go_sem, Z3 S, Z2 S, zN0, zN1, zN2, zN3, zN4, zI0, zI1, zI2, zI3, reduceCtorEq, MG S, hab, not_true_eq_false]
  rw[Y9,Z8 (on S _ _ [0,1,5] (by decide) rfl) rfl _ _ _ _ _ _ _ _ _ rfl]
  simp only[eG,go_sem,Z3 S,Z2 S,zN0,zN1,zN2,zN3,zN4,zI0,zI1,zI2,zI3,reduceCtorEq,MG S]
  refine Zo5 S dp a b hl hab _ ?_ a.length 0 _ (by omega) (by omega)
  intro T
  simp only[eG,go_sem,Z3 S,Z2 S,zN0,zN1,zN2,zN3,zN4,zI0,zI1,zI2,zI3,reduceCtorEq,MG S]
 ·have hne : ¬ a = b := fun e => hab (by rw [e])
  simp only[eG,go_sem,Z3 S,Z2 S,zN0,zN1,zN2,zN3,zN4,zI0,zI1,zI2,zI3,reduceCtorEq,MG S,show ¬((a.length:Int)=b.length) by omega,not_false_eq_true,eq_false hne]
theorem Zo4 (dp:Nat)(a b:List Dir)(hl:a.length<1073741824)(hab:a.length=b.length)(kx:Nat->K)(hx:∀ T,Zk (kx 0 (mk .bot 26 T) [])=some (vb true)):∀ m k f,k+m=a.length->m<=f->
  Zk (PW (Zq E 12) (Z4 E fn dp) (Zj 10 PW (Zq E 12) (Z4 E fn dp) kx (ZX 0 [.tmp 4]) f) kx (ZX 0 [.tmp 4]) (mk .bot 26 [(0,.d (rD a)),(1,.d (rD b)),(5,aI k)]) [])=
  some (vb (decide (a.drop k=b.drop k))):=by
 intro m
 induction m with
 | zero=>
  intro k f hk _
  obtain rfl:k=a.length:=by omega
  generalize Zj 10 PW _ _ kx _ f=KK
  rw[PW,show a.drop a.length=[] from List.drop_length,show b.drop a.length=[] by rw[hab];exact List.drop_length]
  simp only[eG,go_sem,Z3 S,Z2 S,zN0,zN1,zN2,zN3,zN4,zI0,zI1,zI2,zI3,reduceCtorEq,MK S,Int.lt_irrefl]
  exact hx _
 | succ m ih=>
  intro k f hk hf
  obtain⟨e,he⟩:=YX (show k<a.length by omega)
  obtain⟨e',he'⟩:=YX (show k<b.length by omega)
  obtain⟨f,rfl⟩:∃ g,f=g+1:=⟨f-1,by omega⟩
  generalize hK:Zj 10 PW _ _ kx _ (f+1)=KK
  rw[PW,JQ he,JQ he']
  by_cases h:e=e'
  ·subst h
   simp only[eG,go_sem,Z3 S,Z2 S,zN0,zN1,zN2,zN3,zN4,zI0,zI1,zI2,zI3,reduceCtorEq,MK S,show(k:Int)<a.length by omega,Zz he,Zz he',wi k (by omega),G4,Rj]
   rw[<-hK,Z8 (on S _ _ [0,1,5] (by decide) rfl) rfl _ _ _ _ _ _ _ _ _ rfl]
   simp only[eG,go_sem,Z3 S,Z2 S,zN0,zN1,zN2,zN3,zN4,zI0,zI1,zI2,zI3,reduceCtorEq,MK S]
   have:=ih (k+1) f (by omega) (by omega)
   simp only[List.cons.injEq,true_and]
   exact this
  ·simp only [eG, go_sem, Z3 S, Z2 S, zN0, zN1, zN2, zN3, zN4, zI0, zI1, zI2, zI3, reduceCtorEq, MK S, show (k : Int) < a.length by omega, Zz he, Zz he', wi k (by omega), G4, Rj, eq_false h]
   simp[h]
theorem Zjb (dp:Nat)(a b:List Dir)(hl:a.length<1073741824):Z6 E fn (dp+1) 12 [rD a,rD b] (vb (decide (a=b))):=by
 unfold Z6
 show Zk (Z4 E fn (dp+1) 12 [.d (rD a),.d (rD b)] [])=_
 rw[ZK,S.Z9e,ZM,Zen,ZP _ _ _ _ _ _ _ _ rfl]
 by_cases hab:a.length=b.length
 ·simp only [eG, go_sem, Z3 S, Z2 S, zN0, zN1, zN2, zN3, zN4, zI0, zI1, zI2, zI3, reduceCtorEq, MK S, hab, not_true_eq_false]
  rw[Y9,Z8 (on S _ _ [0,1,5] (by decide) rfl) rfl _ _ _ _ _ _ _ _ _ rfl]
  simp only[eG,go_sem,Z3 S,Z2 S,zN0,zN1,zN2,zN3,zN4,zI0,zI1,zI2,zI3,reduceCtorEq,MK S]
  refine Zo4 S dp a b hl hab _ ?_ a.length 0 _ (by omega) (by omega)
  intro T
  simp only[eG,go_sem,Z3 S,Z2 S,zN0,zN1,zN2,zN3,zN4,zI0,zI1,zI2,zI3,reduceCtorEq,MK S]
 ·have hne : ¬ a = b := fun e => hab (by rw [e])
  simp only[eG,go_sem,Z3 S,Z2 S,zN0,zN1,zN2,zN3,zN4,zI0,zI1,zI2,zI3,reduceCtorEq,MK S,show ¬((a.length:Int)=b.length) by omega,not_false_eq_true,eq_false hne]
end
end Go.Aug.Mc
namespace Go.Aug.Md
open Go Go.Aug
set_option linter.unusedSimpArgs false
set_option linter.unusedVariables false
def Kept (c:Conf)(k:Nat)(R:Conf×List Obs):Prop:=
 ∃(px:Int) (bx:List Ent) (o:List Obs),R=(⟨⟨c.state.regs,c.state.mem,c.state.stack,px⟩,bx,c.rsb,0⟩,o)/\k<bx.length/\bx.length<=c.buf.length/\o.length<=1/\bx.take k=c.buf.take k/\
  (bx.length=c.buf.length->k+1<c.buf.length->px=c.state.pc)/\(bx.length<c.buf.length->k+1<bx.length->∃ e,c.buf[bx.length]? =some e/\px=e.pc)
section
variable {N:Int} {p:Prog} {c:Conf} {k:Nat}
theorem XG {l:List Ent}{k:Nat}{e:Ent}:(l.set k e).take k=l.take k:=List.take_set_of_le (Nat.le_refl _)
theorem HJ (hend:c.end_=0)(hk:k<c.buf.length)(e:Ent)(o:List Obs)(ho:o.length<=1):Kept c k (put c (k:Int) e,o):=by
 refine⟨c.state.pc,c.buf.set k e,o,?_,by simpa using hk,by simp,ho,XG,fun _ _=>rfl,fun h=>by simp at h⟩
 unfold put
 rw[Int.toNat_natCast,<-hend]
theorem Z1d (hend:c.end_=0)(hk:k<c.buf.length)(e:Ent)(to:Int):Kept c k (B6 c (k:Int) e to):=by
 unfold B6
 split
 ·exact HJ hend hk _ _ (by simp)
 ·refine ⟨to, (c.buf.set k { e with done := true, next := to }).take (k + 1), [⟨3, to⟩], ?_, by rw [List.length_take, List.length_set]; omega, by rw [List.length_take, List.length_set]; omega, Nat.le_refl 1, ?_, fun h1 h2 => ?_, fun h1 h2 => ?_⟩
  ·rw[Int.toNat_natCast,<-hend]
  ·rw[List.take_take,Nat.min_eq_left (by omega)];exact XG
  ·rw[List.length_take,List.length_set] at h1;omega
  ·rw[List.length_take,List.length_set] at h2;omega
theorem Zos (hk:k<c.buf.length)(hc:can N p c (k:Int)=true):Kept c k (A6 N p c (k:Int)):=by
 have hend:c.end_=0:=by
  simp only[can,Bool.and_eq_true] at hc
  exact(Hw hc.1.1).1
 unfold A6
 generalize ZW c.buf (k:Int)=e
 generalize YB p c (k:Int)=x
 unfold J6
 split
 ·exact HJ hend hk _ _ (by simp)
 split
 ·exact HJ hend hk _ _ (by simp)
 split
 ·exact HJ hend hk _ _ (by simp)
 split
 ·split
  ·exact HJ hend hk _ _ (by simp)
  ·exact HJ hend hk _ _ (by simp)
 split
 ·exact Z1d hend hk _ _
 split
 ·exact Z1d hend hk _ _
 split
 ·split
  ·exact HJ hend hk _ _ (by simp)
  ·split
   ·exact HJ hend hk _ _ (by simp)
   ·exact Z1d hend hk _ _
 ·exact HJ hend hk _ _ (by simp)
theorem Zot (hk:k<c.buf.length)(hc:QC p c (k:Int)=true):Kept c k (EF N p c (k:Int)):=by
 have hend:c.end_=0:=by
  simp only[QC,Bool.and_eq_true] at hc
  exact(Hw hc.1.1.1.1).1
 unfold EF
 generalize ZW c.buf (k:Int)=e
 generalize J9 p c (k:Int)=ad
 unfold KV
 split
 ·exact HJ hend hk _ _ (by simp)
 ·rw [Int.toNat_natCast]
  generalize hL:c.buf.set k { e with addr:=ad,known:=true,fault:=false }=L
  have hLl:L.length=c.buf.length:=by rw[<-hL];exact List.length_set
  have hLt:L.take k=c.buf.take k:=by rw[<-hL];exact XG
  unfold N9
  cases hz:(JM p L (k:Int) ad).2 with
  | false=>
   refine⟨c.state.pc,L,[⟨2,ad⟩],?_,by omega,by omega,Nat.le_refl 1,hLt,fun _ _=>rfl,fun h=>by omega⟩
   simp only[cond_false]
   rw[<-hend]
  | true=>
   obtain⟨z1,z2⟩:=Z7r hz (by omega) (by omega)
   simp only[cond_true]
   generalize (JM p L (k:Int) ad).1=z at *
   obtain⟨e2,he2⟩:∃ e,L[z.toNat]? =some e:=⟨_,List.getElem?_eq_getElem (by omega)⟩
   have he3:ZW L z=e2:=by unfold ZW;rw[he2];rfl
   have he4:c.buf[z.toNat]? =some e2:=by
    rw[<-hL,List.getElem?_set_ne (by omega)] at he2;exact he2
   have hlen:(L.take z.toNat).length=z.toNat:=by rw[List.length_take];omega
   refine⟨e2.pc,L.take z.toNat,[⟨2,ad⟩],?_,by omega,by omega,Nat.le_refl 1,?_,fun h1 h2=>by omega,fun h1 h2=>⟨e2,by rw[hlen];exact he4,rfl⟩⟩
   ·rw[he3,<-hend]
   ·rw[List.take_take,Nat.min_eq_left (by omega)];exact hLt
end
end Go.Aug.Md
namespace Go.Aug.Md
open Go Go.Aug
set_option linter.unusedSimpArgs false
set_option linter.unusedVariables false
section
variable {N:Int} {p:Prog} {c:Conf}
theorem Zhr (d:Dir)(hc:Qw N p c d=true):(say N p c d).2.length<=1:=by
 unfold Qw at hc
 unfold say
 split at hc
 ·rename_i h1;rw[if_pos h1];exact Nat.zero_le _
 rename_i h1;rw[if_neg h1]
 split at hc
 ·rename_i h2; rw [if_pos h2]
  have ho:JG p c d.n=true:=by
   simp only[can,Bool.and_eq_true] at hc;exact hc.1.1
  obtain⟨_,k,hk,hg⟩:=Hw ho
  have hlt:=(List.getElem?_eq_some_iff.1 hg).1
  rw[hk] at hc ⊢
  obtain⟨px,bx,ob,hR,_,_,f5,_⟩:=Zos hlt hc
  rw[hR]
  exact f5
 rename_i h2;rw[if_neg h2]
 split at hc
 ·rename_i h3; rw [if_pos h3]
  have ho:JG p c d.n=true:=by
   simp only[QC,Bool.and_eq_true] at hc;exact hc.1.1.1.1
  obtain⟨_,k,hk,hg⟩:=Hw ho
  have hlt:=(List.getElem?_eq_some_iff.1 hg).1
  rw[hk] at hc ⊢
  obtain⟨px,bx,ob,hR,_,_,f5,_⟩:=Zot (N:=N) hlt hc
  rw[hR]
  exact f5
 ·rename_i h3;rw[if_neg h3];exact Nat.zero_le _
end
end Go.Aug.Md
namespace Go.Aug.Mc
open Go Go.Aug
open Nat renaming reduceLT -> zN0, reduceEqDiff -> zN1, reduceAdd -> zN2, reduceMul -> zN3, reduceLeDiff -> zN4
open Int renaming reduceEq -> zI0, reduceLT -> zI1, reduceLE -> zI2, reduceNeg -> zI3
set_option linter.unusedSimpArgs false
set_option linter.unusedVariables false
set_option maxHeartbeats 40000000
set_option maxRecDepth 200000
def Dk (N:Int)(p:Prog)(a b:Conf)(d:Dir):Bool:=(Md.Qw N p a d==Md.Qw N p b d)&&decide ((QG N p a d).2=(QG N p b d).2)
def Dz (N:Int)(p:Prog)(a b:Conf)(d:Dir):Bool:=Dk N p a b d&&Md.Qw N p a d
theorem R8 {p:Prog}(hp:Md.Fine p){N:Int}(hN:N<=1000){c:Conf}(hI:Md.Inv N p c)(d:Dir):
  (QG N p c d).1.buf.length<1000000/\(QG N p c d).1.state.mem.length<1000000/\(QG N p c d).1.state.stack.length<1000000/\(QG N p c d).1.rsb.length<1000000/\(QG N p c d).2.length<=1:=by
 unfold QG
 cases hc:Md.Qw N p c d with
 | false=>exact⟨(by show(0:Nat)<1000000;decide),(by show(0:Nat)<1000000;decide),(by show(0:Nat)<1000000;decide),(by show(0:Nat)<1000000;decide),(by show(0:Nat)<=1;decide)⟩
 | true=>
  obtain⟨_,q2,q3,q4,q5,_⟩:=Pz hp (hI.said hp d hc) hN ⟨0,0⟩
  exact⟨q2,q3,q4,q5,Md.Zhr d hc⟩
theorem Zbs {E:Env}{fn:FuncId->Option (Env->cT->cT)}(S:Sur E fn)(dp:Nat){p:Prog}(hp:Md.Fine p)(hml:p.mems.length<1000)(hN:Z7 p.mems<=1000){c:Conf}(hI:Md.Inv (Z7 p.mems) p c)(d:Dir)(A:List Blk)(nb:Nat):
  ZH false E (Z4 E fn (dp+11)) 35 A nb (some ([Zw p,ZA c,.agg [vi d.kind,vi d.n]],[]))=some (.made (.d (.tup [ZA (QG (Z7 p.mems) p c d).1,rD (QG (Z7 p.mems) p c d).2,vb (Md.Qw (Z7 p.mems) p c d)])) []):=by
 obtain⟨q1,q2,q3,q4,q5,y1,y2,y3,y4,y5,y6⟩:=Pz hp hI hN d
 exact Z6.deep (Zko S dp p c d q1 (by omega) (by omega) (by omega) (by omega) (by omega) y1 y4) (np S 35 (by decide)) A nb
variable {E:Env} {fn:FuncId->Option (Env->cT->cT)}
section
variable (S:Sur E fn)
include S
theorem MJ:E.lives 36 1=none/\E.lives 36 7=none/\E.lives 36 17=none:=⟨off S 36 1 (by decide) rfl,off S 36 7 (by decide) rfl,off S 36 17 (by decide) rfl⟩
theorem RG:E.lives 13 13=none:=off S 13 13 (by decide) rfl
theorem Zof (dp:Nat)(a b:List Obs)(hl:a.length<1073741824)(hab:a.length=b.length)(kx:Nat->K)(hx:∀ T,Zk (kx 0 (mk .bot 26 T) [])=some (vb true)):∀ m k f,k+m=a.length->m<=f->
  Zk (PV (Zq E 36) (Z4 E fn dp) (Zj 10 PV (Zq E 36) (Z4 E fn dp) kx (ZX 0 [.tmp 4]) f) kx (ZX 0 [.tmp 4]) (mk .bot 26 [(0,.d (rD a)),(1,.d (rD b)),(12,aI a.length),(13,aI k)]) [])=
  some (vb (decide (a.drop k=b.drop k))):=by
 intro m
 induction m with
 | zero=>
  intro k f hk _
  obtain rfl:k=a.length:=by omega
  generalize Zj 10 PV _ _ kx _ f=KK
  rw[PV,show a.drop a.length=[] from List.drop_length,show b.drop a.length=[] by rw[hab];exact List.drop_length]
  simp only[eG,go_sem,Z3 S,Z2 S,zN0,zN1,zN2,zN3,zN4,zI0,zI1,zI2,zI3,reduceCtorEq,MJ S,Int.lt_irrefl]
  exact hx _
 | succ m ih=>
  intro k f hk hf
  obtain⟨e,he⟩:=YX (show k<a.length by omega)
  obtain⟨e',he'⟩:=YX (show k<b.length by omega)
  obtain⟨f,rfl⟩:∃ g,f=g+1:=⟨f-1,by omega⟩
  generalize hK:Zj 10 PV _ _ kx _ (f+1)=KK
  rw[PV,JQ he,JQ he']
  by_cases h:e=e'
  ·subst h
   simp only[eG,go_sem,Z3 S,Z2 S,zN0,zN1,zN2,zN3,zN4,zI0,zI1,zI2,zI3,reduceCtorEq,MJ S,show(k:Int)<a.length by omega,Zz he,Zz he',wi k (by omega),G4,UT]
   rw[<-hK,Z8 (on S _ _ [0,1,12,13] (by decide) rfl) rfl _ _ _ _ _ _ _ _ _ rfl]
   simp only[eG,go_sem,Z3 S,Z2 S,zN0,zN1,zN2,zN3,zN4,zI0,zI1,zI2,zI3,reduceCtorEq,MJ S]
   have:=ih (k+1) f (by omega) (by omega)
   simp only[List.cons.injEq,true_and]
   exact this
  ·simp only [eG, go_sem, Z3 S, Z2 S, zN0, zN1, zN2, zN3, zN4, zI0, zI1, zI2, zI3, reduceCtorEq, MJ S, show (k : Int) < a.length by omega, Zz he, Zz he', wi k (by omega), G4, UT, eq_false h]
   simp[h]
theorem Zim (dp:Nat)(a b:List Obs)(hl:a.length<1073741824):Z6 E fn (dp+1) 36 [rD a,rD b] (vb (decide (a=b))):=by
 unfold Z6
 show Zk (Z4 E fn (dp+1) 36 [.d (rD a),.d (rD b)] [])=_
 rw[ZK,S.Z8l,ZM,Zdv,ZP _ _ _ _ _ _ _ _ rfl]
 by_cases hab:a.length=b.length
 ·simp only [eG, go_sem, Z3 S, Z2 S, zN0, zN1, zN2, zN3, zN4, zI0, zI1, zI2, zI3, reduceCtorEq, MJ S, hab, not_true_eq_false]
  rw[Y9,Z8 (on S _ _ [0,1,12,13] (by decide) rfl) rfl _ _ _ _ _ _ _ _ _ rfl]
  simp only[eG,go_sem,Z3 S,Z2 S,zN0,zN1,zN2,zN3,zN4,zI0,zI1,zI2,zI3,reduceCtorEq,MJ S]
  have go:=fun(kx:Nat->K) hx=>Zof S dp a b hl hab kx hx a.length 0 999999999999999999999999999999 (by omega) (by omega)
  rw[hab] at go
  simp only[Int.cast_ofNat_Int] at go
  refine go _ ?_
  intro T
  simp only[eG,go_sem,Z3 S,Z2 S,zN0,zN1,zN2,zN3,zN4,zI0,zI1,zI2,zI3,reduceCtorEq,MJ S]
 ·have hne : ¬ a = b := fun e => hab (by rw [e])
  simp only[eG,go_sem,Z3 S,Z2 S,zN0,zN1,zN2,zN3,zN4,zI0,zI1,zI2,zI3,reduceCtorEq,MJ S,show ¬((a.length:Int)=b.length) by omega,not_false_eq_true,eq_false hne]
theorem S2 (dp:Nat)(a b:List Obs)(hl:a.length<1073741824)(A:List Blk)(nb:Nat)(us:List Nat):ZH false E (Z4 E fn (dp+1)) 36 A nb (some ([rD a,rD b],us))=some (.made (.d (vb (decide (a=b)))) []):=
 Z6.flat (Zim S dp a b hl) (np S 36 (by decide)) (rfl) A nb us
theorem Z57 (dp:Nat)(p:Prog)(a b:Conf)(d:Dir)(hp:Md.Fine p)(hml:p.mems.length<1000)(hN:Z7 p.mems<=1000)(hIa:Md.Inv (Z7 p.mems) p a)(hIb:Md.Inv (Z7 p.mems) p b):Z6 E fn (dp+12) 13 [Zw p,ZA a,ZA b,.agg (Cl.cells d)] (.tup [ZA (bif Dz (Z7 p.mems) p a b d then(QG (Z7 p.mems) p a d).1 else Md.QH),ZA (bif Dz (Z7 p.mems) p a b d then(QG (Z7 p.mems) p b d).1 else Md.QH),vb (Dk (Z7 p.mems) p a b d),vb (Dz (Z7 p.mems) p a b d)]):=by
 unfold Z6
 show Zk (Z4 E fn (dp+11+1) 13 [.d (Zw p),.d (ZA a),.d (ZA b),.d (.agg (Cl.cells d))] [])=_
 rw[ZK,S.Zab,ZM,Zfk,ZP _ _ _ _ _ _ _ _ rfl]
 have ca:=fun(A:List Blk) (nb:Nat)=>Zbs S dp hp hml hN hIa d A nb
 have cb:=fun(A:List Blk) (nb:Nat)=>Zbs S dp hp hml hN hIb d A nb
 obtain⟨a1,a2,a3,a4,a5⟩:=R8 hp hN hIa d
 obtain⟨b1,b2,b3,b4,b5⟩:=R8 hp hN hIb d
 unfold Dz Dk
 generalize Md.Qw (Z7 p.mems) p a d=x at ca ⊢
 generalize Md.Qw (Z7 p.mems) p b d=y at cb ⊢
 generalize QG (Z7 p.mems) p a d=X at *
 generalize QG (Z7 p.mems) p b d=Y at *
 obtain⟨X,o⟩:=X
 obtain⟨Y,q⟩:=Y
 simp only at a1 a2 a3 a4 a5 b1 b2 b3 b4 b5
 have ho:o.length<1073741824:=by omega
 simp only[Zw,ZZ,ZA,QB] at ca cb
 cases x<;>cases y
 ·by_cases hoq : o = q
  ·simp only[eG,go_sem,Z3 S,Z2 S,zN0,zN1,zN2,zN3,zN4,zI0,zI1,zI2,zI3,reduceCtorEq,RG S,ca,cb,ho,S2 S,Bool.not_true,Bool.not_false,Q1,YZ,Q0,YY,beq_self_eq_true,Md.QH,eq_true hoq]
  ·simp only[eG,go_sem,Z3 S,Z2 S,zN0,zN1,zN2,zN3,zN4,zI0,zI1,zI2,zI3,reduceCtorEq,RG S,ca,cb,ho,S2 S,Bool.not_true,Bool.not_false,Q1,YZ,Q0,YY,beq_self_eq_true,Md.QH,eq_false hoq]
 ·simp only [eG, go_sem, Z3 S, Z2 S, zN0, zN1, zN2, zN3, zN4, zI0, zI1, zI2, zI3, reduceCtorEq, RG S, ca, cb, ho, S2 S, Bool.not_true, Bool.not_false, Q1, YZ, Q0, YY, beq_self_eq_true, Md.QH]
  try rfl
 ·simp only [eG, go_sem, Z3 S, Z2 S, zN0, zN1, zN2, zN3, zN4, zI0, zI1, zI2, zI3, reduceCtorEq, RG S, ca, cb, ho, S2 S, Bool.not_true, Bool.not_false, Q1, YZ, Q0, YY, beq_self_eq_true, Md.QH]
  try rfl
 ·by_cases hoq : o = q
  ·simp only [eG, go_sem, Z3 S, Z2 S, zN0, zN1, zN2, zN3, zN4, zI0, zI1, zI2, zI3, reduceCtorEq, RG S, ca, cb, ho, S2 S, Bool.not_true, Bool.not_false, Q1, YZ, Q0, YY, beq_self_eq_true, Md.QH, eq_true hoq]
   try rfl
  ·simp only[eG,go_sem,Z3 S,Z2 S,zN0,zN1,zN2,zN3,zN4,zI0,zI1,zI2,zI3,reduceCtorEq,RG S,ca,cb,ho,S2 S,Bool.not_true,Bool.not_false,Q1,YZ,Q0,YY,beq_self_eq_true,Md.QH,eq_false hoq]
end
end Go.Aug.Mc
