import Derived.Test.YthnhboimcidhgaaGreatDoorMc51
import Derived.Test.YthnhboimcidhgaaGreatDoorMc33
import Derived.Test.YthnhboimcidhgaaGreatDoorMc14
import Derived.Test.YthnhboimcidhgaaGreatDoorMc30
import Derived.Test.YthnhboimcidhgaaGreatDoorBr
namespace Go.Aug.Mc
open Go Go.Aug
set_option linter.unusedSimpArgs false
set_option linter.unusedVariables false
set_option maxHeartbeats 40000000
set_option maxRecDepth 200000
variable {E:Env} {fn:FuncId->Option (Env->cT->cT)}
section
variable (S:Sur E fn)
include S
end
section
variable (S:Sur E fn)
include S
theorem Zjl (dp:Nat)(l:List Int)(x:Int)(hl:l.length<1073741823):Z6 E fn (dp+1) 245 [rD l,vi x] (rD (Md.push l x)):=by
 unfold Z6
 show Z7 (Z4 E fn (dp+1) 245 [.d (rD l),.d (vi x)] [])=_
 rw[ZD,S.Z9k,ZG,Zex,ZC _ _ _ _ _ _ _ _ rfl]
 have hl2:l.length<1073741824:=by omega
 have hpl:(Md.push l x).length<1073741824:=by unfold Md.push;rw[List.length_drop,List.length_append,List.length_singleton];omega
 by_cases h0:l.length=0
 ·have hl0 : l = [] := List.length_eq_zero_iff.1 h0
  have oa:∀ i,YN i l=.d (.lst [] 0 (some 0)):=fun i=>GW h0 i
  have ob:Yz l=[]:=GV h0
  have bd:=Sw 1 .i64 0 (by omega) (by omega)
  have oc:=fun(A:List Blk) (nb:Nat) (us:List Nat)=>E7 S (l:=[x]) (by simp) (Z4 E fn dp) A nb us
  have e1:∀ nb,YN nb [x]=.sref nb 0 0 1 1 none:=fun _=>rfl
  have e2:Yz [x]=[.cells [.d (vi x)] 0 false]:=rfl
  have e3:rD [x]=.lst [vi x] 1 none:=rfl
  simp only[e1,e2,e3] at oc
  have hp:Md.push l x=[x]:=by rw[hl0];rfl
  rw[hp]
  simp only[eG,go_sem,Z3 S,Z2 S,Nat.reduceLT,Nat.reduceEqDiff,Nat.reduceAdd,Nat.reduceMul,Nat.reduceLeDiff,Int.reduceEq,Int.reduceLT,Int.reduceLE,Int.reduceNeg,reduceCtorEq,E7 S hl2,oa,ob,ZH,ZJ,ZE,ZF,Zq,Dq,JZ,Option.map_some,show(1:Nat)*8<=Z5 by decide,show(1:Nat)<=Z5 by decide,Int.natCast_one,show IntKind.i64.wrap (-1)= -1 by decide,show max (-1:Int) 0=0 by decide,bd,Int.toNat_zero,oc,ne_eq,Nat.one_ne_zero,not_false_eq_true,Int.reduceSub,Nat.zero_mul,Nat.sub_zero,Nat.one_mul,Y9,Nat.le_refl,false_and,and_false,Nat.add_zero,Option.map_none]
  rfl
 ·have l4 : (l.length + 1) * 8 <= Z5 := by unfold Z5; omega
  have l5:l.length+1<=Z5:=by unfold Z5;omega
  have w1:max (IntKind.i64.wrap (((l.length+1:Nat):Int)-2)) 0=((l.length-1:Nat):Int):=by rw[YH (by omega) (by omega)];omega
  have bd:=Sw (l.length+1) .i64 ((l.length-1:Nat):Int) (by omega) (by omega)
  have n1:¬(l.length-1=l.length+1):=by omega
  have e1:(l++[x]).take (l.length-1)++(Md.push l x++[])=l++[x]:=by rw[List.append_nil];exact List.take_append_drop _ _
  have e2:l.length+1-(l.length-1)=(Md.push l x).length:=by simp[Md.push]
  have hd:∀ n v,deep [.cells ((rC (l++[x])).map .d) v false] (n+2) (.sref 0 v (l.length-1) (l.length+1-(l.length-1)) 1 none)=some (.lst (rC (Md.push l x)) (Md.push l x).length none,[0]):=by
   intro n v
   rw[e2]
   refine Z2e (pre:=(l++[x]).take (l.length-1)) (junk:=[]) (ro:=false) (by rw[e1];rfl) ?_ n _ _ _ _ rfl ?_ ?_
   ·intro h
    have:=congrArg List.length h
    simp[Md.push] at this
    omega
   ·simp[Z6y];omega
   ·simp[Md.push]
  have hne:Md.push l x≠[]:=fun h=>by
   have:=congrArg List.length h
   unfold Md.push at this
   rw[List.length_drop,List.length_append,List.length_singleton,List.length_nil] at this
   omega
  have hln:(Md.push l x).length≠0:=fun h=>hne (List.length_eq_zero_iff.1 h)
  simp only[eG,go_sem,Z3 S,Z2 S,Nat.reduceLT,Nat.reduceEqDiff,Nat.reduceAdd,Nat.reduceMul,Nat.reduceLeDiff,Int.reduceEq,Int.reduceLT,Int.reduceLE,Int.reduceNeg,reduceCtorEq,E7 S hl2,ZN h0,ZM h0,ZH,ZJ,ZE,ZF,Zq,Dq,BU,l4,l5,w1,bd,Int.toNat_natCast,n1,false_and,Nat.mul_one,Nat.zero_add,Option.map_some,Option.map_none,hd,QZ,E7 S hpl,ZN hln,ZM hln]
  rw[Ax _ hne _ rfl 6 1 none rfl]
  rfl
theorem Zcw (dp:Nat)(l:List Int)(x:Int)(hl:l.length<1073741823)(A:List Blk)(nb:Nat):Zv false E (Z4 E fn (dp+1)) 245 A nb (some ([rD l,vi x],[]))=some (.made (.d (rD (Md.push l x))) []):=
 Z6.deep (Zjl S dp l x hl) (np S 245 (by decide)) A nb
end
open Nat renaming reduceLT -> zN0, reduceEqDiff -> zN1, reduceAdd -> zN2, reduceMul -> zN3, reduceLeDiff -> zN4
open Int renaming reduceEq -> zI0, reduceLT -> zI1, reduceLE -> zI2, reduceNeg -> zI3
def W5 (o:Option (List Int)):Bool:=match o with | none=>true | some l=>decide (4<=l.length)
variable {E:Env} {fn:FuncId->Option (Env->cT->cT)}
section
variable (S:Sur E fn)
include S
theorem Z6o:E.lives 212 11=none:=off S 212 11 (by decide) rfl
theorem HJ:E.lives 161 13=none/\E.lives 161 15=none/\E.lives 161 19=none/\E.lives 161 23=none/\E.lives 161 27=none/\E.lives 161 33=none/\E.lives 161 37=none/\E.lives 161 39=none:=⟨off S 161 13 (by decide) rfl,off S 161 15 (by decide) rfl,off S 161 19 (by decide) rfl,off S 161 23 (by decide) rfl,off S 161 27 (by decide) rfl,off S 161 33 (by decide) rfl,off S 161 37 (by decide) rfl,off S 161 39 (by decide) rfl⟩
theorem Zrt (dp:Nat)(p:Prog)(r0 r1 r2 r3 pc en:Int)(mm sk rb:List Int)(bf:List Ent)(e1 e2 e3 e4 e5:Int)(e6 e7 e8:Bool)(hs:sk.length<1073741824)(hb:bf.length<1073741824)(hr:rb.length<1073741823):
  Z4 E fn (dp+4) 211 [.agg [.d (vi p.w),.d (vi p.window),.d (vi p.fuel),.d (vi p.regs.r0),.d (vi p.regs.r1),.d (vi p.regs.r2),.d (vi p.regs.r3),.d (rD p.mems),.d (rD p.labels),.d (rD p.ins)],.ref 0 0 0,.agg [.d (vi e1),.d (vi e2),.d (vi e3),.d (vi e4),.d (vi e5),.d (vb e6),.d (vb e7),.d (vb e8)]] [.cells [.d (vi r0),.d (vi r1),.d (vi r2),.d (vi r3),.d (rD mm),.d (rD sk),.d (vi pc),.d (rD bf),.d (rD rb),.d (vi en)] 0 false]=
  some (.agg [.d (vi e1),.d (vi e2),.d (vi e3),.d (vi e4),.d (vi e5),.d (vb true),.d (vb e7),.d (vb (W5 (Md.real p sk bf bf.length)))],[.cells [.d (vi r0),.d (vi r1),.d (vi r2),.d (vi r3),.d (rD mm),.d (rD sk),.d (vi pc),.d (rD bf),.d (rD (Md.push rb (Md.ZW (e1+1)))),.d (vi en)] 0 false]):=by
 rw[ZD,S.Zb1,ZG,Zge,ZC _ _ _ _ _ _ _ _ rfl]
 cases hreal:Md.real p sk bf bf.length with
 | none=>simp only[go_sem,Z3 S,Z2 S,zN0,zN1,zN2,zN3,zN4,zI0,zI1,zI2,zI3,reduceCtorEq,JN,Jv,JA,JE,JF,List.take_succ_cons,List.take_zero,ZH,ZJ,ZE,ZF,Zq,Option.map_some,U4 S,Zcw S,hs,hb,hr,hreal,B6,EE,W5,Md.ZW,Bool.not_true,Bool.not_false]
 | some l=>
  have hr4:decide ((l.length:Int)>=4)=decide (4<=l.length):=decide_eq_decide.2 (by omega)
  simp only[go_sem,Z3 S,Z2 S,zN0,zN1,zN2,zN3,zN4,zI0,zI1,zI2,zI3,reduceCtorEq,hr4,JN,Jv,JA,JE,JF,List.take_succ_cons,List.take_zero,ZH,ZJ,ZE,ZF,Zq,Option.map_some,U4 S,Zcw S,hs,hb,hr,hreal,B6,EE,W5,Md.ZW,Bool.not_true,Bool.not_false]
theorem Z5g (dp:Nat)(r0 r1 r2 r3 pc en g:Int)(mm sk rb:List Int)(bf:List Ent)(e1 e2 e3 e4 e5:Int)(e6 e7 e8:Bool)(hr:rb.length<1073741824):
  Z4 E fn (dp+2) 212 [.ref 0 0 0,.agg [.d (vi e1),.d (vi e2),.d (vi e3),.d (vi e4),.d (vi e5),.d (vb e6),.d (vb e7),.d (vb e8)],.d (vi g)] [.cells [.d (vi r0),.d (vi r1),.d (vi r2),.d (vi r3),.d (rD mm),.d (rD sk),.d (vi pc),.d (rD bf),.d (rD rb),.d (vi en)] 0 false]=
  some (.agg [.d (vi e1),.d (vi e2),.d (vi e3),.d (vi e4),.d (vi (if rb.length=0 then g else Md.C9 rb)),.d (vb e6),.d (vb e7),.d (vb e8)],[.cells [.d (vi r0),.d (vi r1),.d (vi r2),.d (vi r3),.d (rD mm),.d (rD sk),.d (vi pc),.d (rD bf),.d (rD (if rb.length=0 then rb else rb.dropLast)),.d (vi en)] 0 false]):=by
 rw[ZD,S.Zaz,ZG,Zgc,ZC _ _ _ _ _ _ _ _ rfl]
 by_cases h:rb.length=0
 ·simp only[go_sem,Z3 S,Z2 S,zN0,zN1,zN2,zN3,zN4,zI0,zI1,zI2,zI3,reduceCtorEq,Z6o S,JN,Jv,JA,JE,JF,List.take_succ_cons,List.take_zero,ZH,ZJ,ZE,ZF,Zq,Option.map_some,S9 S,hr,h,ne_eq,not_true_eq_false,not_false_eq_true]
 ·simp only[go_sem,Z3 S,Z2 S,zN0,zN1,zN2,zN3,zN4,zI0,zI1,zI2,zI3,reduceCtorEq,Z6o S,JN,Jv,JA,JE,JF,List.take_succ_cons,List.take_zero,ZH,ZJ,ZE,ZF,Zq,Option.map_some,S9 S,hr,h,ne_eq,not_true_eq_false,not_false_eq_true]
theorem Zqm (dp:Nat)(p:Prog)(c:Conf)(g:Int)(hs:c.state.stack.length<1073741824)(hb:c.buf.length<1073741824)(hr:c.rsb.length<1073741823):
  Z4 E fn (dp+5) 161 [.agg [.d (vi p.w),.d (vi p.window),.d (vi p.fuel),.d (vi p.regs.r0),.d (vi p.regs.r1),.d (vi p.regs.r2),.d (vi p.regs.r3),.d (rD p.mems),.d (rD p.labels),.d (rD p.ins)],.ref 0 0 0,.d (vi g)] [.cells ((Jq c).map .d) 0 false]=
  some (.agg ((Cl.cells (Md.Qx p c g).1).map .d),[.cells ((Jq { c with rsb:=(Md.Qx p c g).2 }).map .d) 0 false]):=by
 have hr':c.rsb.length<1073741824:=by omega
 rw[ZD,S.Zb0,ZG,Zgd,ZC _ _ _ _ _ _ _ _ rfl]
 by_cases k5:(Md.at_ p c.state.pc).kind=5
 ·by_cases hg : g = 1
  ·simp only[go_sem,Z3 S,Z2 S,zN0,zN1,zN2,zN3,zN4,zI0,zI1,zI2,zI3,reduceCtorEq,HJ S,JN,Jv,JA,JE,JF,List.take_succ_cons,List.take_zero,ZH,ZJ,ZE,ZF,Zq,Option.map_some,Yj S,Md.Qx,Md.ZW,zI0,if_true,if_false,or_self,true_or,or_true,k5,hg]
  ·simp only[go_sem,Z3 S,Z2 S,zN0,zN1,zN2,zN3,zN4,zI0,zI1,zI2,zI3,reduceCtorEq,HJ S,JN,Jv,JA,JE,JF,List.take_succ_cons,List.take_zero,ZH,ZJ,ZE,ZF,Zq,Option.map_some,Yj S,Md.Qx,Md.ZW,zI0,if_true,if_false,or_self,true_or,or_true,k5,hg]
 by_cases k6:(Md.at_ p c.state.pc).kind=6
 ·simp only[go_sem,Z3 S,Z2 S,zN0,zN1,zN2,zN3,zN4,zI0,zI1,zI2,zI3,reduceCtorEq,HJ S,JN,Jv,JA,JE,JF,List.take_succ_cons,List.take_zero,ZH,ZJ,ZE,ZF,Zq,Option.map_some,Yj S,Md.Qx,Md.ZW,zI0,if_true,if_false,or_self,true_or,or_true,k6]
 by_cases k7:(Md.at_ p c.state.pc).kind=7
 ·simp only[go_sem,Z3 S,Z2 S,zN0,zN1,zN2,zN3,zN4,zI0,zI1,zI2,zI3,reduceCtorEq,HJ S,JN,Jv,JA,JE,JF,List.take_succ_cons,List.take_zero,ZH,ZJ,ZE,ZF,Zq,Option.map_some,Yj S,Md.Qx,Md.ZW,zI0,if_true,if_false,or_self,true_or,or_true,k7]
 by_cases k8:(Md.at_ p c.state.pc).kind=8
 ·simp only [go_sem, Z3 S, Z2 S, zN0, zN1, zN2, zN3, zN4, zI0, zI1, zI2, zI3, reduceCtorEq, HJ S, JN, Jv, JA, JE, JF, List.take_succ_cons, List.take_zero, ZH, ZJ, ZE, ZF, Zq, Option.map_some, Yj S, Md.Qx, Md.ZW, zI0, if_true, if_false, or_self, true_or, or_true, AR, AX, AZ, AY, ED, Av, AA, AB, AP, AQ, AF, AG, AC, AD, AH, AJ, AE, AK, AM, AN, Ej, List.drop_succ_cons, List.drop_zero, List.getD_cons_zero, List.getD_cons_succ, show Nat.ble 1 1 = true from rfl, Z2 S, k8, Zrt S, hs, hb, hr, W5]
  rfl
 by_cases k9:(Md.at_ p c.state.pc).kind=9
 ·by_cases hz : c.rsb.length = 0
  ·simp only[go_sem,Z3 S,Z2 S,zN0,zN1,zN2,zN3,zN4,zI0,zI1,zI2,zI3,reduceCtorEq,HJ S,JN,Jv,JA,JE,JF,List.take_succ_cons,List.take_zero,ZH,ZJ,ZE,ZF,Zq,Option.map_some,Yj S,Md.Qx,Md.ZW,zI0,if_true,if_false,or_self,true_or,or_true,AR,AX,AZ,AY,ED,Av,AA,AB,AP,AQ,AF,AG,AC,AD,AH,AJ,AE,AK,AM,AN,Ej,List.drop_succ_cons,List.drop_zero,List.getD_cons_zero,List.getD_cons_succ,show Nat.ble 1 1=true from rfl,Z2 S,k9,Z5g S,hr',hz]
  ·simp only[go_sem,Z3 S,Z2 S,zN0,zN1,zN2,zN3,zN4,zI0,zI1,zI2,zI3,reduceCtorEq,HJ S,JN,Jv,JA,JE,JF,List.take_succ_cons,List.take_zero,ZH,ZJ,ZE,ZF,Zq,Option.map_some,Yj S,Md.Qx,Md.ZW,zI0,if_true,if_false,or_self,true_or,or_true,AR,AX,AZ,AY,ED,Av,AA,AB,AP,AQ,AF,AG,AC,AD,AH,AJ,AE,AK,AM,AN,Ej,List.drop_succ_cons,List.drop_zero,List.getD_cons_zero,List.getD_cons_succ,show Nat.ble 1 1=true from rfl,Z2 S,k9,Z5g S,hr',hz]
 by_cases k11:(Md.at_ p c.state.pc).kind=11
 ·simp only[go_sem,Z3 S,Z2 S,zN0,zN1,zN2,zN3,zN4,zI0,zI1,zI2,zI3,reduceCtorEq,HJ S,JN,Jv,JA,JE,JF,List.take_succ_cons,List.take_zero,ZH,ZJ,ZE,ZF,Zq,Option.map_some,Yj S,Md.Qx,Md.ZW,zI0,if_true,if_false,or_self,true_or,or_true,k11]
 by_cases k12:(Md.at_ p c.state.pc).kind=12
 ·simp only[go_sem,Z3 S,Z2 S,zN0,zN1,zN2,zN3,zN4,zI0,zI1,zI2,zI3,reduceCtorEq,HJ S,JN,Jv,JA,JE,JF,List.take_succ_cons,List.take_zero,ZH,ZJ,ZE,ZF,Zq,Option.map_some,Yj S,Md.Qx,Md.ZW,zI0,if_true,if_false,or_self,true_or,or_true,k12]
 ·simp only[go_sem,Z3 S,Z2 S,zN0,zN1,zN2,zN3,zN4,zI0,zI1,zI2,zI3,reduceCtorEq,HJ S,JN,Jv,JA,JE,JF,List.take_succ_cons,List.take_zero,ZH,ZJ,ZE,ZF,Zq,Option.map_some,Yj S,Md.Qx,Md.ZW,zI0,if_true,if_false,or_self,true_or,or_true,k5,k6,k7,k8,k9,k11,k12]
end
section
variable (S:Sur E fn)
include S
theorem Z0t:E.lives 91 7=none:=off S 91 7 (by decide) rfl
theorem Zkx (dp:Nat)(p:Prog)(c:Conf)(g:Int)(hi:p.ins.length<1073741824)(hb:c.buf.length<1073741823)(hm:c.state.mem.length<1073741824)(hs:c.state.stack.length<1073741824)(hr:c.rsb.length<1073741823):Z6 E fn (dp+6) 91 [Zw p,ZS c,vi g] (.tup [ZS (H1 p c g),vb (Md.BC p c g)]):=by
 unfold Z6
 show Z7 (Z4 E fn (dp+5+1) 91 [.d (Zw p),.d (ZS c),.d (vi g)] [])=_
 rw[ZD,S.Zb3,ZG,Zgg,ZC _ _ _ _ _ _ _ _ rfl]
 have hb':c.buf.length<1073741824:=by omega
 have hr':c.rsb.length<1073741824:=by omega
 by_cases g0:g<0
 ·simp only[eG,go_sem,Z3 S,Z2 S,Nat.reduceLT,Nat.reduceEqDiff,Nat.reduceAdd,Nat.reduceMul,Nat.reduceLeDiff,Int.reduceEq,Int.reduceLT,Int.reduceLE,Int.reduceNeg,reduceCtorEq,Z0t S,g0,H1,Md.BC,show ¬0<=g by omega,Md.B1]
 by_cases g1:g>=Md.Qq p c
 ·simp only[eG,go_sem,Z3 S,Z2 S,Nat.reduceLT,Nat.reduceEqDiff,Nat.reduceAdd,Nat.reduceMul,Nat.reduceLeDiff,Int.reduceEq,Int.reduceLT,Int.reduceLE,Int.reduceNeg,reduceCtorEq,Z0t S,g0,g1,H1,Md.BC,show ¬g<Md.Qq p c by omega,Md.B1,Z2s S,hi]
 have hc:Md.BC p c g=true:=by simp[Md.BC];omega
 have hw:¬(c.buf.length:Int)>=p.window:=by
  have:¬Md.Qq p c<=0:=by omega
  intro h
  apply this
  unfold Md.Qq
  rw[if_pos (.inr (.inr h))]
  exact Int.le_refl 0
 unfold H1
 rw[hc,cond_true]
 unfold Md.BK
 have eg:=Zqm S dp p c g hs hb' hr
 generalize (Md.Qx p c g).1=e at eg ⊢
 generalize (Md.Qx p c g).2=rb at eg ⊢
 have hp:P4 c.buf e p.window=c.buf++[e]:=by unfold P4;rw[if_neg hw]
 simp only[Jq,GQ,CU,Z2j,List.map_cons,List.map_nil,List.cons_append,List.nil_append,List.map_append] at eg
 simp only[eG,go_sem,Z3 S,Z2 S,Nat.reduceLT,Nat.reduceEqDiff,Nat.reduceAdd,Nat.reduceMul,Nat.reduceLeDiff,Int.reduceEq,Int.reduceLT,Int.reduceLE,Int.reduceNeg,reduceCtorEq,Z0t S,JN,Jv,JA,JE,JF,List.take_succ_cons,List.take_zero,ZH,ZJ,ZE,ZF,Zq,Option.map_some,AR,AX,AZ,AY,ED,Av,AA,AB,AP,AQ,AF,AG,AC,AD,AH,AJ,AE,AK,AM,AN,Ej,List.drop_succ_cons,List.drop_zero,List.getD_cons_zero,List.getD_cons_succ,show Nat.ble 1 1=true from rfl,Z2 S,g0,g1,Z2s S,hi,X7 S,hm,hs,hb,hb',hr',eg,Zs6 S,hp]
end
theorem Wv {L:List Ent}{k:Nat}{e:Ent}(he:L[k]? =some e):BF false 1 (((rC L).map AV.d).drop (k*8))=some (.d (vi e.pc)):=by
 have hk:k<L.length:=(List.getElem?_eq_some_iff.1 he).1
 have:L.set k e=L:=by
  obtain⟨_,rfl⟩:=List.getElem?_eq_some_iff.1 he
  exact List.set_getElem_self hk
 have h:=CG (e:=e) hk
 rw[this] at h;exact h
theorem XP {l:List Ent}{k:Nat}{e:Ent}(he:l[k]? =some e)(i v:Nat)(A:List Blk)(n:Int):storeAt A i v (k*8+2) [.d (vi n)] 1 (some (.cells ((rC l).map .d) v false))=some (A.set i (.cells ((rC (l.set k { e with addr:=n })).map .d) v false)):=
 NX (o:=2) (e':={ e with addr:=n }) [vi n] he rfl rfl rfl rfl (by show 2+1<=8;decide) 8 rfl _ rfl
theorem Zpj {p:Prog}{l:List Ent}{i addr:Int}(h:(Md.J9 p l i addr).2=true):(Md.Cq l i:Int)<=(Md.J9 p l i addr).1:=(Z1q p i addr _ _ h).1
variable {E:Env} {fn:FuncId->Option (Env->cT->cT)}
section
variable (S:Sur E fn)
include S
theorem VX:E.lives 82 7=none/\E.lives 82 21=none/\E.lives 82 29=none:=⟨off S 82 7 (by decide) rfl,off S 82 21 (by decide) rfl,off S 82 29 (by decide) rfl⟩
theorem Zkf (dp:Nat)(p:Prog)(c:Conf)(i:Int)(hl:c.buf.length<1073741824)(hz:Md.Q8 p c i=true->(Md.ZP c.buf i).fault=false):Z6 E fn (dp+6) 82 [Zw p,ZS c,vi i] (.tup [ZS (EH (c.state.mem.length:Int) p c i).1,rD (EH (c.state.mem.length:Int) p c i).2,vb (Md.Q8 p c i)]):=by
 unfold Z6
 show Z7 (Z4 E fn (dp+5+1) 82 [.d (Zw p),.d (ZS c),.d (vi i)] [])=_
 rw[ZD,S.Zag,ZG,Zft,ZC _ _ _ _ _ _ _ _ rfl]
 cases hcan:Md.Q8 p c i with
 | false=>simp only[eG,go_sem,Z3 S,Z2 S,Nat.reduceLT,Nat.reduceEqDiff,Nat.reduceAdd,Nat.reduceMul,Nat.reduceLeDiff,Int.reduceEq,Int.reduceLT,Int.reduceLE,Int.reduceNeg,reduceCtorEq,VX S,NE S,hl,hcan,Bool.not_false,EH,Md.B1]
 | true=>
  have ho:=Zcv hcan
  obtain⟨h0,he,h1⟩:=P6 ho
  have hf:=hz hcan
  have hn:c.buf.length≠0:=by omega
  have hk:i.toNat<c.buf.length:=by omega
  have b1:c.buf.length*48<=Z5:=by unfold Z5;omega
  have b2:c.buf.length<=Z5:=by unfold Z5;omega
  have hx:Md.at_ p (Md.ZP c.buf i).pc=Md.Yk p c i:=rfl
  have had:Md.Y1 p.w ((Md.Y2 p c i (Md.Yk p c i).a).1+(Md.Y2 p c i (Md.Yk p c i).b).1)=Md.QU p c i:=rfl
  generalize hxx:Md.Yk p c i=x at *
  generalize hee:Md.ZP c.buf i=e at *
  have hset:c.buf.set i.toNat e=c.buf:=by
   obtain⟨hq,hw⟩:=List.getElem?_eq_some_iff.1 he
   rw[<-hw];exact List.set_getElem_self hq
  have hL0:∀ n b,c.buf.set i.toNat { e with addr:=n,known:=b }=c.buf.set i.toNat ⟨e.pc,e.val,n,e.frm,e.next,e.done,b,false⟩:=fun n b=>by rw[<-hf]
  by_cases hin:(c.state.mem.length:Int)<=Md.QU p c i
  ·simp only[eG,go_sem,Z3 S,Z2 S,Nat.reduceLT,Nat.reduceEqDiff,Nat.reduceAdd,Nat.reduceMul,Nat.reduceLeDiff,Int.reduceEq,Int.reduceLT,Int.reduceLE,Int.reduceNeg,reduceCtorEq,VX S,Nat.add_zero,NE S,hl,hcan,Bool.not_true,h0,h1,hn,BT,b1,b2,ne_eq,not_false_eq_true,ZH,ZJ,ZE,ZF,YS,Zq,Nat.zero_add,Nat.zero_mul,XP he,BW hk,BV hk,Wv he,BH hk,ZU S,hx,hk,QA,Qw,Qv,Qz,Y9,Bw,BP,BE,BD,BJ,List.take_length,QZ,List.length_set,Nat.le_refl,Option.bind_some,Option.map_some,AW S,Aw S,Md.JR,had,EH,Md.EG,Md.M2,Md.put,hee,ge_iff_le,hin]
  ·generalize hL : c.buf.set i.toNat ⟨e.pc, e.val, Md.QU p c i, e.frm, e.next, e.done, true, false⟩ = L
   have hLl:L.length=c.buf.length:=by rw[<-hL];exact List.length_set
   have hLl2:L.length<1073741824:=by omega
   have hld:BF false 1 (((rC L).map AV.d).drop (i.toNat*8+2))=some (.d (vi (Md.QU p c i))):=by rw[<-hL];exact BH hk
   have hfold:DV.lst (rC L) c.buf.length none=rD L:=by unfold rD;rw[hLl]
   have hdl:c.buf.length*8<=((rC L).map AV.d).length:=Bw _ (by omega)
   have htk:L.take c.buf.length=L:=List.take_of_length_le (by omega)
   cases hz2:(Md.J9 p L i (Md.QU p c i)).2 with
   | false=>simp only[eG,go_sem,Z3 S,Z2 S,Nat.reduceLT,Nat.reduceEqDiff,Nat.reduceAdd,Nat.reduceMul,Nat.reduceLeDiff,Int.reduceEq,Int.reduceLT,Int.reduceLE,Int.reduceNeg,reduceCtorEq,VX S,Nat.add_zero,NE S,hl,hcan,Bool.not_true,h0,h1,hn,BT,b1,b2,ne_eq,not_false_eq_true,ZH,ZJ,ZE,ZF,YS,Zq,Nat.zero_add,Nat.zero_mul,XP he,BW hk,BV hk,Wv he,BH hk,ZU S,hx,hk,QA,Qw,Qv,Qz,Y9,Bw,BP,BE,BD,BJ,List.take_length,QZ,List.length_set,Nat.le_refl,Option.bind_some,Option.map_some,AW S,Aw S,Md.JR,had,EH,Md.EG,Md.M2,Md.put,hee,ge_iff_le,hin,hf,hL,hld,hfold,hdl,htk,Zd0 S,hLl2,hz2,Md.Nz,show i<4611686018427387904 by omega,show -4611686018427387904<i by omega];rfl
   | true=>
    obtain⟨z0,z1⟩:=Z89 hz2
    have z2:=Zpj hz2
    have z3:1<=Md.Cq L i:=by unfold Md.Cq;omega
    generalize hkk:(Md.J9 p L i (Md.QU p c i)).1=kk at *
    obtain⟨e2,he2⟩:=YK (show kk.toNat<L.length by omega)
    have he3:Md.ZP L kk=e2:=by unfold Md.ZP;rw[he2];rfl
    have hk0:kk.toNat≠0:=by omega
    have hk1:kk<c.buf.length:=by omega
    have hk2:kk.toNat<=L.length:=by omega
    have bd:=Hk c.buf.length .i64 kk z0 (by omega)
    simp only[eG,go_sem,Z3 S,Z2 S,Nat.reduceLT,Nat.reduceEqDiff,Nat.reduceAdd,Nat.reduceMul,Nat.reduceLeDiff,Int.reduceEq,Int.reduceLT,Int.reduceLE,Int.reduceNeg,reduceCtorEq,VX S,Nat.add_zero,NE S,hl,hcan,Bool.not_true,h0,h1,hn,BT,b1,b2,ne_eq,not_false_eq_true,ZH,ZJ,ZE,ZF,YS,Zq,Nat.zero_add,Nat.zero_mul,XP he,BW hk,BV hk,Wv he,BH hk,ZU S,hx,hk,QA,Qw,Qv,Qz,Y9,Bw,BP,BE,BD,BJ,List.take_length,QZ,List.length_set,Nat.le_refl,Option.bind_some,Option.map_some,AW S,Aw S,Md.JR,had,EH,Md.EG,Md.M2,Md.put,hee,ge_iff_le,hin,hf,hL,hld,hfold,hdl,htk,Zd0 S,hLl2,hz2,hkk,Md.Nz,he3,Wv he2,z0,hk0,hk1,hk2,bd,Nat.sub_zero,not_true_eq_false,and_false,Option.map_none,show i<4611686018427387904 by omega,show -4611686018427387904<i by omega];rfl
end
def A6 (N:Int)(p:Prog)(c:Conf)(d:Dir):Conf×List Obs:=bif Md.Q0 N p c d then Md.say N p c d else(Md.B1,[])
variable {E:Env} {fn:FuncId->Option (Env->cT->cT)}
section
variable (S:Sur E fn)
include S
theorem RP:E.lives 44 7=none/\E.lives 44 13=none/\E.lives 44 17=none/\E.lives 44 21=none:=⟨off S 44 7 (by decide) rfl,off S 44 13 (by decide) rfl,off S 44 17 (by decide) rfl,off S 44 21 (by decide) rfl⟩
theorem Zjv (dp:Nat)(p:Prog)(c:Conf)(d:Dir)(hi:p.ins.length<1073741824)(hl:c.buf.length<1073741823)(hm:c.state.mem.length<1073741824)(hs:c.state.stack.length<1073741823)(hr:c.rsb.length<1073741823)(hg:(B6 (Md.real p c.state.stack c.buf d.n)).length<1073741824)(hz:Md.can (c.state.mem.length:Int) p c d.n=true->(Md.Yk p c d.n).kind=2->(Md.ZP c.buf d.n).val=0/\(Md.ZP c.buf d.n).frm= -1)(hz2:Md.Q8 p c d.n=true->(Md.ZP c.buf d.n).fault=false)(hd:0<=(Md.at_ p (Md.ZP c.buf 0).pc).d/\(Md.at_ p (Md.ZP c.buf 0).pc).d<=3)(hx:Md.QC p c=true->(Md.at_ p (Md.ZP c.buf 0).pc).kind=3->(Md.ZP c.buf 0).fault=false->0<=(Md.ZP c.buf 0).addr/\(Md.ZP c.buf 0).addr<c.state.mem.length)(hy:Md.QC p c=true->(Md.at_ p (Md.ZP c.buf 0).pc).kind=9->(Md.ZP c.buf 0).fault=false->c.state.stack≠[]):Z6 E fn (dp+7) 44 [Zw p,ZS c,.agg (Cl.cells d)] (.tup [ZS (A6 (c.state.mem.length:Int) p c d).1,rD (A6 (c.state.mem.length:Int) p c d).2,vb (Md.Q0 (c.state.mem.length:Int) p c d)]):=by
 unfold Z6
 show Z7 (Z4 E fn (dp+6+1) 44 [.d (Zw p),.d (ZS c),.d (.agg (Cl.cells d))] [])=_
 rw[ZD,S.Z9w,ZG,Zf9,ZC _ _ _ _ _ _ _ _ rfl]
 have hl':c.buf.length<1073741824:=by omega
 have hs':c.state.stack.length<1073741824:=by omega
 have hr':c.rsb.length<1073741824:=by omega
 have cF:=fun(A:List Blk) (nb:Nat)=>Z6.deep (Zk7 S (dp+3) p c d.n hi hl hs' hr) (np S 80 (by decide)) A nb
 have cD:=fun(A:List Blk) (nb:Nat)=>Z6.deep (Zk8 S dp p c d.n hl' hs' hg hz) (np S 81 (by decide)) A nb
 have cA:=fun(A:List Blk) (nb:Nat)=>Z6.deep (Zkf S dp p c d.n hl' hz2) (np S 82 (by decide)) A nb
 have cR:=fun(A:List Blk) (nb:Nat)=>Z6.deep (Zjy S (dp+2) p c hl' hm hs hd hx hy) (np S 83 (by decide)) A nb
 simp only[Zw,Y3,ZS,Jq] at cF cD cA cR
 by_cases k1:d.kind=1
 ·simp only [eG, go_sem, Z3 S, Z2 S, zN0, zN1, zN2, zN3, zN4, zI0, zI1, zI2, zI3, reduceCtorEq, RP S, k1, cF, A6, Md.Q0, Md.say, H1]
  cases hc:Md.BC p c d.n<;>simp only[cond_true,cond_false]<;>rfl
 by_cases k2:d.kind=2
 ·simp only[eG,go_sem,Z3 S,Z2 S,zN0,zN1,zN2,zN3,zN4,zI0,zI1,zI2,zI3,reduceCtorEq,RP S,k1,k2,cD,A6,JV,Md.Q0,Md.say]
 by_cases k3:d.kind=3
 ·simp only[eG,go_sem,Z3 S,Z2 S,zN0,zN1,zN2,zN3,zN4,zI0,zI1,zI2,zI3,reduceCtorEq,RP S,k1,k2,k3,cA,A6,EH,Md.Q0,Md.say]
 by_cases k4:d.kind=4
 ·by_cases n0 : d.n = 0
  ·simp only [eG, go_sem, Z3 S, Z2 S, zN0, zN1, zN2, zN3, zN4, zI0, zI1, zI2, zI3, reduceCtorEq, RP S, k1, k2, k3, k4, n0, cR, A6, QT, Md.Q0, Md.say]
   cases hc:Md.QC p c<;>simp only[cond_true,cond_false]<;>rfl
  ·simp only[eG,go_sem,Z3 S,Z2 S,zN0,zN1,zN2,zN3,zN4,zI0,zI1,zI2,zI3,reduceCtorEq,RP S,k1,k2,k3,k4,n0,A6,Md.Q0,Md.B1]
 ·simp only[eG,go_sem,Z3 S,Z2 S,zN0,zN1,zN2,zN3,zN4,zI0,zI1,zI2,zI3,reduceCtorEq,RP S,k1,k2,k3,k4,A6,Md.Q0,Md.B1]
theorem Zsb (dp:Nat)(p_w p_wn p_fu p_r0 p_r1 p_r2 p_r3:Int)(p_ms:List MemT)(p_ls:List Label)(p_is:List Ins)(c_r0 c_r1 c_r2 c_r3:Int)(c_mm c_st:List Int)(c_pc:Int)(c_bf:List Ent)(c_rb:List Int)(c_en d_k d_n:Int)(hi:(⟨p_w,p_wn,p_fu,⟨p_r0,p_r1,p_r2,p_r3⟩,p_ms,p_ls,p_is⟩:Prog).ins.length<1073741824)(hl:(⟨⟨⟨c_r0,c_r1,c_r2,c_r3⟩,c_mm,c_st,c_pc⟩,c_bf,c_rb,c_en⟩:Conf).buf.length<1073741823)(hm:(⟨⟨⟨c_r0,c_r1,c_r2,c_r3⟩,c_mm,c_st,c_pc⟩,c_bf,c_rb,c_en⟩:Conf).state.mem.length<1073741824)(hs:(⟨⟨⟨c_r0,c_r1,c_r2,c_r3⟩,c_mm,c_st,c_pc⟩,c_bf,c_rb,c_en⟩:Conf).state.stack.length<1073741823)(hr:(⟨⟨⟨c_r0,c_r1,c_r2,c_r3⟩,c_mm,c_st,c_pc⟩,c_bf,c_rb,c_en⟩:Conf).rsb.length<1073741823)(hg:(B6 (Md.real (⟨p_w,p_wn,p_fu,⟨p_r0,p_r1,p_r2,p_r3⟩,p_ms,p_ls,p_is⟩:Prog) (⟨⟨⟨c_r0,c_r1,c_r2,c_r3⟩,c_mm,c_st,c_pc⟩,c_bf,c_rb,c_en⟩:Conf).state.stack (⟨⟨⟨c_r0,c_r1,c_r2,c_r3⟩,c_mm,c_st,c_pc⟩,c_bf,c_rb,c_en⟩:Conf).buf (⟨d_k,d_n⟩:Dir).n)).length<1073741824)(hz:Md.can ((⟨⟨⟨c_r0,c_r1,c_r2,c_r3⟩,c_mm,c_st,c_pc⟩,c_bf,c_rb,c_en⟩:Conf).state.mem.length:Int) (⟨p_w,p_wn,p_fu,⟨p_r0,p_r1,p_r2,p_r3⟩,p_ms,p_ls,p_is⟩:Prog) (⟨⟨⟨c_r0,c_r1,c_r2,c_r3⟩,c_mm,c_st,c_pc⟩,c_bf,c_rb,c_en⟩:Conf) (⟨d_k,d_n⟩:Dir).n=true->(Md.Yk (⟨p_w,p_wn,p_fu,⟨p_r0,p_r1,p_r2,p_r3⟩,p_ms,p_ls,p_is⟩:Prog) (⟨⟨⟨c_r0,c_r1,c_r2,c_r3⟩,c_mm,c_st,c_pc⟩,c_bf,c_rb,c_en⟩:Conf) (⟨d_k,d_n⟩:Dir).n).kind=2->(Md.ZP (⟨⟨⟨c_r0,c_r1,c_r2,c_r3⟩,c_mm,c_st,c_pc⟩,c_bf,c_rb,c_en⟩:Conf).buf (⟨d_k,d_n⟩:Dir).n).val=0/\(Md.ZP (⟨⟨⟨c_r0,c_r1,c_r2,c_r3⟩,c_mm,c_st,c_pc⟩,c_bf,c_rb,c_en⟩:Conf).buf (⟨d_k,d_n⟩:Dir).n).frm= -1)(hz2:Md.Q8 (⟨p_w,p_wn,p_fu,⟨p_r0,p_r1,p_r2,p_r3⟩,p_ms,p_ls,p_is⟩:Prog) (⟨⟨⟨c_r0,c_r1,c_r2,c_r3⟩,c_mm,c_st,c_pc⟩,c_bf,c_rb,c_en⟩:Conf) (⟨d_k,d_n⟩:Dir).n=true->(Md.ZP (⟨⟨⟨c_r0,c_r1,c_r2,c_r3⟩,c_mm,c_st,c_pc⟩,c_bf,c_rb,c_en⟩:Conf).buf (⟨d_k,d_n⟩:Dir).n).fault=false)(hd:0<=(Md.at_ (⟨p_w,p_wn,p_fu,⟨p_r0,p_r1,p_r2,p_r3⟩,p_ms,p_ls,p_is⟩:Prog) (Md.ZP (⟨⟨⟨c_r0,c_r1,c_r2,c_r3⟩,c_mm,c_st,c_pc⟩,c_bf,c_rb,c_en⟩:Conf).buf 0).pc).d/\(Md.at_ (⟨p_w,p_wn,p_fu,⟨p_r0,p_r1,p_r2,p_r3⟩,p_ms,p_ls,p_is⟩:Prog) (Md.ZP (⟨⟨⟨c_r0,c_r1,c_r2,c_r3⟩,c_mm,c_st,c_pc⟩,c_bf,c_rb,c_en⟩:Conf).buf 0).pc).d<=3)(hx:Md.QC (⟨p_w,p_wn,p_fu,⟨p_r0,p_r1,p_r2,p_r3⟩,p_ms,p_ls,p_is⟩:Prog) (⟨⟨⟨c_r0,c_r1,c_r2,c_r3⟩,c_mm,c_st,c_pc⟩,c_bf,c_rb,c_en⟩:Conf)=true->(Md.at_ (⟨p_w,p_wn,p_fu,⟨p_r0,p_r1,p_r2,p_r3⟩,p_ms,p_ls,p_is⟩:Prog) (Md.ZP (⟨⟨⟨c_r0,c_r1,c_r2,c_r3⟩,c_mm,c_st,c_pc⟩,c_bf,c_rb,c_en⟩:Conf).buf 0).pc).kind=3->(Md.ZP (⟨⟨⟨c_r0,c_r1,c_r2,c_r3⟩,c_mm,c_st,c_pc⟩,c_bf,c_rb,c_en⟩:Conf).buf 0).fault=false->0<=(Md.ZP (⟨⟨⟨c_r0,c_r1,c_r2,c_r3⟩,c_mm,c_st,c_pc⟩,c_bf,c_rb,c_en⟩:Conf).buf 0).addr/\(Md.ZP (⟨⟨⟨c_r0,c_r1,c_r2,c_r3⟩,c_mm,c_st,c_pc⟩,c_bf,c_rb,c_en⟩:Conf).buf 0).addr<(⟨⟨⟨c_r0,c_r1,c_r2,c_r3⟩,c_mm,c_st,c_pc⟩,c_bf,c_rb,c_en⟩:Conf).state.mem.length)(hy:Md.QC (⟨p_w,p_wn,p_fu,⟨p_r0,p_r1,p_r2,p_r3⟩,p_ms,p_ls,p_is⟩:Prog) (⟨⟨⟨c_r0,c_r1,c_r2,c_r3⟩,c_mm,c_st,c_pc⟩,c_bf,c_rb,c_en⟩:Conf)=true->(Md.at_ (⟨p_w,p_wn,p_fu,⟨p_r0,p_r1,p_r2,p_r3⟩,p_ms,p_ls,p_is⟩:Prog) (Md.ZP (⟨⟨⟨c_r0,c_r1,c_r2,c_r3⟩,c_mm,c_st,c_pc⟩,c_bf,c_rb,c_en⟩:Conf).buf 0).pc).kind=9->(Md.ZP (⟨⟨⟨c_r0,c_r1,c_r2,c_r3⟩,c_mm,c_st,c_pc⟩,c_bf,c_rb,c_en⟩:Conf).buf 0).fault=false->(⟨⟨⟨c_r0,c_r1,c_r2,c_r3⟩,c_mm,c_st,c_pc⟩,c_bf,c_rb,c_en⟩:Conf).state.stack≠[])(A:List Blk)(nb:Nat):Zv false E (Z4 E fn (dp+7)) 44 A nb (some ([.agg [vi p_w,vi p_wn,vi p_fu,vi p_r0,vi p_r1,vi p_r2,vi p_r3,rD p_ms,rD p_ls,rD p_is],.agg [vi c_r0,vi c_r1,vi c_r2,vi c_r3,rD c_mm,rD c_st,vi c_pc,rD c_bf,rD c_rb,vi c_en],.agg [vi d_k,vi d_n]],[]))=some (.made (.d (.tup [ZS (A6 ((⟨⟨⟨c_r0,c_r1,c_r2,c_r3⟩,c_mm,c_st,c_pc⟩,c_bf,c_rb,c_en⟩:Conf).state.mem.length:Int) (⟨p_w,p_wn,p_fu,⟨p_r0,p_r1,p_r2,p_r3⟩,p_ms,p_ls,p_is⟩:Prog) (⟨⟨⟨c_r0,c_r1,c_r2,c_r3⟩,c_mm,c_st,c_pc⟩,c_bf,c_rb,c_en⟩:Conf) (⟨d_k,d_n⟩:Dir)).1,rD (A6 ((⟨⟨⟨c_r0,c_r1,c_r2,c_r3⟩,c_mm,c_st,c_pc⟩,c_bf,c_rb,c_en⟩:Conf).state.mem.length:Int) (⟨p_w,p_wn,p_fu,⟨p_r0,p_r1,p_r2,p_r3⟩,p_ms,p_ls,p_is⟩:Prog) (⟨⟨⟨c_r0,c_r1,c_r2,c_r3⟩,c_mm,c_st,c_pc⟩,c_bf,c_rb,c_en⟩:Conf) (⟨d_k,d_n⟩:Dir)).2,vb (Md.Q0 ((⟨⟨⟨c_r0,c_r1,c_r2,c_r3⟩,c_mm,c_st,c_pc⟩,c_bf,c_rb,c_en⟩:Conf).state.mem.length:Int) (⟨p_w,p_wn,p_fu,⟨p_r0,p_r1,p_r2,p_r3⟩,p_ms,p_ls,p_is⟩:Prog) (⟨⟨⟨c_r0,c_r1,c_r2,c_r3⟩,c_mm,c_st,c_pc⟩,c_bf,c_rb,c_en⟩:Conf) (⟨d_k,d_n⟩:Dir))])) []):=
 Z6.deep (Zjv S dp (⟨p_w,p_wn,p_fu,⟨p_r0,p_r1,p_r2,p_r3⟩,p_ms,p_ls,p_is⟩:Prog) (⟨⟨⟨c_r0,c_r1,c_r2,c_r3⟩,c_mm,c_st,c_pc⟩,c_bf,c_rb,c_en⟩:Conf) (⟨d_k,d_n⟩:Dir) hi hl hm hs hr hg hz hz2 hd hx hy) (np S 44 (by decide)) A nb
end
end Go.Aug.Mc
