import Derived.Test.YthnhboimcidhgaaGreatDoorMc24
import Derived.Test.YthnhboimcidhgaaGreatDoorMc20
import Derived.Test.YthnhboimcidhgaaGreatDoorMc34
import Derived.Test.YthnhboimcidhgaaGreatDoorMc6
import Derived.Test.YthnhboimcidhgaaGreatDoorMc10
import Derived.Test.YthnhboimcidhgaaGreatDoorMc13
namespace Go.Aug.Mc
open Go Go.Aug
open Nat renaming reduceLT -> zN0, reduceEqDiff -> zN1, reduceAdd -> zN2, reduceMul -> zN3, reduceLeDiff -> zN4
open Int renaming reduceEq -> zI0, reduceLT -> zI1, reduceLE -> zI2, reduceNeg -> zI3
set_option linter.unusedSimpArgs false
set_option linter.unusedVariables false
set_option maxHeartbeats 40000000
variable {E:Env} {fn:FuncId->Option (Env->cT->cT)}
section
variable (S:Sur E fn)
include S
theorem Z2j:E.lives 140 7=none/\E.lives 140 13=none/\E.lives 140 17=none:=⟨off S 140 7 (by decide) rfl,off S 140 13 (by decide) rfl,off S 140 17 (by decide) rfl⟩
theorem Zbh (dp:Nat)(p:Prog)(c:Conf)(hi:p.ins.length<1073741824):Zk E fn (dp+2) 140 [Zn p,Zv c] (vi (Md.guesses p c)):=by
 unfold Zk
 show Zh (evC E fn (dp+1+1) 140 [.d (Zn p),.d (Zv c)] [])=_
 rw[Z2,S.Z7g,Z3,Z7p,Z6 _ _ _ _ _ _ _ _ rfl]
 have hw:IntKind.i64.wrap ((p.ins.length:Int)+1)=p.ins.length+1:=by rw[Zt (by omega) (by omega)]
 by_cases h1:c.end_=0
 ·by_cases h2 : c.state.pc = -1
  ·simp only[eG,go_sem,thq S,nbr S,zN0,zN1,zN2,zN3,zN4,zI0,zI1,zI2,zI3,reduceCtorEq,Z2j S,h1,h2,Md.guesses,Ym S,ne_eq,not_true_eq_false,not_false_eq_true]
  ·by_cases h3 : (c.buf.length : Int) >= p.window
   ·simp only[eG,go_sem,thq S,nbr S,zN0,zN1,zN2,zN3,zN4,zI0,zI1,zI2,zI3,reduceCtorEq,Z2j S,h1,h2,h3,Md.guesses,Ym S,ne_eq,not_true_eq_false,not_false_eq_true]
   ·by_cases h9 : c.rsb.length = 0
    ·simp only [eG, go_sem, thq S, nbr S, zN0, zN1, zN2, zN3, zN4, zI0, zI1, zI2, zI3, reduceCtorEq, Z2j S, h1, h2, h3, h9, Md.guesses, Ym S, ne_eq, not_true_eq_false, not_false_eq_true, Z8 S, Ym S, hw, Int.natCast_eq_zero]
     by_cases k5:(Md.at_ p c.state.pc).kind=5
     ·simp only[eG,go_sem,thq S,nbr S,zN0,zN1,zN2,zN3,zN4,zI0,zI1,zI2,zI3,reduceCtorEq,Z2j S,h9,hw,Int.natCast_eq_zero,ne_eq,not_true_eq_false,not_false_eq_true,Bool.not_true,Bool.not_false,k5,decide_true,decide_false,cond_true,cond_false,if_true,if_false,zI0]
     by_cases k7:(Md.at_ p c.state.pc).kind=7
     ·simp only[eG,go_sem,thq S,nbr S,zN0,zN1,zN2,zN3,zN4,zI0,zI1,zI2,zI3,reduceCtorEq,Z2j S,h9,hw,Int.natCast_eq_zero,ne_eq,not_true_eq_false,not_false_eq_true,Bool.not_true,Bool.not_false,k7,decide_true,decide_false,cond_true,cond_false,if_true,if_false,zI0,true_or]
     by_cases k9:(Md.at_ p c.state.pc).kind=9
     ·simp only[eG,go_sem,thq S,nbr S,zN0,zN1,zN2,zN3,zN4,zI0,zI1,zI2,zI3,reduceCtorEq,Z2j S,h9,hw,Int.natCast_eq_zero,ne_eq,not_true_eq_false,not_false_eq_true,Bool.not_true,Bool.not_false,k9,decide_true,decide_false,cond_true,cond_false,if_true,if_false,zI0,or_true,and_self]
     ·simp only[eG,go_sem,thq S,nbr S,zN0,zN1,zN2,zN3,zN4,zI0,zI1,zI2,zI3,reduceCtorEq,Z2j S,h9,hw,Int.natCast_eq_zero,ne_eq,not_true_eq_false,not_false_eq_true,Bool.not_true,Bool.not_false,k5,k7,k9,decide_true,decide_false,cond_true,cond_false,if_true,if_false,zI0,or_self,false_and]
    ·simp only [eG, go_sem, thq S, nbr S, zN0, zN1, zN2, zN3, zN4, zI0, zI1, zI2, zI3, reduceCtorEq, Z2j S, h1, h2, h3, h9, Md.guesses, Ym S, ne_eq, not_true_eq_false, not_false_eq_true, Z8 S, Ym S, hw, Int.natCast_eq_zero]
     by_cases k5:(Md.at_ p c.state.pc).kind=5
     ·simp only[eG,go_sem,thq S,nbr S,zN0,zN1,zN2,zN3,zN4,zI0,zI1,zI2,zI3,reduceCtorEq,Z2j S,h9,hw,Int.natCast_eq_zero,ne_eq,not_true_eq_false,not_false_eq_true,Bool.not_true,Bool.not_false,k5,decide_true,decide_false,cond_true,cond_false,if_true,if_false,zI0]
     by_cases k7:(Md.at_ p c.state.pc).kind=7
     ·simp only[eG,go_sem,thq S,nbr S,zN0,zN1,zN2,zN3,zN4,zI0,zI1,zI2,zI3,reduceCtorEq,Z2j S,h9,hw,Int.natCast_eq_zero,ne_eq,not_true_eq_false,not_false_eq_true,Bool.not_true,Bool.not_false,k7,decide_true,decide_false,cond_true,cond_false,if_true,if_false,zI0,true_or]
     by_cases k9:(Md.at_ p c.state.pc).kind=9
     ·simp only[eG,go_sem,thq S,nbr S,zN0,zN1,zN2,zN3,zN4,zI0,zI1,zI2,zI3,reduceCtorEq,Z2j S,h9,hw,Int.natCast_eq_zero,ne_eq,not_true_eq_false,not_false_eq_true,Bool.not_true,Bool.not_false,k9,decide_true,decide_false,cond_true,cond_false,if_true,if_false,zI0,or_true,and_self,and_false,or_self]
     ·simp only[eG,go_sem,thq S,nbr S,zN0,zN1,zN2,zN3,zN4,zI0,zI1,zI2,zI3,reduceCtorEq,Z2j S,h9,hw,Int.natCast_eq_zero,ne_eq,not_true_eq_false,not_false_eq_true,Bool.not_true,Bool.not_false,k5,k7,k9,decide_true,decide_false,cond_true,cond_false,if_true,if_false,zI0,or_self,false_and]
 ·simp only[eG,go_sem,thq S,nbr S,zN0,zN1,zN2,zN3,zN4,zI0,zI1,zI2,zI3,reduceCtorEq,Z2j S,h1,Md.guesses,Ym S,ne_eq,not_true_eq_false,not_false_eq_true]
theorem Z4e (dp:Nat)(p_w p_wn p_fu p_r0 p_r1 p_r2 p_r3:Int)(p_ms:List MemT)(p_ls:List Label)(p_is:List Ins)(c_r0 c_r1 c_r2 c_r3:Int)(c_mm c_st:List Int)(c_pc:Int)(c_bf:List Ent)(c_rb:List Int)(c_en:Int)(hi:(⟨p_w,p_wn,p_fu,⟨p_r0,p_r1,p_r2,p_r3⟩,p_ms,p_ls,p_is⟩:Prog).ins.length<1073741824)(A:List Blk)(nb:Nat)(us:List Nat):Zb false E (evC E fn (dp+2)) 140 A nb (some ([.agg [vi p_w,vi p_wn,vi p_fu,vi p_r0,vi p_r1,vi p_r2,vi p_r3,rD p_ms,rD p_ls,rD p_is],.agg [vi c_r0,vi c_r1,vi c_r2,vi c_r3,rD c_mm,rD c_st,vi c_pc,rD c_bf,rD c_rb,vi c_en]],us))=some (.made (.d (vi (Md.guesses (⟨p_w,p_wn,p_fu,⟨p_r0,p_r1,p_r2,p_r3⟩,p_ms,p_ls,p_is⟩:Prog) (⟨⟨⟨c_r0,c_r1,c_r2,c_r3⟩,c_mm,c_st,c_pc⟩,c_bf,c_rb,c_en⟩:Conf)))) []):=
 Zk.flat (Zbh S dp (⟨p_w,p_wn,p_fu,⟨p_r0,p_r1,p_r2,p_r3⟩,p_ms,p_ls,p_is⟩:Prog) (⟨⟨⟨c_r0,c_r1,c_r2,c_r3⟩,c_mm,c_st,c_pc⟩,c_bf,c_rb,c_en⟩:Conf) hi) (np S 140 (by decide)) (rfl) A nb us
end
section
variable (S:Sur E fn)
include S
theorem Zcr:E.lives 87 9=none/\E.lives 87 13=none/\E.lives 87 17=none/\E.lives 87 21=none:=⟨off S 87 9 (by decide) rfl,off S 87 13 (by decide) rfl,off S 87 17 (by decide) rfl,off S 87 21 (by decide) rfl⟩
theorem Zjr (dp:Nat)(p:Prog)(c:Conf)(d:Dir)(hi:p.ins.length<1073741824)(hm:p.mems.length<1073741824)(hl:c.buf.length<1073741824):Zk E fn (dp+10) 87 [Zn p,Zv c,.agg (Cl.cells d)] (vb (Md.canSay (Z5 p.mems) p c d)):=by
 unfold Zk
 show Zh (evC E fn (dp+9+1) 87 [.d (Zn p),.d (Zv c),.d (.agg (Cl.cells d))] [])=_
 rw[Z2,S.Zg8,Z3,Zh1,Z6 _ _ _ _ _ _ _ _ rfl]
 by_cases k1:d.kind=1
 ·by_cases h0 : 0 <= d.n
  ·simp only[eG,go_sem,thq S,nbr S,zN0,zN1,zN2,zN3,zN4,zI0,zI1,zI2,zI3,reduceCtorEq,Zcr S,k1,h0,ge_iff_le,Z4e S,hi,Md.canSay,Md.canFetch]
  ·simp only[eG,go_sem,thq S,nbr S,zN0,zN1,zN2,zN3,zN4,zI0,zI1,zI2,zI3,reduceCtorEq,Zcr S,k1,h0,ge_iff_le,Md.canSay,Md.canFetch]
 by_cases k2:d.kind=2
 ·simp only[eG,go_sem,thq S,nbr S,zN0,zN1,zN2,zN3,zN4,zI0,zI1,zI2,zI3,reduceCtorEq,Zcr S,k1,k2,Z9y S,hl,hm,Md.canSay]
 by_cases k3:d.kind=3
 ·simp only[eG,go_sem,thq S,nbr S,zN0,zN1,zN2,zN3,zN4,zI0,zI1,zI2,zI3,reduceCtorEq,Zcr S,k1,k2,k3,Z1h S,hl,Md.canSay]
 by_cases k4:d.kind=4
 ·by_cases n0 : d.n = 0
  ·simp only[eG,go_sem,thq S,nbr S,zN0,zN1,zN2,zN3,zN4,zI0,zI1,zI2,zI3,reduceCtorEq,Zcr S,k1,k2,k3,k4,n0,Q0 S,Md.canSay]
  ·simp only[eG,go_sem,thq S,nbr S,zN0,zN1,zN2,zN3,zN4,zI0,zI1,zI2,zI3,reduceCtorEq,Zcr S,k1,k2,k3,k4,n0,Md.canSay]
 ·simp only[eG,go_sem,thq S,nbr S,zN0,zN1,zN2,zN3,zN4,zI0,zI1,zI2,zI3,reduceCtorEq,Zcr S,k1,k2,k3,k4,Md.canSay]
theorem Z4t (dp:Nat)(p_w p_wn p_fu p_r0 p_r1 p_r2 p_r3:Int)(p_ms:List MemT)(p_ls:List Label)(p_is:List Ins)(c_r0 c_r1 c_r2 c_r3:Int)(c_mm c_st:List Int)(c_pc:Int)(c_bf:List Ent)(c_rb:List Int)(c_en d_k d_n:Int)(hi:(⟨p_w,p_wn,p_fu,⟨p_r0,p_r1,p_r2,p_r3⟩,p_ms,p_ls,p_is⟩:Prog).ins.length<1073741824)(hm:(⟨p_w,p_wn,p_fu,⟨p_r0,p_r1,p_r2,p_r3⟩,p_ms,p_ls,p_is⟩:Prog).mems.length<1073741824)(hl:(⟨⟨⟨c_r0,c_r1,c_r2,c_r3⟩,c_mm,c_st,c_pc⟩,c_bf,c_rb,c_en⟩:Conf).buf.length<1073741824)(A:List Blk)(nb:Nat)(us:List Nat):Zb false E (evC E fn (dp+10)) 87 A nb (some ([.agg [vi p_w,vi p_wn,vi p_fu,vi p_r0,vi p_r1,vi p_r2,vi p_r3,rD p_ms,rD p_ls,rD p_is],.agg [vi c_r0,vi c_r1,vi c_r2,vi c_r3,rD c_mm,rD c_st,vi c_pc,rD c_bf,rD c_rb,vi c_en],.agg [vi d_k,vi d_n]],us))=some (.made (.d (vb (Md.canSay (Z5 (⟨p_w,p_wn,p_fu,⟨p_r0,p_r1,p_r2,p_r3⟩,p_ms,p_ls,p_is⟩:Prog).mems) (⟨p_w,p_wn,p_fu,⟨p_r0,p_r1,p_r2,p_r3⟩,p_ms,p_ls,p_is⟩:Prog) (⟨⟨⟨c_r0,c_r1,c_r2,c_r3⟩,c_mm,c_st,c_pc⟩,c_bf,c_rb,c_en⟩:Conf) (⟨d_k,d_n⟩:Dir)))) []):=
 Zk.flat (Zjr S dp (⟨p_w,p_wn,p_fu,⟨p_r0,p_r1,p_r2,p_r3⟩,p_ms,p_ls,p_is⟩:Prog) (⟨⟨⟨c_r0,c_r1,c_r2,c_r3⟩,c_mm,c_st,c_pc⟩,c_bf,c_rb,c_en⟩:Conf) (⟨d_k,d_n⟩:Dir) hi hm hl) (np S 87 (by decide)) (rfl) A nb us
end
set_option maxRecDepth 200000
section
variable (S:Sur E fn)
include S
end
section
variable (S:Sur E fn)
include S
theorem Zhh (dp:Nat)(l:List Int)(x:Int)(hl:l.length<1073741823):Zk E fn (dp+1) 245 [rD l,vi x] (rD (Md.push l x)):=by
 unfold Zk
 show Zh (evC E fn (dp+1) 245 [.d (rD l),.d (vi x)] [])=_
 rw[Z2,S.Zdd,Z3,Ze7,Z6 _ _ _ _ _ _ _ _ rfl]
 have hl2:l.length<1073741824:=by omega
 have hpl:(Md.push l x).length<1073741824:=by unfold Md.push;rw[List.length_drop,List.length_append,List.length_singleton];omega
 by_cases h0:l.length=0
 ·have hl0 : l = [] := List.length_eq_zero_iff.1 h0
  have oa:∀ i,Z3m i l=.d (.lst [] 0 (some 0)):=fun i=>Zcp h0 i
  have ob:Z30 l=[]:=Zco h0
  have bd:=Z9e 1 .i64 0 (by omega) (by omega)
  have oc:=fun(A:List Blk) (nb:Nat) (us:List Nat)=>Z0f S (l:=[x]) (by simp) (evC E fn dp) A nb us
  have e1:∀ nb,Z3m nb [x]=.sref nb 0 0 1 1 none:=fun _=>rfl
  have e2:Z30 [x]=[.cells [.d (vi x)] 0 false]:=rfl
  have e3:rD [x]=.lst [vi x] 1 none:=rfl
  simp only[e1,e2,e3] at oc
  have hp:Md.push l x=[x]:=by rw[hl0];rfl
  rw[hp]
  simp only[eG,go_sem,thq S,nbr S,Nat.reduceLT,Nat.reduceEqDiff,Nat.reduceAdd,Nat.reduceMul,Nat.reduceLeDiff,Int.reduceEq,Int.reduceLT,Int.reduceLE,Int.reduceNeg,reduceCtorEq,Z0f S hl2,oa,ob,Jd,Je,Zj,Z7,Zl,nc1,Zw,Option.map_some,show(1:Nat)*8<=Zf by decide,show(1:Nat)<=Zf by decide,Int.natCast_one,show IntKind.i64.wrap (-1)= -1 by decide,show max (-1:Int) 0=0 by decide,bd,Int.toNat_zero,oc,ne_eq,Nat.one_ne_zero,not_false_eq_true,Int.reduceSub,Nat.zero_mul,Nat.sub_zero,Nat.one_mul,Zo,Nat.le_refl,false_and,and_false,Nat.add_zero,Option.map_none]
  rfl
 ·have l4 : (l.length + 1) * 8 <= Zf := by unfold Zf; omega
  have l5:l.length+1<=Zf:=by unfold Zf;omega
  have w1:max (IntKind.i64.wrap (((l.length+1:Nat):Int)-2)) 0=((l.length-1:Nat):Int):=by rw[Zt (by omega) (by omega)];omega
  have bd:=Z9e (l.length+1) .i64 ((l.length-1:Nat):Int) (by omega) (by omega)
  have n1:¬(l.length-1=l.length+1):=by omega
  have e1:(l++[x]).take (l.length-1)++(Md.push l x++[])=l++[x]:=by rw[List.append_nil];exact List.take_append_drop _ _
  have e2:l.length+1-(l.length-1)=(Md.push l x).length:=by simp[Md.push]
  have hd:∀ n v,deep [.cells ((rC (l++[x])).map .d) v false] (n+2) (.sref 0 v (l.length-1) (l.length+1-(l.length-1)) 1 none)=some (.lst (rC (Md.push l x)) (Md.push l x).length none,[0]):=by
   intro n v
   rw[e2]
   refine Zi9 (pre:=(l++[x]).take (l.length-1)) (junk:=[]) (ro:=false) (by rw[e1];rfl) ?_ n _ _ _ _ rfl ?_ ?_
   ·intro h
    have:=congrArg List.length h
    simp[Md.push] at this
    omega
   ·simp[Y1i];omega
   ·simp[Md.push]
  have hne:Md.push l x≠[]:=fun h=>by
   have:=congrArg List.length h
   unfold Md.push at this
   rw[List.length_drop,List.length_append,List.length_singleton,List.length_nil] at this
   omega
  have hln:(Md.push l x).length≠0:=fun h=>hne (List.length_eq_zero_iff.1 h)
  simp only[eG,go_sem,thq S,nbr S,Nat.reduceLT,Nat.reduceEqDiff,Nat.reduceAdd,Nat.reduceMul,Nat.reduceLeDiff,Int.reduceEq,Int.reduceLT,Int.reduceLE,Int.reduceNeg,reduceCtorEq,Z0f S hl2,Za h0,Z9 h0,Jd,Je,Zj,Z7,Zl,nc1,Qp,l4,l5,w1,bd,Int.toNat_natCast,n1,false_and,Nat.mul_one,Nat.zero_add,Option.map_some,Option.map_none,hd,Jc,Z0f S hpl,Za hln,Z9 hln]
  rw[Y8 _ hne _ rfl 6 1 none rfl]
  rfl
theorem Zdu (dp:Nat)(l:List Int)(x:Int)(hl:l.length<1073741823)(A:List Blk)(nb:Nat):Zb false E (evC E fn (dp+1)) 245 A nb (some ([rD l,vi x],[]))=some (.made (.d (rD (Md.push l x))) []):=
 Zk.deep (Zhh S dp l x hl) (np S 245 (by decide)) A nb
end
def Zpa (o:Option (List Int)):Bool:=match o with | none=>true | some l=>decide (4<=l.length)
variable {E:Env} {fn:FuncId->Option (Env->cT->cT)}
section
variable (S:Sur E fn)
include S
theorem Zsu:E.lives 212 11=none:=off S 212 11 (by decide) rfl
theorem Z46:E.lives 161 13=none/\E.lives 161 15=none/\E.lives 161 19=none/\E.lives 161 23=none/\E.lives 161 27=none/\E.lives 161 33=none/\E.lives 161 37=none/\E.lives 161 39=none:=⟨off S 161 13 (by decide) rfl,off S 161 15 (by decide) rfl,off S 161 19 (by decide) rfl,off S 161 23 (by decide) rfl,off S 161 27 (by decide) rfl,off S 161 33 (by decide) rfl,off S 161 37 (by decide) rfl,off S 161 39 (by decide) rfl⟩
theorem Zzv (dp:Nat)(p:Prog)(r0 r1 r2 r3 pc en:Int)(mm sk rb:List Int)(bf:List Ent)(e1 e2 e3 e4 e5:Int)(e6 e7 e8:Bool)(hs:sk.length<1073741824)(hb:bf.length<1073741824)(hr:rb.length<1073741823):
  evC E fn (dp+4) 211 [.agg [.d (vi p.w),.d (vi p.window),.d (vi p.fuel),.d (vi p.regs.r0),.d (vi p.regs.r1),.d (vi p.regs.r2),.d (vi p.regs.r3),.d (rD p.mems),.d (rD p.labels),.d (rD p.ins)],.ref 0 0 0,.agg [.d (vi e1),.d (vi e2),.d (vi e3),.d (vi e4),.d (vi e5),.d (vb e6),.d (vb e7),.d (vb e8)]] [.cells [.d (vi r0),.d (vi r1),.d (vi r2),.d (vi r3),.d (rD mm),.d (rD sk),.d (vi pc),.d (rD bf),.d (rD rb),.d (vi en)] 0 false]=
  some (.agg [.d (vi e1),.d (vi e2),.d (vi e3),.d (vi e4),.d (vi e5),.d (vb true),.d (vb e7),.d (vb (Zpa (Md.real p sk bf bf.length)))],[.cells [.d (vi r0),.d (vi r1),.d (vi r2),.d (vi r3),.d (rD mm),.d (rD sk),.d (vi pc),.d (rD bf),.d (rD (Md.push rb (Md.w64 (e1+1)))),.d (vi en)] 0 false]):=by
 rw[Z2,S.Zdl,Z3,Zef,Z6 _ _ _ _ _ _ _ _ rfl]
 cases hreal:Md.real p sk bf bf.length with
 | none=>simp only[go_sem,thq S,nbr S,zN0,zN1,zN2,zN3,zN4,zI0,zI1,zI2,zI3,reduceCtorEq,Z2d,Z2b,Yh,Z9j,Yi,List.take_succ_cons,List.take_zero,Jd,Je,Zj,Z7,Zl,Option.map_some,Z3t S,Zdu S,hs,hb,hr,hreal,Zd4,Z88,Zpa,Md.w64,Bool.not_true,Bool.not_false]
 | some l=>
  have hr4:decide ((l.length:Int)>=4)=decide (4<=l.length):=decide_eq_decide.2 (by omega)
  simp only[go_sem,thq S,nbr S,zN0,zN1,zN2,zN3,zN4,zI0,zI1,zI2,zI3,reduceCtorEq,hr4,Z2d,Z2b,Yh,Z9j,Yi,List.take_succ_cons,List.take_zero,Jd,Je,Zj,Z7,Zl,Option.map_some,Z3t S,Zdu S,hs,hb,hr,hreal,Zd4,Z88,Zpa,Md.w64,Bool.not_true,Bool.not_false]
theorem Zwx (dp:Nat)(r0 r1 r2 r3 pc en g:Int)(mm sk rb:List Int)(bf:List Ent)(e1 e2 e3 e4 e5:Int)(e6 e7 e8:Bool)(hr:rb.length<1073741824):
  evC E fn (dp+2) 212 [.ref 0 0 0,.agg [.d (vi e1),.d (vi e2),.d (vi e3),.d (vi e4),.d (vi e5),.d (vb e6),.d (vb e7),.d (vb e8)],.d (vi g)] [.cells [.d (vi r0),.d (vi r1),.d (vi r2),.d (vi r3),.d (rD mm),.d (rD sk),.d (vi pc),.d (rD bf),.d (rD rb),.d (vi en)] 0 false]=
  some (.agg [.d (vi e1),.d (vi e2),.d (vi e3),.d (vi e4),.d (vi (if rb.length=0 then g else Md.lastI rb)),.d (vb e6),.d (vb e7),.d (vb e8)],[.cells [.d (vi r0),.d (vi r1),.d (vi r2),.d (vi r3),.d (rD mm),.d (rD sk),.d (vi pc),.d (rD bf),.d (rD (if rb.length=0 then rb else rb.dropLast)),.d (vi en)] 0 false]):=by
 rw[Z2,S.Zg6,Z3,Zgz,Z6 _ _ _ _ _ _ _ _ rfl]
 by_cases h:rb.length=0
 ·simp only[go_sem,thq S,nbr S,zN0,zN1,zN2,zN3,zN4,zI0,zI1,zI2,zI3,reduceCtorEq,Zsu S,Z2d,Z2b,Yh,Z9j,Yi,List.take_succ_cons,List.take_zero,Jd,Je,Zj,Z7,Zl,Option.map_some,Z3i S,hr,h,ne_eq,not_true_eq_false,not_false_eq_true]
 ·simp only[go_sem,thq S,nbr S,zN0,zN1,zN2,zN3,zN4,zI0,zI1,zI2,zI3,reduceCtorEq,Zsu S,Z2d,Z2b,Yh,Z9j,Yi,List.take_succ_cons,List.take_zero,Jd,Je,Zj,Z7,Zl,Option.map_some,Z3i S,hr,h,ne_eq,not_true_eq_false,not_false_eq_true]
theorem Zw6 (dp:Nat)(p:Prog)(c:Conf)(g:Int)(hs:c.state.stack.length<1073741824)(hb:c.buf.length<1073741824)(hr:c.rsb.length<1073741823):
  evC E fn (dp+5) 161 [.agg [.d (vi p.w),.d (vi p.window),.d (vi p.fuel),.d (vi p.regs.r0),.d (vi p.regs.r1),.d (vi p.regs.r2),.d (vi p.regs.r3),.d (rD p.mems),.d (rD p.labels),.d (rD p.ins)],.ref 0 0 0,.d (vi g)] [.cells ((Z22 c).map .d) 0 false]=
  some (.agg ((Cl.cells (Md.entry p c g).1).map .d),[.cells ((Z22 { c with rsb:=(Md.entry p c g).2 }).map .d) 0 false]):=by
 have hr':c.rsb.length<1073741824:=by omega
 rw[Z2,S.Zan,Z3,Zb7,Z6 _ _ _ _ _ _ _ _ rfl]
 by_cases k5:(Md.at_ p c.state.pc).kind=5
 ·by_cases hg : g = 1
  ·simp only[go_sem,thq S,nbr S,zN0,zN1,zN2,zN3,zN4,zI0,zI1,zI2,zI3,reduceCtorEq,Z46 S,Z2d,Z2b,Yh,Z9j,Yi,List.take_succ_cons,List.take_zero,Jd,Je,Zj,Z7,Zl,Option.map_some,Z8 S,Md.entry,Md.w64,zI0,if_true,if_false,or_self,true_or,or_true,k5,hg]
  ·simp only[go_sem,thq S,nbr S,zN0,zN1,zN2,zN3,zN4,zI0,zI1,zI2,zI3,reduceCtorEq,Z46 S,Z2d,Z2b,Yh,Z9j,Yi,List.take_succ_cons,List.take_zero,Jd,Je,Zj,Z7,Zl,Option.map_some,Z8 S,Md.entry,Md.w64,zI0,if_true,if_false,or_self,true_or,or_true,k5,hg]
 by_cases k6:(Md.at_ p c.state.pc).kind=6
 ·simp only[go_sem,thq S,nbr S,zN0,zN1,zN2,zN3,zN4,zI0,zI1,zI2,zI3,reduceCtorEq,Z46 S,Z2d,Z2b,Yh,Z9j,Yi,List.take_succ_cons,List.take_zero,Jd,Je,Zj,Z7,Zl,Option.map_some,Z8 S,Md.entry,Md.w64,zI0,if_true,if_false,or_self,true_or,or_true,k6]
 by_cases k7:(Md.at_ p c.state.pc).kind=7
 ·simp only[go_sem,thq S,nbr S,zN0,zN1,zN2,zN3,zN4,zI0,zI1,zI2,zI3,reduceCtorEq,Z46 S,Z2d,Z2b,Yh,Z9j,Yi,List.take_succ_cons,List.take_zero,Jd,Je,Zj,Z7,Zl,Option.map_some,Z8 S,Md.entry,Md.w64,zI0,if_true,if_false,or_self,true_or,or_true,k7]
 by_cases k8:(Md.at_ p c.state.pc).kind=8
 ·simp only [go_sem, thq S, nbr S, zN0, zN1, zN2, zN3, zN4, zI0, zI1, zI2, zI3, reduceCtorEq, Z46 S, Z2d, Z2b, Yh, Z9j, Yi, List.take_succ_cons, List.take_zero, Jd, Je, Zj, Z7, Zl, Option.map_some, Z8 S, Md.entry, Md.w64, zI0, if_true, if_false, or_self, true_or, or_true, J1, Z38, J2, Yx, Z0i, Yr, Qw, Yt, Z0p, J0, Zbd, Z0o, Z0m, Qx, Yu, Yv, Z0n, Y9, Qz, Yw, Z0h, List.drop_succ_cons, List.drop_zero, List.getD_cons_zero, List.getD_cons_succ, show Nat.ble 1 1 = true from rfl, nbr S, k8, Zzv S, hs, hb, hr, Zpa]
  rfl
 by_cases k9:(Md.at_ p c.state.pc).kind=9
 ·by_cases hz : c.rsb.length = 0
  ·simp only[go_sem,thq S,nbr S,zN0,zN1,zN2,zN3,zN4,zI0,zI1,zI2,zI3,reduceCtorEq,Z46 S,Z2d,Z2b,Yh,Z9j,Yi,List.take_succ_cons,List.take_zero,Jd,Je,Zj,Z7,Zl,Option.map_some,Z8 S,Md.entry,Md.w64,zI0,if_true,if_false,or_self,true_or,or_true,J1,Z38,J2,Yx,Z0i,Yr,Qw,Yt,Z0p,J0,Zbd,Z0o,Z0m,Qx,Yu,Yv,Z0n,Y9,Qz,Yw,Z0h,List.drop_succ_cons,List.drop_zero,List.getD_cons_zero,List.getD_cons_succ,show Nat.ble 1 1=true from rfl,nbr S,k9,Zwx S,hr',hz]
  ·simp only[go_sem,thq S,nbr S,zN0,zN1,zN2,zN3,zN4,zI0,zI1,zI2,zI3,reduceCtorEq,Z46 S,Z2d,Z2b,Yh,Z9j,Yi,List.take_succ_cons,List.take_zero,Jd,Je,Zj,Z7,Zl,Option.map_some,Z8 S,Md.entry,Md.w64,zI0,if_true,if_false,or_self,true_or,or_true,J1,Z38,J2,Yx,Z0i,Yr,Qw,Yt,Z0p,J0,Zbd,Z0o,Z0m,Qx,Yu,Yv,Z0n,Y9,Qz,Yw,Z0h,List.drop_succ_cons,List.drop_zero,List.getD_cons_zero,List.getD_cons_succ,show Nat.ble 1 1=true from rfl,nbr S,k9,Zwx S,hr',hz]
 by_cases k11:(Md.at_ p c.state.pc).kind=11
 ·simp only[go_sem,thq S,nbr S,zN0,zN1,zN2,zN3,zN4,zI0,zI1,zI2,zI3,reduceCtorEq,Z46 S,Z2d,Z2b,Yh,Z9j,Yi,List.take_succ_cons,List.take_zero,Jd,Je,Zj,Z7,Zl,Option.map_some,Z8 S,Md.entry,Md.w64,zI0,if_true,if_false,or_self,true_or,or_true,k11]
 by_cases k12:(Md.at_ p c.state.pc).kind=12
 ·simp only[go_sem,thq S,nbr S,zN0,zN1,zN2,zN3,zN4,zI0,zI1,zI2,zI3,reduceCtorEq,Z46 S,Z2d,Z2b,Yh,Z9j,Yi,List.take_succ_cons,List.take_zero,Jd,Je,Zj,Z7,Zl,Option.map_some,Z8 S,Md.entry,Md.w64,zI0,if_true,if_false,or_self,true_or,or_true,k12]
 ·simp only[go_sem,thq S,nbr S,zN0,zN1,zN2,zN3,zN4,zI0,zI1,zI2,zI3,reduceCtorEq,Z46 S,Z2d,Z2b,Yh,Z9j,Yi,List.take_succ_cons,List.take_zero,Jd,Je,Zj,Z7,Zl,Option.map_some,Z8 S,Md.entry,Md.w64,zI0,if_true,if_false,or_self,true_or,or_true,k5,k6,k7,k8,k9,k11,k12]
end
end Go.Aug.Mc
