import Derived.Test.YthnhboimcidhgaaGreatDoorMc6
import Derived.Test.YthnhboimcidhgaaGreatDoorMc2
import Derived.Test.YthnhboimcidhgaaGreatDoorMc24
namespace Go.Aug.Mc
open Go Go.Aug
set_option linter.unusedSimpArgs false
set_option linter.unusedVariables false
set_option maxHeartbeats 40000000
variable {E:Env} {fn:FuncId->Option (Env->cT->cT)}
section
variable (S:Sur E fn)
include S
theorem Zn5 (dp:Nat)(l:List Int)(x:Int)(hl:l.length<1073741823):Zk E fn (dp+1) 134 [rD l,vi x] (rD (Md.push l x)):=by
 unfold Zk
 show Zh (evC E fn (dp+1) 134 [.d (rD l),.d (vi x)] [])=_
 rw[Z2,S.Zkq,Z3,Zm6,Z6 _ _ _ _ _ _ _ _ rfl]
 by_cases h0:l.length=0
 ·have : l = [] := List.length_eq_zero_iff.1 h0
  subst this
  have bd:=Z9e 1 .i64 0 (by omega) (by omega)
  have w1:max (IntKind.i64.wrap (((0+1:Nat):Int)-2)) 0=0:=by decide
  simp only[eG,go_sem,thq S,nbr S,Nat.reduceLT,Nat.reduceEqDiff,Nat.reduceAdd,Nat.reduceMul,Nat.reduceLeDiff,Int.reduceEq,Int.reduceLT,Int.reduceLE,Int.reduceNeg,reduceCtorEq,J3,Zl,Jq (cs:=[]),ne_eq,Nat.succ_ne_zero,not_false_eq_true,show(1:Nat)*8<=Zf by decide,show(1:Nat)<=Zf by decide,Int.natCast_one,Nat.zero_add,Int.reduceSub,show IntKind.i64.wrap (-1)= -1 by decide,show max (-1:Int) 0=0 by decide,bd,Int.toNat_zero,and_false,not_true_eq_false,false_and,Nat.zero_mul,Nat.sub_zero,Nat.add_zero,Md.push,List.drop_zero,Zo,Nat.one_mul,Nat.le_refl,Nat.zero_ne_one,Nat.one_ne_zero]
  rfl
 ·have l1 : l.length * 8 <= Zf := by unfold Zf; omega
  have l2:l.length<=Zf:=by unfold Zf;omega
  have l3:(((rC l).map AV.d).all AV.one)=true:=Z45 _
  have l4:(l.length+1)*8<=Zf:=by unfold Zf;omega
  have l5:l.length+1<=Zf:=by unfold Zf;omega
  have w1:max (IntKind.i64.wrap (((l.length+1:Nat):Int)-2)) 0=((l.length-1:Nat):Int):=by rw[Zt (by omega) (by omega)];omega
  have bd:=Z9e (l.length+1) .i64 ((l.length-1:Nat):Int) (by omega) (by omega)
  have n1:¬(l.length-1=l.length+1):=by omega
  simp only[eG,go_sem,thq S,nbr S,Nat.reduceLT,Nat.reduceEqDiff,Nat.reduceAdd,Nat.reduceMul,Nat.reduceLeDiff,Int.reduceEq,Int.reduceLT,Int.reduceLE,Int.reduceNeg,reduceCtorEq,J3,Zl,Jq (cs:=[]),l1,l2,l3,ne_eq,h0,not_false_eq_true,Qp,l4,l5,w1,bd,Int.toNat_natCast,n1,false_and,Nat.mul_one,Nat.zero_add]
  have e1:l++[x]=(l++[x]).take (l.length-1)++((l++[x]).drop (l.length-1)++[]):=by rw[List.append_nil,List.take_append_drop]
  have hd:∀ j A,A[j]? =some (.cells ((rC (l++[x])).map .d) 0 false)->deep A 8 (.sref j 0 (l.length-1) (l.length+1-(l.length-1)) 1 none)=some (.lst (rC ((l++[x]).drop (l.length-1))) (l.length+1-(l.length-1)) none,[j]):=by
   intro j A hA
   refine Zi9 (pre:=(l++[x]).take (l.length-1)) (junk:=[]) (by rw[<-e1];exact hA) ?_ 6 _ _ _ _ rfl ?_ ?_
   ·intro h
    have:=congrArg List.length h
    simp at this
    omega
   ·simp[Y1i];omega
   ·simp
  have:=hd 0 [.cells ((rC (l++[x])).map .d) 0 false] rfl
  rw[this]
  have e2:l.length+1-(l.length-1)=(Md.push l x).length:=by simp[Md.push]
  rw[e2]
  rfl
theorem Z1g (dp:Nat)(l:List Int)(x:Int)(hl:l.length<1073741823)(A:List Blk)(nb:Nat):Zb false E (evC E fn (dp+1)) 134 A nb (some ([rD l,vi x],[]))=some (.made (.d (rD (Md.push l x))) []):=
 Zk.deep (Zn5 S dp l x hl) (np S 134 (by decide)) A nb
end
open Nat renaming reduceLT -> zN0, reduceEqDiff -> zN1, reduceAdd -> zN2, reduceMul -> zN3, reduceLeDiff -> zN4
open Int renaming reduceEq -> zI0, reduceLT -> zI1, reduceLE -> zI2, reduceNeg -> zI3
theorem Zi0 {l:List Int}(h:l.length≠0):l[l.length-1]? =some (Md.lastI l):=by
 unfold Md.lastI
 rw[List.getLast?_eq_getElem?]
 obtain⟨e,he⟩:=Yz (show l.length-1<l.length by omega)
 rw[he];rfl
theorem Zt5 {A:List Blk}{i:Nat}{b:Blk}(h:A[i]? =some b):¬A.length<=i:=by
 intro hl
 rw[List.getElem?_eq_none hl] at h
 cases h
theorem Zwr {L:List Ent}{A:List Blk}{j v len:Nat}{k:Option Nat}{r0 r1 r2 r3 mm sk pc rb en x:DV}
  (hA:A[j]? =some (.cells ((rC L).map .d) v false)) (h0:L≠[]) (hl:len=L.length) (f0:[r0,r1,r2,r3,mm,sk,pc,rb,en].map (fk 2)=[r0,r1,r2,r3,mm,sk,pc,rb,en]) (fx:fk 3 x=x):
  Zh (Zl7 0 (some (.tup [.agg [.d r0,.d r1,.d r2,.d r3,.d mm,.d sk,.d pc,.sref j v 0 len 8 k,.d rb,.d en],.d x],A)))=some (.tup [.agg [r0,r1,r2,r3,mm,sk,pc,rD L,rb,en],x]):=by
 subst hl
 have hi:=Zt5 hA
 have hd:=Y8 L h0 L.length rfl 4 8 k rfl
 simp only[List.map_cons,List.map_nil,List.cons.injEq,and_true] at f0
 simp only[eG,go_sem,Z82,hA,hi,List.not_mem_nil,false_or,or_false,Nat.not_lt_zero,if_false,hd,f0,fx]
 rfl
theorem Zuj {L:List Ent}{R:List Int}{A:List Blk}{j v len j2 v2 len2:Nat}{k k2:Option Nat}{r0 r1 r2 r3 mm sk pc en x:DV}
  (hA:A[j]? =some (.cells ((rC L).map .d) v false)) (h0:L≠[]) (hl:len=L.length) (hB:A[j2]? =some (.cells ((rC R).map .d) v2 false)) (h2:len2=R.length) (hj:j≠j2) (f0:[r0,r1,r2,r3,mm,sk,pc,en].map (fk 2)=[r0,r1,r2,r3,mm,sk,pc,en]) (fx:fk 3 x=x):
  Zh (Zl7 0 (some (.tup [.agg [.d r0,.d r1,.d r2,.d r3,.d mm,.d sk,.d pc,.sref j v 0 len 8 k,.sref j2 v2 0 len2 1 k2,.d en],.d x],A)))=some (.tup [.agg [r0,r1,r2,r3,mm,sk,pc,rD L,rD R,en],x]):=by
 subst hl h2
 have hi:=Zt5 hA
 have hi2:=Zt5 hB
 have hj':j2≠j:=fun e=>hj e.symm
 have hd:deep [.cells ((rC L).map .d) 0 false,.cells ((rC R).map .d) 0 false] 6 (.sref 0 0 0 L.length 8 k)=some (.lst (rC L) L.length k,[0]):=Q8 rfl h0 4 _ 8 k rfl rfl
 simp only[List.map_cons,List.map_nil,List.cons.injEq,and_true] at f0
 by_cases hR:R=[]
 ·subst hR
  simp only[eG,go_sem,Z82,hA,hB,hi,hi2,hj,hj',List.not_mem_nil,List.mem_cons,false_or,or_false,Nat.not_lt_zero,if_false,f0,fx] at hd ⊢
  simp only[hd,go_sem,f0,fx]
  rfl
 ·have hd2 : deep [.cells ((rC L).map .d) 0 false, .cells ((rC R).map .d) 0 false] 6 (.sref 1 0 0 R.length 1 k2) = some (.lst (rC R) R.length k2, [1]) := Q8 rfl hR 4 _ 1 k2 rfl rfl
  simp only[eG,go_sem,Z82,hA,hB,hi,hi2,hj,hj',List.not_mem_nil,List.mem_cons,false_or,or_false,Nat.not_lt_zero,if_false,hd,hd2,f0,fx]
  rfl
theorem Q1 {l:List Ent}{e:Ent}{D:DV}{A:List Blk}{j v len:Nat}{k:Option Nat}{r0 r1 r2 r3 mm sk pc rb en x:DV}
  (hA:A[j]? =some (.cells ((rC (l++[e])).map .d) v false)) (hD:D=.tup [.agg [r0,r1,r2,r3,mm,sk,pc,rD (l++[e]),rb,en],x]) (f0:[r0,r1,r2,r3,mm,sk,pc,rb,en].map (fk 2)=[r0,r1,r2,r3,mm,sk,pc,rb,en]) (hl:len=(l++[e]).length) (fx:fk 3 x=x) (_:0=0):
  Zh (Zl7 0 (some (.tup [.agg [.d r0,.d r1,.d r2,.d r3,.d mm,.d sk,.d pc,.sref j v 0 len 8 k,.d rb,.d en],.d x],A)))=some D:=by
 rw[hD];exact Zwr hA (by simp) hl f0 fx
theorem Z75 {l:List Ent}{e:Ent}{R:List Int}{D:DV}{A:List Blk}{j v len j2 v2 len2:Nat}{k k2:Option Nat}{r0 r1 r2 r3 mm sk pc en x:DV}
  (hA:A[j]? =some (.cells ((rC (l++[e])).map .d) v false)) (hB:A[j2]? =some (.cells ((rC R).map .d) v2 false)) (hD:D=.tup [.agg [r0,r1,r2,r3,mm,sk,pc,rD (l++[e]),rD R,en],x]) (hj:j≠j2) (hl:len=(l++[e]).length) (f0:[r0,r1,r2,r3,mm,sk,pc,en].map (fk 2)=[r0,r1,r2,r3,mm,sk,pc,en]) (fx:fk 3 x=x) (h2:len2=R.length:=by first | rfl | simp):
  Zh (Zl7 0 (some (.tup [.agg [.d r0,.d r1,.d r2,.d r3,.d mm,.d sk,.d pc,.sref j v 0 len 8 k,.sref j2 v2 0 len2 1 k2,.d en],.d x],A)))=some D:=by
 rw[hD];exact Zuj hA (by simp) hl hB h2 hj f0 fx
def Z67 (p:Prog)(c:Conf)(g:Int):Conf:=bif Md.canFetch p c g then Md.fetch p c g else Md.conf0
variable {E:Env} {fn:FuncId->Option (Env->cT->cT)}
section
variable (S:Sur E fn)
include S
theorem Zbj:E.lives 80 7=none/\E.lives 80 19=none/\E.lives 80 21=none/\E.lives 80 25=none/\E.lives 80 29=none/\E.lives 80 33=none/\E.lives 80 39=none/\E.lives 80 45=none/\E.lives 80 53=none/\E.lives 80 55=none:=⟨off S 80 7 (by decide) rfl,off S 80 19 (by decide) rfl,off S 80 21 (by decide) rfl,off S 80 25 (by decide) rfl,off S 80 29 (by decide) rfl,off S 80 33 (by decide) rfl,off S 80 39 (by decide) rfl,off S 80 45 (by decide) rfl,off S 80 53 (by decide) rfl,off S 80 55 (by decide) rfl⟩
theorem Zjn (dp:Nat)(p:Prog)(c:Conf)(g:Int)(hi:p.ins.length<1073741824)(hb:c.buf.length<1073741823)(hs:c.state.stack.length<1073741824)(hr:c.rsb.length<1073741823):Zk E fn (dp+3) 80 [Zn p,Zv c,vi g] (.tup [Zv (Z67 p c g),vb (Md.canFetch p c g)]):=by
 unfold Zk
 show Zh (evC E fn (dp+2+1) 80 [.d (Zn p),.d (Zv c),.d (vi g)] [])=_
 rw[Z2,S.Zg1,Z3,Zgu,Z6 _ _ _ _ _ _ _ _ rfl]
 have hb':c.buf.length<1073741824:=by omega
 by_cases g0:g<0
 ·simp only[eG,go_sem,thq S,nbr S,zN0,zN1,zN2,zN3,zN4,zI0,zI1,zI2,zI3,reduceCtorEq,Zbj S,g0,Z67,Md.canFetch,show ¬0<=g by omega,Md.conf0]
 by_cases g1:g>=Md.guesses p c
 ·simp only[eG,go_sem,thq S,nbr S,zN0,zN1,zN2,zN3,zN4,zI0,zI1,zI2,zI3,reduceCtorEq,Zbj S,g0,g1,Z67,Md.canFetch,show ¬g<Md.guesses p c by omega,Md.conf0,Yl S,hi]
 have hc:Md.canFetch p c g=true:=by simp[Md.canFetch];omega
 unfold Z67
 rw[hc,cond_true]
 by_cases h0:c.buf.length=0
 ·have hbn : c.buf = [] := List.length_eq_zero_iff.1 h0
  simp only[go_sem,thq S,nbr S,zN0,zN1,zN2,zN3,zN4,zI0,zI1,zI2,zI3,reduceCtorEq,Zbj S,g0,g1,Yl S,hi,cA7 S,Y5 S,Z1g S,hb,hb',hs,hr,J3,Zl,show(1:Nat)*48<=Zf by decide,show(1:Nat)<=Zf by decide,ne_eq,not_false_eq_true,Nat.one_ne_zero,Md.w64,Md.fetch,Md.entry,if_true,if_false,Z18,Jq (cs:=[]),false_and,and_false,h0]
  by_cases k5:(Md.at_ p c.state.pc).kind=5
  ·by_cases hg : g = 1
   ·simp only [k5, hg, decide_true, decide_false, cond_true, cond_false, if_true, if_false, zI0, or_self, or_true, true_or]
    rw[hbn]
    refine Q1 (l:=[]) ?_ rfl rfl ?_ rfl rfl
    ·rfl
    ·first | rfl | simp
   ·simp only [k5, hg, decide_true, decide_false, cond_true, cond_false, if_true, if_false, zI0, or_self, or_true, true_or]
    rw[hbn]
    refine Q1 (l:=[]) ?_ rfl rfl ?_ rfl rfl
    ·rfl
    ·first | rfl | simp
  by_cases k6:(Md.at_ p c.state.pc).kind=6
  ·simp only [k6, decide_true, decide_false, cond_true, cond_false, if_true, if_false, zI0, or_self, or_true, true_or]
   rw[hbn]
   refine Q1 (l:=[]) ?_ rfl rfl ?_ rfl rfl
   ·rfl
   ·first | rfl | simp
  by_cases k7:(Md.at_ p c.state.pc).kind=7
  ·simp only [k7, decide_true, decide_false, cond_true, cond_false, if_true, if_false, zI0, or_self, or_true, true_or]
   rw[hbn]
   refine Q1 (l:=[]) ?_ rfl rfl ?_ rfl rfl
   ·rfl
   ·first | rfl | simp
  by_cases k9:(Md.at_ p c.state.pc).kind=9
  ·by_cases hz : c.rsb.length = 0
   ·simp only [k9, hz, decide_true, decide_false, cond_true, cond_false, if_true, if_false, zI0, or_self, or_true, true_or, show ¬ ((0 : Nat) : Int) > 0 by omega]
    rw[hbn]
    refine Q1 (l:=[]) ?_ rfl rfl ?_ rfl rfl
    ·rfl
    ·first | rfl | simp
   ·have w2 : IntKind.i64.wrap ((c.rsb.length : Int) - 1) = ((c.rsb.length - 1 : Nat) : Int) := by rw [Zt (by omega) (by omega)]; omega
    have bd:=Z2w c.rsb.length .i64 ((c.rsb.length-1:Nat):Int) (by omega) (by omega)
    have hlast:=Zi0 hz
    have hdl:c.rsb.take (c.rsb.length-1)=c.rsb.dropLast:=List.dropLast_eq_take.symm
    simp only[k9,hz,decide_true,decide_false,cond_true,cond_false,if_true,if_false,zI0,or_self,or_true,true_or,show(c.rsb.length:Int)>0 by omega]
    by_cases hq:c.rsb.dropLast.length=0
    ·have hq2 : c.rsb.dropLast = [] := List.length_eq_zero_iff.1 hq
     simp only[go_sem,thq S,nbr S,zN0,zN1,zN2,zN3,zN4,zI0,zI1,zI2,zI3,reduceCtorEq,Zbj S,g0,g1,Yl S,hi,cA7 S,Y5 S,Z1g S,hb,hb',hs,hr,J3,Zl,show(1:Nat)*48<=Zf by decide,show(1:Nat)<=Zf by decide,ne_eq,not_false_eq_true,Nat.one_ne_zero,Md.w64,Md.fetch,Md.entry,if_true,if_false,Z18,Jq (cs:=[]),false_and,and_false,h0,w2,bd,Q4 hlast,Int.toNat_natCast,List.drop_zero,Nat.sub_zero,hdl,hq2]
     rw[hbn]
     refine Z75 (l:=[]) (R:=[]) ?_ ?_ rfl ?_ ?_ rfl rfl ?_
     ·rfl
     ·rfl
     ·decide
     ·first | rfl | simp
     ·first | rfl | simp
    ·have q1 : c.rsb.dropLast.length * 8 <= Zf := by unfold Zf; simp; omega
     have q2:c.rsb.dropLast.length<=Zf:=by unfold Zf;simp;omega
     have q3:(((rC c.rsb.dropLast).map AV.d).all AV.one)=true:=Z45 _
     simp only[go_sem,thq S,nbr S,zN0,zN1,zN2,zN3,zN4,zI0,zI1,zI2,zI3,reduceCtorEq,Zbj S,g0,g1,Yl S,hi,cA7 S,Y5 S,Z1g S,hb,hb',hs,hr,J3,Zl,show(1:Nat)*48<=Zf by decide,show(1:Nat)<=Zf by decide,ne_eq,not_false_eq_true,Nat.one_ne_zero,Md.w64,Md.fetch,Md.entry,if_true,if_false,Z18,Jq (cs:=[]),false_and,and_false,h0,w2,bd,Q4 hlast,Int.toNat_natCast,List.drop_zero,Nat.sub_zero,hdl,hq,q1,q2,q3]
     rw[hbn]
     refine Z75 (l:=[]) (R:=c.rsb.dropLast) ?_ ?_ rfl ?_ ?_ rfl rfl ?_
     ·rfl
     ·rfl
     ·decide
     ·first | rfl | simp
     ·first | rfl | simp
  by_cases k8:(Md.at_ p c.state.pc).kind=8
  ·simp only [k8, decide_true, decide_false, cond_true, cond_false, if_true, if_false, zI0, or_self, or_true, true_or]
   cases hreal:Md.real p c.state.stack c.buf c.buf.length with
   | none=>
    rw[h0] at hreal
    have hr4:=hreal
    simp only[go_sem,thq S,nbr S,zN0,zN1,zN2,zN3,zN4,zI0,zI1,zI2,zI3,reduceCtorEq,Zbj S,g0,g1,Yl S,hi,cA7 S,Y5 S,Z1g S,hb,hb',hs,hr,J3,Zl,show(1:Nat)*48<=Zf by decide,show(1:Nat)<=Zf by decide,ne_eq,not_false_eq_true,Nat.one_ne_zero,Md.w64,Md.fetch,Md.entry,if_true,if_false,Z18,Jq (cs:=[]),false_and,and_false,h0,hreal,Zd4,Z88,hr4]
    rw[hbn]
    refine Q1 (l:=[]) ?_ rfl rfl ?_ rfl rfl
    ·rfl
    ·first | rfl | simp
   | some r=>
    have hr4:decide ((r.length:Int)>=4)=decide (4<=r.length):=decide_eq_decide.2 (by omega)
    rw[h0] at hreal
    simp only[go_sem,thq S,nbr S,zN0,zN1,zN2,zN3,zN4,zI0,zI1,zI2,zI3,reduceCtorEq,Zbj S,g0,g1,Yl S,hi,cA7 S,Y5 S,Z1g S,hb,hb',hs,hr,J3,Zl,show(1:Nat)*48<=Zf by decide,show(1:Nat)<=Zf by decide,ne_eq,not_false_eq_true,Nat.one_ne_zero,Md.w64,Md.fetch,Md.entry,if_true,if_false,Z18,Jq (cs:=[]),false_and,and_false,h0,hreal,Zd4,Z88,hr4]
    rw[hbn]
    refine Q1 (l:=[]) ?_ rfl rfl ?_ rfl rfl
    ·rfl
    ·first | rfl | simp
  by_cases k11:(Md.at_ p c.state.pc).kind=11
  ·simp only [k11, decide_true, decide_false, cond_true, cond_false, if_true, if_false, zI0, or_self, or_true, true_or]
   rw[hbn]
   refine Q1 (l:=[]) ?_ rfl rfl ?_ rfl rfl
   ·rfl
   ·first | rfl | simp
  by_cases k12:(Md.at_ p c.state.pc).kind=12
  ·simp only [k12, decide_true, decide_false, cond_true, cond_false, if_true, if_false, zI0, or_self, or_true, true_or]
   rw[hbn]
   refine Q1 (l:=[]) ?_ rfl rfl ?_ rfl rfl
   ·rfl
   ·first | rfl | simp
  ·simp only [k5, k6, k7, k8, k9, k11, k12, decide_true, decide_false, cond_true, cond_false, if_true, if_false, zI0, or_self, or_true, true_or]
   rw[hbn]
   refine Q1 (l:=[]) ?_ rfl rfl ?_ rfl rfl
   ·rfl
   ·first | rfl | simp
 ·have l1 : c.buf.length * 48 <= Zf := by unfold Zf; omega
  have l2:c.buf.length<=Zf:=by unfold Zf;omega
  have l3:(((rC c.buf).map AV.d).all AV.one)=true:=Z45 _
  have l4:(c.buf.length+1)*48<=Zf:=by unfold Zf;omega
  have l5:c.buf.length+1<=Zf:=by unfold Zf;omega
  simp only[go_sem,thq S,nbr S,zN0,zN1,zN2,zN3,zN4,zI0,zI1,zI2,zI3,reduceCtorEq,Zbj S,g0,g1,Yl S,hi,cA7 S,Y5 S,Z1g S,hb,hb',hs,hr,J3,Zl,show(1:Nat)*48<=Zf by decide,show(1:Nat)<=Zf by decide,ne_eq,not_false_eq_true,Nat.one_ne_zero,Md.w64,Md.fetch,Md.entry,if_true,if_false,Z18,Jq (cs:=[]),false_and,and_false,h0,l1,l2,l3,l4,l5]
  by_cases k5:(Md.at_ p c.state.pc).kind=5
  ·by_cases hg : g = 1
   ·simp only [k5, hg, decide_true, decide_false, cond_true, cond_false, if_true, if_false, zI0, or_self, or_true, true_or]
    refine Q1 (l:=c.buf) ?_ rfl rfl ?_ rfl rfl
    ·rfl
    ·first | rfl | simp
   ·simp only [k5, hg, decide_true, decide_false, cond_true, cond_false, if_true, if_false, zI0, or_self, or_true, true_or]
    refine Q1 (l:=c.buf) ?_ rfl rfl ?_ rfl rfl
    ·rfl
    ·first | rfl | simp
  by_cases k6:(Md.at_ p c.state.pc).kind=6
  ·simp only [k6, decide_true, decide_false, cond_true, cond_false, if_true, if_false, zI0, or_self, or_true, true_or]
   refine Q1 (l:=c.buf) ?_ rfl rfl ?_ rfl rfl
   ·rfl
   ·first | rfl | simp
  by_cases k7:(Md.at_ p c.state.pc).kind=7
  ·simp only [k7, decide_true, decide_false, cond_true, cond_false, if_true, if_false, zI0, or_self, or_true, true_or]
   refine Q1 (l:=c.buf) ?_ rfl rfl ?_ rfl rfl
   ·rfl
   ·first | rfl | simp
  by_cases k9:(Md.at_ p c.state.pc).kind=9
  ·by_cases hz : c.rsb.length = 0
   ·simp only [k9, hz, decide_true, decide_false, cond_true, cond_false, if_true, if_false, zI0, or_self, or_true, true_or, show ¬ ((0 : Nat) : Int) > 0 by omega]
    refine Q1 (l:=c.buf) ?_ rfl rfl ?_ rfl rfl
    ·rfl
    ·first | rfl | simp
   ·have w2 : IntKind.i64.wrap ((c.rsb.length : Int) - 1) = ((c.rsb.length - 1 : Nat) : Int) := by rw [Zt (by omega) (by omega)]; omega
    have bd:=Z2w c.rsb.length .i64 ((c.rsb.length-1:Nat):Int) (by omega) (by omega)
    have hlast:=Zi0 hz
    have hdl:c.rsb.take (c.rsb.length-1)=c.rsb.dropLast:=List.dropLast_eq_take.symm
    simp only[k9,hz,decide_true,decide_false,cond_true,cond_false,if_true,if_false,zI0,or_self,or_true,true_or,show(c.rsb.length:Int)>0 by omega]
    by_cases hq:c.rsb.dropLast.length=0
    ·have hq2 : c.rsb.dropLast = [] := List.length_eq_zero_iff.1 hq
     simp only[go_sem,thq S,nbr S,zN0,zN1,zN2,zN3,zN4,zI0,zI1,zI2,zI3,reduceCtorEq,Zbj S,g0,g1,Yl S,hi,cA7 S,Y5 S,Z1g S,hb,hb',hs,hr,J3,Zl,show(1:Nat)*48<=Zf by decide,show(1:Nat)<=Zf by decide,ne_eq,not_false_eq_true,Nat.one_ne_zero,Md.w64,Md.fetch,Md.entry,if_true,if_false,Z18,Jq (cs:=[]),false_and,and_false,h0,l1,l2,l3,l4,l5,w2,bd,Q4 hlast,Int.toNat_natCast,List.drop_zero,Nat.sub_zero,hdl,hq2]
     refine Z75 (l:=c.buf) (R:=[]) ?_ ?_ rfl ?_ ?_ rfl rfl ?_
     ·rfl
     ·rfl
     ·decide
     ·first | rfl | simp
     ·first | rfl | simp
    ·have q1 : c.rsb.dropLast.length * 8 <= Zf := by unfold Zf; simp; omega
     have q2:c.rsb.dropLast.length<=Zf:=by unfold Zf;simp;omega
     have q3:(((rC c.rsb.dropLast).map AV.d).all AV.one)=true:=Z45 _
     simp only[go_sem,thq S,nbr S,zN0,zN1,zN2,zN3,zN4,zI0,zI1,zI2,zI3,reduceCtorEq,Zbj S,g0,g1,Yl S,hi,cA7 S,Y5 S,Z1g S,hb,hb',hs,hr,J3,Zl,show(1:Nat)*48<=Zf by decide,show(1:Nat)<=Zf by decide,ne_eq,not_false_eq_true,Nat.one_ne_zero,Md.w64,Md.fetch,Md.entry,if_true,if_false,Z18,Jq (cs:=[]),false_and,and_false,h0,l1,l2,l3,l4,l5,w2,bd,Q4 hlast,Int.toNat_natCast,List.drop_zero,Nat.sub_zero,hdl,hq,q1,q2,q3]
     refine Z75 (l:=c.buf) (R:=c.rsb.dropLast) ?_ ?_ rfl ?_ ?_ rfl rfl ?_
     ·rfl
     ·rfl
     ·decide
     ·first | rfl | simp
     ·first | rfl | simp
  by_cases k8:(Md.at_ p c.state.pc).kind=8
  ·simp only [k8, decide_true, decide_false, cond_true, cond_false, if_true, if_false, zI0, or_self, or_true, true_or]
   cases hreal:Md.real p c.state.stack c.buf c.buf.length with
   | none=>
    have hr4:=hreal
    simp only[go_sem,thq S,nbr S,zN0,zN1,zN2,zN3,zN4,zI0,zI1,zI2,zI3,reduceCtorEq,Zbj S,g0,g1,Yl S,hi,cA7 S,Y5 S,Z1g S,hb,hb',hs,hr,J3,Zl,show(1:Nat)*48<=Zf by decide,show(1:Nat)<=Zf by decide,ne_eq,not_false_eq_true,Nat.one_ne_zero,Md.w64,Md.fetch,Md.entry,if_true,if_false,Z18,Jq (cs:=[]),false_and,and_false,h0,l1,l2,l3,l4,l5,hreal,Zd4,Z88,hr4]
    refine Q1 (l:=c.buf) ?_ rfl rfl ?_ rfl rfl
    ·rfl
    ·first | rfl | simp
   | some r=>
    have hr4:decide ((r.length:Int)>=4)=decide (4<=r.length):=decide_eq_decide.2 (by omega)
    simp only[go_sem,thq S,nbr S,zN0,zN1,zN2,zN3,zN4,zI0,zI1,zI2,zI3,reduceCtorEq,Zbj S,g0,g1,Yl S,hi,cA7 S,Y5 S,Z1g S,hb,hb',hs,hr,J3,Zl,show(1:Nat)*48<=Zf by decide,show(1:Nat)<=Zf by decide,ne_eq,not_false_eq_true,Nat.one_ne_zero,Md.w64,Md.fetch,Md.entry,if_true,if_false,Z18,Jq (cs:=[]),false_and,and_false,h0,l1,l2,l3,l4,l5,hreal,Zd4,Z88,hr4]
    refine Q1 (l:=c.buf) ?_ rfl rfl ?_ rfl rfl
    ·rfl
    ·first | rfl | simp
  by_cases k11:(Md.at_ p c.state.pc).kind=11
  ·simp only [k11, decide_true, decide_false, cond_true, cond_false, if_true, if_false, zI0, or_self, or_true, true_or]
   refine Q1 (l:=c.buf) ?_ rfl rfl ?_ rfl rfl
   ·rfl
   ·first | rfl | simp
  by_cases k12:(Md.at_ p c.state.pc).kind=12
  ·simp only [k12, decide_true, decide_false, cond_true, cond_false, if_true, if_false, zI0, or_self, or_true, true_or]
   refine Q1 (l:=c.buf) ?_ rfl rfl ?_ rfl rfl
   ·rfl
   ·first | rfl | simp
  ·simp only [k5, k6, k7, k8, k9, k11, k12, decide_true, decide_false, cond_true, cond_false, if_true, if_false, zI0, or_self, or_true, true_or]
   refine Q1 (l:=c.buf) ?_ rfl rfl ?_ rfl rfl
   ·rfl
   ·first | rfl | simp
end
section
variable (S:Sur E fn)
include S
theorem Zsy:E.lives 136 7=none:=off S 136 7 (by decide) rfl
theorem Z48 (dp:Nat)(l:List Ent)(e:Ent)(i to r0 r1 r2 r3 pc en:Int)(mm sk rb:List Int)(h0:0<=i)(h1:i.toNat<l.length)(hl:l.length<1073741824):
  evC E fn (dp+1) 136 [.agg [.d (vi r0),.d (vi r1),.d (vi r2),.d (vi r3),.d (rD mm),.d (rD sk),.d (vi pc),.sref 0 0 0 l.length 8 none,.d (rD rb),.d (vi en)],.d (vi i),.d (vi to)] [.cells ((rC (l.set i.toNat e)).map .d) 0 false]=
  bif decide (e.next=to) then some (.tup [.agg [.d (vi r0),.d (vi r1),.d (vi r2),.d (vi r3),.d (rD mm),.d (rD sk),.d (vi pc),.sref 0 0 0 l.length 8 none,.d (rD rb),.d (vi en)],.d (.lst [vi 3,vi to] 1 (some 1))],[.cells ((rC (l.set i.toNat e)).map .d) 0 false])
  else some (.tup [.agg [.d (vi r0),.d (vi r1),.d (vi r2),.d (vi r3),.d (rD mm),.d (rD sk),.d (vi to),.sref 0 0 0 (i.toNat+1) 8 none,.d (rD rb),.d (vi en)],.d (.lst [vi 3,vi to] 1 (some 1))],[.cells ((rC (l.set i.toNat { e with next:=to })).map .d) 0 false]):=by
 have hi:i<l.length:=by omega
 have w1:IntKind.i64.wrap (i+1)=i+1:=Zt (by omega) (by omega)
 have bd:=Z2w l.length .i64 (i+1) (by omega) (by omega)
 have t1:(i+1).toNat=i.toNat+1:=by omega
 rw[Z2,S.Zko,Z3,Zm4,Z6 _ _ _ _ _ _ _ _ rfl]
 by_cases h:e.next=to
 ·simp only[go_sem,thq S,nbr S,Nat.reduceLT,Nat.reduceEqDiff,Nat.reduceAdd,Nat.reduceMul,Nat.reduceLeDiff,Int.reduceEq,Int.reduceLT,Int.reduceLE,Int.reduceNeg,reduceCtorEq,Zsy S,Z2d,Z2b,Yh,Z9j,Yi,List.take_succ_cons,List.take_zero,Jd,Je,Zj,Z7,Zl,Option.map_some,h0,hi,ld4 h1,h,Bool.not_true,Nat.zero_add]
 ·simp only[go_sem,thq S,nbr S,Nat.reduceLT,Nat.reduceEqDiff,Nat.reduceAdd,Nat.reduceMul,Nat.reduceLeDiff,Int.reduceEq,Int.reduceLT,Int.reduceLE,Int.reduceNeg,reduceCtorEq,Zsy S,Z2d,Z2b,Yh,Z9j,Yi,List.take_succ_cons,List.take_zero,Jd,Je,Zj,Z7,Zl,Option.map_some,h0,hi,ld4 h1,h,Bool.not_false,Nat.zero_add,wr4 h1,w1,bd,t1,Nat.zero_mul,Nat.add_zero,Nat.sub_zero,Option.map_none,ne_eq,not_true_eq_false,and_false]
end
set_option maxRecDepth 200000
theorem Zw (A:List Blk)(s bytes n:Nat)(new:List AV)(h0:n≠0)(h1:n*bytes<=Zf)(h2:n<=Zf):Qs A s bytes (.d (.lst [] 0 (some 0))) new n=some (.fresh new n):=by
 obtain⟨m,rfl⟩:∃ m,n=m+1:=⟨n-1,by omega⟩
 rw[Zpz,Nat.zero_add,if_pos ⟨by omega,by simp,h1,h2⟩];rfl
theorem wrI {l:List Int}{k:Nat}(h:k<l.length)(i v:Nat)(A:List Blk)(n:Int):storeAt A i v (k*1) [.d (vi n)] 1 (some (.cells ((rC l).map .d) v false))=some (A.set i (.cells ((rC (l.set k n)).map .d) v false)):=by
 have he:l[k]? =some l[k]:=List.getElem?_eq_getElem h
 exact Zc7 (o:=0) (e':=n) [vi n] he rfl rfl rfl rfl (by show 0+1<=1;decide) 1 rfl _ rfl
theorem Qj (l:List Int)(n:Nat)(hn:n<=l.length):n*1<=((rC l).map AV.d).length:=by
 rw[List.length_map,Yc];exact Nat.mul_le_mul_right _ hn
theorem Yq (A:List Blk)(m n:Nat)(l:List Int):Z2e (deep A (m+1)) (((rC l).map AV.d).take (n*1))=some (rC (l.take n),[]):=by
 rw[<-List.map_take,show n*1=n*Cl.n Int from rfl,Z60,Z52]
theorem nc1 (A:List Blk)(x:DV)(k:Option Nat):Z0g A false 1 (.d (.lst [x] 1 k))=some ([.d x],1):=rfl
theorem Z32 (l:List Int)(n:Nat)(h:n<=l.length):DV.lst (rC (l.take n)) n none=rD (l.take n):=by
 unfold rD;rw[List.length_take,Nat.min_eq_left h]
theorem Z2x (l:List Int)(k:Nat)(v:Int):(l.set k v).take l.length=l.set k v:=List.take_of_length_le (by rw[List.length_set];exact Nat.le_refl _)
theorem Z33 (l:List Int)(k:Nat)(v:Int):DV.lst (rC (l.set k v)) l.length none=rD (l.set k v):=by
 unfold rD;rw[List.length_set]
def Z6s (p:Prog)(c:Conf):Conf:=bif Md.canRetire p c then Md.retire p c else Md.conf0
theorem Z50 {p:Prog}{c:Conf}(h:Md.canRetire p c=true):∃ e,c.buf[0]? =some e/\Md.entAt c.buf 0=e/\c.end_=0:=by
 simp only[Md.canRetire,Bool.and_eq_true,beq_iff_eq,decide_eq_true_eq] at h
 obtain⟨e,he⟩:=Yz (show 0<c.buf.length by omega)
 exact⟨e,he,by unfold Md.entAt;rw[show(0:Int).toNat=0 from rfl,he];rfl,h.1.1.1⟩
theorem Yav {n:Int}(h:n=0∨n=1∨n=2∨n=3):Ji .and (.d (vi n)) (.d (vi 3))=some (.d (vi n)):=by
 rcases h with rfl | rfl | rfl | rfl<;>rfl
variable {E:Env} {fn:FuncId->Option (Env->cT->cT)}
section
variable (S:Sur E fn)
include S
theorem Z4l:E.lives 83 7=none/\E.lives 83 21=none/\E.lives 83 25=none/\E.lives 83 29=none/\E.lives 83 33=none/\E.lives 83 37=none/\E.lives 83 41=none/\E.lives 83 45=none:=⟨off S 83 7 (by decide) rfl,off S 83 21 (by decide) rfl,off S 83 25 (by decide) rfl,off S 83 29 (by decide) rfl,off S 83 33 (by decide) rfl,off S 83 37 (by decide) rfl,off S 83 41 (by decide) rfl,off S 83 45 (by decide) rfl⟩
theorem Zhj (dp:Nat)(p:Prog)(c:Conf)(hl:c.buf.length<1073741824)(hm:c.state.mem.length<1073741824)(hs:c.state.stack.length<1073741823)(hd:0<=(Md.at_ p (Md.entAt c.buf 0).pc).d/\(Md.at_ p (Md.entAt c.buf 0).pc).d<=3)(hx:Md.canRetire p c=true->(Md.at_ p (Md.entAt c.buf 0).pc).kind=3->(Md.entAt c.buf 0).fault=false->0<=(Md.entAt c.buf 0).addr/\(Md.entAt c.buf 0).addr<c.state.mem.length)(hy:Md.canRetire p c=true->(Md.at_ p (Md.entAt c.buf 0).pc).kind=9->(Md.entAt c.buf 0).fault=false->c.state.stack≠[]):Zk E fn (dp+4) 83 [Zn p,Zv c] (.tup [Zv (Z6s p c),vb (Md.canRetire p c)]):=by
 unfold Zk
 show Zh (evC E fn (dp+3+1) 83 [.d (Zn p),.d (Zv c)] [])=_
 rw[Z2,S.Zdf,Z3,Ze9,Z6 _ _ _ _ _ _ _ _ rfl]
 cases hcan:Md.canRetire p c with
 | false=>simp only[eG,go_sem,thq S,nbr S,zN0,zN1,zN2,zN3,zN4,zI0,zI1,zI2,zI3,reduceCtorEq,Z4l S,Zg S,hcan,Bool.not_false,Z6s,Md.conf0]
 | true=>
  replace hx:=hx hcan
  replace hy:=hy hcan
  obtain⟨e,he,he0,hend⟩:=Z50 hcan
  rw[he0] at hx hy hd
  have hgo:=he0
  generalize hxx:Md.at_ p e.pc=x at *
  have w0:=Z7r (l:=c.buf) (i:=0) (by decide) he .i64 8 rfl
  have n1:c.state.mem.length*8<=Zf:=by unfold Zf;omega
  have n2:c.state.mem.length<=Zf:=by unfold Zf;omega
  have n3:c.state.stack.length*8<=Zf:=by unfold Zf;omega
  have n4:c.state.stack.length<=Zf:=by unfold Zf;omega
  have n5:(c.state.stack.length+1)*8<=Zf:=by unfold Zf;omega
  have n6:c.state.stack.length+1<=Zf:=by unfold Zf;omega
  have e1:c.state.mem.length=0->c.state.mem=[]:=List.length_eq_zero_iff.1
  have e2:c.state.stack.length=0->c.state.stack=[]:=List.length_eq_zero_iff.1
  have hdl:deep [.cells ((rC (c.state.stack++[IntKind.i64.wrap (e.pc+1)])).map .d) 0 false] 6 (.sref 0 0 0 (c.state.stack.length+1) 1 none)=some (.lst (rC (c.state.stack++[IntKind.i64.wrap (e.pc+1)])) (c.state.stack++[IntKind.i64.wrap (e.pc+1)]).length none,[0]):=Y8 _ (by simp) _ (by simp) 4 1 none rfl
  have d4:x.d=0∨x.d=1∨x.d=2∨x.d=3:=by omega
  have hdl2:deep [.cells ((rC c.state.mem).map .d) 0 false,.cells ((rC (c.state.stack++[IntKind.i64.wrap (e.pc+1)])).map .d) 0 false] 6 (.sref 1 0 0 (c.state.stack.length+1) 1 none)=some (.lst (rC (c.state.stack++[IntKind.i64.wrap (e.pc+1)])) (c.state.stack++[IntKind.i64.wrap (e.pc+1)]).length none,[1]):=by
   rw[show c.state.stack.length+1=(c.state.stack++[IntKind.i64.wrap (e.pc+1)]).length by simp]
   exact Q8 rfl (by simp) 4 _ 1 none rfl rfl
  have hand:=Yav d4
  have d0:=hd.1
  have d1:x.d<4:=by omega
  have hst:∀(A:List Blk) (m s q:AV),storeAt A 5 0 (x.d.toNat*1) [.d (vi e.val)] 1 (some (.cells [.d (vi c.state.regs.r0),.d (vi c.state.regs.r1),.d (vi c.state.regs.r2),.d (vi c.state.regs.r3),m,s,q] 0 false))=some (A.set 5 (.cells [.d (vi (Md.setR c.state.regs x.d e.val).r0),.d (vi (Md.setR c.state.regs x.d e.val).r1),.d (vi (Md.setR c.state.regs x.d e.val).r2),.d (vi (Md.setR c.state.regs x.d e.val).r3),m,s,q] 0 false)):=fun A m s q=>by
   rcases d4 with d | d | d | d<;>rw[d]<;>rfl
  by_cases m0:c.state.mem.length=0<;>by_cases s0:c.state.stack.length=0
  all_goals
   generalize hB:(Zp 0 _:CT)=BB
   simp only[eG,go_sem,thq S,nbr S,zN0,zN1,zN2,zN3,zN4,zI0,zI1,zI2,zI3,reduceCtorEq,Z4l S,Zg S,hcan,Bool.not_true,Bool.not_false,w0,cA7 S,hxx,Z1j S,hl,Jd,Je,Zj,Z7,J3,Zl,Zw,n1,n2,n3,n4,n5,n6,ne_eq,not_false_eq_true,not_true_eq_false,Nat.zero_add,Nat.add_zero,Nat.zero_mul,Zo,Qj,Yq,Nat.le_refl,Option.bind_some,Option.map_some,Option.map_none,Z32,Z2x,Z33,List.take_length,Jc,List.length_set,Z6s,Md.retire,he0,Md.endedM,Md.commitM,eq_true hend,Md.w64,m0,s0]
   rw[<-hB]
   clear hB BB
   cases hf:e.fault with
   | true=>simp only[eG,go_sem,thq S,nbr S,zN0,zN1,zN2,zN3,zN4,zI0,zI1,zI2,zI3,reduceCtorEq,Z4l S,Zg S,hcan,Bool.not_true,Bool.not_false,w0,cA7 S,hxx,Z1j S,hl,Jd,Je,Zj,Z7,J3,Zl,Zw,n1,n2,n3,n4,n5,n6,ne_eq,not_false_eq_true,not_true_eq_false,Nat.zero_add,Nat.add_zero,Nat.zero_mul,Zo,Qj,Yq,Nat.le_refl,Option.bind_some,Option.map_some,Option.map_none,Z32,Z2x,Z33,List.take_length,Jc,List.length_set,Z6s,Md.retire,he0,Md.endedM,Md.commitM,eq_true hend,Md.w64,m0,s0,hf];(first | done | rfl | (rw[e1 m0];rfl) | (rw[e2 s0];rfl) | (rw[e1 m0,e2 s0];rfl))
   | false=>
    by_cases k12:x.kind=12
    ·simp only[eG,go_sem,thq S,nbr S,zN0,zN1,zN2,zN3,zN4,zI0,zI1,zI2,zI3,reduceCtorEq,Z4l S,Zg S,hcan,Bool.not_true,Bool.not_false,w0,cA7 S,hxx,Z1j S,hl,Jd,Je,Zj,Z7,J3,Zl,Zw,n1,n2,n3,n4,n5,n6,ne_eq,not_false_eq_true,not_true_eq_false,Nat.zero_add,Nat.add_zero,Nat.zero_mul,Zo,Qj,Yq,Nat.le_refl,Option.bind_some,Option.map_some,Option.map_none,Z32,Z2x,Z33,List.take_length,Jc,List.length_set,Z6s,Md.retire,he0,Md.endedM,Md.commitM,eq_true hend,Md.w64,m0,s0,hf,k12];(first | done | rfl | (rw[e1 m0];rfl) | (rw[e2 s0];rfl) | (rw[e1 m0,e2 s0];rfl))
    by_cases k11:x.kind=11
    ·simp only[eG,go_sem,thq S,nbr S,zN0,zN1,zN2,zN3,zN4,zI0,zI1,zI2,zI3,reduceCtorEq,Z4l S,Zg S,hcan,Bool.not_true,Bool.not_false,w0,cA7 S,hxx,Z1j S,hl,Jd,Je,Zj,Z7,J3,Zl,Zw,n1,n2,n3,n4,n5,n6,ne_eq,not_false_eq_true,not_true_eq_false,Nat.zero_add,Nat.add_zero,Nat.zero_mul,Zo,Qj,Yq,Nat.le_refl,Option.bind_some,Option.map_some,Option.map_none,Z32,Z2x,Z33,List.take_length,Jc,List.length_set,Z6s,Md.retire,he0,Md.endedM,Md.commitM,eq_true hend,Md.w64,m0,s0,hf,k11];(first | done | rfl | (rw[e1 m0];rfl) | (rw[e2 s0];rfl) | (rw[e1 m0,e2 s0];rfl))
    by_cases k1:x.kind=1
    ·simp only[eG,go_sem,thq S,nbr S,zN0,zN1,zN2,zN3,zN4,zI0,zI1,zI2,zI3,reduceCtorEq,Z4l S,Zg S,hcan,Bool.not_true,Bool.not_false,w0,cA7 S,hxx,Z1j S,hl,Jd,Je,Zj,Z7,J3,Zl,Zw,n1,n2,n3,n4,n5,n6,ne_eq,not_false_eq_true,not_true_eq_false,Nat.zero_add,Nat.add_zero,Nat.zero_mul,Zo,Qj,Yq,Nat.le_refl,Option.bind_some,Option.map_some,Option.map_none,Z32,Z2x,Z33,List.take_length,Jc,List.length_set,Z6s,Md.retire,he0,Md.endedM,Md.commitM,eq_true hend,Md.w64,Int.cast_ofNat_Int,true_and,if_true,hand,d0,d1,hst,m0,s0,hf,k1];(first | done | rfl | (rw[e1 m0];rfl) | (rw[e2 s0];rfl) | (rw[e1 m0,e2 s0];rfl))
    by_cases k2:x.kind=2
    ·simp only[eG,go_sem,thq S,nbr S,zN0,zN1,zN2,zN3,zN4,zI0,zI1,zI2,zI3,reduceCtorEq,Z4l S,Zg S,hcan,Bool.not_true,Bool.not_false,w0,cA7 S,hxx,Z1j S,hl,Jd,Je,Zj,Z7,J3,Zl,Zw,n1,n2,n3,n4,n5,n6,ne_eq,not_false_eq_true,not_true_eq_false,Nat.zero_add,Nat.add_zero,Nat.zero_mul,Zo,Qj,Yq,Nat.le_refl,Option.bind_some,Option.map_some,Option.map_none,Z32,Z2x,Z33,List.take_length,Jc,List.length_set,Z6s,Md.retire,he0,Md.endedM,Md.commitM,eq_true hend,Md.w64,Int.cast_ofNat_Int,true_and,if_true,hand,d0,d1,hst,m0,s0,hf,k2];(first | done | rfl | (rw[e1 m0];rfl) | (rw[e2 s0];rfl) | (rw[e1 m0,e2 s0];rfl))
    by_cases k4:x.kind=4
    ·simp only[eG,go_sem,thq S,nbr S,zN0,zN1,zN2,zN3,zN4,zI0,zI1,zI2,zI3,reduceCtorEq,Z4l S,Zg S,hcan,Bool.not_true,Bool.not_false,w0,cA7 S,hxx,Z1j S,hl,Jd,Je,Zj,Z7,J3,Zl,Zw,n1,n2,n3,n4,n5,n6,ne_eq,not_false_eq_true,not_true_eq_false,Nat.zero_add,Nat.add_zero,Nat.zero_mul,Zo,Qj,Yq,Nat.le_refl,Option.bind_some,Option.map_some,Option.map_none,Z32,Z2x,Z33,List.take_length,Jc,List.length_set,Z6s,Md.retire,he0,Md.endedM,Md.commitM,eq_true hend,Md.w64,Int.cast_ofNat_Int,true_and,if_true,hand,d0,d1,hst,m0,s0,hf,k4];(first | done | rfl | (rw[e1 m0];rfl) | (rw[e2 s0];rfl) | (rw[e1 m0,e2 s0];rfl))
    by_cases k3:x.kind=3
    ·obtain ⟨a0, a1⟩ := hx k3 hf
     have a2:e.addr.toNat<c.state.mem.length:=by omega
     first
      | (exfalso;omega)
      | (simp only[eG,go_sem,thq S,nbr S,zN0,zN1,zN2,zN3,zN4,zI0,zI1,zI2,zI3,reduceCtorEq,Z4l S,Zg S,hcan,Bool.not_true,Bool.not_false,w0,cA7 S,hxx,Z1j S,hl,Jd,Je,Zj,Z7,J3,Zl,Zw,n1,n2,n3,n4,n5,n6,ne_eq,not_false_eq_true,not_true_eq_false,Nat.zero_add,Nat.add_zero,Nat.zero_mul,Zo,Qj,Yq,Nat.le_refl,Option.bind_some,Option.map_some,Option.map_none,Z32,Z2x,Z33,List.take_length,Jc,List.length_set,Z6s,Md.retire,he0,Md.endedM,Md.commitM,eq_true hend,Md.w64,m0,s0,hf,k3,a0,a1,wrI a2,and_self];(first | done | rfl | (rw[e1 m0];rfl) | (rw[e2 s0];rfl) | (rw[e1 m0,e2 s0];rfl)))
    by_cases k8:x.kind=8
    ·simp only[eG,go_sem,thq S,nbr S,zN0,zN1,zN2,zN3,zN4,zI0,zI1,zI2,zI3,reduceCtorEq,Z4l S,Zg S,hcan,Bool.not_true,Bool.not_false,w0,cA7 S,hxx,Z1j S,hl,Jd,Je,Zj,Z7,J3,Zl,Zw,n1,n2,n3,n4,n5,n6,ne_eq,not_false_eq_true,not_true_eq_false,Nat.zero_add,Nat.add_zero,Nat.zero_mul,Zo,Qj,Yq,Nat.le_refl,Option.bind_some,Option.map_some,Option.map_none,Z32,Z2x,Z33,List.take_length,Jc,List.length_set,Z6s,Md.retire,he0,Md.endedM,Md.commitM,eq_true hend,Md.w64,m0,s0,hf,k8,nc1,Qp,show(1:Nat)*8<=Zf by decide,show(8:Nat)<=Zf by decide,show(1:Nat)<=Zf by decide,show(1:Nat)*1<=1 by decide,Nat.lt_add_one,Nat.one_ne_zero,Nat.one_mul,show(0:Nat)<1 by decide,hdl,hdl2];(first | done | rfl | (rw[e1 m0];rfl) | (rw[e2 s0];rfl) | (rw[e1 m0,e2 s0];rfl))
    by_cases k9:x.kind=9
    ·have hne : c.state.stack.length ≠ 0 := fun h => hy k9 hf (List.length_eq_zero_iff.1 h)
     have wl:IntKind.i64.wrap ((c.state.stack.length:Int)-1)=((c.state.stack.length-1:Nat):Int):=by rw[Zt (by omega) (by omega)];omega
     have bd:=Z2w c.state.stack.length .i64 ((c.state.stack.length-1:Nat):Int) (by omega) (by omega)
     have le1:c.state.stack.length-1<=c.state.stack.length:=by omega
     by_cases s1:c.state.stack.length-1=0
     ·have dl : c.state.stack.dropLast = [] := by rw [List.dropLast_eq_take, s1]; rfl
      have bd0:=bd
      rw[s1] at bd0
      first
       | (exfalso;omega)
       | (simp only[eG,go_sem,thq S,nbr S,zN0,zN1,zN2,zN3,zN4,zI0,zI1,zI2,zI3,reduceCtorEq,Z4l S,Zg S,hcan,Bool.not_true,Bool.not_false,w0,cA7 S,hxx,Z1j S,hl,Jd,Je,Zj,Z7,J3,Zl,Zw,n1,n2,n3,n4,n5,n6,ne_eq,not_false_eq_true,not_true_eq_false,Nat.zero_add,Nat.add_zero,Nat.zero_mul,Zo,Qj,Yq,Nat.le_refl,Option.bind_some,Option.map_some,Option.map_none,Z32,Z2x,Z33,List.take_length,Jc,List.length_set,Z6s,Md.retire,he0,Md.endedM,Md.commitM,eq_true hend,Md.w64,m0,s0,hf,k9,wl,bd0,Int.toNat_natCast,s1,dl,Nat.sub_zero,and_false];(first | done | rfl | (rw[e1 m0];rfl) | (rw[e2 s0];rfl) | (rw[e1 m0,e2 s0];rfl)))
     ·first
       | (exfalso;omega)
       | (simp only[eG,go_sem,thq S,nbr S,zN0,zN1,zN2,zN3,zN4,zI0,zI1,zI2,zI3,reduceCtorEq,Z4l S,Zg S,hcan,Bool.not_true,Bool.not_false,w0,cA7 S,hxx,Z1j S,hl,Jd,Je,Zj,Z7,J3,Zl,Zw,n1,n2,n3,n4,n5,n6,ne_eq,not_false_eq_true,not_true_eq_false,Nat.zero_add,Nat.add_zero,Nat.zero_mul,Zo,Qj,Yq,Nat.le_refl,Option.bind_some,Option.map_some,Option.map_none,Z32,Z2x,Z33,List.take_length,Jc,List.length_set,Z6s,Md.retire,he0,Md.endedM,Md.commitM,eq_true hend,Md.w64,m0,s0,hf,k9,wl,bd,Int.toNat_natCast,s1,le1,List.dropLast_eq_take,Nat.sub_zero,and_false];(first | done | rfl | (rw[e1 m0];rfl) | (rw[e2 s0];rfl) | (rw[e1 m0,e2 s0];rfl)))
    simp only[eG,go_sem,thq S,nbr S,zN0,zN1,zN2,zN3,zN4,zI0,zI1,zI2,zI3,reduceCtorEq,Z4l S,Zg S,hcan,Bool.not_true,Bool.not_false,w0,cA7 S,hxx,Z1j S,hl,Jd,Je,Zj,Z7,J3,Zl,Zw,n1,n2,n3,n4,n5,n6,ne_eq,not_false_eq_true,not_true_eq_false,Nat.zero_add,Nat.add_zero,Nat.zero_mul,Zo,Qj,Yq,Nat.le_refl,Option.bind_some,Option.map_some,Option.map_none,Z32,Z2x,Z33,List.take_length,Jc,List.length_set,Z6s,Md.retire,he0,Md.endedM,Md.commitM,eq_true hend,Md.w64,m0,s0,hf,k1,k2,k3,k4,k8,k9,k11,k12];(first | done | rfl | (rw[e1 m0];rfl) | (rw[e2 s0];rfl) | (rw[e1 m0,e2 s0];rfl))
end
def Z5 (l:List MemT):Int:=(l.map fun m=>min (max m.n 0) 16).sum
theorem Z34:∀ l:List MemT,0<=Z5 l/\Z5 l<=16*l.length
 | []=>by simp[Z5]
 | m::l=>by
  have:=Z34 l
  simp only[Z5,List.map_cons,List.sum_cons,List.length_cons] at this ⊢
  omega
theorem Z58 {l:List MemT}{i:Nat}{m:MemT}(h:l[i]? =some m):Z5 (l.take (i+1))=Z5 (l.take i)+min (max m.n 0) 16:=by
 unfold Z5
 rw[Zh5 h,List.map_append,List.sum_append]
 simp
def Zf7 (p:Prog)(x:Ins)(a b d:Int):Int:=if x.kind=4 then(if a=0 then d else b) else Md.wdo p.w x.op a b
def Y0d (p:Prog)(x:Ins)(pc a b:Int):Int:=if x.kind=7 then min a p.ins.length else if Md.wdo p.w x.op a b=0 then Md.w64 (pc+1) else x.target
variable {E:Env} {fn:FuncId->Option (Env->cT->cT)}
section
variable (S:Sur E fn)
include S
theorem Z9s:E.lives 210 1=none:=off S 210 1 (by decide) rfl
theorem Znq:E.lives 147 7=none/\E.lives 147 9=none:=⟨off S 147 7 (by decide) rfl,off S 147 9 (by decide) rfl⟩
theorem Znp:E.lives 149 7=none/\E.lives 149 13=none:=⟨off S 149 7 (by decide) rfl,off S 149 13 (by decide) rfl⟩
theorem Zsv:E.lives 206 9=none:=off S 206 9 (by decide) rfl
theorem Zr4 (dp:Nat)(l:List MemT)(hl:l.length<1073741824)(kx:Nat->K)(D:Int)
  (hx:∀ T,Z01 .bot T 3=aI (Z5 l)->Zh (kx 0 (mk .bot 21 T) [])=some (vi D)):
  ∀(m k fuel:Nat),k+m=l.length->m<=fuel->Zh (Z0j (inn E 210) (evC E fn dp) (Zi 8 Z0j (inn E 210) (evC E fn dp) kx (Z0u 0 [.tmp 2]) fuel) kx (Z0u 0 [.tmp 2])
   (mk .bot 21 [(3,aI (Z5 (l.take k))),(7,.d (rD l)),(8,aI l.length),(9,aI k)]) [])=some (vi D):=by
 intro m
 induction m with
 | zero=>
  intro k fuel hk _
  generalize Zi 8 Z0j _ _ kx _ fuel=KK
  rw[Z0j,List.take_of_length_le (by omega)]
  simp only[eG,go_sem,thq S,nbr S,zN0,zN1,zN2,zN3,zN4,zI0,zI1,zI2,zI3,reduceCtorEq,Z9s S,show ¬(k:Int)<l.length by omega]
  exact hx _ rfl
 | succ m ih=>
  intro k fuel hk hf
  obtain⟨e,he⟩:=Yz (show k<l.length by omega)
  obtain⟨fuel,rfl⟩:∃ m,fuel=m+1:=⟨fuel-1,by omega⟩
  generalize hK:Zi 8 Z0j _ _ kx _ (fuel+1)=KK
  rw[Z0j]
  have hb:=Z34 (l.take k)
  have hbl:(l.take k).length<=l.length:=by simp;omega
  have hw:IntKind.i64.wrap (Z5 (l.take k)+min (max e.n 0) 16)=Z5 (l.take (k+1)):=by
   rw[Z58 he]
   exact Zt (by omega) (by omega)
  simp only[eG,go_sem,thq S,nbr S,zN0,zN1,zN2,zN3,zN4,zI0,zI1,zI2,zI3,reduceCtorEq,Z9s S,show(k:Int)<l.length by omega,Q4 he,wi k (by omega),hw]
  rw[<-hK,Z1 (on S _ _ [3,7,8,9] (by decide) rfl) rfl _ _ _ _ _ _ _ _ _ rfl]
  simp only[eG,go_sem,thq S,nbr S,zN0,zN1,zN2,zN3,zN4,zI0,zI1,zI2,zI3,reduceCtorEq,Z9s S]
  exact ih (k+1) fuel (by omega) (by omega)
theorem Zeu (dp:Nat)(p:Prog)(hm:p.mems.length<1073741824):Zk E fn (dp+1) 210 [Zn p] (vi (Z5 p.mems)):=by
 unfold Zk
 show Zh (evC E fn (dp+1) 210 [.d (Zn p)] [])=_
 rw[Z2,S.Zas,Z3,Zbc,Z6 _ _ _ _ _ _ _ _ rfl]
 simp only[eG,go_sem,thq S,nbr S,zN0,zN1,zN2,zN3,zN4,zI0,zI1,zI2,zI3,reduceCtorEq,Z9s S]
 rw[Y2,Z1 (on S _ _ [3,7,8,9] (by decide) rfl) rfl _ _ _ _ _ _ _ _ _ rfl]
 simp only[eG,go_sem,thq S,nbr S,zN0,zN1,zN2,zN3,zN4,zI0,zI1,zI2,zI3,reduceCtorEq,Z9s S]
 refine Zr4 S dp p.mems hm _ (Z5 p.mems) ?_ p.mems.length 0 _ (by omega) (by omega)
 intro T h3
 simp only[eG,go_sem,thq S,nbr S,zN0,zN1,zN2,zN3,zN4,zI0,zI1,zI2,zI3,reduceCtorEq,Z9s S,h3]
theorem Zlm (dp:Nat)(p_w p_wn p_fu p_r0 p_r1 p_r2 p_r3:Int)(p_ms:List MemT)(p_ls:List Label)(p_is:List Ins)(hm:(⟨p_w,p_wn,p_fu,⟨p_r0,p_r1,p_r2,p_r3⟩,p_ms,p_ls,p_is⟩:Prog).mems.length<1073741824)(A:List Blk)(nb:Nat)(us:List Nat):Zb false E (evC E fn (dp+1)) 210 A nb (some ([.agg [vi p_w,vi p_wn,vi p_fu,vi p_r0,vi p_r1,vi p_r2,vi p_r3,rD p_ms,rD p_ls,rD p_is]],us))=some (.made (.d (vi (Z5 (⟨p_w,p_wn,p_fu,⟨p_r0,p_r1,p_r2,p_r3⟩,p_ms,p_ls,p_is⟩:Prog).mems))) []):=
 Zk.flat (Zeu S dp (⟨p_w,p_wn,p_fu,⟨p_r0,p_r1,p_r2,p_r3⟩,p_ms,p_ls,p_is⟩:Prog) hm) (np S 210 (by decide)) (rfl) A nb us
theorem Zem (dp:Nat)(p:Prog)(x:Ins)(a b d:Int):Zk E fn (dp+5) 147 [Zn p,.agg (Cl.cells x),vi a,vi b,vi d] (vi (Zf7 p x a b d)):=by
 unfold Zk
 show Zh (evC E fn (dp+4+1) 147 [.d (Zn p),.d (.agg (Cl.cells x)),.d (vi a),.d (vi b),.d (vi d)] [])=_
 rw[Z2,S.Zai,Z3,Zb2,Z6 _ _ _ _ _ _ _ _ rfl]
 by_cases h:x.kind=4
 ·by_cases h2 : a = 0
  ·simp only[eG,go_sem,thq S,nbr S,zN0,zN1,zN2,zN3,zN4,zI0,zI1,zI2,zI3,reduceCtorEq,Znq S,h,eq_true h2,Zf7,Bool.not_true,Bool.not_false]
  ·simp only[eG,go_sem,thq S,nbr S,zN0,zN1,zN2,zN3,zN4,zI0,zI1,zI2,zI3,reduceCtorEq,Znq S,h,eq_false h2,Zf7,Bool.not_true,Bool.not_false]
 ·simp only[eG,go_sem,thq S,nbr S,zN0,zN1,zN2,zN3,zN4,zI0,zI1,zI2,zI3,reduceCtorEq,Znq S,h,Zf7,Zdt S]
theorem Zlj (dp:Nat)(p_w p_wn p_fu p_r0 p_r1 p_r2 p_r3:Int)(p_ms:List MemT)(p_ls:List Label)(p_is:List Ins)(x_k x_o x_d:Int)(x_ag:Bool)(x_an:Int)(x_bg:Bool)(x_bn:Int)(x_nm:ByteArray)(x_tg a b d:Int)(A:List Blk)(nb:Nat)(us:List Nat):Zb false E (evC E fn (dp+5)) 147 A nb (some ([.agg [vi p_w,vi p_wn,vi p_fu,vi p_r0,vi p_r1,vi p_r2,vi p_r3,rD p_ms,rD p_ls,rD p_is],.agg [vi x_k,vi x_o,vi x_d,vb x_ag,vi x_an,vb x_bg,vi x_bn,vt x_nm,vi x_tg],vi a,vi b,vi d],us))=some (.made (.d (vi (Zf7 (⟨p_w,p_wn,p_fu,⟨p_r0,p_r1,p_r2,p_r3⟩,p_ms,p_ls,p_is⟩:Prog) (⟨x_k,x_o,x_d,⟨x_ag,x_an⟩,⟨x_bg,x_bn⟩,x_nm,x_tg⟩:Ins) a b d))) []):=
 Zk.flat (Zem S dp (⟨p_w,p_wn,p_fu,⟨p_r0,p_r1,p_r2,p_r3⟩,p_ms,p_ls,p_is⟩:Prog) (⟨x_k,x_o,x_d,⟨x_ag,x_an⟩,⟨x_bg,x_bn⟩,x_nm,x_tg⟩:Ins) a b d ) (np S 147 (by decide)) (rfl) A nb us
theorem Zjf (dp:Nat)(p:Prog)(x:Ins)(pc a b:Int):Zk E fn (dp+5) 149 [Zn p,.agg (Cl.cells x),vi pc,vi a,vi b] (vi (Y0d p x pc a b)):=by
 unfold Zk
 show Zh (evC E fn (dp+4+1) 149 [.d (Zn p),.d (.agg (Cl.cells x)),.d (vi pc),.d (vi a),.d (vi b)] [])=_
 rw[Z2,S.Zfr,Z3,Zgk,Z6 _ _ _ _ _ _ _ _ rfl]
 by_cases h:x.kind=7
 ·simp only[eG,go_sem,thq S,nbr S,zN0,zN1,zN2,zN3,zN4,zI0,zI1,zI2,zI3,reduceCtorEq,Znp S,h,Y0d]
 ·by_cases h2 : Md.wdo p.w x.op a b = 0
  ·simp only[eG,go_sem,thq S,nbr S,zN0,zN1,zN2,zN3,zN4,zI0,zI1,zI2,zI3,reduceCtorEq,Znp S,h,Y0d,Zdt S,h2,Bool.not_true,Bool.not_false,Md.w64]
  ·simp only[eG,go_sem,thq S,nbr S,zN0,zN1,zN2,zN3,zN4,zI0,zI1,zI2,zI3,reduceCtorEq,Znp S,h,Y0d,Zdt S,h2,Bool.not_true,Bool.not_false,Md.w64]
theorem Zr7 (dp:Nat)(p_w p_wn p_fu p_r0 p_r1 p_r2 p_r3:Int)(p_ms:List MemT)(p_ls:List Label)(p_is:List Ins)(x_k x_o x_d:Int)(x_ag:Bool)(x_an:Int)(x_bg:Bool)(x_bn:Int)(x_nm:ByteArray)(x_tg pc a b:Int)(A:List Blk)(nb:Nat)(us:List Nat):Zb false E (evC E fn (dp+5)) 149 A nb (some ([.agg [vi p_w,vi p_wn,vi p_fu,vi p_r0,vi p_r1,vi p_r2,vi p_r3,rD p_ms,rD p_ls,rD p_is],.agg [vi x_k,vi x_o,vi x_d,vb x_ag,vi x_an,vb x_bg,vi x_bn,vt x_nm,vi x_tg],vi pc,vi a,vi b],us))=some (.made (.d (vi (Y0d (⟨p_w,p_wn,p_fu,⟨p_r0,p_r1,p_r2,p_r3⟩,p_ms,p_ls,p_is⟩:Prog) (⟨x_k,x_o,x_d,⟨x_ag,x_an⟩,⟨x_bg,x_bn⟩,x_nm,x_tg⟩:Ins) pc a b))) []):=
 Zk.flat (Zjf S dp (⟨p_w,p_wn,p_fu,⟨p_r0,p_r1,p_r2,p_r3⟩,p_ms,p_ls,p_is⟩:Prog) (⟨x_k,x_o,x_d,⟨x_ag,x_an⟩,⟨x_bg,x_bn⟩,x_nm,x_tg⟩:Ins) pc a b ) (np S 149 (by decide)) (rfl) A nb us
theorem Zbe (dp:Nat)(p:Prog)(a b:Int)(hm:p.mems.length<1073741824):Zk E fn (dp+4) 154 [Zn p,vi a,vi b] (.tup [vi (Md.mask p.w (a+b)),vb (decide (Md.mask p.w (a+b)<Z5 p.mems))]):=by
 unfold Zk
 show Zh (evC E fn (dp+3+1) 154 [.d (Zn p),.d (vi a),.d (vi b)] [])=_
 rw[Z2,S.Z7d,Z3,Z7m,Z6 _ _ _ _ _ _ _ _ rfl]
 simp only[eG,go_sem,thq S,nbr S,zN0,zN1,zN2,zN3,zN4,zI0,zI1,zI2,zI3,reduceCtorEq,Z84 S,Md.mask_wrap,Zlm S,hm]
theorem Z1f (dp:Nat)(p_w p_wn p_fu p_r0 p_r1 p_r2 p_r3:Int)(p_ms:List MemT)(p_ls:List Label)(p_is:List Ins)(a b:Int)(hm:(⟨p_w,p_wn,p_fu,⟨p_r0,p_r1,p_r2,p_r3⟩,p_ms,p_ls,p_is⟩:Prog).mems.length<1073741824)(A:List Blk)(nb:Nat)(us:List Nat):Zb false E (evC E fn (dp+4)) 154 A nb (some ([.agg [vi p_w,vi p_wn,vi p_fu,vi p_r0,vi p_r1,vi p_r2,vi p_r3,rD p_ms,rD p_ls,rD p_is],vi a,vi b],us))=some (.made (.d (.tup [vi (Md.mask (⟨p_w,p_wn,p_fu,⟨p_r0,p_r1,p_r2,p_r3⟩,p_ms,p_ls,p_is⟩:Prog).w (a+b)),vb (decide (Md.mask (⟨p_w,p_wn,p_fu,⟨p_r0,p_r1,p_r2,p_r3⟩,p_ms,p_ls,p_is⟩:Prog).w (a+b)<Z5 (⟨p_w,p_wn,p_fu,⟨p_r0,p_r1,p_r2,p_r3⟩,p_ms,p_ls,p_is⟩:Prog).mems))])) []):=
 Zk.flat (Zbe S dp (⟨p_w,p_wn,p_fu,⟨p_r0,p_r1,p_r2,p_r3⟩,p_ms,p_ls,p_is⟩:Prog) a b hm) (np S 154 (by decide)) (rfl) A nb us
theorem Z61 (dp:Nat)(l:List Int)(hl:l.length<1073741824):Zk E fn (dp+1) 206 [rD l] (.tup [vi (Md.lastI l),rD l.dropLast,vb (decide (l.length≠0))]):=by
 unfold Zk
 show Zh (evC E fn (dp+1) 206 [.d (rD l)] [])=_
 rw[Z2,S.Zfx,Z3,Zgq,Z6 _ _ _ _ _ _ _ _ rfl]
 by_cases h:l.length=0
 ·have : l = [] := List.length_eq_zero_iff.1 h
  subst this
  simp only[eG,go_sem,thq S,nbr S,zN0,zN1,zN2,zN3,zN4,zI0,zI1,zI2,zI3,reduceCtorEq,Zsv S,List.length_nil,Int.natCast_eq_zero,Md.lastI]
  rfl
 ·have hlast:l[l.length-1]? =some (Md.lastI l):=by
   unfold Md.lastI
   rw[List.getLast?_eq_getElem?]
   obtain⟨e,he⟩:=Yz (show l.length-1<l.length by omega)
   rw[he];rfl
  have w2:IntKind.i64.wrap ((l.length:Int)-1)=((l.length-1:Nat):Int):=by rw[Zt (by omega) (by omega)];omega
  have bd:=Z2w l.length .i64 ((l.length-1:Nat):Int) (by omega) (by omega)
  have hdl:l.take (l.length-1)=l.dropLast:=List.dropLast_eq_take.symm
  have hdn:l.dropLast.length<1073741824:=by simp;omega
  simp only[eG,go_sem,thq S,nbr S,zN0,zN1,zN2,zN3,zN4,zI0,zI1,zI2,zI3,reduceCtorEq,Zsv S,eq_false h,Int.natCast_eq_zero,w2,bd,Q4 hlast,Int.toNat_natCast,List.drop_zero,Nat.sub_zero,hdl,Z9c S hdn,ne_eq,not_false_eq_true]
theorem Z3i (dp:Nat)(l:List Int)(hl:l.length<1073741824)(A:List Blk)(nb:Nat):Zb false E (evC E fn (dp+1)) 206 A nb (some ([rD l],[]))=some (.made (.d (.tup [vi (Md.lastI l),rD l.dropLast,vb (decide (l.length≠0))])) []):=
 Zk.deep (Z61 S dp l hl) (np S 206 (by decide)) A nb
theorem Zqd (dp:Nat)(l:List Int)(hl:l.length<1073741824)(hf:DV.flat 8 (.tup [vi (Md.lastI l),rD l.dropLast,vb (decide (l.length≠0))])=false)(A:List Blk)(nb ui:Nat)(us:List Nat):Zb false E (evC E fn (dp+1)) 206 A nb (some ([rD l],ui::us))=some (.turned (.d (.tup [vi (Md.lastI l),rD l.dropLast,vb (decide (l.length≠0))])) (Qn A (ui::us))):=
 Zk.used (Z61 S dp l hl) (np S 206 (by decide)) hf A nb ui us
end
end Go.Aug.Mc
