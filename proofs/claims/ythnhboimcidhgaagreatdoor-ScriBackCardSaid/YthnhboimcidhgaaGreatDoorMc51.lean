import Derived.Test.YthnhboimcidhgaaGreatDoorMc33
import Derived.Test.YthnhboimcidhgaaGreatDoorMc30
import Derived.Test.YthnhboimcidhgaaGreatDoorMc14
import Derived.Test.YthnhboimcidhgaaGreatDoorBr
namespace Go.Aug.Mc
open Go Go.Aug
open Nat renaming reduceLT -> zN0, reduceEqDiff -> zN1, reduceAdd -> zN2, reduceMul -> zN3, reduceLeDiff -> zN4
open Int renaming reduceEq -> zI0, reduceLT -> zI1, reduceLE -> zI2, reduceNeg -> zI3
set_option linter.unusedSimpArgs false
set_option linter.unusedVariables false
set_option maxHeartbeats 40000000
set_option maxRecDepth 200000
theorem GS (rs:List IRes)(c:CT)(E:Env)(call:cT)(f:FuncId)(x y z:AV)(A:List Blk):ZB 80 rs c E call f [x,y,z] A=c { E with live:=E.lives f,nb0:=A.length } call (ZY A.length rs) (fun _ _ _=>none) (ZY A.length rs) (mk CK 80 (MU 0 [x,y,z])) A:=ZC _ _ _ _ _ _ _ _ rfl
variable {E:Env} {fn:FuncId->Option (Env->cT->cT)}
section
variable (S:Sur E fn)
include S
theorem DS:E.lives 90 7=none/\E.lives 90 21=none:=⟨off S 90 7 (by decide) rfl,off S 90 21 (by decide) rfl⟩
theorem E6 (dp:Nat)(r0 r1 r2 r3:Int)(mm sk:List Int)(pc:Int)(bf:List Ent)(rb:List Int)(en:Int)(hm:mm.length<1073741824)(hs:sk.length<1073741824)(hb:bf.length<1073741824)(hr:rb.length<1073741824)(A:List Blk)(nb:Nat):
  Zv true E (Z4 E fn (dp+2)) 45 A nb (some ([.agg [vi r0,vi r1,vi r2,vi r3,rD mm,rD sk,vi pc,rD bf,rD rb,vi en]],[]))=some (.made (.agg [aI r0,aI r1,aI r2,aI r3,YN nb mm,YN (nb+(Yz mm).length) sk,aI pc,.d (rD bf),.d (rD rb),aI en]) (Yz mm++Yz sk)):=by
 have h:=Z6a S dp r0 r1 r2 r3 mm sk pc bf rb en hm hs hb hr
 have hr:Jk E (Z4 E fn (dp+2)) 45 [.agg [vi r0,vi r1,vi r2,vi r3,rD mm,rD sk,vi pc,rD bf,rD rb,vi en]]=some (.agg [aI r0,aI r1,aI r2,aI r3,YN 0 mm,YN (Yz mm).length sk,aI pc,.d (rD bf),.d (rD rb),aI en],Yz mm++Yz sk):=by
  unfold Jk
  rw[np S 45 (by decide)]
  exact h
 simp only[Zv,hr,F5,cond_true]
 by_cases h1:mm.length=0<;>by_cases h2:sk.length=0
 ·have e1 : mm = [] := List.length_eq_zero_iff.1 h1
  have e2:sk=[]:=List.length_eq_zero_iff.1 h2
  subst e1 e2
  rfl
 ·have e1 : mm = [] := List.length_eq_zero_iff.1 h1
  subst e1
  simp[Yv,Yw,ZN h2,ZM h2,B4,DU,E3,Bq,Y8,Cl.n]
 ·have e2 : sk = [] := List.length_eq_zero_iff.1 h2
  subst e2
  simp[Yv,Yw,ZN h1,ZM h1,B4,DU,E3,Bq,Y8,Cl.n]
 ·simp[ZN h1,ZM h1,ZN h2,ZM h2,B4,DU,E3,Bq,Y8,Cl.n]
theorem Zji (dp:Nat)(p:Prog)(c:Conf)(hl:c.buf.length<1073741823)(hm:c.state.mem.length<1073741824)(hs:c.state.stack.length<1073741823)(hr:c.rsb.length<1073741824)(hd:0<=(Md.at_ p (Md.ZP c.buf 0).pc).d/\(Md.at_ p (Md.ZP c.buf 0).pc).d<=3):Z6 E fn (dp+5) 90 [Zw p,ZS c] (.tup [ZS (QT p c),vb (Md.QC p c)]):=by
 unfold Z6
 show Z7 (Z4 E fn (dp+4+1) 90 [.d (Zw p),.d (ZS c)] [])=_
 rw[ZD,S.Z9h,ZG,Zeu,ZC _ _ _ _ _ _ _ _ rfl]
 cases hcan:Md.QC p c with
 | false=>simp only[eG,go_sem,Z3 S,Z2 S,zN0,zN1,zN2,zN3,zN4,zI0,zI1,zI2,zI3,reduceCtorEq,DS S,DB S,hcan,Bool.not_false,QT,Md.B1]
 | true=>
  obtain⟨e,he,he0,hend⟩:=Vj hcan
  have hl1:c.buf.length<1073741824:=by omega
  have hs1:c.state.stack.length<1073741824:=by omega
  have hlen:0<c.buf.length:=(List.getElem?_eq_some_iff.1 he).1
  rw[he0] at hd
  generalize hxx:Md.at_ p e.pc=x at *
  have run:=fun a b d A=>(show Z4 E fn (dp+4) 160 [a,b,d] A=FY E (Z4 E fn (dp+3)) 160 [a,b,d] A by rw[ZD,S.Z9g,ZG])
  have e1:c.state.mem.length=0->c.state.mem=[]:=List.length_eq_zero_iff.1
  have e2:c.state.stack.length=0->c.state.stack=[]:=List.length_eq_zero_iff.1
  have d4:x.d=0∨x.d=1∨x.d=2∨x.d=3:=by omega
  have d0:=hd.1
  have d1:x.d<4:=by omega
  have hst:∀(A:List Blk) (m s q b r n:AV),storeAt A 0 0 (x.d.toNat*1) [.d (vi e.val)] 1 (some (.cells [.d (vi c.state.regs.r0),.d (vi c.state.regs.r1),.d (vi c.state.regs.r2),.d (vi c.state.regs.r3),m,s,q,b,r,n] 0 false))=some (A.set 0 (.cells [.d (vi (Md.CD c.state.regs x.d e.val).r0),.d (vi (Md.CD c.state.regs x.d e.val).r1),.d (vi (Md.CD c.state.regs x.d e.val).r2),.d (vi (Md.CD c.state.regs x.d e.val).r3),m,s,q,b,r,n] 0 false)):=fun A m s q b r n=>by
   rcases d4 with d | d | d | d<;>rw[d]<;>rfl
  have n1:c.state.mem.length*8<=Z5:=by unfold Z5;omega
  have n2:c.state.mem.length<=Z5:=by unfold Z5;omega
  have n5:(c.state.stack.length+1)*8<=Z5:=by unfold Z5;omega
  have n6:c.state.stack.length+1<=Z5:=by unfold Z5;omega
  have hdl:∀ b,deep [b,.cells ((rC (c.state.stack++[IntKind.i64.wrap (e.pc+1)])).map .d) 0 false] 6 (.sref 1 0 0 (c.state.stack.length+1) 1 none)=some (.lst (rC (c.state.stack++[IntKind.i64.wrap (e.pc+1)])) (c.state.stack++[IntKind.i64.wrap (e.pc+1)]).length none,[1]):=fun b=>by
   rw[show c.state.stack.length+1=(c.state.stack++[IntKind.i64.wrap (e.pc+1)]).length by simp]
   exact Bv rfl (by simp) 4 _ 1 none rfl rfl
  have cp0:∀(A:List Blk) (nb:Nat),Zv false E (Z4 E fn (dp+3)) 206 A nb (some ([.lst [] 0 none],[]))=some (.made (.d (.tup [vi 0,.lst [] 0 none,vb false])) []):=fun A nb=>S9 S (dp+2) [] (by decide) A nb
  have cpF:c.state.stack.dropLast.length=0->∀(A:List Blk) (nb:Nat) (us:List Nat),Zv false E (Z4 E fn (dp+3)) 206 A nb (some ([rD c.state.stack],us))=some (.made (.d (.tup [vi (Md.C9 c.state.stack),rD c.state.stack.dropLast,vb (decide (c.state.stack.length≠0))])) []):=fun h A nb us=>
   Z6.flat (Z0g S (dp+2) c.state.stack hs1) (np S 206 (by decide)) (by rw[List.length_eq_zero_iff.1 h];rfl) A nb us
  have cpU:¬c.state.stack.dropLast.length=0->∀(A:List Blk) (nb ui:Nat) (us:List Nat),Zv false E (Z4 E fn (dp+3)) 206 A nb (some ([rD c.state.stack],ui::us))=some (.turned (.d (.tup [vi (Md.C9 c.state.stack),rD c.state.stack.dropLast,vb (decide (c.state.stack.length≠0))])) (YJ A (ui::us))):=fun h A nb ui us=>
   Zhc S (dp+2) c.state.stack hs1 (by
    cases hq:c.state.stack.dropLast with
    | nil=>rw[hq] at h;exact absurd rfl h
    | cons a l=>rfl) A nb ui us
  have hap1:(c.state.stack.length+1)*1<=(List.map AV.d (rC (c.state.stack++[IntKind.i64.wrap (e.pc+1)]))).length:=JT _ _ (by simp)
  have hap2:(c.state.stack++[IntKind.i64.wrap (e.pc+1)]).take (c.state.stack.length+1)=c.state.stack++[IntKind.i64.wrap (e.pc+1)]:=List.take_of_length_le (by simp)
  have hap3:DV.lst (rC (c.state.stack++[IntKind.i64.wrap (e.pc+1)])) (c.state.stack.length+1) none=rD (c.state.stack++[IntKind.i64.wrap (e.pc+1)]):=by unfold rD;rw[List.length_append];rfl
  have hmem:(c.state.mem.length=0/\(∀ i,YN i c.state.mem=.d (.lst [] 0 (some 0)))/\Yz c.state.mem=[])∨(¬c.state.mem.length=0/\(∀ i,YN i c.state.mem=.sref i 0 0 c.state.mem.length 1 none)/\Yz c.state.mem=[.cells ((rC c.state.mem).map .d) 0 false]):=by
   by_cases h:c.state.mem.length=0
   ·exact .inl ⟨h,GW h,GV h⟩
   ·exact .inr ⟨h,fun i=>ZN h i,ZM h⟩
  have hsk:(c.state.stack.length=0/\(∀ i,YN i c.state.stack=.d (.lst [] 0 (some 0)))/\Yz c.state.stack=[])∨(¬c.state.stack.length=0/\(∀ i,YN i c.state.stack=.sref i 0 0 c.state.stack.length 1 none)/\Yz c.state.stack=[.cells ((rC c.state.stack).map .d) 0 false]):=by
   by_cases h:c.state.stack.length=0
   ·exact .inl ⟨h,GW h,GV h⟩
   ·exact .inr ⟨h,fun i=>ZN h i,ZM h⟩
  rcases hmem with⟨m0,mA,mB⟩ | ⟨m0,mA,mB⟩<;>rcases hsk with⟨s0,sA,sB⟩ | ⟨s0,sA,sB⟩
  all_goals
   generalize hB:(cQ (Z1 [st 44 (oA (.t 3) 0),st 45 (oL (.t 6) true 8),st 46 (oL (.t 9) true 9),st 47 (oK (.f 160) [(.t 44),(.t 45),(.t 46)])]) _:CT)=BB
   simp only[eG,go_sem,Z3 S,Z2 S,zN0,zN1,zN2,zN3,zN4,zI0,zI1,zI2,zI3,reduceCtorEq,DS S,DB S,hcan,Bool.not_true,Bool.not_false,E6 S,hm,hs,hs1,hr,hl,hl1,hlen,Ev S,he0,Yj S,hxx,EA S,QT,Md.QS,Md.QY,QA,Qw,Qv,Qz,eq_true hend,mA,mB,sA,sB,m0,s0]
   rw[<-hB]
   clear hB BB
   cases hf:e.fault with
   | true=>simp only[eG,go_sem,Z3 S,Z2 S,zN0,zN1,zN2,zN3,zN4,zI0,zI1,zI2,zI3,reduceCtorEq,DS S,DB S,hcan,Bool.not_true,Bool.not_false,E6 S,hm,hs,hs1,hr,hl,hl1,hlen,Ev S,he0,Yj S,hxx,EA S,QT,Md.QS,Md.QY,QA,Qw,Qv,Qz,eq_true hend,Y9,JT,Ak,Nat.le_refl,Option.bind_some,Option.map_none,A8,A4,A9,List.take_length,QZ,List.length_set,Dq,BU,JZ,n1,n2,n5,n6,ne_eq,not_false_eq_true,not_true_eq_false,Nat.zero_mul,Nat.one_mul,m0,s0,hf];((try rw[hend]);(first | done | rfl | (rw[e1 m0];rfl) | (rw[e2 s0];rfl) | (rw[e1 m0,e2 s0];rfl)))
   | false=>
    by_cases k12:x.kind=12
    ·simp only[eG,go_sem,Z3 S,Z2 S,zN0,zN1,zN2,zN3,zN4,zI0,zI1,zI2,zI3,reduceCtorEq,DS S,DB S,hcan,Bool.not_true,Bool.not_false,E6 S,hm,hs,hs1,hr,hl,hl1,hlen,Ev S,he0,Yj S,hxx,EA S,QT,Md.QS,Md.QY,QA,Qw,Qv,Qz,eq_true hend,Y9,JT,Ak,Nat.le_refl,Option.bind_some,Option.map_none,A8,A4,A9,List.take_length,QZ,List.length_set,Dq,BU,JZ,n1,n2,n5,n6,ne_eq,not_false_eq_true,not_true_eq_false,Nat.zero_mul,Nat.one_mul,m0,s0,hf,k12];((try rw[hend]);(first | done | rfl | (rw[e1 m0];rfl) | (rw[e2 s0];rfl) | (rw[e1 m0,e2 s0];rfl)))
    by_cases k11:x.kind=11
    ·simp only[eG,go_sem,Z3 S,Z2 S,zN0,zN1,zN2,zN3,zN4,zI0,zI1,zI2,zI3,reduceCtorEq,DS S,DB S,hcan,Bool.not_true,Bool.not_false,E6 S,hm,hs,hs1,hr,hl,hl1,hlen,Ev S,he0,Yj S,hxx,EA S,QT,Md.QS,Md.QY,QA,Qw,Qv,Qz,eq_true hend,Y9,JT,Ak,Nat.le_refl,Option.bind_some,Option.map_none,A8,A4,A9,List.take_length,QZ,List.length_set,Dq,BU,JZ,n1,n2,n5,n6,ne_eq,not_false_eq_true,not_true_eq_false,Nat.zero_mul,Nat.one_mul,m0,s0,hf,k11];((try rw[hend]);(first | done | rfl | (rw[e1 m0];rfl) | (rw[e2 s0];rfl) | (rw[e1 m0,e2 s0];rfl)))
    by_cases k1:x.kind=1
    ·simp only[eG,go_sem,Z3 S,Z2 S,zN0,zN1,zN2,zN3,zN4,zI0,zI1,zI2,zI3,reduceCtorEq,DS S,DB S,hcan,Bool.not_true,Bool.not_false,E6 S,hm,hs,hs1,hr,hl,hl1,hlen,Ev S,he0,Yj S,hxx,EA S,QT,Md.QS,Md.QY,QA,Qw,Qv,Qz,eq_true hend,show Nat.ble 1 1=true from rfl,show Nat.ble 2 2=true from rfl,show Nat.ble 3 3=true from rfl,show Nat.ble 1 2=true from rfl,show Nat.ble 2 3=true from rfl,List.getElem?_nil,List.getD_nil,Nat.reduceSub,Nat.sub_self,run,FY,GS,off S 160 9 (by decide) rfl,off S 160 11 (by decide) rfl,off S 160 13 (by decide) rfl,off S 160 15 (by decide) rfl,off S 160 19 (by decide) rfl,off S 160 21 (by decide) rfl,off S 160 25 (by decide) rfl,off S 160 29 (by decide) rfl,AR,AX,AZ,AY,ED,Av,AA,AB,AP,AQ,AF,AG,AC,AD,AH,AJ,AE,AK,AM,AN,Ej,JN,Jv,JA,JE,JF,List.take_succ_cons,List.take_zero,List.drop_succ_cons,List.drop_zero,List.getD_cons_zero,List.getD_cons_succ,ZH,ZJ,ZE,ZF,Zq,Option.map_some,Nat.zero_add,Nat.add_zero,hst,d0,d1,Z2 S,Y9,JT,Ak,Nat.le_refl,Option.bind_some,Option.map_none,A8,A4,A9,List.take_length,QZ,List.length_set,Dq,BU,JZ,n1,n2,n5,n6,ne_eq,not_false_eq_true,not_true_eq_false,Nat.zero_mul,Nat.one_mul,Int.cast_ofNat_Int,true_and,Md.Az,Md.ZW,m0,s0,hf,k1];((try rw[hend]);(first | done | rfl | (rw[e1 m0];rfl) | (rw[e2 s0];rfl) | (rw[e1 m0,e2 s0];rfl)))
    by_cases k2:x.kind=2
    ·simp only[eG,go_sem,Z3 S,Z2 S,zN0,zN1,zN2,zN3,zN4,zI0,zI1,zI2,zI3,reduceCtorEq,DS S,DB S,hcan,Bool.not_true,Bool.not_false,E6 S,hm,hs,hs1,hr,hl,hl1,hlen,Ev S,he0,Yj S,hxx,EA S,QT,Md.QS,Md.QY,QA,Qw,Qv,Qz,eq_true hend,show Nat.ble 1 1=true from rfl,show Nat.ble 2 2=true from rfl,show Nat.ble 3 3=true from rfl,show Nat.ble 1 2=true from rfl,show Nat.ble 2 3=true from rfl,List.getElem?_nil,List.getD_nil,Nat.reduceSub,Nat.sub_self,run,FY,GS,off S 160 9 (by decide) rfl,off S 160 11 (by decide) rfl,off S 160 13 (by decide) rfl,off S 160 15 (by decide) rfl,off S 160 19 (by decide) rfl,off S 160 21 (by decide) rfl,off S 160 25 (by decide) rfl,off S 160 29 (by decide) rfl,AR,AX,AZ,AY,ED,Av,AA,AB,AP,AQ,AF,AG,AC,AD,AH,AJ,AE,AK,AM,AN,Ej,JN,Jv,JA,JE,JF,List.take_succ_cons,List.take_zero,List.drop_succ_cons,List.drop_zero,List.getD_cons_zero,List.getD_cons_succ,ZH,ZJ,ZE,ZF,Zq,Option.map_some,Nat.zero_add,Nat.add_zero,hst,d0,d1,Z2 S,Y9,JT,Ak,Nat.le_refl,Option.bind_some,Option.map_none,A8,A4,A9,List.take_length,QZ,List.length_set,Dq,BU,JZ,n1,n2,n5,n6,ne_eq,not_false_eq_true,not_true_eq_false,Nat.zero_mul,Nat.one_mul,Int.cast_ofNat_Int,true_and,Md.Az,Md.ZW,m0,s0,hf,k2];((try rw[hend]);(first | done | rfl | (rw[e1 m0];rfl) | (rw[e2 s0];rfl) | (rw[e1 m0,e2 s0];rfl)))
    by_cases k4:x.kind=4
    ·simp only[eG,go_sem,Z3 S,Z2 S,zN0,zN1,zN2,zN3,zN4,zI0,zI1,zI2,zI3,reduceCtorEq,DS S,DB S,hcan,Bool.not_true,Bool.not_false,E6 S,hm,hs,hs1,hr,hl,hl1,hlen,Ev S,he0,Yj S,hxx,EA S,QT,Md.QS,Md.QY,QA,Qw,Qv,Qz,eq_true hend,show Nat.ble 1 1=true from rfl,show Nat.ble 2 2=true from rfl,show Nat.ble 3 3=true from rfl,show Nat.ble 1 2=true from rfl,show Nat.ble 2 3=true from rfl,List.getElem?_nil,List.getD_nil,Nat.reduceSub,Nat.sub_self,run,FY,GS,off S 160 9 (by decide) rfl,off S 160 11 (by decide) rfl,off S 160 13 (by decide) rfl,off S 160 15 (by decide) rfl,off S 160 19 (by decide) rfl,off S 160 21 (by decide) rfl,off S 160 25 (by decide) rfl,off S 160 29 (by decide) rfl,AR,AX,AZ,AY,ED,Av,AA,AB,AP,AQ,AF,AG,AC,AD,AH,AJ,AE,AK,AM,AN,Ej,JN,Jv,JA,JE,JF,List.take_succ_cons,List.take_zero,List.drop_succ_cons,List.drop_zero,List.getD_cons_zero,List.getD_cons_succ,ZH,ZJ,ZE,ZF,Zq,Option.map_some,Nat.zero_add,Nat.add_zero,hst,d0,d1,Z2 S,Y9,JT,Ak,Nat.le_refl,Option.bind_some,Option.map_none,A8,A4,A9,List.take_length,QZ,List.length_set,Dq,BU,JZ,n1,n2,n5,n6,ne_eq,not_false_eq_true,not_true_eq_false,Nat.zero_mul,Nat.one_mul,Int.cast_ofNat_Int,true_and,Md.Az,Md.ZW,m0,s0,hf,k4];((try rw[hend]);(first | done | rfl | (rw[e1 m0];rfl) | (rw[e2 s0];rfl) | (rw[e1 m0,e2 s0];rfl)))
    by_cases k3:x.kind=3
    ·by_cases a : 0 <= e.addr /\ e.addr < c.state.mem.length
     ·obtain ⟨a0, a1⟩ := a
      have a2:e.addr.toNat<c.state.mem.length:=by omega
      first
       | (exfalso;omega)
       | (simp only[eG,go_sem,Z3 S,Z2 S,zN0,zN1,zN2,zN3,zN4,zI0,zI1,zI2,zI3,reduceCtorEq,DS S,DB S,hcan,Bool.not_true,Bool.not_false,E6 S,hm,hs,hs1,hr,hl,hl1,hlen,Ev S,he0,Yj S,hxx,EA S,QT,Md.QS,Md.QY,QA,Qw,Qv,Qz,eq_true hend,show Nat.ble 1 1=true from rfl,show Nat.ble 2 2=true from rfl,show Nat.ble 3 3=true from rfl,show Nat.ble 1 2=true from rfl,show Nat.ble 2 3=true from rfl,List.getElem?_nil,List.getD_nil,Nat.reduceSub,Nat.sub_self,run,FY,GS,off S 160 9 (by decide) rfl,off S 160 11 (by decide) rfl,off S 160 13 (by decide) rfl,off S 160 15 (by decide) rfl,off S 160 19 (by decide) rfl,off S 160 21 (by decide) rfl,off S 160 25 (by decide) rfl,off S 160 29 (by decide) rfl,AR,AX,AZ,AY,ED,Av,AA,AB,AP,AQ,AF,AG,AC,AD,AH,AJ,AE,AK,AM,AN,Ej,JN,Jv,JA,JE,JF,List.take_succ_cons,List.take_zero,List.drop_succ_cons,List.drop_zero,List.getD_cons_zero,List.getD_cons_succ,ZH,ZJ,ZE,ZF,Zq,Option.map_some,Nat.zero_add,Nat.add_zero,hst,d0,d1,Z2 S,Y9,JT,Ak,Nat.le_refl,Option.bind_some,Option.map_none,A8,A4,A9,List.take_length,QZ,List.length_set,Dq,BU,JZ,n1,n2,n5,n6,ne_eq,not_false_eq_true,not_true_eq_false,Nat.zero_mul,Nat.one_mul,Int.cast_ofNat_Int,true_and,Md.Az,Md.ZW,m0,s0,hf,k3,a0,a1,Z3r a2,and_self];((try rw[hend]);(first | done | rfl | (rw[e1 m0];rfl) | (rw[e2 s0];rfl) | (rw[e1 m0,e2 s0];rfl))))
     ·by_cases a0 : 0 <= e.addr
      ·have a1 : ¬ e.addr < c.state.mem.length := fun h => a ⟨a0, h⟩
       have a1':c.state.mem.length=0->¬e.addr<((0:Nat):Int):=fun h=>by omega
       have a1'':c.state.mem.length=0->¬e.addr<0:=fun h=>by omega
       simp only[eG,go_sem,Z3 S,Z2 S,zN0,zN1,zN2,zN3,zN4,zI0,zI1,zI2,zI3,reduceCtorEq,DS S,DB S,hcan,Bool.not_true,Bool.not_false,E6 S,hm,hs,hs1,hr,hl,hl1,hlen,Ev S,he0,Yj S,hxx,EA S,QT,Md.QS,Md.QY,QA,Qw,Qv,Qz,eq_true hend,show Nat.ble 1 1=true from rfl,show Nat.ble 2 2=true from rfl,show Nat.ble 3 3=true from rfl,show Nat.ble 1 2=true from rfl,show Nat.ble 2 3=true from rfl,List.getElem?_nil,List.getD_nil,Nat.reduceSub,Nat.sub_self,run,FY,GS,off S 160 9 (by decide) rfl,off S 160 11 (by decide) rfl,off S 160 13 (by decide) rfl,off S 160 15 (by decide) rfl,off S 160 19 (by decide) rfl,off S 160 21 (by decide) rfl,off S 160 25 (by decide) rfl,off S 160 29 (by decide) rfl,AR,AX,AZ,AY,ED,Av,AA,AB,AP,AQ,AF,AG,AC,AD,AH,AJ,AE,AK,AM,AN,Ej,JN,Jv,JA,JE,JF,List.take_succ_cons,List.take_zero,List.drop_succ_cons,List.drop_zero,List.getD_cons_zero,List.getD_cons_succ,ZH,ZJ,ZE,ZF,Zq,Option.map_some,Nat.zero_add,Nat.add_zero,hst,d0,d1,Z2 S,Y9,JT,Ak,Nat.le_refl,Option.bind_some,Option.map_none,A8,A4,A9,List.take_length,QZ,List.length_set,Dq,BU,JZ,n1,n2,n5,n6,ne_eq,not_false_eq_true,not_true_eq_false,Nat.zero_mul,Nat.one_mul,Int.cast_ofNat_Int,true_and,Md.Az,Md.ZW,m0,s0,hf,k3,a0,a1,a1' ,a1'',and_false];((try rw[hend]);(first | done | rfl | (rw[e1 m0];rfl) | (rw[e2 s0];rfl) | (rw[e1 m0,e2 s0];rfl)))
      ·simp only[eG,go_sem,Z3 S,Z2 S,zN0,zN1,zN2,zN3,zN4,zI0,zI1,zI2,zI3,reduceCtorEq,DS S,DB S,hcan,Bool.not_true,Bool.not_false,E6 S,hm,hs,hs1,hr,hl,hl1,hlen,Ev S,he0,Yj S,hxx,EA S,QT,Md.QS,Md.QY,QA,Qw,Qv,Qz,eq_true hend,show Nat.ble 1 1=true from rfl,show Nat.ble 2 2=true from rfl,show Nat.ble 3 3=true from rfl,show Nat.ble 1 2=true from rfl,show Nat.ble 2 3=true from rfl,List.getElem?_nil,List.getD_nil,Nat.reduceSub,Nat.sub_self,run,FY,GS,off S 160 9 (by decide) rfl,off S 160 11 (by decide) rfl,off S 160 13 (by decide) rfl,off S 160 15 (by decide) rfl,off S 160 19 (by decide) rfl,off S 160 21 (by decide) rfl,off S 160 25 (by decide) rfl,off S 160 29 (by decide) rfl,AR,AX,AZ,AY,ED,Av,AA,AB,AP,AQ,AF,AG,AC,AD,AH,AJ,AE,AK,AM,AN,Ej,JN,Jv,JA,JE,JF,List.take_succ_cons,List.take_zero,List.drop_succ_cons,List.drop_zero,List.getD_cons_zero,List.getD_cons_succ,ZH,ZJ,ZE,ZF,Zq,Option.map_some,Nat.zero_add,Nat.add_zero,hst,d0,d1,Z2 S,Y9,JT,Ak,Nat.le_refl,Option.bind_some,Option.map_none,A8,A4,A9,List.take_length,QZ,List.length_set,Dq,BU,JZ,n1,n2,n5,n6,ne_eq,not_false_eq_true,not_true_eq_false,Nat.zero_mul,Nat.one_mul,Int.cast_ofNat_Int,true_and,Md.Az,Md.ZW,m0,s0,hf,k3,a0,false_and];((try rw[hend]);(first | done | rfl | (rw[e1 m0];rfl) | (rw[e2 s0];rfl) | (rw[e1 m0,e2 s0];rfl)))
    by_cases k8:x.kind=8
    ·simp only[eG,go_sem,Z3 S,Z2 S,zN0,zN1,zN2,zN3,zN4,zI0,zI1,zI2,zI3,reduceCtorEq,DS S,DB S,hcan,Bool.not_true,Bool.not_false,E6 S,hm,hs,hs1,hr,hl,hl1,hlen,Ev S,he0,Yj S,hxx,EA S,QT,Md.QS,Md.QY,QA,Qw,Qv,Qz,eq_true hend,show Nat.ble 1 1=true from rfl,show Nat.ble 2 2=true from rfl,show Nat.ble 3 3=true from rfl,show Nat.ble 1 2=true from rfl,show Nat.ble 2 3=true from rfl,List.getElem?_nil,List.getD_nil,Nat.reduceSub,Nat.sub_self,run,FY,GS,off S 160 9 (by decide) rfl,off S 160 11 (by decide) rfl,off S 160 13 (by decide) rfl,off S 160 15 (by decide) rfl,off S 160 19 (by decide) rfl,off S 160 21 (by decide) rfl,off S 160 25 (by decide) rfl,off S 160 29 (by decide) rfl,AR,AX,AZ,AY,ED,Av,AA,AB,AP,AQ,AF,AG,AC,AD,AH,AJ,AE,AK,AM,AN,Ej,JN,Jv,JA,JE,JF,List.take_succ_cons,List.take_zero,List.drop_succ_cons,List.drop_zero,List.getD_cons_zero,List.getD_cons_succ,ZH,ZJ,ZE,ZF,Zq,Option.map_some,Nat.zero_add,Nat.add_zero,hst,d0,d1,Z2 S,Y9,JT,Ak,Nat.le_refl,Option.bind_some,Option.map_none,A8,A4,A9,List.take_length,QZ,List.length_set,Dq,BU,JZ,n1,n2,n5,n6,ne_eq,not_false_eq_true,not_true_eq_false,Nat.zero_mul,Nat.one_mul,Int.cast_ofNat_Int,true_and,Md.Az,Md.ZW,m0,s0,hf,k8,show(1:Nat)*8<=Z5 by decide,show(8:Nat)<=Z5 by decide,show(1:Nat)<=Z5 by decide,show(1:Nat)*1<=1 by decide,Nat.lt_add_one,Nat.one_ne_zero,show(0:Nat)<1 by decide,hdl,hap1,hap2,hap3];((try rw[hend]);(first | done | rfl | (rw[e1 m0];rfl) | (rw[e2 s0];rfl) | (rw[e1 m0,e2 s0];rfl)))
    by_cases k9:x.kind=9
    ·by_cases sz : c.state.stack.length = 0
     ·first
       | (exfalso;exact s0 sz)
       | (simp only[eG,go_sem,Z3 S,Z2 S,zN0,zN1,zN2,zN3,zN4,zI0,zI1,zI2,zI3,reduceCtorEq,DS S,DB S,hcan,Bool.not_true,Bool.not_false,E6 S,hm,hs,hs1,hr,hl,hl1,hlen,Ev S,he0,Yj S,hxx,EA S,QT,Md.QS,Md.QY,QA,Qw,Qv,Qz,eq_true hend,show Nat.ble 1 1=true from rfl,show Nat.ble 2 2=true from rfl,show Nat.ble 3 3=true from rfl,show Nat.ble 1 2=true from rfl,show Nat.ble 2 3=true from rfl,List.getElem?_nil,List.getD_nil,Nat.reduceSub,Nat.sub_self,run,FY,GS,off S 160 9 (by decide) rfl,off S 160 11 (by decide) rfl,off S 160 13 (by decide) rfl,off S 160 15 (by decide) rfl,off S 160 19 (by decide) rfl,off S 160 21 (by decide) rfl,off S 160 25 (by decide) rfl,off S 160 29 (by decide) rfl,AR,AX,AZ,AY,ED,Av,AA,AB,AP,AQ,AF,AG,AC,AD,AH,AJ,AE,AK,AM,AN,Ej,JN,Jv,JA,JE,JF,List.take_succ_cons,List.take_zero,List.drop_succ_cons,List.drop_zero,List.getD_cons_zero,List.getD_cons_succ,ZH,ZJ,ZE,ZF,Zq,Option.map_some,Nat.zero_add,Nat.add_zero,hst,d0,d1,Z2 S,Y9,JT,Ak,Nat.le_refl,Option.bind_some,Option.map_none,A8,A4,A9,List.take_length,QZ,List.length_set,Dq,BU,JZ,n1,n2,n5,n6,ne_eq,not_false_eq_true,not_true_eq_false,Nat.zero_mul,Nat.one_mul,Int.cast_ofNat_Int,true_and,Md.Az,Md.ZW,m0,s0,hf,k9,cp0];((try rw[hend]);(first | done | rfl | (rw[e1 m0];rfl) | (rw[e2 s0];rfl) | (rw[e1 m0,e2 s0];rfl))))
     ·by_cases sd : c.state.stack.dropLast.length = 0
      ·first
        | (exfalso;exact sz s0)
        | (simp only[eG,go_sem,Z3 S,Z2 S,zN0,zN1,zN2,zN3,zN4,zI0,zI1,zI2,zI3,reduceCtorEq,DS S,DB S,hcan,Bool.not_true,Bool.not_false,E6 S,hm,hs,hs1,hr,hl,hl1,hlen,Ev S,he0,Yj S,hxx,EA S,QT,Md.QS,Md.QY,QA,Qw,Qv,Qz,eq_true hend,show Nat.ble 1 1=true from rfl,show Nat.ble 2 2=true from rfl,show Nat.ble 3 3=true from rfl,show Nat.ble 1 2=true from rfl,show Nat.ble 2 3=true from rfl,List.getElem?_nil,List.getD_nil,Nat.reduceSub,Nat.sub_self,run,FY,GS,off S 160 9 (by decide) rfl,off S 160 11 (by decide) rfl,off S 160 13 (by decide) rfl,off S 160 15 (by decide) rfl,off S 160 19 (by decide) rfl,off S 160 21 (by decide) rfl,off S 160 25 (by decide) rfl,off S 160 29 (by decide) rfl,AR,AX,AZ,AY,ED,Av,AA,AB,AP,AQ,AF,AG,AC,AD,AH,AJ,AE,AK,AM,AN,Ej,JN,Jv,JA,JE,JF,List.take_succ_cons,List.take_zero,List.drop_succ_cons,List.drop_zero,List.getD_cons_zero,List.getD_cons_succ,ZH,ZJ,ZE,ZF,Zq,Option.map_some,Nat.zero_add,Nat.add_zero,hst,d0,d1,Z2 S,Y9,JT,Ak,Nat.le_refl,Option.bind_some,Option.map_none,A8,A4,A9,List.take_length,QZ,List.length_set,Dq,BU,JZ,n1,n2,n5,n6,ne_eq,not_false_eq_true,not_true_eq_false,Nat.zero_mul,Nat.one_mul,Int.cast_ofNat_Int,true_and,Md.Az,Md.ZW,m0,s0,hf,k9,cpF sd];((try rw[hend]);(first | done | rfl | (rw[e1 m0];rfl) | (rw[e2 s0];rfl) | (rw[e1 m0,e2 s0];rfl))))
      ·first
        | (exfalso;exact sz s0)
        | (simp only[eG,go_sem,Z3 S,Z2 S,zN0,zN1,zN2,zN3,zN4,zI0,zI1,zI2,zI3,reduceCtorEq,DS S,DB S,hcan,Bool.not_true,Bool.not_false,E6 S,hm,hs,hs1,hr,hl,hl1,hlen,Ev S,he0,Yj S,hxx,EA S,QT,Md.QS,Md.QY,QA,Qw,Qv,Qz,eq_true hend,show Nat.ble 1 1=true from rfl,show Nat.ble 2 2=true from rfl,show Nat.ble 3 3=true from rfl,show Nat.ble 1 2=true from rfl,show Nat.ble 2 3=true from rfl,List.getElem?_nil,List.getD_nil,Nat.reduceSub,Nat.sub_self,run,FY,GS,off S 160 9 (by decide) rfl,off S 160 11 (by decide) rfl,off S 160 13 (by decide) rfl,off S 160 15 (by decide) rfl,off S 160 19 (by decide) rfl,off S 160 21 (by decide) rfl,off S 160 25 (by decide) rfl,off S 160 29 (by decide) rfl,AR,AX,AZ,AY,ED,Av,AA,AB,AP,AQ,AF,AG,AC,AD,AH,AJ,AE,AK,AM,AN,Ej,JN,Jv,JA,JE,JF,List.take_succ_cons,List.take_zero,List.drop_succ_cons,List.drop_zero,List.getD_cons_zero,List.getD_cons_succ,ZH,ZJ,ZE,ZF,Zq,Option.map_some,Nat.zero_add,Nat.add_zero,hst,d0,d1,Z2 S,Y9,JT,Ak,Nat.le_refl,Option.bind_some,Option.map_none,A8,A4,A9,List.take_length,QZ,List.length_set,Dq,BU,JZ,n1,n2,n5,n6,ne_eq,not_false_eq_true,not_true_eq_false,Nat.zero_mul,Nat.one_mul,Int.cast_ofNat_Int,true_and,Md.Az,Md.ZW,m0,s0,hf,k9,cpU sd];((try rw[hend]);(first | done | rfl | (rw[e1 m0];rfl) | (rw[e2 s0];rfl) | (rw[e1 m0,e2 s0];rfl))))
    simp only[eG,go_sem,Z3 S,Z2 S,zN0,zN1,zN2,zN3,zN4,zI0,zI1,zI2,zI3,reduceCtorEq,DS S,DB S,hcan,Bool.not_true,Bool.not_false,E6 S,hm,hs,hs1,hr,hl,hl1,hlen,Ev S,he0,Yj S,hxx,EA S,QT,Md.QS,Md.QY,QA,Qw,Qv,Qz,eq_true hend,show Nat.ble 1 1=true from rfl,show Nat.ble 2 2=true from rfl,show Nat.ble 3 3=true from rfl,show Nat.ble 1 2=true from rfl,show Nat.ble 2 3=true from rfl,List.getElem?_nil,List.getD_nil,Nat.reduceSub,Nat.sub_self,run,FY,GS,off S 160 9 (by decide) rfl,off S 160 11 (by decide) rfl,off S 160 13 (by decide) rfl,off S 160 15 (by decide) rfl,off S 160 19 (by decide) rfl,off S 160 21 (by decide) rfl,off S 160 25 (by decide) rfl,off S 160 29 (by decide) rfl,AR,AX,AZ,AY,ED,Av,AA,AB,AP,AQ,AF,AG,AC,AD,AH,AJ,AE,AK,AM,AN,Ej,JN,Jv,JA,JE,JF,List.take_succ_cons,List.take_zero,List.drop_succ_cons,List.drop_zero,List.getD_cons_zero,List.getD_cons_succ,ZH,ZJ,ZE,ZF,Zq,Option.map_some,Nat.zero_add,Nat.add_zero,hst,d0,d1,Z2 S,Y9,JT,Ak,Nat.le_refl,Option.bind_some,Option.map_none,A8,A4,A9,List.take_length,QZ,List.length_set,Dq,BU,JZ,n1,n2,n5,n6,ne_eq,not_false_eq_true,not_true_eq_false,Nat.zero_mul,Nat.one_mul,Int.cast_ofNat_Int,true_and,Md.Az,Md.ZW,m0,s0,hf,k1,k2,k3,k4,k8,k9,k11,k12];((try rw[hend]);(first | done | rfl | (rw[e1 m0];rfl) | (rw[e2 s0];rfl) | (rw[e1 m0,e2 s0];rfl)))
end
theorem A0 {A:List Blk}{bytes j v:Nat}{out:List Dir}{a b:Int}(hA:A[j]? =some (.cells ((rC out).map .d) v false))(h1:(out.length+1)*bytes<=Z5)(h2:out.length+1<=Z5):
  YU A 2 bytes (.sref j v 0 out.length 2 none) [.d (vi a),.d (vi b)] 1=some (.turn j (.cells ((rC (out++[⟨a,b⟩])).map .d) (v+1) false) (.sref j (v+1) 0 (out.length+1) 2 none)):=
 M0 (x:=(⟨a,b⟩:Dir)) hA rfl (by decide) rfl h1 h2
theorem J7 (A:List Blk)(x y:DV)(k:Option Nat):E9 A false 2 (.d (.lst [x,y] 1 k))=some ([.d x,.d y],1):=rfl
theorem JK:(1:Nat)*16<=Z5:=by decide
theorem JJ:(16:Nat)<=Z5:=by decide
theorem JH:(1:Nat)<=Z5:=by decide
theorem HK {α:Type}(o:List α)(x:α):(o++[x]).length≠0:=by simp
theorem SZ (n:Int):(List.range' 0 n.toNat)=List.range n.toNat:=by rw[List.range_eq_range']
variable {E:Env} {fn:FuncId->Option (Env->cT->cT)}
section
variable (S:Sur E fn)
include S
theorem YC:E.lives 43 1=none/\E.lives 43 23=none/\E.lives 43 33=none/\E.lives 43 37=none:=⟨off S 43 1 (by decide) rfl,off S 43 23 (by decide) rfl,off S 43 33 (by decide) rfl,off S 43 37 (by decide) rfl⟩
theorem Zts (dp:Nat)(p:Prog)(c:Conf)(hi:p.ins.length<1073741824)(hg:Md.Qq p c<2147483648)(kx:Nat->K)(D:DV)(r:List Dir)
  (hx:∀ T,ZX .bot T 2=.ref 0 0 0->ZX .bot T 3=.ref 1 0 0->ZX .bot T 5=YN 2 r->Z7 (kx 0 (mk .bot 61 T) ([.cells ((Y3 p).map .d) 0 false,.cells ((Jq c).map .d) 0 false]++Yz r))=some D):
  ∀(m k f:Nat) (o:List Dir),((k+m:Nat):Int)=max (Md.Qq p c) k->m<=f->o.length<8589934592->o.length+m<8589934592->o++(List.range' k m).map (fun n:Nat=>(⟨1,(n:Int)⟩:Dir))=r->
  Z7 (M5 (Zj E 43) (Z4 E fn (dp+2)) (Z9 8 M5 (Zj E 43) (Z4 E fn (dp+2)) kx (ZY 0 [.tmp 4]) f) kx (ZY 0 [.tmp 4]) (mk .bot 61 [(2,.ref 0 0 0),(3,.ref 1 0 0),(5,YN 2 o),(6,aI k)]) ([.cells ((Y3 p).map .d) 0 false,.cells ((Jq c).map .d) 0 false]++Yz o))=some D:=by
 intro m
 induction m with
 | zero=>
  intro k f o hk _ _ _ hr
  have hr:o=r:=by simpa using hr
  subst hr
  generalize Z9 8 M5 _ _ kx _ f=KK
  first | (conv=>lhs;rw[M5]) | rw[M5]
  by_cases h0:o.length=0
  ·have : o = [] := List.length_eq_zero_iff.1 h0
   subst this
   simp only[eG,go_sem,Z3 S,Z2 S,zN0,zN1,zN2,zN3,zN4,zI0,zI1,zI2,zI3,reduceCtorEq,YC S,Yv,Yw,EB S,hi,show ¬(k:Int)<Md.Qq p c by omega]
   exact hx _ rfl rfl rfl
  ·rw [ZN h0, ZM h0] at *
   simp only[eG,go_sem,Z3 S,Z2 S,zN0,zN1,zN2,zN3,zN4,zI0,zI1,zI2,zI3,reduceCtorEq,YC S,EB S,hi,show ¬(k:Int)<Md.Qq p c by omega]
   exact hx _ rfl rfl rfl
 | succ m ih=>
  intro k f o hk hf ho ho2 hr
  obtain⟨f,rfl⟩:∃ g,f=g+1:=⟨f-1,by omega⟩
  have hkg:(k:Int)<Md.Qq p c:=by omega
  have hr':(o++[(⟨1,(k:Int)⟩:Dir)])++(List.range' (k+1) m).map (fun n:Nat=>(⟨1,(n:Int)⟩:Dir))=r:=by
   rw[<-hr,List.range'_succ,List.map_cons,List.append_assoc];rfl
  have:=ih (k+1) f (o++[⟨1,(k:Int)⟩]) (by omega) (by omega) (by simp;omega) (by simp;omega) hr'
  rw[ZN (HK _ _),ZM (HK _ _)] at this
  generalize hK:Z9 8 M5 _ _ kx _ (f+1)=KK
  first | (conv=>lhs;rw[M5]) | rw[M5]
  by_cases h0:o.length=0
  ·have : o = [] := List.length_eq_zero_iff.1 h0
   subst this
   simp only[eG,go_sem,Z3 S,Z2 S,zN0,zN1,zN2,zN3,zN4,zI0,zI1,zI2,zI3,reduceCtorEq,YC S,ZH,ZJ,ZE,ZF,Zq,J7,A0,JK,JJ,JH,Option.map_some,Nat.zero_add,Nat.one_mul,Nat.zero_mul,and_self,true_and,wi k (by omega),show(0:Nat)<1 by decide,Yv,Yw,EB S,hi,hkg]
   rw[<-hK,Z8 (on S _ _ [2,3,5,6] (by decide) rfl) rfl _ _ _ _ _ _ _ _ _ rfl]
   simp only[eG,go_sem,Z3 S,Z2 S,zN0,zN1,zN2,zN3,zN4,zI0,zI1,zI2,zI3,reduceCtorEq,YC S]
   exact this
  ·rw [ZN h0, ZM h0]
   have k1:(o.length+1)*16<=Z5:=by unfold Z5;omega
   have k2:o.length+1<=Z5:=by unfold Z5;omega
   simp only[eG,go_sem,Z3 S,Z2 S,zN0,zN1,zN2,zN3,zN4,zI0,zI1,zI2,zI3,reduceCtorEq,YC S,ZH,ZJ,ZE,ZF,Zq,J7,A0,JK,JJ,JH,Option.map_some,Nat.zero_add,Nat.one_mul,Nat.zero_mul,and_self,true_and,wi k (by omega),show(0:Nat)<1 by decide,EB S,hi,hkg,k1,k2]
   rw[<-hK,Z8 (on S _ _ [2,3,5,6] (by decide) rfl) rfl _ _ _ _ _ _ _ _ _ rfl]
   simp only[eG,go_sem,Z3 S,Z2 S,zN0,zN1,zN2,zN3,zN4,zI0,zI1,zI2,zI3,reduceCtorEq,YC S]
   rw[List.length_append,List.length_singleton] at this
   exact this
theorem Ztr (dp:Nat)(p:Prog)(c:Conf)(hb:c.buf.length<1073741824)(kx:Nat->K)(D:DV)(r:List Dir)
  (hx:∀ T,ZX .bot T 2=.ref 0 0 0->ZX .bot T 3=.ref 1 0 0->ZX .bot T 5=YN 2 r->Z7 (kx 2 (mk .bot 61 T) ([.cells ((Y3 p).map .d) 0 false,.cells ((Jq c).map .d) 0 false]++Yz r))=some D):
  ∀(m k f:Nat) (o:List Dir),k+m=c.buf.length->m<=f->o.length<8589934592->o.length+m<8589934592->o++((List.range' k m).filter fun n:Nat=>Md.can (c.state.mem.length:Int) p c (n:Int)).map (fun n:Nat=>(⟨2,(n:Int)⟩:Dir))=r->
  Z7 (GH (Zj E 43) (Z4 E fn (dp+5)) (Z9 16 GH (Zj E 43) (Z4 E fn (dp+5)) kx (ZY 0 [.tmp 4]) f) kx (ZY 0 [.tmp 4]) (mk .bot 61 [(2,.ref 0 0 0),(3,.ref 1 0 0),(5,YN 2 o),(7,aI k)]) ([.cells ((Y3 p).map .d) 0 false,.cells ((Jq c).map .d) 0 false]++Yz o))=some D:=by
 intro m
 induction m with
 | zero=>
  intro k f o hk _ _ _ hr
  have hr:o=r:=by simpa using hr
  subst hr
  generalize Z9 16 GH _ _ kx _ f=KK
  first | (conv=>lhs;rw[GH]) | rw[GH]
  by_cases h0:o.length=0
  ·have : o = [] := List.length_eq_zero_iff.1 h0
   subst this
   simp only[eG,go_sem,Z3 S,Z2 S,zN0,zN1,zN2,zN3,zN4,zI0,zI1,zI2,zI3,reduceCtorEq,YC S,Yv,Yw,show ¬(k:Int)<c.buf.length by omega]
   exact hx _ rfl rfl rfl
  ·rw [ZN h0, ZM h0] at *
   simp only[eG,go_sem,Z3 S,Z2 S,zN0,zN1,zN2,zN3,zN4,zI0,zI1,zI2,zI3,reduceCtorEq,YC S,show ¬(k:Int)<c.buf.length by omega]
   exact hx _ rfl rfl rfl
 | succ m ih=>
  intro k f o hk hf ho ho2 hr
  obtain⟨f,rfl⟩:∃ g,f=g+1:=⟨f-1,by omega⟩
  have hkg:(k:Int)<c.buf.length:=by omega
  cases hcan:Md.can (c.state.mem.length:Int) p c (k:Int) with
  | false=>
   have hr':o++((List.range' (k+1) m).filter fun n:Nat=>Md.can (c.state.mem.length:Int) p c (n:Int)).map (fun n:Nat=>(⟨2,(n:Int)⟩:Dir))=r:=by
    rw[<-hr,List.range'_succ,List.filter_cons,hcan];rfl
   have:=ih (k+1) f o (by omega) (by omega) ho (by omega) hr'
   generalize hK:Z9 16 GH _ _ kx _ (f+1)=KK
   first | (conv=>lhs;rw[GH]) | rw[GH]
   by_cases h0:o.length=0
   ·have : o = [] := List.length_eq_zero_iff.1 h0
    subst this
    simp only[eG,go_sem,Z3 S,Z2 S,zN0,zN1,zN2,zN3,zN4,zI0,zI1,zI2,zI3,reduceCtorEq,YC S,ZH,ZJ,ZE,ZF,Zq,J7,A0,JK,JJ,JH,Option.map_some,Nat.zero_add,Nat.one_mul,Nat.zero_mul,and_self,true_and,wi k (by omega),show(0:Nat)<1 by decide,Yv,Yw,B8 S,hb,hkg,hcan]
    rw[<-hK,Z8 (on S _ _ [2,3,5,7] (by decide) rfl) rfl _ _ _ _ _ _ _ _ _ rfl]
    simp only[eG,go_sem,Z3 S,Z2 S,zN0,zN1,zN2,zN3,zN4,zI0,zI1,zI2,zI3,reduceCtorEq,YC S]
    assumption
   ·rw [ZN h0, ZM h0] at *
    simp only[eG,go_sem,Z3 S,Z2 S,zN0,zN1,zN2,zN3,zN4,zI0,zI1,zI2,zI3,reduceCtorEq,YC S,ZH,ZJ,ZE,ZF,Zq,J7,A0,JK,JJ,JH,Option.map_some,Nat.zero_add,Nat.one_mul,Nat.zero_mul,and_self,true_and,wi k (by omega),show(0:Nat)<1 by decide,B8 S,hb,hkg,hcan]
    rw[<-hK,Z8 (on S _ _ [2,3,5,7] (by decide) rfl) rfl _ _ _ _ _ _ _ _ _ rfl]
    simp only[eG,go_sem,Z3 S,Z2 S,zN0,zN1,zN2,zN3,zN4,zI0,zI1,zI2,zI3,reduceCtorEq,YC S]
    exact this
  | true=>
   have hr':(o++[(⟨2,(k:Int)⟩:Dir)])++((List.range' (k+1) m).filter fun n:Nat=>Md.can (c.state.mem.length:Int) p c (n:Int)).map (fun n:Nat=>(⟨2,(n:Int)⟩:Dir))=r:=by
    rw[<-hr,List.range'_succ,List.filter_cons,hcan,if_pos rfl,List.map_cons,List.append_assoc];rfl
   have:=ih (k+1) f (o++[⟨2,(k:Int)⟩]) (by omega) (by omega) (by simp;omega) (by simp;omega) hr'
   rw[ZN (HK _ _),ZM (HK _ _)] at this
   generalize hK:Z9 16 GH _ _ kx _ (f+1)=KK
   first | (conv=>lhs;rw[GH]) | rw[GH]
   by_cases h0:o.length=0
   ·have : o = [] := List.length_eq_zero_iff.1 h0
    subst this
    simp only[eG,go_sem,Z3 S,Z2 S,zN0,zN1,zN2,zN3,zN4,zI0,zI1,zI2,zI3,reduceCtorEq,YC S,ZH,ZJ,ZE,ZF,Zq,J7,A0,JK,JJ,JH,Option.map_some,Nat.zero_add,Nat.one_mul,Nat.zero_mul,and_self,true_and,wi k (by omega),show(0:Nat)<1 by decide,Yv,Yw,B8 S,hb,hkg,hcan]
    rw[<-hK,Z8 (on S _ _ [2,3,5,7] (by decide) rfl) rfl _ _ _ _ _ _ _ _ _ rfl]
    simp only[eG,go_sem,Z3 S,Z2 S,zN0,zN1,zN2,zN3,zN4,zI0,zI1,zI2,zI3,reduceCtorEq,YC S]
    assumption
   ·rw [ZN h0, ZM h0]
    have k1:(o.length+1)*16<=Z5:=by unfold Z5;omega
    have k2:o.length+1<=Z5:=by unfold Z5;omega
    simp only[eG,go_sem,Z3 S,Z2 S,zN0,zN1,zN2,zN3,zN4,zI0,zI1,zI2,zI3,reduceCtorEq,YC S,ZH,ZJ,ZE,ZF,Zq,J7,A0,JK,JJ,JH,Option.map_some,Nat.zero_add,Nat.one_mul,Nat.zero_mul,and_self,true_and,wi k (by omega),show(0:Nat)<1 by decide,B8 S,hb,hkg,hcan,k1,k2]
    rw[<-hK,Z8 (on S _ _ [2,3,5,7] (by decide) rfl) rfl _ _ _ _ _ _ _ _ _ rfl]
    simp only[eG,go_sem,Z3 S,Z2 S,zN0,zN1,zN2,zN3,zN4,zI0,zI1,zI2,zI3,reduceCtorEq,YC S]
    rw[List.length_append,List.length_singleton] at this
    exact this
theorem Ztq (dp:Nat)(p:Prog)(c:Conf)(hb:c.buf.length<1073741824)(kx:Nat->K)(D:DV)(r:List Dir)
  (hx:∀ T,ZX .bot T 2=.ref 0 0 0->ZX .bot T 3=.ref 1 0 0->ZX .bot T 5=YN 2 r->Z7 (kx 4 (mk .bot 61 T) ([.cells ((Y3 p).map .d) 0 false,.cells ((Jq c).map .d) 0 false]++Yz r))=some D):
  ∀(m k f:Nat) (o:List Dir),k+m=c.buf.length->m<=f->o.length<8589934592->o.length+m<8589934592->o++((List.range' k m).filter fun n:Nat=>Md.Q8 p c (n:Int)).map (fun n:Nat=>(⟨3,(n:Int)⟩:Dir))=r->
  Z7 (GG (Zj E 43) (Z4 E fn (dp+5)) (Z9 26 GG (Zj E 43) (Z4 E fn (dp+5)) kx (ZY 0 [.tmp 4]) f) kx (ZY 0 [.tmp 4]) (mk .bot 61 [(2,.ref 0 0 0),(3,.ref 1 0 0),(5,YN 2 o),(8,aI k)]) ([.cells ((Y3 p).map .d) 0 false,.cells ((Jq c).map .d) 0 false]++Yz o))=some D:=by
 intro m
 induction m with
 | zero=>
  intro k f o hk _ _ _ hr
  have hr:o=r:=by simpa using hr
  subst hr
  generalize Z9 26 GG _ _ kx _ f=KK
  first | (conv=>lhs;rw[GG]) | rw[GG]
  by_cases h0:o.length=0
  ·have : o = [] := List.length_eq_zero_iff.1 h0
   subst this
   simp only[eG,go_sem,Z3 S,Z2 S,zN0,zN1,zN2,zN3,zN4,zI0,zI1,zI2,zI3,reduceCtorEq,YC S,Yv,Yw,show ¬(k:Int)<c.buf.length by omega]
   exact hx _ rfl rfl rfl
  ·rw [ZN h0, ZM h0] at *
   simp only[eG,go_sem,Z3 S,Z2 S,zN0,zN1,zN2,zN3,zN4,zI0,zI1,zI2,zI3,reduceCtorEq,YC S,show ¬(k:Int)<c.buf.length by omega]
   exact hx _ rfl rfl rfl
 | succ m ih=>
  intro k f o hk hf ho ho2 hr
  obtain⟨f,rfl⟩:∃ g,f=g+1:=⟨f-1,by omega⟩
  have hkg:(k:Int)<c.buf.length:=by omega
  cases hcan:Md.Q8 p c (k:Int) with
  | false=>
   have hr':o++((List.range' (k+1) m).filter fun n:Nat=>Md.Q8 p c (n:Int)).map (fun n:Nat=>(⟨3,(n:Int)⟩:Dir))=r:=by
    rw[<-hr,List.range'_succ,List.filter_cons,hcan];rfl
   have:=ih (k+1) f o (by omega) (by omega) ho (by omega) hr'
   generalize hK:Z9 26 GG _ _ kx _ (f+1)=KK
   first | (conv=>lhs;rw[GG]) | rw[GG]
   by_cases h0:o.length=0
   ·have : o = [] := List.length_eq_zero_iff.1 h0
    subst this
    simp only[eG,go_sem,Z3 S,Z2 S,zN0,zN1,zN2,zN3,zN4,zI0,zI1,zI2,zI3,reduceCtorEq,YC S,ZH,ZJ,ZE,ZF,Zq,J7,A0,JK,JJ,JH,Option.map_some,Nat.zero_add,Nat.one_mul,Nat.zero_mul,and_self,true_and,wi k (by omega),show(0:Nat)<1 by decide,Yv,Yw,NE S,hb,hkg,hcan]
    rw[<-hK,Z8 (on S _ _ [2,3,5,8] (by decide) rfl) rfl _ _ _ _ _ _ _ _ _ rfl]
    simp only[eG,go_sem,Z3 S,Z2 S,zN0,zN1,zN2,zN3,zN4,zI0,zI1,zI2,zI3,reduceCtorEq,YC S]
    assumption
   ·rw [ZN h0, ZM h0] at *
    simp only[eG,go_sem,Z3 S,Z2 S,zN0,zN1,zN2,zN3,zN4,zI0,zI1,zI2,zI3,reduceCtorEq,YC S,ZH,ZJ,ZE,ZF,Zq,J7,A0,JK,JJ,JH,Option.map_some,Nat.zero_add,Nat.one_mul,Nat.zero_mul,and_self,true_and,wi k (by omega),show(0:Nat)<1 by decide,NE S,hb,hkg,hcan]
    rw[<-hK,Z8 (on S _ _ [2,3,5,8] (by decide) rfl) rfl _ _ _ _ _ _ _ _ _ rfl]
    simp only[eG,go_sem,Z3 S,Z2 S,zN0,zN1,zN2,zN3,zN4,zI0,zI1,zI2,zI3,reduceCtorEq,YC S]
    exact this
  | true=>
   have hr':(o++[(⟨3,(k:Int)⟩:Dir)])++((List.range' (k+1) m).filter fun n:Nat=>Md.Q8 p c (n:Int)).map (fun n:Nat=>(⟨3,(n:Int)⟩:Dir))=r:=by
    rw[<-hr,List.range'_succ,List.filter_cons,hcan,if_pos rfl,List.map_cons,List.append_assoc];rfl
   have:=ih (k+1) f (o++[⟨3,(k:Int)⟩]) (by omega) (by omega) (by simp;omega) (by simp;omega) hr'
   rw[ZN (HK _ _),ZM (HK _ _)] at this
   generalize hK:Z9 26 GG _ _ kx _ (f+1)=KK
   first | (conv=>lhs;rw[GG]) | rw[GG]
   by_cases h0:o.length=0
   ·have : o = [] := List.length_eq_zero_iff.1 h0
    subst this
    simp only[eG,go_sem,Z3 S,Z2 S,zN0,zN1,zN2,zN3,zN4,zI0,zI1,zI2,zI3,reduceCtorEq,YC S,ZH,ZJ,ZE,ZF,Zq,J7,A0,JK,JJ,JH,Option.map_some,Nat.zero_add,Nat.one_mul,Nat.zero_mul,and_self,true_and,wi k (by omega),show(0:Nat)<1 by decide,Yv,Yw,NE S,hb,hkg,hcan]
    rw[<-hK,Z8 (on S _ _ [2,3,5,8] (by decide) rfl) rfl _ _ _ _ _ _ _ _ _ rfl]
    simp only[eG,go_sem,Z3 S,Z2 S,zN0,zN1,zN2,zN3,zN4,zI0,zI1,zI2,zI3,reduceCtorEq,YC S]
    assumption
   ·rw [ZN h0, ZM h0]
    have k1:(o.length+1)*16<=Z5:=by unfold Z5;omega
    have k2:o.length+1<=Z5:=by unfold Z5;omega
    simp only[eG,go_sem,Z3 S,Z2 S,zN0,zN1,zN2,zN3,zN4,zI0,zI1,zI2,zI3,reduceCtorEq,YC S,ZH,ZJ,ZE,ZF,Zq,J7,A0,JK,JJ,JH,Option.map_some,Nat.zero_add,Nat.one_mul,Nat.zero_mul,and_self,true_and,wi k (by omega),show(0:Nat)<1 by decide,NE S,hb,hkg,hcan,k1,k2]
    rw[<-hK,Z8 (on S _ _ [2,3,5,8] (by decide) rfl) rfl _ _ _ _ _ _ _ _ _ rfl]
    simp only[eG,go_sem,Z3 S,Z2 S,zN0,zN1,zN2,zN3,zN4,zI0,zI1,zI2,zI3,reduceCtorEq,YC S]
    rw[List.length_append,List.length_singleton] at this
    exact this
theorem Zke (dp:Nat)(p:Prog)(c:Conf)(hi:p.ins.length<1073741824)(hb:c.buf.length<1073741824):Z6 E fn (dp+6) 43 [Zw p,ZS c] (rD (Md.all (c.state.mem.length:Int) p c)):=by
 unfold Z6
 show Z7 (Z4 E fn (dp+5+1) 43 [.d (Zw p),.d (ZS c)] [])=_
 rw[ZD,S.Zaf,ZG,Zfs,ZC _ _ _ _ _ _ _ _ rfl]
 have hg:Md.Qq p c<2147483648:=by
  unfold Md.Qq;split
  ·decide
  ·split
   ·decide
   ·split
    ·omega
    ·decide
 simp only[eG,go_sem,Z3 S,Z2 S,zN0,zN1,zN2,zN3,zN4,zI0,zI1,zI2,zI3,reduceCtorEq,YC S]
 rw[Y7,Z8 (on S _ _ [2,3,5,6] (by decide) rfl) rfl _ _ _ _ _ _ _ _ _ rfl]
 simp only[eG,go_sem,Z3 S,Z2 S,zN0,zN1,zN2,zN3,zN4,zI0,zI1,zI2,zI3,reduceCtorEq,YC S]
 generalize h1:(List.range (Md.Qq p c).toNat).map (fun n:Nat=>(⟨1,(n:Int)⟩:Dir))=r1
 generalize h2:r1++((List.range c.buf.length).filter fun n:Nat=>Md.can (c.state.mem.length:Int) p c (n:Int)).map (fun n:Nat=>(⟨2,(n:Int)⟩:Dir))=r2
 generalize h3:r2++((List.range c.buf.length).filter fun n:Nat=>Md.Q8 p c (n:Int)).map (fun n:Nat=>(⟨3,(n:Int)⟩:Dir))=r3
 have hall:Md.all (c.state.mem.length:Int) p c=r3++(bif Md.QC p c then[⟨4,0⟩] else[]):=by
  unfold Md.all;rw[h1,h2,h3]
 have L1:r1.length<2147483648:=by rw[<-h1,List.length_map,List.length_range];omega
 have L2:r2.length<3221225472:=by
  have:=List.length_filter_le (fun n:Nat=>Md.can (c.state.mem.length:Int) p c (n:Int)) (List.range c.buf.length)
  rw[List.length_range] at this
  rw[<-h2,List.length_append,List.length_map];omega
 have L3:r3.length<4294967296:=by
  have:=List.length_filter_le (fun n:Nat=>Md.Q8 p c (n:Int)) (List.range c.buf.length)
  rw[List.length_range] at this
  rw[<-h3,List.length_append,List.length_map];omega
 rw[hall]
 have start:=fun(kx:Nat->K) (D:DV) hx=>Zts S (dp+3) p c hi hg kx D r1 hx (Md.Qq p c).toNat 0 999999999999999999999999999999 [] (by omega) (by omega) (by simp) (by simp;omega) (by rw[List.nil_append,SZ];exact h1)
 refine start _ _ ?_
 intro T t2 t3 t5
 have next2:=fun(kx:Nat->K) (D:DV) hx=>Ztr S dp p c hb kx D r2 hx c.buf.length 0 999999999999999999999999999999 r1 (by omega) (by omega) (by omega) (by omega) (by rw[<-List.range_eq_range'];exact h2)
 have next3:=fun(kx:Nat->K) (D:DV) hx=>Ztq S dp p c hb kx D r3 hx c.buf.length 0 999999999999999999999999999999 r2 (by omega) (by omega) (by omega) (by omega) (by rw[<-List.range_eq_range'];exact h3)
 have stop:∀ T,ZX .bot T 2=.ref 0 0 0->ZX .bot T 3=.ref 1 0 0->True:=fun _ _ _=>trivial
 by_cases z1:r1.length=0
 ·have e1 : r1 = [] := List.length_eq_zero_iff.1 z1
  rw[e1,Yv] at t5
  rw[e1,Yw,List.append_nil]
  simp only[e1,Yv,Yw,List.append_nil] at next2
  simp only[eG,go_sem,Z3 S,Z2 S,zN0,zN1,zN2,zN3,zN4,zI0,zI1,zI2,zI3,reduceCtorEq,YC S,t2,t3,t5]
  rw[Y7,Z8 (on S _ _ [2,3,5,7] (by decide) rfl) rfl _ _ _ _ _ _ _ _ _ rfl]
  simp only[eG,go_sem,Z3 S,Z2 S,zN0,zN1,zN2,zN3,zN4,zI0,zI1,zI2,zI3,reduceCtorEq,YC S,t2,t3,t5]
  refine next2 _ _ ?_
  clear t2 t3 t5 T
  intro T t2 t3 t5
  by_cases z2:r2.length=0
  ·have e2 : r2 = [] := List.length_eq_zero_iff.1 z2
   rw[e2,Yv] at t5
   rw[e2,Yw,List.append_nil]
   simp only[e2,Yv,Yw,List.append_nil] at next3
   simp only[eG,go_sem,Z3 S,Z2 S,zN0,zN1,zN2,zN3,zN4,zI0,zI1,zI2,zI3,reduceCtorEq,YC S,t2,t3,t5]
   rw[Y7,Z8 (on S _ _ [2,3,5,8] (by decide) rfl) rfl _ _ _ _ _ _ _ _ _ rfl]
   simp only[eG,go_sem,Z3 S,Z2 S,zN0,zN1,zN2,zN3,zN4,zI0,zI1,zI2,zI3,reduceCtorEq,YC S,t2,t3,t5]
   refine next3 _ _ ?_
   clear t2 t3 t5 T
   intro T t2 t3 t5
   cases hret:Md.QC p c with
   | false=>
    by_cases z3:r3.length=0
    ·have e3 : r3 = [] := List.length_eq_zero_iff.1 z3
     rw[e3,Yv] at t5
     rw[e3,Yw,List.append_nil]
     simp only[eG,go_sem,Z3 S,Z2 S,zN0,zN1,zN2,zN3,zN4,zI0,zI1,zI2,zI3,reduceCtorEq,YC S,t2,t3,t5,Jz S,hret]
    ·rw [ZN z3] at t5
     rw[ZM z3]
     have hne:r3≠[]:=fun e=>z3 (by rw[e];rfl)
     have hd:deep [.cells ((rC r3).map .d) 0 false] 8 (.sref 0 0 0 r3.length 2 none)=some (.lst (rC r3) r3.length none,[0]):=Ax r3 hne _ rfl 6 2 none rfl
     simp only[eG,go_sem,Z3 S,Z2 S,zN0,zN1,zN2,zN3,zN4,zI0,zI1,zI2,zI3,reduceCtorEq,YC S,t2,t3,t5,Jz S,hret,hd]
     rfl
   | true=>
    by_cases z3:r3.length=0
    ·have e3 : r3 = [] := List.length_eq_zero_iff.1 z3
     rw[e3,Yv] at t5
     rw[e3,Yw,List.append_nil]
     simp only[eG,go_sem,Z3 S,Z2 S,zN0,zN1,zN2,zN3,zN4,zI0,zI1,zI2,zI3,reduceCtorEq,YC S,ZH,ZJ,ZE,ZF,Zq,J7,A0,JK,JJ,JH,Option.map_some,Nat.zero_add,Nat.one_mul,Nat.zero_mul,and_self,true_and,show(0:Nat)<1 by decide,t2,t3,t5,Jz S,hret,Y9,Nat.one_ne_zero,Nat.le_refl]
     rfl
    ·rw [ZN z3] at t5
     rw[ZM z3]
     have k1:(r3.length+1)*16<=Z5:=by unfold Z5;omega
     have k2:r3.length+1<=Z5:=by unfold Z5;omega
     have hd:deep [.cells ((rC (r3++[(⟨4,0⟩:Dir)])).map .d) 0 false] 8 (.sref 0 0 0 (r3.length+1) 2 none)=some (.lst (rC (r3++[(⟨4,0⟩:Dir)])) (r3++[(⟨4,0⟩:Dir)]).length none,[0]):=Ax _ (by simp) _ (by simp) 6 2 none rfl
     simp only[eG,go_sem,Z3 S,Z2 S,zN0,zN1,zN2,zN3,zN4,zI0,zI1,zI2,zI3,reduceCtorEq,YC S,ZH,ZJ,ZE,ZF,Zq,J7,A0,JK,JJ,JH,Option.map_some,Nat.zero_add,Nat.one_mul,Nat.zero_mul,and_self,true_and,show(0:Nat)<1 by decide,t2,t3,t5,Jz S,hret,k1,k2,hd]
     rfl
  ·rw [ZN z2] at t5
   rw[ZM z2]
   simp only[ZN z2,ZM z2] at next3
   simp only[eG,go_sem,Z3 S,Z2 S,zN0,zN1,zN2,zN3,zN4,zI0,zI1,zI2,zI3,reduceCtorEq,YC S,t2,t3,t5]
   rw[Y7,Z8 (on S _ _ [2,3,5,8] (by decide) rfl) rfl _ _ _ _ _ _ _ _ _ rfl]
   simp only[eG,go_sem,Z3 S,Z2 S,zN0,zN1,zN2,zN3,zN4,zI0,zI1,zI2,zI3,reduceCtorEq,YC S,t2,t3,t5]
   refine next3 _ _ ?_
   clear t2 t3 t5 T
   intro T t2 t3 t5
   cases hret:Md.QC p c with
   | false=>
    by_cases z3:r3.length=0
    ·have e3 : r3 = [] := List.length_eq_zero_iff.1 z3
     rw[e3,Yv] at t5
     rw[e3,Yw,List.append_nil]
     simp only[eG,go_sem,Z3 S,Z2 S,zN0,zN1,zN2,zN3,zN4,zI0,zI1,zI2,zI3,reduceCtorEq,YC S,t2,t3,t5,Jz S,hret]
    ·rw [ZN z3] at t5
     rw[ZM z3]
     have hne:r3≠[]:=fun e=>z3 (by rw[e];rfl)
     have hd:deep [.cells ((rC r3).map .d) 0 false] 8 (.sref 0 0 0 r3.length 2 none)=some (.lst (rC r3) r3.length none,[0]):=Ax r3 hne _ rfl 6 2 none rfl
     simp only[eG,go_sem,Z3 S,Z2 S,zN0,zN1,zN2,zN3,zN4,zI0,zI1,zI2,zI3,reduceCtorEq,YC S,t2,t3,t5,Jz S,hret,hd]
     rfl
   | true=>
    by_cases z3:r3.length=0
    ·have e3 : r3 = [] := List.length_eq_zero_iff.1 z3
     rw[e3,Yv] at t5
     rw[e3,Yw,List.append_nil]
     simp only[eG,go_sem,Z3 S,Z2 S,zN0,zN1,zN2,zN3,zN4,zI0,zI1,zI2,zI3,reduceCtorEq,YC S,ZH,ZJ,ZE,ZF,Zq,J7,A0,JK,JJ,JH,Option.map_some,Nat.zero_add,Nat.one_mul,Nat.zero_mul,and_self,true_and,show(0:Nat)<1 by decide,t2,t3,t5,Jz S,hret,Y9,Nat.one_ne_zero,Nat.le_refl]
     rfl
    ·rw [ZN z3] at t5
     rw[ZM z3]
     have k1:(r3.length+1)*16<=Z5:=by unfold Z5;omega
     have k2:r3.length+1<=Z5:=by unfold Z5;omega
     have hd:deep [.cells ((rC (r3++[(⟨4,0⟩:Dir)])).map .d) 0 false] 8 (.sref 0 0 0 (r3.length+1) 2 none)=some (.lst (rC (r3++[(⟨4,0⟩:Dir)])) (r3++[(⟨4,0⟩:Dir)]).length none,[0]):=Ax _ (by simp) _ (by simp) 6 2 none rfl
     simp only[eG,go_sem,Z3 S,Z2 S,zN0,zN1,zN2,zN3,zN4,zI0,zI1,zI2,zI3,reduceCtorEq,YC S,ZH,ZJ,ZE,ZF,Zq,J7,A0,JK,JJ,JH,Option.map_some,Nat.zero_add,Nat.one_mul,Nat.zero_mul,and_self,true_and,show(0:Nat)<1 by decide,t2,t3,t5,Jz S,hret,k1,k2,hd]
     rfl
 ·rw [ZN z1] at t5
  rw[ZM z1]
  simp only[ZN z1,ZM z1] at next2
  simp only[eG,go_sem,Z3 S,Z2 S,zN0,zN1,zN2,zN3,zN4,zI0,zI1,zI2,zI3,reduceCtorEq,YC S,t2,t3,t5]
  rw[Y7,Z8 (on S _ _ [2,3,5,7] (by decide) rfl) rfl _ _ _ _ _ _ _ _ _ rfl]
  simp only[eG,go_sem,Z3 S,Z2 S,zN0,zN1,zN2,zN3,zN4,zI0,zI1,zI2,zI3,reduceCtorEq,YC S,t2,t3,t5]
  refine next2 _ _ ?_
  clear t2 t3 t5 T
  intro T t2 t3 t5
  by_cases z2:r2.length=0
  ·have e2 : r2 = [] := List.length_eq_zero_iff.1 z2
   rw[e2,Yv] at t5
   rw[e2,Yw,List.append_nil]
   simp only[e2,Yv,Yw,List.append_nil] at next3
   simp only[eG,go_sem,Z3 S,Z2 S,zN0,zN1,zN2,zN3,zN4,zI0,zI1,zI2,zI3,reduceCtorEq,YC S,t2,t3,t5]
   rw[Y7,Z8 (on S _ _ [2,3,5,8] (by decide) rfl) rfl _ _ _ _ _ _ _ _ _ rfl]
   simp only[eG,go_sem,Z3 S,Z2 S,zN0,zN1,zN2,zN3,zN4,zI0,zI1,zI2,zI3,reduceCtorEq,YC S,t2,t3,t5]
   refine next3 _ _ ?_
   clear t2 t3 t5 T
   intro T t2 t3 t5
   cases hret:Md.QC p c with
   | false=>
    by_cases z3:r3.length=0
    ·have e3 : r3 = [] := List.length_eq_zero_iff.1 z3
     rw[e3,Yv] at t5
     rw[e3,Yw,List.append_nil]
     simp only[eG,go_sem,Z3 S,Z2 S,zN0,zN1,zN2,zN3,zN4,zI0,zI1,zI2,zI3,reduceCtorEq,YC S,t2,t3,t5,Jz S,hret]
    ·rw [ZN z3] at t5
     rw[ZM z3]
     have hne:r3≠[]:=fun e=>z3 (by rw[e];rfl)
     have hd:deep [.cells ((rC r3).map .d) 0 false] 8 (.sref 0 0 0 r3.length 2 none)=some (.lst (rC r3) r3.length none,[0]):=Ax r3 hne _ rfl 6 2 none rfl
     simp only[eG,go_sem,Z3 S,Z2 S,zN0,zN1,zN2,zN3,zN4,zI0,zI1,zI2,zI3,reduceCtorEq,YC S,t2,t3,t5,Jz S,hret,hd]
     rfl
   | true=>
    by_cases z3:r3.length=0
    ·have e3 : r3 = [] := List.length_eq_zero_iff.1 z3
     rw[e3,Yv] at t5
     rw[e3,Yw,List.append_nil]
     simp only[eG,go_sem,Z3 S,Z2 S,zN0,zN1,zN2,zN3,zN4,zI0,zI1,zI2,zI3,reduceCtorEq,YC S,ZH,ZJ,ZE,ZF,Zq,J7,A0,JK,JJ,JH,Option.map_some,Nat.zero_add,Nat.one_mul,Nat.zero_mul,and_self,true_and,show(0:Nat)<1 by decide,t2,t3,t5,Jz S,hret,Y9,Nat.one_ne_zero,Nat.le_refl]
     rfl
    ·rw [ZN z3] at t5
     rw[ZM z3]
     have k1:(r3.length+1)*16<=Z5:=by unfold Z5;omega
     have k2:r3.length+1<=Z5:=by unfold Z5;omega
     have hd:deep [.cells ((rC (r3++[(⟨4,0⟩:Dir)])).map .d) 0 false] 8 (.sref 0 0 0 (r3.length+1) 2 none)=some (.lst (rC (r3++[(⟨4,0⟩:Dir)])) (r3++[(⟨4,0⟩:Dir)]).length none,[0]):=Ax _ (by simp) _ (by simp) 6 2 none rfl
     simp only[eG,go_sem,Z3 S,Z2 S,zN0,zN1,zN2,zN3,zN4,zI0,zI1,zI2,zI3,reduceCtorEq,YC S,ZH,ZJ,ZE,ZF,Zq,J7,A0,JK,JJ,JH,Option.map_some,Nat.zero_add,Nat.one_mul,Nat.zero_mul,and_self,true_and,show(0:Nat)<1 by decide,t2,t3,t5,Jz S,hret,k1,k2,hd]
     rfl
  ·rw [ZN z2] at t5
   rw[ZM z2]
   simp only[ZN z2,ZM z2] at next3
   simp only[eG,go_sem,Z3 S,Z2 S,zN0,zN1,zN2,zN3,zN4,zI0,zI1,zI2,zI3,reduceCtorEq,YC S,t2,t3,t5]
   rw[Y7,Z8 (on S _ _ [2,3,5,8] (by decide) rfl) rfl _ _ _ _ _ _ _ _ _ rfl]
   simp only[eG,go_sem,Z3 S,Z2 S,zN0,zN1,zN2,zN3,zN4,zI0,zI1,zI2,zI3,reduceCtorEq,YC S,t2,t3,t5]
   refine next3 _ _ ?_
   clear t2 t3 t5 T
   intro T t2 t3 t5
   cases hret:Md.QC p c with
   | false=>
    by_cases z3:r3.length=0
    ·have e3 : r3 = [] := List.length_eq_zero_iff.1 z3
     rw[e3,Yv] at t5
     rw[e3,Yw,List.append_nil]
     simp only[eG,go_sem,Z3 S,Z2 S,zN0,zN1,zN2,zN3,zN4,zI0,zI1,zI2,zI3,reduceCtorEq,YC S,t2,t3,t5,Jz S,hret]
    ·rw [ZN z3] at t5
     rw[ZM z3]
     have hne:r3≠[]:=fun e=>z3 (by rw[e];rfl)
     have hd:deep [.cells ((rC r3).map .d) 0 false] 8 (.sref 0 0 0 r3.length 2 none)=some (.lst (rC r3) r3.length none,[0]):=Ax r3 hne _ rfl 6 2 none rfl
     simp only[eG,go_sem,Z3 S,Z2 S,zN0,zN1,zN2,zN3,zN4,zI0,zI1,zI2,zI3,reduceCtorEq,YC S,t2,t3,t5,Jz S,hret,hd]
     rfl
   | true=>
    by_cases z3:r3.length=0
    ·have e3 : r3 = [] := List.length_eq_zero_iff.1 z3
     rw[e3,Yv] at t5
     rw[e3,Yw,List.append_nil]
     simp only[eG,go_sem,Z3 S,Z2 S,zN0,zN1,zN2,zN3,zN4,zI0,zI1,zI2,zI3,reduceCtorEq,YC S,ZH,ZJ,ZE,ZF,Zq,J7,A0,JK,JJ,JH,Option.map_some,Nat.zero_add,Nat.one_mul,Nat.zero_mul,and_self,true_and,show(0:Nat)<1 by decide,t2,t3,t5,Jz S,hret,Y9,Nat.one_ne_zero,Nat.le_refl]
     rfl
    ·rw [ZN z3] at t5
     rw[ZM z3]
     have k1:(r3.length+1)*16<=Z5:=by unfold Z5;omega
     have k2:r3.length+1<=Z5:=by unfold Z5;omega
     have hd:deep [.cells ((rC (r3++[(⟨4,0⟩:Dir)])).map .d) 0 false] 8 (.sref 0 0 0 (r3.length+1) 2 none)=some (.lst (rC (r3++[(⟨4,0⟩:Dir)])) (r3++[(⟨4,0⟩:Dir)]).length none,[0]):=Ax _ (by simp) _ (by simp) 6 2 none rfl
     simp only[eG,go_sem,Z3 S,Z2 S,zN0,zN1,zN2,zN3,zN4,zI0,zI1,zI2,zI3,reduceCtorEq,YC S,ZH,ZJ,ZE,ZF,Zq,J7,A0,JK,JJ,JH,Option.map_some,Nat.zero_add,Nat.one_mul,Nat.zero_mul,and_self,true_and,show(0:Nat)<1 by decide,t2,t3,t5,Jz S,hret,k1,k2,hd]
     rfl
theorem X3 (dp:Nat)(p_w p_wn p_fu p_r0 p_r1 p_r2 p_r3:Int)(p_ms:List MemT)(p_ls:List Label)(p_is:List Ins)(c_r0 c_r1 c_r2 c_r3:Int)(c_mm c_st:List Int)(c_pc:Int)(c_bf:List Ent)(c_rb:List Int)(c_en:Int)(hi:(⟨p_w,p_wn,p_fu,⟨p_r0,p_r1,p_r2,p_r3⟩,p_ms,p_ls,p_is⟩:Prog).ins.length<1073741824)(hb:(⟨⟨⟨c_r0,c_r1,c_r2,c_r3⟩,c_mm,c_st,c_pc⟩,c_bf,c_rb,c_en⟩:Conf).buf.length<1073741824)(A:List Blk)(nb:Nat):Zv false E (Z4 E fn (dp+6)) 43 A nb (some ([.agg [vi p_w,vi p_wn,vi p_fu,vi p_r0,vi p_r1,vi p_r2,vi p_r3,rD p_ms,rD p_ls,rD p_is],.agg [vi c_r0,vi c_r1,vi c_r2,vi c_r3,rD c_mm,rD c_st,vi c_pc,rD c_bf,rD c_rb,vi c_en]],[]))=some (.made (.d (rD (Md.all ((⟨⟨⟨c_r0,c_r1,c_r2,c_r3⟩,c_mm,c_st,c_pc⟩,c_bf,c_rb,c_en⟩:Conf).state.mem.length:Int) (⟨p_w,p_wn,p_fu,⟨p_r0,p_r1,p_r2,p_r3⟩,p_ms,p_ls,p_is⟩:Prog) (⟨⟨⟨c_r0,c_r1,c_r2,c_r3⟩,c_mm,c_st,c_pc⟩,c_bf,c_rb,c_en⟩:Conf)))) []):=
 Z6.deep (Zke S dp (⟨p_w,p_wn,p_fu,⟨p_r0,p_r1,p_r2,p_r3⟩,p_ms,p_ls,p_is⟩:Prog) (⟨⟨⟨c_r0,c_r1,c_r2,c_r3⟩,c_mm,c_st,c_pc⟩,c_bf,c_rb,c_en⟩:Conf) hi hb) (np S 43 (by decide)) A nb
end
variable {E:Env} {fn:FuncId->Option (Env->cT->cT)}
section
variable (S:Sur E fn)
include S
theorem FD:E.lives 140 7=none/\E.lives 140 13=none/\E.lives 140 17=none:=⟨off S 140 7 (by decide) rfl,off S 140 13 (by decide) rfl,off S 140 17 (by decide) rfl⟩
theorem Zkw (dp:Nat)(p:Prog)(c:Conf)(hi:p.ins.length<1073741824):Z6 E fn (dp+2) 140 [Zw p,ZS c] (vi (Md.Qq p c)):=by
 unfold Z6
 show Z7 (Z4 E fn (dp+1+1) 140 [.d (Zw p),.d (ZS c)] [])=_
 rw[ZD,S.Zb2,ZG,Zgf,ZC _ _ _ _ _ _ _ _ rfl]
 have hw:IntKind.i64.wrap ((p.ins.length:Int)+1)=p.ins.length+1:=by rw[YH (by omega) (by omega)]
 by_cases h1:c.end_=0
 ·by_cases h2 : c.state.pc = -1
  ·simp only[eG,go_sem,Z3 S,Z2 S,zN0,zN1,zN2,zN3,zN4,zI0,zI1,zI2,zI3,reduceCtorEq,FD S,h1,h2,Md.Qq,EC S,ne_eq,not_true_eq_false,not_false_eq_true]
  ·by_cases h3 : (c.buf.length : Int) >= p.window
   ·simp only[eG,go_sem,Z3 S,Z2 S,zN0,zN1,zN2,zN3,zN4,zI0,zI1,zI2,zI3,reduceCtorEq,FD S,h1,h2,h3,Md.Qq,EC S,ne_eq,not_true_eq_false,not_false_eq_true]
   ·by_cases h9 : c.rsb.length = 0
    ·simp only [eG, go_sem, Z3 S, Z2 S, zN0, zN1, zN2, zN3, zN4, zI0, zI1, zI2, zI3, reduceCtorEq, FD S, h1, h2, h3, h9, Md.Qq, EC S, ne_eq, not_true_eq_false, not_false_eq_true, Yj S, EC S, hw, Int.natCast_eq_zero]
     by_cases k5:(Md.at_ p c.state.pc).kind=5
     ·simp only[eG,go_sem,Z3 S,Z2 S,zN0,zN1,zN2,zN3,zN4,zI0,zI1,zI2,zI3,reduceCtorEq,FD S,h9,hw,Int.natCast_eq_zero,ne_eq,not_true_eq_false,not_false_eq_true,Bool.not_true,Bool.not_false,k5,decide_true,decide_false,cond_true,cond_false,if_true,if_false,zI0]
     by_cases k7:(Md.at_ p c.state.pc).kind=7
     ·simp only[eG,go_sem,Z3 S,Z2 S,zN0,zN1,zN2,zN3,zN4,zI0,zI1,zI2,zI3,reduceCtorEq,FD S,h9,hw,Int.natCast_eq_zero,ne_eq,not_true_eq_false,not_false_eq_true,Bool.not_true,Bool.not_false,k7,decide_true,decide_false,cond_true,cond_false,if_true,if_false,zI0,true_or]
     by_cases k9:(Md.at_ p c.state.pc).kind=9
     ·simp only[eG,go_sem,Z3 S,Z2 S,zN0,zN1,zN2,zN3,zN4,zI0,zI1,zI2,zI3,reduceCtorEq,FD S,h9,hw,Int.natCast_eq_zero,ne_eq,not_true_eq_false,not_false_eq_true,Bool.not_true,Bool.not_false,k9,decide_true,decide_false,cond_true,cond_false,if_true,if_false,zI0,or_true,and_self]
     ·simp only[eG,go_sem,Z3 S,Z2 S,zN0,zN1,zN2,zN3,zN4,zI0,zI1,zI2,zI3,reduceCtorEq,FD S,h9,hw,Int.natCast_eq_zero,ne_eq,not_true_eq_false,not_false_eq_true,Bool.not_true,Bool.not_false,k5,k7,k9,decide_true,decide_false,cond_true,cond_false,if_true,if_false,zI0,or_self,false_and]
    ·simp only [eG, go_sem, Z3 S, Z2 S, zN0, zN1, zN2, zN3, zN4, zI0, zI1, zI2, zI3, reduceCtorEq, FD S, h1, h2, h3, h9, Md.Qq, EC S, ne_eq, not_true_eq_false, not_false_eq_true, Yj S, EC S, hw, Int.natCast_eq_zero]
     by_cases k5:(Md.at_ p c.state.pc).kind=5
     ·simp only[eG,go_sem,Z3 S,Z2 S,zN0,zN1,zN2,zN3,zN4,zI0,zI1,zI2,zI3,reduceCtorEq,FD S,h9,hw,Int.natCast_eq_zero,ne_eq,not_true_eq_false,not_false_eq_true,Bool.not_true,Bool.not_false,k5,decide_true,decide_false,cond_true,cond_false,if_true,if_false,zI0]
     by_cases k7:(Md.at_ p c.state.pc).kind=7
     ·simp only[eG,go_sem,Z3 S,Z2 S,zN0,zN1,zN2,zN3,zN4,zI0,zI1,zI2,zI3,reduceCtorEq,FD S,h9,hw,Int.natCast_eq_zero,ne_eq,not_true_eq_false,not_false_eq_true,Bool.not_true,Bool.not_false,k7,decide_true,decide_false,cond_true,cond_false,if_true,if_false,zI0,true_or]
     by_cases k9:(Md.at_ p c.state.pc).kind=9
     ·simp only[eG,go_sem,Z3 S,Z2 S,zN0,zN1,zN2,zN3,zN4,zI0,zI1,zI2,zI3,reduceCtorEq,FD S,h9,hw,Int.natCast_eq_zero,ne_eq,not_true_eq_false,not_false_eq_true,Bool.not_true,Bool.not_false,k9,decide_true,decide_false,cond_true,cond_false,if_true,if_false,zI0,or_true,and_self,and_false,or_self]
     ·simp only[eG,go_sem,Z3 S,Z2 S,zN0,zN1,zN2,zN3,zN4,zI0,zI1,zI2,zI3,reduceCtorEq,FD S,h9,hw,Int.natCast_eq_zero,ne_eq,not_true_eq_false,not_false_eq_true,Bool.not_true,Bool.not_false,k5,k7,k9,decide_true,decide_false,cond_true,cond_false,if_true,if_false,zI0,or_self,false_and]
 ·simp only[eG,go_sem,Z3 S,Z2 S,zN0,zN1,zN2,zN3,zN4,zI0,zI1,zI2,zI3,reduceCtorEq,FD S,h1,Md.Qq,EC S,ne_eq,not_true_eq_false,not_false_eq_true]
theorem Z2s (dp:Nat)(p_w p_wn p_fu p_r0 p_r1 p_r2 p_r3:Int)(p_ms:List MemT)(p_ls:List Label)(p_is:List Ins)(c_r0 c_r1 c_r2 c_r3:Int)(c_mm c_st:List Int)(c_pc:Int)(c_bf:List Ent)(c_rb:List Int)(c_en:Int)(hi:(⟨p_w,p_wn,p_fu,⟨p_r0,p_r1,p_r2,p_r3⟩,p_ms,p_ls,p_is⟩:Prog).ins.length<1073741824)(A:List Blk)(nb:Nat)(us:List Nat):Zv false E (Z4 E fn (dp+2)) 140 A nb (some ([.agg [vi p_w,vi p_wn,vi p_fu,vi p_r0,vi p_r1,vi p_r2,vi p_r3,rD p_ms,rD p_ls,rD p_is],.agg [vi c_r0,vi c_r1,vi c_r2,vi c_r3,rD c_mm,rD c_st,vi c_pc,rD c_bf,rD c_rb,vi c_en]],us))=some (.made (.d (vi (Md.Qq (⟨p_w,p_wn,p_fu,⟨p_r0,p_r1,p_r2,p_r3⟩,p_ms,p_ls,p_is⟩:Prog) (⟨⟨⟨c_r0,c_r1,c_r2,c_r3⟩,c_mm,c_st,c_pc⟩,c_bf,c_rb,c_en⟩:Conf)))) []):=
 Z6.flat (Zkw S dp (⟨p_w,p_wn,p_fu,⟨p_r0,p_r1,p_r2,p_r3⟩,p_ms,p_ls,p_is⟩:Prog) (⟨⟨⟨c_r0,c_r1,c_r2,c_r3⟩,c_mm,c_st,c_pc⟩,c_bf,c_rb,c_en⟩:Conf) hi) (np S 140 (by decide)) (rfl) A nb us
end
section
variable (S:Sur E fn)
include S
theorem Pk:E.lives 87 9=none/\E.lives 87 13=none/\E.lives 87 17=none/\E.lives 87 21=none:=⟨off S 87 9 (by decide) rfl,off S 87 13 (by decide) rfl,off S 87 17 (by decide) rfl,off S 87 21 (by decide) rfl⟩
theorem Zlc (dp:Nat)(p:Prog)(c:Conf)(d:Dir)(hi:p.ins.length<1073741824)(hm:p.mems.length<1073741824)(hl:c.buf.length<1073741824):Z6 E fn (dp+10) 87 [Zw p,ZS c,.agg (Cl.cells d)] (vb (Md.Q0 (Zz p.mems) p c d)):=by
 unfold Z6
 show Z7 (Z4 E fn (dp+9+1) 87 [.d (Zw p),.d (ZS c),.d (.agg (Cl.cells d))] [])=_
 rw[ZD,S.Zbi,ZG,Zgv,ZC _ _ _ _ _ _ _ _ rfl]
 by_cases k1:d.kind=1
 ·by_cases h0 : 0 <= d.n
  ·simp only[eG,go_sem,Z3 S,Z2 S,zN0,zN1,zN2,zN3,zN4,zI0,zI1,zI2,zI3,reduceCtorEq,Pk S,k1,h0,ge_iff_le,Z2s S,hi,Md.Q0,Md.BC]
  ·simp only[eG,go_sem,Z3 S,Z2 S,zN0,zN1,zN2,zN3,zN4,zI0,zI1,zI2,zI3,reduceCtorEq,Pk S,k1,h0,ge_iff_le,Md.Q0,Md.BC]
 by_cases k2:d.kind=2
 ·simp only[eG,go_sem,Z3 S,Z2 S,zN0,zN1,zN2,zN3,zN4,zI0,zI1,zI2,zI3,reduceCtorEq,Pk S,k1,k2,Z2t S,hl,hm,Md.Q0]
 by_cases k3:d.kind=3
 ·simp only[eG,go_sem,Z3 S,Z2 S,zN0,zN1,zN2,zN3,zN4,zI0,zI1,zI2,zI3,reduceCtorEq,Pk S,k1,k2,k3,U6 S,hl,Md.Q0]
 by_cases k4:d.kind=4
 ·by_cases n0 : d.n = 0
  ·simp only[eG,go_sem,Z3 S,Z2 S,zN0,zN1,zN2,zN3,zN4,zI0,zI1,zI2,zI3,reduceCtorEq,Pk S,k1,k2,k3,k4,n0,DB S,Md.Q0]
  ·simp only[eG,go_sem,Z3 S,Z2 S,zN0,zN1,zN2,zN3,zN4,zI0,zI1,zI2,zI3,reduceCtorEq,Pk S,k1,k2,k3,k4,n0,Md.Q0]
 ·simp only[eG,go_sem,Z3 S,Z2 S,zN0,zN1,zN2,zN3,zN4,zI0,zI1,zI2,zI3,reduceCtorEq,Pk S,k1,k2,k3,k4,Md.Q0]
theorem U7 (dp:Nat)(p_w p_wn p_fu p_r0 p_r1 p_r2 p_r3:Int)(p_ms:List MemT)(p_ls:List Label)(p_is:List Ins)(c_r0 c_r1 c_r2 c_r3:Int)(c_mm c_st:List Int)(c_pc:Int)(c_bf:List Ent)(c_rb:List Int)(c_en d_k d_n:Int)(hi:(⟨p_w,p_wn,p_fu,⟨p_r0,p_r1,p_r2,p_r3⟩,p_ms,p_ls,p_is⟩:Prog).ins.length<1073741824)(hm:(⟨p_w,p_wn,p_fu,⟨p_r0,p_r1,p_r2,p_r3⟩,p_ms,p_ls,p_is⟩:Prog).mems.length<1073741824)(hl:(⟨⟨⟨c_r0,c_r1,c_r2,c_r3⟩,c_mm,c_st,c_pc⟩,c_bf,c_rb,c_en⟩:Conf).buf.length<1073741824)(A:List Blk)(nb:Nat)(us:List Nat):Zv false E (Z4 E fn (dp+10)) 87 A nb (some ([.agg [vi p_w,vi p_wn,vi p_fu,vi p_r0,vi p_r1,vi p_r2,vi p_r3,rD p_ms,rD p_ls,rD p_is],.agg [vi c_r0,vi c_r1,vi c_r2,vi c_r3,rD c_mm,rD c_st,vi c_pc,rD c_bf,rD c_rb,vi c_en],.agg [vi d_k,vi d_n]],us))=some (.made (.d (vb (Md.Q0 (Zz (⟨p_w,p_wn,p_fu,⟨p_r0,p_r1,p_r2,p_r3⟩,p_ms,p_ls,p_is⟩:Prog).mems) (⟨p_w,p_wn,p_fu,⟨p_r0,p_r1,p_r2,p_r3⟩,p_ms,p_ls,p_is⟩:Prog) (⟨⟨⟨c_r0,c_r1,c_r2,c_r3⟩,c_mm,c_st,c_pc⟩,c_bf,c_rb,c_en⟩:Conf) (⟨d_k,d_n⟩:Dir)))) []):=
 Z6.flat (Zlc S dp (⟨p_w,p_wn,p_fu,⟨p_r0,p_r1,p_r2,p_r3⟩,p_ms,p_ls,p_is⟩:Prog) (⟨⟨⟨c_r0,c_r1,c_r2,c_r3⟩,c_mm,c_st,c_pc⟩,c_bf,c_rb,c_en⟩:Conf) (⟨d_k,d_n⟩:Dir) hi hm hl) (np S 87 (by decide)) (rfl) A nb us
end
end Go.Aug.Mc
