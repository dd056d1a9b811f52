import Derived.Test.YtmfdoekbjkgckaaGreatMc49
import Derived.Test.YtmfdoekbjkgckaaGreatMc33
import Derived.Test.YtmfdoekbjkgckaaGreatMc12
import Derived.Test.YtmfdoekbjkgckaaGreatMl
namespace Go.Aug.Mc
open Go Go.Aug
open Nat renaming reduceLT -> zN0, reduceEqDiff -> zN1, reduceAdd -> zN2, reduceMul -> zN3, reduceLeDiff -> zN4
open Int renaming reduceEq -> zI0, reduceLT -> zI1, reduceLE -> zI2, reduceNeg -> zI3
set_option linter.unusedSimpArgs false
set_option linter.unusedVariables false
set_option maxHeartbeats 40000000
set_option maxRecDepth 200000
theorem Gv (rs:List IRes)(c:CT)(E:Env)(call:cT)(f:FuncId)(x y z:AV)(A:List Blk):ZJ 80 rs c E call f [x,y,z] A=c { E with live:=E.lives f,nb0:=A.length } call (ZY A.length rs) (fun _ _ _=>none) (ZY A.length rs) (mk JV 80 (MC 0 [x,y,z])) A:=ZN _ _ _ _ _ _ _ _ rfl
variable {E:Env} {fn:FuncId->Option (Env->cT->cT)}
section
variable (S:Sur E fn)
include S
theorem DP:E.lives 65 7=none/\E.lives 65 21=none:=⟨off S 65 7 (by decide) rfl,off S 65 21 (by decide) rfl⟩
theorem E1 (dp:Nat)(r0 r1 r2 r3:Int)(mm sk:List Int)(pc:Int)(bf:List Ent)(rb:List Int)(en:Int)(hm:mm.length<1073741824)(hs:sk.length<1073741824)(hb:bf.length<1073741824)(hr:rb.length<1073741824)(A:List Blk)(nb:Nat):
  ZC true E (Z4 E fn (dp+2)) 67 A nb (some ([.agg [vi r0,vi r1,vi r2,vi r3,rD mm,rD sk,vi pc,rD bf,rD rb,vi en]],[]))=some (.made (.agg [aI r0,aI r1,aI r2,aI r3,YG nb mm,YG (nb+(Yw mm).length) sk,aI pc,.d (rD bf),.d (rD rb),aI en]) (Yw mm++Yw sk)):=by
 have h:=Z51 S dp r0 r1 r2 r3 mm sk pc bf rb en hm hs hb hr
 have hr:JM E (Z4 E fn (dp+2)) 67 [.agg [vi r0,vi r1,vi r2,vi r3,rD mm,rD sk,vi pc,rD bf,rD rb,vi en]]=some (.agg [aI r0,aI r1,aI r2,aI r3,YG 0 mm,YG (Yw mm).length sk,aI pc,.d (rD bf),.d (rD rb),aI en],Yw mm++Yw sk):=by
  unfold JM
  rw[np S 67 (by decide)]
  exact h
 simp only[ZC,hr,EU,cond_true]
 by_cases h1:mm.length=0<;>by_cases h2:sk.length=0
 ·have e1 : mm = [] := List.length_eq_zero_iff.1 h1
  have e2:sk=[]:=List.length_eq_zero_iff.1 h2
  subst e1 e2
  rfl
 ·have e1 : mm = [] := List.length_eq_zero_iff.1 h1
  subst e1
  simp[Y5,Y4,ZB h2,ZA h2,Ax,DQ,DJ,B3,Yj,Cl.n]
 ·have e2 : sk = [] := List.length_eq_zero_iff.1 h2
  subst e2
  simp[Y5,Y4,ZB h1,ZA h1,Ax,DQ,DJ,B3,Yj,Cl.n]
 ·simp[ZB h1,ZA h1,ZB h2,ZA h2,Ax,DQ,DJ,B3,Yj,Cl.n]
theorem Zi3 (dp:Nat)(p:Prog)(c:Conf)(hl:c.buf.length<1073741823)(hm:c.state.mem.length<1073741824)(hs:c.state.stack.length<1073741823)(hr:c.rsb.length<1073741824)(hd:0<=(Md.at_ p (Md.ZR c.buf 0).pc).d/\(Md.at_ p (Md.ZR c.buf 0).pc).d<=3):Z6 E fn (dp+5) 65 [Zz p,ZP c] (.tup [ZP (J6 p c),vb (Md.Q2 p c)]):=by
 unfold Z6
 show Zj (Z4 E fn (dp+4+1) 65 [.d (Zz p),.d (ZP c)] [])=_
 rw[ZK,S.Z8b,ZM,Zdh,ZN _ _ _ _ _ _ _ _ rfl]
 cases hcan:Md.Q2 p c with
 | false=>simp only[eG,go_sem,Z3 S,Z2 S,zN0,zN1,zN2,zN3,zN4,zI0,zI1,zI2,zI3,reduceCtorEq,DP S,Jx S,hcan,Bool.not_false,J6,Md.JB]
 | true=>
  obtain⟨e,he,he0,hend⟩:=UH hcan
  have hl1:c.buf.length<1073741824:=by omega
  have hs1:c.state.stack.length<1073741824:=by omega
  have hlen:0<c.buf.length:=(List.getElem?_eq_some_iff.1 he).1
  rw[he0] at hd
  generalize hxx:Md.at_ p e.pc=x at *
  have run:=fun a b d A=>(show Z4 E fn (dp+4) 112 [a,b,d] A=FR E (Z4 E fn (dp+3)) 112 [a,b,d] A by rw[ZK,S.Z8a,ZM])
  have e1:c.state.mem.length=0->c.state.mem=[]:=List.length_eq_zero_iff.1
  have e2:c.state.stack.length=0->c.state.stack=[]:=List.length_eq_zero_iff.1
  have d4:x.d=0∨x.d=1∨x.d=2∨x.d=3:=by omega
  have d0:=hd.1
  have d1:x.d<4:=by omega
  have hst:∀(A:List Blk) (m s q b r n:AV),storeAt A 0 0 (x.d.toNat*1) [.d (vi e.val)] 1 (some (.cells [.d (vi c.state.regs.r0),.d (vi c.state.regs.r1),.d (vi c.state.regs.r2),.d (vi c.state.regs.r3),m,s,q,b,r,n] 0 false))=some (A.set 0 (.cells [.d (vi (Md.CE c.state.regs x.d e.val).r0),.d (vi (Md.CE c.state.regs x.d e.val).r1),.d (vi (Md.CE c.state.regs x.d e.val).r2),.d (vi (Md.CE c.state.regs x.d e.val).r3),m,s,q,b,r,n] 0 false)):=fun A m s q b r n=>by
   rcases d4 with d | d | d | d<;>rw[d]<;>rfl
  have n1:c.state.mem.length*8<=Z5:=by unfold Z5;omega
  have n2:c.state.mem.length<=Z5:=by unfold Z5;omega
  have n5:(c.state.stack.length+1)*8<=Z5:=by unfold Z5;omega
  have n6:c.state.stack.length+1<=Z5:=by unfold Z5;omega
  have hdl:∀ b,deep [b,.cells ((rC (c.state.stack++[IntKind.i64.wrap (e.pc+1)])).map .d) 0 false] 6 (.sref 1 0 0 (c.state.stack.length+1) 1 none)=some (.lst (rC (c.state.stack++[IntKind.i64.wrap (e.pc+1)])) (c.state.stack++[IntKind.i64.wrap (e.pc+1)]).length none,[1]):=fun b=>by
   rw[show c.state.stack.length+1=(c.state.stack++[IntKind.i64.wrap (e.pc+1)]).length by simp]
   exact BQ rfl (by simp) 4 _ 1 none rfl rfl
  have cp0:∀(A:List Blk) (nb:Nat),ZC false E (Z4 E fn (dp+3)) 136 A nb (some ([.lst [] 0 none],[]))=some (.made (.d (.tup [vi 0,.lst [] 0 none,vb false])) []):=fun A nb=>RT S (dp+2) [] (by decide) A nb
  have cpF:c.state.stack.dropLast.length=0->∀(A:List Blk) (nb:Nat) (us:List Nat),ZC false E (Z4 E fn (dp+3)) 136 A nb (some ([rD c.state.stack],us))=some (.made (.d (.tup [vi (Md.Cj c.state.stack),rD c.state.stack.dropLast,vb (decide (c.state.stack.length≠0))])) []):=fun h A nb us=>
   Z6.flat (XQ S (dp+2) c.state.stack hs1) (np S 136 (by decide)) (by rw[List.length_eq_zero_iff.1 h];rfl) A nb us
  have cpU:¬c.state.stack.dropLast.length=0->∀(A:List Blk) (nb ui:Nat) (us:List Nat),ZC false E (Z4 E fn (dp+3)) 136 A nb (some ([rD c.state.stack],ui::us))=some (.turned (.d (.tup [vi (Md.Cj c.state.stack),rD c.state.stack.dropLast,vb (decide (c.state.stack.length≠0))])) (YT A (ui::us))):=fun h A nb ui us=>
   Zfw S (dp+2) c.state.stack hs1 (by
    cases hq:c.state.stack.dropLast with
    | nil=>rw[hq] at h;exact absurd rfl h
    | cons a l=>rfl) A nb ui us
  have hap1:(c.state.stack.length+1)*1<=(List.map AV.d (rC (c.state.stack++[IntKind.i64.wrap (e.pc+1)]))).length:=JZ _ _ (by simp)
  have hap2:(c.state.stack++[IntKind.i64.wrap (e.pc+1)]).take (c.state.stack.length+1)=c.state.stack++[IntKind.i64.wrap (e.pc+1)]:=List.take_of_length_le (by simp)
  have hap3:DV.lst (rC (c.state.stack++[IntKind.i64.wrap (e.pc+1)])) (c.state.stack.length+1) none=rD (c.state.stack++[IntKind.i64.wrap (e.pc+1)]):=by unfold rD;rw[List.length_append];rfl
  have hmem:(c.state.mem.length=0/\(∀ i,YG i c.state.mem=.d (.lst [] 0 (some 0)))/\Yw c.state.mem=[])∨(¬c.state.mem.length=0/\(∀ i,YG i c.state.mem=.sref i 0 0 c.state.mem.length 1 none)/\Yw c.state.mem=[.cells ((rC c.state.mem).map .d) 0 false]):=by
   by_cases h:c.state.mem.length=0
   ·exact .inl ⟨h,GD h,GC h⟩
   ·exact .inr ⟨h,fun i=>ZB h i,ZA h⟩
  have hsk:(c.state.stack.length=0/\(∀ i,YG i c.state.stack=.d (.lst [] 0 (some 0)))/\Yw c.state.stack=[])∨(¬c.state.stack.length=0/\(∀ i,YG i c.state.stack=.sref i 0 0 c.state.stack.length 1 none)/\Yw c.state.stack=[.cells ((rC c.state.stack).map .d) 0 false]):=by
   by_cases h:c.state.stack.length=0
   ·exact .inl ⟨h,GD h,GC h⟩
   ·exact .inr ⟨h,fun i=>ZB h i,ZA h⟩
  rcases hmem with⟨m0,mA,mB⟩ | ⟨m0,mA,mB⟩<;>rcases hsk with⟨s0,sA,sB⟩ | ⟨s0,sA,sB⟩
  all_goals
   generalize hB:(cQ (Z1 [st 44 (oA (.t 3) 0),st 45 (oL (.t 6) true 8),st 46 (oL (.t 9) true 9),st 47 (oK (.f 112) [(.t 44),(.t 45),(.t 46)])]) _:CT)=BB
   simp only[eG,go_sem,Z3 S,Z2 S,zN0,zN1,zN2,zN3,zN4,zI0,zI1,zI2,zI3,reduceCtorEq,DP S,Jx S,hcan,Bool.not_true,Bool.not_false,E1 S,hm,hs,hs1,hr,hl,hl1,hlen,E8 S,he0,Yx S,hxx,E9 S,J6,Md.J5,Md.Jq,QA,Qw,Qv,Qz,eq_true hend,mA,mB,sA,sB,m0,s0]
   rw[<-hB]
   clear hB BB
   cases hf:e.fault with
   | true=>simp only[eG,go_sem,Z3 S,Z2 S,zN0,zN1,zN2,zN3,zN4,zI0,zI1,zI2,zI3,reduceCtorEq,DP S,Jx S,hcan,Bool.not_true,Bool.not_false,E1 S,hm,hs,hs1,hr,hl,hl1,hlen,E8 S,he0,Yx S,hxx,E9 S,J6,Md.J5,Md.Jq,QA,Qw,Qv,Qz,eq_true hend,Yk,JZ,AE,Nat.le_refl,Option.bind_some,Option.map_none,AB,Az,AC,List.take_length,Jw,List.length_set,Dq,BV,A8,n1,n2,n5,n6,ne_eq,not_false_eq_true,not_true_eq_false,Nat.zero_mul,Nat.one_mul,m0,s0,hf];((try rw[hend]);(first | done | rfl | (rw[e1 m0];rfl) | (rw[e2 s0];rfl) | (rw[e1 m0,e2 s0];rfl)))
   | false=>
    by_cases k12:x.kind=12
    ·simp only[eG,go_sem,Z3 S,Z2 S,zN0,zN1,zN2,zN3,zN4,zI0,zI1,zI2,zI3,reduceCtorEq,DP S,Jx S,hcan,Bool.not_true,Bool.not_false,E1 S,hm,hs,hs1,hr,hl,hl1,hlen,E8 S,he0,Yx S,hxx,E9 S,J6,Md.J5,Md.Jq,QA,Qw,Qv,Qz,eq_true hend,Yk,JZ,AE,Nat.le_refl,Option.bind_some,Option.map_none,AB,Az,AC,List.take_length,Jw,List.length_set,Dq,BV,A8,n1,n2,n5,n6,ne_eq,not_false_eq_true,not_true_eq_false,Nat.zero_mul,Nat.one_mul,m0,s0,hf,k12];((try rw[hend]);(first | done | rfl | (rw[e1 m0];rfl) | (rw[e2 s0];rfl) | (rw[e1 m0,e2 s0];rfl)))
    by_cases k11:x.kind=11
    ·simp only[eG,go_sem,Z3 S,Z2 S,zN0,zN1,zN2,zN3,zN4,zI0,zI1,zI2,zI3,reduceCtorEq,DP S,Jx S,hcan,Bool.not_true,Bool.not_false,E1 S,hm,hs,hs1,hr,hl,hl1,hlen,E8 S,he0,Yx S,hxx,E9 S,J6,Md.J5,Md.Jq,QA,Qw,Qv,Qz,eq_true hend,Yk,JZ,AE,Nat.le_refl,Option.bind_some,Option.map_none,AB,Az,AC,List.take_length,Jw,List.length_set,Dq,BV,A8,n1,n2,n5,n6,ne_eq,not_false_eq_true,not_true_eq_false,Nat.zero_mul,Nat.one_mul,m0,s0,hf,k11];((try rw[hend]);(first | done | rfl | (rw[e1 m0];rfl) | (rw[e2 s0];rfl) | (rw[e1 m0,e2 s0];rfl)))
    by_cases k1:x.kind=1
    ·simp only[eG,go_sem,Z3 S,Z2 S,zN0,zN1,zN2,zN3,zN4,zI0,zI1,zI2,zI3,reduceCtorEq,DP S,Jx S,hcan,Bool.not_true,Bool.not_false,E1 S,hm,hs,hs1,hr,hl,hl1,hlen,E8 S,he0,Yx S,hxx,E9 S,J6,Md.J5,Md.Jq,QA,Qw,Qv,Qz,eq_true hend,show Nat.ble 1 1=true from rfl,show Nat.ble 2 2=true from rfl,show Nat.ble 3 3=true from rfl,show Nat.ble 1 2=true from rfl,show Nat.ble 2 3=true from rfl,List.getElem?_nil,List.getD_nil,Nat.reduceSub,Nat.sub_self,run,FR,Gv,off S 112 9 (by decide) rfl,off S 112 11 (by decide) rfl,off S 112 13 (by decide) rfl,off S 112 15 (by decide) rfl,off S 112 19 (by decide) rfl,off S 112 21 (by decide) rfl,off S 112 25 (by decide) rfl,off S 112 29 (by decide) rfl,QU,A7,AH,B1,Eq,AJ,A9,Aj,AW,AX,AN,AP,AK,AM,AQ,AR,Ak,Aq,Av,AU,E5,YN,YC,YD,YE,YF,List.take_succ_cons,List.take_zero,List.drop_succ_cons,List.drop_zero,List.getD_cons_zero,List.getD_cons_succ,ZE,ZF,ZG,ZH,Z7,Option.map_some,Nat.zero_add,Nat.add_zero,hst,d0,d1,Z2 S,Yk,JZ,AE,Nat.le_refl,Option.bind_some,Option.map_none,AB,Az,AC,List.take_length,Jw,List.length_set,Dq,BV,A8,n1,n2,n5,n6,ne_eq,not_false_eq_true,not_true_eq_false,Nat.zero_mul,Nat.one_mul,Int.cast_ofNat_Int,true_and,Md.AF,Md.ZX,m0,s0,hf,k1];((try rw[hend]);(first | done | rfl | (rw[e1 m0];rfl) | (rw[e2 s0];rfl) | (rw[e1 m0,e2 s0];rfl)))
    by_cases k2:x.kind=2
    ·simp only[eG,go_sem,Z3 S,Z2 S,zN0,zN1,zN2,zN3,zN4,zI0,zI1,zI2,zI3,reduceCtorEq,DP S,Jx S,hcan,Bool.not_true,Bool.not_false,E1 S,hm,hs,hs1,hr,hl,hl1,hlen,E8 S,he0,Yx S,hxx,E9 S,J6,Md.J5,Md.Jq,QA,Qw,Qv,Qz,eq_true hend,show Nat.ble 1 1=true from rfl,show Nat.ble 2 2=true from rfl,show Nat.ble 3 3=true from rfl,show Nat.ble 1 2=true from rfl,show Nat.ble 2 3=true from rfl,List.getElem?_nil,List.getD_nil,Nat.reduceSub,Nat.sub_self,run,FR,Gv,off S 112 9 (by decide) rfl,off S 112 11 (by decide) rfl,off S 112 13 (by decide) rfl,off S 112 15 (by decide) rfl,off S 112 19 (by decide) rfl,off S 112 21 (by decide) rfl,off S 112 25 (by decide) rfl,off S 112 29 (by decide) rfl,QU,A7,AH,B1,Eq,AJ,A9,Aj,AW,AX,AN,AP,AK,AM,AQ,AR,Ak,Aq,Av,AU,E5,YN,YC,YD,YE,YF,List.take_succ_cons,List.take_zero,List.drop_succ_cons,List.drop_zero,List.getD_cons_zero,List.getD_cons_succ,ZE,ZF,ZG,ZH,Z7,Option.map_some,Nat.zero_add,Nat.add_zero,hst,d0,d1,Z2 S,Yk,JZ,AE,Nat.le_refl,Option.bind_some,Option.map_none,AB,Az,AC,List.take_length,Jw,List.length_set,Dq,BV,A8,n1,n2,n5,n6,ne_eq,not_false_eq_true,not_true_eq_false,Nat.zero_mul,Nat.one_mul,Int.cast_ofNat_Int,true_and,Md.AF,Md.ZX,m0,s0,hf,k2];((try rw[hend]);(first | done | rfl | (rw[e1 m0];rfl) | (rw[e2 s0];rfl) | (rw[e1 m0,e2 s0];rfl)))
    by_cases k4:x.kind=4
    ·simp only[eG,go_sem,Z3 S,Z2 S,zN0,zN1,zN2,zN3,zN4,zI0,zI1,zI2,zI3,reduceCtorEq,DP S,Jx S,hcan,Bool.not_true,Bool.not_false,E1 S,hm,hs,hs1,hr,hl,hl1,hlen,E8 S,he0,Yx S,hxx,E9 S,J6,Md.J5,Md.Jq,QA,Qw,Qv,Qz,eq_true hend,show Nat.ble 1 1=true from rfl,show Nat.ble 2 2=true from rfl,show Nat.ble 3 3=true from rfl,show Nat.ble 1 2=true from rfl,show Nat.ble 2 3=true from rfl,List.getElem?_nil,List.getD_nil,Nat.reduceSub,Nat.sub_self,run,FR,Gv,off S 112 9 (by decide) rfl,off S 112 11 (by decide) rfl,off S 112 13 (by decide) rfl,off S 112 15 (by decide) rfl,off S 112 19 (by decide) rfl,off S 112 21 (by decide) rfl,off S 112 25 (by decide) rfl,off S 112 29 (by decide) rfl,QU,A7,AH,B1,Eq,AJ,A9,Aj,AW,AX,AN,AP,AK,AM,AQ,AR,Ak,Aq,Av,AU,E5,YN,YC,YD,YE,YF,List.take_succ_cons,List.take_zero,List.drop_succ_cons,List.drop_zero,List.getD_cons_zero,List.getD_cons_succ,ZE,ZF,ZG,ZH,Z7,Option.map_some,Nat.zero_add,Nat.add_zero,hst,d0,d1,Z2 S,Yk,JZ,AE,Nat.le_refl,Option.bind_some,Option.map_none,AB,Az,AC,List.take_length,Jw,List.length_set,Dq,BV,A8,n1,n2,n5,n6,ne_eq,not_false_eq_true,not_true_eq_false,Nat.zero_mul,Nat.one_mul,Int.cast_ofNat_Int,true_and,Md.AF,Md.ZX,m0,s0,hf,k4];((try rw[hend]);(first | done | rfl | (rw[e1 m0];rfl) | (rw[e2 s0];rfl) | (rw[e1 m0,e2 s0];rfl)))
    by_cases k3:x.kind=3
    ·by_cases a : 0 <= e.addr /\ e.addr < c.state.mem.length
     ·obtain ⟨a0, a1⟩ := a
      have a2:e.addr.toNat<c.state.mem.length:=by omega
      first
       | (exfalso;omega)
       | (simp only[eG,go_sem,Z3 S,Z2 S,zN0,zN1,zN2,zN3,zN4,zI0,zI1,zI2,zI3,reduceCtorEq,DP S,Jx S,hcan,Bool.not_true,Bool.not_false,E1 S,hm,hs,hs1,hr,hl,hl1,hlen,E8 S,he0,Yx S,hxx,E9 S,J6,Md.J5,Md.Jq,QA,Qw,Qv,Qz,eq_true hend,show Nat.ble 1 1=true from rfl,show Nat.ble 2 2=true from rfl,show Nat.ble 3 3=true from rfl,show Nat.ble 1 2=true from rfl,show Nat.ble 2 3=true from rfl,List.getElem?_nil,List.getD_nil,Nat.reduceSub,Nat.sub_self,run,FR,Gv,off S 112 9 (by decide) rfl,off S 112 11 (by decide) rfl,off S 112 13 (by decide) rfl,off S 112 15 (by decide) rfl,off S 112 19 (by decide) rfl,off S 112 21 (by decide) rfl,off S 112 25 (by decide) rfl,off S 112 29 (by decide) rfl,QU,A7,AH,B1,Eq,AJ,A9,Aj,AW,AX,AN,AP,AK,AM,AQ,AR,Ak,Aq,Av,AU,E5,YN,YC,YD,YE,YF,List.take_succ_cons,List.take_zero,List.drop_succ_cons,List.drop_zero,List.getD_cons_zero,List.getD_cons_succ,ZE,ZF,ZG,ZH,Z7,Option.map_some,Nat.zero_add,Nat.add_zero,hst,d0,d1,Z2 S,Yk,JZ,AE,Nat.le_refl,Option.bind_some,Option.map_none,AB,Az,AC,List.take_length,Jw,List.length_set,Dq,BV,A8,n1,n2,n5,n6,ne_eq,not_false_eq_true,not_true_eq_false,Nat.zero_mul,Nat.one_mul,Int.cast_ofNat_Int,true_and,Md.AF,Md.ZX,m0,s0,hf,k3,a0,a1,Z2y a2,and_self];((try rw[hend]);(first | done | rfl | (rw[e1 m0];rfl) | (rw[e2 s0];rfl) | (rw[e1 m0,e2 s0];rfl))))
     ·by_cases a0 : 0 <= e.addr
      ·have a1 : ¬ e.addr < c.state.mem.length := fun h => a ⟨a0, h⟩
       have a1':c.state.mem.length=0->¬e.addr<((0:Nat):Int):=fun h=>by omega
       have a1'':c.state.mem.length=0->¬e.addr<0:=fun h=>by omega
       simp only[eG,go_sem,Z3 S,Z2 S,zN0,zN1,zN2,zN3,zN4,zI0,zI1,zI2,zI3,reduceCtorEq,DP S,Jx S,hcan,Bool.not_true,Bool.not_false,E1 S,hm,hs,hs1,hr,hl,hl1,hlen,E8 S,he0,Yx S,hxx,E9 S,J6,Md.J5,Md.Jq,QA,Qw,Qv,Qz,eq_true hend,show Nat.ble 1 1=true from rfl,show Nat.ble 2 2=true from rfl,show Nat.ble 3 3=true from rfl,show Nat.ble 1 2=true from rfl,show Nat.ble 2 3=true from rfl,List.getElem?_nil,List.getD_nil,Nat.reduceSub,Nat.sub_self,run,FR,Gv,off S 112 9 (by decide) rfl,off S 112 11 (by decide) rfl,off S 112 13 (by decide) rfl,off S 112 15 (by decide) rfl,off S 112 19 (by decide) rfl,off S 112 21 (by decide) rfl,off S 112 25 (by decide) rfl,off S 112 29 (by decide) rfl,QU,A7,AH,B1,Eq,AJ,A9,Aj,AW,AX,AN,AP,AK,AM,AQ,AR,Ak,Aq,Av,AU,E5,YN,YC,YD,YE,YF,List.take_succ_cons,List.take_zero,List.drop_succ_cons,List.drop_zero,List.getD_cons_zero,List.getD_cons_succ,ZE,ZF,ZG,ZH,Z7,Option.map_some,Nat.zero_add,Nat.add_zero,hst,d0,d1,Z2 S,Yk,JZ,AE,Nat.le_refl,Option.bind_some,Option.map_none,AB,Az,AC,List.take_length,Jw,List.length_set,Dq,BV,A8,n1,n2,n5,n6,ne_eq,not_false_eq_true,not_true_eq_false,Nat.zero_mul,Nat.one_mul,Int.cast_ofNat_Int,true_and,Md.AF,Md.ZX,m0,s0,hf,k3,a0,a1,a1' ,a1'',and_false];((try rw[hend]);(first | done | rfl | (rw[e1 m0];rfl) | (rw[e2 s0];rfl) | (rw[e1 m0,e2 s0];rfl)))
      ·simp only[eG,go_sem,Z3 S,Z2 S,zN0,zN1,zN2,zN3,zN4,zI0,zI1,zI2,zI3,reduceCtorEq,DP S,Jx S,hcan,Bool.not_true,Bool.not_false,E1 S,hm,hs,hs1,hr,hl,hl1,hlen,E8 S,he0,Yx S,hxx,E9 S,J6,Md.J5,Md.Jq,QA,Qw,Qv,Qz,eq_true hend,show Nat.ble 1 1=true from rfl,show Nat.ble 2 2=true from rfl,show Nat.ble 3 3=true from rfl,show Nat.ble 1 2=true from rfl,show Nat.ble 2 3=true from rfl,List.getElem?_nil,List.getD_nil,Nat.reduceSub,Nat.sub_self,run,FR,Gv,off S 112 9 (by decide) rfl,off S 112 11 (by decide) rfl,off S 112 13 (by decide) rfl,off S 112 15 (by decide) rfl,off S 112 19 (by decide) rfl,off S 112 21 (by decide) rfl,off S 112 25 (by decide) rfl,off S 112 29 (by decide) rfl,QU,A7,AH,B1,Eq,AJ,A9,Aj,AW,AX,AN,AP,AK,AM,AQ,AR,Ak,Aq,Av,AU,E5,YN,YC,YD,YE,YF,List.take_succ_cons,List.take_zero,List.drop_succ_cons,List.drop_zero,List.getD_cons_zero,List.getD_cons_succ,ZE,ZF,ZG,ZH,Z7,Option.map_some,Nat.zero_add,Nat.add_zero,hst,d0,d1,Z2 S,Yk,JZ,AE,Nat.le_refl,Option.bind_some,Option.map_none,AB,Az,AC,List.take_length,Jw,List.length_set,Dq,BV,A8,n1,n2,n5,n6,ne_eq,not_false_eq_true,not_true_eq_false,Nat.zero_mul,Nat.one_mul,Int.cast_ofNat_Int,true_and,Md.AF,Md.ZX,m0,s0,hf,k3,a0,false_and];((try rw[hend]);(first | done | rfl | (rw[e1 m0];rfl) | (rw[e2 s0];rfl) | (rw[e1 m0,e2 s0];rfl)))
    by_cases k8:x.kind=8
    ·simp only[eG,go_sem,Z3 S,Z2 S,zN0,zN1,zN2,zN3,zN4,zI0,zI1,zI2,zI3,reduceCtorEq,DP S,Jx S,hcan,Bool.not_true,Bool.not_false,E1 S,hm,hs,hs1,hr,hl,hl1,hlen,E8 S,he0,Yx S,hxx,E9 S,J6,Md.J5,Md.Jq,QA,Qw,Qv,Qz,eq_true hend,show Nat.ble 1 1=true from rfl,show Nat.ble 2 2=true from rfl,show Nat.ble 3 3=true from rfl,show Nat.ble 1 2=true from rfl,show Nat.ble 2 3=true from rfl,List.getElem?_nil,List.getD_nil,Nat.reduceSub,Nat.sub_self,run,FR,Gv,off S 112 9 (by decide) rfl,off S 112 11 (by decide) rfl,off S 112 13 (by decide) rfl,off S 112 15 (by decide) rfl,off S 112 19 (by decide) rfl,off S 112 21 (by decide) rfl,off S 112 25 (by decide) rfl,off S 112 29 (by decide) rfl,QU,A7,AH,B1,Eq,AJ,A9,Aj,AW,AX,AN,AP,AK,AM,AQ,AR,Ak,Aq,Av,AU,E5,YN,YC,YD,YE,YF,List.take_succ_cons,List.take_zero,List.drop_succ_cons,List.drop_zero,List.getD_cons_zero,List.getD_cons_succ,ZE,ZF,ZG,ZH,Z7,Option.map_some,Nat.zero_add,Nat.add_zero,hst,d0,d1,Z2 S,Yk,JZ,AE,Nat.le_refl,Option.bind_some,Option.map_none,AB,Az,AC,List.take_length,Jw,List.length_set,Dq,BV,A8,n1,n2,n5,n6,ne_eq,not_false_eq_true,not_true_eq_false,Nat.zero_mul,Nat.one_mul,Int.cast_ofNat_Int,true_and,Md.AF,Md.ZX,m0,s0,hf,k8,show(1:Nat)*8<=Z5 by decide,show(8:Nat)<=Z5 by decide,show(1:Nat)<=Z5 by decide,show(1:Nat)*1<=1 by decide,Nat.lt_add_one,Nat.one_ne_zero,show(0:Nat)<1 by decide,hdl,hap1,hap2,hap3];((try rw[hend]);(first | done | rfl | (rw[e1 m0];rfl) | (rw[e2 s0];rfl) | (rw[e1 m0,e2 s0];rfl)))
    by_cases k9:x.kind=9
    ·by_cases sz : c.state.stack.length = 0
     ·first
       | (exfalso;exact s0 sz)
       | (simp only[eG,go_sem,Z3 S,Z2 S,zN0,zN1,zN2,zN3,zN4,zI0,zI1,zI2,zI3,reduceCtorEq,DP S,Jx S,hcan,Bool.not_true,Bool.not_false,E1 S,hm,hs,hs1,hr,hl,hl1,hlen,E8 S,he0,Yx S,hxx,E9 S,J6,Md.J5,Md.Jq,QA,Qw,Qv,Qz,eq_true hend,show Nat.ble 1 1=true from rfl,show Nat.ble 2 2=true from rfl,show Nat.ble 3 3=true from rfl,show Nat.ble 1 2=true from rfl,show Nat.ble 2 3=true from rfl,List.getElem?_nil,List.getD_nil,Nat.reduceSub,Nat.sub_self,run,FR,Gv,off S 112 9 (by decide) rfl,off S 112 11 (by decide) rfl,off S 112 13 (by decide) rfl,off S 112 15 (by decide) rfl,off S 112 19 (by decide) rfl,off S 112 21 (by decide) rfl,off S 112 25 (by decide) rfl,off S 112 29 (by decide) rfl,QU,A7,AH,B1,Eq,AJ,A9,Aj,AW,AX,AN,AP,AK,AM,AQ,AR,Ak,Aq,Av,AU,E5,YN,YC,YD,YE,YF,List.take_succ_cons,List.take_zero,List.drop_succ_cons,List.drop_zero,List.getD_cons_zero,List.getD_cons_succ,ZE,ZF,ZG,ZH,Z7,Option.map_some,Nat.zero_add,Nat.add_zero,hst,d0,d1,Z2 S,Yk,JZ,AE,Nat.le_refl,Option.bind_some,Option.map_none,AB,Az,AC,List.take_length,Jw,List.length_set,Dq,BV,A8,n1,n2,n5,n6,ne_eq,not_false_eq_true,not_true_eq_false,Nat.zero_mul,Nat.one_mul,Int.cast_ofNat_Int,true_and,Md.AF,Md.ZX,m0,s0,hf,k9,cp0];((try rw[hend]);(first | done | rfl | (rw[e1 m0];rfl) | (rw[e2 s0];rfl) | (rw[e1 m0,e2 s0];rfl))))
     ·by_cases sd : c.state.stack.dropLast.length = 0
      ·first
        | (exfalso;exact sz s0)
        | (simp only[eG,go_sem,Z3 S,Z2 S,zN0,zN1,zN2,zN3,zN4,zI0,zI1,zI2,zI3,reduceCtorEq,DP S,Jx S,hcan,Bool.not_true,Bool.not_false,E1 S,hm,hs,hs1,hr,hl,hl1,hlen,E8 S,he0,Yx S,hxx,E9 S,J6,Md.J5,Md.Jq,QA,Qw,Qv,Qz,eq_true hend,show Nat.ble 1 1=true from rfl,show Nat.ble 2 2=true from rfl,show Nat.ble 3 3=true from rfl,show Nat.ble 1 2=true from rfl,show Nat.ble 2 3=true from rfl,List.getElem?_nil,List.getD_nil,Nat.reduceSub,Nat.sub_self,run,FR,Gv,off S 112 9 (by decide) rfl,off S 112 11 (by decide) rfl,off S 112 13 (by decide) rfl,off S 112 15 (by decide) rfl,off S 112 19 (by decide) rfl,off S 112 21 (by decide) rfl,off S 112 25 (by decide) rfl,off S 112 29 (by decide) rfl,QU,A7,AH,B1,Eq,AJ,A9,Aj,AW,AX,AN,AP,AK,AM,AQ,AR,Ak,Aq,Av,AU,E5,YN,YC,YD,YE,YF,List.take_succ_cons,List.take_zero,List.drop_succ_cons,List.drop_zero,List.getD_cons_zero,List.getD_cons_succ,ZE,ZF,ZG,ZH,Z7,Option.map_some,Nat.zero_add,Nat.add_zero,hst,d0,d1,Z2 S,Yk,JZ,AE,Nat.le_refl,Option.bind_some,Option.map_none,AB,Az,AC,List.take_length,Jw,List.length_set,Dq,BV,A8,n1,n2,n5,n6,ne_eq,not_false_eq_true,not_true_eq_false,Nat.zero_mul,Nat.one_mul,Int.cast_ofNat_Int,true_and,Md.AF,Md.ZX,m0,s0,hf,k9,cpF sd];((try rw[hend]);(first | done | rfl | (rw[e1 m0];rfl) | (rw[e2 s0];rfl) | (rw[e1 m0,e2 s0];rfl))))
      ·first
        | (exfalso;exact sz s0)
        | (simp only[eG,go_sem,Z3 S,Z2 S,zN0,zN1,zN2,zN3,zN4,zI0,zI1,zI2,zI3,reduceCtorEq,DP S,Jx S,hcan,Bool.not_true,Bool.not_false,E1 S,hm,hs,hs1,hr,hl,hl1,hlen,E8 S,he0,Yx S,hxx,E9 S,J6,Md.J5,Md.Jq,QA,Qw,Qv,Qz,eq_true hend,show Nat.ble 1 1=true from rfl,show Nat.ble 2 2=true from rfl,show Nat.ble 3 3=true from rfl,show Nat.ble 1 2=true from rfl,show Nat.ble 2 3=true from rfl,List.getElem?_nil,List.getD_nil,Nat.reduceSub,Nat.sub_self,run,FR,Gv,off S 112 9 (by decide) rfl,off S 112 11 (by decide) rfl,off S 112 13 (by decide) rfl,off S 112 15 (by decide) rfl,off S 112 19 (by decide) rfl,off S 112 21 (by decide) rfl,off S 112 25 (by decide) rfl,off S 112 29 (by decide) rfl,QU,A7,AH,B1,Eq,AJ,A9,Aj,AW,AX,AN,AP,AK,AM,AQ,AR,Ak,Aq,Av,AU,E5,YN,YC,YD,YE,YF,List.take_succ_cons,List.take_zero,List.drop_succ_cons,List.drop_zero,List.getD_cons_zero,List.getD_cons_succ,ZE,ZF,ZG,ZH,Z7,Option.map_some,Nat.zero_add,Nat.add_zero,hst,d0,d1,Z2 S,Yk,JZ,AE,Nat.le_refl,Option.bind_some,Option.map_none,AB,Az,AC,List.take_length,Jw,List.length_set,Dq,BV,A8,n1,n2,n5,n6,ne_eq,not_false_eq_true,not_true_eq_false,Nat.zero_mul,Nat.one_mul,Int.cast_ofNat_Int,true_and,Md.AF,Md.ZX,m0,s0,hf,k9,cpU sd];((try rw[hend]);(first | done | rfl | (rw[e1 m0];rfl) | (rw[e2 s0];rfl) | (rw[e1 m0,e2 s0];rfl))))
    simp only[eG,go_sem,Z3 S,Z2 S,zN0,zN1,zN2,zN3,zN4,zI0,zI1,zI2,zI3,reduceCtorEq,DP S,Jx S,hcan,Bool.not_true,Bool.not_false,E1 S,hm,hs,hs1,hr,hl,hl1,hlen,E8 S,he0,Yx S,hxx,E9 S,J6,Md.J5,Md.Jq,QA,Qw,Qv,Qz,eq_true hend,show Nat.ble 1 1=true from rfl,show Nat.ble 2 2=true from rfl,show Nat.ble 3 3=true from rfl,show Nat.ble 1 2=true from rfl,show Nat.ble 2 3=true from rfl,List.getElem?_nil,List.getD_nil,Nat.reduceSub,Nat.sub_self,run,FR,Gv,off S 112 9 (by decide) rfl,off S 112 11 (by decide) rfl,off S 112 13 (by decide) rfl,off S 112 15 (by decide) rfl,off S 112 19 (by decide) rfl,off S 112 21 (by decide) rfl,off S 112 25 (by decide) rfl,off S 112 29 (by decide) rfl,QU,A7,AH,B1,Eq,AJ,A9,Aj,AW,AX,AN,AP,AK,AM,AQ,AR,Ak,Aq,Av,AU,E5,YN,YC,YD,YE,YF,List.take_succ_cons,List.take_zero,List.drop_succ_cons,List.drop_zero,List.getD_cons_zero,List.getD_cons_succ,ZE,ZF,ZG,ZH,Z7,Option.map_some,Nat.zero_add,Nat.add_zero,hst,d0,d1,Z2 S,Yk,JZ,AE,Nat.le_refl,Option.bind_some,Option.map_none,AB,Az,AC,List.take_length,Jw,List.length_set,Dq,BV,A8,n1,n2,n5,n6,ne_eq,not_false_eq_true,not_true_eq_false,Nat.zero_mul,Nat.one_mul,Int.cast_ofNat_Int,true_and,Md.AF,Md.ZX,m0,s0,hf,k1,k2,k3,k4,k8,k9,k11,k12];((try rw[hend]);(first | done | rfl | (rw[e1 m0];rfl) | (rw[e2 s0];rfl) | (rw[e1 m0,e2 s0];rfl)))
end
variable {E:Env} {fn:FuncId->Option (Env->cT->cT)}
section
variable (S:Sur E fn)
include S
theorem Fq:E.lives 54 7=none/\E.lives 54 13=none/\E.lives 54 17=none:=⟨off S 54 7 (by decide) rfl,off S 54 13 (by decide) rfl,off S 54 17 (by decide) rfl⟩
theorem Zjf (dp:Nat)(p:Prog)(c:Conf)(hi:p.ins.length<1073741824):Z6 E fn (dp+2) 54 [Zz p,ZP c] (vi (Md.Q1 p c)):=by
 unfold Z6
 show Zj (Z4 E fn (dp+1+1) 54 [.d (Zz p),.d (ZP c)] [])=_
 rw[ZK,S.Z9u,ZM,Zf0,ZN _ _ _ _ _ _ _ _ rfl]
 have hw:IntKind.i64.wrap ((p.ins.length:Int)+1)=p.ins.length+1:=by rw[YY (by omega) (by omega)]
 by_cases h1:c.end_=0
 ·by_cases h2 : c.state.pc = -1
  ·simp only[eG,go_sem,Z3 S,Z2 S,zN0,zN1,zN2,zN3,zN4,zI0,zI1,zI2,zI3,reduceCtorEq,Fq S,h1,h2,Md.Q1,Ek S,ne_eq,not_true_eq_false,not_false_eq_true]
  ·by_cases h3 : (c.buf.length : Int) >= p.window
   ·simp only[eG,go_sem,Z3 S,Z2 S,zN0,zN1,zN2,zN3,zN4,zI0,zI1,zI2,zI3,reduceCtorEq,Fq S,h1,h2,h3,Md.Q1,Ek S,ne_eq,not_true_eq_false,not_false_eq_true]
   ·by_cases h9 : c.rsb.length = 0
    ·simp only [eG, go_sem, Z3 S, Z2 S, zN0, zN1, zN2, zN3, zN4, zI0, zI1, zI2, zI3, reduceCtorEq, Fq S, h1, h2, h3, h9, Md.Q1, Ek S, ne_eq, not_true_eq_false, not_false_eq_true, Yx S, Ek S, hw, Int.natCast_eq_zero]
     by_cases k5:(Md.at_ p c.state.pc).kind=5
     ·simp only[eG,go_sem,Z3 S,Z2 S,zN0,zN1,zN2,zN3,zN4,zI0,zI1,zI2,zI3,reduceCtorEq,Fq S,h9,hw,Int.natCast_eq_zero,ne_eq,not_true_eq_false,not_false_eq_true,Bool.not_true,Bool.not_false,k5,decide_true,decide_false,cond_true,cond_false,if_true,if_false,zI0]
     by_cases k7:(Md.at_ p c.state.pc).kind=7
     ·simp only[eG,go_sem,Z3 S,Z2 S,zN0,zN1,zN2,zN3,zN4,zI0,zI1,zI2,zI3,reduceCtorEq,Fq S,h9,hw,Int.natCast_eq_zero,ne_eq,not_true_eq_false,not_false_eq_true,Bool.not_true,Bool.not_false,k7,decide_true,decide_false,cond_true,cond_false,if_true,if_false,zI0,true_or]
     by_cases k9:(Md.at_ p c.state.pc).kind=9
     ·simp only[eG,go_sem,Z3 S,Z2 S,zN0,zN1,zN2,zN3,zN4,zI0,zI1,zI2,zI3,reduceCtorEq,Fq S,h9,hw,Int.natCast_eq_zero,ne_eq,not_true_eq_false,not_false_eq_true,Bool.not_true,Bool.not_false,k9,decide_true,decide_false,cond_true,cond_false,if_true,if_false,zI0,or_true,and_self]
     ·simp only[eG,go_sem,Z3 S,Z2 S,zN0,zN1,zN2,zN3,zN4,zI0,zI1,zI2,zI3,reduceCtorEq,Fq S,h9,hw,Int.natCast_eq_zero,ne_eq,not_true_eq_false,not_false_eq_true,Bool.not_true,Bool.not_false,k5,k7,k9,decide_true,decide_false,cond_true,cond_false,if_true,if_false,zI0,or_self,false_and]
    ·simp only [eG, go_sem, Z3 S, Z2 S, zN0, zN1, zN2, zN3, zN4, zI0, zI1, zI2, zI3, reduceCtorEq, Fq S, h1, h2, h3, h9, Md.Q1, Ek S, ne_eq, not_true_eq_false, not_false_eq_true, Yx S, Ek S, hw, Int.natCast_eq_zero]
     by_cases k5:(Md.at_ p c.state.pc).kind=5
     ·simp only[eG,go_sem,Z3 S,Z2 S,zN0,zN1,zN2,zN3,zN4,zI0,zI1,zI2,zI3,reduceCtorEq,Fq S,h9,hw,Int.natCast_eq_zero,ne_eq,not_true_eq_false,not_false_eq_true,Bool.not_true,Bool.not_false,k5,decide_true,decide_false,cond_true,cond_false,if_true,if_false,zI0]
     by_cases k7:(Md.at_ p c.state.pc).kind=7
     ·simp only[eG,go_sem,Z3 S,Z2 S,zN0,zN1,zN2,zN3,zN4,zI0,zI1,zI2,zI3,reduceCtorEq,Fq S,h9,hw,Int.natCast_eq_zero,ne_eq,not_true_eq_false,not_false_eq_true,Bool.not_true,Bool.not_false,k7,decide_true,decide_false,cond_true,cond_false,if_true,if_false,zI0,true_or]
     by_cases k9:(Md.at_ p c.state.pc).kind=9
     ·simp only[eG,go_sem,Z3 S,Z2 S,zN0,zN1,zN2,zN3,zN4,zI0,zI1,zI2,zI3,reduceCtorEq,Fq S,h9,hw,Int.natCast_eq_zero,ne_eq,not_true_eq_false,not_false_eq_true,Bool.not_true,Bool.not_false,k9,decide_true,decide_false,cond_true,cond_false,if_true,if_false,zI0,or_true,and_self,and_false,or_self]
     ·simp only[eG,go_sem,Z3 S,Z2 S,zN0,zN1,zN2,zN3,zN4,zI0,zI1,zI2,zI3,reduceCtorEq,Fq S,h9,hw,Int.natCast_eq_zero,ne_eq,not_true_eq_false,not_false_eq_true,Bool.not_true,Bool.not_false,k5,k7,k9,decide_true,decide_false,cond_true,cond_false,if_true,if_false,zI0,or_self,false_and]
 ·simp only[eG,go_sem,Z3 S,Z2 S,zN0,zN1,zN2,zN3,zN4,zI0,zI1,zI2,zI3,reduceCtorEq,Fq S,h1,Md.Q1,Ek S,ne_eq,not_true_eq_false,not_false_eq_true]
theorem Wx (dp:Nat)(p_w p_wn p_fu p_r0 p_r1 p_r2 p_r3:Int)(p_ms:List MemT)(p_ls:List Label)(p_is:List Ins)(c_r0 c_r1 c_r2 c_r3:Int)(c_mm c_st:List Int)(c_pc:Int)(c_bf:List Ent)(c_rb:List Int)(c_en:Int)(hi:(⟨p_w,p_wn,p_fu,⟨p_r0,p_r1,p_r2,p_r3⟩,p_ms,p_ls,p_is⟩:Prog).ins.length<1073741824)(A:List Blk)(nb:Nat)(us:List Nat):ZC false E (Z4 E fn (dp+2)) 54 A nb (some ([.agg [vi p_w,vi p_wn,vi p_fu,vi p_r0,vi p_r1,vi p_r2,vi p_r3,rD p_ms,rD p_ls,rD p_is],.agg [vi c_r0,vi c_r1,vi c_r2,vi c_r3,rD c_mm,rD c_st,vi c_pc,rD c_bf,rD c_rb,vi c_en]],us))=some (.made (.d (vi (Md.Q1 (⟨p_w,p_wn,p_fu,⟨p_r0,p_r1,p_r2,p_r3⟩,p_ms,p_ls,p_is⟩:Prog) (⟨⟨⟨c_r0,c_r1,c_r2,c_r3⟩,c_mm,c_st,c_pc⟩,c_bf,c_rb,c_en⟩:Conf)))) []):=
 Z6.flat (Zjf S dp (⟨p_w,p_wn,p_fu,⟨p_r0,p_r1,p_r2,p_r3⟩,p_ms,p_ls,p_is⟩:Prog) (⟨⟨⟨c_r0,c_r1,c_r2,c_r3⟩,c_mm,c_st,c_pc⟩,c_bf,c_rb,c_en⟩:Conf) hi) (np S 54 (by decide)) (rfl) A nb us
end
section
variable (S:Sur E fn)
include S
theorem NQ:E.lives 62 9=none/\E.lives 62 13=none/\E.lives 62 17=none/\E.lives 62 21=none:=⟨off S 62 9 (by decide) rfl,off S 62 13 (by decide) rfl,off S 62 17 (by decide) rfl,off S 62 21 (by decide) rfl⟩
theorem Zjv (dp:Nat)(p:Prog)(c:Conf)(d:Dir)(hi:p.ins.length<1073741824)(hm:p.mems.length<1073741824)(hl:c.buf.length<1073741824):Z6 E fn (dp+10) 62 [Zz p,ZP c,.agg (Cl.cells d)] (vb (Md.QB (Zk p.mems) p c d)):=by
 unfold Z6
 show Zj (Z4 E fn (dp+9+1) 62 [.d (Zz p),.d (ZP c),.d (.agg (Cl.cells d))] [])=_
 rw[ZK,S.Zaa,ZM,Zfg,ZN _ _ _ _ _ _ _ _ rfl]
 by_cases k1:d.kind=1
 ·by_cases h0 : 0 <= d.n
  ·simp only[eG,go_sem,Z3 S,Z2 S,zN0,zN1,zN2,zN3,zN4,zI0,zI1,zI2,zI3,reduceCtorEq,NQ S,k1,h0,ge_iff_le,Wx S,hi,Md.QB,Md.Cw]
  ·simp only[eG,go_sem,Z3 S,Z2 S,zN0,zN1,zN2,zN3,zN4,zI0,zI1,zI2,zI3,reduceCtorEq,NQ S,k1,h0,ge_iff_le,Md.QB,Md.Cw]
 by_cases k2:d.kind=2
 ·simp only[eG,go_sem,Z3 S,Z2 S,zN0,zN1,zN2,zN3,zN4,zI0,zI1,zI2,zI3,reduceCtorEq,NQ S,k1,k2,Px S,hl,hm,Md.QB]
 by_cases k3:d.kind=3
 ·simp only[eG,go_sem,Z3 S,Z2 S,zN0,zN1,zN2,zN3,zN4,zI0,zI1,zI2,zI3,reduceCtorEq,NQ S,k1,k2,k3,KD S,hl,Md.QB]
 by_cases k4:d.kind=4
 ·by_cases n0 : d.n = 0
  ·simp only[eG,go_sem,Z3 S,Z2 S,zN0,zN1,zN2,zN3,zN4,zI0,zI1,zI2,zI3,reduceCtorEq,NQ S,k1,k2,k3,k4,n0,Jx S,Md.QB]
  ·simp only[eG,go_sem,Z3 S,Z2 S,zN0,zN1,zN2,zN3,zN4,zI0,zI1,zI2,zI3,reduceCtorEq,NQ S,k1,k2,k3,k4,n0,Md.QB]
 ·simp only[eG,go_sem,Z3 S,Z2 S,zN0,zN1,zN2,zN3,zN4,zI0,zI1,zI2,zI3,reduceCtorEq,NQ S,k1,k2,k3,k4,Md.QB]
theorem TJ (dp:Nat)(p_w p_wn p_fu p_r0 p_r1 p_r2 p_r3:Int)(p_ms:List MemT)(p_ls:List Label)(p_is:List Ins)(c_r0 c_r1 c_r2 c_r3:Int)(c_mm c_st:List Int)(c_pc:Int)(c_bf:List Ent)(c_rb:List Int)(c_en d_k d_n:Int)(hi:(⟨p_w,p_wn,p_fu,⟨p_r0,p_r1,p_r2,p_r3⟩,p_ms,p_ls,p_is⟩:Prog).ins.length<1073741824)(hm:(⟨p_w,p_wn,p_fu,⟨p_r0,p_r1,p_r2,p_r3⟩,p_ms,p_ls,p_is⟩:Prog).mems.length<1073741824)(hl:(⟨⟨⟨c_r0,c_r1,c_r2,c_r3⟩,c_mm,c_st,c_pc⟩,c_bf,c_rb,c_en⟩:Conf).buf.length<1073741824)(A:List Blk)(nb:Nat)(us:List Nat):ZC false E (Z4 E fn (dp+10)) 62 A nb (some ([.agg [vi p_w,vi p_wn,vi p_fu,vi p_r0,vi p_r1,vi p_r2,vi p_r3,rD p_ms,rD p_ls,rD p_is],.agg [vi c_r0,vi c_r1,vi c_r2,vi c_r3,rD c_mm,rD c_st,vi c_pc,rD c_bf,rD c_rb,vi c_en],.agg [vi d_k,vi d_n]],us))=some (.made (.d (vb (Md.QB (Zk (⟨p_w,p_wn,p_fu,⟨p_r0,p_r1,p_r2,p_r3⟩,p_ms,p_ls,p_is⟩:Prog).mems) (⟨p_w,p_wn,p_fu,⟨p_r0,p_r1,p_r2,p_r3⟩,p_ms,p_ls,p_is⟩:Prog) (⟨⟨⟨c_r0,c_r1,c_r2,c_r3⟩,c_mm,c_st,c_pc⟩,c_bf,c_rb,c_en⟩:Conf) (⟨d_k,d_n⟩:Dir)))) []):=
 Z6.flat (Zjv S dp (⟨p_w,p_wn,p_fu,⟨p_r0,p_r1,p_r2,p_r3⟩,p_ms,p_ls,p_is⟩:Prog) (⟨⟨⟨c_r0,c_r1,c_r2,c_r3⟩,c_mm,c_st,c_pc⟩,c_bf,c_rb,c_en⟩:Conf) (⟨d_k,d_n⟩:Dir) hi hm hl) (np S 62 (by decide)) (rfl) A nb us
end
section
variable (S:Sur E fn)
include S
end
end Go.Aug.Mc
