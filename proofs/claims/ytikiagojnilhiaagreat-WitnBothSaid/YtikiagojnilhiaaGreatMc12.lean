import Derived.Test.YtikiagojnilhiaaGreatMc29
import Derived.Test.YtikiagojnilhiaaGreatMc49
import Derived.Test.YtikiagojnilhiaaGreatMc2
import Derived.Test.YtikiagojnilhiaaGreatMc24
namespace Go.Aug.Mc
open Go Go.Aug
open Nat renaming reduceLT -> zN0, reduceEqDiff -> zN1, reduceAdd -> zN2, reduceMul -> zN3, reduceLeDiff -> zN4
open Int renaming reduceEq -> zI0, reduceLT -> zI1, reduceLE -> zI2, reduceNeg -> zI3
set_option linter.unusedSimpArgs false
set_option linter.unusedVariables false
set_option maxHeartbeats 40000000
set_option maxRecDepth 200000
theorem app_fresh0' (A:List Blk)(s bytes n:Nat)(new:List AV)(h0:n≠0)(h1:n*bytes<=limA)(h2:n<=limA):evApp A s bytes (.d (.lst [] 0 (some 0))) new n=some (.fresh new n):=by
 obtain⟨m,rfl⟩:∃ m,n=m+1:=⟨n-1,by omega⟩
 rw[app_lst0,Nat.zero_add,if_pos ⟨by omega,by simp,h1,h2⟩];rfl
theorem wrI {l:List Int}{k:Nat}(h:k<l.length)(i v:Nat)(A:List Blk)(n:Int):storeAt A i v (k*1) [.d (vi n)] 1 (some (.cells ((rowC l).map .d) v false))=some (A.set i (.cells ((rowC (l.set k n)).map .d) v false)):=by
 have he:l[k]? =some l[k]:=List.getElem?_eq_getElem h
 exact st_row (o:=0) (e':=n) [vi n] he rfl rfl rfl rfl (by show 0+1<=1;decide) 1 rfl _ rfl
theorem dpI_len (l:List Int)(n:Nat)(hn:n<=l.length):n*1<=((rowC l).map AV.d).length:=by
 rw[List.length_map,rowC_len];exact Nat.mul_le_mul_right _ hn
theorem dpI_take (A:List Blk)(m n:Nat)(l:List Int):mapD (deep A (m+1)) (((rowC l).map AV.d).take (n*1))=some (rowC (l.take n),[]):=by
 rw[<-List.map_take,show n*1=n*Cl.n Int from rfl,rowC_take,mapD_dd]
theorem nc1 (A:List Blk)(x:DV)(k:Option Nat):newCells A false 1 (.d (.lst [x] 1 k))=some ([.d x],1):=rfl
theorem foldT (l:List Int)(n:Nat)(h:n<=l.length):DV.lst (rowC (l.take n)) n none=rowD (l.take n):=by
 unfold rowD;rw[List.length_take,Nat.min_eq_left h]
theorem takeS (l:List Int)(k:Nat)(v:Int):(l.set k v).take l.length=l.set k v:=List.take_of_length_le (by rw[List.length_set];exact Nat.le_refl _)
theorem foldS (l:List Int)(k:Nat)(v:Int):DV.lst (rowC (l.set k v)) l.length none=rowD (l.set k v):=by
 unfold rowD;rw[List.length_set]
def retC (p:Prog)(c:Conf):Conf:=bif Md.canRetire p c then Md.retire p c else Md.conf0
theorem retire_some {p:Prog}{c:Conf}(h:Md.canRetire p c=true):∃ e,c.buf[0]? =some e/\Md.entAt c.buf 0=e/\c.end_=0:=by
 simp only[Md.canRetire,Bool.and_eq_true,beq_iff_eq,decide_eq_true_eq] at h
 obtain⟨e,he⟩:=get_of (show 0<c.buf.length by omega)
 exact⟨e,he,by unfold Md.entAt;rw[show(0:Int).toNat=0 from rfl,he];rfl,h.1.1.1⟩
theorem and3 {n:Int}(h:n=0∨n=1∨n=2∨n=3):evBin .and (.d (vi n)) (.d (vi 3))=some (.d (vi n)):=by
 rcases h with rfl | rfl | rfl | rfl<;>rfl
variable {E:Env} {fn:FuncId->Option (Env->CallT->CallT)}
section
variable (S:Sur E fn)
include S
theorem o43_33:E.lives 43 7=none/\E.lives 43 21=none/\E.lives 43 25=none/\E.lives 43 29=none/\E.lives 43 33=none/\E.lives 43 37=none/\E.lives 43 41=none/\E.lives 43 45=none:=⟨off S 43 7 (by decide) rfl,off S 43 21 (by decide) rfl,off S 43 25 (by decide) rfl,off S 43 29 (by decide) rfl,off S 43 33 (by decide) rfl,off S 43 37 (by decide) rfl,off S 43 41 (by decide) rfl,off S 43 45 (by decide) rfl⟩
theorem raw_r9_Retire (dp:Nat)(p:Prog)(c:Conf)(hl:c.buf.length<1073741824)(hm:c.state.mem.length<1073741824)(hs:c.state.stack.length<1073741823)(hd:0<=(Md.at_ p (Md.entAt c.buf 0).pc).d/\(Md.at_ p (Md.entAt c.buf 0).pc).d<=3)(hx:Md.canRetire p c=true->(Md.at_ p (Md.entAt c.buf 0).pc).kind=3->(Md.entAt c.buf 0).fault=false->0<=(Md.entAt c.buf 0).addr/\(Md.entAt c.buf 0).addr<c.state.mem.length)(hy:Md.canRetire p c=true->(Md.at_ p (Md.entAt c.buf 0).pc).kind=9->(Md.entAt c.buf 0).fault=false->c.state.stack≠[]):Says E fn (dp+4) 43 [progD p,confD c] (.tup [confD (retC p c),vb (Md.canRetire p c)]):=by
 unfold Says
 show ansOf (evC E fn (dp+3+1) 43 [.d (progD p),.d (confD c)] [])=_
 rw[evC_succ,S.f_r9_Retire,apF_some,F_r9_Retire,mkF_run _ _ _ _ _ _ _ _ rfl]
 cases hcan:Md.canRetire p c with
 | false=>simp only[eG,go_sem,thq S,nbr S,zN0,zN1,zN2,zN3,zN4,zI0,zI1,zI2,zI3,reduceCtorEq,o43_33 S,c_r9_CanRetire S,hcan,Bool.not_false,retC,Md.conf0]
 | true=>
  replace hx:=hx hcan
  replace hy:=hy hcan
  obtain⟨e,he,he0,hend⟩:=retire_some hcan
  rw[he0] at hx hy hd
  have hgo:=he0
  generalize hxx:Md.at_ p e.pc=x at *
  have w0:=w_ixI (l:=c.buf) (i:=0) (by decide) he .i64 8 rfl
  have n1:c.state.mem.length*8<=limA:=by unfold limA;omega
  have n2:c.state.mem.length<=limA:=by unfold limA;omega
  have n3:c.state.stack.length*8<=limA:=by unfold limA;omega
  have n4:c.state.stack.length<=limA:=by unfold limA;omega
  have n5:(c.state.stack.length+1)*8<=limA:=by unfold limA;omega
  have n6:c.state.stack.length+1<=limA:=by unfold limA;omega
  have e1:c.state.mem.length=0->c.state.mem=[]:=List.length_eq_zero_iff.1
  have e2:c.state.stack.length=0->c.state.stack=[]:=List.length_eq_zero_iff.1
  have hdl:deep [.cells ((rowC (c.state.stack++[IntKind.i64.wrap (e.pc+1)])).map .d) 0 false] 6 (.sref 0 0 0 (c.state.stack.length+1) 1 none)=some (.lst (rowC (c.state.stack++[IntKind.i64.wrap (e.pc+1)])) (c.state.stack++[IntKind.i64.wrap (e.pc+1)]).length none,[0]):=deep_alone _ (by simp) _ (by simp) 4 1 none rfl
  have d4:x.d=0∨x.d=1∨x.d=2∨x.d=3:=by omega
  have hdl2:deep [.cells ((rowC c.state.mem).map .d) 0 false,.cells ((rowC (c.state.stack++[IntKind.i64.wrap (e.pc+1)])).map .d) 0 false] 6 (.sref 1 0 0 (c.state.stack.length+1) 1 none)=some (.lst (rowC (c.state.stack++[IntKind.i64.wrap (e.pc+1)])) (c.state.stack++[IntKind.i64.wrap (e.pc+1)]).length none,[1]):=by
   rw[show c.state.stack.length+1=(c.state.stack++[IntKind.i64.wrap (e.pc+1)]).length by simp]
   exact deep_all rfl (by simp) 4 _ 1 none rfl rfl
  have hand:=and3 d4
  have d0:=hd.1
  have d1:x.d<4:=by omega
  have hst:∀(A:List Blk) (m s q:AV),storeAt A 5 0 (x.d.toNat*1) [.d (vi e.val)] 1 (some (.cells [.d (vi c.state.regs.r0),.d (vi c.state.regs.r1),.d (vi c.state.regs.r2),.d (vi c.state.regs.r3),m,s,q] 0 false))=some (A.set 5 (.cells [.d (vi (Md.setR c.state.regs x.d e.val).r0),.d (vi (Md.setR c.state.regs x.d e.val).r1),.d (vi (Md.setR c.state.regs x.d e.val).r2),.d (vi (Md.setR c.state.regs x.d e.val).r3),m,s,q] 0 false)):=fun A m s q=>by
   rcases d4 with d | d | d | d<;>rw[d]<;>rfl
  by_cases m0:c.state.mem.length=0<;>by_cases s0:c.state.stack.length=0
  all_goals
   generalize hB:(cBlock 0 _:CT)=BB
   simp only[eG,go_sem,thq S,nbr S,zN0,zN1,zN2,zN3,zN4,zI0,zI1,zI2,zI3,reduceCtorEq,o43_33 S,c_r9_CanRetire S,hcan,Bool.not_true,Bool.not_false,w0,cA7 S,hxx,c_r9_Pop S,hl,sw_t,sw_s,dl_nil,dl_cons,rep0',rep1',app_fresh0',n1,n2,n3,n4,n5,n6,ne_eq,not_false_eq_true,not_true_eq_false,Nat.zero_add,Nat.add_zero,Nat.zero_mul,deep_sr,dpI_len,dpI_take,Nat.le_refl,Option.bind_some,Option.map_some,Option.map_none,foldT,takeS,foldS,List.take_length,w_fold,List.length_set,retC,Md.retire,he0,Md.endedM,Md.commitM,eq_true hend,Md.w64,m0,s0]
   rw[<-hB]
   clear hB BB
   cases hf:e.fault with
   | true=>simp only[eG,go_sem,thq S,nbr S,zN0,zN1,zN2,zN3,zN4,zI0,zI1,zI2,zI3,reduceCtorEq,o43_33 S,c_r9_CanRetire S,hcan,Bool.not_true,Bool.not_false,w0,cA7 S,hxx,c_r9_Pop S,hl,sw_t,sw_s,dl_nil,dl_cons,rep0',rep1',app_fresh0',n1,n2,n3,n4,n5,n6,ne_eq,not_false_eq_true,not_true_eq_false,Nat.zero_add,Nat.add_zero,Nat.zero_mul,deep_sr,dpI_len,dpI_take,Nat.le_refl,Option.bind_some,Option.map_some,Option.map_none,foldT,takeS,foldS,List.take_length,w_fold,List.length_set,retC,Md.retire,he0,Md.endedM,Md.commitM,eq_true hend,Md.w64,m0,s0,hf];(first | done | rfl | (rw[e1 m0];rfl) | (rw[e2 s0];rfl) | (rw[e1 m0,e2 s0];rfl))
   | false=>
    by_cases k12:x.kind=12
    ·simp only[eG,go_sem,thq S,nbr S,zN0,zN1,zN2,zN3,zN4,zI0,zI1,zI2,zI3,reduceCtorEq,o43_33 S,c_r9_CanRetire S,hcan,Bool.not_true,Bool.not_false,w0,cA7 S,hxx,c_r9_Pop S,hl,sw_t,sw_s,dl_nil,dl_cons,rep0',rep1',app_fresh0',n1,n2,n3,n4,n5,n6,ne_eq,not_false_eq_true,not_true_eq_false,Nat.zero_add,Nat.add_zero,Nat.zero_mul,deep_sr,dpI_len,dpI_take,Nat.le_refl,Option.bind_some,Option.map_some,Option.map_none,foldT,takeS,foldS,List.take_length,w_fold,List.length_set,retC,Md.retire,he0,Md.endedM,Md.commitM,eq_true hend,Md.w64,m0,s0,hf,k12];(first | done | rfl | (rw[e1 m0];rfl) | (rw[e2 s0];rfl) | (rw[e1 m0,e2 s0];rfl))
    by_cases k11:x.kind=11
    ·simp only[eG,go_sem,thq S,nbr S,zN0,zN1,zN2,zN3,zN4,zI0,zI1,zI2,zI3,reduceCtorEq,o43_33 S,c_r9_CanRetire S,hcan,Bool.not_true,Bool.not_false,w0,cA7 S,hxx,c_r9_Pop S,hl,sw_t,sw_s,dl_nil,dl_cons,rep0',rep1',app_fresh0',n1,n2,n3,n4,n5,n6,ne_eq,not_false_eq_true,not_true_eq_false,Nat.zero_add,Nat.add_zero,Nat.zero_mul,deep_sr,dpI_len,dpI_take,Nat.le_refl,Option.bind_some,Option.map_some,Option.map_none,foldT,takeS,foldS,List.take_length,w_fold,List.length_set,retC,Md.retire,he0,Md.endedM,Md.commitM,eq_true hend,Md.w64,m0,s0,hf,k11];(first | done | rfl | (rw[e1 m0];rfl) | (rw[e2 s0];rfl) | (rw[e1 m0,e2 s0];rfl))
    by_cases k1:x.kind=1
    ·simp only[eG,go_sem,thq S,nbr S,zN0,zN1,zN2,zN3,zN4,zI0,zI1,zI2,zI3,reduceCtorEq,o43_33 S,c_r9_CanRetire S,hcan,Bool.not_true,Bool.not_false,w0,cA7 S,hxx,c_r9_Pop S,hl,sw_t,sw_s,dl_nil,dl_cons,rep0',rep1',app_fresh0',n1,n2,n3,n4,n5,n6,ne_eq,not_false_eq_true,not_true_eq_false,Nat.zero_add,Nat.add_zero,Nat.zero_mul,deep_sr,dpI_len,dpI_take,Nat.le_refl,Option.bind_some,Option.map_some,Option.map_none,foldT,takeS,foldS,List.take_length,w_fold,List.length_set,retC,Md.retire,he0,Md.endedM,Md.commitM,eq_true hend,Md.w64,Int.cast_ofNat_Int,true_and,if_true,hand,d0,d1,hst,m0,s0,hf,k1];(first | done | rfl | (rw[e1 m0];rfl) | (rw[e2 s0];rfl) | (rw[e1 m0,e2 s0];rfl))
    by_cases k2:x.kind=2
    ·simp only[eG,go_sem,thq S,nbr S,zN0,zN1,zN2,zN3,zN4,zI0,zI1,zI2,zI3,reduceCtorEq,o43_33 S,c_r9_CanRetire S,hcan,Bool.not_true,Bool.not_false,w0,cA7 S,hxx,c_r9_Pop S,hl,sw_t,sw_s,dl_nil,dl_cons,rep0',rep1',app_fresh0',n1,n2,n3,n4,n5,n6,ne_eq,not_false_eq_true,not_true_eq_false,Nat.zero_add,Nat.add_zero,Nat.zero_mul,deep_sr,dpI_len,dpI_take,Nat.le_refl,Option.bind_some,Option.map_some,Option.map_none,foldT,takeS,foldS,List.take_length,w_fold,List.length_set,retC,Md.retire,he0,Md.endedM,Md.commitM,eq_true hend,Md.w64,Int.cast_ofNat_Int,true_and,if_true,hand,d0,d1,hst,m0,s0,hf,k2];(first | done | rfl | (rw[e1 m0];rfl) | (rw[e2 s0];rfl) | (rw[e1 m0,e2 s0];rfl))
    by_cases k4:x.kind=4
    ·simp only[eG,go_sem,thq S,nbr S,zN0,zN1,zN2,zN3,zN4,zI0,zI1,zI2,zI3,reduceCtorEq,o43_33 S,c_r9_CanRetire S,hcan,Bool.not_true,Bool.not_false,w0,cA7 S,hxx,c_r9_Pop S,hl,sw_t,sw_s,dl_nil,dl_cons,rep0',rep1',app_fresh0',n1,n2,n3,n4,n5,n6,ne_eq,not_false_eq_true,not_true_eq_false,Nat.zero_add,Nat.add_zero,Nat.zero_mul,deep_sr,dpI_len,dpI_take,Nat.le_refl,Option.bind_some,Option.map_some,Option.map_none,foldT,takeS,foldS,List.take_length,w_fold,List.length_set,retC,Md.retire,he0,Md.endedM,Md.commitM,eq_true hend,Md.w64,Int.cast_ofNat_Int,true_and,if_true,hand,d0,d1,hst,m0,s0,hf,k4];(first | done | rfl | (rw[e1 m0];rfl) | (rw[e2 s0];rfl) | (rw[e1 m0,e2 s0];rfl))
    by_cases k3:x.kind=3
    ·obtain ⟨a0, a1⟩ := hx k3 hf
     have a2:e.addr.toNat<c.state.mem.length:=by omega
     first
      | (exfalso;omega)
      | (simp only[eG,go_sem,thq S,nbr S,zN0,zN1,zN2,zN3,zN4,zI0,zI1,zI2,zI3,reduceCtorEq,o43_33 S,c_r9_CanRetire S,hcan,Bool.not_true,Bool.not_false,w0,cA7 S,hxx,c_r9_Pop S,hl,sw_t,sw_s,dl_nil,dl_cons,rep0',rep1',app_fresh0',n1,n2,n3,n4,n5,n6,ne_eq,not_false_eq_true,not_true_eq_false,Nat.zero_add,Nat.add_zero,Nat.zero_mul,deep_sr,dpI_len,dpI_take,Nat.le_refl,Option.bind_some,Option.map_some,Option.map_none,foldT,takeS,foldS,List.take_length,w_fold,List.length_set,retC,Md.retire,he0,Md.endedM,Md.commitM,eq_true hend,Md.w64,m0,s0,hf,k3,a0,a1,wrI a2,and_self];(first | done | rfl | (rw[e1 m0];rfl) | (rw[e2 s0];rfl) | (rw[e1 m0,e2 s0];rfl)))
    by_cases k8:x.kind=8
    ·simp only[eG,go_sem,thq S,nbr S,zN0,zN1,zN2,zN3,zN4,zI0,zI1,zI2,zI3,reduceCtorEq,o43_33 S,c_r9_CanRetire S,hcan,Bool.not_true,Bool.not_false,w0,cA7 S,hxx,c_r9_Pop S,hl,sw_t,sw_s,dl_nil,dl_cons,rep0',rep1',app_fresh0',n1,n2,n3,n4,n5,n6,ne_eq,not_false_eq_true,not_true_eq_false,Nat.zero_add,Nat.add_zero,Nat.zero_mul,deep_sr,dpI_len,dpI_take,Nat.le_refl,Option.bind_some,Option.map_some,Option.map_none,foldT,takeS,foldS,List.take_length,w_fold,List.length_set,retC,Md.retire,he0,Md.endedM,Md.commitM,eq_true hend,Md.w64,m0,s0,hf,k8,nc1,app_endI,show(1:Nat)*8<=limA by decide,show(8:Nat)<=limA by decide,show(1:Nat)<=limA by decide,show(1:Nat)*1<=1 by decide,Nat.lt_add_one,Nat.one_ne_zero,Nat.one_mul,show(0:Nat)<1 by decide,hdl,hdl2];(first | done | rfl | (rw[e1 m0];rfl) | (rw[e2 s0];rfl) | (rw[e1 m0,e2 s0];rfl))
    by_cases k9:x.kind=9
    ·have hne : c.state.stack.length ≠ 0 := fun h => hy k9 hf (List.length_eq_zero_iff.1 h)
     have wl:IntKind.i64.wrap ((c.state.stack.length:Int)-1)=((c.state.stack.length-1:Nat):Int):=by rw[wrap_i64 (by omega) (by omega)];omega
     have bd:=bndsV_hi c.state.stack.length .i64 ((c.state.stack.length-1:Nat):Int) (by omega) (by omega)
     have le1:c.state.stack.length-1<=c.state.stack.length:=by omega
     by_cases s1:c.state.stack.length-1=0
     ·have dl : c.state.stack.dropLast = [] := by rw [List.dropLast_eq_take, s1]; rfl
      have bd0:=bd
      rw[s1] at bd0
      first
       | (exfalso;omega)
       | (simp only[eG,go_sem,thq S,nbr S,zN0,zN1,zN2,zN3,zN4,zI0,zI1,zI2,zI3,reduceCtorEq,o43_33 S,c_r9_CanRetire S,hcan,Bool.not_true,Bool.not_false,w0,cA7 S,hxx,c_r9_Pop S,hl,sw_t,sw_s,dl_nil,dl_cons,rep0',rep1',app_fresh0',n1,n2,n3,n4,n5,n6,ne_eq,not_false_eq_true,not_true_eq_false,Nat.zero_add,Nat.add_zero,Nat.zero_mul,deep_sr,dpI_len,dpI_take,Nat.le_refl,Option.bind_some,Option.map_some,Option.map_none,foldT,takeS,foldS,List.take_length,w_fold,List.length_set,retC,Md.retire,he0,Md.endedM,Md.commitM,eq_true hend,Md.w64,m0,s0,hf,k9,wl,bd0,Int.toNat_natCast,s1,dl,Nat.sub_zero,and_false];(first | done | rfl | (rw[e1 m0];rfl) | (rw[e2 s0];rfl) | (rw[e1 m0,e2 s0];rfl)))
     ·first
       | (exfalso;omega)
       | (simp only[eG,go_sem,thq S,nbr S,zN0,zN1,zN2,zN3,zN4,zI0,zI1,zI2,zI3,reduceCtorEq,o43_33 S,c_r9_CanRetire S,hcan,Bool.not_true,Bool.not_false,w0,cA7 S,hxx,c_r9_Pop S,hl,sw_t,sw_s,dl_nil,dl_cons,rep0',rep1',app_fresh0',n1,n2,n3,n4,n5,n6,ne_eq,not_false_eq_true,not_true_eq_false,Nat.zero_add,Nat.add_zero,Nat.zero_mul,deep_sr,dpI_len,dpI_take,Nat.le_refl,Option.bind_some,Option.map_some,Option.map_none,foldT,takeS,foldS,List.take_length,w_fold,List.length_set,retC,Md.retire,he0,Md.endedM,Md.commitM,eq_true hend,Md.w64,m0,s0,hf,k9,wl,bd,Int.toNat_natCast,s1,le1,List.dropLast_eq_take,Nat.sub_zero,and_false];(first | done | rfl | (rw[e1 m0];rfl) | (rw[e2 s0];rfl) | (rw[e1 m0,e2 s0];rfl)))
    simp only[eG,go_sem,thq S,nbr S,zN0,zN1,zN2,zN3,zN4,zI0,zI1,zI2,zI3,reduceCtorEq,o43_33 S,c_r9_CanRetire S,hcan,Bool.not_true,Bool.not_false,w0,cA7 S,hxx,c_r9_Pop S,hl,sw_t,sw_s,dl_nil,dl_cons,rep0',rep1',app_fresh0',n1,n2,n3,n4,n5,n6,ne_eq,not_false_eq_true,not_true_eq_false,Nat.zero_add,Nat.add_zero,Nat.zero_mul,deep_sr,dpI_len,dpI_take,Nat.le_refl,Option.bind_some,Option.map_some,Option.map_none,foldT,takeS,foldS,List.take_length,w_fold,List.length_set,retC,Md.retire,he0,Md.endedM,Md.commitM,eq_true hend,Md.w64,m0,s0,hf,k1,k2,k3,k4,k8,k9,k11,k12];(first | done | rfl | (rw[e1 m0];rfl) | (rw[e2 s0];rfl) | (rw[e1 m0,e2 s0];rfl))
end
def cellsI (l:List MemT):Int:=(l.map fun m=>min (max m.n 0) 16).sum
theorem cellsI_le:∀ l:List MemT,0<=cellsI l/\cellsI l<=16*l.length
 | []=>by simp[cellsI]
 | m::l=>by
  have:=cellsI_le l
  simp only[cellsI,List.map_cons,List.sum_cons,List.length_cons] at this ⊢
  omega
theorem cellsI_take {l:List MemT}{i:Nat}{m:MemT}(h:l[i]? =some m):cellsI (l.take (i+1))=cellsI (l.take i)+min (max m.n 0) 16:=by
 unfold cellsI
 rw[take_get h,List.map_append,List.sum_append]
 simp
def valueM (p:Prog)(x:Ins)(a b d:Int):Int:=if x.kind=4 then(if a=0 then d else b) else Md.wdo p.w x.op a b
def wayM (p:Prog)(x:Ins)(pc a b:Int):Int:=if x.kind=7 then min a p.ins.length else if Md.wdo p.w x.op a b=0 then Md.w64 (pc+1) else x.target
variable {E:Env} {fn:FuncId->Option (Env->CallT->CallT)}
section
variable (S:Sur E fn)
include S
theorem o107_10:E.lives 107 1=none:=off S 107 1 (by decide) rfl
theorem o65_10:E.lives 65 7=none/\E.lives 65 9=none:=⟨off S 65 7 (by decide) rfl,off S 65 9 (by decide) rfl⟩
theorem o67_10:E.lives 67 7=none/\E.lives 67 13=none:=⟨off S 67 7 (by decide) rfl,off S 67 13 (by decide) rfl⟩
theorem o103_10:E.lives 103 9=none:=off S 103 9 (by decide) rfl
theorem loop_Cells (dp:Nat)(l:List MemT)(hl:l.length<1073741824)(kx:Nat->K)(D:Int)
  (hx:∀ T,getS .bot T 3=aint (cellsI l)->ansOf (kx 0 (mk .bot 21 T) [])=some (vi D)):
  ∀(m k fuel:Nat),k+m=l.length->m<=fuel->ansOf (B8_arch_Cells (inn E 107) (evC E fn dp) (loopK 8 B8_arch_Cells (inn E 107) (evC E fn dp) kx (kEnd 0 [.tmp 2]) fuel) kx (kEnd 0 [.tmp 2])
   (mk .bot 21 [(3,aint (cellsI (l.take k))),(7,.d (rowD l)),(8,aint l.length),(9,aint k)]) [])=some (vi D):=by
 intro m
 induction m with
 | zero=>
  intro k fuel hk _
  generalize loopK 8 B8_arch_Cells _ _ kx _ fuel=KK
  rw[B8_arch_Cells,List.take_of_length_le (by omega)]
  simp only[eG,go_sem,thq S,nbr S,zN0,zN1,zN2,zN3,zN4,zI0,zI1,zI2,zI3,reduceCtorEq,o107_10 S,show ¬(k:Int)<l.length by omega]
  exact hx _ rfl
 | succ m ih=>
  intro k fuel hk hf
  obtain⟨e,he⟩:=get_of (show k<l.length by omega)
  obtain⟨fuel,rfl⟩:∃ m,fuel=m+1:=⟨fuel-1,by omega⟩
  generalize hK:loopK 8 B8_arch_Cells _ _ kx _ (fuel+1)=KK
  rw[B8_arch_Cells]
  have hb:=cellsI_le (l.take k)
  have hbl:(l.take k).length<=l.length:=by simp;omega
  have hw:IntKind.i64.wrap (cellsI (l.take k)+min (max e.n 0) 16)=cellsI (l.take (k+1)):=by
   rw[cellsI_take he]
   exact wrap_i64 (by omega) (by omega)
  simp only[eG,go_sem,thq S,nbr S,zN0,zN1,zN2,zN3,zN4,zI0,zI1,zI2,zI3,reduceCtorEq,o107_10 S,show(k:Int)<l.length by omega,w_ix he,wi k (by omega),hw]
  rw[<-hK,loop_in (on S _ _ [3,7,8,9] (by decide) rfl) rfl _ _ _ _ _ _ _ _ _ rfl]
  simp only[eG,go_sem,thq S,nbr S,zN0,zN1,zN2,zN3,zN4,zI0,zI1,zI2,zI3,reduceCtorEq,o107_10 S]
  exact ih (k+1) fuel (by omega) (by omega)
theorem raw_arch_Cells (dp:Nat)(p:Prog)(hm:p.mems.length<1073741824):Says E fn (dp+1) 107 [progD p] (vi (cellsI p.mems)):=by
 unfold Says
 show ansOf (evC E fn (dp+1) 107 [.d (progD p)] [])=_
 rw[evC_succ,S.f_arch_Cells,apF_some,F_arch_Cells,mkF_run _ _ _ _ _ _ _ _ rfl]
 simp only[eG,go_sem,thq S,nbr S,zN0,zN1,zN2,zN3,zN4,zI0,zI1,zI2,zI3,reduceCtorEq,o107_10 S]
 rw[big_eq,loop_in (on S _ _ [3,7,8,9] (by decide) rfl) rfl _ _ _ _ _ _ _ _ _ rfl]
 simp only[eG,go_sem,thq S,nbr S,zN0,zN1,zN2,zN3,zN4,zI0,zI1,zI2,zI3,reduceCtorEq,o107_10 S]
 refine loop_Cells S dp p.mems hm _ (cellsI p.mems) ?_ p.mems.length 0 _ (by omega) (by omega)
 intro T h3
 simp only[eG,go_sem,thq S,nbr S,zN0,zN1,zN2,zN3,zN4,zI0,zI1,zI2,zI3,reduceCtorEq,o107_10 S,h3]
theorem c_arch_Cells (dp:Nat)(p_w p_wn p_fu p_r0 p_r1 p_r2 p_r3:Int)(p_ms:List MemT)(p_ls:List Label)(p_is:List Ins)(hm:(⟨p_w,p_wn,p_fu,⟨p_r0,p_r1,p_r2,p_r3⟩,p_ms,p_ls,p_is⟩:Prog).mems.length<1073741824)(A:List Blk)(nb:Nat)(us:List Nat):evOwnK false E (evC E fn (dp+1)) 107 A nb (some ([.agg [vi p_w,vi p_wn,vi p_fu,vi p_r0,vi p_r1,vi p_r2,vi p_r3,rowD p_ms,rowD p_ls,rowD p_is]],us))=some (.made (.d (vi (cellsI (⟨p_w,p_wn,p_fu,⟨p_r0,p_r1,p_r2,p_r3⟩,p_ms,p_ls,p_is⟩:Prog).mems))) []):=
 Says.flat (raw_arch_Cells S dp (⟨p_w,p_wn,p_fu,⟨p_r0,p_r1,p_r2,p_r3⟩,p_ms,p_ls,p_is⟩:Prog) hm) (np S 107 (by decide)) (rfl) A nb us
theorem raw_seqm_Value (dp:Nat)(p:Prog)(x:Ins)(a b d:Int):Says E fn (dp+5) 65 [progD p,.agg (Cl.cells x),vi a,vi b,vi d] (vi (valueM p x a b d)):=by
 unfold Says
 show ansOf (evC E fn (dp+4+1) 65 [.d (progD p),.d (.agg (Cl.cells x)),.d (vi a),.d (vi b),.d (vi d)] [])=_
 rw[evC_succ,S.f_seqm_Value,apF_some,F_seqm_Value,mkF_run _ _ _ _ _ _ _ _ rfl]
 by_cases h:x.kind=4
 ·by_cases h2 : a = 0
  ·simp only[eG,go_sem,thq S,nbr S,zN0,zN1,zN2,zN3,zN4,zI0,zI1,zI2,zI3,reduceCtorEq,o65_10 S,h,eq_true h2,valueM,Bool.not_true,Bool.not_false]
  ·simp only[eG,go_sem,thq S,nbr S,zN0,zN1,zN2,zN3,zN4,zI0,zI1,zI2,zI3,reduceCtorEq,o65_10 S,h,eq_false h2,valueM,Bool.not_true,Bool.not_false]
 ·simp only[eG,go_sem,thq S,nbr S,zN0,zN1,zN2,zN3,zN4,zI0,zI1,zI2,zI3,reduceCtorEq,o65_10 S,h,valueM,c_word_Do S]
theorem c_seqm_Value (dp:Nat)(p_w p_wn p_fu p_r0 p_r1 p_r2 p_r3:Int)(p_ms:List MemT)(p_ls:List Label)(p_is:List Ins)(x_k x_o x_d:Int)(x_ag:Bool)(x_an:Int)(x_bg:Bool)(x_bn:Int)(x_nm:ByteArray)(x_tg a b d:Int)(A:List Blk)(nb:Nat)(us:List Nat):evOwnK false E (evC E fn (dp+5)) 65 A nb (some ([.agg [vi p_w,vi p_wn,vi p_fu,vi p_r0,vi p_r1,vi p_r2,vi p_r3,rowD p_ms,rowD p_ls,rowD p_is],.agg [vi x_k,vi x_o,vi x_d,vb x_ag,vi x_an,vb x_bg,vi x_bn,vt x_nm,vi x_tg],vi a,vi b,vi d],us))=some (.made (.d (vi (valueM (⟨p_w,p_wn,p_fu,⟨p_r0,p_r1,p_r2,p_r3⟩,p_ms,p_ls,p_is⟩:Prog) (⟨x_k,x_o,x_d,⟨x_ag,x_an⟩,⟨x_bg,x_bn⟩,x_nm,x_tg⟩:Ins) a b d))) []):=
 Says.flat (raw_seqm_Value S dp (⟨p_w,p_wn,p_fu,⟨p_r0,p_r1,p_r2,p_r3⟩,p_ms,p_ls,p_is⟩:Prog) (⟨x_k,x_o,x_d,⟨x_ag,x_an⟩,⟨x_bg,x_bn⟩,x_nm,x_tg⟩:Ins) a b d ) (np S 65 (by decide)) (rfl) A nb us
theorem raw_seqm_Way (dp:Nat)(p:Prog)(x:Ins)(pc a b:Int):Says E fn (dp+5) 67 [progD p,.agg (Cl.cells x),vi pc,vi a,vi b] (vi (wayM p x pc a b)):=by
 unfold Says
 show ansOf (evC E fn (dp+4+1) 67 [.d (progD p),.d (.agg (Cl.cells x)),.d (vi pc),.d (vi a),.d (vi b)] [])=_
 rw[evC_succ,S.f_seqm_Way,apF_some,F_seqm_Way,mkF_run _ _ _ _ _ _ _ _ rfl]
 by_cases h:x.kind=7
 ·simp only[eG,go_sem,thq S,nbr S,zN0,zN1,zN2,zN3,zN4,zI0,zI1,zI2,zI3,reduceCtorEq,o67_10 S,h,wayM]
 ·by_cases h2 : Md.wdo p.w x.op a b = 0
  ·simp only[eG,go_sem,thq S,nbr S,zN0,zN1,zN2,zN3,zN4,zI0,zI1,zI2,zI3,reduceCtorEq,o67_10 S,h,wayM,c_word_Do S,h2,Bool.not_true,Bool.not_false,Md.w64]
  ·simp only[eG,go_sem,thq S,nbr S,zN0,zN1,zN2,zN3,zN4,zI0,zI1,zI2,zI3,reduceCtorEq,o67_10 S,h,wayM,c_word_Do S,h2,Bool.not_true,Bool.not_false,Md.w64]
theorem c_seqm_Way (dp:Nat)(p_w p_wn p_fu p_r0 p_r1 p_r2 p_r3:Int)(p_ms:List MemT)(p_ls:List Label)(p_is:List Ins)(x_k x_o x_d:Int)(x_ag:Bool)(x_an:Int)(x_bg:Bool)(x_bn:Int)(x_nm:ByteArray)(x_tg pc a b:Int)(A:List Blk)(nb:Nat)(us:List Nat):evOwnK false E (evC E fn (dp+5)) 67 A nb (some ([.agg [vi p_w,vi p_wn,vi p_fu,vi p_r0,vi p_r1,vi p_r2,vi p_r3,rowD p_ms,rowD p_ls,rowD p_is],.agg [vi x_k,vi x_o,vi x_d,vb x_ag,vi x_an,vb x_bg,vi x_bn,vt x_nm,vi x_tg],vi pc,vi a,vi b],us))=some (.made (.d (vi (wayM (⟨p_w,p_wn,p_fu,⟨p_r0,p_r1,p_r2,p_r3⟩,p_ms,p_ls,p_is⟩:Prog) (⟨x_k,x_o,x_d,⟨x_ag,x_an⟩,⟨x_bg,x_bn⟩,x_nm,x_tg⟩:Ins) pc a b))) []):=
 Says.flat (raw_seqm_Way S dp (⟨p_w,p_wn,p_fu,⟨p_r0,p_r1,p_r2,p_r3⟩,p_ms,p_ls,p_is⟩:Prog) (⟨x_k,x_o,x_d,⟨x_ag,x_an⟩,⟨x_bg,x_bn⟩,x_nm,x_tg⟩:Ins) pc a b ) (np S 67 (by decide)) (rfl) A nb us
theorem raw_seqm_Address (dp:Nat)(p:Prog)(a b:Int)(hm:p.mems.length<1073741824):Says E fn (dp+4) 71 [progD p,vi a,vi b] (.tup [vi (Md.mask p.w (a+b)),vb (decide (Md.mask p.w (a+b)<cellsI p.mems))]):=by
 unfold Says
 show ansOf (evC E fn (dp+3+1) 71 [.d (progD p),.d (vi a),.d (vi b)] [])=_
 rw[evC_succ,S.f_seqm_Address,apF_some,F_seqm_Address,mkF_run _ _ _ _ _ _ _ _ rfl]
 simp only[eG,go_sem,thq S,nbr S,zN0,zN1,zN2,zN3,zN4,zI0,zI1,zI2,zI3,reduceCtorEq,c_word_Mask S,Md.mask_wrap,c_arch_Cells S,hm]
theorem c_seqm_Address (dp:Nat)(p_w p_wn p_fu p_r0 p_r1 p_r2 p_r3:Int)(p_ms:List MemT)(p_ls:List Label)(p_is:List Ins)(a b:Int)(hm:(⟨p_w,p_wn,p_fu,⟨p_r0,p_r1,p_r2,p_r3⟩,p_ms,p_ls,p_is⟩:Prog).mems.length<1073741824)(A:List Blk)(nb:Nat)(us:List Nat):evOwnK false E (evC E fn (dp+4)) 71 A nb (some ([.agg [vi p_w,vi p_wn,vi p_fu,vi p_r0,vi p_r1,vi p_r2,vi p_r3,rowD p_ms,rowD p_ls,rowD p_is],vi a,vi b],us))=some (.made (.d (.tup [vi (Md.mask (⟨p_w,p_wn,p_fu,⟨p_r0,p_r1,p_r2,p_r3⟩,p_ms,p_ls,p_is⟩:Prog).w (a+b)),vb (decide (Md.mask (⟨p_w,p_wn,p_fu,⟨p_r0,p_r1,p_r2,p_r3⟩,p_ms,p_ls,p_is⟩:Prog).w (a+b)<cellsI (⟨p_w,p_wn,p_fu,⟨p_r0,p_r1,p_r2,p_r3⟩,p_ms,p_ls,p_is⟩:Prog).mems))])) []):=
 Says.flat (raw_seqm_Address S dp (⟨p_w,p_wn,p_fu,⟨p_r0,p_r1,p_r2,p_r3⟩,p_ms,p_ls,p_is⟩:Prog) a b hm) (np S 71 (by decide)) (rfl) A nb us
theorem raw_retb_Pop (dp:Nat)(l:List Int)(hl:l.length<1073741824):Says E fn (dp+1) 103 [rowD l] (.tup [vi (Md.lastI l),rowD l.dropLast,vb (decide (l.length≠0))]):=by
 unfold Says
 show ansOf (evC E fn (dp+1) 103 [.d (rowD l)] [])=_
 rw[evC_succ,S.f_retb_Pop,apF_some,F_retb_Pop,mkF_run _ _ _ _ _ _ _ _ rfl]
 by_cases h:l.length=0
 ·have : l = [] := List.length_eq_zero_iff.1 h
  subst this
  simp only[eG,go_sem,thq S,nbr S,zN0,zN1,zN2,zN3,zN4,zI0,zI1,zI2,zI3,reduceCtorEq,o103_10 S,List.length_nil,Int.natCast_eq_zero,Md.lastI]
  rfl
 ·have hlast:l[l.length-1]? =some (Md.lastI l):=by
   unfold Md.lastI
   rw[List.getLast?_eq_getElem?]
   obtain⟨e,he⟩:=get_of (show l.length-1<l.length by omega)
   rw[he];rfl
  have w2:IntKind.i64.wrap ((l.length:Int)-1)=((l.length-1:Nat):Int):=by rw[wrap_i64 (by omega) (by omega)];omega
  have bd:=bndsV_hi l.length .i64 ((l.length-1:Nat):Int) (by omega) (by omega)
  have hdl:l.take (l.length-1)=l.dropLast:=List.dropLast_eq_take.symm
  have hdn:l.dropLast.length<1073741824:=by simp;omega
  simp only[eG,go_sem,thq S,nbr S,zN0,zN1,zN2,zN3,zN4,zI0,zI1,zI2,zI3,reduceCtorEq,o103_10 S,eq_false h,Int.natCast_eq_zero,w2,bd,w_ix hlast,Int.toNat_natCast,List.drop_zero,Nat.sub_zero,hdl,c_cloneI S hdn,ne_eq,not_false_eq_true]
theorem c_retb_Pop (dp:Nat)(l:List Int)(hl:l.length<1073741824)(A:List Blk)(nb:Nat):evOwnK false E (evC E fn (dp+1)) 103 A nb (some ([rowD l],[]))=some (.made (.d (.tup [vi (Md.lastI l),rowD l.dropLast,vb (decide (l.length≠0))])) []):=
 Says.deep (raw_retb_Pop S dp l hl) (np S 103 (by decide)) A nb
theorem u_retb_Pop (dp:Nat)(l:List Int)(hl:l.length<1073741824)(hf:DV.flat 8 (.tup [vi (Md.lastI l),rowD l.dropLast,vb (decide (l.length≠0))])=false)(A:List Blk)(nb ui:Nat)(us:List Nat):evOwnK false E (evC E fn (dp+1)) 103 A nb (some ([rowD l],ui::us))=some (.turned (.d (.tup [vi (Md.lastI l),rowD l.dropLast,vb (decide (l.length≠0))])) (setRo A (ui::us))):=
 Says.used (raw_retb_Pop S dp l hl) (np S 103 (by decide)) hf A nb ui us
end
variable {E:Env} {fn:FuncId->Option (Env->CallT->CallT)}
section
variable (S:Sur E fn)
include S
theorem o104_11:E.lives 104 1=none/\E.lives 104 19=none/\E.lives 104 25=none:=⟨off S 104 1 (by decide) rfl,off S 104 19 (by decide) rfl,off S 104 25 (by decide) rfl⟩
theorem o72_11:E.lives 72 1=none/\E.lives 72 15=none:=⟨off S 72 1 (by decide) rfl,off S 72 15 (by decide) rfl⟩
theorem loop_pLoad (dp:Nat)(p:Prog)(mem:List Int)(l:List Ent)(addr:Int)(hl:l.length<1073741824)(kx:Nat->K)
  (hx:∀ T,getS .bot T 1=.d (rowD mem)->getS .bot T 4=aint addr->∀ A,ansOf (kx 0 (mk .bot 65 T) (.cells ((progC p).map .d) 0 false::A))=some (.tup [vi (Md.loadGo p mem addr []).1,vi (Md.loadGo p mem addr []).2.1,vb (Md.loadGo p mem addr []).2.2])):
  ∀(k fuel:Nat),k<=l.length->k<fuel->ansOf (B8_memo_Load (inn E 104) (evC E fn (dp+1)) (loopK 8 B8_memo_Load (inn E 104) (evC E fn (dp+1)) kx (kEnd 0 [.tmp 10,.tmp 11,.tmp 12]) fuel) kx (kEnd 0 [.tmp 10,.tmp 11,.tmp 12])
   (mk .bot 65 [(1,.d (rowD mem)),(4,aint addr),(5,.ref 0 0 0),(13,.d (rowD l)),(14,aint ((k:Int)-1))]) [.cells ((progC p).map .d) 0 false])=
   some (.tup [vi (Md.loadGo p mem addr (l.take k).reverse).1,vi (Md.loadGo p mem addr (l.take k).reverse).2.1,vb (Md.loadGo p mem addr (l.take k).reverse).2.2]):=by
 intro k
 induction k with
 | zero=>
  intro fuel _ hf
  generalize loopK 8 B8_memo_Load _ _ kx _ fuel=KK
  rw[B8_memo_Load]
  simp only[eG,go_sem,thq S,nbr S,zN0,zN1,zN2,zN3,zN4,zI0,zI1,zI2,zI3,reduceCtorEq,o104_11 S,show ¬(((0:Nat):Int)-1>=0) by omega,List.take_zero,List.reverse_nil]
  exact hx _ rfl rfl []
 | succ k ih=>
  intro fuel hk hf
  obtain⟨e,he⟩:=get_of (show k<l.length by omega)
  obtain⟨fuel,rfl⟩:∃ m,fuel=m+1:=⟨fuel-1,by omega⟩
  rw[show(((k+1:Nat):Int)-1)=(k:Int) by omega,take_rev he]
  generalize hK:loopK 8 B8_memo_Load _ _ kx _ (fuel+1)=KK
  rw[B8_memo_Load]
  have hlen:(l.take k).reverse.length=k:=by simp;omega
  by_cases h1:(Md.at_ p e.pc).kind=3
  ·cases h2 : e.known with
   | true=>
    by_cases h3:e.addr=addr
    ·cases h4:e.done<;>simp only[eG,go_sem,thq S,nbr S,zN0,zN1,zN2,zN3,zN4,zI0,zI1,zI2,zI3,reduceCtorEq,o104_11 S,w_ix he,c_seqm_At S,Int.natCast_nonneg,ge_iff_le,wd k (by omega),Bool.not_true,Bool.not_false,h1,h2,eq_true h3,h4,Md.loadGo,Md.hitS,hlen]
    ·simp only [eG, go_sem, thq S, nbr S, zN0, zN1, zN2, zN3, zN4, zI0, zI1, zI2, zI3, reduceCtorEq, o104_11 S, w_ix he, c_seqm_At S, Int.natCast_nonneg, ge_iff_le, wd k (by omega), Bool.not_true, Bool.not_false, h1, h2, eq_false h3, Md.loadGo, Md.hitS]
     rw[<-hK,loop_in (on S _ _ [1,4,5,13,14] (by decide) rfl) rfl _ _ _ _ _ _ _ _ _ rfl]
     simp only[eG,go_sem,thq S,nbr S,zN0,zN1,zN2,zN3,zN4,zI0,zI1,zI2,zI3,reduceCtorEq,o104_11 S,w_ix he,c_seqm_At S,Int.natCast_nonneg,ge_iff_le,wd k (by omega),Bool.not_true,Bool.not_false]
     exact ih fuel (by omega) (by omega)
   | false=>
    simp only[eG,go_sem,thq S,nbr S,zN0,zN1,zN2,zN3,zN4,zI0,zI1,zI2,zI3,reduceCtorEq,o104_11 S,w_ix he,c_seqm_At S,Int.natCast_nonneg,ge_iff_le,wd k (by omega),Bool.not_true,Bool.not_false,h1,h2,Md.loadGo,Md.hitS]
    rw[<-hK,loop_in (on S _ _ [1,4,5,13,14] (by decide) rfl) rfl _ _ _ _ _ _ _ _ _ rfl]
    simp only[eG,go_sem,thq S,nbr S,zN0,zN1,zN2,zN3,zN4,zI0,zI1,zI2,zI3,reduceCtorEq,o104_11 S,w_ix he,c_seqm_At S,Int.natCast_nonneg,ge_iff_le,wd k (by omega),Bool.not_true,Bool.not_false]
    exact ih fuel (by omega) (by omega)
  ·simp only [eG, go_sem, thq S, nbr S, zN0, zN1, zN2, zN3, zN4, zI0, zI1, zI2, zI3, reduceCtorEq, o104_11 S, w_ix he, c_seqm_At S, Int.natCast_nonneg, ge_iff_le, wd k (by omega), Bool.not_true, Bool.not_false, eq_false h1, Md.loadGo, Md.hitS]
   rw[<-hK,loop_in (on S _ _ [1,4,5,13,14] (by decide) rfl) rfl _ _ _ _ _ _ _ _ _ rfl]
   simp only[eG,go_sem,thq S,nbr S,zN0,zN1,zN2,zN3,zN4,zI0,zI1,zI2,zI3,reduceCtorEq,o104_11 S,w_ix he,c_seqm_At S,Int.natCast_nonneg,ge_iff_le,wd k (by omega),Bool.not_true,Bool.not_false]
   exact ih fuel (by omega) (by omega)
theorem raw_memo_Load (dp:Nat)(p:Prog)(mem:List Int)(l:List Ent)(i addr:Int)(hl:l.length<1073741824):Says E fn (dp+3) 104 [progD p,rowD mem,rowD l,vi i,vi addr] (.tup [vi (Md.load p mem l i addr).1,vi (Md.load p mem l i addr).2.1,vb (Md.load p mem l i addr).2.2]):=by
 unfold Says
 show ansOf (evC E fn (dp+2+1) 104 [.d (progD p),.d (rowD mem),.d (rowD l),.d (vi i),.d (vi addr)] [])=_
 rw[evC_succ,S.f_memo_Load,apF_some,F_memo_Load,mkF_run _ _ _ _ _ _ _ _ rfl]
 have hcl:=cut_len l i
 have e:(Md.cut l i).take (Md.cut l i).length=Md.cut l i:=List.take_of_length_le (by omega)
 have e2:Md.load p mem l i addr=Md.loadGo p mem addr ((Md.cut l i).take (Md.cut l i).length).reverse:=by rw[e];rfl
 rw[e2]
 simp only[eG,go_sem,thq S,nbr S,zN0,zN1,zN2,zN3,zN4,zI0,zI1,zI2,zI3,reduceCtorEq,o104_11 S,c_robq_Cut S,hl,wd _ (show(Md.cut l i).length<4611686018427387904 by omega)]
 rw[big_eq,loop_in (on S _ _ [1,4,5,13,14] (by decide) rfl) rfl _ _ _ _ _ _ _ _ _ rfl]
 simp only[eG,go_sem,thq S,nbr S,zN0,zN1,zN2,zN3,zN4,zI0,zI1,zI2,zI3,reduceCtorEq,o104_11 S]
 refine loop_pLoad S (dp+1) p mem (Md.cut l i) addr (by omega) _ ?_ _ _ (Nat.le_refl _) (by omega)
 intro T h1 h4 A
 by_cases h:addr<0
 ·simp only[eG,go_sem,thq S,nbr S,zN0,zN1,zN2,zN3,zN4,zI0,zI1,zI2,zI3,reduceCtorEq,o104_11 S,h1,h4,h,Md.loadGo]
 ·by_cases h2 : (mem.length : Int) <= addr
  ·simp only[eG,go_sem,thq S,nbr S,zN0,zN1,zN2,zN3,zN4,zI0,zI1,zI2,zI3,reduceCtorEq,o104_11 S,h1,h4,h,ge_iff_le,h2,Md.loadGo]
  ·obtain ⟨e, he⟩ := get_of (show addr.toNat < mem.length by omega)
   simp only[eG,go_sem,thq S,nbr S,zN0,zN1,zN2,zN3,zN4,zI0,zI1,zI2,zI3,reduceCtorEq,o104_11 S,h1,h4,h,ge_iff_le,h2,Md.loadGo,w_ixI (show 0<=addr by omega) he,he,Option.getD_some]
theorem c_memo_Load (dp:Nat)(p_w p_wn p_fu p_r0 p_r1 p_r2 p_r3:Int)(p_ms:List MemT)(p_ls:List Label)(p_is:List Ins)(mem:List Int)(l:List Ent)(i addr:Int)(hl:l.length<1073741824)(A:List Blk)(nb:Nat)(us:List Nat):evOwnK false E (evC E fn (dp+3)) 104 A nb (some ([.agg [vi p_w,vi p_wn,vi p_fu,vi p_r0,vi p_r1,vi p_r2,vi p_r3,rowD p_ms,rowD p_ls,rowD p_is],rowD mem,rowD l,vi i,vi addr],us))=some (.made (.d (.tup [vi (Md.load (⟨p_w,p_wn,p_fu,⟨p_r0,p_r1,p_r2,p_r3⟩,p_ms,p_ls,p_is⟩:Prog) mem l i addr).1,vi (Md.load (⟨p_w,p_wn,p_fu,⟨p_r0,p_r1,p_r2,p_r3⟩,p_ms,p_ls,p_is⟩:Prog) mem l i addr).2.1,vb (Md.load (⟨p_w,p_wn,p_fu,⟨p_r0,p_r1,p_r2,p_r3⟩,p_ms,p_ls,p_is⟩:Prog) mem l i addr).2.2])) []):=
 Says.flat (raw_memo_Load S dp (⟨p_w,p_wn,p_fu,⟨p_r0,p_r1,p_r2,p_r3⟩,p_ms,p_ls,p_is⟩:Prog) mem l i addr hl) (np S 104 (by decide)) (rfl) A nb us
theorem loop_pHaz (dp:Nat)(p:Prog)(l:List Ent)(i addr:Int)(hl:l.length<1073741824)(kx:Nat->K)
  (hx:∀ T A,ansOf (kx 0 (mk .bot 51 T) A)=some (.tup [vi 0,vb false])):
  ∀(m k fuel:Nat),(k+m=l.length∨(m=0/\l.length<=k))->k<=l.length+1->m<=fuel->ansOf (B6_memo_Hazard (inn E 72) (evC E fn (dp+1)) (loopK 6 B6_memo_Hazard (inn E 72) (evC E fn (dp+1)) kx (kEnd 0 [.tmp 8,.tmp 9]) fuel) kx (kEnd 0 [.tmp 8,.tmp 9])
   (mk .bot 51 [(1,.d (rowD l)),(2,aint i),(3,aint addr),(4,.ref 0 0 0),(10,aint k)]) [.cells ((progC p).map .d) 0 false])=
   some (.tup [vi (Md.hazGo p i addr k (l.drop k)).1,vb (Md.hazGo p i addr k (l.drop k)).2]):=by
 intro m
 induction m with
 | zero=>
  intro k fuel hk hk2 _
  generalize loopK 6 B6_memo_Hazard _ _ kx _ fuel=KK
  rw[B6_memo_Hazard,List.drop_of_length_le (by omega)]
  simp only[eG,go_sem,thq S,nbr S,zN0,zN1,zN2,zN3,zN4,zI0,zI1,zI2,zI3,reduceCtorEq,o72_11 S,show ¬(k:Int)<l.length by omega,Md.hazGo]
  exact hx _ _
 | succ m ih=>
  intro k fuel hk hk2 hf
  obtain⟨e,he⟩:=get_of (show k<l.length by omega)
  obtain⟨fuel,rfl⟩:∃ m,fuel=m+1:=⟨fuel-1,by omega⟩
  generalize hK:loopK 6 B6_memo_Hazard _ _ kx _ (fuel+1)=KK
  rw[B6_memo_Hazard,drop_get he]
  have h2:(k:Int)<l.length:=by omega
  by_cases k2:(Md.at_ p e.pc).kind=2
  ·cases hk : e.known with
   | true=>
    by_cases ha:e.addr=addr
    ·by_cases hfr : e.frm < i
     ·simp only[eG,go_sem,thq S,nbr S,zN0,zN1,zN2,zN3,zN4,zI0,zI1,zI2,zI3,reduceCtorEq,o72_11 S,w_ix he,c_seqm_At S,wi k (by omega),h2,k2,hk,eq_true ha,hfr,Md.hazGo,Md.hitL]
     ·simp only [eG, go_sem, thq S, nbr S, zN0, zN1, zN2, zN3, zN4, zI0, zI1, zI2, zI3, reduceCtorEq, o72_11 S, w_ix he, c_seqm_At S, wi k (by omega), h2, k2, hk, eq_true ha, hfr, Md.hazGo, Md.hitL]
      rw[<-hK,loop_in (on S _ _ [1,2,3,4,10] (by decide) rfl) rfl _ _ _ _ _ _ _ _ _ rfl]
      simp only[eG,go_sem,thq S,nbr S,zN0,zN1,zN2,zN3,zN4,zI0,zI1,zI2,zI3,reduceCtorEq,o72_11 S,w_ix he,c_seqm_At S,wi k (by omega),h2]
      exact ih (k+1) fuel (by omega) (by omega) (by omega)
    ·simp only [eG, go_sem, thq S, nbr S, zN0, zN1, zN2, zN3, zN4, zI0, zI1, zI2, zI3, reduceCtorEq, o72_11 S, w_ix he, c_seqm_At S, wi k (by omega), h2, k2, hk, eq_false ha, Md.hazGo, Md.hitL]
     rw[<-hK,loop_in (on S _ _ [1,2,3,4,10] (by decide) rfl) rfl _ _ _ _ _ _ _ _ _ rfl]
     simp only[eG,go_sem,thq S,nbr S,zN0,zN1,zN2,zN3,zN4,zI0,zI1,zI2,zI3,reduceCtorEq,o72_11 S,w_ix he,c_seqm_At S,wi k (by omega),h2]
     exact ih (k+1) fuel (by omega) (by omega) (by omega)
   | false=>
    simp only[eG,go_sem,thq S,nbr S,zN0,zN1,zN2,zN3,zN4,zI0,zI1,zI2,zI3,reduceCtorEq,o72_11 S,w_ix he,c_seqm_At S,wi k (by omega),h2,k2,hk,Md.hazGo,Md.hitL]
    rw[<-hK,loop_in (on S _ _ [1,2,3,4,10] (by decide) rfl) rfl _ _ _ _ _ _ _ _ _ rfl]
    simp only[eG,go_sem,thq S,nbr S,zN0,zN1,zN2,zN3,zN4,zI0,zI1,zI2,zI3,reduceCtorEq,o72_11 S,w_ix he,c_seqm_At S,wi k (by omega),h2]
    exact ih (k+1) fuel (by omega) (by omega) (by omega)
  ·simp only [eG, go_sem, thq S, nbr S, zN0, zN1, zN2, zN3, zN4, zI0, zI1, zI2, zI3, reduceCtorEq, o72_11 S, w_ix he, c_seqm_At S, wi k (by omega), h2, eq_false k2, Md.hazGo, Md.hitL]
   rw[<-hK,loop_in (on S _ _ [1,2,3,4,10] (by decide) rfl) rfl _ _ _ _ _ _ _ _ _ rfl]
   simp only[eG,go_sem,thq S,nbr S,zN0,zN1,zN2,zN3,zN4,zI0,zI1,zI2,zI3,reduceCtorEq,o72_11 S,w_ix he,c_seqm_At S,wi k (by omega),h2]
   exact ih (k+1) fuel (by omega) (by omega) (by omega)
theorem raw_memo_Hazard (dp:Nat)(p:Prog)(l:List Ent)(i addr:Int)(hl:l.length<1073741824)(hi0:i<4611686018427387904)(hi1: -4611686018427387904<i):Says E fn (dp+2) 72 [progD p,rowD l,vi i,vi addr] (.tup [vi (Md.hazard p l i addr).1,vb (Md.hazard p l i addr).2]):=by
 unfold Says
 show ansOf (evC E fn (dp+1+1) 72 [.d (progD p),.d (rowD l),.d (vi i),.d (vi addr)] [])=_
 rw[evC_succ,S.f_memo_Hazard,apF_some,F_memo_Hazard,mkF_run _ _ _ _ _ _ _ _ rfl]
 have hh:Md.hazAt l i<=l.length+1:=by unfold Md.hazAt;omega
 have hr:max (IntKind.i64.wrap (min i (l.length:Int)+1)) 0=(Md.hazAt l i:Int):=by rw[wrap_i64 (by omega) (by omega)];unfold Md.hazAt;omega
 simp only[eG,go_sem,thq S,nbr S,zN0,zN1,zN2,zN3,zN4,zI0,zI1,zI2,zI3,reduceCtorEq,o72_11 S,hr]
 rw[big_eq,loop_in (on S _ _ [1,2,3,4,10] (by decide) rfl) rfl _ _ _ _ _ _ _ _ _ rfl]
 simp only[eG,go_sem,thq S,nbr S,zN0,zN1,zN2,zN3,zN4,zI0,zI1,zI2,zI3,reduceCtorEq,o72_11 S]
 refine loop_pHaz S dp p l i addr hl _ ?_ (l.length-Md.hazAt l i) (Md.hazAt l i) _ (by omega) hh (by omega)
 intro T A
 simp only[eG,go_sem,thq S,nbr S,zN0,zN1,zN2,zN3,zN4,zI0,zI1,zI2,zI3,reduceCtorEq,o72_11 S]
theorem c_memo_Hazard (dp:Nat)(p_w p_wn p_fu p_r0 p_r1 p_r2 p_r3:Int)(p_ms:List MemT)(p_ls:List Label)(p_is:List Ins)(l:List Ent)(i addr:Int)(hl:l.length<1073741824)(hi0:i<4611686018427387904)(hi1: -4611686018427387904<i)(A:List Blk)(nb:Nat)(us:List Nat):evOwnK false E (evC E fn (dp+2)) 72 A nb (some ([.agg [vi p_w,vi p_wn,vi p_fu,vi p_r0,vi p_r1,vi p_r2,vi p_r3,rowD p_ms,rowD p_ls,rowD p_is],rowD l,vi i,vi addr],us))=some (.made (.d (.tup [vi (Md.hazard (⟨p_w,p_wn,p_fu,⟨p_r0,p_r1,p_r2,p_r3⟩,p_ms,p_ls,p_is⟩:Prog) l i addr).1,vb (Md.hazard (⟨p_w,p_wn,p_fu,⟨p_r0,p_r1,p_r2,p_r3⟩,p_ms,p_ls,p_is⟩:Prog) l i addr).2])) []):=
 Says.flat (raw_memo_Hazard S dp (⟨p_w,p_wn,p_fu,⟨p_r0,p_r1,p_r2,p_r3⟩,p_ms,p_ls,p_is⟩:Prog) l i addr hl hi0 hi1) (np S 72 (by decide)) (rfl) A nb us
end
theorem own0A {α:Type} [Cl α] {l:List α}(h:l.length=0)(i:Nat):ownA i l=.d (.lst [] 0 (some 0)):=by rw[List.length_eq_zero_iff.1 h];rfl
theorem own0B {α:Type} [Cl α] {l:List α}(h:l.length=0):ownB l=[]:=by rw[List.length_eq_zero_iff.1 h];rfl
variable {E:Env} {fn:FuncId->Option (Env->CallT->CallT)}
section
variable (S:Sur E fn)
include S
theorem o121_12:E.lives 121 7=none/\E.lives 121 17=none/\E.lives 121 19=none:=⟨off S 121 7 (by decide) rfl,off S 121 17 (by decide) rfl,off S 121 19 (by decide) rfl⟩
theorem own_arch (dp:Nat)(r0 r1 r2 r3:Int)(mm sk:List Int)(pc:Int)(hm:mm.length<1073741824)(hs:sk.length<1073741824):
  evC E fn (dp+1) 79 [.d (.agg [vi r0,vi r1,vi r2,vi r3,rowD mm,rowD sk,vi pc])] []=some (.agg [aint r0,aint r1,aint r2,aint r3,ownA 0 mm,ownA (ownB mm).length sk,aint pc],ownB mm++ownB sk):=by
 rw[evC_succ,S.f_arch_Still,apF_some,F_arch_Still,mkF_run _ _ _ _ _ _ _ _ rfl]
 by_cases h1:mm.length=0<;>by_cases h2:sk.length=0
 ·simp only[eG,go_sem,thq S,nbr S,zN0,zN1,zN2,zN3,zN4,zI0,zI1,zI2,zI3,reduceCtorEq,o_cloneI S hm,o_cloneI S hs,own0A h1,own0B h1,own0A h2,own0B h2]
 ·simp only[eG,go_sem,thq S,nbr S,zN0,zN1,zN2,zN3,zN4,zI0,zI1,zI2,zI3,reduceCtorEq,o_cloneI S hm,o_cloneI S hs,own0A h1,own0B h1,ownA_ne h2,ownB_ne h2]
 ·simp only[eG,go_sem,thq S,nbr S,zN0,zN1,zN2,zN3,zN4,zI0,zI1,zI2,zI3,reduceCtorEq,o_cloneI S hm,o_cloneI S hs,ownA_ne h1,ownB_ne h1,own0A h2,own0B h2]
 ·simp only[eG,go_sem,thq S,nbr S,zN0,zN1,zN2,zN3,zN4,zI0,zI1,zI2,zI3,reduceCtorEq,o_cloneI S hm,o_cloneI S hs,ownA_ne h1,ownB_ne h1,ownA_ne h2,ownB_ne h2]
theorem raw_arch_Still (dp:Nat)(s:State)(hm:s.mem.length<1073741824)(hs:s.stack.length<1073741824):Says E fn (dp+1) 79 [stateD s] (stateD s):=by
 unfold Says
 show ansOf (evC E fn (dp+1) 79 [.d (stateD s)] [])=_
 have h:=own_arch S dp s.regs.r0 s.regs.r1 s.regs.r2 s.regs.r3 s.mem s.stack s.pc hm hs
 show ansOf (evC E fn (dp+1) 79 [.d (.agg [vi s.regs.r0,vi s.regs.r1,vi s.regs.r2,vi s.regs.r3,rowD s.mem,rowD s.stack,vi s.pc])] [])=_
 rw[h]
 by_cases h1:s.mem.length=0<;>by_cases h2:s.stack.length=0
 ·have e1 : s.mem = [] := List.length_eq_zero_iff.1 h1
  have e2:s.stack=[]:=List.length_eq_zero_iff.1 h2
  simp only[eG,go_sem,thq S,nbr S,zN0,zN1,zN2,zN3,zN4,zI0,zI1,zI2,zI3,reduceCtorEq,e1,e2,ownA_nil,ownB_nil]
 ·have e1 : s.mem = [] := List.length_eq_zero_iff.1 h1
  have n2:s.stack≠[]:=fun e=>h2 (by rw[e];rfl)
  have d2:deep [.cells ((rowC s.stack).map .d) 0 false] 7 (.sref 0 0 0 s.stack.length 1 none)=some (.lst (rowC s.stack) s.stack.length none,[0]):=deep_all rfl n2 5 _ 1 none rfl rfl
  simp only[eG,go_sem,thq S,nbr S,zN0,zN1,zN2,zN3,zN4,zI0,zI1,zI2,zI3,reduceCtorEq,e1,ownA_nil,ownB_nil,ownA_ne h2,ownB_ne h2,d2];rfl
 ·have e2 : s.stack = [] := List.length_eq_zero_iff.1 h2
  have n1:s.mem≠[]:=fun e=>h1 (by rw[e];rfl)
  have d1:deep [.cells ((rowC s.mem).map .d) 0 false] 7 (.sref 0 0 0 s.mem.length 1 none)=some (.lst (rowC s.mem) s.mem.length none,[0]):=deep_all rfl n1 5 _ 1 none rfl rfl
  simp only[eG,go_sem,thq S,nbr S,zN0,zN1,zN2,zN3,zN4,zI0,zI1,zI2,zI3,reduceCtorEq,e2,ownA_nil,ownB_nil,ownA_ne h1,ownB_ne h1,d1];rfl
 ·have n2 : s.stack ≠ [] := fun e => h2 (by rw [e]; rfl)
  have n1:s.mem≠[]:=fun e=>h1 (by rw[e];rfl)
  have d1:deep [.cells ((rowC s.mem).map .d) 0 false,.cells ((rowC s.stack).map .d) 0 false] 7 (.sref 0 0 0 s.mem.length 1 none)=some (.lst (rowC s.mem) s.mem.length none,[0]):=deep_all rfl n1 5 _ 1 none rfl rfl
  have d2:deep [.cells ((rowC s.mem).map .d) 0 false,.cells ((rowC s.stack).map .d) 0 false] 7 (.sref 1 0 0 s.stack.length 1 none)=some (.lst (rowC s.stack) s.stack.length none,[1]):=deep_all rfl n2 5 _ 1 none rfl rfl
  simp only[eG,go_sem,thq S,nbr S,zN0,zN1,zN2,zN3,zN4,zI0,zI1,zI2,zI3,reduceCtorEq,ownA_ne h1,ownB_ne h1,ownA_ne h2,ownB_ne h2,d1,d2];rfl
theorem c_arch_Still (dp:Nat)(s_r0 s_r1 s_r2 s_r3:Int)(s_mm s_st:List Int)(s_pc:Int)(hm:(⟨⟨s_r0,s_r1,s_r2,s_r3⟩,s_mm,s_st,s_pc⟩:State).mem.length<1073741824)(hs:(⟨⟨s_r0,s_r1,s_r2,s_r3⟩,s_mm,s_st,s_pc⟩:State).stack.length<1073741824)(A:List Blk)(nb:Nat):evOwnK false E (evC E fn (dp+1)) 79 A nb (some ([.agg [vi s_r0,vi s_r1,vi s_r2,vi s_r3,rowD s_mm,rowD s_st,vi s_pc]],[]))=some (.made (.d (stateD (⟨⟨s_r0,s_r1,s_r2,s_r3⟩,s_mm,s_st,s_pc⟩:State))) []):=
 Says.deep (raw_arch_Still S dp (⟨⟨s_r0,s_r1,s_r2,s_r3⟩,s_mm,s_st,s_pc⟩:State) hm hs) (np S 79 (by decide)) A nb
theorem o_arch_Still (dp:Nat)(r0 r1 r2 r3:Int)(mm sk:List Int)(pc:Int)(hm:mm.length<1073741824)(hs:sk.length<1073741824)(A:List Blk)(nb:Nat):
  evOwnK true E (evC E fn (dp+1)) 79 A nb (some ([.agg [vi r0,vi r1,vi r2,vi r3,rowD mm,rowD sk,vi pc]],[]))=some (.made (.agg [aint r0,aint r1,aint r2,aint r3,ownA nb mm,ownA (nb+(ownB mm).length) sk,aint pc]) (ownB mm++ownB sk)):=by
 have h:=own_arch S dp r0 r1 r2 r3 mm sk pc hm hs
 have hr:evRaw E (evC E fn (dp+1)) 79 [.agg [vi r0,vi r1,vi r2,vi r3,rowD mm,rowD sk,vi pc]]=some (.agg [aint r0,aint r1,aint r2,aint r3,ownA 0 mm,ownA (ownB mm).length sk,aint pc],ownB mm++ownB sk):=by
  unfold evRaw
  rw[np S 79 (by decide)]
  exact h
 simp only[evOwnK,hr,evAnsB,cond_true]
 by_cases h1:mm.length=0<;>by_cases h2:sk.length=0
 ·have e1 : mm = [] := List.length_eq_zero_iff.1 h1
  have e2:sk=[]:=List.length_eq_zero_iff.1 h2
  subst e1 e2
  rfl
 ·have e1 : mm = [] := List.length_eq_zero_iff.1 h1
  subst e1
  simp[ownA_nil,ownB_nil,ownA_ne h2,ownB_ne h2,thaw,mapT,thawed,isEmptyL,memN,Cl.n]
 ·have e2 : sk = [] := List.length_eq_zero_iff.1 h2
  subst e2
  simp[ownA_nil,ownB_nil,ownA_ne h1,ownB_ne h1,thaw,mapT,thawed,isEmptyL,memN,Cl.n]
 ·simp[ownA_ne h1,ownB_ne h1,ownA_ne h2,ownB_ne h2,thaw,mapT,thawed,isEmptyL,memN,Cl.n]
theorem own_conf (dp:Nat)(r0 r1 r2 r3:Int)(mm sk:List Int)(pc:Int)(bf:List Ent)(rb:List Int)(en:Int)(hm:mm.length<1073741824)(hs:sk.length<1073741824)(hb:bf.length<1073741824)(hr:rb.length<1073741824):
  evC E fn (dp+2) 39 [.d (.agg [vi r0,vi r1,vi r2,vi r3,rowD mm,rowD sk,vi pc,rowD bf,rowD rb,vi en])] []=some (.agg [aint r0,aint r1,aint r2,aint r3,ownA 0 mm,ownA (ownB mm).length sk,aint pc,.d (rowD bf),.d (rowD rb),aint en],ownB mm++ownB sk):=by
 rw[evC_succ,S.f_conf_Still,apF_some,F_conf_Still,mkF_run _ _ _ _ _ _ _ _ rfl]
 by_cases h1:mm.length=0<;>by_cases h2:sk.length=0
 ·simp only[eG,go_sem,thq S,nbr S,zN0,zN1,zN2,zN3,zN4,zI0,zI1,zI2,zI3,reduceCtorEq,o_arch_Still S,hm,hs,c_cloneE S hb,c_cloneI S hr,own0A h1,own0B h1,own0A h2,own0B h2]
 ·simp only[eG,go_sem,thq S,nbr S,zN0,zN1,zN2,zN3,zN4,zI0,zI1,zI2,zI3,reduceCtorEq,o_arch_Still S,hm,hs,c_cloneE S hb,c_cloneI S hr,own0A h1,own0B h1,ownA_ne h2,ownB_ne h2]
 ·simp only[eG,go_sem,thq S,nbr S,zN0,zN1,zN2,zN3,zN4,zI0,zI1,zI2,zI3,reduceCtorEq,o_arch_Still S,hm,hs,c_cloneE S hb,c_cloneI S hr,ownA_ne h1,ownB_ne h1,own0A h2,own0B h2]
 ·simp only[eG,go_sem,thq S,nbr S,zN0,zN1,zN2,zN3,zN4,zI0,zI1,zI2,zI3,reduceCtorEq,o_arch_Still S,hm,hs,c_cloneE S hb,c_cloneI S hr,ownA_ne h1,ownB_ne h1,ownA_ne h2,ownB_ne h2]
theorem raw_conf_Still (dp:Nat)(c:Conf)(hm:c.state.mem.length<1073741824)(hs:c.state.stack.length<1073741824)(hb:c.buf.length<1073741824)(hr:c.rsb.length<1073741824):Says E fn (dp+2) 39 [confD c] (confD c):=by
 unfold Says
 show ansOf (evC E fn (dp+1+1) 39 [.d (confD c)] [])=_
 have h:=own_conf S dp c.state.regs.r0 c.state.regs.r1 c.state.regs.r2 c.state.regs.r3 c.state.mem c.state.stack c.state.pc c.buf c.rsb c.end_ hm hs hb hr
 show ansOf (evC E fn (dp+2) 39 [.d (.agg [vi c.state.regs.r0,vi c.state.regs.r1,vi c.state.regs.r2,vi c.state.regs.r3,rowD c.state.mem,rowD c.state.stack,vi c.state.pc,rowD c.buf,rowD c.rsb,vi c.end_])] [])=_
 rw[h]
 by_cases h1:c.state.mem.length=0<;>by_cases h2:c.state.stack.length=0
 ·have e1 : c.state.mem = [] := List.length_eq_zero_iff.1 h1
  have e2:c.state.stack=[]:=List.length_eq_zero_iff.1 h2
  simp only[eG,go_sem,thq S,nbr S,zN0,zN1,zN2,zN3,zN4,zI0,zI1,zI2,zI3,reduceCtorEq,e1,e2,ownA_nil,ownB_nil]
 ·have e1 : c.state.mem = [] := List.length_eq_zero_iff.1 h1
  have n2:c.state.stack≠[]:=fun e=>h2 (by rw[e];rfl)
  have d2:deep [.cells ((rowC c.state.stack).map .d) 0 false] 7 (.sref 0 0 0 c.state.stack.length 1 none)=some (.lst (rowC c.state.stack) c.state.stack.length none,[0]):=deep_all rfl n2 5 _ 1 none rfl rfl
  simp only[eG,go_sem,thq S,nbr S,zN0,zN1,zN2,zN3,zN4,zI0,zI1,zI2,zI3,reduceCtorEq,e1,ownA_nil,ownB_nil,ownA_ne h2,ownB_ne h2,d2];rfl
 ·have e2 : c.state.stack = [] := List.length_eq_zero_iff.1 h2
  have n1:c.state.mem≠[]:=fun e=>h1 (by rw[e];rfl)
  have d1:deep [.cells ((rowC c.state.mem).map .d) 0 false] 7 (.sref 0 0 0 c.state.mem.length 1 none)=some (.lst (rowC c.state.mem) c.state.mem.length none,[0]):=deep_all rfl n1 5 _ 1 none rfl rfl
  simp only[eG,go_sem,thq S,nbr S,zN0,zN1,zN2,zN3,zN4,zI0,zI1,zI2,zI3,reduceCtorEq,e2,ownA_nil,ownB_nil,ownA_ne h1,ownB_ne h1,d1];rfl
 ·have n2 : c.state.stack ≠ [] := fun e => h2 (by rw [e]; rfl)
  have n1:c.state.mem≠[]:=fun e=>h1 (by rw[e];rfl)
  have d1:deep [.cells ((rowC c.state.mem).map .d) 0 false,.cells ((rowC c.state.stack).map .d) 0 false] 7 (.sref 0 0 0 c.state.mem.length 1 none)=some (.lst (rowC c.state.mem) c.state.mem.length none,[0]):=deep_all rfl n1 5 _ 1 none rfl rfl
  have d2:deep [.cells ((rowC c.state.mem).map .d) 0 false,.cells ((rowC c.state.stack).map .d) 0 false] 7 (.sref 1 0 0 c.state.stack.length 1 none)=some (.lst (rowC c.state.stack) c.state.stack.length none,[1]):=deep_all rfl n2 5 _ 1 none rfl rfl
  simp only[eG,go_sem,thq S,nbr S,zN0,zN1,zN2,zN3,zN4,zI0,zI1,zI2,zI3,reduceCtorEq,ownA_ne h1,ownB_ne h1,ownA_ne h2,ownB_ne h2,d1,d2];rfl
theorem c_conf_Still (dp:Nat)(c_r0 c_r1 c_r2 c_r3:Int)(c_mm c_st:List Int)(c_pc:Int)(c_bf:List Ent)(c_rb:List Int)(c_en:Int)(hm:(⟨⟨⟨c_r0,c_r1,c_r2,c_r3⟩,c_mm,c_st,c_pc⟩,c_bf,c_rb,c_en⟩:Conf).state.mem.length<1073741824)(hs:(⟨⟨⟨c_r0,c_r1,c_r2,c_r3⟩,c_mm,c_st,c_pc⟩,c_bf,c_rb,c_en⟩:Conf).state.stack.length<1073741824)(hb:(⟨⟨⟨c_r0,c_r1,c_r2,c_r3⟩,c_mm,c_st,c_pc⟩,c_bf,c_rb,c_en⟩:Conf).buf.length<1073741824)(hr:(⟨⟨⟨c_r0,c_r1,c_r2,c_r3⟩,c_mm,c_st,c_pc⟩,c_bf,c_rb,c_en⟩:Conf).rsb.length<1073741824)(A:List Blk)(nb:Nat):evOwnK false E (evC E fn (dp+2)) 39 A nb (some ([.agg [vi c_r0,vi c_r1,vi c_r2,vi c_r3,rowD c_mm,rowD c_st,vi c_pc,rowD c_bf,rowD c_rb,vi c_en]],[]))=some (.made (.d (confD (⟨⟨⟨c_r0,c_r1,c_r2,c_r3⟩,c_mm,c_st,c_pc⟩,c_bf,c_rb,c_en⟩:Conf))) []):=
 Says.deep (raw_conf_Still S dp (⟨⟨⟨c_r0,c_r1,c_r2,c_r3⟩,c_mm,c_st,c_pc⟩,c_bf,c_rb,c_en⟩:Conf) hm hs hb hr) (np S 39 (by decide)) A nb
theorem c_Backward (dp:Nat)(l:List Ent)(A:List Blk)(nb:Nat):evOwnK false E (evC E fn (dp+1)) 132 A nb (some ([rowD l],[]))=some (.made (.d (.fn (.func 135) [.vptr [rowD l]])) []):=by
 have h:Says E fn (dp+1) 132 [rowD l] (.fn (.func 135) [.vptr [rowD l]]):=by
  unfold Says
  show ansOf (evC E fn (dp+1) 132 [.d (rowD l)] [])=_
  rw[evC_succ,S.f_slices_Backward_api_Ent_api_Ent,apF_some,F_slices_Backward_api_Ent_api_Ent,mkF_run _ _ _ _ _ _ _ _ rfl]
  simp only[eG,go_sem,thq S,nbr S,zN0,zN1,zN2,zN3,zN4,zI0,zI1,zI2,zI3,reduceCtorEq,deep_ref]
 exact h.deep (np S 132 (by decide)) A nb
theorem rounds_pReg (dp:Nat)(p:Prog)(of:Regs)(l:List Ent)(r:Int)(hl:l.length<1073741824)(kn:K)(kx:Nat->K)(D:Int)(d:AV)(T:List (Nat×AV))
  (h5:getS d T 5=.ref 0 0 0) (h9:getS d T 9=.ref 2 0 0) (h10:getS d T 10=.ref 3 0 0) (h11:getS d T 11=.ref 4 0 0)
  (hx:∀ A,ansOf (kn (mk d 50 T) (.cells ((progC p).map .d) 0 false:: .cells ((regsC of).map .d) 0 false:: .cells [aint r] 0 false:: .cells [zi] 0 false:: .cells [zb] 0 false::A))=some (.tup [vi D,vb true])):
  ∀(k:Nat),k<=l.length->∀ es,backElems (rowC l) 8 true k=some es->∀ A,ansOf (roundsK RA_reso_Reg RB_reso_Reg [26,27] (inn E 121) (evC E fn (dp+1)) kn kx (kEnd 0 [.cell 10 false 1,.cell 11 false 1]) (mk d 50 T) es (.cells ((progC p).map .d) 0 false:: .cells ((regsC of).map .d) 0 false:: .cells [aint r] 0 false:: .cells [zi] 0 false:: .cells [zb] 0 false::A))=
   some (.tup [vi (Md.regGo p r D (l.take k).reverse).1,vb (Md.regGo p r D (l.take k).reverse).2]):=by
 intro k
 induction k with
 | zero=>
  intro _ es hes A
  have:es=[]:=by simpa [backElems] using hes.symm
  subst this
  exact hx A
 | succ k ih=>
  intro hk es hes A
  obtain⟨e,he⟩:=get_of (show k<l.length by omega)
  obtain⟨es0,h0⟩:=back_some (s:=8) rfl l k (by omega)
  have:=back_succ (s:=8) rfl he h0 hes
  subst this
  rw[take_rev he]
  have ih':=fun A'=>ih (by omega) es0 h0 A'
  rw[roundsK]
  generalize hK:(fun(x:List AV) (A2:List Blk)=>roundsK RA_reso_Reg RB_reso_Reg [26,27] (inn E 121) (evC E fn (dp+1)) kn kx (kEnd 0 [.cell 10 false 1,.cell 11 false 1]) (mk d 50 T) es0 A2)=KK
  rw[RA_reso_Reg,RB_reso_Reg]
  by_cases h1:Md.destK (Md.at_ p e.pc)=true
  ·by_cases h2 : (Md.at_ p e.pc).d = r
   ·cases h3:e.done<;>simp only[eG,go_sem,thq S,nbr S,zN0,zN1,zN2,zN3,zN4,zI0,zI1,zI2,zI3,reduceCtorEq,o121_12 S,h5,h9,h10,h11,c_seqm_At S,c_reso_Dest S,Md.regGo,Md.dest,h1,eq_true h2,h3]
   ·simp only [eG, go_sem, thq S, nbr S, zN0, zN1, zN2, zN3, zN4, zI0, zI1, zI2, zI3, reduceCtorEq, o121_12 S, h5, h9, h10, h11, c_seqm_At S, c_reso_Dest S, Md.regGo, Md.dest, h1, eq_false h2]
    rw[<-hK]
    exact ih' _
  ·have h1' : Md.destK (Md.at_ p e.pc) = false := by simpa using h1
   simp only[eG,go_sem,thq S,nbr S,zN0,zN1,zN2,zN3,zN4,zI0,zI1,zI2,zI3,reduceCtorEq,o121_12 S,h5,h9,h10,h11,c_seqm_At S,c_reso_Dest S,Md.regGo,Md.dest,h1']
   rw[<-hK]
   exact ih' _
end
end Go.Aug.Mc
