import Derived.Test.YtogckbgcldmaeaaMc52
import Derived.Test.YtogckbgcldmaeaaMc20
import Derived.Test.YtogckbgcldmaeaaMc9
import Derived.Test.YtogckbgcldmaeaaMc11
import Derived.Test.YtogckbgcldmaeaaMc27
import Derived.Test.YtogckbgcldmaeaaMk
import Derived.Test.YtogckbgcldmaeaaBo
namespace Go.Aug.Mc
open Go Go.Aug
open Nat renaming reduceLT -> zN0, reduceEqDiff -> zN1, reduceAdd -> zN2, reduceMul -> zN3, reduceLeDiff -> zN4
open Int renaming reduceEq -> zI0, reduceLT -> zI1, reduceLE -> zI2, reduceNeg -> zI3
set_option linter.unusedSimpArgs false
set_option linter.unusedVariables false
set_option maxHeartbeats 40000000
set_option maxRecDepth 200000
def noRoom (o:Option (List Int)):Bool:=match o with | none=>true | some l=>decide (4<=l.length)
variable {E:Env} {fn:FuncId->Option (Env->CallT->CallT)}
section
variable (S:Sur E fn)
include S
theorem o135_54:E.lives 135 11=none:=off S 135 11 (by decide) rfl
theorem o121_54:E.lives 121 13=none/\E.lives 121 15=none/\E.lives 121 19=none/\E.lives 121 23=none/\E.lives 121 27=none/\E.lives 121 33=none/\E.lives 121 37=none/\E.lives 121 39=none:=⟨off S 121 13 (by decide) rfl,off S 121 15 (by decide) rfl,off S 121 19 (by decide) rfl,off S 121 23 (by decide) rfl,off S 121 27 (by decide) rfl,off S 121 33 (by decide) rfl,off S 121 37 (by decide) rfl,off S 121 39 (by decide) rfl⟩
theorem call_go (dp:Nat)(p:Prog)(r0 r1 r2 r3 pc en:Int)(mm sk rb:List Int)(bf:List Ent)(e1 e2 e3 e4 e5:Int)(e6 e7 e8:Bool)(hs:sk.length<1073741824)(hb:bf.length<1073741824)(hr:rb.length<1073741823):
  evC E fn (dp+4) 134 [.agg [.d (vi p.w),.d (vi p.window),.d (vi p.fuel),.d (vi p.regs.r0),.d (vi p.regs.r1),.d (vi p.regs.r2),.d (vi p.regs.r3),.d (rowD p.mems),.d (rowD p.labels),.d (rowD p.ins)],.ref 0 0 0,.agg [.d (vi e1),.d (vi e2),.d (vi e3),.d (vi e4),.d (vi e5),.d (vb e6),.d (vb e7),.d (vb e8)]] [.cells [.d (vi r0),.d (vi r1),.d (vi r2),.d (vi r3),.d (rowD mm),.d (rowD sk),.d (vi pc),.d (rowD bf),.d (rowD rb),.d (vi en)] 0 false]=
  some (.agg [.d (vi e1),.d (vi e2),.d (vi e3),.d (vi e4),.d (vi e5),.d (vb true),.d (vb e7),.d (vb (noRoom (Md.real p sk bf bf.length)))],[.cells [.d (vi r0),.d (vi r1),.d (vi r2),.d (vi r3),.d (rowD mm),.d (rowD sk),.d (vi pc),.d (rowD bf),.d (rowD (Md.push rb (Md.w64 (e1+1)))),.d (vi en)] 0 false]):=by
 rw[evC_succ,S.f_fetc_call,apF_some,F_fetc_call,mkF_run _ _ _ _ _ _ _ _ rfl]
 cases hreal:Md.real p sk bf bf.length with
 | none=>simp only[go_sem,thq S,nbr S,zN0,zN1,zN2,zN3,zN4,zI0,zI1,zI2,zI3,reduceCtorEq,end_b,sp_lt,spN_some,rH_N,rB_cells,List.take_succ_cons,List.take_zero,sw_t,sw_s,dl_nil,dl_cons,rep1',Option.map_some,c_retb_Real S,c_retb_Push S,hs,hb,hr,hreal,getO,boolO,noRoom,Md.w64,Bool.not_true,Bool.not_false]
 | some l=>
  have hr4:decide ((l.length:Int)>=4)=decide (4<=l.length):=decide_eq_decide.2 (by omega)
  simp only[go_sem,thq S,nbr S,zN0,zN1,zN2,zN3,zN4,zI0,zI1,zI2,zI3,reduceCtorEq,hr4,end_b,sp_lt,spN_some,rH_N,rB_cells,List.take_succ_cons,List.take_zero,sw_t,sw_s,dl_nil,dl_cons,rep1',Option.map_some,c_retb_Real S,c_retb_Push S,hs,hb,hr,hreal,getO,boolO,noRoom,Md.w64,Bool.not_true,Bool.not_false]
theorem ret_go (dp:Nat)(r0 r1 r2 r3 pc en g:Int)(mm sk rb:List Int)(bf:List Ent)(e1 e2 e3 e4 e5:Int)(e6 e7 e8:Bool)(hr:rb.length<1073741824):
  evC E fn (dp+2) 135 [.ref 0 0 0,.agg [.d (vi e1),.d (vi e2),.d (vi e3),.d (vi e4),.d (vi e5),.d (vb e6),.d (vb e7),.d (vb e8)],.d (vi g)] [.cells [.d (vi r0),.d (vi r1),.d (vi r2),.d (vi r3),.d (rowD mm),.d (rowD sk),.d (vi pc),.d (rowD bf),.d (rowD rb),.d (vi en)] 0 false]=
  some (.agg [.d (vi e1),.d (vi e2),.d (vi e3),.d (vi e4),.d (vi (if rb.length=0 then g else Md.lastI rb)),.d (vb e6),.d (vb e7),.d (vb e8)],[.cells [.d (vi r0),.d (vi r1),.d (vi r2),.d (vi r3),.d (rowD mm),.d (rowD sk),.d (vi pc),.d (rowD bf),.d (rowD (if rb.length=0 then rb else rb.dropLast)),.d (vi en)] 0 false]):=by
 rw[evC_succ,S.f_fetc_ret,apF_some,F_fetc_ret,mkF_run _ _ _ _ _ _ _ _ rfl]
 by_cases h:rb.length=0
 ·simp only[go_sem,thq S,nbr S,zN0,zN1,zN2,zN3,zN4,zI0,zI1,zI2,zI3,reduceCtorEq,o135_54 S,end_b,sp_lt,spN_some,rH_N,rB_cells,List.take_succ_cons,List.take_zero,sw_t,sw_s,dl_nil,dl_cons,rep1',Option.map_some,c_retb_Pop S,hr,h,ne_eq,not_true_eq_false,not_false_eq_true]
 ·simp only[go_sem,thq S,nbr S,zN0,zN1,zN2,zN3,zN4,zI0,zI1,zI2,zI3,reduceCtorEq,o135_54 S,end_b,sp_lt,spN_some,rH_N,rB_cells,List.take_succ_cons,List.take_zero,sw_t,sw_s,dl_nil,dl_cons,rep1',Option.map_some,c_retb_Pop S,hr,h,ne_eq,not_true_eq_false,not_false_eq_true]
theorem entry_go (dp:Nat)(p:Prog)(c:Conf)(g:Int)(hs:c.state.stack.length<1073741824)(hb:c.buf.length<1073741824)(hr:c.rsb.length<1073741823):
  evC E fn (dp+5) 121 [.agg [.d (vi p.w),.d (vi p.window),.d (vi p.fuel),.d (vi p.regs.r0),.d (vi p.regs.r1),.d (vi p.regs.r2),.d (vi p.regs.r3),.d (rowD p.mems),.d (rowD p.labels),.d (rowD p.ins)],.ref 0 0 0,.d (vi g)] [.cells ((confC c).map .d) 0 false]=
  some (.agg ((Cl.cells (Md.entry p c g).1).map .d),[.cells ((confC { c with rsb:=(Md.entry p c g).2 }).map .d) 0 false]):=by
 have hr':c.rsb.length<1073741824:=by omega
 rw[evC_succ,S.f_fetc_entry,apF_some,F_fetc_entry,mkF_run _ _ _ _ _ _ _ _ rfl]
 by_cases k5:(Md.at_ p c.state.pc).kind=5
 ·by_cases hg : g = 1
  ·simp only[go_sem,thq S,nbr S,zN0,zN1,zN2,zN3,zN4,zI0,zI1,zI2,zI3,reduceCtorEq,o121_54 S,end_b,sp_lt,spN_some,rH_N,rB_cells,List.take_succ_cons,List.take_zero,sw_t,sw_s,dl_nil,dl_cons,rep1',Option.map_some,c_seqm_At S,Md.entry,Md.w64,zI0,if_true,if_false,or_self,true_or,or_true,k5,hg]
  ·simp only[go_sem,thq S,nbr S,zN0,zN1,zN2,zN3,zN4,zI0,zI1,zI2,zI3,reduceCtorEq,o121_54 S,end_b,sp_lt,spN_some,rH_N,rB_cells,List.take_succ_cons,List.take_zero,sw_t,sw_s,dl_nil,dl_cons,rep1',Option.map_some,c_seqm_At S,Md.entry,Md.w64,zI0,if_true,if_false,or_self,true_or,or_true,k5,hg]
 by_cases k6:(Md.at_ p c.state.pc).kind=6
 ·simp only[go_sem,thq S,nbr S,zN0,zN1,zN2,zN3,zN4,zI0,zI1,zI2,zI3,reduceCtorEq,o121_54 S,end_b,sp_lt,spN_some,rH_N,rB_cells,List.take_succ_cons,List.take_zero,sw_t,sw_s,dl_nil,dl_cons,rep1',Option.map_some,c_seqm_At S,Md.entry,Md.w64,zI0,if_true,if_false,or_self,true_or,or_true,k6]
 by_cases k7:(Md.at_ p c.state.pc).kind=7
 ·simp only[go_sem,thq S,nbr S,zN0,zN1,zN2,zN3,zN4,zI0,zI1,zI2,zI3,reduceCtorEq,o121_54 S,end_b,sp_lt,spN_some,rH_N,rB_cells,List.take_succ_cons,List.take_zero,sw_t,sw_s,dl_nil,dl_cons,rep1',Option.map_some,c_seqm_At S,Md.entry,Md.w64,zI0,if_true,if_false,or_self,true_or,or_true,k7]
 by_cases k8:(Md.at_ p c.state.pc).kind=8
 ·simp only [go_sem, thq S, nbr S, zN0, zN1, zN2, zN3, zN4, zI0, zI1, zI2, zI3, reduceCtorEq, o121_54 S, end_b, sp_lt, spN_some, rH_N, rB_cells, List.take_succ_cons, List.take_zero, sw_t, sw_s, dl_nil, dl_cons, rep1', Option.map_some, c_seqm_At S, Md.entry, Md.w64, zI0, if_true, if_false, or_self, true_or, or_true, o_callB, br_go, br_back, br_backB, br_backI, ver_some, ver_nil, ver_cons, ok_nil, ok_cons, un_d, un_agg, un_tup, un_sref, unS_some, unS_none, un_map, unB_cells, put_nil, put_cons, map_iteB, List.drop_succ_cons, List.drop_zero, List.getD_cons_zero, List.getD_cons_succ, show Nat.ble 1 1 = true from rfl, nbr S, k8, call_go S, hs, hb, hr, noRoom]
  rfl
 by_cases k9:(Md.at_ p c.state.pc).kind=9
 ·by_cases hz : c.rsb.length = 0
  ·simp only[go_sem,thq S,nbr S,zN0,zN1,zN2,zN3,zN4,zI0,zI1,zI2,zI3,reduceCtorEq,o121_54 S,end_b,sp_lt,spN_some,rH_N,rB_cells,List.take_succ_cons,List.take_zero,sw_t,sw_s,dl_nil,dl_cons,rep1',Option.map_some,c_seqm_At S,Md.entry,Md.w64,zI0,if_true,if_false,or_self,true_or,or_true,o_callB,br_go,br_back,br_backB,br_backI,ver_some,ver_nil,ver_cons,ok_nil,ok_cons,un_d,un_agg,un_tup,un_sref,unS_some,unS_none,un_map,unB_cells,put_nil,put_cons,map_iteB,List.drop_succ_cons,List.drop_zero,List.getD_cons_zero,List.getD_cons_succ,show Nat.ble 1 1=true from rfl,nbr S,k9,ret_go S,hr',hz]
  ·simp only[go_sem,thq S,nbr S,zN0,zN1,zN2,zN3,zN4,zI0,zI1,zI2,zI3,reduceCtorEq,o121_54 S,end_b,sp_lt,spN_some,rH_N,rB_cells,List.take_succ_cons,List.take_zero,sw_t,sw_s,dl_nil,dl_cons,rep1',Option.map_some,c_seqm_At S,Md.entry,Md.w64,zI0,if_true,if_false,or_self,true_or,or_true,o_callB,br_go,br_back,br_backB,br_backI,ver_some,ver_nil,ver_cons,ok_nil,ok_cons,un_d,un_agg,un_tup,un_sref,unS_some,unS_none,un_map,unB_cells,put_nil,put_cons,map_iteB,List.drop_succ_cons,List.drop_zero,List.getD_cons_zero,List.getD_cons_succ,show Nat.ble 1 1=true from rfl,nbr S,k9,ret_go S,hr',hz]
 by_cases k11:(Md.at_ p c.state.pc).kind=11
 ·simp only[go_sem,thq S,nbr S,zN0,zN1,zN2,zN3,zN4,zI0,zI1,zI2,zI3,reduceCtorEq,o121_54 S,end_b,sp_lt,spN_some,rH_N,rB_cells,List.take_succ_cons,List.take_zero,sw_t,sw_s,dl_nil,dl_cons,rep1',Option.map_some,c_seqm_At S,Md.entry,Md.w64,zI0,if_true,if_false,or_self,true_or,or_true,k11]
 by_cases k12:(Md.at_ p c.state.pc).kind=12
 ·simp only[go_sem,thq S,nbr S,zN0,zN1,zN2,zN3,zN4,zI0,zI1,zI2,zI3,reduceCtorEq,o121_54 S,end_b,sp_lt,spN_some,rH_N,rB_cells,List.take_succ_cons,List.take_zero,sw_t,sw_s,dl_nil,dl_cons,rep1',Option.map_some,c_seqm_At S,Md.entry,Md.w64,zI0,if_true,if_false,or_self,true_or,or_true,k12]
 ·simp only[go_sem,thq S,nbr S,zN0,zN1,zN2,zN3,zN4,zI0,zI1,zI2,zI3,reduceCtorEq,o121_54 S,end_b,sp_lt,spN_some,rH_N,rB_cells,List.take_succ_cons,List.take_zero,sw_t,sw_s,dl_nil,dl_cons,rep1',Option.map_some,c_seqm_At S,Md.entry,Md.w64,zI0,if_true,if_false,or_self,true_or,or_true,k5,k6,k7,k8,k9,k11,k12]
end
variable {E:Env} {fn:FuncId->Option (Env->CallT->CallT)}
section
variable (S:Sur E fn)
include S
theorem o94_55:E.lives 94 7=none:=off S 94 7 (by decide) rfl
theorem raw_fetc_Fetch (dp:Nat)(p:Prog)(c:Conf)(g:Int)(hi:p.ins.length<1073741824)(hb:c.buf.length<1073741823)(hm:c.state.mem.length<1073741824)(hs:c.state.stack.length<1073741824)(hr:c.rsb.length<1073741823):Says E fn (dp+6) 94 [progD p,confD c,vi g] (.tup [confD (fetchC p c g),vb (Md.canFetch p c g)]):=by
 unfold Says
 show ansOf (evC E fn (dp+5+1) 94 [.d (progD p),.d (confD c),.d (vi g)] [])=_
 rw[evC_succ,S.f_fetc_Fetch,apF_some,F_fetc_Fetch,mkF_run _ _ _ _ _ _ _ _ rfl]
 have hb':c.buf.length<1073741824:=by omega
 have hr':c.rsb.length<1073741824:=by omega
 by_cases g0:g<0
 ·simp only[eG,go_sem,thq S,nbr S,Nat.reduceLT,Nat.reduceEqDiff,Nat.reduceAdd,Nat.reduceMul,Nat.reduceLeDiff,Int.reduceEq,Int.reduceLT,Int.reduceLE,Int.reduceNeg,reduceCtorEq,o94_55 S,g0,fetchC,Md.canFetch,show ¬0<=g by omega,Md.conf0]
 by_cases g1:g>=Md.guesses p c
 ·simp only[eG,go_sem,thq S,nbr S,Nat.reduceLT,Nat.reduceEqDiff,Nat.reduceAdd,Nat.reduceMul,Nat.reduceLeDiff,Int.reduceEq,Int.reduceLT,Int.reduceLE,Int.reduceNeg,reduceCtorEq,o94_55 S,g0,g1,fetchC,Md.canFetch,show ¬g<Md.guesses p c by omega,Md.conf0,c_fetc_Guesses S,hi]
 have hc:Md.canFetch p c g=true:=by simp[Md.canFetch];omega
 have hw:¬(c.buf.length:Int)>=p.window:=by
  have:¬Md.guesses p c<=0:=by omega
  intro h
  apply this
  unfold Md.guesses
  rw[if_pos (.inr (.inr h))]
  exact Int.le_refl 0
 unfold fetchC
 rw[hc,cond_true]
 unfold Md.fetch
 have eg:=entry_go S dp p c g hs hb' hr
 generalize (Md.entry p c g).1=e at eg ⊢
 generalize (Md.entry p c g).2=rb at eg ⊢
 have hp:pushE c.buf e p.window=c.buf++[e]:=by unfold pushE;rw[if_neg hw]
 simp only[confC,stateC,regsC,cl_ent,List.map_cons,List.map_nil,List.cons_append,List.nil_append,List.map_append] at eg
 simp only[eG,go_sem,thq S,nbr S,Nat.reduceLT,Nat.reduceEqDiff,Nat.reduceAdd,Nat.reduceMul,Nat.reduceLeDiff,Int.reduceEq,Int.reduceLT,Int.reduceLE,Int.reduceNeg,reduceCtorEq,o94_55 S,end_b,sp_lt,spN_some,rH_N,rB_cells,List.take_succ_cons,List.take_zero,sw_t,sw_s,dl_nil,dl_cons,rep1',Option.map_some,o_callB,br_go,br_back,br_backB,br_backI,ver_some,ver_nil,ver_cons,ok_nil,ok_cons,un_d,un_agg,un_tup,un_sref,unS_some,unS_none,un_map,unB_cells,put_nil,put_cons,map_iteB,List.drop_succ_cons,List.drop_zero,List.getD_cons_zero,List.getD_cons_succ,show Nat.ble 1 1=true from rfl,nbr S,g0,g1,c_fetc_Guesses S,hi,c_conf_Still S,hm,hs,hb,hb',hr',eg,c_robq_Push S,hp]
end
theorem fetch_small {p:Prog}{c:Conf}{g:Int}(hl:c.buf.length<1073741823)(hm:c.state.mem.length<1073741824)(hs:c.state.stack.length<1073741824)(hr:c.rsb.length<1073741823):
  (Md.fetch p c g).state.mem.length<1073741824/\(Md.fetch p c g).state.stack.length<1073741824/\(Md.fetch p c g).buf.length<1073741824/\(Md.fetch p c g).rsb.length<1073741824:=by
 refine⟨hm,hs,?_,?_⟩
 ·show (c.buf ++ [(Md.entry p c g).1]).length < _
  rw[List.length_append,List.length_singleton];omega
 ·show (Md.entry p c g).2.length < _
  unfold Md.entry
  simp only
  split
  ·show c.rsb.length<_;omega
  split
  ·show c.rsb.length<_;omega
  split
  ·show c.rsb.length<_;omega
  split
  ·show (Md.push c.rsb _).length < _
   unfold Md.push
   rw[List.length_drop,List.length_append,List.length_singleton];omega
  split
  ·split
   ·show c.rsb.length<_;omega
   ·show c.rsb.dropLast.length < _
    rw[List.length_dropLast];omega
  split
  ·show c.rsb.length<_;omega
  ·show c.rsb.length<_;omega
variable {E:Env} {fn:FuncId->Option (Env->CallT->CallT)}
section
variable (S:Sur E fn)
include S
theorem o40_56:E.lives 40 7=none/\E.lives 40 13=none/\E.lives 40 17=none/\E.lives 40 21=none:=⟨off S 40 7 (by decide) rfl,off S 40 13 (by decide) rfl,off S 40 17 (by decide) rfl,off S 40 21 (by decide) rfl⟩
theorem raw_dirs_Do (dp:Nat)(p:Prog)(c:Conf)(d:Dir)(hi:p.ins.length<1073741824)(hp:p.mems.length<1073741824)(hl:c.buf.length<1073741823)(hm:c.state.mem.length<1073741824)(hs:c.state.stack.length<1073741823)(hr:c.rsb.length<1073741823)(hg:(getO (Md.real p c.state.stack c.buf d.n)).length<1073741824)(hd:0<=(Md.at_ p (Md.entAt c.buf 0).pc).d/\(Md.at_ p (Md.entAt c.buf 0).pc).d<=3):Says E fn (dp+11) 40 [progD p,confD c,.agg (Cl.cells d)] (.tup [confD (sayC (cellsI p.mems) p c d).1,rowD (sayC (cellsI p.mems) p c d).2,vb (Md.canSay (cellsI p.mems) p c d)]):=by
 unfold Says
 show ansOf (evC E fn (dp+10+1) 40 [.d (progD p),.d (confD c),.d (.agg (Cl.cells d))] [])=_
 rw[evC_succ,S.f_dirs_Do,apF_some,F_dirs_Do,mkF_run _ _ _ _ _ _ _ _ rfl]
 have hl':c.buf.length<1073741824:=by omega
 have hs':c.state.stack.length<1073741824:=by omega
 have hr':c.rsb.length<1073741824:=by omega
 cases hcan:Md.canSay (cellsI p.mems) p c d with
 | false=>simp only[eG,go_sem,thq S,nbr S,zN0,zN1,zN2,zN3,zN4,zI0,zI1,zI2,zI3,reduceCtorEq,o40_56 S,c_dirs_Can S,hi,hp,hl',hcan,Bool.not_false,sayC,Md.conf0]
 | true=>
  have hsay:sayC (cellsI p.mems) p c d=Md.say (cellsI p.mems) p c d:=by unfold sayC;rw[hcan];rfl
  rw[hsay]
  have cF:=fun(A:List Blk) (nb:Nat)=>Says.deep (raw_fetc_Fetch S (dp+4) p c d.n hi hl hm hs' hr) (np S 94 (by decide)) A nb
  have cD:=fun(A:List Blk) (nb:Nat)=>Says.deep (raw_exec_Do S dp p c d.n hp hm hs' hl' hr' hg) (np S 23 (by decide)) A nb
  have cA:=fun(A:List Blk) (nb:Nat)=>Says.deep (raw_exec_Addr S (dp+2) p c d.n hp hm hs' hl' hr') (np S 24 (by decide)) A nb
  have cR:=fun(A:List Blk) (nb:Nat)=>Says.deep (raw_reti_Do S (dp+5) p c hl hm hs hr' hd) (np S 93 (by decide)) A nb
  have hdd:=hcan
  obtain⟨dk,dn⟩:=d
  simp only at cF cD cA cR hcan hg
  by_cases k1:dk=1
  ·subst k1
   have hc:Md.canFetch p c dn=true:=by simpa [Md.canSay] using hcan
   have hF:fetchC p c dn=Md.fetch p c dn:=by unfold fetchC;rw[hc];rfl
   obtain⟨f1,f2,f3,f4⟩:=fetch_small (p:=p) (c:=c) (g:=dn) hl hm hs' hr
   rw[hF,hc] at cF
   have e1:Md.say (cellsI p.mems) p c ⟨1,dn⟩=(Md.fetch p c dn,[]):=rfl
   rw[e1]
   generalize Md.fetch p c dn=X at *
   simp only[progD,progC,confD,confC,stateC,regsC,List.cons_append,List.nil_append] at cF
   simp only[eG,go_sem,thq S,nbr S,zN0,zN1,zN2,zN3,zN4,zI0,zI1,zI2,zI3,reduceCtorEq,o40_56 S,c_dirs_Can S,hi,hp,hl',hcan,Bool.not_true,cF,c_conf_Still S,f1,f2,f3,f4]
  by_cases k2:dk=2
  ·subst k2
   have hc:Md.can (cellsI p.mems) p c dn=true:=by simpa [Md.canSay] using hcan
   have hF:doC (cellsI p.mems) p c dn=Md.doM (cellsI p.mems) p c dn:=by unfold doC;rw[hc];rfl
   rw[hF,hc] at cD
   have e1:Md.say (cellsI p.mems) p c ⟨2,dn⟩=Md.doM (cellsI p.mems) p c dn:=rfl
   rw[e1]
   generalize Md.doM (cellsI p.mems) p c dn=X at *
   simp only[progD,progC,confD,confC,stateC,regsC,List.cons_append,List.nil_append] at cD
   simp only[eG,go_sem,thq S,nbr S,zN0,zN1,zN2,zN3,zN4,zI0,zI1,zI2,zI3,reduceCtorEq,o40_56 S,c_dirs_Can S,hi,hp,hl',hcan,Bool.not_true,cD]
  by_cases k3:dk=3
  ·subst k3
   have hc:Md.canAddr p c dn=true:=by simpa [Md.canSay] using hcan
   have hF:addrC (cellsI p.mems) p c dn=Md.addrM (cellsI p.mems) p c dn:=by unfold addrC;rw[hc];rfl
   rw[hF,hc] at cA
   have e1:Md.say (cellsI p.mems) p c ⟨3,dn⟩=Md.addrM (cellsI p.mems) p c dn:=rfl
   rw[e1]
   generalize Md.addrM (cellsI p.mems) p c dn=X at *
   simp only[progD,progC,confD,confC,stateC,regsC,List.cons_append,List.nil_append] at cA
   simp only[eG,go_sem,thq S,nbr S,zN0,zN1,zN2,zN3,zN4,zI0,zI1,zI2,zI3,reduceCtorEq,o40_56 S,c_dirs_Can S,hi,hp,hl',hcan,Bool.not_true,cA]
  have h4:dk=4/\dn=0/\Md.canRetire p c=true:=by
   simp[Md.canSay,k1,k2,k3] at hcan
   exact⟨hcan.1.1,hcan.1.2,hcan.2⟩
  obtain⟨k4,n0,hc⟩:=h4
  subst k4
  have hF:retC p c=Md.retire p c:=by unfold retC;rw[hc];rfl
  rw[hF,hc] at cR
  have e1:Md.say (cellsI p.mems) p c ⟨4,dn⟩=(Md.retire p c,[]):=rfl
  rw[e1]
  generalize Md.retire p c=X at *
  simp only[progD,progC,confD,confC,stateC,regsC,List.cons_append,List.nil_append] at cR
  simp only[eG,go_sem,thq S,nbr S,zN0,zN1,zN2,zN3,zN4,zI0,zI1,zI2,zI3,reduceCtorEq,o40_56 S,c_dirs_Can S,hi,hp,hl',hcan,Bool.not_true,cR]
end
end Go.Aug.Mc
namespace Go.Aug.Md
open Go Go.Aug
set_option linter.unusedSimpArgs false
set_option linter.unusedVariables false
def Kept (c:Conf)(k:Nat)(R:Conf×List Obs):Prop:=
 ∃(px:Int) (bx:List Ent) (o:List Obs),R=(⟨⟨c.state.regs,c.state.mem,c.state.stack,px⟩,bx,c.rsb,0⟩,o)/\k<bx.length/\bx.length<=c.buf.length/\o.length<=1/\bx.take k=c.buf.take k/\
  (bx.length=c.buf.length->k+1<c.buf.length->px=c.state.pc)/\(bx.length<c.buf.length->k+1<bx.length->∃ e,c.buf[bx.length]? =some e/\px=e.pc)
section
variable {N:Int} {p:Prog} {c:Conf} {k:Nat}
theorem take_set_lt {l:List Ent}{k:Nat}{e:Ent}:(l.set k e).take k=l.take k:=List.take_set_of_le (Nat.le_refl _)
theorem kept_put (hend:c.end_=0)(hk:k<c.buf.length)(e:Ent)(o:List Obs)(ho:o.length<=1):Kept c k (put c (k:Int) e,o):=by
 refine⟨c.state.pc,c.buf.set k e,o,?_,by simpa using hk,by simp,ho,take_set_lt,fun _ _=>rfl,fun h=>by simp at h⟩
 unfold put
 rw[Int.toNat_natCast,<-hend]
theorem kept_goes (hend:c.end_=0)(hk:k<c.buf.length)(e:Ent)(to:Int):Kept c k (goesM c (k:Int) e to):=by
 unfold goesM
 split
 ·exact kept_put hend hk _ _ (by simp)
 ·refine ⟨to, (c.buf.set k { e with done := true, next := to }).take (k + 1), [⟨3, to⟩], ?_, by rw [List.length_take, List.length_set]; omega, by rw [List.length_take, List.length_set]; omega, Nat.le_refl 1, ?_, fun h1 h2 => ?_, fun h1 h2 => ?_⟩
  ·rw[Int.toNat_natCast,<-hend]
  ·rw[List.take_take,Nat.min_eq_left (by omega)];exact take_set_lt
  ·rw[List.length_take,List.length_set] at h1;omega
  ·rw[List.length_take,List.length_set] at h2;omega
theorem kept_do (hk:k<c.buf.length)(hc:can N p c (k:Int)=true):Kept c k (doM N p c (k:Int)):=by
 have hend:c.end_=0:=by
  simp only[can,Bool.and_eq_true] at hc
  exact(open_at hc.1.1).1
 unfold doM
 generalize entAt c.buf (k:Int)=e
 generalize insM p c (k:Int)=x
 unfold doK
 split
 ·exact kept_put hend hk _ _ (by simp)
 split
 ·exact kept_put hend hk _ _ (by simp)
 split
 ·exact kept_put hend hk _ _ (by simp)
 split
 ·split
  ·exact kept_put hend hk _ _ (by simp)
  ·exact kept_put hend hk _ _ (by simp)
 split
 ·exact kept_goes hend hk _ _
 split
 ·exact kept_goes hend hk _ _
 split
 ·split
  ·exact kept_put hend hk _ _ (by simp)
  ·split
   ·exact kept_put hend hk _ _ (by simp)
   ·exact kept_goes hend hk _ _
 ·exact kept_put hend hk _ _ (by simp)
theorem kept_addr (hk:k<c.buf.length)(hc:canAddr p c (k:Int)=true):Kept c k (addrM N p c (k:Int)):=by
 have hend:c.end_=0:=by
  simp only[canAddr,Bool.and_eq_true] at hc
  exact(open_at hc.1.1.1.1).1
 unfold addrM
 generalize entAt c.buf (k:Int)=e
 generalize addrOf p c (k:Int)=ad
 unfold addrK
 split
 ·exact kept_put hend hk _ _ (by simp)
 ·rw [Int.toNat_natCast]
  generalize hL:c.buf.set k { e with addr:=ad,known:=true,fault:=false }=L
  have hLl:L.length=c.buf.length:=by rw[<-hL];exact List.length_set
  have hLt:L.take k=c.buf.take k:=by rw[<-hL];exact take_set_lt
  unfold drop1
  cases hz:(hazard p L (k:Int) ad).2 with
  | false=>
   refine⟨c.state.pc,L,[⟨2,ad⟩],?_,by omega,by omega,Nat.le_refl 1,hLt,fun _ _=>rfl,fun h=>by omega⟩
   simp only[cond_false]
   rw[<-hend]
  | true=>
   obtain⟨z1,z2⟩:=hazard_ge hz (by omega) (by omega)
   simp only[cond_true]
   generalize (hazard p L (k:Int) ad).1=z at *
   obtain⟨e2,he2⟩:∃ e,L[z.toNat]? =some e:=⟨_,List.getElem?_eq_getElem (by omega)⟩
   have he3:entAt L z=e2:=by unfold entAt;rw[he2];rfl
   have he4:c.buf[z.toNat]? =some e2:=by
    rw[<-hL,List.getElem?_set_ne (by omega)] at he2;exact he2
   have hlen:(L.take z.toNat).length=z.toNat:=by rw[List.length_take];omega
   refine⟨e2.pc,L.take z.toNat,[⟨2,ad⟩],?_,by omega,by omega,Nat.le_refl 1,?_,fun h1 h2=>by omega,fun h1 h2=>⟨e2,by rw[hlen];exact he4,rfl⟩⟩
   ·rw[he3,<-hend]
   ·rw[List.take_take,Nat.min_eq_left (by omega)];exact hLt
end
end Go.Aug.Md
namespace Go.Aug.Md
open Go Go.Aug
set_option linter.unusedSimpArgs false
set_option linter.unusedVariables false
section
variable {N:Int} {p:Prog} {c:Conf}
theorem cut_0 (l:List Ent):cut l 0=[]:=rfl
theorem at0_reg (p:Prog)(of:Regs)(l:List Ent){r:Int}(h0:0<=r)(h1:r<=3):(reg p of l 0 r).2=true:=by
 unfold reg
 rw[if_neg (by omega),cut_0];rfl
theorem at0_val (p:Prog)(of:Regs)(l:List Ent)(v:Val)(h:v.reg=true->0<=v.n/\v.n<=3):(val p of l 0 v).2=true:=by
 unfold val
 cases hv:v.reg with
 | false=>rfl
 | true=>exact at0_reg p of l (h hv).1 (h hv).2
theorem at0_load (p:Prog)(mem:List Int)(l:List Ent)(addr:Int):(load p mem l 0 addr).2.2=true:=by
 unfold load
 rw[cut_0]
 show(loadGo p mem addr []).2.2=true
 unfold loadGo
 split<;>rfl
theorem alive (hp:Fine p)(h:Inv N p c)(he:c.end_=0):all N p c≠[]:=by
 have key:∃ d,canSay N p c d=true:=by
  have hw:=hp.win
  cases hb:c.buf with
  | nil=>
   have hpc:c.state.pc≠ -1:=fun hpc=>by
    obtain⟨l,e,h1,_⟩:=h.last he hpc
    rw[hb] at h1
    have:=congrArg List.length h1
    simp at this
   have hlen:¬(c.buf.length:Int)>=p.window:=by rw[hb];simp;omega
   have hg:0<guesses p c:=by
    unfold guesses
    rw[if_neg (by simp only[not_or];exact⟨by omega,hpc,hlen⟩)]
    split
    ·decide
    split
    ·omega
    ·decide
   exact⟨⟨1,0⟩,by simp[canSay,canFetch,hg]⟩
  | cons e l=>
   have he0:entAt c.buf 0=e:=by rw[hb];rfl
   have hE:=h.ent 0 e (by rw[hb];rfl)
   have hfa:=hp.at_ e.pc
   have ho:openM p c 0=true:=by
    unfold openM blocked
    rw[he,cut_0,hb]
    simp
   have hx:insM p c 0=at_ p e.pc:=by unfold insM;rw[he0]
   by_cases hr:canRetire p c=true
   ·exact⟨⟨4,0⟩,by simp[canSay,hr]⟩
   ·have hA : (valM p c 0 (at_ p e.pc).a).2 = true := at0_val _ _ _ _ hfa.2.2.2.2.2.2.1
    have hB:(valM p c 0 (at_ p e.pc).b).2=true:=at0_val _ _ _ _ hfa.2.2.2.2.2.2.2
    have hD:(regM p c 0 (at_ p e.pc).d).2=true:=at0_reg _ _ _ hfa.2.2.1 hfa.2.2.2.1
    have hL:∀ ad,(loadM p c 0 ad).2.2=true:=fun ad=>at0_load _ _ _ ad
    cases hd:e.done with
    | false=>
     have k10:(at_ p e.pc).kind≠10:=fun k10=>by
      apply hr
      simp[canRetire,he,hb,entAt,k10]
     have nd:¬((at_ p e.pc).kind=6∨(at_ p e.pc).kind=8∨(at_ p e.pc).kind=11∨(at_ p e.pc).kind=12):=fun hk=>by
      have:=hE.dn hk
      rw[hd] at this;cases this
     refine⟨⟨2,0⟩,?_⟩
     show can N p c 0=true
     unfold can
     rw[ho,he0,hd,hx]
     simp only[Bool.not_false,Bool.true_and]
     unfold ready
     rw[hA,hB,hD,hL]
     split
     ·rfl
     split
     ·rfl
     split
     ·simp
     split
     ·rfl
     split
     ·rfl
     ·exact decide_eq_true (by omega)
    | true=>
     have k3:(at_ p e.pc).kind=3/\e.known=false:=by
      refine⟨Decidable.byContradiction fun k3=>hr ?_,?_⟩
      ·simp[canRetire,he,hb,entAt,hd,k3]
      ·cases hk : e.known with
       | false=>rfl
       | true=>exact absurd (by simp[canRetire,he,hb,entAt,hd,hk]) hr
     refine⟨⟨3,0⟩,?_⟩
     show canAddr p c 0=true
     unfold canAddr
     rw[ho,he0,hx,hA,hB,k3.1,k3.2]
     rfl
 obtain⟨d,hd⟩:=key
 intro h0
 have:=(mem_all (N:=N) (p:=p) (c:=c) d).2 hd
 rw[h0] at this
 cases this
theorem say_obs (d:Dir)(hc:canSay N p c d=true):(say N p c d).2.length<=1:=by
 unfold canSay at hc
 unfold say
 split at hc
 ·rename_i h1;rw[if_pos h1];exact Nat.zero_le _
 rename_i h1;rw[if_neg h1]
 split at hc
 ·rename_i h2; rw [if_pos h2]
  have ho:openM p c d.n=true:=by
   simp only[can,Bool.and_eq_true] at hc;exact hc.1.1
  obtain⟨_,k,hk,hg⟩:=open_at ho
  have hlt:=(List.getElem?_eq_some_iff.1 hg).1
  rw[hk] at hc ⊢
  obtain⟨px,bx,ob,hR,_,_,f5,_⟩:=kept_do hlt hc
  rw[hR]
  exact f5
 rename_i h2;rw[if_neg h2]
 split at hc
 ·rename_i h3; rw [if_pos h3]
  have ho:openM p c d.n=true:=by
   simp only[canAddr,Bool.and_eq_true] at hc;exact hc.1.1.1.1
  obtain⟨_,k,hk,hg⟩:=open_at ho
  have hlt:=(List.getElem?_eq_some_iff.1 hg).1
  rw[hk] at hc ⊢
  obtain⟨px,bx,ob,hR,_,_,f5,_⟩:=kept_addr (N:=N) hlt hc
  rw[hR]
  exact f5
 ·rename_i h3;rw[if_neg h3];exact Nat.zero_le _
end
end Go.Aug.Md
namespace Go.Aug.Mc
open Go Go.Aug
open Nat renaming reduceLT -> zN0, reduceEqDiff -> zN1, reduceAdd -> zN2, reduceMul -> zN3, reduceLeDiff -> zN4
open Int renaming reduceEq -> zI0, reduceLT -> zI1, reduceLE -> zI2, reduceNeg -> zI3
set_option linter.unusedSimpArgs false
set_option linter.unusedVariables false
set_option maxHeartbeats 40000000
set_option maxRecDepth 200000
theorem do_say {E:Env}{fn:FuncId->Option (Env->CallT->CallT)}(S:Sur E fn)(dp:Nat){p:Prog}(hp:Md.Fine p)(hml:p.mems.length<1000)(hN:cellsI p.mems<=1000){c:Conf}(hI:Md.Inv (cellsI p.mems) p c){d:Dir}(hc:Md.canSay (cellsI p.mems) p c d=true)(A:List Blk)(nb:Nat):
  evOwnK false E (evC E fn (dp+11)) 40 A nb (some ([progD p,confD c,.agg [vi d.kind,vi d.n]],[]))=some (.made (.d (.tup [confD (Md.say (cellsI p.mems) p c d).1,rowD (Md.say (cellsI p.mems) p c d).2,vb true])) []):=by
 obtain⟨q1,q2,q3,q4,q5,y1,y2,y3,y4,y5,y6⟩:=inv_hyps hp hI hN d
 have:=Says.deep (raw_dirs_Do S dp p c d q1 (by omega) (by omega) (by omega) (by omega) (by omega) y1 y4) (np S 40 (by decide)) A nb
 have hS:sayC (cellsI p.mems) p c d=Md.say (cellsI p.mems) p c d:=by unfold sayC;rw[hc];rfl
 rw[hS,hc] at this
 exact this
variable {E:Env} {fn:FuncId->Option (Env->CallT->CallT)}
section
variable (S:Sur E fn)
include S
theorem o12_57:E.lives 12 1=none/\E.lives 12 21=none/\E.lives 12 27=none/\E.lives 12 39=none:=⟨off S 12 1 (by decide) rfl,off S 12 21 (by decide) rfl,off S 12 27 (by decide) rfl,off S 12 39 (by decide) rfl⟩
theorem ends_in (dp:Nat)(p:Prog)(N:Int)(s:State)(c X:Conf)(hI:Md.Inv N p X)(hb:X.buf.length<1000000)(w:List Int)(g:Nat)(kx:Nat->K)(D:Option (AV×List Blk))
  (hx:∀ T,getS .bot T 2=.d (rowD w)->getS .bot T 7=.ref 0 0 0->getS .bot T 8=.ref 1 0 0->getS .bot T 10=.ref 2 0 0->getS .bot T 11=aint g->getS .bot T 13=.ref 3 0 0->kx 2 (mk .bot 157 T) [.cells ((progC p).map .d) 0 false,.cells ((stateC s).map .d) 0 false,.cells ((confC c).map .d) 0 false,.cells ((confC X).map .d) 0 false]=D):
  ∀(m k f:Nat),k+m=X.buf.length->m<=f->
  B30_w17_DirsEnds (inn E 12) (evC E fn (dp+11)) (loopK 30 B30_w17_DirsEnds (inn E 12) (evC E fn (dp+11)) kx (kEnd 0 [.tmp 6]) f) kx (kEnd 0 [.tmp 6]) (mk .bot 157 [(2,.d (rowD w)),(7,.ref 0 0 0),(8,.ref 1 0 0),(10,.ref 2 0 0),(11,aint g),(13,.ref 3 0 0),(123,aint X.buf.length),(124,aint k)]) [.cells ((progC p).map .d) 0 false,.cells ((stateC s).map .d) 0 false,.cells ((confC c).map .d) 0 false,.cells ((confC X).map .d) 0 false]=D:=by
 intro m
 induction m with
 | zero=>
  intro k f hk _
  obtain rfl:k=X.buf.length:=by omega
  generalize loopK 30 B30_w17_DirsEnds _ _ kx _ f=KK
  first | (conv=>lhs;rw[B30_w17_DirsEnds]) | rw[B30_w17_DirsEnds]
  simp only[eG,go_sem,thq S,nbr S,zN0,zN1,zN2,zN3,zN4,zI0,zI1,zI2,zI3,reduceCtorEq,o12_57 S,Int.lt_irrefl]
  exact hx _ rfl rfl rfl rfl rfl rfl
 | succ m ih=>
  intro k f hk hf
  obtain⟨f,rfl⟩:∃ g,f=g+1:=⟨f-1,by omega⟩
  have next:=ih (k+1) f (by omega) (by omega)
  obtain⟨e,he⟩:=get_of (show k<X.buf.length by omega)
  have hE:=hI.ent k e he
  have f1:¬(k:Int)<=e.frm:=by have:=hE.fr;omega
  have f2:¬e.frm< -1:=by have:=hE.fr;omega
  have f3:¬e.pc<0:=by have:=hE.pc;omega
  have f4:¬(p.ins.length:Int)<e.pc:=by have:=hE.pc;omega
  generalize hK:loopK 30 B30_w17_DirsEnds _ _ kx _ (f+1)=KK
  first | (conv=>lhs;rw[B30_w17_DirsEnds]) | rw[B30_w17_DirsEnds]
  simp only[eG,go_sem,thq S,nbr S,zN0,zN1,zN2,zN3,zN4,zI0,zI1,zI2,zI3,reduceCtorEq,o12_57 S,show(k:Int)<X.buf.length by omega,w_ix he,ge_iff_le,gt_iff_lt,f1,f2,f3,f4,wi k (by omega),Bool.not_true,Bool.not_false]
  rw[<-hK,loop_in (on S _ _ [2,7,8,10,11,13,123,124] (by decide) rfl) rfl _ _ _ _ _ _ _ _ _ rfl]
  simp only[eG,go_sem,thq S,nbr S,zN0,zN1,zN2,zN3,zN4,zI0,zI1,zI2,zI3,reduceCtorEq,o12_57 S]
  exact next
theorem ends_out (ha:E.prim 38=some trueG)(dp:Nat)(p:Prog)(hp:Md.Fine p)(hml:p.mems.length<1000)(hN:cellsI p.mems<=1000)(s:State)(hsm:(s.mem.length:Int)=cellsI p.mems)(w:List Int)(kx:Nat->K)
  (hx:∀ T A,kx 0 (mk .bot 157 T) A=some (abool true,[])):
  ∀(m k f:Nat) (c:Conf),Md.Inv (cellsI p.mems) p c->k+m=(w.take 60).length->m<=f->
  B12_w17_DirsEnds (inn E 12) (evC E fn (dp+11)) (loopK 12 B12_w17_DirsEnds (inn E 12) (evC E fn (dp+11)) kx (kEnd 0 [.tmp 6]) f) kx (kEnd 0 [.tmp 6]) (mk .bot 157 [(2,.d (rowD w)),(7,.ref 0 0 0),(8,.ref 1 0 0),(10,.ref 2 0 0),(11,aint k)]) [.cells ((progC p).map .d) 0 false,.cells ((stateC s).map .d) 0 false,.cells ((confC c).map .d) 0 false]=some (abool true,[]):=by
 have hlen:(w.take 60).length=min 60 w.length:=List.length_take
 intro m
 induction m with
 | zero=>
  intro k f c hI hk _
  generalize loopK 12 B12_w17_DirsEnds _ _ kx _ f=KK
  first | (conv=>lhs;rw[B12_w17_DirsEnds]) | rw[B12_w17_DirsEnds]
  by_cases hkl:(k:Int)<w.length
  ·have h60 : ¬ (k : Int) < 60 := by omega
   simp only[eG,go_sem,thq S,nbr S,zN0,zN1,zN2,zN3,zN4,zI0,zI1,zI2,zI3,reduceCtorEq,o12_57 S,hkl,h60]
   exact hx _ _
  ·simp only [eG, go_sem, thq S, nbr S, zN0, zN1, zN2, zN3, zN4, zI0, zI1, zI2, zI3, reduceCtorEq, o12_57 S, hkl]
   exact hx _ _
 | succ m ih=>
  intro k f c hI hk hf
  obtain⟨x,hx0⟩:=get_of (show k<(w.take 60).length by omega)
  obtain⟨hxk,h60,hkl⟩:=take60 hx0
  have hkl':(k:Int)<w.length:=by omega
  have h60':(k:Int)<60:=by omega
  obtain⟨f,rfl⟩:∃ g,f=g+1:=⟨f-1,by omega⟩
  obtain⟨q1,q2,q3,q4,q5,_⟩:=inv_hyps hp hI hN ⟨0,0⟩
  have g0:p.mems.length<1073741824:=by omega
  have g2:c.buf.length<1073741824:=by omega
  generalize hK:loopK 12 B12_w17_DirsEnds _ _ kx _ (f+1)=KK
  first | (conv=>lhs;rw[B12_w17_DirsEnds]) | rw[B12_w17_DirsEnds]
  generalize hD:Md.all (cellsI p.mems) p c=d
  by_cases hd:d=[]
  ·subst hd
   have he:¬c.end_=0:=fun h=>Md.alive hp hI h hD
   simp only[eG,go_sem,thq S,nbr S,zN0,zN1,zN2,zN3,zN4,zI0,zI1,zI2,zI3,reduceCtorEq,o12_57 S,hkl',h60',c_dirs_All S,q1,g0,g2,hD,List.length_nil,Int.cast_ofNat_Int,eq_true (rfl:((0:Nat):Int)=0),he,c_told ha,ne_eq,not_false_eq_true]
  ·have hdl : d.length ≠ 0 := fun h => hd (List.length_eq_zero_iff.1 h)
   have hdl':¬(d.length:Int)=0:=by omega
   have hix:=Md.ixW_lt x (show 0<d.length by omega)
   obtain⟨dd,hdd⟩:=get_of hix
   have hmemd:dd ∈ Md.all (cellsI p.mems) p c:=by rw[hD];exact List.mem_of_getElem? hdd
   have hcan:=(Md.mem_all dd).1 hmemd
   have hI':=hI.said hp dd hcan
   have hob:=Md.say_obs dd hcan
   have hsay:=do_say S dp hp hml hN hI hcan
   generalize Md.say (cellsI p.mems) p c dd=R at *
   obtain⟨X,o⟩:=R
   simp only at hI' hob hsay
   simp only[progD,progC,confD,confC] at hsay
   have hrem:evBin .rem (aint (Md.iand x 65535)) (aint d.length)=some (aint (Md.ixW x d.length:Nat)):=by
    rw[<-Md.ixW_eq];exact b_rem _ _ _ hdl'
   have hXb:=hI'.buf
   have hXr:=hI'.rsb
   have hXs:=hI'.stk
   have hXm:=hI'.mem
   have hXp:=hI'.pc
   have hw:=hp.win
   have t1:¬(1:Int)<(o.length:Int):=by omega
   have t2:¬p.window<(X.buf.length:Int):=by omega
   have t3:¬(2:Int)<(X.rsb.length:Int):=by omega
   have t4:¬(4:Int)<(X.state.stack.length:Int):=by omega
   have t5:(X.state.mem.length:Int)=(s.mem.length:Int):=by omega
   have t6:¬X.state.pc< -1:=by omega
   have t7:¬(p.ins.length:Int)<X.state.pc:=by omega
   have next:=ih (k+1) f X hI' (by omega) (by omega)
   have inner:=fun(kx':Nat->K) hx'=>ends_in S dp p _ s c X hI' (by omega) w k kx' (some (abool true,[])) hx' X.buf.length 0 999999999999999999999999999999 (by omega) (by omega)
   simp only[Int.cast_ofNat_Int] at inner
   simp only[eG,go_sem,thq S,nbr S,zN0,zN1,zN2,zN3,zN4,zI0,zI1,zI2,zI3,reduceCtorEq,o12_57 S,hkl',h60',c_dirs_All S,q1,g0,g2,hD,hdl',w_ix hxk,b_iand,hrem,w_ix hdd,hsay,Bool.not_true,Bool.not_false,ge_iff_le,gt_iff_lt,t1,t2,t3,t4,eq_true t5,t6,t7,ne_eq,not_true_eq_false]
   rw[big_eq,loop_in (on S _ _ [2,7,8,10,11,13,123,124] (by decide) rfl) rfl _ _ _ _ _ _ _ _ _ rfl]
   simp only[eG,go_sem,thq S,nbr S,zN0,zN1,zN2,zN3,zN4,zI0,zI1,zI2,zI3,reduceCtorEq,o12_57 S]
   refine inner _ ?_
   intro T u2 u7 u8 u10 u11 u13
   simp only[eG,go_sem,thq S,nbr S,zN0,zN1,zN2,zN3,zN4,zI0,zI1,zI2,zI3,reduceCtorEq,o12_57 S,u2,u7,u8,u10,u11,u13,wi k (by omega)]
   rw[<-hK,loop_in (on S _ _ [2,7,8,10,11] (by decide) rfl) rfl _ _ _ _ _ _ _ _ _ rfl]
   simp only[eG,go_sem,thq S,nbr S,zN0,zN1,zN2,zN3,zN4,zI0,zI1,zI2,zI3,reduceCtorEq,o12_57 S,u2,u7,u8,u10,u11,u13]
   exact next
theorem raw_lawEnds (ha:E.prim 38=some trueG)(dp:Nat)(m l w:List Int):evC E fn (dp+12) 12 [.d (rowD m),.d (rowD l),.d (rowD w)] []=some (abool true,[]):=by
 have hp:=mk_fine m
 have hN:=mk_cells m
 have hml:=mk_ml m
 obtain⟨s,s',hS,o1,o2⟩:=says_States S (dp+6) (Md.make m) (mk_ms m) hml l
 have cS:=fun(A:List Blk) (nb:Nat)=>Says.deep hS (np S 27 (by decide)) A nb
 simp only[progD,progC,stateD,stateC,confD,confC] at cS
 have hI:=o1.inv hp
 have go:=fun(kx:Nat->K) hx=>ends_out S ha dp (Md.make m) hp hml hN s o1.mem w kx hx (w.take 60).length 0 999999999999999999999999999999 (Md.begin_ s) hI (by omega) (by rw[List.length_take];omega)
 simp only[Int.cast_ofNat_Int,Md.begin_] at go
 show evC E fn (dp+11+1) 12 [.d (rowD m),.d (rowD l),.d (rowD w)] []=_
 rw[evC_succ,S.f_w17_DirsEnds,apF_some,F_w17_DirsEnds,mkF_run _ _ _ _ _ _ _ _ rfl]
 simp only[eG,go_sem,thq S,nbr S,zN0,zN1,zN2,zN3,zN4,zI0,zI1,zI2,zI3,reduceCtorEq,o12_57 S,c_w6_Make S,cS,c_r9_Begin S]
 rw[big_eq,loop_in (on S _ _ [2,7,8,10,11] (by decide) rfl) rfl _ _ _ _ _ _ _ _ _ rfl]
 simp only[eG,go_sem,thq S,nbr S,zN0,zN1,zN2,zN3,zN4,zI0,zI1,zI2,zI3,reduceCtorEq,o12_57 S]
 refine go _ ?_
 intro T A
 simp only[eG,go_sem,thq S,nbr S,zN0,zN1,zN2,zN3,zN4,zI0,zI1,zI2,zI3,reduceCtorEq,o12_57 S,c_told ha]
end
end Go.Aug.Mc
