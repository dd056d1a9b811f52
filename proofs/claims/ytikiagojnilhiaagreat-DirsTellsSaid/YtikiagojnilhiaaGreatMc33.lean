import Derived.Test.YtikiagojnilhiaaGreatMc11
import Derived.Test.YtikiagojnilhiaaGreatMc15
import Derived.Test.YtikiagojnilhiaaGreatMc24
namespace Go.Aug.Mc
open Go Go.Aug
open Nat renaming reduceLT -> zN0, reduceEqDiff -> zN1, reduceAdd -> zN2, reduceMul -> zN3, reduceLeDiff -> zN4
open Int renaming reduceEq -> zI0, reduceLT -> zI1, reduceLE -> zI2, reduceNeg -> zI3
set_option linter.unusedSimpArgs false
set_option linter.unusedVariables false
set_option maxHeartbeats 40000000
set_option maxRecDepth 200000
theorem d_endD' (ps:List (Opd×Opd))(k:K)(tm:List AV)(A:List Blk):endD ps k tm A=bif refsNe tm ps then k tm A else none:=id rfl
theorem d_neC (tm:List AV)(p:Opd×Opd)(l:List (Opd×Opd)):refsNe tm (p::l)=(refNe (look tm p.1) (look tm p.2)&&refsNe tm l):=id rfl
theorem d_ne0 (tm:List AV):refsNe tm []=true:=id rfl
theorem d_neR (i v o j w q:Nat):refNe (.ref i v o) (.ref j w q)= !Nat.beq i j:=id rfl
theorem cut_set (l:List Ent)(i:Int)(e:Ent):Md.cut (l.set i.toNat e) i=Md.cut l i:=by
 unfold Md.cut;rw[List.take_set_of_le (Nat.le_refl _)]
theorem val_set (p:Prog)(c:Conf)(i:Int)(e:Ent)(v:Val):Md.valM p ⟨c.state,c.buf.set i.toNat e,c.rsb,c.end_⟩ i v=Md.valM p c i v:=by
 unfold Md.valM Md.val Md.reg;simp only[cut_set]
theorem reg_set (p:Prog)(c:Conf)(i:Int)(e:Ent)(r:Int):Md.regM p ⟨c.state,c.buf.set i.toNat e,c.rsb,c.end_⟩ i r=Md.regM p c i r:=by
 unfold Md.regM Md.reg;simp only[cut_set]
theorem load_set (p:Prog)(mem:List Int)(l:List Ent)(i a:Int)(e:Ent):Md.load p mem (l.set i.toNat e) i a=Md.load p mem l i a:=by
 unfold Md.load;rw[cut_set]
theorem real_set (p:Prog)(st:List Int)(l:List Ent)(i:Int)(e:Ent):Md.real p st (l.set i.toNat e) i=Md.real p st l i:=by
 unfold Md.real;rw[cut_set]
theorem app_fresh0 (A:List Blk)(s bytes n:Nat)(new:List AV)(h0:n≠0)(h1:n*bytes<=limA)(h2:n<=limA):evApp A s bytes (.d (.lst [] 0 (some 0))) new n=some (.fresh new n):=by
 obtain⟨m,rfl⟩:∃ m,n=m+1:=⟨n-1,by omega⟩
 rw[app_lst0,Nat.zero_add,if_pos ⟨by omega,by simp,h1,h2⟩];rfl
theorem wr5' {l:List Ent}{k:Nat}{e:Ent}(he:l[k]? =some e)(i v:Nat)(A:List Blk)(b:Bool):storeAt A i v (k*8+5) [.d (vb b)] 1 (some (.cells ((rowC l).map .d) v false))=some (A.set i (.cells ((rowC (l.set k { e with done:=b })).map .d) v false)):=
 st_row (o:=5) (e':={ e with done:=b }) [vb b] he rfl rfl rfl rfl (by show 5+1<=8;decide) 8 rfl _ rfl
theorem ldI {r junk:List Int}(h:r.length≠0):takeVar false 1 (((rowC (r++junk)).map AV.d).drop (r.length-1))=some (.d (vi (Md.lastI r))):=by
 have e1:∀ l:List Int,rowC l=l.map vi:=by
  intro l
  induction l with
  | nil=>rfl
  | cons a l ih=>show Cl.cells a++rowC l=_;rw[ih];rfl
 have e2:(((rowC (r++junk)).map AV.d).drop (r.length-1)).head? =some (.d (vi (Md.lastI r))):=by
  rw[List.head?_drop,List.getElem?_map,e1,List.getElem?_map,List.getElem?_append_left (by omega),last_get h];rfl
 exact e2
theorem foldTE {l:List Ent}(n:Nat)(h:n<=l.length):DV.lst (rowC (l.take n)) n none=rowD (l.take n):=by
 unfold rowD;rw[List.length_take,Nat.min_eq_left h]
variable {E:Env} {fn:FuncId->Option (Env->CallT->CallT)}
section
variable (S:Sur E fn)
include S
theorem o41_30:E.lives 41 7=none/\E.lives 41 23=none/\E.lives 41 27=none/\E.lives 41 31=none/\E.lives 41 35=none/\E.lives 41 39=none/\E.lives 41 43=none/\E.lives 41 53=none/\E.lives 41 59=none/\E.lives 41 67=none/\E.lives 41 73=none/\E.lives 41 77=none:=⟨off S 41 7 (by decide) rfl,off S 41 23 (by decide) rfl,off S 41 27 (by decide) rfl,off S 41 31 (by decide) rfl,off S 41 35 (by decide) rfl,off S 41 39 (by decide) rfl,off S 41 43 (by decide) rfl,off S 41 53 (by decide) rfl,off S 41 59 (by decide) rfl,off S 41 67 (by decide) rfl,off S 41 73 (by decide) rfl,off S 41 77 (by decide) rfl⟩
theorem raw_r9_Do (dp:Nat)(p:Prog)(c:Conf)(i:Int)(hl:c.buf.length<1073741824)(hs:c.state.stack.length<1073741824)(hg:(getO (Md.real p c.state.stack c.buf i)).length<1073741824)(hz:Md.can (c.state.mem.length:Int) p c i=true->(Md.insM p c i).kind=2->(Md.entAt c.buf i).val=0/\(Md.entAt c.buf i).frm= -1):Says E fn (dp+6) 41 [progD p,confD c,vi i] (.tup [confD (doC (c.state.mem.length:Int) p c i).1,rowD (doC (c.state.mem.length:Int) p c i).2,vb (Md.can (c.state.mem.length:Int) p c i)]):=by
 unfold Says
 show ansOf (evC E fn (dp+5+1) 41 [.d (progD p),.d (confD c),.d (vi i)] [])=_
 rw[evC_succ,S.f_r9_Do,apF_some,F_r9_Do,mkF_run _ _ _ _ _ _ _ _ rfl]
 cases hcan:Md.can (c.state.mem.length:Int) p c i with
 | false=>simp only[eG,go_sem,thq S,nbr S,zN0,zN1,zN2,zN3,zN4,zI0,zI1,zI2,zI3,reduceCtorEq,o41_30 S,c_r9_Can S,hl,hcan,Bool.not_false,doC,Md.conf0]
 | true=>
  have ho:=can_open hcan
  obtain⟨h0,he,h1⟩:=open_get ho
  replace hz:=hz hcan
  have hn:c.buf.length≠0:=by omega
  have hk:i.toNat<c.buf.length:=by omega
  have hk1:i.toNat+1<=c.buf.length:=hk
  have b1:c.buf.length*48<=limA:=by unfold limA;omega
  have b2:c.buf.length<=limA:=by unfold limA;omega
  have hx:Md.at_ p (Md.entAt c.buf i).pc=Md.insM p c i:=rfl
  generalize hxx:Md.insM p c i=x at *
  generalize hee:Md.entAt c.buf i=e at *
  have hv:∀ v:Val,(Md.val p c.state.regs (c.buf.set i.toNat { e with done:=true }) i v)=Md.valM p c i v:=fun v=>val_set p c i _ v
  generalize hB:(cBlock 0 _:CT)=BB
  simp only[eG,go_sem,thq S,nbr S,zN0,zN1,zN2,zN3,zN4,zI0,zI1,zI2,zI3,reduceCtorEq,o41_30 S,Nat.add_zero,c_r9_Can S,hl,hcan,Bool.not_true,h0,h1,hn,app_fresh0,b1,b2,ne_eq,not_false_eq_true,sw_t,sw_s,dl_nil,dl_cons,rep0',rep1',Nat.zero_add,Nat.zero_mul,wr5' he,ld0 hk,cA7 S,hx,hk,d_endD',d_neC,d_ne0,d_neR,deep_sr,dp_len,dp_take,take_all,w_foldS,foldTE,List.length_set,Nat.le_refl,Option.bind_some,Option.map_some,c_r9_told S,val_set,reg_set]
  rw[<-hB]
  clear hB BB
  by_cases k1:x.kind=1
  ·simp only[eG,go_sem,thq S,nbr S,zN0,zN1,zN2,zN3,zN4,zI0,zI1,zI2,zI3,reduceCtorEq,o41_30 S,Nat.add_zero,c_r9_Can S,hl,hcan,Bool.not_true,h0,h1,hn,app_fresh0,b1,b2,ne_eq,not_false_eq_true,sw_t,sw_s,dl_nil,dl_cons,rep0',rep1',Nat.zero_add,Nat.zero_mul,wr5' he,ld0 hk,cA7 S,hx,hk,d_endD',d_neC,d_ne0,d_neR,deep_sr,dp_len,dp_take,take_all,w_foldS,foldTE,List.length_set,Nat.le_refl,Option.bind_some,Option.map_some,c_r9_told S,val_set,reg_set,wr1 hk,wr2 hk,wr3 hk,wr6 hk,wr7 hk,ld2 hk,c_r1_Do S,c_r1_Mask S,c_r9_Load S,load_set,real_set,c_r9_Real S,c_r7_Jump S,List.set_set,doC,Md.doM,Md.doK,Md.put,hxx,hee,Md.mask_wrap,k1]
  by_cases k4:x.kind=4
  ·by_cases ha : (Md.valM p c i x.a).1 = 0
   ·simp only[eG,go_sem,thq S,nbr S,zN0,zN1,zN2,zN3,zN4,zI0,zI1,zI2,zI3,reduceCtorEq,o41_30 S,Nat.add_zero,c_r9_Can S,hl,hcan,Bool.not_true,h0,h1,hn,app_fresh0,b1,b2,ne_eq,not_false_eq_true,sw_t,sw_s,dl_nil,dl_cons,rep0',rep1',Nat.zero_add,Nat.zero_mul,wr5' he,ld0 hk,cA7 S,hx,hk,d_endD',d_neC,d_ne0,d_neR,deep_sr,dp_len,dp_take,take_all,w_foldS,foldTE,List.length_set,Nat.le_refl,Option.bind_some,Option.map_some,c_r9_told S,val_set,reg_set,wr1 hk,wr2 hk,wr3 hk,wr6 hk,wr7 hk,ld2 hk,c_r1_Do S,c_r1_Mask S,c_r9_Load S,load_set,real_set,c_r9_Real S,c_r7_Jump S,List.set_set,doC,Md.doM,Md.doK,Md.put,hxx,hee,Md.mask_wrap,k4,ha,Bool.not_true,Bool.not_false]
   ·simp only[eG,go_sem,thq S,nbr S,zN0,zN1,zN2,zN3,zN4,zI0,zI1,zI2,zI3,reduceCtorEq,o41_30 S,Nat.add_zero,c_r9_Can S,hl,hcan,Bool.not_true,h0,h1,hn,app_fresh0,b1,b2,ne_eq,not_false_eq_true,sw_t,sw_s,dl_nil,dl_cons,rep0',rep1',Nat.zero_add,Nat.zero_mul,wr5' he,ld0 hk,cA7 S,hx,hk,d_endD',d_neC,d_ne0,d_neR,deep_sr,dp_len,dp_take,take_all,w_foldS,foldTE,List.length_set,Nat.le_refl,Option.bind_some,Option.map_some,c_r9_told S,val_set,reg_set,wr1 hk,wr2 hk,wr3 hk,wr6 hk,wr7 hk,ld2 hk,c_r1_Do S,c_r1_Mask S,c_r9_Load S,load_set,real_set,c_r9_Real S,c_r7_Jump S,List.set_set,doC,Md.doM,Md.doK,Md.put,hxx,hee,Md.mask_wrap,k4,ha,Bool.not_true,Bool.not_false]
  by_cases k3:x.kind=3
  ·simp only[eG,go_sem,thq S,nbr S,zN0,zN1,zN2,zN3,zN4,zI0,zI1,zI2,zI3,reduceCtorEq,o41_30 S,Nat.add_zero,c_r9_Can S,hl,hcan,Bool.not_true,h0,h1,hn,app_fresh0,b1,b2,ne_eq,not_false_eq_true,sw_t,sw_s,dl_nil,dl_cons,rep0',rep1',Nat.zero_add,Nat.zero_mul,wr5' he,ld0 hk,cA7 S,hx,hk,d_endD',d_neC,d_ne0,d_neR,deep_sr,dp_len,dp_take,take_all,w_foldS,foldTE,List.length_set,Nat.le_refl,Option.bind_some,Option.map_some,c_r9_told S,val_set,reg_set,wr1 hk,wr2 hk,wr3 hk,wr6 hk,wr7 hk,ld2 hk,c_r1_Do S,c_r1_Mask S,c_r9_Load S,load_set,real_set,c_r9_Real S,c_r7_Jump S,List.set_set,doC,Md.doM,Md.doK,Md.put,hxx,hee,Md.mask_wrap,k3]
  by_cases k2:x.kind=2
  ·obtain ⟨z1, z2⟩ := hz k2
   by_cases hin:Md.mask p.w ((Md.valM p c i x.a).1+(Md.valM p c i x.b).1)>=(c.state.mem.length:Int)
   ·simp only[eG,go_sem,thq S,nbr S,zN0,zN1,zN2,zN3,zN4,zI0,zI1,zI2,zI3,reduceCtorEq,o41_30 S,Nat.add_zero,c_r9_Can S,hl,hcan,Bool.not_true,h0,h1,hn,app_fresh0,b1,b2,ne_eq,not_false_eq_true,sw_t,sw_s,dl_nil,dl_cons,rep0',rep1',Nat.zero_add,Nat.zero_mul,wr5' he,ld0 hk,cA7 S,hx,hk,d_endD',d_neC,d_ne0,d_neR,deep_sr,dp_len,dp_take,take_all,w_foldS,foldTE,List.length_set,Nat.le_refl,Option.bind_some,Option.map_some,c_r9_told S,val_set,reg_set,wr1 hk,wr2 hk,wr3 hk,wr6 hk,wr7 hk,ld2 hk,c_r1_Do S,c_r1_Mask S,c_r9_Load S,load_set,real_set,c_r9_Real S,c_r7_Jump S,List.set_set,doC,Md.doM,Md.doK,Md.put,hxx,hee,Md.mask_wrap,k2,hin,z1,z2]
   ·simp only[eG,go_sem,thq S,nbr S,zN0,zN1,zN2,zN3,zN4,zI0,zI1,zI2,zI3,reduceCtorEq,o41_30 S,Nat.add_zero,c_r9_Can S,hl,hcan,Bool.not_true,h0,h1,hn,app_fresh0,b1,b2,ne_eq,not_false_eq_true,sw_t,sw_s,dl_nil,dl_cons,rep0',rep1',Nat.zero_add,Nat.zero_mul,wr5' he,ld0 hk,cA7 S,hx,hk,d_endD',d_neC,d_ne0,d_neR,deep_sr,dp_len,dp_take,take_all,w_foldS,foldTE,List.length_set,Nat.le_refl,Option.bind_some,Option.map_some,c_r9_told S,val_set,reg_set,wr1 hk,wr2 hk,wr3 hk,wr6 hk,wr7 hk,ld2 hk,c_r1_Do S,c_r1_Mask S,c_r9_Load S,load_set,real_set,c_r9_Real S,c_r7_Jump S,List.set_set,doC,Md.doM,Md.doK,Md.put,hxx,hee,Md.mask_wrap,k2,hin,z1,z2];rfl
  by_cases k5:x.kind=5
  ·by_cases hw : Md.wdo p.w x.op (Md.valM p c i x.a).1 (Md.valM p c i x.b).1 = 0
   ·by_cases ht : e.next = IntKind.i64.wrap (e.pc + 1)
    ·simp only[eG,go_sem,thq S,nbr S,zN0,zN1,zN2,zN3,zN4,zI0,zI1,zI2,zI3,reduceCtorEq,o41_30 S,Nat.add_zero,c_r9_Can S,hl,hcan,Bool.not_true,h0,h1,hn,app_fresh0,b1,b2,ne_eq,not_false_eq_true,sw_t,sw_s,dl_nil,dl_cons,rep0',rep1',Nat.zero_add,Nat.zero_mul,wr5' he,ld0 hk,cA7 S,hx,hk,d_endD',d_neC,d_ne0,d_neR,deep_sr,dp_len,dp_take,take_all,w_foldS,foldTE,List.length_set,Nat.le_refl,Option.bind_some,Option.map_some,c_r9_told S,val_set,reg_set,wr1 hk,wr2 hk,wr3 hk,wr6 hk,wr7 hk,ld2 hk,c_r1_Do S,c_r1_Mask S,c_r9_Load S,load_set,real_set,c_r9_Real S,c_r7_Jump S,List.set_set,doC,Md.doM,Md.doK,Md.put,hxx,hee,Md.mask_wrap,show Nat.ble 1 1=true from rfl,o_callB,br_go,br_back,br_backB,ver_nil,ver_cons,ver_some,ok_nil,ok_cons,un_d,un_agg,un_tup,un_sref,unS_some,unS_none,un_comp,un_map,unB_cells,put_nil,put_cons,List.getD_cons_zero,List.getD_cons_succ,List.drop_succ_cons,List.drop_zero,Nat.ble_eq,Nat.le_refl,List.length_cons,List.length_nil,goes_go S,Bool.not_true,Bool.not_false,Md.goesM,Md.w64,List.length_set,k5,hw,eq_true ht];rfl
    ·simp only[eG,go_sem,thq S,nbr S,zN0,zN1,zN2,zN3,zN4,zI0,zI1,zI2,zI3,reduceCtorEq,o41_30 S,Nat.add_zero,c_r9_Can S,hl,hcan,Bool.not_true,h0,h1,hn,app_fresh0,b1,b2,ne_eq,not_false_eq_true,sw_t,sw_s,dl_nil,dl_cons,rep0',rep1',Nat.zero_add,Nat.zero_mul,wr5' he,ld0 hk,cA7 S,hx,hk,d_endD',d_neC,d_ne0,d_neR,deep_sr,dp_len,dp_take,take_all,w_foldS,foldTE,List.length_set,Nat.le_refl,Option.bind_some,Option.map_some,c_r9_told S,val_set,reg_set,wr1 hk,wr2 hk,wr3 hk,wr6 hk,wr7 hk,ld2 hk,c_r1_Do S,c_r1_Mask S,c_r9_Load S,load_set,real_set,c_r9_Real S,c_r7_Jump S,List.set_set,doC,Md.doM,Md.doK,Md.put,hxx,hee,Md.mask_wrap,show Nat.ble 1 1=true from rfl,o_callB,br_go,br_back,br_backB,ver_nil,ver_cons,ver_some,ok_nil,ok_cons,un_d,un_agg,un_tup,un_sref,unS_some,unS_none,un_comp,un_map,unB_cells,put_nil,put_cons,List.getD_cons_zero,List.getD_cons_succ,List.drop_succ_cons,List.drop_zero,Nat.ble_eq,Nat.le_refl,List.length_cons,List.length_nil,goes_go S,Bool.not_true,Bool.not_false,Md.goesM,Md.w64,List.length_set,k5,hw,ht,hk1];rfl
   ·by_cases ht : e.next = x.target
    ·simp only[eG,go_sem,thq S,nbr S,zN0,zN1,zN2,zN3,zN4,zI0,zI1,zI2,zI3,reduceCtorEq,o41_30 S,Nat.add_zero,c_r9_Can S,hl,hcan,Bool.not_true,h0,h1,hn,app_fresh0,b1,b2,ne_eq,not_false_eq_true,sw_t,sw_s,dl_nil,dl_cons,rep0',rep1',Nat.zero_add,Nat.zero_mul,wr5' he,ld0 hk,cA7 S,hx,hk,d_endD',d_neC,d_ne0,d_neR,deep_sr,dp_len,dp_take,take_all,w_foldS,foldTE,List.length_set,Nat.le_refl,Option.bind_some,Option.map_some,c_r9_told S,val_set,reg_set,wr1 hk,wr2 hk,wr3 hk,wr6 hk,wr7 hk,ld2 hk,c_r1_Do S,c_r1_Mask S,c_r9_Load S,load_set,real_set,c_r9_Real S,c_r7_Jump S,List.set_set,doC,Md.doM,Md.doK,Md.put,hxx,hee,Md.mask_wrap,show Nat.ble 1 1=true from rfl,o_callB,br_go,br_back,br_backB,ver_nil,ver_cons,ver_some,ok_nil,ok_cons,un_d,un_agg,un_tup,un_sref,unS_some,unS_none,un_comp,un_map,unB_cells,put_nil,put_cons,List.getD_cons_zero,List.getD_cons_succ,List.drop_succ_cons,List.drop_zero,Nat.ble_eq,Nat.le_refl,List.length_cons,List.length_nil,goes_go S,Bool.not_true,Bool.not_false,Md.goesM,Md.w64,List.length_set,k5,hw,eq_true ht];rfl
    ·simp only[eG,go_sem,thq S,nbr S,zN0,zN1,zN2,zN3,zN4,zI0,zI1,zI2,zI3,reduceCtorEq,o41_30 S,Nat.add_zero,c_r9_Can S,hl,hcan,Bool.not_true,h0,h1,hn,app_fresh0,b1,b2,ne_eq,not_false_eq_true,sw_t,sw_s,dl_nil,dl_cons,rep0',rep1',Nat.zero_add,Nat.zero_mul,wr5' he,ld0 hk,cA7 S,hx,hk,d_endD',d_neC,d_ne0,d_neR,deep_sr,dp_len,dp_take,take_all,w_foldS,foldTE,List.length_set,Nat.le_refl,Option.bind_some,Option.map_some,c_r9_told S,val_set,reg_set,wr1 hk,wr2 hk,wr3 hk,wr6 hk,wr7 hk,ld2 hk,c_r1_Do S,c_r1_Mask S,c_r9_Load S,load_set,real_set,c_r9_Real S,c_r7_Jump S,List.set_set,doC,Md.doM,Md.doK,Md.put,hxx,hee,Md.mask_wrap,show Nat.ble 1 1=true from rfl,o_callB,br_go,br_back,br_backB,ver_nil,ver_cons,ver_some,ok_nil,ok_cons,un_d,un_agg,un_tup,un_sref,unS_some,unS_none,un_comp,un_map,unB_cells,put_nil,put_cons,List.getD_cons_zero,List.getD_cons_succ,List.drop_succ_cons,List.drop_zero,Nat.ble_eq,Nat.le_refl,List.length_cons,List.length_nil,goes_go S,Bool.not_true,Bool.not_false,Md.goesM,Md.w64,List.length_set,k5,hw,ht,hk1];rfl
  by_cases k7:x.kind=7
  ·by_cases ht : e.next = min (Md.valM p c i x.a).1 p.ins.length
   ·simp only[eG,go_sem,thq S,nbr S,zN0,zN1,zN2,zN3,zN4,zI0,zI1,zI2,zI3,reduceCtorEq,o41_30 S,Nat.add_zero,c_r9_Can S,hl,hcan,Bool.not_true,h0,h1,hn,app_fresh0,b1,b2,ne_eq,not_false_eq_true,sw_t,sw_s,dl_nil,dl_cons,rep0',rep1',Nat.zero_add,Nat.zero_mul,wr5' he,ld0 hk,cA7 S,hx,hk,d_endD',d_neC,d_ne0,d_neR,deep_sr,dp_len,dp_take,take_all,w_foldS,foldTE,List.length_set,Nat.le_refl,Option.bind_some,Option.map_some,c_r9_told S,val_set,reg_set,wr1 hk,wr2 hk,wr3 hk,wr6 hk,wr7 hk,ld2 hk,c_r1_Do S,c_r1_Mask S,c_r9_Load S,load_set,real_set,c_r9_Real S,c_r7_Jump S,List.set_set,doC,Md.doM,Md.doK,Md.put,hxx,hee,Md.mask_wrap,show Nat.ble 1 1=true from rfl,o_callB,br_go,br_back,br_backB,ver_nil,ver_cons,ver_some,ok_nil,ok_cons,un_d,un_agg,un_tup,un_sref,unS_some,unS_none,un_comp,un_map,unB_cells,put_nil,put_cons,List.getD_cons_zero,List.getD_cons_succ,List.drop_succ_cons,List.drop_zero,Nat.ble_eq,Nat.le_refl,List.length_cons,List.length_nil,goes_go S,Bool.not_true,Bool.not_false,Md.goesM,Md.w64,List.length_set,k7,eq_true ht];rfl
   ·simp only[eG,go_sem,thq S,nbr S,zN0,zN1,zN2,zN3,zN4,zI0,zI1,zI2,zI3,reduceCtorEq,o41_30 S,Nat.add_zero,c_r9_Can S,hl,hcan,Bool.not_true,h0,h1,hn,app_fresh0,b1,b2,ne_eq,not_false_eq_true,sw_t,sw_s,dl_nil,dl_cons,rep0',rep1',Nat.zero_add,Nat.zero_mul,wr5' he,ld0 hk,cA7 S,hx,hk,d_endD',d_neC,d_ne0,d_neR,deep_sr,dp_len,dp_take,take_all,w_foldS,foldTE,List.length_set,Nat.le_refl,Option.bind_some,Option.map_some,c_r9_told S,val_set,reg_set,wr1 hk,wr2 hk,wr3 hk,wr6 hk,wr7 hk,ld2 hk,c_r1_Do S,c_r1_Mask S,c_r9_Load S,load_set,real_set,c_r9_Real S,c_r7_Jump S,List.set_set,doC,Md.doM,Md.doK,Md.put,hxx,hee,Md.mask_wrap,show Nat.ble 1 1=true from rfl,o_callB,br_go,br_back,br_backB,ver_nil,ver_cons,ver_some,ok_nil,ok_cons,un_d,un_agg,un_tup,un_sref,unS_some,unS_none,un_comp,un_map,unB_cells,put_nil,put_cons,List.getD_cons_zero,List.getD_cons_succ,List.drop_succ_cons,List.drop_zero,Nat.ble_eq,Nat.le_refl,List.length_cons,List.length_nil,goes_go S,Bool.not_true,Bool.not_false,Md.goesM,Md.w64,List.length_set,k7,ht,hk1];rfl
  by_cases k9:x.kind=9
  ·have hl2 : (c.buf.set i.toNat { e with done := true }).length < 1073741824 := by rw [List.length_set]; exact hl
   cases hreal:Md.real p c.state.stack c.buf i with
   | none=>
    have ho:=fun A nb us=>o_Real_none S (dp+3) p c.state.stack (c.buf.set i.toNat { e with done:=true }) i hl2 hs (by rw[real_set];exact hreal) A nb us
    simp only[progD,progC,Nat.add_assoc,zN2] at ho
    simp only[eG,go_sem,thq S,nbr S,zN0,zN1,zN2,zN3,zN4,zI0,zI1,zI2,zI3,reduceCtorEq,o41_30 S,Nat.add_zero,c_r9_Can S,hl,hcan,Bool.not_true,h0,h1,hn,app_fresh0,b1,b2,ne_eq,not_false_eq_true,sw_t,sw_s,dl_nil,dl_cons,rep0',rep1',Nat.zero_add,Nat.zero_mul,wr5' he,ld0 hk,cA7 S,hx,hk,d_endD',d_neC,d_ne0,d_neR,deep_sr,dp_len,dp_take,take_all,w_foldS,foldTE,List.length_set,Nat.le_refl,Option.bind_some,Option.map_some,c_r9_told S,val_set,reg_set,wr1 hk,wr2 hk,wr3 hk,wr6 hk,wr7 hk,ld2 hk,c_r1_Do S,c_r1_Mask S,c_r9_Load S,load_set,real_set,c_r9_Real S,c_r7_Jump S,List.set_set,doC,Md.doM,Md.doK,Md.put,hxx,hee,Md.mask_wrap,show Nat.ble 1 1=true from rfl,o_callB,br_go,br_back,br_backB,ver_nil,ver_cons,ver_some,ok_nil,ok_cons,un_d,un_agg,un_tup,un_sref,unS_some,unS_none,un_comp,un_map,unB_cells,put_nil,put_cons,List.getD_cons_zero,List.getD_cons_succ,List.drop_succ_cons,List.drop_zero,Nat.ble_eq,Nat.le_refl,List.length_cons,List.length_nil,goes_go S,Bool.not_true,Bool.not_false,Md.goesM,Md.w64,List.length_set,k9,hreal,ho]
   | some r=>
    obtain⟨junk,q,ho⟩:=o_Real_some S (dp+3) p c.state.stack (c.buf.set i.toNat { e with done:=true }) i hl2 hs r (by rw[real_set];exact hreal)
    simp only[progD,progC,Nat.add_assoc,zN2] at ho
    rw[hreal] at hg
    have hg':r.length<1073741824:=hg
    by_cases hr:r.length=0
    ·simp only[eG,go_sem,thq S,nbr S,zN0,zN1,zN2,zN3,zN4,zI0,zI1,zI2,zI3,reduceCtorEq,o41_30 S,Nat.add_zero,c_r9_Can S,hl,hcan,Bool.not_true,h0,h1,hn,app_fresh0,b1,b2,ne_eq,not_false_eq_true,sw_t,sw_s,dl_nil,dl_cons,rep0',rep1',Nat.zero_add,Nat.zero_mul,wr5' he,ld0 hk,cA7 S,hx,hk,d_endD',d_neC,d_ne0,d_neR,deep_sr,dp_len,dp_take,take_all,w_foldS,foldTE,List.length_set,Nat.le_refl,Option.bind_some,Option.map_some,c_r9_told S,val_set,reg_set,wr1 hk,wr2 hk,wr3 hk,wr6 hk,wr7 hk,ld2 hk,c_r1_Do S,c_r1_Mask S,c_r9_Load S,load_set,real_set,c_r9_Real S,c_r7_Jump S,List.set_set,doC,Md.doM,Md.doK,Md.put,hxx,hee,Md.mask_wrap,show Nat.ble 1 1=true from rfl,o_callB,br_go,br_back,br_backB,ver_nil,ver_cons,ver_some,ok_nil,ok_cons,un_d,un_agg,un_tup,un_sref,unS_some,unS_none,un_comp,un_map,unB_cells,put_nil,put_cons,List.getD_cons_zero,List.getD_cons_succ,List.drop_succ_cons,List.drop_zero,Nat.ble_eq,Nat.le_refl,List.length_cons,List.length_nil,goes_go S,Bool.not_true,Bool.not_false,Md.goesM,Md.w64,List.length_set,k9,hreal,hr,ho,show((0:Nat):Int)=0 from rfl]
    ·have wl : IntKind.i64.wrap ((r.length : Int) - 1) = ((r.length - 1 : Nat) : Int) := by rw [wrap_i64 (by omega) (by omega)]; omega
     have hi1:r.length-1<r.length:=by omega
     by_cases ht:e.next=Md.lastI r
     ·simp only[eG,go_sem,thq S,nbr S,zN0,zN1,zN2,zN3,zN4,zI0,zI1,zI2,zI3,reduceCtorEq,o41_30 S,Nat.add_zero,c_r9_Can S,hl,hcan,Bool.not_true,h0,h1,hn,app_fresh0,b1,b2,ne_eq,not_false_eq_true,sw_t,sw_s,dl_nil,dl_cons,rep0',rep1',Nat.zero_add,Nat.zero_mul,wr5' he,ld0 hk,cA7 S,hx,hk,d_endD',d_neC,d_ne0,d_neR,deep_sr,dp_len,dp_take,take_all,w_foldS,foldTE,List.length_set,Nat.le_refl,Option.bind_some,Option.map_some,c_r9_told S,val_set,reg_set,wr1 hk,wr2 hk,wr3 hk,wr6 hk,wr7 hk,ld2 hk,c_r1_Do S,c_r1_Mask S,c_r9_Load S,load_set,real_set,c_r9_Real S,c_r7_Jump S,List.set_set,doC,Md.doM,Md.doK,Md.put,hxx,hee,Md.mask_wrap,show Nat.ble 1 1=true from rfl,o_callB,br_go,br_back,br_backB,ver_nil,ver_cons,ver_some,ok_nil,ok_cons,un_d,un_agg,un_tup,un_sref,unS_some,unS_none,un_comp,un_map,unB_cells,put_nil,put_cons,List.getD_cons_zero,List.getD_cons_succ,List.drop_succ_cons,List.drop_zero,Nat.ble_eq,Nat.le_refl,List.length_cons,List.length_nil,goes_go S,Bool.not_true,Bool.not_false,Md.goesM,Md.w64,List.length_set,k9,hreal,hr,ho,wl,hi1,ldI hr,eq_true ht,Int.natCast_eq_zero,Int.toNat_natCast,Int.natCast_nonneg,Int.ofNat_lt,Nat.mul_one,true_and,and_true,if_true];rfl
     ·simp only[eG,go_sem,thq S,nbr S,zN0,zN1,zN2,zN3,zN4,zI0,zI1,zI2,zI3,reduceCtorEq,o41_30 S,Nat.add_zero,c_r9_Can S,hl,hcan,Bool.not_true,h0,h1,hn,app_fresh0,b1,b2,ne_eq,not_false_eq_true,sw_t,sw_s,dl_nil,dl_cons,rep0',rep1',Nat.zero_add,Nat.zero_mul,wr5' he,ld0 hk,cA7 S,hx,hk,d_endD',d_neC,d_ne0,d_neR,deep_sr,dp_len,dp_take,take_all,w_foldS,foldTE,List.length_set,Nat.le_refl,Option.bind_some,Option.map_some,c_r9_told S,val_set,reg_set,wr1 hk,wr2 hk,wr3 hk,wr6 hk,wr7 hk,ld2 hk,c_r1_Do S,c_r1_Mask S,c_r9_Load S,load_set,real_set,c_r9_Real S,c_r7_Jump S,List.set_set,doC,Md.doM,Md.doK,Md.put,hxx,hee,Md.mask_wrap,show Nat.ble 1 1=true from rfl,o_callB,br_go,br_back,br_backB,ver_nil,ver_cons,ver_some,ok_nil,ok_cons,un_d,un_agg,un_tup,un_sref,unS_some,unS_none,un_comp,un_map,unB_cells,put_nil,put_cons,List.getD_cons_zero,List.getD_cons_succ,List.drop_succ_cons,List.drop_zero,Nat.ble_eq,Nat.le_refl,List.length_cons,List.length_nil,goes_go S,Bool.not_true,Bool.not_false,Md.goesM,Md.w64,List.length_set,k9,hreal,hr,ho,wl,hi1,ldI hr,ht,Int.natCast_eq_zero,Int.toNat_natCast,Int.natCast_nonneg,Int.ofNat_lt,Nat.mul_one,true_and,and_true,if_true,hk1];rfl
  simp only[eG,go_sem,thq S,nbr S,zN0,zN1,zN2,zN3,zN4,zI0,zI1,zI2,zI3,reduceCtorEq,o41_30 S,Nat.add_zero,c_r9_Can S,hl,hcan,Bool.not_true,h0,h1,hn,app_fresh0,b1,b2,ne_eq,not_false_eq_true,sw_t,sw_s,dl_nil,dl_cons,rep0',rep1',Nat.zero_add,Nat.zero_mul,wr5' he,ld0 hk,cA7 S,hx,hk,d_endD',d_neC,d_ne0,d_neR,deep_sr,dp_len,dp_take,take_all,w_foldS,foldTE,List.length_set,Nat.le_refl,Option.bind_some,Option.map_some,c_r9_told S,val_set,reg_set,wr1 hk,wr2 hk,wr3 hk,wr6 hk,wr7 hk,ld2 hk,c_r1_Do S,c_r1_Mask S,c_r9_Load S,load_set,real_set,c_r9_Real S,c_r7_Jump S,List.set_set,doC,Md.doM,Md.doK,Md.put,hxx,hee,Md.mask_wrap,k1,k2,k3,k4,k5,k7,k9]
end
theorem ldG {L:List Ent}{k:Nat}{e:Ent}(he:L[k]? =some e):takeVar false 1 (((rowC L).map AV.d).drop (k*8))=some (.d (vi e.pc)):=by
 have hk:k<L.length:=(List.getElem?_eq_some_iff.1 he).1
 have:L.set k e=L:=by
  obtain⟨_,rfl⟩:=List.getElem?_eq_some_iff.1 he
  exact List.set_getElem_self hk
 have h:=ld0 (e:=e) hk
 rw[this] at h;exact h
theorem wr2' {l:List Ent}{k:Nat}{e:Ent}(he:l[k]? =some e)(i v:Nat)(A:List Blk)(n:Int):storeAt A i v (k*8+2) [.d (vi n)] 1 (some (.cells ((rowC l).map .d) v false))=some (A.set i (.cells ((rowC (l.set k { e with addr:=n })).map .d) v false)):=
 st_row (o:=2) (e':={ e with addr:=n }) [vi n] he rfl rfl rfl rfl (by show 2+1<=8;decide) 8 rfl _ rfl
theorem haz_gt {p:Prog}{l:List Ent}{i addr:Int}(h:(Md.hazard p l i addr).2=true):(Md.hazAt l i:Int)<=(Md.hazard p l i addr).1:=(hazGo_lt p i addr _ _ h).1
variable {E:Env} {fn:FuncId->Option (Env->CallT->CallT)}
section
variable (S:Sur E fn)
include S
theorem o42_32:E.lives 42 7=none/\E.lives 42 21=none/\E.lives 42 29=none:=⟨off S 42 7 (by decide) rfl,off S 42 21 (by decide) rfl,off S 42 29 (by decide) rfl⟩
theorem raw_r9_Addr (dp:Nat)(p:Prog)(c:Conf)(i:Int)(hl:c.buf.length<1073741824)(hz:Md.canAddr p c i=true->(Md.entAt c.buf i).fault=false):Says E fn (dp+6) 42 [progD p,confD c,vi i] (.tup [confD (addrC (c.state.mem.length:Int) p c i).1,rowD (addrC (c.state.mem.length:Int) p c i).2,vb (Md.canAddr p c i)]):=by
 unfold Says
 show ansOf (evC E fn (dp+5+1) 42 [.d (progD p),.d (confD c),.d (vi i)] [])=_
 rw[evC_succ,S.f_r9_Addr,apF_some,F_r9_Addr,mkF_run _ _ _ _ _ _ _ _ rfl]
 cases hcan:Md.canAddr p c i with
 | false=>simp only[eG,go_sem,thq S,nbr S,Nat.reduceLT,Nat.reduceEqDiff,Nat.reduceAdd,Nat.reduceMul,Nat.reduceLeDiff,Int.reduceEq,Int.reduceLT,Int.reduceLE,Int.reduceNeg,reduceCtorEq,o42_32 S,c_r9_CanAddr S,hl,hcan,Bool.not_false,addrC,Md.conf0]
 | true=>
  have ho:=canAddr_open hcan
  obtain⟨h0,he,h1⟩:=open_get ho
  have hf:=hz hcan
  have hn:c.buf.length≠0:=by omega
  have hk:i.toNat<c.buf.length:=by omega
  have b1:c.buf.length*48<=limA:=by unfold limA;omega
  have b2:c.buf.length<=limA:=by unfold limA;omega
  have hx:Md.at_ p (Md.entAt c.buf i).pc=Md.insM p c i:=rfl
  have had:Md.mask p.w ((Md.valM p c i (Md.insM p c i).a).1+(Md.valM p c i (Md.insM p c i).b).1)=Md.addrOf p c i:=rfl
  generalize hxx:Md.insM p c i=x at *
  generalize hee:Md.entAt c.buf i=e at *
  have hset:c.buf.set i.toNat e=c.buf:=by
   obtain⟨hq,hw⟩:=List.getElem?_eq_some_iff.1 he
   rw[<-hw];exact List.set_getElem_self hq
  have hL0:∀ n b,c.buf.set i.toNat { e with addr:=n,known:=b }=c.buf.set i.toNat ⟨e.pc,e.val,n,e.frm,e.next,e.done,b,false⟩:=fun n b=>by rw[<-hf]
  by_cases hin:(c.state.mem.length:Int)<=Md.addrOf p c i
  ·simp only[eG,go_sem,thq S,nbr S,Nat.reduceLT,Nat.reduceEqDiff,Nat.reduceAdd,Nat.reduceMul,Nat.reduceLeDiff,Int.reduceEq,Int.reduceLT,Int.reduceLE,Int.reduceNeg,reduceCtorEq,o42_32 S,Nat.add_zero,c_r9_CanAddr S,hl,hcan,Bool.not_true,h0,h1,hn,app_fresh0,b1,b2,ne_eq,not_false_eq_true,sw_t,sw_s,dl_nil,dl_cons,rep0',rep1',Nat.zero_add,Nat.zero_mul,wr2' he,wr6 hk,wr7 hk,ldG he,ld2 hk,cA7 S,hx,hk,d_endD',d_neC,d_ne0,d_neR,deep_sr,dp_len,dp_take,take_all,w_foldS,foldTE,List.take_length,w_fold,List.length_set,Nat.le_refl,Option.bind_some,Option.map_some,c_r9_told S,c_r1_Mask S,Md.mask_wrap,had,addrC,Md.addrM,Md.addrK,Md.put,hee,ge_iff_le,hin]
  ·generalize hL : c.buf.set i.toNat ⟨e.pc, e.val, Md.addrOf p c i, e.frm, e.next, e.done, true, false⟩ = L
   have hLl:L.length=c.buf.length:=by rw[<-hL];exact List.length_set
   have hLl2:L.length<1073741824:=by omega
   have hld:takeVar false 1 (((rowC L).map AV.d).drop (i.toNat*8+2))=some (.d (vi (Md.addrOf p c i))):=by rw[<-hL];exact ld2 hk
   have hfold:DV.lst (rowC L) c.buf.length none=rowD L:=by unfold rowD;rw[hLl]
   have hdl:c.buf.length*8<=((rowC L).map AV.d).length:=dp_len _ (by omega)
   have htk:L.take c.buf.length=L:=List.take_of_length_le (by omega)
   cases hz2:(Md.hazard p L i (Md.addrOf p c i)).2 with
   | false=>simp only[eG,go_sem,thq S,nbr S,Nat.reduceLT,Nat.reduceEqDiff,Nat.reduceAdd,Nat.reduceMul,Nat.reduceLeDiff,Int.reduceEq,Int.reduceLT,Int.reduceLE,Int.reduceNeg,reduceCtorEq,o42_32 S,Nat.add_zero,c_r9_CanAddr S,hl,hcan,Bool.not_true,h0,h1,hn,app_fresh0,b1,b2,ne_eq,not_false_eq_true,sw_t,sw_s,dl_nil,dl_cons,rep0',rep1',Nat.zero_add,Nat.zero_mul,wr2' he,wr6 hk,wr7 hk,ldG he,ld2 hk,cA7 S,hx,hk,d_endD',d_neC,d_ne0,d_neR,deep_sr,dp_len,dp_take,take_all,w_foldS,foldTE,List.take_length,w_fold,List.length_set,Nat.le_refl,Option.bind_some,Option.map_some,c_r9_told S,c_r1_Mask S,Md.mask_wrap,had,addrC,Md.addrM,Md.addrK,Md.put,hee,ge_iff_le,hin,hf,hL,hld,hfold,hdl,htk,c_r9_Hazard S,hLl2,hz2,Md.drop1,show i<4611686018427387904 by omega,show -4611686018427387904<i by omega];rfl
   | true=>
    obtain⟨z0,z1⟩:=haz_lt hz2
    have z2:=haz_gt hz2
    have z3:1<=Md.hazAt L i:=by unfold Md.hazAt;omega
    generalize hkk:(Md.hazard p L i (Md.addrOf p c i)).1=kk at *
    obtain⟨e2,he2⟩:=get_of (show kk.toNat<L.length by omega)
    have he3:Md.entAt L kk=e2:=by unfold Md.entAt;rw[he2];rfl
    have hk0:kk.toNat≠0:=by omega
    have hk1:kk<c.buf.length:=by omega
    have hk2:kk.toNat<=L.length:=by omega
    have bd:=bndsV_hi c.buf.length .i64 kk z0 (by omega)
    simp only[eG,go_sem,thq S,nbr S,Nat.reduceLT,Nat.reduceEqDiff,Nat.reduceAdd,Nat.reduceMul,Nat.reduceLeDiff,Int.reduceEq,Int.reduceLT,Int.reduceLE,Int.reduceNeg,reduceCtorEq,o42_32 S,Nat.add_zero,c_r9_CanAddr S,hl,hcan,Bool.not_true,h0,h1,hn,app_fresh0,b1,b2,ne_eq,not_false_eq_true,sw_t,sw_s,dl_nil,dl_cons,rep0',rep1',Nat.zero_add,Nat.zero_mul,wr2' he,wr6 hk,wr7 hk,ldG he,ld2 hk,cA7 S,hx,hk,d_endD',d_neC,d_ne0,d_neR,deep_sr,dp_len,dp_take,take_all,w_foldS,foldTE,List.take_length,w_fold,List.length_set,Nat.le_refl,Option.bind_some,Option.map_some,c_r9_told S,c_r1_Mask S,Md.mask_wrap,had,addrC,Md.addrM,Md.addrK,Md.put,hee,ge_iff_le,hin,hf,hL,hld,hfold,hdl,htk,c_r9_Hazard S,hLl2,hz2,hkk,Md.drop1,he3,ldG he2,z0,hk0,hk1,hk2,bd,Nat.sub_zero,not_true_eq_false,and_false,Option.map_none,show i<4611686018427387904 by omega,show -4611686018427387904<i by omega];rfl
end
theorem l48:48<=limA:=by unfold limA;decide
theorem l1a:1<=limA:=by unfold limA;decide
variable {E:Env} {fn:FuncId->Option (Env->CallT->CallT)}
section
variable (S:Sur E fn)
include S
theorem o91_25:E.lives 91 1=none/\E.lives 91 17=none:=⟨off S 91 1 (by decide) rfl,off S 91 17 (by decide) rfl⟩
theorem nxt_Pop (dp:Nat)(l:List Ent)(hl:l.length<1073741824)(kx:Nat->K)(kr:K)(k f:Nat)(out:List Ent)(e:Ent)(he:l[k]? =some e)(ho:out.length<1073741824):
  B8_r9_Pop (inn E 91) (evC E fn dp) (loopK 8 B8_r9_Pop (inn E 91) (evC E fn dp) kx kr (f+1)) kx kr (mk .bot 28 [(0,.d (rowD l)),(3,.sref 0 0 0 out.length 8 none),(4,aint k)]) [.cells ((rowC out).map .d) 0 false]=
  B8_r9_Pop (inn E 91) (evC E fn dp) (loopK 8 B8_r9_Pop (inn E 91) (evC E fn dp) kx kr f) kx kr (mk .bot 28 [(0,.d (rowD l)),(3,.sref 0 0 0 (out.length+1) 8 none),(4,aint ((k+1:Nat):Int))]) [.cells ((rowC (out++[Md.popE e])).map .d) 0 false]:=by
 have hk:k<l.length:=(List.getElem?_eq_some_iff.1 he).1
 have k1:(out.length+1)*48<=limA:=by unfold limA;omega
 have k2:out.length+1<=limA:=by unfold limA;omega
 generalize hK:loopK 8 B8_r9_Pop _ _ kx kr (f+1)=KK
 first | (conv=>lhs;rw[B8_r9_Pop]) | rw[B8_r9_Pop]
 by_cases h:0<=e.frm
 ·simp only [eG, go_sem, thq S, nbr S, zN0, zN1, zN2, zN3, zN4, zI0, zI1, zI2, zI3, reduceCtorEq, o91_25 S, show (k : Int) < l.length by omega, w_ix he, wi k (by omega), ge_iff_le, h, rep1', app_endE, k1, k2, Md.popE]
  rw[<-hK,loop_in (on S _ _ [0,3,4] (by decide) rfl) rfl _ _ _ _ _ _ _ _ _ rfl]
  simp only[eG,go_sem,thq S,nbr S,zN0,zN1,zN2,zN3,zN4,zI0,zI1,zI2,zI3,reduceCtorEq,o91_25 S]
  rfl
 ·simp only [eG, go_sem, thq S, nbr S, zN0, zN1, zN2, zN3, zN4, zI0, zI1, zI2, zI3, reduceCtorEq, o91_25 S, show (k : Int) < l.length by omega, w_ix he, wi k (by omega), ge_iff_le, h, rep1', app_endE, k1, k2, Md.popE]
  rw[<-hK,loop_in (on S _ _ [0,3,4] (by decide) rfl) rfl _ _ _ _ _ _ _ _ _ rfl]
  simp only[eG,go_sem,thq S,nbr S,zN0,zN1,zN2,zN3,zN4,zI0,zI1,zI2,zI3,reduceCtorEq,o91_25 S]
theorem fst_Pop (dp:Nat)(l:List Ent)(hl:l.length<1073741824)(kx:Nat->K)(kr:K)(k f:Nat)(e:Ent)(he:l[k]? =some e):
  B8_r9_Pop (inn E 91) (evC E fn dp) (loopK 8 B8_r9_Pop (inn E 91) (evC E fn dp) kx kr (f+1)) kx kr (mk .bot 28 [(0,.d (rowD l)),(3,zn),(4,aint k)]) []=
  B8_r9_Pop (inn E 91) (evC E fn dp) (loopK 8 B8_r9_Pop (inn E 91) (evC E fn dp) kx kr f) kx kr (mk .bot 28 [(0,.d (rowD l)),(3,.sref 0 0 0 1 8 none),(4,aint ((k+1:Nat):Int))]) [.cells ((rowC [Md.popE e]).map .d) 0 false]:=by
 have hk:k<l.length:=(List.getElem?_eq_some_iff.1 he).1
 generalize hK:loopK 8 B8_r9_Pop _ _ kx kr (f+1)=KK
 first | (conv=>lhs;rw[B8_r9_Pop]) | rw[B8_r9_Pop]
 by_cases h:0<=e.frm
 ·simp only [eG, go_sem, thq S, nbr S, zN0, zN1, zN2, zN3, zN4, zI0, zI1, zI2, zI3, reduceCtorEq, o91_25 S, show (k : Int) < l.length by omega, w_ix he, wi k (by omega), ge_iff_le, h, rep1', l48, l1a, Nat.zero_add, Nat.one_mul, Nat.zero_mul, and_self, true_and, Md.popE]
  rw[<-hK,loop_in (on S _ _ [0,3,4] (by decide) rfl) rfl _ _ _ _ _ _ _ _ _ rfl]
  simp only[eG,go_sem,thq S,nbr S,zN0,zN1,zN2,zN3,zN4,zI0,zI1,zI2,zI3,reduceCtorEq,o91_25 S]
  rfl
 ·simp only [eG, go_sem, thq S, nbr S, zN0, zN1, zN2, zN3, zN4, zI0, zI1, zI2, zI3, reduceCtorEq, o91_25 S, show (k : Int) < l.length by omega, w_ix he, wi k (by omega), ge_iff_le, h, rep1', l48, l1a, Nat.zero_add, Nat.one_mul, Nat.zero_mul, and_self, true_and, Md.popE]
  rw[<-hK,loop_in (on S _ _ [0,3,4] (by decide) rfl) rfl _ _ _ _ _ _ _ _ _ rfl]
  simp only[eG,go_sem,thq S,nbr S,zN0,zN1,zN2,zN3,zN4,zI0,zI1,zI2,zI3,reduceCtorEq,o91_25 S]
  try rfl
theorem go_Pop (dp:Nat)(l:List Ent)(hl:l.length<1073741824)(kx:Nat->K)(kr:K):∀ m k f out,k+m=l.length->m<=f->out.length<=k->
  B8_r9_Pop (inn E 91) (evC E fn dp) (loopK 8 B8_r9_Pop (inn E 91) (evC E fn dp) kx kr f) kx kr (mk .bot 28 [(0,.d (rowD l)),(3,.sref 0 0 0 out.length 8 none),(4,aint k)]) [.cells ((rowC out).map .d) 0 false]=
  kx 0 (mk .bot 28 [(9,abool false),(8,aint l.length),(7,.d (rowD l)),(6,aint l.length),(0,.d (rowD l)),(3,.sref 0 0 0 (out++(l.drop k).map Md.popE).length 8 none),(4,aint l.length)]) [.cells ((rowC (out++(l.drop k).map Md.popE)).map .d) 0 false]:=by
 intro m
 induction m with
 | zero=>
  intro k f out hk _ _
  obtain rfl:k=l.length:=by omega
  rw[List.drop_length,List.map_nil,List.append_nil]
  generalize loopK 8 B8_r9_Pop _ _ kx kr f=KK
  first | (conv=>lhs;rw[B8_r9_Pop]) | rw[B8_r9_Pop]
  simp only[eG,go_sem,thq S,nbr S,zN0,zN1,zN2,zN3,zN4,zI0,zI1,zI2,zI3,reduceCtorEq,o91_25 S,Int.lt_irrefl]
 | succ m ih=>
  intro k f out hk hf ho
  obtain⟨e,he⟩:=get_of (show k<l.length by omega)
  obtain⟨f,rfl⟩:∃ g,f=g+1:=⟨f-1,by omega⟩
  rw[nxt_Pop S dp l hl kx kr k f out e he (by omega),drop_get he,List.map_cons]
  have:=ih (k+1) f (out++[Md.popE e]) (by omega) (by omega) (by simp;omega)
  simp only[List.append_assoc,List.singleton_append,List.cons_append,List.nil_append] at this
  rw[show(out++[Md.popE e]).length=out.length+1 by simp] at this
  exact this
theorem raw_r9_Pop (dp:Nat)(l:List Ent)(hl:l.length<1073741824):Says E fn (dp+1) 91 [rowD l] (rowD (Md.popL l)):=by
 unfold Says
 show ansOf (evC E fn (dp+1) 91 [.d (rowD l)] [])=_
 rw[evC_succ,S.f_r9_Pop,apF_some,F_r9_Pop,mkF_run _ _ _ _ _ _ _ _ rfl]
 simp only[eG,go_sem,thq S,nbr S,zN0,zN1,zN2,zN3,zN4,zI0,zI1,zI2,zI3,reduceCtorEq,o91_25 S]
 rw[big_eq,loop_in (on S _ _ [0,3,4] (by decide) rfl) rfl _ _ _ _ _ _ _ _ _ rfl]
 simp only[eG,go_sem,thq S,nbr S,zN0,zN1,zN2,zN3,zN4,zI0,zI1,zI2,zI3,reduceCtorEq,o91_25 S]
 by_cases h:l.length<=1
 ·generalize loopK 8 B8_r9_Pop _ _ _ _ _ = KK
  first | (conv=>lhs;rw[B8_r9_Pop]) | rw[B8_r9_Pop]
  have hd:Md.popL l=[]:=by unfold Md.popL;rw[List.drop_of_length_le h];rfl
  rw[hd]
  simp only[eG,go_sem,thq S,nbr S,zN0,zN1,zN2,zN3,zN4,zI0,zI1,zI2,zI3,reduceCtorEq,o91_25 S,show ¬(1:Int)<l.length by omega]
 ·obtain ⟨e, he⟩ := get_of (show 1 < l.length by omega)
  have e1:=fun kx kr=>fst_Pop S dp l hl kx kr 1 999999999999999999999999999998 e he
  simp only[Int.cast_ofNat_Int] at e1
  rw[show(999999999999999999999999999999:Nat)=999999999999999999999999999998+1 from rfl,e1]
  have e2:=fun kx kr=>go_Pop S dp l hl kx kr (l.length-2) 2 999999999999999999999999999998 [Md.popE e] (by omega) (by omega) (by simp)
  have e3:[Md.popE e]++(l.drop 2).map Md.popE=Md.popL l:=by unfold Md.popL;rw[drop_get he];rfl
  simp only[e3,List.length_cons,List.length_nil,Nat.zero_add,Int.cast_ofNat_Int] at e2
  rw[show(((1+1:Nat)):Int)=2 from rfl,e2]
  have hne:Md.popL l≠[]:=by rw[<-e3];simp
  simp only[eG,go_sem,thq S,nbr S,zN0,zN1,zN2,zN3,zN4,zI0,zI1,zI2,zI3,reduceCtorEq,o91_25 S]
  rw[deep_alone (Md.popL l) hne _ rfl 6 8 none rfl]
  simp only[eG,go_sem,thq S,nbr S,zN0,zN1,zN2,zN3,zN4,zI0,zI1,zI2,zI3,reduceCtorEq,o91_25 S]
  rfl
theorem c_r9_Pop (dp:Nat)(l:List Ent)(hl:l.length<1073741824)(A:List Blk)(nb:Nat):evOwnK false E (evC E fn (dp+1)) 91 A nb (some ([rowD l],[]))=some (.made (.d (rowD (Md.popL l))) []):=
 Says.deep (raw_r9_Pop S dp l hl) (np S 91 (by decide)) A nb
end
theorem app_fresh0' (A:List Blk)(s bytes n:Nat)(new:List AV)(h0:n≠0)(h1:n*bytes<=limA)(h2:n<=limA):evApp A s bytes (.d (.lst [] 0 (some 0))) new n=some (.fresh new n):=by
 obtain⟨m,rfl⟩:∃ m,n=m+1:=⟨n-1,by omega⟩
 rw[app_lst0,Nat.zero_add,if_pos ⟨by omega,by simp,h1,h2⟩];rfl
theorem wrI {l:List Int}{k:Nat}(h:k<l.length)(i v:Nat)(A:List Blk)(n:Int):storeAt A i v (k*1) [.d (vi n)] 1 (some (.cells ((rowC l).map .d) v false))=some (A.set i (.cells ((rowC (l.set k n)).map .d) v false)):=by
 have he:l[k]? =some l[k]:=List.getElem?_eq_getElem h
 exact st_row (o:=0) (e':=n) [vi n] he rfl rfl rfl rfl (by show 0+1<=1;decide) 1 rfl _ rfl
theorem dpI_len (l:List Int)(n:Nat)(hn:n<=l.length):n*1<=((rowC l).map AV.d).length:=by
 rw[List.length_map,rowC_len];exact Nat.mul_le_mul_right _ hn
theorem dpI_take (A:List Blk)(m n:Nat)(l:List Int):mapD (deep A (m+1)) (((rowC l).map AV.d).take (n*1))=some (rowC (l.take n),[]):=by
 rw[<-List.map_take,show n*1=n*Cl.n Int from rfl,rowC_take,mapD_dd]
theorem nc1 (A:List Blk)(x:DV)(k:Option Nat):newCells A false 1 (.d (.lst [x] 1 k))=some ([.d x],1):=rfl
theorem foldT (l:List Int)(n:Nat)(h:n<=l.length):DV.lst (rowC (l.take n)) n none=rowD (l.take n):=by
 unfold rowD;rw[List.length_take,Nat.min_eq_left h]
theorem takeS (l:List Int)(k:Nat)(v:Int):(l.set k v).take l.length=l.set k v:=List.take_of_length_le (by rw[List.length_set];exact Nat.le_refl _)
theorem foldS (l:List Int)(k:Nat)(v:Int):DV.lst (rowC (l.set k v)) l.length none=rowD (l.set k v):=by
 unfold rowD;rw[List.length_set]
def retC (p:Prog)(c:Conf):Conf:=bif Md.canRetire p c then Md.retire p c else Md.conf0
theorem retire_some {p:Prog}{c:Conf}(h:Md.canRetire p c=true):∃ e,c.buf[0]? =some e/\Md.entAt c.buf 0=e/\c.end_=0:=by
 simp only[Md.canRetire,Bool.and_eq_true,beq_iff_eq,decide_eq_true_eq] at h
 obtain⟨e,he⟩:=get_of (show 0<c.buf.length by omega)
 exact⟨e,he,by unfold Md.entAt;rw[show(0:Int).toNat=0 from rfl,he];rfl,h.1.1.1⟩
theorem and3 {n:Int}(h:n=0∨n=1∨n=2∨n=3):evBin .and (.d (vi n)) (.d (vi 3))=some (.d (vi n)):=by
 rcases h with rfl | rfl | rfl | rfl<;>rfl
variable {E:Env} {fn:FuncId->Option (Env->CallT->CallT)}
section
variable (S:Sur E fn)
include S
theorem o43_33:E.lives 43 7=none/\E.lives 43 21=none/\E.lives 43 25=none/\E.lives 43 29=none/\E.lives 43 33=none/\E.lives 43 37=none/\E.lives 43 41=none/\E.lives 43 45=none:=⟨off S 43 7 (by decide) rfl,off S 43 21 (by decide) rfl,off S 43 25 (by decide) rfl,off S 43 29 (by decide) rfl,off S 43 33 (by decide) rfl,off S 43 37 (by decide) rfl,off S 43 41 (by decide) rfl,off S 43 45 (by decide) rfl⟩
theorem raw_r9_Retire (dp:Nat)(p:Prog)(c:Conf)(hl:c.buf.length<1073741824)(hm:c.state.mem.length<1073741824)(hs:c.state.stack.length<1073741823)(hd:0<=(Md.at_ p (Md.entAt c.buf 0).pc).d/\(Md.at_ p (Md.entAt c.buf 0).pc).d<=3)(hx:Md.canRetire p c=true->(Md.at_ p (Md.entAt c.buf 0).pc).kind=3->(Md.entAt c.buf 0).fault=false->0<=(Md.entAt c.buf 0).addr/\(Md.entAt c.buf 0).addr<c.state.mem.length)(hy:Md.canRetire p c=true->(Md.at_ p (Md.entAt c.buf 0).pc).kind=9->(Md.entAt c.buf 0).fault=false->c.state.stack≠[]):Says E fn (dp+4) 43 [progD p,confD c] (.tup [confD (retC p c),vb (Md.canRetire p c)]):=by
 unfold Says
 show ansOf (evC E fn (dp+3+1) 43 [.d (progD p),.d (confD c)] [])=_
 rw[evC_succ,S.f_r9_Retire,apF_some,F_r9_Retire,mkF_run _ _ _ _ _ _ _ _ rfl]
 cases hcan:Md.canRetire p c with
 | false=>simp only[eG,go_sem,thq S,nbr S,zN0,zN1,zN2,zN3,zN4,zI0,zI1,zI2,zI3,reduceCtorEq,o43_33 S,c_r9_CanRetire S,hcan,Bool.not_false,retC,Md.conf0]
 | true=>
  replace hx:=hx hcan
  replace hy:=hy hcan
  obtain⟨e,he,he0,hend⟩:=retire_some hcan
  rw[he0] at hx hy hd
  have hgo:=he0
  generalize hxx:Md.at_ p e.pc=x at *
  have w0:=w_ixI (l:=c.buf) (i:=0) (by decide) he .i64 8 rfl
  have n1:c.state.mem.length*8<=limA:=by unfold limA;omega
  have n2:c.state.mem.length<=limA:=by unfold limA;omega
  have n3:c.state.stack.length*8<=limA:=by unfold limA;omega
  have n4:c.state.stack.length<=limA:=by unfold limA;omega
  have n5:(c.state.stack.length+1)*8<=limA:=by unfold limA;omega
  have n6:c.state.stack.length+1<=limA:=by unfold limA;omega
  have e1:c.state.mem.length=0->c.state.mem=[]:=List.length_eq_zero_iff.1
  have e2:c.state.stack.length=0->c.state.stack=[]:=List.length_eq_zero_iff.1
  have hdl:deep [.cells ((rowC (c.state.stack++[IntKind.i64.wrap (e.pc+1)])).map .d) 0 false] 6 (.sref 0 0 0 (c.state.stack.length+1) 1 none)=some (.lst (rowC (c.state.stack++[IntKind.i64.wrap (e.pc+1)])) (c.state.stack++[IntKind.i64.wrap (e.pc+1)]).length none,[0]):=deep_alone _ (by simp) _ (by simp) 4 1 none rfl
  have d4:x.d=0∨x.d=1∨x.d=2∨x.d=3:=by omega
  have hdl2:deep [.cells ((rowC c.state.mem).map .d) 0 false,.cells ((rowC (c.state.stack++[IntKind.i64.wrap (e.pc+1)])).map .d) 0 false] 6 (.sref 1 0 0 (c.state.stack.length+1) 1 none)=some (.lst (rowC (c.state.stack++[IntKind.i64.wrap (e.pc+1)])) (c.state.stack++[IntKind.i64.wrap (e.pc+1)]).length none,[1]):=by
   rw[show c.state.stack.length+1=(c.state.stack++[IntKind.i64.wrap (e.pc+1)]).length by simp]
   exact deep_all rfl (by simp) 4 _ 1 none rfl rfl
  have hand:=and3 d4
  have d0:=hd.1
  have d1:x.d<4:=by omega
  have hst:∀(A:List Blk) (m s q:AV),storeAt A 5 0 (x.d.toNat*1) [.d (vi e.val)] 1 (some (.cells [.d (vi c.state.regs.r0),.d (vi c.state.regs.r1),.d (vi c.state.regs.r2),.d (vi c.state.regs.r3),m,s,q] 0 false))=some (A.set 5 (.cells [.d (vi (Md.setR c.state.regs x.d e.val).r0),.d (vi (Md.setR c.state.regs x.d e.val).r1),.d (vi (Md.setR c.state.regs x.d e.val).r2),.d (vi (Md.setR c.state.regs x.d e.val).r3),m,s,q] 0 false)):=fun A m s q=>by
   rcases d4 with d | d | d | d<;>rw[d]<;>rfl
  by_cases m0:c.state.mem.length=0<;>by_cases s0:c.state.stack.length=0
  all_goals
   generalize hB:(cBlock 0 _:CT)=BB
   simp only[eG,go_sem,thq S,nbr S,zN0,zN1,zN2,zN3,zN4,zI0,zI1,zI2,zI3,reduceCtorEq,o43_33 S,c_r9_CanRetire S,hcan,Bool.not_true,Bool.not_false,w0,cA7 S,hxx,c_r9_Pop S,hl,sw_t,sw_s,dl_nil,dl_cons,rep0',rep1',app_fresh0',n1,n2,n3,n4,n5,n6,ne_eq,not_false_eq_true,not_true_eq_false,Nat.zero_add,Nat.add_zero,Nat.zero_mul,deep_sr,dpI_len,dpI_take,Nat.le_refl,Option.bind_some,Option.map_some,Option.map_none,foldT,takeS,foldS,List.take_length,w_fold,List.length_set,retC,Md.retire,he0,Md.endedM,Md.commitM,eq_true hend,Md.w64,m0,s0]
   rw[<-hB]
   clear hB BB
   cases hf:e.fault with
   | true=>simp only[eG,go_sem,thq S,nbr S,zN0,zN1,zN2,zN3,zN4,zI0,zI1,zI2,zI3,reduceCtorEq,o43_33 S,c_r9_CanRetire S,hcan,Bool.not_true,Bool.not_false,w0,cA7 S,hxx,c_r9_Pop S,hl,sw_t,sw_s,dl_nil,dl_cons,rep0',rep1',app_fresh0',n1,n2,n3,n4,n5,n6,ne_eq,not_false_eq_true,not_true_eq_false,Nat.zero_add,Nat.add_zero,Nat.zero_mul,deep_sr,dpI_len,dpI_take,Nat.le_refl,Option.bind_some,Option.map_some,Option.map_none,foldT,takeS,foldS,List.take_length,w_fold,List.length_set,retC,Md.retire,he0,Md.endedM,Md.commitM,eq_true hend,Md.w64,m0,s0,hf];(first | done | rfl | (rw[e1 m0];rfl) | (rw[e2 s0];rfl) | (rw[e1 m0,e2 s0];rfl))
   | false=>
    by_cases k12:x.kind=12
    ·simp only[eG,go_sem,thq S,nbr S,zN0,zN1,zN2,zN3,zN4,zI0,zI1,zI2,zI3,reduceCtorEq,o43_33 S,c_r9_CanRetire S,hcan,Bool.not_true,Bool.not_false,w0,cA7 S,hxx,c_r9_Pop S,hl,sw_t,sw_s,dl_nil,dl_cons,rep0',rep1',app_fresh0',n1,n2,n3,n4,n5,n6,ne_eq,not_false_eq_true,not_true_eq_false,Nat.zero_add,Nat.add_zero,Nat.zero_mul,deep_sr,dpI_len,dpI_take,Nat.le_refl,Option.bind_some,Option.map_some,Option.map_none,foldT,takeS,foldS,List.take_length,w_fold,List.length_set,retC,Md.retire,he0,Md.endedM,Md.commitM,eq_true hend,Md.w64,m0,s0,hf,k12];(first | done | rfl | (rw[e1 m0];rfl) | (rw[e2 s0];rfl) | (rw[e1 m0,e2 s0];rfl))
    by_cases k11:x.kind=11
    ·simp only[eG,go_sem,thq S,nbr S,zN0,zN1,zN2,zN3,zN4,zI0,zI1,zI2,zI3,reduceCtorEq,o43_33 S,c_r9_CanRetire S,hcan,Bool.not_true,Bool.not_false,w0,cA7 S,hxx,c_r9_Pop S,hl,sw_t,sw_s,dl_nil,dl_cons,rep0',rep1',app_fresh0',n1,n2,n3,n4,n5,n6,ne_eq,not_false_eq_true,not_true_eq_false,Nat.zero_add,Nat.add_zero,Nat.zero_mul,deep_sr,dpI_len,dpI_take,Nat.le_refl,Option.bind_some,Option.map_some,Option.map_none,foldT,takeS,foldS,List.take_length,w_fold,List.length_set,retC,Md.retire,he0,Md.endedM,Md.commitM,eq_true hend,Md.w64,m0,s0,hf,k11];(first | done | rfl | (rw[e1 m0];rfl) | (rw[e2 s0];rfl) | (rw[e1 m0,e2 s0];rfl))
    by_cases k1:x.kind=1
    ·simp only[eG,go_sem,thq S,nbr S,zN0,zN1,zN2,zN3,zN4,zI0,zI1,zI2,zI3,reduceCtorEq,o43_33 S,c_r9_CanRetire S,hcan,Bool.not_true,Bool.not_false,w0,cA7 S,hxx,c_r9_Pop S,hl,sw_t,sw_s,dl_nil,dl_cons,rep0',rep1',app_fresh0',n1,n2,n3,n4,n5,n6,ne_eq,not_false_eq_true,not_true_eq_false,Nat.zero_add,Nat.add_zero,Nat.zero_mul,deep_sr,dpI_len,dpI_take,Nat.le_refl,Option.bind_some,Option.map_some,Option.map_none,foldT,takeS,foldS,List.take_length,w_fold,List.length_set,retC,Md.retire,he0,Md.endedM,Md.commitM,eq_true hend,Md.w64,Int.cast_ofNat_Int,true_and,if_true,hand,d0,d1,hst,m0,s0,hf,k1];(first | done | rfl | (rw[e1 m0];rfl) | (rw[e2 s0];rfl) | (rw[e1 m0,e2 s0];rfl))
    by_cases k2:x.kind=2
    ·simp only[eG,go_sem,thq S,nbr S,zN0,zN1,zN2,zN3,zN4,zI0,zI1,zI2,zI3,reduceCtorEq,o43_33 S,c_r9_CanRetire S,hcan,Bool.not_true,Bool.not_false,w0,cA7 S,hxx,c_r9_Pop S,hl,sw_t,sw_s,dl_nil,dl_cons,rep0',rep1',app_fresh0',n1,n2,n3,n4,n5,n6,ne_eq,not_false_eq_true,not_true_eq_false,Nat.zero_add,Nat.add_zero,Nat.zero_mul,deep_sr,dpI_len,dpI_take,Nat.le_refl,Option.bind_some,Option.map_some,Option.map_none,foldT,takeS,foldS,List.take_length,w_fold,List.length_set,retC,Md.retire,he0,Md.endedM,Md.commitM,eq_true hend,Md.w64,Int.cast_ofNat_Int,true_and,if_true,hand,d0,d1,hst,m0,s0,hf,k2];(first | done | rfl | (rw[e1 m0];rfl) | (rw[e2 s0];rfl) | (rw[e1 m0,e2 s0];rfl))
    by_cases k4:x.kind=4
    ·simp only[eG,go_sem,thq S,nbr S,zN0,zN1,zN2,zN3,zN4,zI0,zI1,zI2,zI3,reduceCtorEq,o43_33 S,c_r9_CanRetire S,hcan,Bool.not_true,Bool.not_false,w0,cA7 S,hxx,c_r9_Pop S,hl,sw_t,sw_s,dl_nil,dl_cons,rep0',rep1',app_fresh0',n1,n2,n3,n4,n5,n6,ne_eq,not_false_eq_true,not_true_eq_false,Nat.zero_add,Nat.add_zero,Nat.zero_mul,deep_sr,dpI_len,dpI_take,Nat.le_refl,Option.bind_some,Option.map_some,Option.map_none,foldT,takeS,foldS,List.take_length,w_fold,List.length_set,retC,Md.retire,he0,Md.endedM,Md.commitM,eq_true hend,Md.w64,Int.cast_ofNat_Int,true_and,if_true,hand,d0,d1,hst,m0,s0,hf,k4];(first | done | rfl | (rw[e1 m0];rfl) | (rw[e2 s0];rfl) | (rw[e1 m0,e2 s0];rfl))
    by_cases k3:x.kind=3
    ·obtain ⟨a0, a1⟩ := hx k3 hf
     have a2:e.addr.toNat<c.state.mem.length:=by omega
     first
      | (exfalso;omega)
      | (simp only[eG,go_sem,thq S,nbr S,zN0,zN1,zN2,zN3,zN4,zI0,zI1,zI2,zI3,reduceCtorEq,o43_33 S,c_r9_CanRetire S,hcan,Bool.not_true,Bool.not_false,w0,cA7 S,hxx,c_r9_Pop S,hl,sw_t,sw_s,dl_nil,dl_cons,rep0',rep1',app_fresh0',n1,n2,n3,n4,n5,n6,ne_eq,not_false_eq_true,not_true_eq_false,Nat.zero_add,Nat.add_zero,Nat.zero_mul,deep_sr,dpI_len,dpI_take,Nat.le_refl,Option.bind_some,Option.map_some,Option.map_none,foldT,takeS,foldS,List.take_length,w_fold,List.length_set,retC,Md.retire,he0,Md.endedM,Md.commitM,eq_true hend,Md.w64,m0,s0,hf,k3,a0,a1,wrI a2,and_self];(first | done | rfl | (rw[e1 m0];rfl) | (rw[e2 s0];rfl) | (rw[e1 m0,e2 s0];rfl)))
    by_cases k8:x.kind=8
    ·simp only[eG,go_sem,thq S,nbr S,zN0,zN1,zN2,zN3,zN4,zI0,zI1,zI2,zI3,reduceCtorEq,o43_33 S,c_r9_CanRetire S,hcan,Bool.not_true,Bool.not_false,w0,cA7 S,hxx,c_r9_Pop S,hl,sw_t,sw_s,dl_nil,dl_cons,rep0',rep1',app_fresh0',n1,n2,n3,n4,n5,n6,ne_eq,not_false_eq_true,not_true_eq_false,Nat.zero_add,Nat.add_zero,Nat.zero_mul,deep_sr,dpI_len,dpI_take,Nat.le_refl,Option.bind_some,Option.map_some,Option.map_none,foldT,takeS,foldS,List.take_length,w_fold,List.length_set,retC,Md.retire,he0,Md.endedM,Md.commitM,eq_true hend,Md.w64,m0,s0,hf,k8,nc1,app_endI,show(1:Nat)*8<=limA by decide,show(8:Nat)<=limA by decide,show(1:Nat)<=limA by decide,show(1:Nat)*1<=1 by decide,Nat.lt_add_one,Nat.one_ne_zero,Nat.one_mul,show(0:Nat)<1 by decide,hdl,hdl2];(first | done | rfl | (rw[e1 m0];rfl) | (rw[e2 s0];rfl) | (rw[e1 m0,e2 s0];rfl))
    by_cases k9:x.kind=9
    ·have hne : c.state.stack.length ≠ 0 := fun h => hy k9 hf (List.length_eq_zero_iff.1 h)
     have wl:IntKind.i64.wrap ((c.state.stack.length:Int)-1)=((c.state.stack.length-1:Nat):Int):=by rw[wrap_i64 (by omega) (by omega)];omega
     have bd:=bndsV_hi c.state.stack.length .i64 ((c.state.stack.length-1:Nat):Int) (by omega) (by omega)
     have le1:c.state.stack.length-1<=c.state.stack.length:=by omega
     by_cases s1:c.state.stack.length-1=0
     ·have dl : c.state.stack.dropLast = [] := by rw [List.dropLast_eq_take, s1]; rfl
      have bd0:=bd
      rw[s1] at bd0
      first
       | (exfalso;omega)
       | (simp only[eG,go_sem,thq S,nbr S,zN0,zN1,zN2,zN3,zN4,zI0,zI1,zI2,zI3,reduceCtorEq,o43_33 S,c_r9_CanRetire S,hcan,Bool.not_true,Bool.not_false,w0,cA7 S,hxx,c_r9_Pop S,hl,sw_t,sw_s,dl_nil,dl_cons,rep0',rep1',app_fresh0',n1,n2,n3,n4,n5,n6,ne_eq,not_false_eq_true,not_true_eq_false,Nat.zero_add,Nat.add_zero,Nat.zero_mul,deep_sr,dpI_len,dpI_take,Nat.le_refl,Option.bind_some,Option.map_some,Option.map_none,foldT,takeS,foldS,List.take_length,w_fold,List.length_set,retC,Md.retire,he0,Md.endedM,Md.commitM,eq_true hend,Md.w64,m0,s0,hf,k9,wl,bd0,Int.toNat_natCast,s1,dl,Nat.sub_zero,and_false];(first | done | rfl | (rw[e1 m0];rfl) | (rw[e2 s0];rfl) | (rw[e1 m0,e2 s0];rfl)))
     ·first
       | (exfalso;omega)
       | (simp only[eG,go_sem,thq S,nbr S,zN0,zN1,zN2,zN3,zN4,zI0,zI1,zI2,zI3,reduceCtorEq,o43_33 S,c_r9_CanRetire S,hcan,Bool.not_true,Bool.not_false,w0,cA7 S,hxx,c_r9_Pop S,hl,sw_t,sw_s,dl_nil,dl_cons,rep0',rep1',app_fresh0',n1,n2,n3,n4,n5,n6,ne_eq,not_false_eq_true,not_true_eq_false,Nat.zero_add,Nat.add_zero,Nat.zero_mul,deep_sr,dpI_len,dpI_take,Nat.le_refl,Option.bind_some,Option.map_some,Option.map_none,foldT,takeS,foldS,List.take_length,w_fold,List.length_set,retC,Md.retire,he0,Md.endedM,Md.commitM,eq_true hend,Md.w64,m0,s0,hf,k9,wl,bd,Int.toNat_natCast,s1,le1,List.dropLast_eq_take,Nat.sub_zero,and_false];(first | done | rfl | (rw[e1 m0];rfl) | (rw[e2 s0];rfl) | (rw[e1 m0,e2 s0];rfl)))
    simp only[eG,go_sem,thq S,nbr S,zN0,zN1,zN2,zN3,zN4,zI0,zI1,zI2,zI3,reduceCtorEq,o43_33 S,c_r9_CanRetire S,hcan,Bool.not_true,Bool.not_false,w0,cA7 S,hxx,c_r9_Pop S,hl,sw_t,sw_s,dl_nil,dl_cons,rep0',rep1',app_fresh0',n1,n2,n3,n4,n5,n6,ne_eq,not_false_eq_true,not_true_eq_false,Nat.zero_add,Nat.add_zero,Nat.zero_mul,deep_sr,dpI_len,dpI_take,Nat.le_refl,Option.bind_some,Option.map_some,Option.map_none,foldT,takeS,foldS,List.take_length,w_fold,List.length_set,retC,Md.retire,he0,Md.endedM,Md.commitM,eq_true hend,Md.w64,m0,s0,hf,k1,k2,k3,k4,k8,k9,k11,k12];(first | done | rfl | (rw[e1 m0];rfl) | (rw[e2 s0];rfl) | (rw[e1 m0,e2 s0];rfl))
end
end Go.Aug.Mc
