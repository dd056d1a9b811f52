import Derived.Test.YtikiagojnilhiaaGreatMc15
import Derived.Test.YtikiagojnilhiaaGreatMc5
namespace Go.Aug.Mc
open Go Go.Aug
open Nat renaming reduceLT -> zN0, reduceEqDiff -> zN1, reduceAdd -> zN2, reduceMul -> zN3, reduceLeDiff -> zN4
open Int renaming reduceEq -> zI0, reduceLT -> zI1, reduceLE -> zI2, reduceNeg -> zI3
set_option linter.unusedSimpArgs false
set_option linter.unusedVariables false
set_option maxHeartbeats 40000000
def abOf (x:Spot):Bool:=(Md.valM x.p x.c x.i x.s.a).2&&(Md.valM x.p x.c x.i x.s.b).2
def adOf (x:Spot):Int:=Md.mask x.p.w ((Md.valM x.p x.c x.i x.s.a).1+(Md.valM x.p x.c x.i x.s.b).1)
def inOf (x:Spot):Bool:=decide (adOf x<cellsI x.p.mems)
def loadE (x:Spot):Ent×Bool×Bool:=
 bif abOf x then
  (bif inOf x then (⟨x.e.pc, (Md.loadM x.p x.c x.i (adOf x)).1, adOf x, (Md.loadM x.p x.c x.i (adOf x)).2.1, x.e.next, true, true, x.e.fault⟩, true, (Md.loadM x.p x.c x.i (adOf x)).2.2)
   else(⟨x.e.pc,0,adOf x,-1,x.e.next,true,true,true⟩,false,true))
 else(Md.ent0,false,false)
def readyX (x:Spot):Bool:=Md.ready (cellsI x.p.mems) x.p x.c x.i x.s (Md.valM x.p x.c x.i x.s.a) (Md.valM x.p x.c x.i x.s.b) (Md.regM x.p x.c x.i x.s.d)
variable {E:Env} {fn:FuncId->Option (Env->CallT->CallT)}
section
variable (S:Sur E fn)
include S
theorem o69_16:E.lives 69 9=none/\E.lives 69 19=none:=⟨off S 69 9 (by decide) rfl,off S 69 19 (by decide) rfl⟩
theorem o61_16:E.lives 61 15=none/\E.lives 61 17=none/\E.lives 61 21=none/\E.lives 61 25=none/\E.lives 61 31=none/\E.lives 61 35=none:=⟨off S 61 15 (by decide) rfl,off S 61 17 (by decide) rfl,off S 61 21 (by decide) rfl,off S 61 25 (by decide) rfl,off S 61 31 (by decide) rfl,off S 61 35 (by decide) rfl⟩
theorem raw_exec_spot_load (dp:Nat)(x:Spot)(hl:x.c.buf.length<1073741824)(hm:x.p.mems.length<1073741824):Says E fn (dp+7) 69 [spotD x] (.tup [.agg (Cl.cells (loadE x).1),vb (loadE x).2.1,vb (loadE x).2.2]):=by
 unfold Says
 show ansOf (evC E fn (dp+6+1) 69 [.d (spotD x)] [])=_
 rw[evC_succ,S.f_exec_spot_load,apF_some,F_exec_spot_load,mkF_run _ _ _ _ _ _ _ _ rfl]
 have e1:((Md.valM x.p x.c x.i x.s.a).2&&(Md.valM x.p x.c x.i x.s.b).2)=abOf x:=rfl
 have e2:Md.mask x.p.w ((Md.valM x.p x.c x.i x.s.a).1+(Md.valM x.p x.c x.i x.s.b).1)=adOf x:=rfl
 have e3:decide (adOf x<cellsI x.p.mems)=inOf x:=rfl
 cases h:abOf x with
 | false=>simp only[eG,go_sem,thq S,nbr S,zN0,zN1,zN2,zN3,zN4,zI0,zI1,zI2,zI3,reduceCtorEq,o69_16 S,c_exec_spot_two S,hl,e1,h,Bool.not_false,loadE,Md.ent0]
 | true=>
  cases h2:inOf x with
  | true=>simp only[eG,go_sem,thq S,nbr S,zN0,zN1,zN2,zN3,zN4,zI0,zI1,zI2,zI3,reduceCtorEq,o69_16 S,c_exec_spot_two S,hl,hm,e1,e2,e3,h,h2,Bool.not_true,Bool.not_false,loadE,c_seqm_Address S,c_memo_Load S,Md.loadM]
  | false=>simp only[eG,go_sem,thq S,nbr S,zN0,zN1,zN2,zN3,zN4,zI0,zI1,zI2,zI3,reduceCtorEq,o69_16 S,c_exec_spot_two S,hl,hm,e1,e2,e3,h,h2,Bool.not_true,Bool.not_false,loadE,c_seqm_Address S]
theorem c_exec_spot_load (dp:Nat)(x_p_w x_p_wn x_p_fu x_p_r0 x_p_r1 x_p_r2 x_p_r3:Int)(x_p_ms:List MemT)(x_p_ls:List Label)(x_p_is:List Ins)(x_c_r0 x_c_r1 x_c_r2 x_c_r3:Int)(x_c_mm x_c_st:List Int)(x_c_pc:Int)(x_c_bf:List Ent)(x_c_rb:List Int)(x_c_en x_i x_e_pc x_e_vl x_e_ad x_e_fr x_e_nx:Int)(x_e_dn x_e_kn x_e_ft:Bool)(x_s_k x_s_o x_s_d:Int)(x_s_ag:Bool)(x_s_an:Int)(x_s_bg:Bool)(x_s_bn:Int)(x_s_nm:ByteArray)(x_s_tg:Int)(hl:(⟨⟨x_p_w,x_p_wn,x_p_fu,⟨x_p_r0,x_p_r1,x_p_r2,x_p_r3⟩,x_p_ms,x_p_ls,x_p_is⟩,⟨⟨⟨x_c_r0,x_c_r1,x_c_r2,x_c_r3⟩,x_c_mm,x_c_st,x_c_pc⟩,x_c_bf,x_c_rb,x_c_en⟩,x_i,⟨x_e_pc,x_e_vl,x_e_ad,x_e_fr,x_e_nx,x_e_dn,x_e_kn,x_e_ft⟩,⟨x_s_k,x_s_o,x_s_d,⟨x_s_ag,x_s_an⟩,⟨x_s_bg,x_s_bn⟩,x_s_nm,x_s_tg⟩⟩:Spot).c.buf.length<1073741824)(hm:(⟨⟨x_p_w,x_p_wn,x_p_fu,⟨x_p_r0,x_p_r1,x_p_r2,x_p_r3⟩,x_p_ms,x_p_ls,x_p_is⟩,⟨⟨⟨x_c_r0,x_c_r1,x_c_r2,x_c_r3⟩,x_c_mm,x_c_st,x_c_pc⟩,x_c_bf,x_c_rb,x_c_en⟩,x_i,⟨x_e_pc,x_e_vl,x_e_ad,x_e_fr,x_e_nx,x_e_dn,x_e_kn,x_e_ft⟩,⟨x_s_k,x_s_o,x_s_d,⟨x_s_ag,x_s_an⟩,⟨x_s_bg,x_s_bn⟩,x_s_nm,x_s_tg⟩⟩:Spot).p.mems.length<1073741824)(A:List Blk)(nb:Nat)(us:List Nat):evOwnK false E (evC E fn (dp+7)) 69 A nb (some ([.agg [vi x_p_w,vi x_p_wn,vi x_p_fu,vi x_p_r0,vi x_p_r1,vi x_p_r2,vi x_p_r3,rowD x_p_ms,rowD x_p_ls,rowD x_p_is,vi x_c_r0,vi x_c_r1,vi x_c_r2,vi x_c_r3,rowD x_c_mm,rowD x_c_st,vi x_c_pc,rowD x_c_bf,rowD x_c_rb,vi x_c_en,vi x_i,vi x_e_pc,vi x_e_vl,vi x_e_ad,vi x_e_fr,vi x_e_nx,vb x_e_dn,vb x_e_kn,vb x_e_ft,vi x_s_k,vi x_s_o,vi x_s_d,vb x_s_ag,vi x_s_an,vb x_s_bg,vi x_s_bn,vt x_s_nm,vi x_s_tg]],us))=some (.made (.d (.tup [.agg (Cl.cells (loadE (⟨⟨x_p_w,x_p_wn,x_p_fu,⟨x_p_r0,x_p_r1,x_p_r2,x_p_r3⟩,x_p_ms,x_p_ls,x_p_is⟩,⟨⟨⟨x_c_r0,x_c_r1,x_c_r2,x_c_r3⟩,x_c_mm,x_c_st,x_c_pc⟩,x_c_bf,x_c_rb,x_c_en⟩,x_i,⟨x_e_pc,x_e_vl,x_e_ad,x_e_fr,x_e_nx,x_e_dn,x_e_kn,x_e_ft⟩,⟨x_s_k,x_s_o,x_s_d,⟨x_s_ag,x_s_an⟩,⟨x_s_bg,x_s_bn⟩,x_s_nm,x_s_tg⟩⟩:Spot)).1),vb (loadE (⟨⟨x_p_w,x_p_wn,x_p_fu,⟨x_p_r0,x_p_r1,x_p_r2,x_p_r3⟩,x_p_ms,x_p_ls,x_p_is⟩,⟨⟨⟨x_c_r0,x_c_r1,x_c_r2,x_c_r3⟩,x_c_mm,x_c_st,x_c_pc⟩,x_c_bf,x_c_rb,x_c_en⟩,x_i,⟨x_e_pc,x_e_vl,x_e_ad,x_e_fr,x_e_nx,x_e_dn,x_e_kn,x_e_ft⟩,⟨x_s_k,x_s_o,x_s_d,⟨x_s_ag,x_s_an⟩,⟨x_s_bg,x_s_bn⟩,x_s_nm,x_s_tg⟩⟩:Spot)).2.1,vb (loadE (⟨⟨x_p_w,x_p_wn,x_p_fu,⟨x_p_r0,x_p_r1,x_p_r2,x_p_r3⟩,x_p_ms,x_p_ls,x_p_is⟩,⟨⟨⟨x_c_r0,x_c_r1,x_c_r2,x_c_r3⟩,x_c_mm,x_c_st,x_c_pc⟩,x_c_bf,x_c_rb,x_c_en⟩,x_i,⟨x_e_pc,x_e_vl,x_e_ad,x_e_fr,x_e_nx,x_e_dn,x_e_kn,x_e_ft⟩,⟨x_s_k,x_s_o,x_s_d,⟨x_s_ag,x_s_an⟩,⟨x_s_bg,x_s_bn⟩,x_s_nm,x_s_tg⟩⟩:Spot)).2.2])) []):=
 Says.flat (raw_exec_spot_load S dp (⟨⟨x_p_w,x_p_wn,x_p_fu,⟨x_p_r0,x_p_r1,x_p_r2,x_p_r3⟩,x_p_ms,x_p_ls,x_p_is⟩,⟨⟨⟨x_c_r0,x_c_r1,x_c_r2,x_c_r3⟩,x_c_mm,x_c_st,x_c_pc⟩,x_c_bf,x_c_rb,x_c_en⟩,x_i,⟨x_e_pc,x_e_vl,x_e_ad,x_e_fr,x_e_nx,x_e_dn,x_e_kn,x_e_ft⟩,⟨x_s_k,x_s_o,x_s_d,⟨x_s_ag,x_s_an⟩,⟨x_s_bg,x_s_bn⟩,x_s_nm,x_s_tg⟩⟩:Spot) hl hm) (np S 69 (by decide)) (rfl) A nb us
theorem raw_exec_spot_ready (dp:Nat)(x:Spot)(hl:x.c.buf.length<1073741824)(hm:x.p.mems.length<1073741824):Says E fn (dp+8) 61 [spotD x] (vb (readyX x)):=by
 unfold Says
 show ansOf (evC E fn (dp+7+1) 61 [.d (spotD x)] [])=_
 rw[evC_succ,S.f_exec_spot_ready,apF_some,F_exec_spot_ready,mkF_run _ _ _ _ _ _ _ _ rfl]
 have e1:((Md.valM x.p x.c x.i x.s.a).2&&(Md.valM x.p x.c x.i x.s.b).2)=abOf x:=rfl
 have hld:(loadE x).2.2=(abOf x&&(decide (adOf x>=cellsI x.p.mems) || (Md.loadM x.p x.c x.i (adOf x)).2.2)):=by
  unfold loadE inOf
  cases abOf x with
  | false=>rfl
  | true=>
   by_cases h:adOf x<cellsI x.p.mems
   ·simp[h,Int.not_le.2 h]
   ·simp[h,Int.not_lt.1 h]
 unfold readyX
 cases hab:abOf x<;>simp only[eG,go_sem,thq S,nbr S,zN0,zN1,zN2,zN3,zN4,zI0,zI1,zI2,zI3,reduceCtorEq,o61_16 S,c_exec_spot_two S,c_exec_spot_held S,c_exec_spot_val S,c_exec_spot_load S,hl,hm,e1,hab,hld]
 all_goals
  have h':=hab
  unfold abOf at h'
  by_cases k1:x.s.kind=1
  ·simp only[k1,Md.ready,h',if_true,decide_true,cond_true,true_or]
  by_cases k5:x.s.kind=5
  ·simp only[k5,Md.ready,h',if_true,decide_true,cond_true,or_true,zI0,decide_false,cond_false]
  by_cases k4:x.s.kind=4
  ·simp only[k4,Md.ready,h',if_true,if_false,decide_true,cond_true,or_self,zI0,decide_false,cond_false,Bool.true_and,Bool.false_and]
  by_cases k2:x.s.kind=2
  ·simp only [k2, Md.ready, h', if_true, if_false, decide_true, cond_true, or_self, zI0, decide_false, cond_false, Bool.true_and, Bool.false_and, adOf]
   try rfl
  by_cases k3:x.s.kind=3
  ·simp only[k3,Md.ready,if_true,if_false,decide_true,cond_true,or_self,zI0,decide_false,cond_false]
  by_cases k7:x.s.kind=7
  ·simp only[k7,Md.ready,if_true,if_false,decide_true,cond_true,or_self,zI0,decide_false,cond_false]
  ·simp only[k1,k2,k3,k4,k5,k7,Md.ready,if_true,if_false,decide_true,cond_true,or_self,zI0,decide_false,cond_false]
theorem c_exec_spot_ready (dp:Nat)(x_p_w x_p_wn x_p_fu x_p_r0 x_p_r1 x_p_r2 x_p_r3:Int)(x_p_ms:List MemT)(x_p_ls:List Label)(x_p_is:List Ins)(x_c_r0 x_c_r1 x_c_r2 x_c_r3:Int)(x_c_mm x_c_st:List Int)(x_c_pc:Int)(x_c_bf:List Ent)(x_c_rb:List Int)(x_c_en x_i x_e_pc x_e_vl x_e_ad x_e_fr x_e_nx:Int)(x_e_dn x_e_kn x_e_ft:Bool)(x_s_k x_s_o x_s_d:Int)(x_s_ag:Bool)(x_s_an:Int)(x_s_bg:Bool)(x_s_bn:Int)(x_s_nm:ByteArray)(x_s_tg:Int)(hl:(⟨⟨x_p_w,x_p_wn,x_p_fu,⟨x_p_r0,x_p_r1,x_p_r2,x_p_r3⟩,x_p_ms,x_p_ls,x_p_is⟩,⟨⟨⟨x_c_r0,x_c_r1,x_c_r2,x_c_r3⟩,x_c_mm,x_c_st,x_c_pc⟩,x_c_bf,x_c_rb,x_c_en⟩,x_i,⟨x_e_pc,x_e_vl,x_e_ad,x_e_fr,x_e_nx,x_e_dn,x_e_kn,x_e_ft⟩,⟨x_s_k,x_s_o,x_s_d,⟨x_s_ag,x_s_an⟩,⟨x_s_bg,x_s_bn⟩,x_s_nm,x_s_tg⟩⟩:Spot).c.buf.length<1073741824)(hm:(⟨⟨x_p_w,x_p_wn,x_p_fu,⟨x_p_r0,x_p_r1,x_p_r2,x_p_r3⟩,x_p_ms,x_p_ls,x_p_is⟩,⟨⟨⟨x_c_r0,x_c_r1,x_c_r2,x_c_r3⟩,x_c_mm,x_c_st,x_c_pc⟩,x_c_bf,x_c_rb,x_c_en⟩,x_i,⟨x_e_pc,x_e_vl,x_e_ad,x_e_fr,x_e_nx,x_e_dn,x_e_kn,x_e_ft⟩,⟨x_s_k,x_s_o,x_s_d,⟨x_s_ag,x_s_an⟩,⟨x_s_bg,x_s_bn⟩,x_s_nm,x_s_tg⟩⟩:Spot).p.mems.length<1073741824)(A:List Blk)(nb:Nat)(us:List Nat):evOwnK false E (evC E fn (dp+8)) 61 A nb (some ([.agg [vi x_p_w,vi x_p_wn,vi x_p_fu,vi x_p_r0,vi x_p_r1,vi x_p_r2,vi x_p_r3,rowD x_p_ms,rowD x_p_ls,rowD x_p_is,vi x_c_r0,vi x_c_r1,vi x_c_r2,vi x_c_r3,rowD x_c_mm,rowD x_c_st,vi x_c_pc,rowD x_c_bf,rowD x_c_rb,vi x_c_en,vi x_i,vi x_e_pc,vi x_e_vl,vi x_e_ad,vi x_e_fr,vi x_e_nx,vb x_e_dn,vb x_e_kn,vb x_e_ft,vi x_s_k,vi x_s_o,vi x_s_d,vb x_s_ag,vi x_s_an,vb x_s_bg,vi x_s_bn,vt x_s_nm,vi x_s_tg]],us))=some (.made (.d (vb (readyX (⟨⟨x_p_w,x_p_wn,x_p_fu,⟨x_p_r0,x_p_r1,x_p_r2,x_p_r3⟩,x_p_ms,x_p_ls,x_p_is⟩,⟨⟨⟨x_c_r0,x_c_r1,x_c_r2,x_c_r3⟩,x_c_mm,x_c_st,x_c_pc⟩,x_c_bf,x_c_rb,x_c_en⟩,x_i,⟨x_e_pc,x_e_vl,x_e_ad,x_e_fr,x_e_nx,x_e_dn,x_e_kn,x_e_ft⟩,⟨x_s_k,x_s_o,x_s_d,⟨x_s_ag,x_s_an⟩,⟨x_s_bg,x_s_bn⟩,x_s_nm,x_s_tg⟩⟩:Spot)))) []):=
 Says.flat (raw_exec_spot_ready S dp (⟨⟨x_p_w,x_p_wn,x_p_fu,⟨x_p_r0,x_p_r1,x_p_r2,x_p_r3⟩,x_p_ms,x_p_ls,x_p_is⟩,⟨⟨⟨x_c_r0,x_c_r1,x_c_r2,x_c_r3⟩,x_c_mm,x_c_st,x_c_pc⟩,x_c_bf,x_c_rb,x_c_en⟩,x_i,⟨x_e_pc,x_e_vl,x_e_ad,x_e_fr,x_e_nx,x_e_dn,x_e_kn,x_e_ft⟩,⟨x_s_k,x_s_o,x_s_d,⟨x_s_ag,x_s_an⟩,⟨x_s_bg,x_s_bn⟩,x_s_nm,x_s_tg⟩⟩:Spot) hl hm) (np S 61 (by decide)) (rfl) A nb us
theorem raw_exec_Can (dp:Nat)(p:Prog)(c:Conf)(i:Int)(hl:c.buf.length<1073741824)(hm:p.mems.length<1073741824):Says E fn (dp+9) 32 [progD p,confD c,vi i] (vb (Md.can (cellsI p.mems) p c i)):=by
 unfold Says
 show ansOf (evC E fn (dp+8+1) 32 [.d (progD p),.d (confD c),.d (vi i)] [])=_
 rw[evC_succ,S.f_exec_Can,apF_some,F_exec_Can,mkF_run _ _ _ _ _ _ _ _ rfl]
 cases ho:Md.openM p c i with
 | false=>simp only[eG,go_sem,thq S,nbr S,zN0,zN1,zN2,zN3,zN4,zI0,zI1,zI2,zI3,reduceCtorEq,c_exec_at S,hl,ho,Md.can]
 | true=>
  have e:readyX (spotOf p c i)=Md.ready (cellsI p.mems) p c i (Md.insM p c i) (Md.valM p c i (Md.insM p c i).a) (Md.valM p c i (Md.insM p c i).b) (Md.regM p c i (Md.insM p c i).d):=rfl
  cases hd:(Md.entAt c.buf i).done with
  | true=>simp only[eG,go_sem,thq S,nbr S,zN0,zN1,zN2,zN3,zN4,zI0,zI1,zI2,zI3,reduceCtorEq,c_exec_at S,hl,ho,spotOf,hd,Bool.not_true,Md.can]
  | false=>
   have hd':(spotOf p c i).e.done=false:=hd
   have e2:readyX { p:=(spotOf p c i).p,c:=(spotOf p c i).c,i:=(spotOf p c i).i,e:={ pc:=(spotOf p c i).e.pc,val:=(spotOf p c i).e.val,addr:=(spotOf p c i).e.addr,frm:=(spotOf p c i).e.frm,next:=(spotOf p c i).e.next,done:=false,known:=(spotOf p c i).e.known,fault:=(spotOf p c i).e.fault },s:=(spotOf p c i).s }=Md.ready (cellsI p.mems) p c i (Md.insM p c i) (Md.valM p c i (Md.insM p c i).a) (Md.valM p c i (Md.insM p c i).b) (Md.regM p c i (Md.insM p c i).d):=by rw[<-hd'];exact e
   simp only[eG,go_sem,thq S,nbr S,zN0,zN1,zN2,zN3,zN4,zI0,zI1,zI2,zI3,reduceCtorEq,c_exec_at S,hl,ho,hd',Bool.not_false,c_exec_spot_ready S,show(spotOf p c i).c.buf.length<1073741824 from hl,show(spotOf p c i).p.mems.length<1073741824 from hm,e2,Md.can,hd]
theorem c_exec_Can (dp:Nat)(p_w p_wn p_fu p_r0 p_r1 p_r2 p_r3:Int)(p_ms:List MemT)(p_ls:List Label)(p_is:List Ins)(c_r0 c_r1 c_r2 c_r3:Int)(c_mm c_st:List Int)(c_pc:Int)(c_bf:List Ent)(c_rb:List Int)(c_en i:Int)(hl:(⟨⟨⟨c_r0,c_r1,c_r2,c_r3⟩,c_mm,c_st,c_pc⟩,c_bf,c_rb,c_en⟩:Conf).buf.length<1073741824)(hm:(⟨p_w,p_wn,p_fu,⟨p_r0,p_r1,p_r2,p_r3⟩,p_ms,p_ls,p_is⟩:Prog).mems.length<1073741824)(A:List Blk)(nb:Nat)(us:List Nat):evOwnK false E (evC E fn (dp+9)) 32 A nb (some ([.agg [vi p_w,vi p_wn,vi p_fu,vi p_r0,vi p_r1,vi p_r2,vi p_r3,rowD p_ms,rowD p_ls,rowD p_is],.agg [vi c_r0,vi c_r1,vi c_r2,vi c_r3,rowD c_mm,rowD c_st,vi c_pc,rowD c_bf,rowD c_rb,vi c_en],vi i],us))=some (.made (.d (vb (Md.can (cellsI (⟨p_w,p_wn,p_fu,⟨p_r0,p_r1,p_r2,p_r3⟩,p_ms,p_ls,p_is⟩:Prog).mems) (⟨p_w,p_wn,p_fu,⟨p_r0,p_r1,p_r2,p_r3⟩,p_ms,p_ls,p_is⟩:Prog) (⟨⟨⟨c_r0,c_r1,c_r2,c_r3⟩,c_mm,c_st,c_pc⟩,c_bf,c_rb,c_en⟩:Conf) i))) []):=
 Says.flat (raw_exec_Can S dp (⟨p_w,p_wn,p_fu,⟨p_r0,p_r1,p_r2,p_r3⟩,p_ms,p_ls,p_is⟩:Prog) (⟨⟨⟨c_r0,c_r1,c_r2,c_r3⟩,c_mm,c_st,c_pc⟩,c_bf,c_rb,c_en⟩:Conf) i hl hm) (np S 32 (by decide)) (rfl) A nb us
theorem raw_exec_spot_put (dp:Nat)(x:Spot)(e:Ent)(hm:x.c.state.mem.length<1073741824)(hs:x.c.state.stack.length<1073741824)(hl:x.c.buf.length<1073741824)(hr:x.c.rsb.length<1073741824)(h0:0<=x.i)(h1:x.i<x.c.buf.length):Says E fn (dp+3) 70 [spotD x,.agg (Cl.cells e)] (confD (Md.put x.c x.i e)):=by
 unfold Says
 show ansOf (evC E fn (dp+2+1) 70 [.d (spotD x),.d (.agg (Cl.cells e))] [])=_
 rw[evC_succ,S.f_exec_spot_put,apF_some,F_exec_spot_put,mkF_run _ _ _ _ _ _ _ _ rfl]
 simp only[eG,go_sem,thq S,nbr S,zN0,zN1,zN2,zN3,zN4,zI0,zI1,zI2,zI3,reduceCtorEq,c_conf_Still S,hm,hs,hl,hr,c_robq_Put S,h0,h1,Md.put]
theorem c_exec_spot_put (dp:Nat)(x_p_w x_p_wn x_p_fu x_p_r0 x_p_r1 x_p_r2 x_p_r3:Int)(x_p_ms:List MemT)(x_p_ls:List Label)(x_p_is:List Ins)(x_c_r0 x_c_r1 x_c_r2 x_c_r3:Int)(x_c_mm x_c_st:List Int)(x_c_pc:Int)(x_c_bf:List Ent)(x_c_rb:List Int)(x_c_en x_i x_e_pc x_e_vl x_e_ad x_e_fr x_e_nx:Int)(x_e_dn x_e_kn x_e_ft:Bool)(x_s_k x_s_o x_s_d:Int)(x_s_ag:Bool)(x_s_an:Int)(x_s_bg:Bool)(x_s_bn:Int)(x_s_nm:ByteArray)(x_s_tg e_pc e_vl e_ad e_fr e_nx:Int)(e_dn e_kn e_ft:Bool)(hm:(⟨⟨x_p_w,x_p_wn,x_p_fu,⟨x_p_r0,x_p_r1,x_p_r2,x_p_r3⟩,x_p_ms,x_p_ls,x_p_is⟩,⟨⟨⟨x_c_r0,x_c_r1,x_c_r2,x_c_r3⟩,x_c_mm,x_c_st,x_c_pc⟩,x_c_bf,x_c_rb,x_c_en⟩,x_i,⟨x_e_pc,x_e_vl,x_e_ad,x_e_fr,x_e_nx,x_e_dn,x_e_kn,x_e_ft⟩,⟨x_s_k,x_s_o,x_s_d,⟨x_s_ag,x_s_an⟩,⟨x_s_bg,x_s_bn⟩,x_s_nm,x_s_tg⟩⟩:Spot).c.state.mem.length<1073741824)(hs:(⟨⟨x_p_w,x_p_wn,x_p_fu,⟨x_p_r0,x_p_r1,x_p_r2,x_p_r3⟩,x_p_ms,x_p_ls,x_p_is⟩,⟨⟨⟨x_c_r0,x_c_r1,x_c_r2,x_c_r3⟩,x_c_mm,x_c_st,x_c_pc⟩,x_c_bf,x_c_rb,x_c_en⟩,x_i,⟨x_e_pc,x_e_vl,x_e_ad,x_e_fr,x_e_nx,x_e_dn,x_e_kn,x_e_ft⟩,⟨x_s_k,x_s_o,x_s_d,⟨x_s_ag,x_s_an⟩,⟨x_s_bg,x_s_bn⟩,x_s_nm,x_s_tg⟩⟩:Spot).c.state.stack.length<1073741824)(hl:(⟨⟨x_p_w,x_p_wn,x_p_fu,⟨x_p_r0,x_p_r1,x_p_r2,x_p_r3⟩,x_p_ms,x_p_ls,x_p_is⟩,⟨⟨⟨x_c_r0,x_c_r1,x_c_r2,x_c_r3⟩,x_c_mm,x_c_st,x_c_pc⟩,x_c_bf,x_c_rb,x_c_en⟩,x_i,⟨x_e_pc,x_e_vl,x_e_ad,x_e_fr,x_e_nx,x_e_dn,x_e_kn,x_e_ft⟩,⟨x_s_k,x_s_o,x_s_d,⟨x_s_ag,x_s_an⟩,⟨x_s_bg,x_s_bn⟩,x_s_nm,x_s_tg⟩⟩:Spot).c.buf.length<1073741824)(hr:(⟨⟨x_p_w,x_p_wn,x_p_fu,⟨x_p_r0,x_p_r1,x_p_r2,x_p_r3⟩,x_p_ms,x_p_ls,x_p_is⟩,⟨⟨⟨x_c_r0,x_c_r1,x_c_r2,x_c_r3⟩,x_c_mm,x_c_st,x_c_pc⟩,x_c_bf,x_c_rb,x_c_en⟩,x_i,⟨x_e_pc,x_e_vl,x_e_ad,x_e_fr,x_e_nx,x_e_dn,x_e_kn,x_e_ft⟩,⟨x_s_k,x_s_o,x_s_d,⟨x_s_ag,x_s_an⟩,⟨x_s_bg,x_s_bn⟩,x_s_nm,x_s_tg⟩⟩:Spot).c.rsb.length<1073741824)(h0:0<=(⟨⟨x_p_w,x_p_wn,x_p_fu,⟨x_p_r0,x_p_r1,x_p_r2,x_p_r3⟩,x_p_ms,x_p_ls,x_p_is⟩,⟨⟨⟨x_c_r0,x_c_r1,x_c_r2,x_c_r3⟩,x_c_mm,x_c_st,x_c_pc⟩,x_c_bf,x_c_rb,x_c_en⟩,x_i,⟨x_e_pc,x_e_vl,x_e_ad,x_e_fr,x_e_nx,x_e_dn,x_e_kn,x_e_ft⟩,⟨x_s_k,x_s_o,x_s_d,⟨x_s_ag,x_s_an⟩,⟨x_s_bg,x_s_bn⟩,x_s_nm,x_s_tg⟩⟩:Spot).i)(h1:(⟨⟨x_p_w,x_p_wn,x_p_fu,⟨x_p_r0,x_p_r1,x_p_r2,x_p_r3⟩,x_p_ms,x_p_ls,x_p_is⟩,⟨⟨⟨x_c_r0,x_c_r1,x_c_r2,x_c_r3⟩,x_c_mm,x_c_st,x_c_pc⟩,x_c_bf,x_c_rb,x_c_en⟩,x_i,⟨x_e_pc,x_e_vl,x_e_ad,x_e_fr,x_e_nx,x_e_dn,x_e_kn,x_e_ft⟩,⟨x_s_k,x_s_o,x_s_d,⟨x_s_ag,x_s_an⟩,⟨x_s_bg,x_s_bn⟩,x_s_nm,x_s_tg⟩⟩:Spot).i<(⟨⟨x_p_w,x_p_wn,x_p_fu,⟨x_p_r0,x_p_r1,x_p_r2,x_p_r3⟩,x_p_ms,x_p_ls,x_p_is⟩,⟨⟨⟨x_c_r0,x_c_r1,x_c_r2,x_c_r3⟩,x_c_mm,x_c_st,x_c_pc⟩,x_c_bf,x_c_rb,x_c_en⟩,x_i,⟨x_e_pc,x_e_vl,x_e_ad,x_e_fr,x_e_nx,x_e_dn,x_e_kn,x_e_ft⟩,⟨x_s_k,x_s_o,x_s_d,⟨x_s_ag,x_s_an⟩,⟨x_s_bg,x_s_bn⟩,x_s_nm,x_s_tg⟩⟩:Spot).c.buf.length)(A:List Blk)(nb:Nat):evOwnK false E (evC E fn (dp+3)) 70 A nb (some ([.agg [vi x_p_w,vi x_p_wn,vi x_p_fu,vi x_p_r0,vi x_p_r1,vi x_p_r2,vi x_p_r3,rowD x_p_ms,rowD x_p_ls,rowD x_p_is,vi x_c_r0,vi x_c_r1,vi x_c_r2,vi x_c_r3,rowD x_c_mm,rowD x_c_st,vi x_c_pc,rowD x_c_bf,rowD x_c_rb,vi x_c_en,vi x_i,vi x_e_pc,vi x_e_vl,vi x_e_ad,vi x_e_fr,vi x_e_nx,vb x_e_dn,vb x_e_kn,vb x_e_ft,vi x_s_k,vi x_s_o,vi x_s_d,vb x_s_ag,vi x_s_an,vb x_s_bg,vi x_s_bn,vt x_s_nm,vi x_s_tg],.agg [vi e_pc,vi e_vl,vi e_ad,vi e_fr,vi e_nx,vb e_dn,vb e_kn,vb e_ft]],[]))=some (.made (.d (confD (Md.put (⟨⟨x_p_w,x_p_wn,x_p_fu,⟨x_p_r0,x_p_r1,x_p_r2,x_p_r3⟩,x_p_ms,x_p_ls,x_p_is⟩,⟨⟨⟨x_c_r0,x_c_r1,x_c_r2,x_c_r3⟩,x_c_mm,x_c_st,x_c_pc⟩,x_c_bf,x_c_rb,x_c_en⟩,x_i,⟨x_e_pc,x_e_vl,x_e_ad,x_e_fr,x_e_nx,x_e_dn,x_e_kn,x_e_ft⟩,⟨x_s_k,x_s_o,x_s_d,⟨x_s_ag,x_s_an⟩,⟨x_s_bg,x_s_bn⟩,x_s_nm,x_s_tg⟩⟩:Spot).c (⟨⟨x_p_w,x_p_wn,x_p_fu,⟨x_p_r0,x_p_r1,x_p_r2,x_p_r3⟩,x_p_ms,x_p_ls,x_p_is⟩,⟨⟨⟨x_c_r0,x_c_r1,x_c_r2,x_c_r3⟩,x_c_mm,x_c_st,x_c_pc⟩,x_c_bf,x_c_rb,x_c_en⟩,x_i,⟨x_e_pc,x_e_vl,x_e_ad,x_e_fr,x_e_nx,x_e_dn,x_e_kn,x_e_ft⟩,⟨x_s_k,x_s_o,x_s_d,⟨x_s_ag,x_s_an⟩,⟨x_s_bg,x_s_bn⟩,x_s_nm,x_s_tg⟩⟩:Spot).i (⟨e_pc,e_vl,e_ad,e_fr,e_nx,e_dn,e_kn,e_ft⟩:Ent)))) []):=
 Says.deep (raw_exec_spot_put S dp (⟨⟨x_p_w,x_p_wn,x_p_fu,⟨x_p_r0,x_p_r1,x_p_r2,x_p_r3⟩,x_p_ms,x_p_ls,x_p_is⟩,⟨⟨⟨x_c_r0,x_c_r1,x_c_r2,x_c_r3⟩,x_c_mm,x_c_st,x_c_pc⟩,x_c_bf,x_c_rb,x_c_en⟩,x_i,⟨x_e_pc,x_e_vl,x_e_ad,x_e_fr,x_e_nx,x_e_dn,x_e_kn,x_e_ft⟩,⟨x_s_k,x_s_o,x_s_d,⟨x_s_ag,x_s_an⟩,⟨x_s_bg,x_s_bn⟩,x_s_nm,x_s_tg⟩⟩:Spot) (⟨e_pc,e_vl,e_ad,e_fr,e_nx,e_dn,e_kn,e_ft⟩:Ent) hm hs hl hr h0 h1) (np S 70 (by decide)) A nb
end
variable {E:Env} {fn:FuncId->Option (Env->CallT->CallT)}
section
variable (S:Sur E fn)
include S
theorem o102_17:E.lives 102 1=none/\E.lives 102 17=none/\E.lives 102 19=none/\E.lives 102 25=none/\E.lives 102 27=none:=⟨off S 102 1 (by decide) rfl,off S 102 17 (by decide) rfl,off S 102 19 (by decide) rfl,off S 102 25 (by decide) rfl,off S 102 27 (by decide) rfl⟩
theorem c_realEnd {l:List Int}(h:l.length<1073741824)(call:CallT)(A:List Blk)(nb:Nat)(us:List Nat):evOwnK true E call 81 A nb (some ([.lst (rowC l) l.length none],us))=some (.made (ownA nb l) (ownB l)):=o_cloneI S h call A nb us
theorem loop_pRealB (dp:Nat)(p:Prog)(l:List Ent)(hl:l.length<1073741824)(kx:Nat->K)
  (hx:∀ T out junk k,getS .bot T 10=.sref 1 0 0 (out:List Int).length 1 k->(out:List Int).length<1073741824->ansOf (kx 0 (mk .bot 52 T) [.cells ((progC p).map .d) 0 false,.cells ((rowC (out++junk)).map .d) 0 false])=some (resR (some out))):
  ∀(m k fuel:Nat) (out junk:List Int),k+m=l.length->m<=fuel->out.length<1073741824->ansOf (B8_retb_Real (inn E 102) (evC E fn (dp+1)) (loopK 8 B8_retb_Real (inn E 102) (evC E fn (dp+1)) kx (kEnd 0 [.tmp 8,.tmp 9]) fuel) kx (kEnd 0 [.tmp 8,.tmp 9])
   (mk .bot 52 [(4,.ref 0 0 0),(10,.sref 1 0 0 out.length 1 none),(17,.d (rowD l)),(18,aint l.length),(19,aint k)]) [.cells ((progC p).map .d) 0 false,.cells ((rowC (out++junk)).map .d) 0 false])=
   some (resR (Md.realGo p (l.drop k) out)):=by
 intro m
 induction m with
 | zero=>
  intro k fuel out junk hk _ ho
  generalize loopK 8 B8_retb_Real _ _ kx _ fuel=KK
  rw[B8_retb_Real,List.drop_of_length_le (by omega)]
  simp only[eG,go_sem,thq S,nbr S,zN0,zN1,zN2,zN3,zN4,zI0,zI1,zI2,zI3,reduceCtorEq,o102_17 S,show ¬(k:Int)<l.length by omega,Md.realGo]
  exact hx _ _ _ none rfl ho
 | succ m ih=>
  intro k fuel out junk hk hf ho
  obtain⟨e,he⟩:=get_of (show k<l.length by omega)
  obtain⟨fuel,rfl⟩:∃ m,fuel=m+1:=⟨fuel-1,by omega⟩
  generalize hK:loopK 8 B8_retb_Real _ _ kx _ (fuel+1)=KK
  rw[B8_retb_Real,drop_get he,Md.realGo]
  have h2:(k:Int)<l.length:=by omega
  by_cases k8:(Md.at_ p e.pc).kind=8
  ·by_cases h4 : 4 <= out.length
   ·simp only[eG,go_sem,thq S,nbr S,zN0,zN1,zN2,zN3,zN4,zI0,zI1,zI2,zI3,reduceCtorEq,o102_17 S,w_ix he,c_seqm_At S,wi k (by omega),h2,ge_iff_le,k8,h4,show(4:Int)<=out.length by omega,resR]
   ·have l1 : (out.length + 1) * 8 <= limA := by unfold limA; omega
    have l2:out.length+1<=limA:=by unfold limA;omega
    cases junk with
    | nil=>
     simp only[List.append_nil]
     simp only[eG,go_sem,thq S,nbr S,zN0,zN1,zN2,zN3,zN4,zI0,zI1,zI2,zI3,reduceCtorEq,o102_17 S,w_ix he,c_seqm_At S,wi k (by omega),h2,ge_iff_le,k8,h4,show ¬(4:Int)<=out.length by omega,rep1',app_endI,l1,l2]
     rw[<-hK,loop_in (on S _ _ [4,10,17,18,19] (by decide) rfl) rfl _ _ _ _ _ _ _ _ _ rfl]
     simp only[eG,go_sem,thq S,nbr S,zN0,zN1,zN2,zN3,zN4,zI0,zI1,zI2,zI3,reduceCtorEq,o102_17 S,w_ix he,c_seqm_At S,wi k (by omega),h2,ge_iff_le]
     have e1:out.length+1=(out++[Md.w64 (e.pc+1)]).length:=by simp
     have:=ih (k+1) fuel (out++[Md.w64 (e.pc+1)]) [] (by omega) (by omega) (by simp;omega)
     rw[<-e1,List.append_nil] at this
     exact this
    | cons y junk=>
     simp only[eG,go_sem,thq S,nbr S,zN0,zN1,zN2,zN3,zN4,zI0,zI1,zI2,zI3,reduceCtorEq,o102_17 S,w_ix he,c_seqm_At S,wi k (by omega),h2,ge_iff_le,k8,h4,show ¬(4:Int)<=out.length by omega,rep1',app_inI (y:=y) (junk:=junk),l1,l2]
     rw[<-hK,loop_in (on S _ _ [4,10,17,18,19] (by decide) rfl) rfl _ _ _ _ _ _ _ _ _ rfl]
     simp only[eG,go_sem,thq S,nbr S,zN0,zN1,zN2,zN3,zN4,zI0,zI1,zI2,zI3,reduceCtorEq,o102_17 S,w_ix he,c_seqm_At S,wi k (by omega),h2,ge_iff_le]
     have e1:out.length+1=(out++[Md.w64 (e.pc+1)]).length:=by simp
     have:=ih (k+1) fuel (out++[Md.w64 (e.pc+1)]) junk (by omega) (by omega) (by simp;omega)
     rw[<-e1,List.append_assoc] at this
     exact this
  ·by_cases k9 : (Md.at_ p e.pc).kind = 9
   ·cases hr : out.reverse with
    | nil=>
     have:out=[]:=List.reverse_eq_nil_iff.1 hr
     subst this
     simp only[eG,go_sem,thq S,nbr S,zN0,zN1,zN2,zN3,zN4,zI0,zI1,zI2,zI3,reduceCtorEq,o102_17 S,w_ix he,c_seqm_At S,wi k (by omega),h2,ge_iff_le,k8,k9,List.length_nil,resR,zI0,Int.natCast_eq_zero]
    | cons y r=>
     have e0:out=r.reverse++[y]:=by rw[<-List.reverse_reverse out,hr,List.reverse_cons]
     subst e0
     have e1:(r.reverse++[y]).dropLast=r.reverse:=List.dropLast_concat
     have e2:(r.reverse++[y]).length=r.reverse.length+1:=by simp
     have w1:IntKind.i64.wrap (((r.reverse.length+1:Nat):Int)-1)=(r.reverse.length:Int):=by rw[e2] at ho;rw[wrap_i64 (by omega) (by omega)];omega
     have bd:=bndsV_hi (r.reverse.length+1) .i64 (r.reverse.length:Int) (by omega) (by omega)
     rw[e2,e1]
     simp only[eG,go_sem,thq S,nbr S,zN0,zN1,zN2,zN3,zN4,zI0,zI1,zI2,zI3,reduceCtorEq,o102_17 S,w_ix he,c_seqm_At S,wi k (by omega),h2,ge_iff_le,k8,k9,w1,bd,Int.toNat_natCast,Nat.succ_ne_zero,Int.natCast_eq_zero,ne_eq,not_true_eq_false,and_false,Nat.zero_mul,Nat.sub_zero,Nat.add_zero,Nat.zero_add]
     rw[<-hK,loop_in (on S _ _ [4,10,17,18,19] (by decide) rfl) rfl _ _ _ _ _ _ _ _ _ rfl]
     simp only[eG,go_sem,thq S,nbr S,zN0,zN1,zN2,zN3,zN4,zI0,zI1,zI2,zI3,reduceCtorEq,o102_17 S,w_ix he,c_seqm_At S,wi k (by omega),h2,ge_iff_le]
     have:=ih (k+1) fuel r.reverse ([y]++junk) (by omega) (by omega) (by omega)
     rw[<-List.append_assoc] at this
     exact this
   ·simp only [eG, go_sem, thq S, nbr S, zN0, zN1, zN2, zN3, zN4, zI0, zI1, zI2, zI3, reduceCtorEq, o102_17 S, w_ix he, c_seqm_At S, wi k (by omega), h2, ge_iff_le, k8, k9]
    rw[<-hK,loop_in (on S _ _ [4,10,17,18,19] (by decide) rfl) rfl _ _ _ _ _ _ _ _ _ rfl]
    simp only[eG,go_sem,thq S,nbr S,zN0,zN1,zN2,zN3,zN4,zI0,zI1,zI2,zI3,reduceCtorEq,o102_17 S,w_ix he,c_seqm_At S,wi k (by omega),h2,ge_iff_le]
    exact ih (k+1) fuel out junk (by omega) (by omega) ho
theorem loop_pRealA (dp:Nat)(p:Prog)(l:List Ent)(hl:l.length<1073741824)(kx:Nat->K)
  (hx:∀ T out junk k,getS .bot T 10=.sref 1 0 0 (out:List Int).length 1 k->(out:List Int).length<1073741824->ansOf (kx 0 (mk .bot 52 T) [.cells ((progC p).map .d) 0 false,.cells ((rowC (out++junk)).map .d) 0 false])=some (resR (some out)))
  (hx0:∀ T,getS .bot T 10=.d (.lst [] 0 (some 0))->ansOf (kx 0 (mk .bot 52 T) [.cells ((progC p).map .d) 0 false])=some (resR (some []))):
  ∀(m k fuel:Nat),k+m=l.length->m<=fuel->ansOf (B8_retb_Real (inn E 102) (evC E fn (dp+1)) (loopK 8 B8_retb_Real (inn E 102) (evC E fn (dp+1)) kx (kEnd 0 [.tmp 8,.tmp 9]) fuel) kx (kEnd 0 [.tmp 8,.tmp 9])
   (mk .bot 52 [(4,.ref 0 0 0),(10,.d (.lst [] 0 (some 0))),(17,.d (rowD l)),(18,aint l.length),(19,aint k)]) [.cells ((progC p).map .d) 0 false])=
   some (resR (Md.realGo p (l.drop k) [])):=by
 intro m
 induction m with
 | zero=>
  intro k fuel hk _
  generalize loopK 8 B8_retb_Real _ _ kx _ fuel=KK
  rw[B8_retb_Real,List.drop_of_length_le (by omega)]
  simp only[eG,go_sem,thq S,nbr S,zN0,zN1,zN2,zN3,zN4,zI0,zI1,zI2,zI3,reduceCtorEq,o102_17 S,show ¬(k:Int)<l.length by omega,Md.realGo]
  exact hx0 _ rfl
 | succ m ih=>
  intro k fuel hk hf
  obtain⟨e,he⟩:=get_of (show k<l.length by omega)
  obtain⟨fuel,rfl⟩:∃ m,fuel=m+1:=⟨fuel-1,by omega⟩
  generalize hK:loopK 8 B8_retb_Real _ _ kx _ (fuel+1)=KK
  rw[B8_retb_Real,drop_get he,Md.realGo]
  have h2:(k:Int)<l.length:=by omega
  by_cases k8:(Md.at_ p e.pc).kind=8
  ·simp only [eG, go_sem, thq S, nbr S, zN0, zN1, zN2, zN3, zN4, zI0, zI1, zI2, zI3, reduceCtorEq, o102_17 S, w_ix he, c_seqm_At S, wi k (by omega), h2, ge_iff_le, k8, List.length_nil, show ¬ (4 : Int) <= (0 : Nat) by omega, rep1', Nat.zero_add, Nat.zero_mul, Nat.lt_add_one, true_and, show (1 : Nat) * 8 <= limA by decide, show (1 : Nat) <= limA by decide, and_self]
   rw[<-hK,loop_in (on S _ _ [4,10,17,18,19] (by decide) rfl) rfl _ _ _ _ _ _ _ _ _ rfl]
   simp only[eG,go_sem,thq S,nbr S,zN0,zN1,zN2,zN3,zN4,zI0,zI1,zI2,zI3,reduceCtorEq,o102_17 S,w_ix he,c_seqm_At S,wi k (by omega),h2,ge_iff_le]
   exact loop_pRealB S dp p l hl kx hx m (k+1) fuel [Md.w64 (e.pc+1)] [] (by omega) (by omega) (by simp)
  ·by_cases k9 : (Md.at_ p e.pc).kind = 9
   ·simp only[eG,go_sem,thq S,nbr S,zN0,zN1,zN2,zN3,zN4,zI0,zI1,zI2,zI3,reduceCtorEq,o102_17 S,w_ix he,c_seqm_At S,wi k (by omega),h2,ge_iff_le,k8,k9,List.length_nil,resR,zI0,Int.natCast_eq_zero]
   ·simp only [eG, go_sem, thq S, nbr S, zN0, zN1, zN2, zN3, zN4, zI0, zI1, zI2, zI3, reduceCtorEq, o102_17 S, w_ix he, c_seqm_At S, wi k (by omega), h2, ge_iff_le, k8, k9]
    rw[<-hK,loop_in (on S _ _ [4,10,17,18,19] (by decide) rfl) rfl _ _ _ _ _ _ _ _ _ rfl]
    simp only[eG,go_sem,thq S,nbr S,zN0,zN1,zN2,zN3,zN4,zI0,zI1,zI2,zI3,reduceCtorEq,o102_17 S,w_ix he,c_seqm_At S,wi k (by omega),h2,ge_iff_le]
    exact ih (k+1) fuel (by omega) (by omega)
end
theorem ans_own' {i:Nat}{out:List Int}{k:Option Nat}{A:List Blk}{b:Bool}(hA:A[i]? =some (.cells ((rowC out).map .d) 0 false)):
  ansOf (endN 0 (some (.tup [.sref i 0 0 out.length 1 k,abool b],A)))=some (.tup [rowD out,vb b]):=ans_own (junk:=[]) (by rw[List.append_nil];exact hA)
variable {E:Env} {fn:FuncId->Option (Env->CallT->CallT)}
section
variable (S:Sur E fn)
include S
theorem o102_18:E.lives 102 1=none/\E.lives 102 17=none/\E.lives 102 19=none/\E.lives 102 25=none/\E.lives 102 27=none:=⟨off S 102 1 (by decide) rfl,off S 102 17 (by decide) rfl,off S 102 19 (by decide) rfl,off S 102 25 (by decide) rfl,off S 102 27 (by decide) rfl⟩
theorem o66_18:E.lives 66 13=none:=off S 66 13 (by decide) rfl
theorem o68_18:E.lives 68 11=none:=off S 68 11 (by decide) rfl
theorem c_clone0 (call:CallT)(A:List Blk)(nb:Nat)(us:List Nat):evOwnK true E call 81 A nb (some ([.lst [] 0 none],us))=some (.made (.d (.lst [] 0 (some 0))) []):=o_cloneI S (l:=[]) (by decide) call A nb us
theorem raw_retb_Real (dp:Nat)(p:Prog)(sk:List Int)(l:List Ent)(i:Int)(hl:l.length<1073741824)(hs:sk.length<1073741824):Says E fn (dp+3) 102 [progD p,rowD sk,rowD l,vi i] (.tup [rowD (getO (Md.real p sk l i)),vb (boolO (Md.real p sk l i))]):=by
 unfold Says
 show ansOf (evC E fn (dp+2+1) 102 [.d (progD p),.d (rowD sk),.d (rowD l),.d (vi i)] [])=_
 rw[evC_succ,S.f_retb_Real,apF_some,F_retb_Real,mkF_run _ _ _ _ _ _ _ _ rfl]
 have hcl:=cut_len l i
 have fin:∀ X:Option (List Int),DV.tup [rowD (getO X),vb (boolO X)]=resR X:=fun X=>by cases X<;>rfl
 rw[fin]
 have h0x:∀ T,getS .bot T 10=.d (.lst [] 0 (some 0))->ansOf (blockK 0 (cQ (cOz [st 50 (oV (.t 10)),st 51 (oCall (.f 81) [(.t 50)]),st 8 (oV (.t 51)),st 9 (oV (.c (.v (.bool true))))]) cRet (inn E 102) (evC E fn (dp+2)) (kEnd 0 [.tmp 8,.tmp 9]) (fun _ _ _=>none) (kEnd 0 [.tmp 8,.tmp 9])) (fun _ _ _=>none) 0 (mk .bot 52 T) [.cells ((progC p).map .d) 0 false])=some (resR (some [])):=by
  intro T h
  simp only[eG,go_sem,thq S,nbr S,zN0,zN1,zN2,zN3,zN4,zI0,zI1,zI2,zI3,reduceCtorEq,o102_18 S,h,c_clone0 S,resR]
 have hx:∀ T out junk k,getS .bot T 10=.sref 1 0 0 (out:List Int).length 1 k->(out:List Int).length<1073741824->ansOf (blockK 0 (cQ (cOz [st 50 (oV (.t 10)),st 51 (oCall (.f 81) [(.t 50)]),st 8 (oV (.t 51)),st 9 (oV (.c (.v (.bool true))))]) cRet (inn E 102) (evC E fn (dp+2)) (kEnd 0 [.tmp 8,.tmp 9]) (fun _ _ _=>none) (kEnd 0 [.tmp 8,.tmp 9])) (fun _ _ _=>none) 0 (mk .bot 52 T) [.cells ((progC p).map .d) 0 false,.cells ((rowC (out++junk)).map .d) 0 false])=some (resR (some out)):=by
  intro T out junk k h ho
  by_cases hz:out.length=0
  ·have : out = [] := List.length_eq_zero_iff.1 hz
   subst this
   simp only[eG,go_sem,thq S,nbr S,zN0,zN1,zN2,zN3,zN4,zI0,zI1,zI2,zI3,reduceCtorEq,o102_18 S,h,c_clone0 S,resR]
  ·have hne : out ≠ [] := fun h => hz (by rw [h]; rfl)
   have hd:=deep_junk (i:=1) (A:=[.cells ((progC p).map .d) 0 false,.cells ((rowC (out++junk)).map .d) 0 false]) hne rfl 6 1 k rfl
   simp only[progC,List.map_cons,List.map_nil] at hd
   simp only[go_sem,thq S,nbr S,zN0,zN1,zN2,zN3,zN4,zI0,zI1,zI2,zI3,reduceCtorEq,o102_18 S,h,hd,c_realEnd S ho,ownA_ne hz,ownB_ne hz]
   exact ans_own' rfl
 by_cases h0:sk.length=0
 ·have : sk = [] := List.length_eq_zero_iff.1 h0
  subst this
  simp only[eG,go_sem,thq S,nbr S,zN0,zN1,zN2,zN3,zN4,zI0,zI1,zI2,zI3,reduceCtorEq,o102_18 S,c_clone0 S,c_robq_Cut S,hl]
  rw[big_eq,loop_in (on S _ _ [4,10,17,18,19] (by decide) rfl) rfl _ _ _ _ _ _ _ _ _ rfl]
  simp only[eG,go_sem,thq S,nbr S,zN0,zN1,zN2,zN3,zN4,zI0,zI1,zI2,zI3,reduceCtorEq,o102_18 S]
  exact loop_pRealA S (dp+1) p (Md.cut l i) (by omega) _ hx h0x (Md.cut l i).length 0 _ (by omega) (by omega)
 ·simp only [eG, go_sem, thq S, nbr S, zN0, zN1, zN2, zN3, zN4, zI0, zI1, zI2, zI3, reduceCtorEq, o102_18 S, o_cloneI S hs, ownA_ne h0, ownB_ne h0, c_robq_Cut S, hl]
  rw[big_eq,loop_in (on S _ _ [4,10,17,18,19] (by decide) rfl) rfl _ _ _ _ _ _ _ _ _ rfl]
  simp only[eG,go_sem,thq S,nbr S,zN0,zN1,zN2,zN3,zN4,zI0,zI1,zI2,zI3,reduceCtorEq,o102_18 S]
  have:=loop_pRealB S (dp+1) p (Md.cut l i) (by omega) _ hx (Md.cut l i).length 0 999999999999999999999999999999 sk [] (by omega) (by omega) hs
  rw[List.append_nil] at this
  exact this
theorem c_retb_Real (dp:Nat)(p_w p_wn p_fu p_r0 p_r1 p_r2 p_r3:Int)(p_ms:List MemT)(p_ls:List Label)(p_is:List Ins)(sk:List Int)(l:List Ent)(i:Int)(hl:l.length<1073741824)(hs:sk.length<1073741824)(A:List Blk)(nb:Nat):evOwnK false E (evC E fn (dp+3)) 102 A nb (some ([.agg [vi p_w,vi p_wn,vi p_fu,vi p_r0,vi p_r1,vi p_r2,vi p_r3,rowD p_ms,rowD p_ls,rowD p_is],rowD sk,rowD l,vi i],[]))=some (.made (.d (.tup [rowD (getO (Md.real (⟨p_w,p_wn,p_fu,⟨p_r0,p_r1,p_r2,p_r3⟩,p_ms,p_ls,p_is⟩:Prog) sk l i)),vb (boolO (Md.real (⟨p_w,p_wn,p_fu,⟨p_r0,p_r1,p_r2,p_r3⟩,p_ms,p_ls,p_is⟩:Prog) sk l i))])) []):=
 Says.deep (raw_retb_Real S dp (⟨p_w,p_wn,p_fu,⟨p_r0,p_r1,p_r2,p_r3⟩,p_ms,p_ls,p_is⟩:Prog) sk l i hl hs) (np S 102 (by decide)) A nb
theorem raw_exec_spot_goes (dp:Nat)(x:Spot)(to:Int)(hm:x.c.state.mem.length<1073741824)(hs:x.c.state.stack.length<1073741824)(hl:x.c.buf.length<1073741824)(hr:x.c.rsb.length<1073741824)(h0:0<=x.i)(h1:x.i<x.c.buf.length):Says E fn (dp+4) 66 [spotD x,vi to] (.tup [confD (Md.goesM x.c x.i x.e to).1,rowD (Md.goesM x.c x.i x.e to).2,vb true]):=by
 unfold Says
 show ansOf (evC E fn (dp+3+1) 66 [.d (spotD x),.d (vi to)] [])=_
 rw[evC_succ,S.f_exec_spot_goes,apF_some,F_exec_spot_goes,mkF_run _ _ _ _ _ _ _ _ rfl]
 have w1:IntKind.i64.wrap (x.i+1)=x.i+1:=wrap_i64 (by omega) (by omega)
 have t1:(x.i+1).toNat=x.i.toNat+1:=by omega
 by_cases he:to=x.e.next
 ·simp only [eG, go_sem, thq S, nbr S, zN0, zN1, zN2, zN3, zN4, zI0, zI1, zI2, zI3, reduceCtorEq, o66_18 S, eq_true he, Bool.not_true, c_exec_spot_put S, hm, hs, hl, hr, h0, h1, rep1', deep_sr, Nat.succ_ne_zero, Nat.one_ne_zero, Nat.one_mul, Nat.le_refl, Md.goesM, eq_true he.symm, Md.put]
  rfl
 ·have he' : ¬ x.e.next = to := fun h => he h.symm
  simp only[eG,go_sem,thq S,nbr S,zN0,zN1,zN2,zN3,zN4,zI0,zI1,zI2,zI3,reduceCtorEq,o66_18 S,eq_false he,Bool.not_false,c_exec_spot_put S,hm,hs,hl,hr,h0,h1,rep1',deep_sr,Nat.succ_ne_zero,Nat.one_ne_zero,Nat.one_mul,Nat.le_refl,Md.goesM,eq_false he',Md.put,c_robq_Cut S,List.length_set,w1,Md.cut,t1]
  rfl
theorem c_exec_spot_goes (dp:Nat)(x_p_w x_p_wn x_p_fu x_p_r0 x_p_r1 x_p_r2 x_p_r3:Int)(x_p_ms:List MemT)(x_p_ls:List Label)(x_p_is:List Ins)(x_c_r0 x_c_r1 x_c_r2 x_c_r3:Int)(x_c_mm x_c_st:List Int)(x_c_pc:Int)(x_c_bf:List Ent)(x_c_rb:List Int)(x_c_en x_i x_e_pc x_e_vl x_e_ad x_e_fr x_e_nx:Int)(x_e_dn x_e_kn x_e_ft:Bool)(x_s_k x_s_o x_s_d:Int)(x_s_ag:Bool)(x_s_an:Int)(x_s_bg:Bool)(x_s_bn:Int)(x_s_nm:ByteArray)(x_s_tg to:Int)(hm:(⟨⟨x_p_w,x_p_wn,x_p_fu,⟨x_p_r0,x_p_r1,x_p_r2,x_p_r3⟩,x_p_ms,x_p_ls,x_p_is⟩,⟨⟨⟨x_c_r0,x_c_r1,x_c_r2,x_c_r3⟩,x_c_mm,x_c_st,x_c_pc⟩,x_c_bf,x_c_rb,x_c_en⟩,x_i,⟨x_e_pc,x_e_vl,x_e_ad,x_e_fr,x_e_nx,x_e_dn,x_e_kn,x_e_ft⟩,⟨x_s_k,x_s_o,x_s_d,⟨x_s_ag,x_s_an⟩,⟨x_s_bg,x_s_bn⟩,x_s_nm,x_s_tg⟩⟩:Spot).c.state.mem.length<1073741824)(hs:(⟨⟨x_p_w,x_p_wn,x_p_fu,⟨x_p_r0,x_p_r1,x_p_r2,x_p_r3⟩,x_p_ms,x_p_ls,x_p_is⟩,⟨⟨⟨x_c_r0,x_c_r1,x_c_r2,x_c_r3⟩,x_c_mm,x_c_st,x_c_pc⟩,x_c_bf,x_c_rb,x_c_en⟩,x_i,⟨x_e_pc,x_e_vl,x_e_ad,x_e_fr,x_e_nx,x_e_dn,x_e_kn,x_e_ft⟩,⟨x_s_k,x_s_o,x_s_d,⟨x_s_ag,x_s_an⟩,⟨x_s_bg,x_s_bn⟩,x_s_nm,x_s_tg⟩⟩:Spot).c.state.stack.length<1073741824)(hl:(⟨⟨x_p_w,x_p_wn,x_p_fu,⟨x_p_r0,x_p_r1,x_p_r2,x_p_r3⟩,x_p_ms,x_p_ls,x_p_is⟩,⟨⟨⟨x_c_r0,x_c_r1,x_c_r2,x_c_r3⟩,x_c_mm,x_c_st,x_c_pc⟩,x_c_bf,x_c_rb,x_c_en⟩,x_i,⟨x_e_pc,x_e_vl,x_e_ad,x_e_fr,x_e_nx,x_e_dn,x_e_kn,x_e_ft⟩,⟨x_s_k,x_s_o,x_s_d,⟨x_s_ag,x_s_an⟩,⟨x_s_bg,x_s_bn⟩,x_s_nm,x_s_tg⟩⟩:Spot).c.buf.length<1073741824)(hr:(⟨⟨x_p_w,x_p_wn,x_p_fu,⟨x_p_r0,x_p_r1,x_p_r2,x_p_r3⟩,x_p_ms,x_p_ls,x_p_is⟩,⟨⟨⟨x_c_r0,x_c_r1,x_c_r2,x_c_r3⟩,x_c_mm,x_c_st,x_c_pc⟩,x_c_bf,x_c_rb,x_c_en⟩,x_i,⟨x_e_pc,x_e_vl,x_e_ad,x_e_fr,x_e_nx,x_e_dn,x_e_kn,x_e_ft⟩,⟨x_s_k,x_s_o,x_s_d,⟨x_s_ag,x_s_an⟩,⟨x_s_bg,x_s_bn⟩,x_s_nm,x_s_tg⟩⟩:Spot).c.rsb.length<1073741824)(h0:0<=(⟨⟨x_p_w,x_p_wn,x_p_fu,⟨x_p_r0,x_p_r1,x_p_r2,x_p_r3⟩,x_p_ms,x_p_ls,x_p_is⟩,⟨⟨⟨x_c_r0,x_c_r1,x_c_r2,x_c_r3⟩,x_c_mm,x_c_st,x_c_pc⟩,x_c_bf,x_c_rb,x_c_en⟩,x_i,⟨x_e_pc,x_e_vl,x_e_ad,x_e_fr,x_e_nx,x_e_dn,x_e_kn,x_e_ft⟩,⟨x_s_k,x_s_o,x_s_d,⟨x_s_ag,x_s_an⟩,⟨x_s_bg,x_s_bn⟩,x_s_nm,x_s_tg⟩⟩:Spot).i)(h1:(⟨⟨x_p_w,x_p_wn,x_p_fu,⟨x_p_r0,x_p_r1,x_p_r2,x_p_r3⟩,x_p_ms,x_p_ls,x_p_is⟩,⟨⟨⟨x_c_r0,x_c_r1,x_c_r2,x_c_r3⟩,x_c_mm,x_c_st,x_c_pc⟩,x_c_bf,x_c_rb,x_c_en⟩,x_i,⟨x_e_pc,x_e_vl,x_e_ad,x_e_fr,x_e_nx,x_e_dn,x_e_kn,x_e_ft⟩,⟨x_s_k,x_s_o,x_s_d,⟨x_s_ag,x_s_an⟩,⟨x_s_bg,x_s_bn⟩,x_s_nm,x_s_tg⟩⟩:Spot).i<(⟨⟨x_p_w,x_p_wn,x_p_fu,⟨x_p_r0,x_p_r1,x_p_r2,x_p_r3⟩,x_p_ms,x_p_ls,x_p_is⟩,⟨⟨⟨x_c_r0,x_c_r1,x_c_r2,x_c_r3⟩,x_c_mm,x_c_st,x_c_pc⟩,x_c_bf,x_c_rb,x_c_en⟩,x_i,⟨x_e_pc,x_e_vl,x_e_ad,x_e_fr,x_e_nx,x_e_dn,x_e_kn,x_e_ft⟩,⟨x_s_k,x_s_o,x_s_d,⟨x_s_ag,x_s_an⟩,⟨x_s_bg,x_s_bn⟩,x_s_nm,x_s_tg⟩⟩:Spot).c.buf.length)(A:List Blk)(nb:Nat):evOwnK false E (evC E fn (dp+4)) 66 A nb (some ([.agg [vi x_p_w,vi x_p_wn,vi x_p_fu,vi x_p_r0,vi x_p_r1,vi x_p_r2,vi x_p_r3,rowD x_p_ms,rowD x_p_ls,rowD x_p_is,vi x_c_r0,vi x_c_r1,vi x_c_r2,vi x_c_r3,rowD x_c_mm,rowD x_c_st,vi x_c_pc,rowD x_c_bf,rowD x_c_rb,vi x_c_en,vi x_i,vi x_e_pc,vi x_e_vl,vi x_e_ad,vi x_e_fr,vi x_e_nx,vb x_e_dn,vb x_e_kn,vb x_e_ft,vi x_s_k,vi x_s_o,vi x_s_d,vb x_s_ag,vi x_s_an,vb x_s_bg,vi x_s_bn,vt x_s_nm,vi x_s_tg],vi to],[]))=some (.made (.d (.tup [confD (Md.goesM (⟨⟨x_p_w,x_p_wn,x_p_fu,⟨x_p_r0,x_p_r1,x_p_r2,x_p_r3⟩,x_p_ms,x_p_ls,x_p_is⟩,⟨⟨⟨x_c_r0,x_c_r1,x_c_r2,x_c_r3⟩,x_c_mm,x_c_st,x_c_pc⟩,x_c_bf,x_c_rb,x_c_en⟩,x_i,⟨x_e_pc,x_e_vl,x_e_ad,x_e_fr,x_e_nx,x_e_dn,x_e_kn,x_e_ft⟩,⟨x_s_k,x_s_o,x_s_d,⟨x_s_ag,x_s_an⟩,⟨x_s_bg,x_s_bn⟩,x_s_nm,x_s_tg⟩⟩:Spot).c (⟨⟨x_p_w,x_p_wn,x_p_fu,⟨x_p_r0,x_p_r1,x_p_r2,x_p_r3⟩,x_p_ms,x_p_ls,x_p_is⟩,⟨⟨⟨x_c_r0,x_c_r1,x_c_r2,x_c_r3⟩,x_c_mm,x_c_st,x_c_pc⟩,x_c_bf,x_c_rb,x_c_en⟩,x_i,⟨x_e_pc,x_e_vl,x_e_ad,x_e_fr,x_e_nx,x_e_dn,x_e_kn,x_e_ft⟩,⟨x_s_k,x_s_o,x_s_d,⟨x_s_ag,x_s_an⟩,⟨x_s_bg,x_s_bn⟩,x_s_nm,x_s_tg⟩⟩:Spot).i (⟨⟨x_p_w,x_p_wn,x_p_fu,⟨x_p_r0,x_p_r1,x_p_r2,x_p_r3⟩,x_p_ms,x_p_ls,x_p_is⟩,⟨⟨⟨x_c_r0,x_c_r1,x_c_r2,x_c_r3⟩,x_c_mm,x_c_st,x_c_pc⟩,x_c_bf,x_c_rb,x_c_en⟩,x_i,⟨x_e_pc,x_e_vl,x_e_ad,x_e_fr,x_e_nx,x_e_dn,x_e_kn,x_e_ft⟩,⟨x_s_k,x_s_o,x_s_d,⟨x_s_ag,x_s_an⟩,⟨x_s_bg,x_s_bn⟩,x_s_nm,x_s_tg⟩⟩:Spot).e to).1,rowD (Md.goesM (⟨⟨x_p_w,x_p_wn,x_p_fu,⟨x_p_r0,x_p_r1,x_p_r2,x_p_r3⟩,x_p_ms,x_p_ls,x_p_is⟩,⟨⟨⟨x_c_r0,x_c_r1,x_c_r2,x_c_r3⟩,x_c_mm,x_c_st,x_c_pc⟩,x_c_bf,x_c_rb,x_c_en⟩,x_i,⟨x_e_pc,x_e_vl,x_e_ad,x_e_fr,x_e_nx,x_e_dn,x_e_kn,x_e_ft⟩,⟨x_s_k,x_s_o,x_s_d,⟨x_s_ag,x_s_an⟩,⟨x_s_bg,x_s_bn⟩,x_s_nm,x_s_tg⟩⟩:Spot).c (⟨⟨x_p_w,x_p_wn,x_p_fu,⟨x_p_r0,x_p_r1,x_p_r2,x_p_r3⟩,x_p_ms,x_p_ls,x_p_is⟩,⟨⟨⟨x_c_r0,x_c_r1,x_c_r2,x_c_r3⟩,x_c_mm,x_c_st,x_c_pc⟩,x_c_bf,x_c_rb,x_c_en⟩,x_i,⟨x_e_pc,x_e_vl,x_e_ad,x_e_fr,x_e_nx,x_e_dn,x_e_kn,x_e_ft⟩,⟨x_s_k,x_s_o,x_s_d,⟨x_s_ag,x_s_an⟩,⟨x_s_bg,x_s_bn⟩,x_s_nm,x_s_tg⟩⟩:Spot).i (⟨⟨x_p_w,x_p_wn,x_p_fu,⟨x_p_r0,x_p_r1,x_p_r2,x_p_r3⟩,x_p_ms,x_p_ls,x_p_is⟩,⟨⟨⟨x_c_r0,x_c_r1,x_c_r2,x_c_r3⟩,x_c_mm,x_c_st,x_c_pc⟩,x_c_bf,x_c_rb,x_c_en⟩,x_i,⟨x_e_pc,x_e_vl,x_e_ad,x_e_fr,x_e_nx,x_e_dn,x_e_kn,x_e_ft⟩,⟨x_s_k,x_s_o,x_s_d,⟨x_s_ag,x_s_an⟩,⟨x_s_bg,x_s_bn⟩,x_s_nm,x_s_tg⟩⟩:Spot).e to).2,vb true])) []):=
 Says.deep (raw_exec_spot_goes S dp (⟨⟨x_p_w,x_p_wn,x_p_fu,⟨x_p_r0,x_p_r1,x_p_r2,x_p_r3⟩,x_p_ms,x_p_ls,x_p_is⟩,⟨⟨⟨x_c_r0,x_c_r1,x_c_r2,x_c_r3⟩,x_c_mm,x_c_st,x_c_pc⟩,x_c_bf,x_c_rb,x_c_en⟩,x_i,⟨x_e_pc,x_e_vl,x_e_ad,x_e_fr,x_e_nx,x_e_dn,x_e_kn,x_e_ft⟩,⟨x_s_k,x_s_o,x_s_d,⟨x_s_ag,x_s_an⟩,⟨x_s_bg,x_s_bn⟩,x_s_nm,x_s_tg⟩⟩:Spot) to hm hs hl hr h0 h1) (np S 66 (by decide)) A nb
theorem raw_exec_spot_back (dp:Nat)(x:Spot)(hm:x.c.state.mem.length<1073741824)(hs:x.c.state.stack.length<1073741824)(hl:x.c.buf.length<1073741824)(hr:x.c.rsb.length<1073741824)(h0:0<=x.i)(h1:x.i<x.c.buf.length)(hg:(getO (Md.real x.p x.c.state.stack x.c.buf x.i)).length<1073741824):Says E fn (dp+5) 68 [spotD x] (.tup [confD (Md.doK (cellsI x.p.mems) x.p x.c x.i x.e ⟨9,0,0,⟨false,0⟩,⟨false,0⟩,⟨#[]⟩,0⟩ 0 0 0).1,rowD (Md.doK (cellsI x.p.mems) x.p x.c x.i x.e ⟨9,0,0,⟨false,0⟩,⟨false,0⟩,⟨#[]⟩,0⟩ 0 0 0).2,vb true]):=by
 unfold Says
 show ansOf (evC E fn (dp+4+1) 68 [.d (spotD x)] [])=_
 rw[evC_succ,S.f_exec_spot_back,apF_some,F_exec_spot_back,mkF_run _ _ _ _ _ _ _ _ rfl]
 cases hreal:Md.real x.p x.c.state.stack x.c.buf x.i with
 | none=>simp only[eG,go_sem,thq S,nbr S,zN0,zN1,zN2,zN3,zN4,zI0,zI1,zI2,zI3,reduceCtorEq,o68_18 S,c_retb_Real S,c_retb_Pop S,c_exec_spot_put S,c_exec_spot_goes S,hm,hs,hl,hr,h0,h1,Md.doK,zI0,if_true,if_false,hreal,show boolO (none:Option (List Int))=false from rfl,Bool.not_false,Bool.not_true,show(getO none).length=0 from rfl,show(0:Nat)<1073741824 by decide]
 | some r=>
  rw[hreal] at hg
  have hg':r.length<1073741824:=hg
  by_cases hz:r.length=0
  ·simp only[eG,go_sem,thq S,nbr S,zN0,zN1,zN2,zN3,zN4,zI0,zI1,zI2,zI3,reduceCtorEq,o68_18 S,c_retb_Real S,c_retb_Pop S,c_exec_spot_put S,c_exec_spot_goes S,hm,hs,hl,hr,h0,h1,Md.doK,zI0,if_true,if_false,hreal,getO,boolO,Bool.not_false,Bool.not_true,hg',ne_eq,eq_true hz,not_true_eq_false]
  ·simp only[eG,go_sem,thq S,nbr S,zN0,zN1,zN2,zN3,zN4,zI0,zI1,zI2,zI3,reduceCtorEq,o68_18 S,c_retb_Real S,c_retb_Pop S,c_exec_spot_put S,c_exec_spot_goes S,hm,hs,hl,hr,h0,h1,Md.doK,zI0,if_true,if_false,hreal,getO,boolO,Bool.not_false,Bool.not_true,hg',ne_eq,eq_false hz,not_false_eq_true]
theorem c_exec_spot_back (dp:Nat)(x_p_w x_p_wn x_p_fu x_p_r0 x_p_r1 x_p_r2 x_p_r3:Int)(x_p_ms:List MemT)(x_p_ls:List Label)(x_p_is:List Ins)(x_c_r0 x_c_r1 x_c_r2 x_c_r3:Int)(x_c_mm x_c_st:List Int)(x_c_pc:Int)(x_c_bf:List Ent)(x_c_rb:List Int)(x_c_en x_i x_e_pc x_e_vl x_e_ad x_e_fr x_e_nx:Int)(x_e_dn x_e_kn x_e_ft:Bool)(x_s_k x_s_o x_s_d:Int)(x_s_ag:Bool)(x_s_an:Int)(x_s_bg:Bool)(x_s_bn:Int)(x_s_nm:ByteArray)(x_s_tg:Int)(hm:(⟨⟨x_p_w,x_p_wn,x_p_fu,⟨x_p_r0,x_p_r1,x_p_r2,x_p_r3⟩,x_p_ms,x_p_ls,x_p_is⟩,⟨⟨⟨x_c_r0,x_c_r1,x_c_r2,x_c_r3⟩,x_c_mm,x_c_st,x_c_pc⟩,x_c_bf,x_c_rb,x_c_en⟩,x_i,⟨x_e_pc,x_e_vl,x_e_ad,x_e_fr,x_e_nx,x_e_dn,x_e_kn,x_e_ft⟩,⟨x_s_k,x_s_o,x_s_d,⟨x_s_ag,x_s_an⟩,⟨x_s_bg,x_s_bn⟩,x_s_nm,x_s_tg⟩⟩:Spot).c.state.mem.length<1073741824)(hs:(⟨⟨x_p_w,x_p_wn,x_p_fu,⟨x_p_r0,x_p_r1,x_p_r2,x_p_r3⟩,x_p_ms,x_p_ls,x_p_is⟩,⟨⟨⟨x_c_r0,x_c_r1,x_c_r2,x_c_r3⟩,x_c_mm,x_c_st,x_c_pc⟩,x_c_bf,x_c_rb,x_c_en⟩,x_i,⟨x_e_pc,x_e_vl,x_e_ad,x_e_fr,x_e_nx,x_e_dn,x_e_kn,x_e_ft⟩,⟨x_s_k,x_s_o,x_s_d,⟨x_s_ag,x_s_an⟩,⟨x_s_bg,x_s_bn⟩,x_s_nm,x_s_tg⟩⟩:Spot).c.state.stack.length<1073741824)(hl:(⟨⟨x_p_w,x_p_wn,x_p_fu,⟨x_p_r0,x_p_r1,x_p_r2,x_p_r3⟩,x_p_ms,x_p_ls,x_p_is⟩,⟨⟨⟨x_c_r0,x_c_r1,x_c_r2,x_c_r3⟩,x_c_mm,x_c_st,x_c_pc⟩,x_c_bf,x_c_rb,x_c_en⟩,x_i,⟨x_e_pc,x_e_vl,x_e_ad,x_e_fr,x_e_nx,x_e_dn,x_e_kn,x_e_ft⟩,⟨x_s_k,x_s_o,x_s_d,⟨x_s_ag,x_s_an⟩,⟨x_s_bg,x_s_bn⟩,x_s_nm,x_s_tg⟩⟩:Spot).c.buf.length<1073741824)(hr:(⟨⟨x_p_w,x_p_wn,x_p_fu,⟨x_p_r0,x_p_r1,x_p_r2,x_p_r3⟩,x_p_ms,x_p_ls,x_p_is⟩,⟨⟨⟨x_c_r0,x_c_r1,x_c_r2,x_c_r3⟩,x_c_mm,x_c_st,x_c_pc⟩,x_c_bf,x_c_rb,x_c_en⟩,x_i,⟨x_e_pc,x_e_vl,x_e_ad,x_e_fr,x_e_nx,x_e_dn,x_e_kn,x_e_ft⟩,⟨x_s_k,x_s_o,x_s_d,⟨x_s_ag,x_s_an⟩,⟨x_s_bg,x_s_bn⟩,x_s_nm,x_s_tg⟩⟩:Spot).c.rsb.length<1073741824)(h0:0<=(⟨⟨x_p_w,x_p_wn,x_p_fu,⟨x_p_r0,x_p_r1,x_p_r2,x_p_r3⟩,x_p_ms,x_p_ls,x_p_is⟩,⟨⟨⟨x_c_r0,x_c_r1,x_c_r2,x_c_r3⟩,x_c_mm,x_c_st,x_c_pc⟩,x_c_bf,x_c_rb,x_c_en⟩,x_i,⟨x_e_pc,x_e_vl,x_e_ad,x_e_fr,x_e_nx,x_e_dn,x_e_kn,x_e_ft⟩,⟨x_s_k,x_s_o,x_s_d,⟨x_s_ag,x_s_an⟩,⟨x_s_bg,x_s_bn⟩,x_s_nm,x_s_tg⟩⟩:Spot).i)(h1:(⟨⟨x_p_w,x_p_wn,x_p_fu,⟨x_p_r0,x_p_r1,x_p_r2,x_p_r3⟩,x_p_ms,x_p_ls,x_p_is⟩,⟨⟨⟨x_c_r0,x_c_r1,x_c_r2,x_c_r3⟩,x_c_mm,x_c_st,x_c_pc⟩,x_c_bf,x_c_rb,x_c_en⟩,x_i,⟨x_e_pc,x_e_vl,x_e_ad,x_e_fr,x_e_nx,x_e_dn,x_e_kn,x_e_ft⟩,⟨x_s_k,x_s_o,x_s_d,⟨x_s_ag,x_s_an⟩,⟨x_s_bg,x_s_bn⟩,x_s_nm,x_s_tg⟩⟩:Spot).i<(⟨⟨x_p_w,x_p_wn,x_p_fu,⟨x_p_r0,x_p_r1,x_p_r2,x_p_r3⟩,x_p_ms,x_p_ls,x_p_is⟩,⟨⟨⟨x_c_r0,x_c_r1,x_c_r2,x_c_r3⟩,x_c_mm,x_c_st,x_c_pc⟩,x_c_bf,x_c_rb,x_c_en⟩,x_i,⟨x_e_pc,x_e_vl,x_e_ad,x_e_fr,x_e_nx,x_e_dn,x_e_kn,x_e_ft⟩,⟨x_s_k,x_s_o,x_s_d,⟨x_s_ag,x_s_an⟩,⟨x_s_bg,x_s_bn⟩,x_s_nm,x_s_tg⟩⟩:Spot).c.buf.length)(hg:(getO (Md.real (⟨⟨x_p_w,x_p_wn,x_p_fu,⟨x_p_r0,x_p_r1,x_p_r2,x_p_r3⟩,x_p_ms,x_p_ls,x_p_is⟩,⟨⟨⟨x_c_r0,x_c_r1,x_c_r2,x_c_r3⟩,x_c_mm,x_c_st,x_c_pc⟩,x_c_bf,x_c_rb,x_c_en⟩,x_i,⟨x_e_pc,x_e_vl,x_e_ad,x_e_fr,x_e_nx,x_e_dn,x_e_kn,x_e_ft⟩,⟨x_s_k,x_s_o,x_s_d,⟨x_s_ag,x_s_an⟩,⟨x_s_bg,x_s_bn⟩,x_s_nm,x_s_tg⟩⟩:Spot).p (⟨⟨x_p_w,x_p_wn,x_p_fu,⟨x_p_r0,x_p_r1,x_p_r2,x_p_r3⟩,x_p_ms,x_p_ls,x_p_is⟩,⟨⟨⟨x_c_r0,x_c_r1,x_c_r2,x_c_r3⟩,x_c_mm,x_c_st,x_c_pc⟩,x_c_bf,x_c_rb,x_c_en⟩,x_i,⟨x_e_pc,x_e_vl,x_e_ad,x_e_fr,x_e_nx,x_e_dn,x_e_kn,x_e_ft⟩,⟨x_s_k,x_s_o,x_s_d,⟨x_s_ag,x_s_an⟩,⟨x_s_bg,x_s_bn⟩,x_s_nm,x_s_tg⟩⟩:Spot).c.state.stack (⟨⟨x_p_w,x_p_wn,x_p_fu,⟨x_p_r0,x_p_r1,x_p_r2,x_p_r3⟩,x_p_ms,x_p_ls,x_p_is⟩,⟨⟨⟨x_c_r0,x_c_r1,x_c_r2,x_c_r3⟩,x_c_mm,x_c_st,x_c_pc⟩,x_c_bf,x_c_rb,x_c_en⟩,x_i,⟨x_e_pc,x_e_vl,x_e_ad,x_e_fr,x_e_nx,x_e_dn,x_e_kn,x_e_ft⟩,⟨x_s_k,x_s_o,x_s_d,⟨x_s_ag,x_s_an⟩,⟨x_s_bg,x_s_bn⟩,x_s_nm,x_s_tg⟩⟩:Spot).c.buf (⟨⟨x_p_w,x_p_wn,x_p_fu,⟨x_p_r0,x_p_r1,x_p_r2,x_p_r3⟩,x_p_ms,x_p_ls,x_p_is⟩,⟨⟨⟨x_c_r0,x_c_r1,x_c_r2,x_c_r3⟩,x_c_mm,x_c_st,x_c_pc⟩,x_c_bf,x_c_rb,x_c_en⟩,x_i,⟨x_e_pc,x_e_vl,x_e_ad,x_e_fr,x_e_nx,x_e_dn,x_e_kn,x_e_ft⟩,⟨x_s_k,x_s_o,x_s_d,⟨x_s_ag,x_s_an⟩,⟨x_s_bg,x_s_bn⟩,x_s_nm,x_s_tg⟩⟩:Spot).i)).length<1073741824)(A:List Blk)(nb:Nat):evOwnK false E (evC E fn (dp+5)) 68 A nb (some ([.agg [vi x_p_w,vi x_p_wn,vi x_p_fu,vi x_p_r0,vi x_p_r1,vi x_p_r2,vi x_p_r3,rowD x_p_ms,rowD x_p_ls,rowD x_p_is,vi x_c_r0,vi x_c_r1,vi x_c_r2,vi x_c_r3,rowD x_c_mm,rowD x_c_st,vi x_c_pc,rowD x_c_bf,rowD x_c_rb,vi x_c_en,vi x_i,vi x_e_pc,vi x_e_vl,vi x_e_ad,vi x_e_fr,vi x_e_nx,vb x_e_dn,vb x_e_kn,vb x_e_ft,vi x_s_k,vi x_s_o,vi x_s_d,vb x_s_ag,vi x_s_an,vb x_s_bg,vi x_s_bn,vt x_s_nm,vi x_s_tg]],[]))=some (.made (.d (.tup [confD (Md.doK (cellsI (⟨⟨x_p_w,x_p_wn,x_p_fu,⟨x_p_r0,x_p_r1,x_p_r2,x_p_r3⟩,x_p_ms,x_p_ls,x_p_is⟩,⟨⟨⟨x_c_r0,x_c_r1,x_c_r2,x_c_r3⟩,x_c_mm,x_c_st,x_c_pc⟩,x_c_bf,x_c_rb,x_c_en⟩,x_i,⟨x_e_pc,x_e_vl,x_e_ad,x_e_fr,x_e_nx,x_e_dn,x_e_kn,x_e_ft⟩,⟨x_s_k,x_s_o,x_s_d,⟨x_s_ag,x_s_an⟩,⟨x_s_bg,x_s_bn⟩,x_s_nm,x_s_tg⟩⟩:Spot).p.mems) (⟨⟨x_p_w,x_p_wn,x_p_fu,⟨x_p_r0,x_p_r1,x_p_r2,x_p_r3⟩,x_p_ms,x_p_ls,x_p_is⟩,⟨⟨⟨x_c_r0,x_c_r1,x_c_r2,x_c_r3⟩,x_c_mm,x_c_st,x_c_pc⟩,x_c_bf,x_c_rb,x_c_en⟩,x_i,⟨x_e_pc,x_e_vl,x_e_ad,x_e_fr,x_e_nx,x_e_dn,x_e_kn,x_e_ft⟩,⟨x_s_k,x_s_o,x_s_d,⟨x_s_ag,x_s_an⟩,⟨x_s_bg,x_s_bn⟩,x_s_nm,x_s_tg⟩⟩:Spot).p (⟨⟨x_p_w,x_p_wn,x_p_fu,⟨x_p_r0,x_p_r1,x_p_r2,x_p_r3⟩,x_p_ms,x_p_ls,x_p_is⟩,⟨⟨⟨x_c_r0,x_c_r1,x_c_r2,x_c_r3⟩,x_c_mm,x_c_st,x_c_pc⟩,x_c_bf,x_c_rb,x_c_en⟩,x_i,⟨x_e_pc,x_e_vl,x_e_ad,x_e_fr,x_e_nx,x_e_dn,x_e_kn,x_e_ft⟩,⟨x_s_k,x_s_o,x_s_d,⟨x_s_ag,x_s_an⟩,⟨x_s_bg,x_s_bn⟩,x_s_nm,x_s_tg⟩⟩:Spot).c (⟨⟨x_p_w,x_p_wn,x_p_fu,⟨x_p_r0,x_p_r1,x_p_r2,x_p_r3⟩,x_p_ms,x_p_ls,x_p_is⟩,⟨⟨⟨x_c_r0,x_c_r1,x_c_r2,x_c_r3⟩,x_c_mm,x_c_st,x_c_pc⟩,x_c_bf,x_c_rb,x_c_en⟩,x_i,⟨x_e_pc,x_e_vl,x_e_ad,x_e_fr,x_e_nx,x_e_dn,x_e_kn,x_e_ft⟩,⟨x_s_k,x_s_o,x_s_d,⟨x_s_ag,x_s_an⟩,⟨x_s_bg,x_s_bn⟩,x_s_nm,x_s_tg⟩⟩:Spot).i (⟨⟨x_p_w,x_p_wn,x_p_fu,⟨x_p_r0,x_p_r1,x_p_r2,x_p_r3⟩,x_p_ms,x_p_ls,x_p_is⟩,⟨⟨⟨x_c_r0,x_c_r1,x_c_r2,x_c_r3⟩,x_c_mm,x_c_st,x_c_pc⟩,x_c_bf,x_c_rb,x_c_en⟩,x_i,⟨x_e_pc,x_e_vl,x_e_ad,x_e_fr,x_e_nx,x_e_dn,x_e_kn,x_e_ft⟩,⟨x_s_k,x_s_o,x_s_d,⟨x_s_ag,x_s_an⟩,⟨x_s_bg,x_s_bn⟩,x_s_nm,x_s_tg⟩⟩:Spot).e ⟨9,0,0,⟨false,0⟩,⟨false,0⟩,⟨#[]⟩,0⟩ 0 0 0).1,rowD (Md.doK (cellsI (⟨⟨x_p_w,x_p_wn,x_p_fu,⟨x_p_r0,x_p_r1,x_p_r2,x_p_r3⟩,x_p_ms,x_p_ls,x_p_is⟩,⟨⟨⟨x_c_r0,x_c_r1,x_c_r2,x_c_r3⟩,x_c_mm,x_c_st,x_c_pc⟩,x_c_bf,x_c_rb,x_c_en⟩,x_i,⟨x_e_pc,x_e_vl,x_e_ad,x_e_fr,x_e_nx,x_e_dn,x_e_kn,x_e_ft⟩,⟨x_s_k,x_s_o,x_s_d,⟨x_s_ag,x_s_an⟩,⟨x_s_bg,x_s_bn⟩,x_s_nm,x_s_tg⟩⟩:Spot).p.mems) (⟨⟨x_p_w,x_p_wn,x_p_fu,⟨x_p_r0,x_p_r1,x_p_r2,x_p_r3⟩,x_p_ms,x_p_ls,x_p_is⟩,⟨⟨⟨x_c_r0,x_c_r1,x_c_r2,x_c_r3⟩,x_c_mm,x_c_st,x_c_pc⟩,x_c_bf,x_c_rb,x_c_en⟩,x_i,⟨x_e_pc,x_e_vl,x_e_ad,x_e_fr,x_e_nx,x_e_dn,x_e_kn,x_e_ft⟩,⟨x_s_k,x_s_o,x_s_d,⟨x_s_ag,x_s_an⟩,⟨x_s_bg,x_s_bn⟩,x_s_nm,x_s_tg⟩⟩:Spot).p (⟨⟨x_p_w,x_p_wn,x_p_fu,⟨x_p_r0,x_p_r1,x_p_r2,x_p_r3⟩,x_p_ms,x_p_ls,x_p_is⟩,⟨⟨⟨x_c_r0,x_c_r1,x_c_r2,x_c_r3⟩,x_c_mm,x_c_st,x_c_pc⟩,x_c_bf,x_c_rb,x_c_en⟩,x_i,⟨x_e_pc,x_e_vl,x_e_ad,x_e_fr,x_e_nx,x_e_dn,x_e_kn,x_e_ft⟩,⟨x_s_k,x_s_o,x_s_d,⟨x_s_ag,x_s_an⟩,⟨x_s_bg,x_s_bn⟩,x_s_nm,x_s_tg⟩⟩:Spot).c (⟨⟨x_p_w,x_p_wn,x_p_fu,⟨x_p_r0,x_p_r1,x_p_r2,x_p_r3⟩,x_p_ms,x_p_ls,x_p_is⟩,⟨⟨⟨x_c_r0,x_c_r1,x_c_r2,x_c_r3⟩,x_c_mm,x_c_st,x_c_pc⟩,x_c_bf,x_c_rb,x_c_en⟩,x_i,⟨x_e_pc,x_e_vl,x_e_ad,x_e_fr,x_e_nx,x_e_dn,x_e_kn,x_e_ft⟩,⟨x_s_k,x_s_o,x_s_d,⟨x_s_ag,x_s_an⟩,⟨x_s_bg,x_s_bn⟩,x_s_nm,x_s_tg⟩⟩:Spot).i (⟨⟨x_p_w,x_p_wn,x_p_fu,⟨x_p_r0,x_p_r1,x_p_r2,x_p_r3⟩,x_p_ms,x_p_ls,x_p_is⟩,⟨⟨⟨x_c_r0,x_c_r1,x_c_r2,x_c_r3⟩,x_c_mm,x_c_st,x_c_pc⟩,x_c_bf,x_c_rb,x_c_en⟩,x_i,⟨x_e_pc,x_e_vl,x_e_ad,x_e_fr,x_e_nx,x_e_dn,x_e_kn,x_e_ft⟩,⟨x_s_k,x_s_o,x_s_d,⟨x_s_ag,x_s_an⟩,⟨x_s_bg,x_s_bn⟩,x_s_nm,x_s_tg⟩⟩:Spot).e ⟨9,0,0,⟨false,0⟩,⟨false,0⟩,⟨#[]⟩,0⟩ 0 0 0).2,vb true])) []):=
 Says.deep (raw_exec_spot_back S dp (⟨⟨x_p_w,x_p_wn,x_p_fu,⟨x_p_r0,x_p_r1,x_p_r2,x_p_r3⟩,x_p_ms,x_p_ls,x_p_is⟩,⟨⟨⟨x_c_r0,x_c_r1,x_c_r2,x_c_r3⟩,x_c_mm,x_c_st,x_c_pc⟩,x_c_bf,x_c_rb,x_c_en⟩,x_i,⟨x_e_pc,x_e_vl,x_e_ad,x_e_fr,x_e_nx,x_e_dn,x_e_kn,x_e_ft⟩,⟨x_s_k,x_s_o,x_s_d,⟨x_s_ag,x_s_an⟩,⟨x_s_bg,x_s_bn⟩,x_s_nm,x_s_tg⟩⟩:Spot) hm hs hl hr h0 h1 hg) (np S 68 (by decide)) A nb
end
set_option maxRecDepth 200000
def doC (N:Int)(p:Prog)(c:Conf)(i:Int):Conf×List Obs:=bif Md.can N p c i then Md.doM N p c i else(Md.conf0,[])
theorem can_open {N:Int}{p:Prog}{c:Conf}{i:Int}(h:Md.can N p c i=true):Md.openM p c i=true:=by
 simp only[Md.can,Bool.and_eq_true] at h;exact h.1.1
variable {E:Env} {fn:FuncId->Option (Env->CallT->CallT)}
section
variable (S:Sur E fn)
include S
theorem o35_19:E.lives 35 7=none/\E.lives 35 25=none/\E.lives 35 27=none/\E.lives 35 31=none/\E.lives 35 35=none/\E.lives 35 37=none/\E.lives 35 41=none/\E.lives 35 45=none/\E.lives 35 49=none:=⟨off S 35 7 (by decide) rfl,off S 35 25 (by decide) rfl,off S 35 27 (by decide) rfl,off S 35 31 (by decide) rfl,off S 35 35 (by decide) rfl,off S 35 37 (by decide) rfl,off S 35 41 (by decide) rfl,off S 35 45 (by decide) rfl,off S 35 49 (by decide) rfl⟩
theorem raw_exec_Do (dp:Nat)(p:Prog)(c:Conf)(i:Int)(hp:p.mems.length<1073741824)(hm:c.state.mem.length<1073741824)(hs:c.state.stack.length<1073741824)(hl:c.buf.length<1073741824)(hr:c.rsb.length<1073741824)(hg:(getO (Md.real p c.state.stack c.buf i)).length<1073741824):Says E fn (dp+10) 35 [progD p,confD c,vi i] (.tup [confD (doC (cellsI p.mems) p c i).1,rowD (doC (cellsI p.mems) p c i).2,vb (Md.can (cellsI p.mems) p c i)]):=by
 unfold Says
 show ansOf (evC E fn (dp+9+1) 35 [.d (progD p),.d (confD c),.d (vi i)] [])=_
 rw[evC_succ,S.f_exec_Do,apF_some,F_exec_Do,mkF_run _ _ _ _ _ _ _ _ rfl]
 cases hcan:Md.can (cellsI p.mems) p c i with
 | false=>simp only[eG,go_sem,thq S,nbr S,Nat.reduceLT,Nat.reduceEqDiff,Nat.reduceAdd,Nat.reduceMul,Nat.reduceLeDiff,Int.reduceEq,Int.reduceLT,Int.reduceLE,Int.reduceNeg,reduceCtorEq,o35_19 S,c_exec_Can S,hl,hp,hcan,Bool.not_false,doC,Md.conf0]
 | true=>
  have ho:=can_open hcan
  obtain⟨h0,he,h1⟩:=open_get ho
  simp only[eG,go_sem,thq S,nbr S,Nat.reduceLT,Nat.reduceEqDiff,Nat.reduceAdd,Nat.reduceMul,Nat.reduceLeDiff,Int.reduceEq,Int.reduceLT,Int.reduceLE,Int.reduceNeg,reduceCtorEq,o35_19 S,c_exec_Can S,hl,hp,hm,hs,hr,hg,h0,h1,hcan,Bool.not_true,c_exec_at S,ho,spotOf,c_exec_spot_val S,c_exec_spot_held S,c_seqm_Value S,c_seqm_Way S,c_exec_spot_load S,c_exec_spot_put S,c_exec_spot_goes S,c_exec_spot_back S,doC,Md.doM,Md.put,rep1',deep_sr,Nat.one_ne_zero,Nat.one_mul,Nat.le_refl,Nat.succ_ne_zero,valueM,wayM]
  by_cases k1:(Md.insM p c i).kind=1
  ·simp only[k1,Md.doK,Md.put,if_true,if_false,Int.reduceEq,decide_true,cond_true];rfl
  by_cases k4:(Md.insM p c i).kind=4
  ·simp only[k4,Md.doK,Md.put,if_true,if_false,Int.reduceEq,decide_true,decide_false,cond_true,cond_false];rfl
  by_cases k3:(Md.insM p c i).kind=3
  ·simp only[k3,Md.doK,Md.put,if_true,if_false,Int.reduceEq,decide_true,decide_false,cond_true,cond_false];rfl
  by_cases k5:(Md.insM p c i).kind=5
  ·simp only[k5,Md.doK,if_true,if_false,Int.reduceEq,decide_true,decide_false,cond_true,cond_false]
  by_cases k7:(Md.insM p c i).kind=7
  ·simp only[k7,Md.doK,if_true,if_false,Int.reduceEq,decide_true,decide_false,cond_true,cond_false]
  by_cases k9:(Md.insM p c i).kind=9
  ·simp only[k9,Md.doK,if_true,if_false,Int.reduceEq,decide_true,decide_false,cond_true,cond_false]
  by_cases k2:(Md.insM p c i).kind=2
  ·have hab:abOf ⟨p,c,i,Md.entAt c.buf i,Md.insM p c i⟩=true:=by
    have h:=hcan
    simp only[Md.can,Md.ready,k2,Int.reduceEq,or_self,if_false,if_true,Bool.and_eq_true] at h
    show((Md.valM p c i (Md.insM p c i).a).2&&(Md.valM p c i (Md.insM p c i).b).2)=true
    rw[h.2.1.1,h.2.1.2];rfl
   have had:adOf ⟨p,c,i,Md.entAt c.buf i,Md.insM p c i⟩=Md.mask p.w ((Md.valM p c i (Md.insM p c i).a).1+(Md.valM p c i (Md.insM p c i).b).1):=rfl
   by_cases hin:Md.mask p.w ((Md.valM p c i (Md.insM p c i).a).1+(Md.valM p c i (Md.insM p c i).b).1)<cellsI p.mems
   ·have hin' : inOf ⟨p, c, i, Md.entAt c.buf i, Md.insM p c i⟩ = true := by unfold inOf; rw [had]; exact decide_eq_true hin
    simp only[k2,loadE,hab,hin',had,Md.doK,Md.put,if_true,if_false,Int.reduceEq,decide_true,decide_false,cond_true,cond_false,ge_iff_le,Int.not_le.2 hin];rfl
   ·have hin' : inOf ⟨p, c, i, Md.entAt c.buf i, Md.insM p c i⟩ = false := by unfold inOf; rw [had]; exact decide_eq_false hin
    simp only[k2,loadE,hab,hin',had,Md.doK,Md.put,if_true,if_false,Int.reduceEq,decide_true,decide_false,cond_true,cond_false,ge_iff_le,Int.not_lt.1 hin];rfl
  ·simp only[k1,k2,k3,k4,k5,k7,k9,Md.doK,Md.put,if_true,if_false,Int.reduceEq,decide_true,decide_false,cond_true,cond_false];rfl
end
theorem hazGo_lt (p:Prog)(i addr:Int):∀(l:List Ent) (k:Nat),(Md.hazGo p i addr k l).2=true->(k:Int)<=(Md.hazGo p i addr k l).1/\(Md.hazGo p i addr k l).1<k+l.length
 | [],_,h=>by cases h
 | e::l,k,h=>by
  unfold Md.hazGo at h ⊢
  cases hh:Md.hitL p i addr e with
  | true=>simp;omega
  | false=>
   rw[hh] at h
   simp only[cond_false] at h ⊢
   have:=hazGo_lt p i addr l (k+1) h
   simp only[List.length_cons]
   omega
theorem haz_lt {p:Prog}{l:List Ent}{i addr:Int}(h:(Md.hazard p l i addr).2=true):0<=(Md.hazard p l i addr).1/\(Md.hazard p l i addr).1<l.length:=by
 have:=hazGo_lt p i addr _ _ h
 unfold Md.hazard
 rw[List.length_drop] at this
 omega
def addrC (N:Int)(p:Prog)(c:Conf)(i:Int):Conf×List Obs:=bif Md.canAddr p c i then Md.addrM N p c i else(Md.conf0,[])
theorem canAddr_open {p:Prog}{c:Conf}{i:Int}(h:Md.canAddr p c i=true):Md.openM p c i=true:=by
 simp only[Md.canAddr,Bool.and_eq_true] at h;exact h.1.1.1.1
variable {E:Env} {fn:FuncId->Option (Env->CallT->CallT)}
section
variable (S:Sur E fn)
include S
theorem o33_20:E.lives 33 9=none:=off S 33 9 (by decide) rfl
theorem o36_20:E.lives 36 7=none/\E.lives 36 23=none/\E.lives 36 29=none:=⟨off S 36 7 (by decide) rfl,off S 36 23 (by decide) rfl,off S 36 29 (by decide) rfl⟩
theorem raw_exec_CanAddr (dp:Nat)(p:Prog)(c:Conf)(i:Int)(hl:c.buf.length<1073741824):Says E fn (dp+7) 33 [progD p,confD c,vi i] (vb (Md.canAddr p c i)):=by
 unfold Says
 show ansOf (evC E fn (dp+6+1) 33 [.d (progD p),.d (confD c),.d (vi i)] [])=_
 rw[evC_succ,S.f_exec_CanAddr,apF_some,F_exec_CanAddr,mkF_run _ _ _ _ _ _ _ _ rfl]
 cases ho:Md.openM p c i with
 | false=>simp only[eG,go_sem,thq S,nbr S,zN0,zN1,zN2,zN3,zN4,zI0,zI1,zI2,zI3,reduceCtorEq,o33_20 S,c_exec_at S,hl,ho,Bool.not_false,Md.canAddr]
 | true=>
  by_cases k3:(Md.insM p c i).kind=3
  ·cases hk : (Md.entAt c.buf i).known with
   | true=>simp only[eG,go_sem,thq S,nbr S,zN0,zN1,zN2,zN3,zN4,zI0,zI1,zI2,zI3,reduceCtorEq,o33_20 S,c_exec_at S,hl,ho,spotOf,eq_true k3,hk,Bool.not_true,Md.canAddr]
   | false=>
    have hk2:(spotOf p c i).e.known=false:=hk
    simp only[eG,go_sem,thq S,nbr S,zN0,zN1,zN2,zN3,zN4,zI0,zI1,zI2,zI3,reduceCtorEq,o33_20 S,c_exec_at S,hl,ho,spotOf,eq_true k3,hk,Bool.not_true,Bool.not_false,Md.canAddr,c_exec_spot_two S]
  ·simp only[eG,go_sem,thq S,nbr S,zN0,zN1,zN2,zN3,zN4,zI0,zI1,zI2,zI3,reduceCtorEq,o33_20 S,c_exec_at S,hl,ho,spotOf,eq_false k3,Bool.not_true,Bool.not_false,Md.canAddr]
theorem c_exec_CanAddr (dp:Nat)(p_w p_wn p_fu p_r0 p_r1 p_r2 p_r3:Int)(p_ms:List MemT)(p_ls:List Label)(p_is:List Ins)(c_r0 c_r1 c_r2 c_r3:Int)(c_mm c_st:List Int)(c_pc:Int)(c_bf:List Ent)(c_rb:List Int)(c_en i:Int)(hl:(⟨⟨⟨c_r0,c_r1,c_r2,c_r3⟩,c_mm,c_st,c_pc⟩,c_bf,c_rb,c_en⟩:Conf).buf.length<1073741824)(A:List Blk)(nb:Nat)(us:List Nat):evOwnK false E (evC E fn (dp+7)) 33 A nb (some ([.agg [vi p_w,vi p_wn,vi p_fu,vi p_r0,vi p_r1,vi p_r2,vi p_r3,rowD p_ms,rowD p_ls,rowD p_is],.agg [vi c_r0,vi c_r1,vi c_r2,vi c_r3,rowD c_mm,rowD c_st,vi c_pc,rowD c_bf,rowD c_rb,vi c_en],vi i],us))=some (.made (.d (vb (Md.canAddr (⟨p_w,p_wn,p_fu,⟨p_r0,p_r1,p_r2,p_r3⟩,p_ms,p_ls,p_is⟩:Prog) (⟨⟨⟨c_r0,c_r1,c_r2,c_r3⟩,c_mm,c_st,c_pc⟩,c_bf,c_rb,c_en⟩:Conf) i))) []):=
 Says.flat (raw_exec_CanAddr S dp (⟨p_w,p_wn,p_fu,⟨p_r0,p_r1,p_r2,p_r3⟩,p_ms,p_ls,p_is⟩:Prog) (⟨⟨⟨c_r0,c_r1,c_r2,c_r3⟩,c_mm,c_st,c_pc⟩,c_bf,c_rb,c_en⟩:Conf) i hl) (np S 33 (by decide)) (rfl) A nb us
theorem raw_exec_Addr (dp:Nat)(p:Prog)(c:Conf)(i:Int)(hp:p.mems.length<1073741824)(hm:c.state.mem.length<1073741824)(hs:c.state.stack.length<1073741824)(hl:c.buf.length<1073741824)(hr:c.rsb.length<1073741824):Says E fn (dp+8) 36 [progD p,confD c,vi i] (.tup [confD (addrC (cellsI p.mems) p c i).1,rowD (addrC (cellsI p.mems) p c i).2,vb (Md.canAddr p c i)]):=by
 unfold Says
 show ansOf (evC E fn (dp+7+1) 36 [.d (progD p),.d (confD c),.d (vi i)] [])=_
 rw[evC_succ,S.f_exec_Addr,apF_some,F_exec_Addr,mkF_run _ _ _ _ _ _ _ _ rfl]
 cases hcan:Md.canAddr p c i with
 | false=>simp only[eG,go_sem,thq S,nbr S,zN0,zN1,zN2,zN3,zN4,zI0,zI1,zI2,zI3,reduceCtorEq,o36_20 S,c_exec_CanAddr S,hl,hp,hcan,Bool.not_false,addrC,Md.conf0]
 | true=>
  have ho:=canAddr_open hcan
  obtain⟨h0,he,h1⟩:=open_get ho
  have had:Md.mask p.w ((Md.valM p c i (Md.insM p c i).a).1+(Md.valM p c i (Md.insM p c i).b).1)=Md.addrOf p c i:=rfl
  by_cases hin:Md.addrOf p c i<cellsI p.mems
  ·have hge : ¬ Md.addrOf p c i >= cellsI p.mems := by omega
   have hlen:∀ e,(c.buf.set i.toNat e).length=c.buf.length:=fun e=>List.length_set
   generalize hL:c.buf.set i.toNat { Md.entAt c.buf i with addr:=Md.addrOf p c i,known:=true,fault:=false }=L
   have hLl:L.length<1073741824:=by rw[<-hL,hlen];exact hl
   cases hz:(Md.hazard p L i (Md.addrOf p c i)).2 with
   | false=>simp only[eG,go_sem,thq S,nbr S,zN0,zN1,zN2,zN3,zN4,zI0,zI1,zI2,zI3,reduceCtorEq,o36_20 S,c_exec_CanAddr S,hl,hp,hm,hs,hr,h0,h1,hcan,Bool.not_true,Bool.not_false,c_exec_at S,ho,spotOf,c_exec_spot_two S,c_seqm_Address S,had,c_exec_spot_put S,addrC,Md.addrM,Md.addrK,Md.put,rep1',deep_sr,Nat.one_ne_zero,Nat.one_mul,Nat.le_refl,Nat.succ_ne_zero,hin,hge,hL,hLl,c_memo_Hazard S,hz,show i<4611686018427387904 by omega,show -4611686018427387904<i by omega,Md.drop1];rfl
   | true=>
    obtain⟨z0,z1⟩:=haz_lt hz
    obtain⟨e2,he2⟩:=get_of (show(Md.hazard p L i (Md.addrOf p c i)).1.toNat<L.length by omega)
    have he3:Md.entAt L (Md.hazard p L i (Md.addrOf p c i)).1=e2:=by unfold Md.entAt;rw[he2];rfl
    simp only[eG,go_sem,thq S,nbr S,zN0,zN1,zN2,zN3,zN4,zI0,zI1,zI2,zI3,reduceCtorEq,o36_20 S,c_exec_CanAddr S,hl,hp,hm,hs,hr,h0,h1,hcan,Bool.not_true,Bool.not_false,c_exec_at S,ho,spotOf,c_exec_spot_two S,c_seqm_Address S,had,c_exec_spot_put S,addrC,Md.addrM,Md.addrK,Md.put,rep1',deep_sr,Nat.one_ne_zero,Nat.one_mul,Nat.le_refl,Nat.succ_ne_zero,hin,hge,hL,hLl,c_memo_Hazard S,hz,show i<4611686018427387904 by omega,show -4611686018427387904<i by omega,Md.drop1,w_ixI z0 he2,he3,c_robq_Cut S,Md.cut];rfl
  ·have hge : Md.addrOf p c i >= cellsI p.mems := by omega
   simp only[eG,go_sem,thq S,nbr S,zN0,zN1,zN2,zN3,zN4,zI0,zI1,zI2,zI3,reduceCtorEq,o36_20 S,c_exec_CanAddr S,hl,hp,hm,hs,hr,h0,h1,hcan,Bool.not_true,Bool.not_false,c_exec_at S,ho,spotOf,c_exec_spot_two S,c_seqm_Address S,had,c_exec_spot_put S,addrC,Md.addrM,Md.addrK,Md.put,rep1',deep_sr,Nat.one_ne_zero,Nat.one_mul,Nat.le_refl,Nat.succ_ne_zero,hin,hge]
end
section
variable (S:Sur E fn)
include S
theorem o48_24:E.lives 48 7=none:=off S 48 7 (by decide) rfl
theorem o34_24:E.lives 34 7=none/\E.lives 34 15=none/\E.lives 34 19=none:=⟨off S 34 7 (by decide) rfl,off S 34 15 (by decide) rfl,off S 34 19 (by decide) rfl⟩
theorem o75_24:E.lives 75 7=none/\E.lives 75 11=none:=⟨off S 75 7 (by decide) rfl,off S 75 11 (by decide) rfl⟩
theorem raw_r9_CanRetire (dp:Nat)(p:Prog)(c:Conf):Says E fn (dp+2) 48 [progD p,confD c] (vb (Md.canRetire p c)):=by
 unfold Says
 show ansOf (evC E fn (dp+1+1) 48 [.d (progD p),.d (confD c)] [])=_
 rw[evC_succ,S.f_r9_CanRetire,apF_some,F_r9_CanRetire,mkF_run _ _ _ _ _ _ _ _ rfl]
 by_cases h1:c.end_=0
 ·by_cases h2 : c.buf.length = 0
  ·simp only [eG, go_sem, thq S, nbr S, zN0, zN1, zN2, zN3, zN4, zI0, zI1, zI2, zI3, reduceCtorEq, o48_24 S, h1, h2, Md.canRetire]
   simp
  ·obtain ⟨e, he⟩ := get_of (show 0 < c.buf.length by omega)
   have e0:Md.entAt c.buf 0=e:=by show(c.buf[0]?).getD _=_;rw[he];rfl
   have hz:(c.buf.length:Int)≠0:=by omega
   have w0:=w_ixI (l:=c.buf) (i:=0) (by decide) he .i64 8 rfl
   cases hd:e.done<;>cases hk:e.known<;>by_cases k10:(Md.at_ p e.pc).kind=10<;>by_cases k3:(Md.at_ p e.pc).kind=3
   all_goals first | omega | simp only[eG,go_sem,thq S,nbr S,zN0,zN1,zN2,zN3,zN4,zI0,zI1,zI2,zI3,reduceCtorEq,o48_24 S,h1,h2,hz,w0,Md.canRetire,e0,cA7 S,hd,hk,k10,k3,ne_eq,not_false_eq_true,not_true_eq_false,Bool.not_true,Bool.not_false]
 ·simp only[eG,go_sem,thq S,nbr S,zN0,zN1,zN2,zN3,zN4,zI0,zI1,zI2,zI3,reduceCtorEq,o48_24 S,h1,Md.canRetire]
theorem c_r9_CanRetire (dp:Nat)(p_w p_wn p_fu p_r0 p_r1 p_r2 p_r3:Int)(p_ms:List MemT)(p_ls:List Label)(p_is:List Ins)(c_r0 c_r1 c_r2 c_r3:Int)(c_mm c_st:List Int)(c_pc:Int)(c_bf:List Ent)(c_rb:List Int)(c_en:Int)(A:List Blk)(nb:Nat)(us:List Nat):evOwnK false E (evC E fn (dp+2)) 48 A nb (some ([.agg [vi p_w,vi p_wn,vi p_fu,vi p_r0,vi p_r1,vi p_r2,vi p_r3,rowD p_ms,rowD p_ls,rowD p_is],.agg [vi c_r0,vi c_r1,vi c_r2,vi c_r3,rowD c_mm,rowD c_st,vi c_pc,rowD c_bf,rowD c_rb,vi c_en]],us))=some (.made (.d (vb (Md.canRetire (⟨p_w,p_wn,p_fu,⟨p_r0,p_r1,p_r2,p_r3⟩,p_ms,p_ls,p_is⟩:Prog) (⟨⟨⟨c_r0,c_r1,c_r2,c_r3⟩,c_mm,c_st,c_pc⟩,c_bf,c_rb,c_en⟩:Conf)))) []):=
 Says.flat (raw_r9_CanRetire S dp (⟨p_w,p_wn,p_fu,⟨p_r0,p_r1,p_r2,p_r3⟩,p_ms,p_ls,p_is⟩:Prog) (⟨⟨⟨c_r0,c_r1,c_r2,c_r3⟩,c_mm,c_st,c_pc⟩,c_bf,c_rb,c_en⟩:Conf) ) (np S 48 (by decide)) (rfl) A nb us
theorem raw_reti_Can (dp:Nat)(p:Prog)(c:Conf):Says E fn (dp+2) 34 [progD p,confD c] (vb (Md.canRetire p c)):=by
 unfold Says
 show ansOf (evC E fn (dp+1+1) 34 [.d (progD p),.d (confD c)] [])=_
 rw[evC_succ,S.f_reti_Can,apF_some,F_reti_Can,mkF_run _ _ _ _ _ _ _ _ rfl]
 by_cases h1:c.end_=0
 ·by_cases h2 : c.buf.length = 0
  ·simp only [eG, go_sem, thq S, nbr S, zN0, zN1, zN2, zN3, zN4, zI0, zI1, zI2, zI3, reduceCtorEq, o34_24 S, h1, h2, Md.canRetire, c_conf_Final S]
   simp
  ·obtain ⟨e, he⟩ := get_of (show 0 < c.buf.length by omega)
   have e0:Md.entAt c.buf 0=e:=by show(c.buf[0]?).getD _=_;rw[he];rfl
   have hz:(c.buf.length:Int)≠0:=by omega
   have w0:=w_ixI (l:=c.buf) (i:=0) (by decide) he .i64 8 rfl
   cases hd:e.done<;>cases hk:e.known<;>by_cases k10:(Md.at_ p e.pc).kind=10<;>by_cases k3:(Md.at_ p e.pc).kind=3
   all_goals first | omega | simp only[eG,go_sem,thq S,nbr S,zN0,zN1,zN2,zN3,zN4,zI0,zI1,zI2,zI3,reduceCtorEq,o34_24 S,h1,h2,hz,w0,Md.canRetire,e0,c_seqm_At S,c_conf_Final S,hd,hk,k10,k3,ne_eq,not_false_eq_true,not_true_eq_false,Bool.not_true,Bool.not_false]
 ·simp only[eG,go_sem,thq S,nbr S,zN0,zN1,zN2,zN3,zN4,zI0,zI1,zI2,zI3,reduceCtorEq,o34_24 S,h1,Md.canRetire,c_conf_Final S]
theorem c_reti_Can (dp:Nat)(p_w p_wn p_fu p_r0 p_r1 p_r2 p_r3:Int)(p_ms:List MemT)(p_ls:List Label)(p_is:List Ins)(c_r0 c_r1 c_r2 c_r3:Int)(c_mm c_st:List Int)(c_pc:Int)(c_bf:List Ent)(c_rb:List Int)(c_en:Int)(A:List Blk)(nb:Nat)(us:List Nat):evOwnK false E (evC E fn (dp+2)) 34 A nb (some ([.agg [vi p_w,vi p_wn,vi p_fu,vi p_r0,vi p_r1,vi p_r2,vi p_r3,rowD p_ms,rowD p_ls,rowD p_is],.agg [vi c_r0,vi c_r1,vi c_r2,vi c_r3,rowD c_mm,rowD c_st,vi c_pc,rowD c_bf,rowD c_rb,vi c_en]],us))=some (.made (.d (vb (Md.canRetire (⟨p_w,p_wn,p_fu,⟨p_r0,p_r1,p_r2,p_r3⟩,p_ms,p_ls,p_is⟩:Prog) (⟨⟨⟨c_r0,c_r1,c_r2,c_r3⟩,c_mm,c_st,c_pc⟩,c_bf,c_rb,c_en⟩:Conf)))) []):=
 Says.flat (raw_reti_Can S dp (⟨p_w,p_wn,p_fu,⟨p_r0,p_r1,p_r2,p_r3⟩,p_ms,p_ls,p_is⟩:Prog) (⟨⟨⟨c_r0,c_r1,c_r2,c_r3⟩,c_mm,c_st,c_pc⟩,c_bf,c_rb,c_en⟩:Conf) ) (np S 34 (by decide)) (rfl) A nb us
theorem raw_reti_ended (dp:Nat)(e:Ent)(x:Ins):Says E fn (dp+1) 75 [.agg (Cl.cells e),.agg (Cl.cells x)] (vi (Md.endedM e x)):=by
 unfold Says
 show ansOf (evC E fn (dp+1) 75 [.d (.agg (Cl.cells e)),.d (.agg (Cl.cells x))] [])=_
 rw[evC_succ,S.f_reti_ended,apF_some,F_reti_ended,mkF_run _ _ _ _ _ _ _ _ rfl]
 cases h1:e.fault<;>by_cases h2:x.kind=12<;>by_cases h3:x.kind=11
 all_goals first | omega | simp only[eG,go_sem,thq S,nbr S,zN0,zN1,zN2,zN3,zN4,zI0,zI1,zI2,zI3,reduceCtorEq,o75_24 S,h1,h2,h3,Md.endedM]
theorem c_reti_ended (dp:Nat)(e_pc e_vl e_ad e_fr e_nx:Int)(e_dn e_kn e_ft:Bool)(x_k x_o x_d:Int)(x_ag:Bool)(x_an:Int)(x_bg:Bool)(x_bn:Int)(x_nm:ByteArray)(x_tg:Int)(A:List Blk)(nb:Nat)(us:List Nat):evOwnK false E (evC E fn (dp+1)) 75 A nb (some ([.agg [vi e_pc,vi e_vl,vi e_ad,vi e_fr,vi e_nx,vb e_dn,vb e_kn,vb e_ft],.agg [vi x_k,vi x_o,vi x_d,vb x_ag,vi x_an,vb x_bg,vi x_bn,vt x_nm,vi x_tg]],us))=some (.made (.d (vi (Md.endedM (⟨e_pc,e_vl,e_ad,e_fr,e_nx,e_dn,e_kn,e_ft⟩:Ent) (⟨x_k,x_o,x_d,⟨x_ag,x_an⟩,⟨x_bg,x_bn⟩,x_nm,x_tg⟩:Ins)))) []):=
 Says.flat (raw_reti_ended S dp (⟨e_pc,e_vl,e_ad,e_fr,e_nx,e_dn,e_kn,e_ft⟩:Ent) (⟨x_k,x_o,x_d,⟨x_ag,x_an⟩,⟨x_bg,x_bn⟩,x_nm,x_tg⟩:Ins) ) (np S 75 (by decide)) (rfl) A nb us
theorem raw_r7_Jump (dp:Nat)(p:Prog)(a:Int):Says E fn (dp+1) 89 [progD p,vi a] (vi (min a p.ins.length)):=by
 unfold Says
 show ansOf (evC E fn (dp+1) 89 [.d (progD p),.d (vi a)] [])=_
 rw[evC_succ,S.f_r7_Jump,apF_some,F_r7_Jump,mkF_run _ _ _ _ _ _ _ _ rfl]
 simp only[eG,go_sem,thq S,nbr S,zN0,zN1,zN2,zN3,zN4,zI0,zI1,zI2,zI3,reduceCtorEq]
theorem c_r7_Jump (dp:Nat)(p_w p_wn p_fu p_r0 p_r1 p_r2 p_r3:Int)(p_ms:List MemT)(p_ls:List Label)(p_is:List Ins)(a:Int)(A:List Blk)(nb:Nat)(us:List Nat):evOwnK false E (evC E fn (dp+1)) 89 A nb (some ([.agg [vi p_w,vi p_wn,vi p_fu,vi p_r0,vi p_r1,vi p_r2,vi p_r3,rowD p_ms,rowD p_ls,rowD p_is],vi a],us))=some (.made (.d (vi (min a (⟨p_w,p_wn,p_fu,⟨p_r0,p_r1,p_r2,p_r3⟩,p_ms,p_ls,p_is⟩:Prog).ins.length))) []):=
 Says.flat (raw_r7_Jump S dp (⟨p_w,p_wn,p_fu,⟨p_r0,p_r1,p_r2,p_r3⟩,p_ms,p_ls,p_is⟩:Prog) a ) (np S 89 (by decide)) (rfl) A nb us
end
end Go.Aug.Mc
