import Derived.Test.YthnhboimcidhgaaGreatDoorMc14
import Derived.Test.YthnhboimcidhgaaGreatDoorMc33
import Derived.Test.YthnhboimcidhgaaGreatDoorBr
namespace Go.Aug.Mc
open Go Go.Aug
open Nat renaming reduceLT -> zN0, reduceEqDiff -> zN1, reduceAdd -> zN2, reduceMul -> zN3, reduceLeDiff -> zN4
open Int renaming reduceEq -> zI0, reduceLT -> zI1, reduceLE -> zI2, reduceNeg -> zI3
set_option linter.unusedSimpArgs false
set_option linter.unusedVariables false
set_option maxHeartbeats 40000000
structure Spot where
 p:Prog
 c:Conf
 i:Int
 e:Ent
 s:Ins
def CC (x:Spot):DV:=.agg (Y3 x.p++(Jq x.c++(vi x.i::(Cl.cells x.e++Cl.cells x.s))))
theorem Zqh (x:Spot):Spot.mk x.p x.c x.i x.e x.s=x:=rfl
attribute [go_sem] CC Zqh
def RA:Spot:=⟨⟨0,0,0,⟨0,0,0,0⟩,[],[],[]⟩,Md.B1,0,Md.Nq,⟨0,0,0,⟨false,0⟩,⟨false,0⟩,⟨#[]⟩,0⟩⟩
def JP (p:Prog)(c:Conf)(i:Int):Spot:=⟨p,c,i,Md.ZP c.buf i,Md.Yk p c i⟩
variable {E:Env} {fn:FuncId->Option (Env->cT->cT)}
section
variable (S:Sur E fn)
include S
theorem TB:E.lives 144 7=none:=off S 144 7 (by decide) rfl
theorem Zl6 (dp:Nat)(p:Prog)(c:Conf)(i:Int)(hl:c.buf.length<1073741824):Z6 E fn (dp+6) 144 [Zw p,ZS c,vi i] (.tup [CC (bif Md.QE p c i then JP p c i else RA),vb (Md.QE p c i)]):=by
 unfold Z6
 show Z7 (Z4 E fn (dp+5+1) 144 [.d (Zw p),.d (ZS c),.d (vi i)] [])=_
 rw[ZD,S.Zbc,ZG,Zgp,ZC _ _ _ _ _ _ _ _ rfl]
 cases ho:Md.QE p c i with
 | true=>
  obtain⟨h0,he,h3⟩:=P6 ho
  have ho':=ho
  simp only[Md.QE,Bool.and_eq_true,Bool.not_eq_true',beq_iff_eq,decide_eq_true_eq] at ho'
  simp only[eG,go_sem,Z3 S,Z2 S,zN0,zN1,zN2,zN3,zN4,zI0,zI1,zI2,zI3,reduceCtorEq,TB S,EC S,ho'.1.1.1,show ¬i<0 by omega,show ¬i>=c.buf.length by omega,Zcy S,hl,ho'.2,E1 h0 he,Yj S,JP,Md.Yk,Bool.not_true]
 | false=>
  by_cases h1:c.end_=0
  ·by_cases h2 : i < 0
   ·simp only[eG,go_sem,Z3 S,Z2 S,zN0,zN1,zN2,zN3,zN4,zI0,zI1,zI2,zI3,reduceCtorEq,TB S,EC S,h1,h2,Bool.not_true,RA,Md.B1,Md.Nq]
   ·by_cases h3 : i >= c.buf.length
    ·simp only[eG,go_sem,Z3 S,Z2 S,zN0,zN1,zN2,zN3,zN4,zI0,zI1,zI2,zI3,reduceCtorEq,TB S,EC S,h1,h2,h3,Bool.not_true,RA,Md.B1,Md.Nq]
    ·have hb:Md.NN p c.buf i=true:=by
      cases hb:Md.NN p c.buf i with
      | true=>rfl
      | false=>
       have:Md.QE p c i=true:=by simp[Md.QE,hb,h1];omega
       rw[this] at ho;cases ho
     simp only[eG,go_sem,Z3 S,Z2 S,zN0,zN1,zN2,zN3,zN4,zI0,zI1,zI2,zI3,reduceCtorEq,TB S,EC S,h1,h2,h3,Zcy S,hl,hb,Bool.not_true,RA,Md.B1,Md.Nq]
  ·simp only[eG,go_sem,Z3 S,Z2 S,zN0,zN1,zN2,zN3,zN4,zI0,zI1,zI2,zI3,reduceCtorEq,TB S,EC S,eq_false h1,Bool.not_false,RA,Md.B1,Md.Nq]
theorem H8 (dp:Nat)(p_w p_wn p_fu p_r0 p_r1 p_r2 p_r3:Int)(p_ms:List MemT)(p_ls:List Label)(p_is:List Ins)(c_r0 c_r1 c_r2 c_r3:Int)(c_mm c_st:List Int)(c_pc:Int)(c_bf:List Ent)(c_rb:List Int)(c_en i:Int)(hl:(⟨⟨⟨c_r0,c_r1,c_r2,c_r3⟩,c_mm,c_st,c_pc⟩,c_bf,c_rb,c_en⟩:Conf).buf.length<1073741824)(A:List Blk)(nb:Nat):Zv false E (Z4 E fn (dp+6)) 144 A nb (some ([.agg [vi p_w,vi p_wn,vi p_fu,vi p_r0,vi p_r1,vi p_r2,vi p_r3,rD p_ms,rD p_ls,rD p_is],.agg [vi c_r0,vi c_r1,vi c_r2,vi c_r3,rD c_mm,rD c_st,vi c_pc,rD c_bf,rD c_rb,vi c_en],vi i],[]))=some (.made (.d (.tup [CC (bif Md.QE (⟨p_w,p_wn,p_fu,⟨p_r0,p_r1,p_r2,p_r3⟩,p_ms,p_ls,p_is⟩:Prog) (⟨⟨⟨c_r0,c_r1,c_r2,c_r3⟩,c_mm,c_st,c_pc⟩,c_bf,c_rb,c_en⟩:Conf) i then JP (⟨p_w,p_wn,p_fu,⟨p_r0,p_r1,p_r2,p_r3⟩,p_ms,p_ls,p_is⟩:Prog) (⟨⟨⟨c_r0,c_r1,c_r2,c_r3⟩,c_mm,c_st,c_pc⟩,c_bf,c_rb,c_en⟩:Conf) i else RA),vb (Md.QE (⟨p_w,p_wn,p_fu,⟨p_r0,p_r1,p_r2,p_r3⟩,p_ms,p_ls,p_is⟩:Prog) (⟨⟨⟨c_r0,c_r1,c_r2,c_r3⟩,c_mm,c_st,c_pc⟩,c_bf,c_rb,c_en⟩:Conf) i)])) []):=
 Z6.deep (Zl6 S dp (⟨p_w,p_wn,p_fu,⟨p_r0,p_r1,p_r2,p_r3⟩,p_ms,p_ls,p_is⟩:Prog) (⟨⟨⟨c_r0,c_r1,c_r2,c_r3⟩,c_mm,c_st,c_pc⟩,c_bf,c_rb,c_en⟩:Conf) i hl) (np S 144 (by decide)) A nb
theorem Zky (dp:Nat)(x:Spot)(v:Val)(hl:x.c.buf.length<1073741824):Z6 E fn (dp+5) 145 [CC x,.agg (Cl.cells v)] (.tup [vi (Md.Y2 x.p x.c x.i v).1,vb (Md.Y2 x.p x.c x.i v).2]):=by
 unfold Z6
 show Z7 (Z4 E fn (dp+4+1) 145 [.d (CC x),.d (.agg (Cl.cells v))] [])=_
 rw[ZD,S.Zb4,ZG,Zgh,ZC _ _ _ _ _ _ _ _ rfl]
 simp only[eG,go_sem,Z3 S,Z2 S,zN0,zN1,zN2,zN3,zN4,zI0,zI1,zI2,zI3,reduceCtorEq,Zs7 S,hl,Md.Y2,Nat.add_zero,Nat.zero_add]
theorem X5 (dp:Nat)(x_p_w x_p_wn x_p_fu x_p_r0 x_p_r1 x_p_r2 x_p_r3:Int)(x_p_ms:List MemT)(x_p_ls:List Label)(x_p_is:List Ins)(x_c_r0 x_c_r1 x_c_r2 x_c_r3:Int)(x_c_mm x_c_st:List Int)(x_c_pc:Int)(x_c_bf:List Ent)(x_c_rb:List Int)(x_c_en x_i x_e_pc x_e_vl x_e_ad x_e_fr x_e_nx:Int)(x_e_dn x_e_kn x_e_ft:Bool)(x_s_k x_s_o x_s_d:Int)(x_s_ag:Bool)(x_s_an:Int)(x_s_bg:Bool)(x_s_bn:Int)(x_s_nm:ByteArray)(x_s_tg:Int)(v_g:Bool)(v_n:Int)(hl:(⟨⟨x_p_w,x_p_wn,x_p_fu,⟨x_p_r0,x_p_r1,x_p_r2,x_p_r3⟩,x_p_ms,x_p_ls,x_p_is⟩,⟨⟨⟨x_c_r0,x_c_r1,x_c_r2,x_c_r3⟩,x_c_mm,x_c_st,x_c_pc⟩,x_c_bf,x_c_rb,x_c_en⟩,x_i,⟨x_e_pc,x_e_vl,x_e_ad,x_e_fr,x_e_nx,x_e_dn,x_e_kn,x_e_ft⟩,⟨x_s_k,x_s_o,x_s_d,⟨x_s_ag,x_s_an⟩,⟨x_s_bg,x_s_bn⟩,x_s_nm,x_s_tg⟩⟩:Spot).c.buf.length<1073741824)(A:List Blk)(nb:Nat)(us:List Nat):Zv false E (Z4 E fn (dp+5)) 145 A nb (some ([.agg [vi x_p_w,vi x_p_wn,vi x_p_fu,vi x_p_r0,vi x_p_r1,vi x_p_r2,vi x_p_r3,rD x_p_ms,rD x_p_ls,rD x_p_is,vi x_c_r0,vi x_c_r1,vi x_c_r2,vi x_c_r3,rD x_c_mm,rD x_c_st,vi x_c_pc,rD x_c_bf,rD x_c_rb,vi x_c_en,vi x_i,vi x_e_pc,vi x_e_vl,vi x_e_ad,vi x_e_fr,vi x_e_nx,vb x_e_dn,vb x_e_kn,vb x_e_ft,vi x_s_k,vi x_s_o,vi x_s_d,vb x_s_ag,vi x_s_an,vb x_s_bg,vi x_s_bn,vt x_s_nm,vi x_s_tg],.agg [vb v_g,vi v_n]],us))=some (.made (.d (.tup [vi (Md.Y2 (⟨⟨x_p_w,x_p_wn,x_p_fu,⟨x_p_r0,x_p_r1,x_p_r2,x_p_r3⟩,x_p_ms,x_p_ls,x_p_is⟩,⟨⟨⟨x_c_r0,x_c_r1,x_c_r2,x_c_r3⟩,x_c_mm,x_c_st,x_c_pc⟩,x_c_bf,x_c_rb,x_c_en⟩,x_i,⟨x_e_pc,x_e_vl,x_e_ad,x_e_fr,x_e_nx,x_e_dn,x_e_kn,x_e_ft⟩,⟨x_s_k,x_s_o,x_s_d,⟨x_s_ag,x_s_an⟩,⟨x_s_bg,x_s_bn⟩,x_s_nm,x_s_tg⟩⟩:Spot).p (⟨⟨x_p_w,x_p_wn,x_p_fu,⟨x_p_r0,x_p_r1,x_p_r2,x_p_r3⟩,x_p_ms,x_p_ls,x_p_is⟩,⟨⟨⟨x_c_r0,x_c_r1,x_c_r2,x_c_r3⟩,x_c_mm,x_c_st,x_c_pc⟩,x_c_bf,x_c_rb,x_c_en⟩,x_i,⟨x_e_pc,x_e_vl,x_e_ad,x_e_fr,x_e_nx,x_e_dn,x_e_kn,x_e_ft⟩,⟨x_s_k,x_s_o,x_s_d,⟨x_s_ag,x_s_an⟩,⟨x_s_bg,x_s_bn⟩,x_s_nm,x_s_tg⟩⟩:Spot).c (⟨⟨x_p_w,x_p_wn,x_p_fu,⟨x_p_r0,x_p_r1,x_p_r2,x_p_r3⟩,x_p_ms,x_p_ls,x_p_is⟩,⟨⟨⟨x_c_r0,x_c_r1,x_c_r2,x_c_r3⟩,x_c_mm,x_c_st,x_c_pc⟩,x_c_bf,x_c_rb,x_c_en⟩,x_i,⟨x_e_pc,x_e_vl,x_e_ad,x_e_fr,x_e_nx,x_e_dn,x_e_kn,x_e_ft⟩,⟨x_s_k,x_s_o,x_s_d,⟨x_s_ag,x_s_an⟩,⟨x_s_bg,x_s_bn⟩,x_s_nm,x_s_tg⟩⟩:Spot).i (⟨v_g,v_n⟩:Val)).1,vb (Md.Y2 (⟨⟨x_p_w,x_p_wn,x_p_fu,⟨x_p_r0,x_p_r1,x_p_r2,x_p_r3⟩,x_p_ms,x_p_ls,x_p_is⟩,⟨⟨⟨x_c_r0,x_c_r1,x_c_r2,x_c_r3⟩,x_c_mm,x_c_st,x_c_pc⟩,x_c_bf,x_c_rb,x_c_en⟩,x_i,⟨x_e_pc,x_e_vl,x_e_ad,x_e_fr,x_e_nx,x_e_dn,x_e_kn,x_e_ft⟩,⟨x_s_k,x_s_o,x_s_d,⟨x_s_ag,x_s_an⟩,⟨x_s_bg,x_s_bn⟩,x_s_nm,x_s_tg⟩⟩:Spot).p (⟨⟨x_p_w,x_p_wn,x_p_fu,⟨x_p_r0,x_p_r1,x_p_r2,x_p_r3⟩,x_p_ms,x_p_ls,x_p_is⟩,⟨⟨⟨x_c_r0,x_c_r1,x_c_r2,x_c_r3⟩,x_c_mm,x_c_st,x_c_pc⟩,x_c_bf,x_c_rb,x_c_en⟩,x_i,⟨x_e_pc,x_e_vl,x_e_ad,x_e_fr,x_e_nx,x_e_dn,x_e_kn,x_e_ft⟩,⟨x_s_k,x_s_o,x_s_d,⟨x_s_ag,x_s_an⟩,⟨x_s_bg,x_s_bn⟩,x_s_nm,x_s_tg⟩⟩:Spot).c (⟨⟨x_p_w,x_p_wn,x_p_fu,⟨x_p_r0,x_p_r1,x_p_r2,x_p_r3⟩,x_p_ms,x_p_ls,x_p_is⟩,⟨⟨⟨x_c_r0,x_c_r1,x_c_r2,x_c_r3⟩,x_c_mm,x_c_st,x_c_pc⟩,x_c_bf,x_c_rb,x_c_en⟩,x_i,⟨x_e_pc,x_e_vl,x_e_ad,x_e_fr,x_e_nx,x_e_dn,x_e_kn,x_e_ft⟩,⟨x_s_k,x_s_o,x_s_d,⟨x_s_ag,x_s_an⟩,⟨x_s_bg,x_s_bn⟩,x_s_nm,x_s_tg⟩⟩:Spot).i (⟨v_g,v_n⟩:Val)).2])) []):=
 Z6.flat (Zky S dp (⟨⟨x_p_w,x_p_wn,x_p_fu,⟨x_p_r0,x_p_r1,x_p_r2,x_p_r3⟩,x_p_ms,x_p_ls,x_p_is⟩,⟨⟨⟨x_c_r0,x_c_r1,x_c_r2,x_c_r3⟩,x_c_mm,x_c_st,x_c_pc⟩,x_c_bf,x_c_rb,x_c_en⟩,x_i,⟨x_e_pc,x_e_vl,x_e_ad,x_e_fr,x_e_nx,x_e_dn,x_e_kn,x_e_ft⟩,⟨x_s_k,x_s_o,x_s_d,⟨x_s_ag,x_s_an⟩,⟨x_s_bg,x_s_bn⟩,x_s_nm,x_s_tg⟩⟩:Spot) (⟨v_g,v_n⟩:Val) hl) (np S 145 (by decide)) (rfl) A nb us
theorem Zkz (dp:Nat)(x:Spot)(hl:x.c.buf.length<1073741824):Z6 E fn (dp+6) 153 [CC x] (.tup [vi (Md.Y2 x.p x.c x.i x.s.a).1,vi (Md.Y2 x.p x.c x.i x.s.b).1,vb ((Md.Y2 x.p x.c x.i x.s.a).2&&(Md.Y2 x.p x.c x.i x.s.b).2)]):=by
 unfold Z6
 show Z7 (Z4 E fn (dp+5+1) 153 [.d (CC x)] [])=_
 rw[ZD,S.Zb5,ZG,Zgi,ZC _ _ _ _ _ _ _ _ rfl]
 cases h:(Md.Y2 x.p x.c x.i x.s.a).2<;>simp only[eG,go_sem,Z3 S,Z2 S,zN0,zN1,zN2,zN3,zN4,zI0,zI1,zI2,zI3,reduceCtorEq,X5 S,hl,h]
theorem NG (dp:Nat)(x_p_w x_p_wn x_p_fu x_p_r0 x_p_r1 x_p_r2 x_p_r3:Int)(x_p_ms:List MemT)(x_p_ls:List Label)(x_p_is:List Ins)(x_c_r0 x_c_r1 x_c_r2 x_c_r3:Int)(x_c_mm x_c_st:List Int)(x_c_pc:Int)(x_c_bf:List Ent)(x_c_rb:List Int)(x_c_en x_i x_e_pc x_e_vl x_e_ad x_e_fr x_e_nx:Int)(x_e_dn x_e_kn x_e_ft:Bool)(x_s_k x_s_o x_s_d:Int)(x_s_ag:Bool)(x_s_an:Int)(x_s_bg:Bool)(x_s_bn:Int)(x_s_nm:ByteArray)(x_s_tg:Int)(hl:(⟨⟨x_p_w,x_p_wn,x_p_fu,⟨x_p_r0,x_p_r1,x_p_r2,x_p_r3⟩,x_p_ms,x_p_ls,x_p_is⟩,⟨⟨⟨x_c_r0,x_c_r1,x_c_r2,x_c_r3⟩,x_c_mm,x_c_st,x_c_pc⟩,x_c_bf,x_c_rb,x_c_en⟩,x_i,⟨x_e_pc,x_e_vl,x_e_ad,x_e_fr,x_e_nx,x_e_dn,x_e_kn,x_e_ft⟩,⟨x_s_k,x_s_o,x_s_d,⟨x_s_ag,x_s_an⟩,⟨x_s_bg,x_s_bn⟩,x_s_nm,x_s_tg⟩⟩:Spot).c.buf.length<1073741824)(A:List Blk)(nb:Nat)(us:List Nat):Zv false E (Z4 E fn (dp+6)) 153 A nb (some ([.agg [vi x_p_w,vi x_p_wn,vi x_p_fu,vi x_p_r0,vi x_p_r1,vi x_p_r2,vi x_p_r3,rD x_p_ms,rD x_p_ls,rD x_p_is,vi x_c_r0,vi x_c_r1,vi x_c_r2,vi x_c_r3,rD x_c_mm,rD x_c_st,vi x_c_pc,rD x_c_bf,rD x_c_rb,vi x_c_en,vi x_i,vi x_e_pc,vi x_e_vl,vi x_e_ad,vi x_e_fr,vi x_e_nx,vb x_e_dn,vb x_e_kn,vb x_e_ft,vi x_s_k,vi x_s_o,vi x_s_d,vb x_s_ag,vi x_s_an,vb x_s_bg,vi x_s_bn,vt x_s_nm,vi x_s_tg]],us))=some (.made (.d (.tup [vi (Md.Y2 (⟨⟨x_p_w,x_p_wn,x_p_fu,⟨x_p_r0,x_p_r1,x_p_r2,x_p_r3⟩,x_p_ms,x_p_ls,x_p_is⟩,⟨⟨⟨x_c_r0,x_c_r1,x_c_r2,x_c_r3⟩,x_c_mm,x_c_st,x_c_pc⟩,x_c_bf,x_c_rb,x_c_en⟩,x_i,⟨x_e_pc,x_e_vl,x_e_ad,x_e_fr,x_e_nx,x_e_dn,x_e_kn,x_e_ft⟩,⟨x_s_k,x_s_o,x_s_d,⟨x_s_ag,x_s_an⟩,⟨x_s_bg,x_s_bn⟩,x_s_nm,x_s_tg⟩⟩:Spot).p (⟨⟨x_p_w,x_p_wn,x_p_fu,⟨x_p_r0,x_p_r1,x_p_r2,x_p_r3⟩,x_p_ms,x_p_ls,x_p_is⟩,⟨⟨⟨x_c_r0,x_c_r1,x_c_r2,x_c_r3⟩,x_c_mm,x_c_st,x_c_pc⟩,x_c_bf,x_c_rb,x_c_en⟩,x_i,⟨x_e_pc,x_e_vl,x_e_ad,x_e_fr,x_e_nx,x_e_dn,x_e_kn,x_e_ft⟩,⟨x_s_k,x_s_o,x_s_d,⟨x_s_ag,x_s_an⟩,⟨x_s_bg,x_s_bn⟩,x_s_nm,x_s_tg⟩⟩:Spot).c (⟨⟨x_p_w,x_p_wn,x_p_fu,⟨x_p_r0,x_p_r1,x_p_r2,x_p_r3⟩,x_p_ms,x_p_ls,x_p_is⟩,⟨⟨⟨x_c_r0,x_c_r1,x_c_r2,x_c_r3⟩,x_c_mm,x_c_st,x_c_pc⟩,x_c_bf,x_c_rb,x_c_en⟩,x_i,⟨x_e_pc,x_e_vl,x_e_ad,x_e_fr,x_e_nx,x_e_dn,x_e_kn,x_e_ft⟩,⟨x_s_k,x_s_o,x_s_d,⟨x_s_ag,x_s_an⟩,⟨x_s_bg,x_s_bn⟩,x_s_nm,x_s_tg⟩⟩:Spot).i (⟨⟨x_p_w,x_p_wn,x_p_fu,⟨x_p_r0,x_p_r1,x_p_r2,x_p_r3⟩,x_p_ms,x_p_ls,x_p_is⟩,⟨⟨⟨x_c_r0,x_c_r1,x_c_r2,x_c_r3⟩,x_c_mm,x_c_st,x_c_pc⟩,x_c_bf,x_c_rb,x_c_en⟩,x_i,⟨x_e_pc,x_e_vl,x_e_ad,x_e_fr,x_e_nx,x_e_dn,x_e_kn,x_e_ft⟩,⟨x_s_k,x_s_o,x_s_d,⟨x_s_ag,x_s_an⟩,⟨x_s_bg,x_s_bn⟩,x_s_nm,x_s_tg⟩⟩:Spot).s.a).1,vi (Md.Y2 (⟨⟨x_p_w,x_p_wn,x_p_fu,⟨x_p_r0,x_p_r1,x_p_r2,x_p_r3⟩,x_p_ms,x_p_ls,x_p_is⟩,⟨⟨⟨x_c_r0,x_c_r1,x_c_r2,x_c_r3⟩,x_c_mm,x_c_st,x_c_pc⟩,x_c_bf,x_c_rb,x_c_en⟩,x_i,⟨x_e_pc,x_e_vl,x_e_ad,x_e_fr,x_e_nx,x_e_dn,x_e_kn,x_e_ft⟩,⟨x_s_k,x_s_o,x_s_d,⟨x_s_ag,x_s_an⟩,⟨x_s_bg,x_s_bn⟩,x_s_nm,x_s_tg⟩⟩:Spot).p (⟨⟨x_p_w,x_p_wn,x_p_fu,⟨x_p_r0,x_p_r1,x_p_r2,x_p_r3⟩,x_p_ms,x_p_ls,x_p_is⟩,⟨⟨⟨x_c_r0,x_c_r1,x_c_r2,x_c_r3⟩,x_c_mm,x_c_st,x_c_pc⟩,x_c_bf,x_c_rb,x_c_en⟩,x_i,⟨x_e_pc,x_e_vl,x_e_ad,x_e_fr,x_e_nx,x_e_dn,x_e_kn,x_e_ft⟩,⟨x_s_k,x_s_o,x_s_d,⟨x_s_ag,x_s_an⟩,⟨x_s_bg,x_s_bn⟩,x_s_nm,x_s_tg⟩⟩:Spot).c (⟨⟨x_p_w,x_p_wn,x_p_fu,⟨x_p_r0,x_p_r1,x_p_r2,x_p_r3⟩,x_p_ms,x_p_ls,x_p_is⟩,⟨⟨⟨x_c_r0,x_c_r1,x_c_r2,x_c_r3⟩,x_c_mm,x_c_st,x_c_pc⟩,x_c_bf,x_c_rb,x_c_en⟩,x_i,⟨x_e_pc,x_e_vl,x_e_ad,x_e_fr,x_e_nx,x_e_dn,x_e_kn,x_e_ft⟩,⟨x_s_k,x_s_o,x_s_d,⟨x_s_ag,x_s_an⟩,⟨x_s_bg,x_s_bn⟩,x_s_nm,x_s_tg⟩⟩:Spot).i (⟨⟨x_p_w,x_p_wn,x_p_fu,⟨x_p_r0,x_p_r1,x_p_r2,x_p_r3⟩,x_p_ms,x_p_ls,x_p_is⟩,⟨⟨⟨x_c_r0,x_c_r1,x_c_r2,x_c_r3⟩,x_c_mm,x_c_st,x_c_pc⟩,x_c_bf,x_c_rb,x_c_en⟩,x_i,⟨x_e_pc,x_e_vl,x_e_ad,x_e_fr,x_e_nx,x_e_dn,x_e_kn,x_e_ft⟩,⟨x_s_k,x_s_o,x_s_d,⟨x_s_ag,x_s_an⟩,⟨x_s_bg,x_s_bn⟩,x_s_nm,x_s_tg⟩⟩:Spot).s.b).1,vb ((Md.Y2 (⟨⟨x_p_w,x_p_wn,x_p_fu,⟨x_p_r0,x_p_r1,x_p_r2,x_p_r3⟩,x_p_ms,x_p_ls,x_p_is⟩,⟨⟨⟨x_c_r0,x_c_r1,x_c_r2,x_c_r3⟩,x_c_mm,x_c_st,x_c_pc⟩,x_c_bf,x_c_rb,x_c_en⟩,x_i,⟨x_e_pc,x_e_vl,x_e_ad,x_e_fr,x_e_nx,x_e_dn,x_e_kn,x_e_ft⟩,⟨x_s_k,x_s_o,x_s_d,⟨x_s_ag,x_s_an⟩,⟨x_s_bg,x_s_bn⟩,x_s_nm,x_s_tg⟩⟩:Spot).p (⟨⟨x_p_w,x_p_wn,x_p_fu,⟨x_p_r0,x_p_r1,x_p_r2,x_p_r3⟩,x_p_ms,x_p_ls,x_p_is⟩,⟨⟨⟨x_c_r0,x_c_r1,x_c_r2,x_c_r3⟩,x_c_mm,x_c_st,x_c_pc⟩,x_c_bf,x_c_rb,x_c_en⟩,x_i,⟨x_e_pc,x_e_vl,x_e_ad,x_e_fr,x_e_nx,x_e_dn,x_e_kn,x_e_ft⟩,⟨x_s_k,x_s_o,x_s_d,⟨x_s_ag,x_s_an⟩,⟨x_s_bg,x_s_bn⟩,x_s_nm,x_s_tg⟩⟩:Spot).c (⟨⟨x_p_w,x_p_wn,x_p_fu,⟨x_p_r0,x_p_r1,x_p_r2,x_p_r3⟩,x_p_ms,x_p_ls,x_p_is⟩,⟨⟨⟨x_c_r0,x_c_r1,x_c_r2,x_c_r3⟩,x_c_mm,x_c_st,x_c_pc⟩,x_c_bf,x_c_rb,x_c_en⟩,x_i,⟨x_e_pc,x_e_vl,x_e_ad,x_e_fr,x_e_nx,x_e_dn,x_e_kn,x_e_ft⟩,⟨x_s_k,x_s_o,x_s_d,⟨x_s_ag,x_s_an⟩,⟨x_s_bg,x_s_bn⟩,x_s_nm,x_s_tg⟩⟩:Spot).i (⟨⟨x_p_w,x_p_wn,x_p_fu,⟨x_p_r0,x_p_r1,x_p_r2,x_p_r3⟩,x_p_ms,x_p_ls,x_p_is⟩,⟨⟨⟨x_c_r0,x_c_r1,x_c_r2,x_c_r3⟩,x_c_mm,x_c_st,x_c_pc⟩,x_c_bf,x_c_rb,x_c_en⟩,x_i,⟨x_e_pc,x_e_vl,x_e_ad,x_e_fr,x_e_nx,x_e_dn,x_e_kn,x_e_ft⟩,⟨x_s_k,x_s_o,x_s_d,⟨x_s_ag,x_s_an⟩,⟨x_s_bg,x_s_bn⟩,x_s_nm,x_s_tg⟩⟩:Spot).s.a).2&&(Md.Y2 (⟨⟨x_p_w,x_p_wn,x_p_fu,⟨x_p_r0,x_p_r1,x_p_r2,x_p_r3⟩,x_p_ms,x_p_ls,x_p_is⟩,⟨⟨⟨x_c_r0,x_c_r1,x_c_r2,x_c_r3⟩,x_c_mm,x_c_st,x_c_pc⟩,x_c_bf,x_c_rb,x_c_en⟩,x_i,⟨x_e_pc,x_e_vl,x_e_ad,x_e_fr,x_e_nx,x_e_dn,x_e_kn,x_e_ft⟩,⟨x_s_k,x_s_o,x_s_d,⟨x_s_ag,x_s_an⟩,⟨x_s_bg,x_s_bn⟩,x_s_nm,x_s_tg⟩⟩:Spot).p (⟨⟨x_p_w,x_p_wn,x_p_fu,⟨x_p_r0,x_p_r1,x_p_r2,x_p_r3⟩,x_p_ms,x_p_ls,x_p_is⟩,⟨⟨⟨x_c_r0,x_c_r1,x_c_r2,x_c_r3⟩,x_c_mm,x_c_st,x_c_pc⟩,x_c_bf,x_c_rb,x_c_en⟩,x_i,⟨x_e_pc,x_e_vl,x_e_ad,x_e_fr,x_e_nx,x_e_dn,x_e_kn,x_e_ft⟩,⟨x_s_k,x_s_o,x_s_d,⟨x_s_ag,x_s_an⟩,⟨x_s_bg,x_s_bn⟩,x_s_nm,x_s_tg⟩⟩:Spot).c (⟨⟨x_p_w,x_p_wn,x_p_fu,⟨x_p_r0,x_p_r1,x_p_r2,x_p_r3⟩,x_p_ms,x_p_ls,x_p_is⟩,⟨⟨⟨x_c_r0,x_c_r1,x_c_r2,x_c_r3⟩,x_c_mm,x_c_st,x_c_pc⟩,x_c_bf,x_c_rb,x_c_en⟩,x_i,⟨x_e_pc,x_e_vl,x_e_ad,x_e_fr,x_e_nx,x_e_dn,x_e_kn,x_e_ft⟩,⟨x_s_k,x_s_o,x_s_d,⟨x_s_ag,x_s_an⟩,⟨x_s_bg,x_s_bn⟩,x_s_nm,x_s_tg⟩⟩:Spot).i (⟨⟨x_p_w,x_p_wn,x_p_fu,⟨x_p_r0,x_p_r1,x_p_r2,x_p_r3⟩,x_p_ms,x_p_ls,x_p_is⟩,⟨⟨⟨x_c_r0,x_c_r1,x_c_r2,x_c_r3⟩,x_c_mm,x_c_st,x_c_pc⟩,x_c_bf,x_c_rb,x_c_en⟩,x_i,⟨x_e_pc,x_e_vl,x_e_ad,x_e_fr,x_e_nx,x_e_dn,x_e_kn,x_e_ft⟩,⟨x_s_k,x_s_o,x_s_d,⟨x_s_ag,x_s_an⟩,⟨x_s_bg,x_s_bn⟩,x_s_nm,x_s_tg⟩⟩:Spot).s.b).2)])) []):=
 Z6.flat (Zkz S dp (⟨⟨x_p_w,x_p_wn,x_p_fu,⟨x_p_r0,x_p_r1,x_p_r2,x_p_r3⟩,x_p_ms,x_p_ls,x_p_is⟩,⟨⟨⟨x_c_r0,x_c_r1,x_c_r2,x_c_r3⟩,x_c_mm,x_c_st,x_c_pc⟩,x_c_bf,x_c_rb,x_c_en⟩,x_i,⟨x_e_pc,x_e_vl,x_e_ad,x_e_fr,x_e_nx,x_e_dn,x_e_kn,x_e_ft⟩,⟨x_s_k,x_s_o,x_s_d,⟨x_s_ag,x_s_an⟩,⟨x_s_bg,x_s_bn⟩,x_s_nm,x_s_tg⟩⟩:Spot) hl) (np S 153 (by decide)) (rfl) A nb us
theorem Zl3 (dp:Nat)(x:Spot)(hl:x.c.buf.length<1073741824):Z6 E fn (dp+6) 146 [CC x] (.tup [vi (Md.C5 x.p x.c x.i x.s.d).1,vb (Md.C5 x.p x.c x.i x.s.d).2]):=by
 unfold Z6
 show Z7 (Z4 E fn (dp+5+1) 146 [.d (CC x)] [])=_
 rw[ZD,S.Zb9,ZG,Zgm,ZC _ _ _ _ _ _ _ _ rfl]
 simp only[eG,go_sem,Z3 S,Z2 S,zN0,zN1,zN2,zN3,zN4,zI0,zI1,zI2,zI3,reduceCtorEq,X5 S,hl,Md.Y2,Md.val,Md.C5]
theorem Zd3 (dp:Nat)(x_p_w x_p_wn x_p_fu x_p_r0 x_p_r1 x_p_r2 x_p_r3:Int)(x_p_ms:List MemT)(x_p_ls:List Label)(x_p_is:List Ins)(x_c_r0 x_c_r1 x_c_r2 x_c_r3:Int)(x_c_mm x_c_st:List Int)(x_c_pc:Int)(x_c_bf:List Ent)(x_c_rb:List Int)(x_c_en x_i x_e_pc x_e_vl x_e_ad x_e_fr x_e_nx:Int)(x_e_dn x_e_kn x_e_ft:Bool)(x_s_k x_s_o x_s_d:Int)(x_s_ag:Bool)(x_s_an:Int)(x_s_bg:Bool)(x_s_bn:Int)(x_s_nm:ByteArray)(x_s_tg:Int)(hl:(⟨⟨x_p_w,x_p_wn,x_p_fu,⟨x_p_r0,x_p_r1,x_p_r2,x_p_r3⟩,x_p_ms,x_p_ls,x_p_is⟩,⟨⟨⟨x_c_r0,x_c_r1,x_c_r2,x_c_r3⟩,x_c_mm,x_c_st,x_c_pc⟩,x_c_bf,x_c_rb,x_c_en⟩,x_i,⟨x_e_pc,x_e_vl,x_e_ad,x_e_fr,x_e_nx,x_e_dn,x_e_kn,x_e_ft⟩,⟨x_s_k,x_s_o,x_s_d,⟨x_s_ag,x_s_an⟩,⟨x_s_bg,x_s_bn⟩,x_s_nm,x_s_tg⟩⟩:Spot).c.buf.length<1073741824)(A:List Blk)(nb:Nat)(us:List Nat):Zv false E (Z4 E fn (dp+6)) 146 A nb (some ([.agg [vi x_p_w,vi x_p_wn,vi x_p_fu,vi x_p_r0,vi x_p_r1,vi x_p_r2,vi x_p_r3,rD x_p_ms,rD x_p_ls,rD x_p_is,vi x_c_r0,vi x_c_r1,vi x_c_r2,vi x_c_r3,rD x_c_mm,rD x_c_st,vi x_c_pc,rD x_c_bf,rD x_c_rb,vi x_c_en,vi x_i,vi x_e_pc,vi x_e_vl,vi x_e_ad,vi x_e_fr,vi x_e_nx,vb x_e_dn,vb x_e_kn,vb x_e_ft,vi x_s_k,vi x_s_o,vi x_s_d,vb x_s_ag,vi x_s_an,vb x_s_bg,vi x_s_bn,vt x_s_nm,vi x_s_tg]],us))=some (.made (.d (.tup [vi (Md.C5 (⟨⟨x_p_w,x_p_wn,x_p_fu,⟨x_p_r0,x_p_r1,x_p_r2,x_p_r3⟩,x_p_ms,x_p_ls,x_p_is⟩,⟨⟨⟨x_c_r0,x_c_r1,x_c_r2,x_c_r3⟩,x_c_mm,x_c_st,x_c_pc⟩,x_c_bf,x_c_rb,x_c_en⟩,x_i,⟨x_e_pc,x_e_vl,x_e_ad,x_e_fr,x_e_nx,x_e_dn,x_e_kn,x_e_ft⟩,⟨x_s_k,x_s_o,x_s_d,⟨x_s_ag,x_s_an⟩,⟨x_s_bg,x_s_bn⟩,x_s_nm,x_s_tg⟩⟩:Spot).p (⟨⟨x_p_w,x_p_wn,x_p_fu,⟨x_p_r0,x_p_r1,x_p_r2,x_p_r3⟩,x_p_ms,x_p_ls,x_p_is⟩,⟨⟨⟨x_c_r0,x_c_r1,x_c_r2,x_c_r3⟩,x_c_mm,x_c_st,x_c_pc⟩,x_c_bf,x_c_rb,x_c_en⟩,x_i,⟨x_e_pc,x_e_vl,x_e_ad,x_e_fr,x_e_nx,x_e_dn,x_e_kn,x_e_ft⟩,⟨x_s_k,x_s_o,x_s_d,⟨x_s_ag,x_s_an⟩,⟨x_s_bg,x_s_bn⟩,x_s_nm,x_s_tg⟩⟩:Spot).c (⟨⟨x_p_w,x_p_wn,x_p_fu,⟨x_p_r0,x_p_r1,x_p_r2,x_p_r3⟩,x_p_ms,x_p_ls,x_p_is⟩,⟨⟨⟨x_c_r0,x_c_r1,x_c_r2,x_c_r3⟩,x_c_mm,x_c_st,x_c_pc⟩,x_c_bf,x_c_rb,x_c_en⟩,x_i,⟨x_e_pc,x_e_vl,x_e_ad,x_e_fr,x_e_nx,x_e_dn,x_e_kn,x_e_ft⟩,⟨x_s_k,x_s_o,x_s_d,⟨x_s_ag,x_s_an⟩,⟨x_s_bg,x_s_bn⟩,x_s_nm,x_s_tg⟩⟩:Spot).i (⟨⟨x_p_w,x_p_wn,x_p_fu,⟨x_p_r0,x_p_r1,x_p_r2,x_p_r3⟩,x_p_ms,x_p_ls,x_p_is⟩,⟨⟨⟨x_c_r0,x_c_r1,x_c_r2,x_c_r3⟩,x_c_mm,x_c_st,x_c_pc⟩,x_c_bf,x_c_rb,x_c_en⟩,x_i,⟨x_e_pc,x_e_vl,x_e_ad,x_e_fr,x_e_nx,x_e_dn,x_e_kn,x_e_ft⟩,⟨x_s_k,x_s_o,x_s_d,⟨x_s_ag,x_s_an⟩,⟨x_s_bg,x_s_bn⟩,x_s_nm,x_s_tg⟩⟩:Spot).s.d).1,vb (Md.C5 (⟨⟨x_p_w,x_p_wn,x_p_fu,⟨x_p_r0,x_p_r1,x_p_r2,x_p_r3⟩,x_p_ms,x_p_ls,x_p_is⟩,⟨⟨⟨x_c_r0,x_c_r1,x_c_r2,x_c_r3⟩,x_c_mm,x_c_st,x_c_pc⟩,x_c_bf,x_c_rb,x_c_en⟩,x_i,⟨x_e_pc,x_e_vl,x_e_ad,x_e_fr,x_e_nx,x_e_dn,x_e_kn,x_e_ft⟩,⟨x_s_k,x_s_o,x_s_d,⟨x_s_ag,x_s_an⟩,⟨x_s_bg,x_s_bn⟩,x_s_nm,x_s_tg⟩⟩:Spot).p (⟨⟨x_p_w,x_p_wn,x_p_fu,⟨x_p_r0,x_p_r1,x_p_r2,x_p_r3⟩,x_p_ms,x_p_ls,x_p_is⟩,⟨⟨⟨x_c_r0,x_c_r1,x_c_r2,x_c_r3⟩,x_c_mm,x_c_st,x_c_pc⟩,x_c_bf,x_c_rb,x_c_en⟩,x_i,⟨x_e_pc,x_e_vl,x_e_ad,x_e_fr,x_e_nx,x_e_dn,x_e_kn,x_e_ft⟩,⟨x_s_k,x_s_o,x_s_d,⟨x_s_ag,x_s_an⟩,⟨x_s_bg,x_s_bn⟩,x_s_nm,x_s_tg⟩⟩:Spot).c (⟨⟨x_p_w,x_p_wn,x_p_fu,⟨x_p_r0,x_p_r1,x_p_r2,x_p_r3⟩,x_p_ms,x_p_ls,x_p_is⟩,⟨⟨⟨x_c_r0,x_c_r1,x_c_r2,x_c_r3⟩,x_c_mm,x_c_st,x_c_pc⟩,x_c_bf,x_c_rb,x_c_en⟩,x_i,⟨x_e_pc,x_e_vl,x_e_ad,x_e_fr,x_e_nx,x_e_dn,x_e_kn,x_e_ft⟩,⟨x_s_k,x_s_o,x_s_d,⟨x_s_ag,x_s_an⟩,⟨x_s_bg,x_s_bn⟩,x_s_nm,x_s_tg⟩⟩:Spot).i (⟨⟨x_p_w,x_p_wn,x_p_fu,⟨x_p_r0,x_p_r1,x_p_r2,x_p_r3⟩,x_p_ms,x_p_ls,x_p_is⟩,⟨⟨⟨x_c_r0,x_c_r1,x_c_r2,x_c_r3⟩,x_c_mm,x_c_st,x_c_pc⟩,x_c_bf,x_c_rb,x_c_en⟩,x_i,⟨x_e_pc,x_e_vl,x_e_ad,x_e_fr,x_e_nx,x_e_dn,x_e_kn,x_e_ft⟩,⟨x_s_k,x_s_o,x_s_d,⟨x_s_ag,x_s_an⟩,⟨x_s_bg,x_s_bn⟩,x_s_nm,x_s_tg⟩⟩:Spot).s.d).2])) []):=
 Z6.flat (Zl3 S dp (⟨⟨x_p_w,x_p_wn,x_p_fu,⟨x_p_r0,x_p_r1,x_p_r2,x_p_r3⟩,x_p_ms,x_p_ls,x_p_is⟩,⟨⟨⟨x_c_r0,x_c_r1,x_c_r2,x_c_r3⟩,x_c_mm,x_c_st,x_c_pc⟩,x_c_bf,x_c_rb,x_c_en⟩,x_i,⟨x_e_pc,x_e_vl,x_e_ad,x_e_fr,x_e_nx,x_e_dn,x_e_kn,x_e_ft⟩,⟨x_s_k,x_s_o,x_s_d,⟨x_s_ag,x_s_an⟩,⟨x_s_bg,x_s_bn⟩,x_s_nm,x_s_tg⟩⟩:Spot) hl) (np S 146 (by decide)) (rfl) A nb us
end
def M3 (x:Spot):Bool:=(Md.Y2 x.p x.c x.i x.s.a).2&&(Md.Y2 x.p x.c x.i x.s.b).2
def FX (x:Spot):Int:=Md.Y1 x.p.w ((Md.Y2 x.p x.c x.i x.s.a).1+(Md.Y2 x.p x.c x.i x.s.b).1)
def N5 (x:Spot):Bool:=decide (FX x<Zz x.p.mems)
def FH (x:Spot):Ent×Bool×Bool:=
 bif M3 x then
  (bif N5 x then (⟨x.e.pc, (Md.F0 x.p x.c x.i (FX x)).1, FX x, (Md.F0 x.p x.c x.i (FX x)).2.1, x.e.next, true, true, x.e.fault⟩, true, (Md.F0 x.p x.c x.i (FX x)).2.2)
   else(⟨x.e.pc,0,FX x,-1,x.e.next,true,true,true⟩,false,true))
 else(Md.Nq,false,false)
def SY (x:Spot):Bool:=Md.ready (Zz x.p.mems) x.p x.c x.i x.s (Md.Y2 x.p x.c x.i x.s.a) (Md.Y2 x.p x.c x.i x.s.b) (Md.C5 x.p x.c x.i x.s.d)
variable {E:Env} {fn:FuncId->Option (Env->cT->cT)}
section
variable (S:Sur E fn)
include S
theorem Z0z:E.lives 151 9=none/\E.lives 151 19=none:=⟨off S 151 9 (by decide) rfl,off S 151 19 (by decide) rfl⟩
theorem Znd:E.lives 201 15=none/\E.lives 201 17=none/\E.lives 201 21=none/\E.lives 201 25=none/\E.lives 201 31=none/\E.lives 201 35=none:=⟨off S 201 15 (by decide) rfl,off S 201 17 (by decide) rfl,off S 201 21 (by decide) rfl,off S 201 25 (by decide) rfl,off S 201 31 (by decide) rfl,off S 201 35 (by decide) rfl⟩
theorem Zl2 (dp:Nat)(x:Spot)(hl:x.c.buf.length<1073741824)(hm:x.p.mems.length<1073741824):Z6 E fn (dp+7) 151 [CC x] (.tup [.agg (Cl.cells (FH x).1),vb (FH x).2.1,vb (FH x).2.2]):=by
 unfold Z6
 show Z7 (Z4 E fn (dp+6+1) 151 [.d (CC x)] [])=_
 rw[ZD,S.Zb8,ZG,Zgl,ZC _ _ _ _ _ _ _ _ rfl]
 have e1:((Md.Y2 x.p x.c x.i x.s.a).2&&(Md.Y2 x.p x.c x.i x.s.b).2)=M3 x:=rfl
 have e2:Md.Y1 x.p.w ((Md.Y2 x.p x.c x.i x.s.a).1+(Md.Y2 x.p x.c x.i x.s.b).1)=FX x:=rfl
 have e3:decide (FX x<Zz x.p.mems)=N5 x:=rfl
 cases h:M3 x with
 | false=>simp only[eG,go_sem,Z3 S,Z2 S,zN0,zN1,zN2,zN3,zN4,zI0,zI1,zI2,zI3,reduceCtorEq,Z0z S,NG S,hl,e1,h,Bool.not_false,FH,Md.Nq]
 | true=>
  cases h2:N5 x with
  | true=>simp only[eG,go_sem,Z3 S,Z2 S,zN0,zN1,zN2,zN3,zN4,zI0,zI1,zI2,zI3,reduceCtorEq,Z0z S,NG S,hl,hm,e1,e2,e3,h,h2,Bool.not_true,Bool.not_false,FH,U3 S,Zsj S,Md.F0]
  | false=>simp only[eG,go_sem,Z3 S,Z2 S,zN0,zN1,zN2,zN3,zN4,zI0,zI1,zI2,zI3,reduceCtorEq,Z0z S,NG S,hl,hm,e1,e2,e3,h,h2,Bool.not_true,Bool.not_false,FH,U3 S]
theorem Zd2 (dp:Nat)(x_p_w x_p_wn x_p_fu x_p_r0 x_p_r1 x_p_r2 x_p_r3:Int)(x_p_ms:List MemT)(x_p_ls:List Label)(x_p_is:List Ins)(x_c_r0 x_c_r1 x_c_r2 x_c_r3:Int)(x_c_mm x_c_st:List Int)(x_c_pc:Int)(x_c_bf:List Ent)(x_c_rb:List Int)(x_c_en x_i x_e_pc x_e_vl x_e_ad x_e_fr x_e_nx:Int)(x_e_dn x_e_kn x_e_ft:Bool)(x_s_k x_s_o x_s_d:Int)(x_s_ag:Bool)(x_s_an:Int)(x_s_bg:Bool)(x_s_bn:Int)(x_s_nm:ByteArray)(x_s_tg:Int)(hl:(⟨⟨x_p_w,x_p_wn,x_p_fu,⟨x_p_r0,x_p_r1,x_p_r2,x_p_r3⟩,x_p_ms,x_p_ls,x_p_is⟩,⟨⟨⟨x_c_r0,x_c_r1,x_c_r2,x_c_r3⟩,x_c_mm,x_c_st,x_c_pc⟩,x_c_bf,x_c_rb,x_c_en⟩,x_i,⟨x_e_pc,x_e_vl,x_e_ad,x_e_fr,x_e_nx,x_e_dn,x_e_kn,x_e_ft⟩,⟨x_s_k,x_s_o,x_s_d,⟨x_s_ag,x_s_an⟩,⟨x_s_bg,x_s_bn⟩,x_s_nm,x_s_tg⟩⟩:Spot).c.buf.length<1073741824)(hm:(⟨⟨x_p_w,x_p_wn,x_p_fu,⟨x_p_r0,x_p_r1,x_p_r2,x_p_r3⟩,x_p_ms,x_p_ls,x_p_is⟩,⟨⟨⟨x_c_r0,x_c_r1,x_c_r2,x_c_r3⟩,x_c_mm,x_c_st,x_c_pc⟩,x_c_bf,x_c_rb,x_c_en⟩,x_i,⟨x_e_pc,x_e_vl,x_e_ad,x_e_fr,x_e_nx,x_e_dn,x_e_kn,x_e_ft⟩,⟨x_s_k,x_s_o,x_s_d,⟨x_s_ag,x_s_an⟩,⟨x_s_bg,x_s_bn⟩,x_s_nm,x_s_tg⟩⟩:Spot).p.mems.length<1073741824)(A:List Blk)(nb:Nat)(us:List Nat):Zv false E (Z4 E fn (dp+7)) 151 A nb (some ([.agg [vi x_p_w,vi x_p_wn,vi x_p_fu,vi x_p_r0,vi x_p_r1,vi x_p_r2,vi x_p_r3,rD x_p_ms,rD x_p_ls,rD x_p_is,vi x_c_r0,vi x_c_r1,vi x_c_r2,vi x_c_r3,rD x_c_mm,rD x_c_st,vi x_c_pc,rD x_c_bf,rD x_c_rb,vi x_c_en,vi x_i,vi x_e_pc,vi x_e_vl,vi x_e_ad,vi x_e_fr,vi x_e_nx,vb x_e_dn,vb x_e_kn,vb x_e_ft,vi x_s_k,vi x_s_o,vi x_s_d,vb x_s_ag,vi x_s_an,vb x_s_bg,vi x_s_bn,vt x_s_nm,vi x_s_tg]],us))=some (.made (.d (.tup [.agg (Cl.cells (FH (⟨⟨x_p_w,x_p_wn,x_p_fu,⟨x_p_r0,x_p_r1,x_p_r2,x_p_r3⟩,x_p_ms,x_p_ls,x_p_is⟩,⟨⟨⟨x_c_r0,x_c_r1,x_c_r2,x_c_r3⟩,x_c_mm,x_c_st,x_c_pc⟩,x_c_bf,x_c_rb,x_c_en⟩,x_i,⟨x_e_pc,x_e_vl,x_e_ad,x_e_fr,x_e_nx,x_e_dn,x_e_kn,x_e_ft⟩,⟨x_s_k,x_s_o,x_s_d,⟨x_s_ag,x_s_an⟩,⟨x_s_bg,x_s_bn⟩,x_s_nm,x_s_tg⟩⟩:Spot)).1),vb (FH (⟨⟨x_p_w,x_p_wn,x_p_fu,⟨x_p_r0,x_p_r1,x_p_r2,x_p_r3⟩,x_p_ms,x_p_ls,x_p_is⟩,⟨⟨⟨x_c_r0,x_c_r1,x_c_r2,x_c_r3⟩,x_c_mm,x_c_st,x_c_pc⟩,x_c_bf,x_c_rb,x_c_en⟩,x_i,⟨x_e_pc,x_e_vl,x_e_ad,x_e_fr,x_e_nx,x_e_dn,x_e_kn,x_e_ft⟩,⟨x_s_k,x_s_o,x_s_d,⟨x_s_ag,x_s_an⟩,⟨x_s_bg,x_s_bn⟩,x_s_nm,x_s_tg⟩⟩:Spot)).2.1,vb (FH (⟨⟨x_p_w,x_p_wn,x_p_fu,⟨x_p_r0,x_p_r1,x_p_r2,x_p_r3⟩,x_p_ms,x_p_ls,x_p_is⟩,⟨⟨⟨x_c_r0,x_c_r1,x_c_r2,x_c_r3⟩,x_c_mm,x_c_st,x_c_pc⟩,x_c_bf,x_c_rb,x_c_en⟩,x_i,⟨x_e_pc,x_e_vl,x_e_ad,x_e_fr,x_e_nx,x_e_dn,x_e_kn,x_e_ft⟩,⟨x_s_k,x_s_o,x_s_d,⟨x_s_ag,x_s_an⟩,⟨x_s_bg,x_s_bn⟩,x_s_nm,x_s_tg⟩⟩:Spot)).2.2])) []):=
 Z6.flat (Zl2 S dp (⟨⟨x_p_w,x_p_wn,x_p_fu,⟨x_p_r0,x_p_r1,x_p_r2,x_p_r3⟩,x_p_ms,x_p_ls,x_p_is⟩,⟨⟨⟨x_c_r0,x_c_r1,x_c_r2,x_c_r3⟩,x_c_mm,x_c_st,x_c_pc⟩,x_c_bf,x_c_rb,x_c_en⟩,x_i,⟨x_e_pc,x_e_vl,x_e_ad,x_e_fr,x_e_nx,x_e_dn,x_e_kn,x_e_ft⟩,⟨x_s_k,x_s_o,x_s_d,⟨x_s_ag,x_s_an⟩,⟨x_s_bg,x_s_bn⟩,x_s_nm,x_s_tg⟩⟩:Spot) hl hm) (np S 151 (by decide)) (rfl) A nb us
theorem Zl0 (dp:Nat)(x:Spot)(hl:x.c.buf.length<1073741824)(hm:x.p.mems.length<1073741824):Z6 E fn (dp+8) 201 [CC x] (vb (SY x)):=by
 unfold Z6
 show Z7 (Z4 E fn (dp+7+1) 201 [.d (CC x)] [])=_
 rw[ZD,S.Zb6,ZG,Zgj,ZC _ _ _ _ _ _ _ _ rfl]
 have e1:((Md.Y2 x.p x.c x.i x.s.a).2&&(Md.Y2 x.p x.c x.i x.s.b).2)=M3 x:=rfl
 have hld:(FH x).2.2=(M3 x&&(decide (FX x>=Zz x.p.mems) || (Md.F0 x.p x.c x.i (FX x)).2.2)):=by
  unfold FH N5
  cases M3 x with
  | false=>rfl
  | true=>
   by_cases h:FX x<Zz x.p.mems
   ·simp[h,Int.not_le.2 h]
   ·simp[h,Int.not_lt.1 h]
 unfold SY
 cases hab:M3 x<;>simp only[eG,go_sem,Z3 S,Z2 S,zN0,zN1,zN2,zN3,zN4,zI0,zI1,zI2,zI3,reduceCtorEq,Znd S,NG S,Zd3 S,X5 S,Zd2 S,hl,hm,e1,hab,hld]
 all_goals
  have h':=hab
  unfold M3 at h'
  by_cases k1:x.s.kind=1
  ·simp only[k1,Md.ready,h',if_true,decide_true,cond_true,true_or]
  by_cases k5:x.s.kind=5
  ·simp only[k5,Md.ready,h',if_true,decide_true,cond_true,or_true,zI0,decide_false,cond_false]
  by_cases k4:x.s.kind=4
  ·simp only[k4,Md.ready,h',if_true,if_false,decide_true,cond_true,or_self,zI0,decide_false,cond_false,Bool.true_and,Bool.false_and]
  by_cases k2:x.s.kind=2
  ·simp only [k2, Md.ready, h', if_true, if_false, decide_true, cond_true, or_self, zI0, decide_false, cond_false, Bool.true_and, Bool.false_and, FX]
   try rfl
  by_cases k3:x.s.kind=3
  ·simp only[k3,Md.ready,if_true,if_false,decide_true,cond_true,or_self,zI0,decide_false,cond_false]
  by_cases k7:x.s.kind=7
  ·simp only[k7,Md.ready,if_true,if_false,decide_true,cond_true,or_self,zI0,decide_false,cond_false]
  ·simp only[k1,k2,k3,k4,k5,k7,Md.ready,if_true,if_false,decide_true,cond_true,or_self,zI0,decide_false,cond_false]
theorem Zsn (dp:Nat)(x_p_w x_p_wn x_p_fu x_p_r0 x_p_r1 x_p_r2 x_p_r3:Int)(x_p_ms:List MemT)(x_p_ls:List Label)(x_p_is:List Ins)(x_c_r0 x_c_r1 x_c_r2 x_c_r3:Int)(x_c_mm x_c_st:List Int)(x_c_pc:Int)(x_c_bf:List Ent)(x_c_rb:List Int)(x_c_en x_i x_e_pc x_e_vl x_e_ad x_e_fr x_e_nx:Int)(x_e_dn x_e_kn x_e_ft:Bool)(x_s_k x_s_o x_s_d:Int)(x_s_ag:Bool)(x_s_an:Int)(x_s_bg:Bool)(x_s_bn:Int)(x_s_nm:ByteArray)(x_s_tg:Int)(hl:(⟨⟨x_p_w,x_p_wn,x_p_fu,⟨x_p_r0,x_p_r1,x_p_r2,x_p_r3⟩,x_p_ms,x_p_ls,x_p_is⟩,⟨⟨⟨x_c_r0,x_c_r1,x_c_r2,x_c_r3⟩,x_c_mm,x_c_st,x_c_pc⟩,x_c_bf,x_c_rb,x_c_en⟩,x_i,⟨x_e_pc,x_e_vl,x_e_ad,x_e_fr,x_e_nx,x_e_dn,x_e_kn,x_e_ft⟩,⟨x_s_k,x_s_o,x_s_d,⟨x_s_ag,x_s_an⟩,⟨x_s_bg,x_s_bn⟩,x_s_nm,x_s_tg⟩⟩:Spot).c.buf.length<1073741824)(hm:(⟨⟨x_p_w,x_p_wn,x_p_fu,⟨x_p_r0,x_p_r1,x_p_r2,x_p_r3⟩,x_p_ms,x_p_ls,x_p_is⟩,⟨⟨⟨x_c_r0,x_c_r1,x_c_r2,x_c_r3⟩,x_c_mm,x_c_st,x_c_pc⟩,x_c_bf,x_c_rb,x_c_en⟩,x_i,⟨x_e_pc,x_e_vl,x_e_ad,x_e_fr,x_e_nx,x_e_dn,x_e_kn,x_e_ft⟩,⟨x_s_k,x_s_o,x_s_d,⟨x_s_ag,x_s_an⟩,⟨x_s_bg,x_s_bn⟩,x_s_nm,x_s_tg⟩⟩:Spot).p.mems.length<1073741824)(A:List Blk)(nb:Nat)(us:List Nat):Zv false E (Z4 E fn (dp+8)) 201 A nb (some ([.agg [vi x_p_w,vi x_p_wn,vi x_p_fu,vi x_p_r0,vi x_p_r1,vi x_p_r2,vi x_p_r3,rD x_p_ms,rD x_p_ls,rD x_p_is,vi x_c_r0,vi x_c_r1,vi x_c_r2,vi x_c_r3,rD x_c_mm,rD x_c_st,vi x_c_pc,rD x_c_bf,rD x_c_rb,vi x_c_en,vi x_i,vi x_e_pc,vi x_e_vl,vi x_e_ad,vi x_e_fr,vi x_e_nx,vb x_e_dn,vb x_e_kn,vb x_e_ft,vi x_s_k,vi x_s_o,vi x_s_d,vb x_s_ag,vi x_s_an,vb x_s_bg,vi x_s_bn,vt x_s_nm,vi x_s_tg]],us))=some (.made (.d (vb (SY (⟨⟨x_p_w,x_p_wn,x_p_fu,⟨x_p_r0,x_p_r1,x_p_r2,x_p_r3⟩,x_p_ms,x_p_ls,x_p_is⟩,⟨⟨⟨x_c_r0,x_c_r1,x_c_r2,x_c_r3⟩,x_c_mm,x_c_st,x_c_pc⟩,x_c_bf,x_c_rb,x_c_en⟩,x_i,⟨x_e_pc,x_e_vl,x_e_ad,x_e_fr,x_e_nx,x_e_dn,x_e_kn,x_e_ft⟩,⟨x_s_k,x_s_o,x_s_d,⟨x_s_ag,x_s_an⟩,⟨x_s_bg,x_s_bn⟩,x_s_nm,x_s_tg⟩⟩:Spot)))) []):=
 Z6.flat (Zl0 S dp (⟨⟨x_p_w,x_p_wn,x_p_fu,⟨x_p_r0,x_p_r1,x_p_r2,x_p_r3⟩,x_p_ms,x_p_ls,x_p_is⟩,⟨⟨⟨x_c_r0,x_c_r1,x_c_r2,x_c_r3⟩,x_c_mm,x_c_st,x_c_pc⟩,x_c_bf,x_c_rb,x_c_en⟩,x_i,⟨x_e_pc,x_e_vl,x_e_ad,x_e_fr,x_e_nx,x_e_dn,x_e_kn,x_e_ft⟩,⟨x_s_k,x_s_o,x_s_d,⟨x_s_ag,x_s_an⟩,⟨x_s_bg,x_s_bn⟩,x_s_nm,x_s_tg⟩⟩:Spot) hl hm) (np S 201 (by decide)) (rfl) A nb us
theorem Zl9 (dp:Nat)(p:Prog)(c:Conf)(i:Int)(hl:c.buf.length<1073741824)(hm:p.mems.length<1073741824):Z6 E fn (dp+9) 141 [Zw p,ZS c,vi i] (vb (Md.can (Zz p.mems) p c i)):=by
 unfold Z6
 show Z7 (Z4 E fn (dp+8+1) 141 [.d (Zw p),.d (ZS c),.d (vi i)] [])=_
 rw[ZD,S.Zbf,ZG,Zgs,ZC _ _ _ _ _ _ _ _ rfl]
 cases ho:Md.QE p c i with
 | false=>simp only[eG,go_sem,Z3 S,Z2 S,zN0,zN1,zN2,zN3,zN4,zI0,zI1,zI2,zI3,reduceCtorEq,H8 S,hl,ho,Md.can]
 | true=>
  have e:SY (JP p c i)=Md.ready (Zz p.mems) p c i (Md.Yk p c i) (Md.Y2 p c i (Md.Yk p c i).a) (Md.Y2 p c i (Md.Yk p c i).b) (Md.C5 p c i (Md.Yk p c i).d):=rfl
  cases hd:(Md.ZP c.buf i).done with
  | true=>simp only[eG,go_sem,Z3 S,Z2 S,zN0,zN1,zN2,zN3,zN4,zI0,zI1,zI2,zI3,reduceCtorEq,H8 S,hl,ho,JP,hd,Bool.not_true,Md.can]
  | false=>
   have hd':(JP p c i).e.done=false:=hd
   have e2:SY { p:=(JP p c i).p,c:=(JP p c i).c,i:=(JP p c i).i,e:={ pc:=(JP p c i).e.pc,val:=(JP p c i).e.val,addr:=(JP p c i).e.addr,frm:=(JP p c i).e.frm,next:=(JP p c i).e.next,done:=false,known:=(JP p c i).e.known,fault:=(JP p c i).e.fault },s:=(JP p c i).s }=Md.ready (Zz p.mems) p c i (Md.Yk p c i) (Md.Y2 p c i (Md.Yk p c i).a) (Md.Y2 p c i (Md.Yk p c i).b) (Md.C5 p c i (Md.Yk p c i).d):=by rw[<-hd'];exact e
   simp only[eG,go_sem,Z3 S,Z2 S,zN0,zN1,zN2,zN3,zN4,zI0,zI1,zI2,zI3,reduceCtorEq,H8 S,hl,ho,hd',Bool.not_false,Zsn S,show(JP p c i).c.buf.length<1073741824 from hl,show(JP p c i).p.mems.length<1073741824 from hm,e2,Md.can,hd]
theorem Z2t (dp:Nat)(p_w p_wn p_fu p_r0 p_r1 p_r2 p_r3:Int)(p_ms:List MemT)(p_ls:List Label)(p_is:List Ins)(c_r0 c_r1 c_r2 c_r3:Int)(c_mm c_st:List Int)(c_pc:Int)(c_bf:List Ent)(c_rb:List Int)(c_en i:Int)(hl:(⟨⟨⟨c_r0,c_r1,c_r2,c_r3⟩,c_mm,c_st,c_pc⟩,c_bf,c_rb,c_en⟩:Conf).buf.length<1073741824)(hm:(⟨p_w,p_wn,p_fu,⟨p_r0,p_r1,p_r2,p_r3⟩,p_ms,p_ls,p_is⟩:Prog).mems.length<1073741824)(A:List Blk)(nb:Nat)(us:List Nat):Zv false E (Z4 E fn (dp+9)) 141 A nb (some ([.agg [vi p_w,vi p_wn,vi p_fu,vi p_r0,vi p_r1,vi p_r2,vi p_r3,rD p_ms,rD p_ls,rD p_is],.agg [vi c_r0,vi c_r1,vi c_r2,vi c_r3,rD c_mm,rD c_st,vi c_pc,rD c_bf,rD c_rb,vi c_en],vi i],us))=some (.made (.d (vb (Md.can (Zz (⟨p_w,p_wn,p_fu,⟨p_r0,p_r1,p_r2,p_r3⟩,p_ms,p_ls,p_is⟩:Prog).mems) (⟨p_w,p_wn,p_fu,⟨p_r0,p_r1,p_r2,p_r3⟩,p_ms,p_ls,p_is⟩:Prog) (⟨⟨⟨c_r0,c_r1,c_r2,c_r3⟩,c_mm,c_st,c_pc⟩,c_bf,c_rb,c_en⟩:Conf) i))) []):=
 Z6.flat (Zl9 S dp (⟨p_w,p_wn,p_fu,⟨p_r0,p_r1,p_r2,p_r3⟩,p_ms,p_ls,p_is⟩:Prog) (⟨⟨⟨c_r0,c_r1,c_r2,c_r3⟩,c_mm,c_st,c_pc⟩,c_bf,c_rb,c_en⟩:Conf) i hl hm) (np S 141 (by decide)) (rfl) A nb us
theorem Zl1 (dp:Nat)(x:Spot)(e:Ent)(hm:x.c.state.mem.length<1073741824)(hs:x.c.state.stack.length<1073741824)(hl:x.c.buf.length<1073741824)(hr:x.c.rsb.length<1073741824)(h0:0<=x.i)(h1:x.i<x.c.buf.length):Z6 E fn (dp+3) 152 [CC x,.agg (Cl.cells e)] (ZS (Md.put x.c x.i e)):=by
 unfold Z6
 show Z7 (Z4 E fn (dp+2+1) 152 [.d (CC x),.d (.agg (Cl.cells e))] [])=_
 rw[ZD,S.Zb7,ZG,Zgk,ZC _ _ _ _ _ _ _ _ rfl]
 simp only[eG,go_sem,Z3 S,Z2 S,zN0,zN1,zN2,zN3,zN4,zI0,zI1,zI2,zI3,reduceCtorEq,X7 S,hm,hs,hl,hr,Zs5 S,h0,h1,Md.put]
theorem KX (dp:Nat)(x_p_w x_p_wn x_p_fu x_p_r0 x_p_r1 x_p_r2 x_p_r3:Int)(x_p_ms:List MemT)(x_p_ls:List Label)(x_p_is:List Ins)(x_c_r0 x_c_r1 x_c_r2 x_c_r3:Int)(x_c_mm x_c_st:List Int)(x_c_pc:Int)(x_c_bf:List Ent)(x_c_rb:List Int)(x_c_en x_i x_e_pc x_e_vl x_e_ad x_e_fr x_e_nx:Int)(x_e_dn x_e_kn x_e_ft:Bool)(x_s_k x_s_o x_s_d:Int)(x_s_ag:Bool)(x_s_an:Int)(x_s_bg:Bool)(x_s_bn:Int)(x_s_nm:ByteArray)(x_s_tg e_pc e_vl e_ad e_fr e_nx:Int)(e_dn e_kn e_ft:Bool)(hm:(⟨⟨x_p_w,x_p_wn,x_p_fu,⟨x_p_r0,x_p_r1,x_p_r2,x_p_r3⟩,x_p_ms,x_p_ls,x_p_is⟩,⟨⟨⟨x_c_r0,x_c_r1,x_c_r2,x_c_r3⟩,x_c_mm,x_c_st,x_c_pc⟩,x_c_bf,x_c_rb,x_c_en⟩,x_i,⟨x_e_pc,x_e_vl,x_e_ad,x_e_fr,x_e_nx,x_e_dn,x_e_kn,x_e_ft⟩,⟨x_s_k,x_s_o,x_s_d,⟨x_s_ag,x_s_an⟩,⟨x_s_bg,x_s_bn⟩,x_s_nm,x_s_tg⟩⟩:Spot).c.state.mem.length<1073741824)(hs:(⟨⟨x_p_w,x_p_wn,x_p_fu,⟨x_p_r0,x_p_r1,x_p_r2,x_p_r3⟩,x_p_ms,x_p_ls,x_p_is⟩,⟨⟨⟨x_c_r0,x_c_r1,x_c_r2,x_c_r3⟩,x_c_mm,x_c_st,x_c_pc⟩,x_c_bf,x_c_rb,x_c_en⟩,x_i,⟨x_e_pc,x_e_vl,x_e_ad,x_e_fr,x_e_nx,x_e_dn,x_e_kn,x_e_ft⟩,⟨x_s_k,x_s_o,x_s_d,⟨x_s_ag,x_s_an⟩,⟨x_s_bg,x_s_bn⟩,x_s_nm,x_s_tg⟩⟩:Spot).c.state.stack.length<1073741824)(hl:(⟨⟨x_p_w,x_p_wn,x_p_fu,⟨x_p_r0,x_p_r1,x_p_r2,x_p_r3⟩,x_p_ms,x_p_ls,x_p_is⟩,⟨⟨⟨x_c_r0,x_c_r1,x_c_r2,x_c_r3⟩,x_c_mm,x_c_st,x_c_pc⟩,x_c_bf,x_c_rb,x_c_en⟩,x_i,⟨x_e_pc,x_e_vl,x_e_ad,x_e_fr,x_e_nx,x_e_dn,x_e_kn,x_e_ft⟩,⟨x_s_k,x_s_o,x_s_d,⟨x_s_ag,x_s_an⟩,⟨x_s_bg,x_s_bn⟩,x_s_nm,x_s_tg⟩⟩:Spot).c.buf.length<1073741824)(hr:(⟨⟨x_p_w,x_p_wn,x_p_fu,⟨x_p_r0,x_p_r1,x_p_r2,x_p_r3⟩,x_p_ms,x_p_ls,x_p_is⟩,⟨⟨⟨x_c_r0,x_c_r1,x_c_r2,x_c_r3⟩,x_c_mm,x_c_st,x_c_pc⟩,x_c_bf,x_c_rb,x_c_en⟩,x_i,⟨x_e_pc,x_e_vl,x_e_ad,x_e_fr,x_e_nx,x_e_dn,x_e_kn,x_e_ft⟩,⟨x_s_k,x_s_o,x_s_d,⟨x_s_ag,x_s_an⟩,⟨x_s_bg,x_s_bn⟩,x_s_nm,x_s_tg⟩⟩:Spot).c.rsb.length<1073741824)(h0:0<=(⟨⟨x_p_w,x_p_wn,x_p_fu,⟨x_p_r0,x_p_r1,x_p_r2,x_p_r3⟩,x_p_ms,x_p_ls,x_p_is⟩,⟨⟨⟨x_c_r0,x_c_r1,x_c_r2,x_c_r3⟩,x_c_mm,x_c_st,x_c_pc⟩,x_c_bf,x_c_rb,x_c_en⟩,x_i,⟨x_e_pc,x_e_vl,x_e_ad,x_e_fr,x_e_nx,x_e_dn,x_e_kn,x_e_ft⟩,⟨x_s_k,x_s_o,x_s_d,⟨x_s_ag,x_s_an⟩,⟨x_s_bg,x_s_bn⟩,x_s_nm,x_s_tg⟩⟩:Spot).i)(h1:(⟨⟨x_p_w,x_p_wn,x_p_fu,⟨x_p_r0,x_p_r1,x_p_r2,x_p_r3⟩,x_p_ms,x_p_ls,x_p_is⟩,⟨⟨⟨x_c_r0,x_c_r1,x_c_r2,x_c_r3⟩,x_c_mm,x_c_st,x_c_pc⟩,x_c_bf,x_c_rb,x_c_en⟩,x_i,⟨x_e_pc,x_e_vl,x_e_ad,x_e_fr,x_e_nx,x_e_dn,x_e_kn,x_e_ft⟩,⟨x_s_k,x_s_o,x_s_d,⟨x_s_ag,x_s_an⟩,⟨x_s_bg,x_s_bn⟩,x_s_nm,x_s_tg⟩⟩:Spot).i<(⟨⟨x_p_w,x_p_wn,x_p_fu,⟨x_p_r0,x_p_r1,x_p_r2,x_p_r3⟩,x_p_ms,x_p_ls,x_p_is⟩,⟨⟨⟨x_c_r0,x_c_r1,x_c_r2,x_c_r3⟩,x_c_mm,x_c_st,x_c_pc⟩,x_c_bf,x_c_rb,x_c_en⟩,x_i,⟨x_e_pc,x_e_vl,x_e_ad,x_e_fr,x_e_nx,x_e_dn,x_e_kn,x_e_ft⟩,⟨x_s_k,x_s_o,x_s_d,⟨x_s_ag,x_s_an⟩,⟨x_s_bg,x_s_bn⟩,x_s_nm,x_s_tg⟩⟩:Spot).c.buf.length)(A:List Blk)(nb:Nat):Zv false E (Z4 E fn (dp+3)) 152 A nb (some ([.agg [vi x_p_w,vi x_p_wn,vi x_p_fu,vi x_p_r0,vi x_p_r1,vi x_p_r2,vi x_p_r3,rD x_p_ms,rD x_p_ls,rD x_p_is,vi x_c_r0,vi x_c_r1,vi x_c_r2,vi x_c_r3,rD x_c_mm,rD x_c_st,vi x_c_pc,rD x_c_bf,rD x_c_rb,vi x_c_en,vi x_i,vi x_e_pc,vi x_e_vl,vi x_e_ad,vi x_e_fr,vi x_e_nx,vb x_e_dn,vb x_e_kn,vb x_e_ft,vi x_s_k,vi x_s_o,vi x_s_d,vb x_s_ag,vi x_s_an,vb x_s_bg,vi x_s_bn,vt x_s_nm,vi x_s_tg],.agg [vi e_pc,vi e_vl,vi e_ad,vi e_fr,vi e_nx,vb e_dn,vb e_kn,vb e_ft]],[]))=some (.made (.d (ZS (Md.put (⟨⟨x_p_w,x_p_wn,x_p_fu,⟨x_p_r0,x_p_r1,x_p_r2,x_p_r3⟩,x_p_ms,x_p_ls,x_p_is⟩,⟨⟨⟨x_c_r0,x_c_r1,x_c_r2,x_c_r3⟩,x_c_mm,x_c_st,x_c_pc⟩,x_c_bf,x_c_rb,x_c_en⟩,x_i,⟨x_e_pc,x_e_vl,x_e_ad,x_e_fr,x_e_nx,x_e_dn,x_e_kn,x_e_ft⟩,⟨x_s_k,x_s_o,x_s_d,⟨x_s_ag,x_s_an⟩,⟨x_s_bg,x_s_bn⟩,x_s_nm,x_s_tg⟩⟩:Spot).c (⟨⟨x_p_w,x_p_wn,x_p_fu,⟨x_p_r0,x_p_r1,x_p_r2,x_p_r3⟩,x_p_ms,x_p_ls,x_p_is⟩,⟨⟨⟨x_c_r0,x_c_r1,x_c_r2,x_c_r3⟩,x_c_mm,x_c_st,x_c_pc⟩,x_c_bf,x_c_rb,x_c_en⟩,x_i,⟨x_e_pc,x_e_vl,x_e_ad,x_e_fr,x_e_nx,x_e_dn,x_e_kn,x_e_ft⟩,⟨x_s_k,x_s_o,x_s_d,⟨x_s_ag,x_s_an⟩,⟨x_s_bg,x_s_bn⟩,x_s_nm,x_s_tg⟩⟩:Spot).i (⟨e_pc,e_vl,e_ad,e_fr,e_nx,e_dn,e_kn,e_ft⟩:Ent)))) []):=
 Z6.deep (Zl1 S dp (⟨⟨x_p_w,x_p_wn,x_p_fu,⟨x_p_r0,x_p_r1,x_p_r2,x_p_r3⟩,x_p_ms,x_p_ls,x_p_is⟩,⟨⟨⟨x_c_r0,x_c_r1,x_c_r2,x_c_r3⟩,x_c_mm,x_c_st,x_c_pc⟩,x_c_bf,x_c_rb,x_c_en⟩,x_i,⟨x_e_pc,x_e_vl,x_e_ad,x_e_fr,x_e_nx,x_e_dn,x_e_kn,x_e_ft⟩,⟨x_s_k,x_s_o,x_s_d,⟨x_s_ag,x_s_an⟩,⟨x_s_bg,x_s_bn⟩,x_s_nm,x_s_tg⟩⟩:Spot) (⟨e_pc,e_vl,e_ad,e_fr,e_nx,e_dn,e_kn,e_ft⟩:Ent) hm hs hl hr h0 h1) (np S 152 (by decide)) A nb
end
variable {E:Env} {fn:FuncId->Option (Env->cT->cT)}
section
variable (S:Sur E fn)
include S
theorem Dj:E.lives 205 1=none/\E.lives 205 17=none/\E.lives 205 19=none/\E.lives 205 25=none/\E.lives 205 27=none:=⟨off S 205 1 (by decide) rfl,off S 205 17 (by decide) rfl,off S 205 19 (by decide) rfl,off S 205 25 (by decide) rfl,off S 205 27 (by decide) rfl⟩
theorem Zs9 {l:List Int}(h:l.length<1073741824)(call:cT)(A:List Blk)(nb:Nat)(us:List Nat):Zv true E call 86 A nb (some ([.lst (rC l) l.length none],us))=some (.made (YN nb l) (Yz l)):=E7 S h call A nb us
theorem Z7j (dp:Nat)(p:Prog)(l:List Ent)(hl:l.length<1073741824)(kx:Nat->K)
  (hx:∀ T out junk k,ZX .bot T 10=.sref 1 0 0 (out:List Int).length 1 k->(out:List Int).length<1073741824->Z7 (kx 0 (mk .bot 52 T) [.cells ((Y3 p).map .d) 0 false,.cells ((rC (out++junk)).map .d) 0 false])=some (CS (some out))):
  ∀(m k fuel:Nat) (out junk:List Int),k+m=l.length->m<=fuel->out.length<1073741824->Z7 (FZ (Zj E 205) (Z4 E fn (dp+1)) (Z9 8 FZ (Zj E 205) (Z4 E fn (dp+1)) kx (ZY 0 [.tmp 8,.tmp 9]) fuel) kx (ZY 0 [.tmp 8,.tmp 9])
   (mk .bot 52 [(4,.ref 0 0 0),(10,.sref 1 0 0 out.length 1 none),(17,.d (rD l)),(18,aI l.length),(19,aI k)]) [.cells ((Y3 p).map .d) 0 false,.cells ((rC (out++junk)).map .d) 0 false])=
   some (CS (Md.QX p (l.drop k) out)):=by
 intro m
 induction m with
 | zero=>
  intro k fuel out junk hk _ ho
  generalize Z9 8 FZ _ _ kx _ fuel=KK
  rw[FZ,List.drop_of_length_le (by omega)]
  simp only[eG,go_sem,Z3 S,Z2 S,zN0,zN1,zN2,zN3,zN4,zI0,zI1,zI2,zI3,reduceCtorEq,Dj S,show ¬(k:Int)<l.length by omega,Md.QX]
  exact hx _ _ _ none rfl ho
 | succ m ih=>
  intro k fuel out junk hk hf ho
  obtain⟨e,he⟩:=YK (show k<l.length by omega)
  obtain⟨fuel,rfl⟩:∃ m,fuel=m+1:=⟨fuel-1,by omega⟩
  generalize hK:Z9 8 FZ _ _ kx _ (fuel+1)=KK
  rw[FZ,Aj he,Md.QX]
  have h2:(k:Int)<l.length:=by omega
  by_cases k8:(Md.at_ p e.pc).kind=8
  ·by_cases h4 : 4 <= out.length
   ·simp only[eG,go_sem,Z3 S,Z2 S,zN0,zN1,zN2,zN3,zN4,zI0,zI1,zI2,zI3,reduceCtorEq,Dj S,Zx he,Yj S,wi k (by omega),h2,ge_iff_le,k8,h4,show(4:Int)<=out.length by omega,CS]
   ·have l1 : (out.length + 1) * 8 <= Z5 := by unfold Z5; omega
    have l2:out.length+1<=Z5:=by unfold Z5;omega
    cases junk with
    | nil=>
     simp only[List.append_nil]
     simp only[eG,go_sem,Z3 S,Z2 S,zN0,zN1,zN2,zN3,zN4,zI0,zI1,zI2,zI3,reduceCtorEq,Dj S,Zx he,Yj S,wi k (by omega),h2,ge_iff_le,k8,h4,show ¬(4:Int)<=out.length by omega,Zq,BU,l1,l2]
     rw[<-hK,Z8 (on S _ _ [4,10,17,18,19] (by decide) rfl) rfl _ _ _ _ _ _ _ _ _ rfl]
     simp only[eG,go_sem,Z3 S,Z2 S,zN0,zN1,zN2,zN3,zN4,zI0,zI1,zI2,zI3,reduceCtorEq,Dj S,Zx he,Yj S,wi k (by omega),h2,ge_iff_le]
     have e1:out.length+1=(out++[Md.ZW (e.pc+1)]).length:=by simp
     have:=ih (k+1) fuel (out++[Md.ZW (e.pc+1)]) [] (by omega) (by omega) (by simp;omega)
     rw[<-e1,List.append_nil] at this
     exact this
    | cons y junk=>
     simp only[eG,go_sem,Z3 S,Z2 S,zN0,zN1,zN2,zN3,zN4,zI0,zI1,zI2,zI3,reduceCtorEq,Dj S,Zx he,Yj S,wi k (by omega),h2,ge_iff_le,k8,h4,show ¬(4:Int)<=out.length by omega,Zq,Z3i (y:=y) (junk:=junk),l1,l2]
     rw[<-hK,Z8 (on S _ _ [4,10,17,18,19] (by decide) rfl) rfl _ _ _ _ _ _ _ _ _ rfl]
     simp only[eG,go_sem,Z3 S,Z2 S,zN0,zN1,zN2,zN3,zN4,zI0,zI1,zI2,zI3,reduceCtorEq,Dj S,Zx he,Yj S,wi k (by omega),h2,ge_iff_le]
     have e1:out.length+1=(out++[Md.ZW (e.pc+1)]).length:=by simp
     have:=ih (k+1) fuel (out++[Md.ZW (e.pc+1)]) junk (by omega) (by omega) (by simp;omega)
     rw[<-e1,List.append_assoc] at this
     exact this
  ·by_cases k9 : (Md.at_ p e.pc).kind = 9
   ·cases hr : out.reverse with
    | nil=>
     have:out=[]:=List.reverse_eq_nil_iff.1 hr
     subst this
     simp only[eG,go_sem,Z3 S,Z2 S,zN0,zN1,zN2,zN3,zN4,zI0,zI1,zI2,zI3,reduceCtorEq,Dj S,Zx he,Yj S,wi k (by omega),h2,ge_iff_le,k8,k9,List.length_nil,CS,zI0,Int.natCast_eq_zero]
    | cons y r=>
     have e0:out=r.reverse++[y]:=by rw[<-List.reverse_reverse out,hr,List.reverse_cons]
     subst e0
     have e1:(r.reverse++[y]).dropLast=r.reverse:=List.dropLast_concat
     have e2:(r.reverse++[y]).length=r.reverse.length+1:=by simp
     have w1:IntKind.i64.wrap (((r.reverse.length+1:Nat):Int)-1)=(r.reverse.length:Int):=by rw[e2] at ho;rw[YH (by omega) (by omega)];omega
     have bd:=Hk (r.reverse.length+1) .i64 (r.reverse.length:Int) (by omega) (by omega)
     rw[e2,e1]
     simp only[eG,go_sem,Z3 S,Z2 S,zN0,zN1,zN2,zN3,zN4,zI0,zI1,zI2,zI3,reduceCtorEq,Dj S,Zx he,Yj S,wi k (by omega),h2,ge_iff_le,k8,k9,w1,bd,Int.toNat_natCast,Nat.succ_ne_zero,Int.natCast_eq_zero,ne_eq,not_true_eq_false,and_false,Nat.zero_mul,Nat.sub_zero,Nat.add_zero,Nat.zero_add]
     rw[<-hK,Z8 (on S _ _ [4,10,17,18,19] (by decide) rfl) rfl _ _ _ _ _ _ _ _ _ rfl]
     simp only[eG,go_sem,Z3 S,Z2 S,zN0,zN1,zN2,zN3,zN4,zI0,zI1,zI2,zI3,reduceCtorEq,Dj S,Zx he,Yj S,wi k (by omega),h2,ge_iff_le]
     have:=ih (k+1) fuel r.reverse ([y]++junk) (by omega) (by omega) (by omega)
     rw[<-List.append_assoc] at this
     exact this
   ·simp only [eG, go_sem, Z3 S, Z2 S, zN0, zN1, zN2, zN3, zN4, zI0, zI1, zI2, zI3, reduceCtorEq, Dj S, Zx he, Yj S, wi k (by omega), h2, ge_iff_le, k8, k9]
    rw[<-hK,Z8 (on S _ _ [4,10,17,18,19] (by decide) rfl) rfl _ _ _ _ _ _ _ _ _ rfl]
    simp only[eG,go_sem,Z3 S,Z2 S,zN0,zN1,zN2,zN3,zN4,zI0,zI1,zI2,zI3,reduceCtorEq,Dj S,Zx he,Yj S,wi k (by omega),h2,ge_iff_le]
    exact ih (k+1) fuel out junk (by omega) (by omega) ho
theorem Zog (dp:Nat)(p:Prog)(l:List Ent)(hl:l.length<1073741824)(kx:Nat->K)
  (hx:∀ T out junk k,ZX .bot T 10=.sref 1 0 0 (out:List Int).length 1 k->(out:List Int).length<1073741824->Z7 (kx 0 (mk .bot 52 T) [.cells ((Y3 p).map .d) 0 false,.cells ((rC (out++junk)).map .d) 0 false])=some (CS (some out)))
  (hx0:∀ T,ZX .bot T 10=.d (.lst [] 0 (some 0))->Z7 (kx 0 (mk .bot 52 T) [.cells ((Y3 p).map .d) 0 false])=some (CS (some []))):
  ∀(m k fuel:Nat),k+m=l.length->m<=fuel->Z7 (FZ (Zj E 205) (Z4 E fn (dp+1)) (Z9 8 FZ (Zj E 205) (Z4 E fn (dp+1)) kx (ZY 0 [.tmp 8,.tmp 9]) fuel) kx (ZY 0 [.tmp 8,.tmp 9])
   (mk .bot 52 [(4,.ref 0 0 0),(10,.d (.lst [] 0 (some 0))),(17,.d (rD l)),(18,aI l.length),(19,aI k)]) [.cells ((Y3 p).map .d) 0 false])=
   some (CS (Md.QX p (l.drop k) [])):=by
 intro m
 induction m with
 | zero=>
  intro k fuel hk _
  generalize Z9 8 FZ _ _ kx _ fuel=KK
  rw[FZ,List.drop_of_length_le (by omega)]
  simp only[eG,go_sem,Z3 S,Z2 S,zN0,zN1,zN2,zN3,zN4,zI0,zI1,zI2,zI3,reduceCtorEq,Dj S,show ¬(k:Int)<l.length by omega,Md.QX]
  exact hx0 _ rfl
 | succ m ih=>
  intro k fuel hk hf
  obtain⟨e,he⟩:=YK (show k<l.length by omega)
  obtain⟨fuel,rfl⟩:∃ m,fuel=m+1:=⟨fuel-1,by omega⟩
  generalize hK:Z9 8 FZ _ _ kx _ (fuel+1)=KK
  rw[FZ,Aj he,Md.QX]
  have h2:(k:Int)<l.length:=by omega
  by_cases k8:(Md.at_ p e.pc).kind=8
  ·simp only [eG, go_sem, Z3 S, Z2 S, zN0, zN1, zN2, zN3, zN4, zI0, zI1, zI2, zI3, reduceCtorEq, Dj S, Zx he, Yj S, wi k (by omega), h2, ge_iff_le, k8, List.length_nil, show ¬ (4 : Int) <= (0 : Nat) by omega, Zq, Nat.zero_add, Nat.zero_mul, Nat.lt_add_one, true_and, show (1 : Nat) * 8 <= Z5 by decide, show (1 : Nat) <= Z5 by decide, and_self]
   rw[<-hK,Z8 (on S _ _ [4,10,17,18,19] (by decide) rfl) rfl _ _ _ _ _ _ _ _ _ rfl]
   simp only[eG,go_sem,Z3 S,Z2 S,zN0,zN1,zN2,zN3,zN4,zI0,zI1,zI2,zI3,reduceCtorEq,Dj S,Zx he,Yj S,wi k (by omega),h2,ge_iff_le]
   exact Z7j S dp p l hl kx hx m (k+1) fuel [Md.ZW (e.pc+1)] [] (by omega) (by omega) (by simp)
  ·by_cases k9 : (Md.at_ p e.pc).kind = 9
   ·simp only[eG,go_sem,Z3 S,Z2 S,zN0,zN1,zN2,zN3,zN4,zI0,zI1,zI2,zI3,reduceCtorEq,Dj S,Zx he,Yj S,wi k (by omega),h2,ge_iff_le,k8,k9,List.length_nil,CS,zI0,Int.natCast_eq_zero]
   ·simp only [eG, go_sem, Z3 S, Z2 S, zN0, zN1, zN2, zN3, zN4, zI0, zI1, zI2, zI3, reduceCtorEq, Dj S, Zx he, Yj S, wi k (by omega), h2, ge_iff_le, k8, k9]
    rw[<-hK,Z8 (on S _ _ [4,10,17,18,19] (by decide) rfl) rfl _ _ _ _ _ _ _ _ _ rfl]
    simp only[eG,go_sem,Z3 S,Z2 S,zN0,zN1,zN2,zN3,zN4,zI0,zI1,zI2,zI3,reduceCtorEq,Dj S,Zx he,Yj S,wi k (by omega),h2,ge_iff_le]
    exact ih (k+1) fuel (by omega) (by omega)
end
theorem Zth {i:Nat}{out:List Int}{k:Option Nat}{A:List Blk}{b:Bool}(hA:A[i]? =some (.cells ((rC out).map .d) 0 false)):
  Z7 (Dw 0 (some (.tup [.sref i 0 0 out.length 1 k,Yx b],A)))=some (.tup [rD out,vb b]):=Z3j (junk:=[]) (by rw[List.append_nil];exact hA)
variable {E:Env} {fn:FuncId->Option (Env->cT->cT)}
section
variable (S:Sur E fn)
include S
theorem Pw:E.lives 205 1=none/\E.lives 205 17=none/\E.lives 205 19=none/\E.lives 205 25=none/\E.lives 205 27=none:=⟨off S 205 1 (by decide) rfl,off S 205 17 (by decide) rfl,off S 205 19 (by decide) rfl,off S 205 25 (by decide) rfl,off S 205 27 (by decide) rfl⟩
theorem Z6t:E.lives 148 13=none:=off S 148 13 (by decide) rfl
theorem Z10:E.lives 150 11=none:=off S 150 11 (by decide) rfl
theorem Z2u (call:cT)(A:List Blk)(nb:Nat)(us:List Nat):Zv true E call 86 A nb (some ([.lst [] 0 none],us))=some (.made (.d (.lst [] 0 (some 0))) []):=E7 S (l:=[]) (by decide) call A nb us
theorem Zjk (dp:Nat)(p:Prog)(sk:List Int)(l:List Ent)(i:Int)(hl:l.length<1073741824)(hs:sk.length<1073741824):Z6 E fn (dp+3) 205 [Zw p,rD sk,rD l,vi i] (.tup [rD (B6 (Md.real p sk l i)),vb (EE (Md.real p sk l i))]):=by
 unfold Z6
 show Z7 (Z4 E fn (dp+2+1) 205 [.d (Zw p),.d (rD sk),.d (rD l),.d (vi i)] [])=_
 rw[ZD,S.Z9j,ZG,Zew,ZC _ _ _ _ _ _ _ _ rfl]
 have hcl:=K4 l i
 have fin:∀ X:Option (List Int),DV.tup [rD (B6 X),vb (EE X)]=CS X:=fun X=>by cases X<;>rfl
 rw[fin]
 have h0x:∀ T,ZX .bot T 10=.d (.lst [] 0 (some 0))->Z7 (Hq 0 (cQ (Z1 [st 50 (oV (.t 10)),st 51 (oK (.f 86) [(.t 50)]),st 8 (oV (.t 51)),st 9 (oV (.c (.v (.bool true))))]) cZ (Zj E 205) (Z4 E fn (dp+2)) (ZY 0 [.tmp 8,.tmp 9]) (fun _ _ _=>none) (ZY 0 [.tmp 8,.tmp 9])) (fun _ _ _=>none) 0 (mk .bot 52 T) [.cells ((Y3 p).map .d) 0 false])=some (CS (some [])):=by
  intro T h
  simp only[eG,go_sem,Z3 S,Z2 S,zN0,zN1,zN2,zN3,zN4,zI0,zI1,zI2,zI3,reduceCtorEq,Pw S,h,Z2u S,CS]
 have hx:∀ T out junk k,ZX .bot T 10=.sref 1 0 0 (out:List Int).length 1 k->(out:List Int).length<1073741824->Z7 (Hq 0 (cQ (Z1 [st 50 (oV (.t 10)),st 51 (oK (.f 86) [(.t 50)]),st 8 (oV (.t 51)),st 9 (oV (.c (.v (.bool true))))]) cZ (Zj E 205) (Z4 E fn (dp+2)) (ZY 0 [.tmp 8,.tmp 9]) (fun _ _ _=>none) (ZY 0 [.tmp 8,.tmp 9])) (fun _ _ _=>none) 0 (mk .bot 52 T) [.cells ((Y3 p).map .d) 0 false,.cells ((rC (out++junk)).map .d) 0 false])=some (CS (some out)):=by
  intro T out junk k h ho
  by_cases hz:out.length=0
  ·have : out = [] := List.length_eq_zero_iff.1 hz
   subst this
   simp only[eG,go_sem,Z3 S,Z2 S,zN0,zN1,zN2,zN3,zN4,zI0,zI1,zI2,zI3,reduceCtorEq,Pw S,h,Z2u S,CS]
  ·have hne : out ≠ [] := fun h => hz (by rw [h]; rfl)
   have hd:=Zcd (i:=1) (A:=[.cells ((Y3 p).map .d) 0 false,.cells ((rC (out++junk)).map .d) 0 false]) hne rfl 6 1 k rfl
   simp only[Y3,List.map_cons,List.map_nil] at hd
   simp only[go_sem,Z3 S,Z2 S,zN0,zN1,zN2,zN3,zN4,zI0,zI1,zI2,zI3,reduceCtorEq,Pw S,h,hd,Zs9 S ho,ZN hz,ZM hz]
   exact Zth rfl
 by_cases h0:sk.length=0
 ·have : sk = [] := List.length_eq_zero_iff.1 h0
  subst this
  simp only[eG,go_sem,Z3 S,Z2 S,zN0,zN1,zN2,zN3,zN4,zI0,zI1,zI2,zI3,reduceCtorEq,Pw S,Z2u S,PT S,hl]
  rw[Y7,Z8 (on S _ _ [4,10,17,18,19] (by decide) rfl) rfl _ _ _ _ _ _ _ _ _ rfl]
  simp only[eG,go_sem,Z3 S,Z2 S,zN0,zN1,zN2,zN3,zN4,zI0,zI1,zI2,zI3,reduceCtorEq,Pw S]
  exact Zog S (dp+1) p (Md.cut l i) (by omega) _ hx h0x (Md.cut l i).length 0 _ (by omega) (by omega)
 ·simp only [eG, go_sem, Z3 S, Z2 S, zN0, zN1, zN2, zN3, zN4, zI0, zI1, zI2, zI3, reduceCtorEq, Pw S, E7 S hs, ZN h0, ZM h0, PT S, hl]
  rw[Y7,Z8 (on S _ _ [4,10,17,18,19] (by decide) rfl) rfl _ _ _ _ _ _ _ _ _ rfl]
  simp only[eG,go_sem,Z3 S,Z2 S,zN0,zN1,zN2,zN3,zN4,zI0,zI1,zI2,zI3,reduceCtorEq,Pw S]
  have:=Z7j S (dp+1) p (Md.cut l i) (by omega) _ hx (Md.cut l i).length 0 999999999999999999999999999999 sk [] (by omega) (by omega) hs
  rw[List.append_nil] at this
  exact this
theorem U4 (dp:Nat)(p_w p_wn p_fu p_r0 p_r1 p_r2 p_r3:Int)(p_ms:List MemT)(p_ls:List Label)(p_is:List Ins)(sk:List Int)(l:List Ent)(i:Int)(hl:l.length<1073741824)(hs:sk.length<1073741824)(A:List Blk)(nb:Nat):Zv false E (Z4 E fn (dp+3)) 205 A nb (some ([.agg [vi p_w,vi p_wn,vi p_fu,vi p_r0,vi p_r1,vi p_r2,vi p_r3,rD p_ms,rD p_ls,rD p_is],rD sk,rD l,vi i],[]))=some (.made (.d (.tup [rD (B6 (Md.real (⟨p_w,p_wn,p_fu,⟨p_r0,p_r1,p_r2,p_r3⟩,p_ms,p_ls,p_is⟩:Prog) sk l i)),vb (EE (Md.real (⟨p_w,p_wn,p_fu,⟨p_r0,p_r1,p_r2,p_r3⟩,p_ms,p_ls,p_is⟩:Prog) sk l i))])) []):=
 Z6.deep (Zjk S dp (⟨p_w,p_wn,p_fu,⟨p_r0,p_r1,p_r2,p_r3⟩,p_ms,p_ls,p_is⟩:Prog) sk l i hl hs) (np S 205 (by decide)) A nb
theorem Zl4 (dp:Nat)(x:Spot)(to:Int)(hm:x.c.state.mem.length<1073741824)(hs:x.c.state.stack.length<1073741824)(hl:x.c.buf.length<1073741824)(hr:x.c.rsb.length<1073741824)(h0:0<=x.i)(h1:x.i<x.c.buf.length):Z6 E fn (dp+4) 148 [CC x,vi to] (.tup [ZS (Md.B0 x.c x.i x.e to).1,rD (Md.B0 x.c x.i x.e to).2,vb true]):=by
 unfold Z6
 show Z7 (Z4 E fn (dp+3+1) 148 [.d (CC x),.d (vi to)] [])=_
 rw[ZD,S.Zba,ZG,Zgn,ZC _ _ _ _ _ _ _ _ rfl]
 have w1:IntKind.i64.wrap (x.i+1)=x.i+1:=YH (by omega) (by omega)
 have t1:(x.i+1).toNat=x.i.toNat+1:=by omega
 by_cases he:to=x.e.next
 ·simp only [eG, go_sem, Z3 S, Z2 S, zN0, zN1, zN2, zN3, zN4, zI0, zI1, zI2, zI3, reduceCtorEq, Z6t S, eq_true he, Bool.not_true, KX S, hm, hs, hl, hr, h0, h1, Zq, Y9, Nat.succ_ne_zero, Nat.one_ne_zero, Nat.one_mul, Nat.le_refl, Md.B0, eq_true he.symm, Md.put]
  rfl
 ·have he' : ¬ x.e.next = to := fun h => he h.symm
  simp only[eG,go_sem,Z3 S,Z2 S,zN0,zN1,zN2,zN3,zN4,zI0,zI1,zI2,zI3,reduceCtorEq,Z6t S,eq_false he,Bool.not_false,KX S,hm,hs,hl,hr,h0,h1,Zq,Y9,Nat.succ_ne_zero,Nat.one_ne_zero,Nat.one_mul,Nat.le_refl,Md.B0,eq_false he',Md.put,PT S,List.length_set,w1,Md.cut,t1]
  rfl
theorem X6 (dp:Nat)(x_p_w x_p_wn x_p_fu x_p_r0 x_p_r1 x_p_r2 x_p_r3:Int)(x_p_ms:List MemT)(x_p_ls:List Label)(x_p_is:List Ins)(x_c_r0 x_c_r1 x_c_r2 x_c_r3:Int)(x_c_mm x_c_st:List Int)(x_c_pc:Int)(x_c_bf:List Ent)(x_c_rb:List Int)(x_c_en x_i x_e_pc x_e_vl x_e_ad x_e_fr x_e_nx:Int)(x_e_dn x_e_kn x_e_ft:Bool)(x_s_k x_s_o x_s_d:Int)(x_s_ag:Bool)(x_s_an:Int)(x_s_bg:Bool)(x_s_bn:Int)(x_s_nm:ByteArray)(x_s_tg to:Int)(hm:(⟨⟨x_p_w,x_p_wn,x_p_fu,⟨x_p_r0,x_p_r1,x_p_r2,x_p_r3⟩,x_p_ms,x_p_ls,x_p_is⟩,⟨⟨⟨x_c_r0,x_c_r1,x_c_r2,x_c_r3⟩,x_c_mm,x_c_st,x_c_pc⟩,x_c_bf,x_c_rb,x_c_en⟩,x_i,⟨x_e_pc,x_e_vl,x_e_ad,x_e_fr,x_e_nx,x_e_dn,x_e_kn,x_e_ft⟩,⟨x_s_k,x_s_o,x_s_d,⟨x_s_ag,x_s_an⟩,⟨x_s_bg,x_s_bn⟩,x_s_nm,x_s_tg⟩⟩:Spot).c.state.mem.length<1073741824)(hs:(⟨⟨x_p_w,x_p_wn,x_p_fu,⟨x_p_r0,x_p_r1,x_p_r2,x_p_r3⟩,x_p_ms,x_p_ls,x_p_is⟩,⟨⟨⟨x_c_r0,x_c_r1,x_c_r2,x_c_r3⟩,x_c_mm,x_c_st,x_c_pc⟩,x_c_bf,x_c_rb,x_c_en⟩,x_i,⟨x_e_pc,x_e_vl,x_e_ad,x_e_fr,x_e_nx,x_e_dn,x_e_kn,x_e_ft⟩,⟨x_s_k,x_s_o,x_s_d,⟨x_s_ag,x_s_an⟩,⟨x_s_bg,x_s_bn⟩,x_s_nm,x_s_tg⟩⟩:Spot).c.state.stack.length<1073741824)(hl:(⟨⟨x_p_w,x_p_wn,x_p_fu,⟨x_p_r0,x_p_r1,x_p_r2,x_p_r3⟩,x_p_ms,x_p_ls,x_p_is⟩,⟨⟨⟨x_c_r0,x_c_r1,x_c_r2,x_c_r3⟩,x_c_mm,x_c_st,x_c_pc⟩,x_c_bf,x_c_rb,x_c_en⟩,x_i,⟨x_e_pc,x_e_vl,x_e_ad,x_e_fr,x_e_nx,x_e_dn,x_e_kn,x_e_ft⟩,⟨x_s_k,x_s_o,x_s_d,⟨x_s_ag,x_s_an⟩,⟨x_s_bg,x_s_bn⟩,x_s_nm,x_s_tg⟩⟩:Spot).c.buf.length<1073741824)(hr:(⟨⟨x_p_w,x_p_wn,x_p_fu,⟨x_p_r0,x_p_r1,x_p_r2,x_p_r3⟩,x_p_ms,x_p_ls,x_p_is⟩,⟨⟨⟨x_c_r0,x_c_r1,x_c_r2,x_c_r3⟩,x_c_mm,x_c_st,x_c_pc⟩,x_c_bf,x_c_rb,x_c_en⟩,x_i,⟨x_e_pc,x_e_vl,x_e_ad,x_e_fr,x_e_nx,x_e_dn,x_e_kn,x_e_ft⟩,⟨x_s_k,x_s_o,x_s_d,⟨x_s_ag,x_s_an⟩,⟨x_s_bg,x_s_bn⟩,x_s_nm,x_s_tg⟩⟩:Spot).c.rsb.length<1073741824)(h0:0<=(⟨⟨x_p_w,x_p_wn,x_p_fu,⟨x_p_r0,x_p_r1,x_p_r2,x_p_r3⟩,x_p_ms,x_p_ls,x_p_is⟩,⟨⟨⟨x_c_r0,x_c_r1,x_c_r2,x_c_r3⟩,x_c_mm,x_c_st,x_c_pc⟩,x_c_bf,x_c_rb,x_c_en⟩,x_i,⟨x_e_pc,x_e_vl,x_e_ad,x_e_fr,x_e_nx,x_e_dn,x_e_kn,x_e_ft⟩,⟨x_s_k,x_s_o,x_s_d,⟨x_s_ag,x_s_an⟩,⟨x_s_bg,x_s_bn⟩,x_s_nm,x_s_tg⟩⟩:Spot).i)(h1:(⟨⟨x_p_w,x_p_wn,x_p_fu,⟨x_p_r0,x_p_r1,x_p_r2,x_p_r3⟩,x_p_ms,x_p_ls,x_p_is⟩,⟨⟨⟨x_c_r0,x_c_r1,x_c_r2,x_c_r3⟩,x_c_mm,x_c_st,x_c_pc⟩,x_c_bf,x_c_rb,x_c_en⟩,x_i,⟨x_e_pc,x_e_vl,x_e_ad,x_e_fr,x_e_nx,x_e_dn,x_e_kn,x_e_ft⟩,⟨x_s_k,x_s_o,x_s_d,⟨x_s_ag,x_s_an⟩,⟨x_s_bg,x_s_bn⟩,x_s_nm,x_s_tg⟩⟩:Spot).i<(⟨⟨x_p_w,x_p_wn,x_p_fu,⟨x_p_r0,x_p_r1,x_p_r2,x_p_r3⟩,x_p_ms,x_p_ls,x_p_is⟩,⟨⟨⟨x_c_r0,x_c_r1,x_c_r2,x_c_r3⟩,x_c_mm,x_c_st,x_c_pc⟩,x_c_bf,x_c_rb,x_c_en⟩,x_i,⟨x_e_pc,x_e_vl,x_e_ad,x_e_fr,x_e_nx,x_e_dn,x_e_kn,x_e_ft⟩,⟨x_s_k,x_s_o,x_s_d,⟨x_s_ag,x_s_an⟩,⟨x_s_bg,x_s_bn⟩,x_s_nm,x_s_tg⟩⟩:Spot).c.buf.length)(A:List Blk)(nb:Nat):Zv false E (Z4 E fn (dp+4)) 148 A nb (some ([.agg [vi x_p_w,vi x_p_wn,vi x_p_fu,vi x_p_r0,vi x_p_r1,vi x_p_r2,vi x_p_r3,rD x_p_ms,rD x_p_ls,rD x_p_is,vi x_c_r0,vi x_c_r1,vi x_c_r2,vi x_c_r3,rD x_c_mm,rD x_c_st,vi x_c_pc,rD x_c_bf,rD x_c_rb,vi x_c_en,vi x_i,vi x_e_pc,vi x_e_vl,vi x_e_ad,vi x_e_fr,vi x_e_nx,vb x_e_dn,vb x_e_kn,vb x_e_ft,vi x_s_k,vi x_s_o,vi x_s_d,vb x_s_ag,vi x_s_an,vb x_s_bg,vi x_s_bn,vt x_s_nm,vi x_s_tg],vi to],[]))=some (.made (.d (.tup [ZS (Md.B0 (⟨⟨x_p_w,x_p_wn,x_p_fu,⟨x_p_r0,x_p_r1,x_p_r2,x_p_r3⟩,x_p_ms,x_p_ls,x_p_is⟩,⟨⟨⟨x_c_r0,x_c_r1,x_c_r2,x_c_r3⟩,x_c_mm,x_c_st,x_c_pc⟩,x_c_bf,x_c_rb,x_c_en⟩,x_i,⟨x_e_pc,x_e_vl,x_e_ad,x_e_fr,x_e_nx,x_e_dn,x_e_kn,x_e_ft⟩,⟨x_s_k,x_s_o,x_s_d,⟨x_s_ag,x_s_an⟩,⟨x_s_bg,x_s_bn⟩,x_s_nm,x_s_tg⟩⟩:Spot).c (⟨⟨x_p_w,x_p_wn,x_p_fu,⟨x_p_r0,x_p_r1,x_p_r2,x_p_r3⟩,x_p_ms,x_p_ls,x_p_is⟩,⟨⟨⟨x_c_r0,x_c_r1,x_c_r2,x_c_r3⟩,x_c_mm,x_c_st,x_c_pc⟩,x_c_bf,x_c_rb,x_c_en⟩,x_i,⟨x_e_pc,x_e_vl,x_e_ad,x_e_fr,x_e_nx,x_e_dn,x_e_kn,x_e_ft⟩,⟨x_s_k,x_s_o,x_s_d,⟨x_s_ag,x_s_an⟩,⟨x_s_bg,x_s_bn⟩,x_s_nm,x_s_tg⟩⟩:Spot).i (⟨⟨x_p_w,x_p_wn,x_p_fu,⟨x_p_r0,x_p_r1,x_p_r2,x_p_r3⟩,x_p_ms,x_p_ls,x_p_is⟩,⟨⟨⟨x_c_r0,x_c_r1,x_c_r2,x_c_r3⟩,x_c_mm,x_c_st,x_c_pc⟩,x_c_bf,x_c_rb,x_c_en⟩,x_i,⟨x_e_pc,x_e_vl,x_e_ad,x_e_fr,x_e_nx,x_e_dn,x_e_kn,x_e_ft⟩,⟨x_s_k,x_s_o,x_s_d,⟨x_s_ag,x_s_an⟩,⟨x_s_bg,x_s_bn⟩,x_s_nm,x_s_tg⟩⟩:Spot).e to).1,rD (Md.B0 (⟨⟨x_p_w,x_p_wn,x_p_fu,⟨x_p_r0,x_p_r1,x_p_r2,x_p_r3⟩,x_p_ms,x_p_ls,x_p_is⟩,⟨⟨⟨x_c_r0,x_c_r1,x_c_r2,x_c_r3⟩,x_c_mm,x_c_st,x_c_pc⟩,x_c_bf,x_c_rb,x_c_en⟩,x_i,⟨x_e_pc,x_e_vl,x_e_ad,x_e_fr,x_e_nx,x_e_dn,x_e_kn,x_e_ft⟩,⟨x_s_k,x_s_o,x_s_d,⟨x_s_ag,x_s_an⟩,⟨x_s_bg,x_s_bn⟩,x_s_nm,x_s_tg⟩⟩:Spot).c (⟨⟨x_p_w,x_p_wn,x_p_fu,⟨x_p_r0,x_p_r1,x_p_r2,x_p_r3⟩,x_p_ms,x_p_ls,x_p_is⟩,⟨⟨⟨x_c_r0,x_c_r1,x_c_r2,x_c_r3⟩,x_c_mm,x_c_st,x_c_pc⟩,x_c_bf,x_c_rb,x_c_en⟩,x_i,⟨x_e_pc,x_e_vl,x_e_ad,x_e_fr,x_e_nx,x_e_dn,x_e_kn,x_e_ft⟩,⟨x_s_k,x_s_o,x_s_d,⟨x_s_ag,x_s_an⟩,⟨x_s_bg,x_s_bn⟩,x_s_nm,x_s_tg⟩⟩:Spot).i (⟨⟨x_p_w,x_p_wn,x_p_fu,⟨x_p_r0,x_p_r1,x_p_r2,x_p_r3⟩,x_p_ms,x_p_ls,x_p_is⟩,⟨⟨⟨x_c_r0,x_c_r1,x_c_r2,x_c_r3⟩,x_c_mm,x_c_st,x_c_pc⟩,x_c_bf,x_c_rb,x_c_en⟩,x_i,⟨x_e_pc,x_e_vl,x_e_ad,x_e_fr,x_e_nx,x_e_dn,x_e_kn,x_e_ft⟩,⟨x_s_k,x_s_o,x_s_d,⟨x_s_ag,x_s_an⟩,⟨x_s_bg,x_s_bn⟩,x_s_nm,x_s_tg⟩⟩:Spot).e to).2,vb true])) []):=
 Z6.deep (Zl4 S dp (⟨⟨x_p_w,x_p_wn,x_p_fu,⟨x_p_r0,x_p_r1,x_p_r2,x_p_r3⟩,x_p_ms,x_p_ls,x_p_is⟩,⟨⟨⟨x_c_r0,x_c_r1,x_c_r2,x_c_r3⟩,x_c_mm,x_c_st,x_c_pc⟩,x_c_bf,x_c_rb,x_c_en⟩,x_i,⟨x_e_pc,x_e_vl,x_e_ad,x_e_fr,x_e_nx,x_e_dn,x_e_kn,x_e_ft⟩,⟨x_s_k,x_s_o,x_s_d,⟨x_s_ag,x_s_an⟩,⟨x_s_bg,x_s_bn⟩,x_s_nm,x_s_tg⟩⟩:Spot) to hm hs hl hr h0 h1) (np S 148 (by decide)) A nb
theorem Zl5 (dp:Nat)(x:Spot)(hm:x.c.state.mem.length<1073741824)(hs:x.c.state.stack.length<1073741824)(hl:x.c.buf.length<1073741824)(hr:x.c.rsb.length<1073741824)(h0:0<=x.i)(h1:x.i<x.c.buf.length)(hg:(B6 (Md.real x.p x.c.state.stack x.c.buf x.i)).length<1073741824):Z6 E fn (dp+5) 150 [CC x] (.tup [ZS (Md.QQ (Zz x.p.mems) x.p x.c x.i x.e ⟨9,0,0,⟨false,0⟩,⟨false,0⟩,⟨#[]⟩,0⟩ 0 0 0).1,rD (Md.QQ (Zz x.p.mems) x.p x.c x.i x.e ⟨9,0,0,⟨false,0⟩,⟨false,0⟩,⟨#[]⟩,0⟩ 0 0 0).2,vb true]):=by
 unfold Z6
 show Z7 (Z4 E fn (dp+4+1) 150 [.d (CC x)] [])=_
 rw[ZD,S.Zbb,ZG,Zgo,ZC _ _ _ _ _ _ _ _ rfl]
 cases hreal:Md.real x.p x.c.state.stack x.c.buf x.i with
 | none=>simp only[eG,go_sem,Z3 S,Z2 S,zN0,zN1,zN2,zN3,zN4,zI0,zI1,zI2,zI3,reduceCtorEq,Z10 S,U4 S,S9 S,KX S,X6 S,hm,hs,hl,hr,h0,h1,Md.QQ,zI0,if_true,if_false,hreal,show EE (none:Option (List Int))=false from rfl,Bool.not_false,Bool.not_true,show(B6 none).length=0 from rfl,show(0:Nat)<1073741824 by decide]
 | some r=>
  rw[hreal] at hg
  have hg':r.length<1073741824:=hg
  by_cases hz:r.length=0
  ·simp only[eG,go_sem,Z3 S,Z2 S,zN0,zN1,zN2,zN3,zN4,zI0,zI1,zI2,zI3,reduceCtorEq,Z10 S,U4 S,S9 S,KX S,X6 S,hm,hs,hl,hr,h0,h1,Md.QQ,zI0,if_true,if_false,hreal,B6,EE,Bool.not_false,Bool.not_true,hg',ne_eq,eq_true hz,not_true_eq_false]
  ·simp only[eG,go_sem,Z3 S,Z2 S,zN0,zN1,zN2,zN3,zN4,zI0,zI1,zI2,zI3,reduceCtorEq,Z10 S,U4 S,S9 S,KX S,X6 S,hm,hs,hl,hr,h0,h1,Md.QQ,zI0,if_true,if_false,hreal,B6,EE,Bool.not_false,Bool.not_true,hg',ne_eq,eq_false hz,not_false_eq_true]
theorem Zso (dp:Nat)(x_p_w x_p_wn x_p_fu x_p_r0 x_p_r1 x_p_r2 x_p_r3:Int)(x_p_ms:List MemT)(x_p_ls:List Label)(x_p_is:List Ins)(x_c_r0 x_c_r1 x_c_r2 x_c_r3:Int)(x_c_mm x_c_st:List Int)(x_c_pc:Int)(x_c_bf:List Ent)(x_c_rb:List Int)(x_c_en x_i x_e_pc x_e_vl x_e_ad x_e_fr x_e_nx:Int)(x_e_dn x_e_kn x_e_ft:Bool)(x_s_k x_s_o x_s_d:Int)(x_s_ag:Bool)(x_s_an:Int)(x_s_bg:Bool)(x_s_bn:Int)(x_s_nm:ByteArray)(x_s_tg:Int)(hm:(⟨⟨x_p_w,x_p_wn,x_p_fu,⟨x_p_r0,x_p_r1,x_p_r2,x_p_r3⟩,x_p_ms,x_p_ls,x_p_is⟩,⟨⟨⟨x_c_r0,x_c_r1,x_c_r2,x_c_r3⟩,x_c_mm,x_c_st,x_c_pc⟩,x_c_bf,x_c_rb,x_c_en⟩,x_i,⟨x_e_pc,x_e_vl,x_e_ad,x_e_fr,x_e_nx,x_e_dn,x_e_kn,x_e_ft⟩,⟨x_s_k,x_s_o,x_s_d,⟨x_s_ag,x_s_an⟩,⟨x_s_bg,x_s_bn⟩,x_s_nm,x_s_tg⟩⟩:Spot).c.state.mem.length<1073741824)(hs:(⟨⟨x_p_w,x_p_wn,x_p_fu,⟨x_p_r0,x_p_r1,x_p_r2,x_p_r3⟩,x_p_ms,x_p_ls,x_p_is⟩,⟨⟨⟨x_c_r0,x_c_r1,x_c_r2,x_c_r3⟩,x_c_mm,x_c_st,x_c_pc⟩,x_c_bf,x_c_rb,x_c_en⟩,x_i,⟨x_e_pc,x_e_vl,x_e_ad,x_e_fr,x_e_nx,x_e_dn,x_e_kn,x_e_ft⟩,⟨x_s_k,x_s_o,x_s_d,⟨x_s_ag,x_s_an⟩,⟨x_s_bg,x_s_bn⟩,x_s_nm,x_s_tg⟩⟩:Spot).c.state.stack.length<1073741824)(hl:(⟨⟨x_p_w,x_p_wn,x_p_fu,⟨x_p_r0,x_p_r1,x_p_r2,x_p_r3⟩,x_p_ms,x_p_ls,x_p_is⟩,⟨⟨⟨x_c_r0,x_c_r1,x_c_r2,x_c_r3⟩,x_c_mm,x_c_st,x_c_pc⟩,x_c_bf,x_c_rb,x_c_en⟩,x_i,⟨x_e_pc,x_e_vl,x_e_ad,x_e_fr,x_e_nx,x_e_dn,x_e_kn,x_e_ft⟩,⟨x_s_k,x_s_o,x_s_d,⟨x_s_ag,x_s_an⟩,⟨x_s_bg,x_s_bn⟩,x_s_nm,x_s_tg⟩⟩:Spot).c.buf.length<1073741824)(hr:(⟨⟨x_p_w,x_p_wn,x_p_fu,⟨x_p_r0,x_p_r1,x_p_r2,x_p_r3⟩,x_p_ms,x_p_ls,x_p_is⟩,⟨⟨⟨x_c_r0,x_c_r1,x_c_r2,x_c_r3⟩,x_c_mm,x_c_st,x_c_pc⟩,x_c_bf,x_c_rb,x_c_en⟩,x_i,⟨x_e_pc,x_e_vl,x_e_ad,x_e_fr,x_e_nx,x_e_dn,x_e_kn,x_e_ft⟩,⟨x_s_k,x_s_o,x_s_d,⟨x_s_ag,x_s_an⟩,⟨x_s_bg,x_s_bn⟩,x_s_nm,x_s_tg⟩⟩:Spot).c.rsb.length<1073741824)(h0:0<=(⟨⟨x_p_w,x_p_wn,x_p_fu,⟨x_p_r0,x_p_r1,x_p_r2,x_p_r3⟩,x_p_ms,x_p_ls,x_p_is⟩,⟨⟨⟨x_c_r0,x_c_r1,x_c_r2,x_c_r3⟩,x_c_mm,x_c_st,x_c_pc⟩,x_c_bf,x_c_rb,x_c_en⟩,x_i,⟨x_e_pc,x_e_vl,x_e_ad,x_e_fr,x_e_nx,x_e_dn,x_e_kn,x_e_ft⟩,⟨x_s_k,x_s_o,x_s_d,⟨x_s_ag,x_s_an⟩,⟨x_s_bg,x_s_bn⟩,x_s_nm,x_s_tg⟩⟩:Spot).i)(h1:(⟨⟨x_p_w,x_p_wn,x_p_fu,⟨x_p_r0,x_p_r1,x_p_r2,x_p_r3⟩,x_p_ms,x_p_ls,x_p_is⟩,⟨⟨⟨x_c_r0,x_c_r1,x_c_r2,x_c_r3⟩,x_c_mm,x_c_st,x_c_pc⟩,x_c_bf,x_c_rb,x_c_en⟩,x_i,⟨x_e_pc,x_e_vl,x_e_ad,x_e_fr,x_e_nx,x_e_dn,x_e_kn,x_e_ft⟩,⟨x_s_k,x_s_o,x_s_d,⟨x_s_ag,x_s_an⟩,⟨x_s_bg,x_s_bn⟩,x_s_nm,x_s_tg⟩⟩:Spot).i<(⟨⟨x_p_w,x_p_wn,x_p_fu,⟨x_p_r0,x_p_r1,x_p_r2,x_p_r3⟩,x_p_ms,x_p_ls,x_p_is⟩,⟨⟨⟨x_c_r0,x_c_r1,x_c_r2,x_c_r3⟩,x_c_mm,x_c_st,x_c_pc⟩,x_c_bf,x_c_rb,x_c_en⟩,x_i,⟨x_e_pc,x_e_vl,x_e_ad,x_e_fr,x_e_nx,x_e_dn,x_e_kn,x_e_ft⟩,⟨x_s_k,x_s_o,x_s_d,⟨x_s_ag,x_s_an⟩,⟨x_s_bg,x_s_bn⟩,x_s_nm,x_s_tg⟩⟩:Spot).c.buf.length)(hg:(B6 (Md.real (⟨⟨x_p_w,x_p_wn,x_p_fu,⟨x_p_r0,x_p_r1,x_p_r2,x_p_r3⟩,x_p_ms,x_p_ls,x_p_is⟩,⟨⟨⟨x_c_r0,x_c_r1,x_c_r2,x_c_r3⟩,x_c_mm,x_c_st,x_c_pc⟩,x_c_bf,x_c_rb,x_c_en⟩,x_i,⟨x_e_pc,x_e_vl,x_e_ad,x_e_fr,x_e_nx,x_e_dn,x_e_kn,x_e_ft⟩,⟨x_s_k,x_s_o,x_s_d,⟨x_s_ag,x_s_an⟩,⟨x_s_bg,x_s_bn⟩,x_s_nm,x_s_tg⟩⟩:Spot).p (⟨⟨x_p_w,x_p_wn,x_p_fu,⟨x_p_r0,x_p_r1,x_p_r2,x_p_r3⟩,x_p_ms,x_p_ls,x_p_is⟩,⟨⟨⟨x_c_r0,x_c_r1,x_c_r2,x_c_r3⟩,x_c_mm,x_c_st,x_c_pc⟩,x_c_bf,x_c_rb,x_c_en⟩,x_i,⟨x_e_pc,x_e_vl,x_e_ad,x_e_fr,x_e_nx,x_e_dn,x_e_kn,x_e_ft⟩,⟨x_s_k,x_s_o,x_s_d,⟨x_s_ag,x_s_an⟩,⟨x_s_bg,x_s_bn⟩,x_s_nm,x_s_tg⟩⟩:Spot).c.state.stack (⟨⟨x_p_w,x_p_wn,x_p_fu,⟨x_p_r0,x_p_r1,x_p_r2,x_p_r3⟩,x_p_ms,x_p_ls,x_p_is⟩,⟨⟨⟨x_c_r0,x_c_r1,x_c_r2,x_c_r3⟩,x_c_mm,x_c_st,x_c_pc⟩,x_c_bf,x_c_rb,x_c_en⟩,x_i,⟨x_e_pc,x_e_vl,x_e_ad,x_e_fr,x_e_nx,x_e_dn,x_e_kn,x_e_ft⟩,⟨x_s_k,x_s_o,x_s_d,⟨x_s_ag,x_s_an⟩,⟨x_s_bg,x_s_bn⟩,x_s_nm,x_s_tg⟩⟩:Spot).c.buf (⟨⟨x_p_w,x_p_wn,x_p_fu,⟨x_p_r0,x_p_r1,x_p_r2,x_p_r3⟩,x_p_ms,x_p_ls,x_p_is⟩,⟨⟨⟨x_c_r0,x_c_r1,x_c_r2,x_c_r3⟩,x_c_mm,x_c_st,x_c_pc⟩,x_c_bf,x_c_rb,x_c_en⟩,x_i,⟨x_e_pc,x_e_vl,x_e_ad,x_e_fr,x_e_nx,x_e_dn,x_e_kn,x_e_ft⟩,⟨x_s_k,x_s_o,x_s_d,⟨x_s_ag,x_s_an⟩,⟨x_s_bg,x_s_bn⟩,x_s_nm,x_s_tg⟩⟩:Spot).i)).length<1073741824)(A:List Blk)(nb:Nat):Zv false E (Z4 E fn (dp+5)) 150 A nb (some ([.agg [vi x_p_w,vi x_p_wn,vi x_p_fu,vi x_p_r0,vi x_p_r1,vi x_p_r2,vi x_p_r3,rD x_p_ms,rD x_p_ls,rD x_p_is,vi x_c_r0,vi x_c_r1,vi x_c_r2,vi x_c_r3,rD x_c_mm,rD x_c_st,vi x_c_pc,rD x_c_bf,rD x_c_rb,vi x_c_en,vi x_i,vi x_e_pc,vi x_e_vl,vi x_e_ad,vi x_e_fr,vi x_e_nx,vb x_e_dn,vb x_e_kn,vb x_e_ft,vi x_s_k,vi x_s_o,vi x_s_d,vb x_s_ag,vi x_s_an,vb x_s_bg,vi x_s_bn,vt x_s_nm,vi x_s_tg]],[]))=some (.made (.d (.tup [ZS (Md.QQ (Zz (⟨⟨x_p_w,x_p_wn,x_p_fu,⟨x_p_r0,x_p_r1,x_p_r2,x_p_r3⟩,x_p_ms,x_p_ls,x_p_is⟩,⟨⟨⟨x_c_r0,x_c_r1,x_c_r2,x_c_r3⟩,x_c_mm,x_c_st,x_c_pc⟩,x_c_bf,x_c_rb,x_c_en⟩,x_i,⟨x_e_pc,x_e_vl,x_e_ad,x_e_fr,x_e_nx,x_e_dn,x_e_kn,x_e_ft⟩,⟨x_s_k,x_s_o,x_s_d,⟨x_s_ag,x_s_an⟩,⟨x_s_bg,x_s_bn⟩,x_s_nm,x_s_tg⟩⟩:Spot).p.mems) (⟨⟨x_p_w,x_p_wn,x_p_fu,⟨x_p_r0,x_p_r1,x_p_r2,x_p_r3⟩,x_p_ms,x_p_ls,x_p_is⟩,⟨⟨⟨x_c_r0,x_c_r1,x_c_r2,x_c_r3⟩,x_c_mm,x_c_st,x_c_pc⟩,x_c_bf,x_c_rb,x_c_en⟩,x_i,⟨x_e_pc,x_e_vl,x_e_ad,x_e_fr,x_e_nx,x_e_dn,x_e_kn,x_e_ft⟩,⟨x_s_k,x_s_o,x_s_d,⟨x_s_ag,x_s_an⟩,⟨x_s_bg,x_s_bn⟩,x_s_nm,x_s_tg⟩⟩:Spot).p (⟨⟨x_p_w,x_p_wn,x_p_fu,⟨x_p_r0,x_p_r1,x_p_r2,x_p_r3⟩,x_p_ms,x_p_ls,x_p_is⟩,⟨⟨⟨x_c_r0,x_c_r1,x_c_r2,x_c_r3⟩,x_c_mm,x_c_st,x_c_pc⟩,x_c_bf,x_c_rb,x_c_en⟩,x_i,⟨x_e_pc,x_e_vl,x_e_ad,x_e_fr,x_e_nx,x_e_dn,x_e_kn,x_e_ft⟩,⟨x_s_k,x_s_o,x_s_d,⟨x_s_ag,x_s_an⟩,⟨x_s_bg,x_s_bn⟩,x_s_nm,x_s_tg⟩⟩:Spot).c (⟨⟨x_p_w,x_p_wn,x_p_fu,⟨x_p_r0,x_p_r1,x_p_r2,x_p_r3⟩,x_p_ms,x_p_ls,x_p_is⟩,⟨⟨⟨x_c_r0,x_c_r1,x_c_r2,x_c_r3⟩,x_c_mm,x_c_st,x_c_pc⟩,x_c_bf,x_c_rb,x_c_en⟩,x_i,⟨x_e_pc,x_e_vl,x_e_ad,x_e_fr,x_e_nx,x_e_dn,x_e_kn,x_e_ft⟩,⟨x_s_k,x_s_o,x_s_d,⟨x_s_ag,x_s_an⟩,⟨x_s_bg,x_s_bn⟩,x_s_nm,x_s_tg⟩⟩:Spot).i (⟨⟨x_p_w,x_p_wn,x_p_fu,⟨x_p_r0,x_p_r1,x_p_r2,x_p_r3⟩,x_p_ms,x_p_ls,x_p_is⟩,⟨⟨⟨x_c_r0,x_c_r1,x_c_r2,x_c_r3⟩,x_c_mm,x_c_st,x_c_pc⟩,x_c_bf,x_c_rb,x_c_en⟩,x_i,⟨x_e_pc,x_e_vl,x_e_ad,x_e_fr,x_e_nx,x_e_dn,x_e_kn,x_e_ft⟩,⟨x_s_k,x_s_o,x_s_d,⟨x_s_ag,x_s_an⟩,⟨x_s_bg,x_s_bn⟩,x_s_nm,x_s_tg⟩⟩:Spot).e ⟨9,0,0,⟨false,0⟩,⟨false,0⟩,⟨#[]⟩,0⟩ 0 0 0).1,rD (Md.QQ (Zz (⟨⟨x_p_w,x_p_wn,x_p_fu,⟨x_p_r0,x_p_r1,x_p_r2,x_p_r3⟩,x_p_ms,x_p_ls,x_p_is⟩,⟨⟨⟨x_c_r0,x_c_r1,x_c_r2,x_c_r3⟩,x_c_mm,x_c_st,x_c_pc⟩,x_c_bf,x_c_rb,x_c_en⟩,x_i,⟨x_e_pc,x_e_vl,x_e_ad,x_e_fr,x_e_nx,x_e_dn,x_e_kn,x_e_ft⟩,⟨x_s_k,x_s_o,x_s_d,⟨x_s_ag,x_s_an⟩,⟨x_s_bg,x_s_bn⟩,x_s_nm,x_s_tg⟩⟩:Spot).p.mems) (⟨⟨x_p_w,x_p_wn,x_p_fu,⟨x_p_r0,x_p_r1,x_p_r2,x_p_r3⟩,x_p_ms,x_p_ls,x_p_is⟩,⟨⟨⟨x_c_r0,x_c_r1,x_c_r2,x_c_r3⟩,x_c_mm,x_c_st,x_c_pc⟩,x_c_bf,x_c_rb,x_c_en⟩,x_i,⟨x_e_pc,x_e_vl,x_e_ad,x_e_fr,x_e_nx,x_e_dn,x_e_kn,x_e_ft⟩,⟨x_s_k,x_s_o,x_s_d,⟨x_s_ag,x_s_an⟩,⟨x_s_bg,x_s_bn⟩,x_s_nm,x_s_tg⟩⟩:Spot).p (⟨⟨x_p_w,x_p_wn,x_p_fu,⟨x_p_r0,x_p_r1,x_p_r2,x_p_r3⟩,x_p_ms,x_p_ls,x_p_is⟩,⟨⟨⟨x_c_r0,x_c_r1,x_c_r2,x_c_r3⟩,x_c_mm,x_c_st,x_c_pc⟩,x_c_bf,x_c_rb,x_c_en⟩,x_i,⟨x_e_pc,x_e_vl,x_e_ad,x_e_fr,x_e_nx,x_e_dn,x_e_kn,x_e_ft⟩,⟨x_s_k,x_s_o,x_s_d,⟨x_s_ag,x_s_an⟩,⟨x_s_bg,x_s_bn⟩,x_s_nm,x_s_tg⟩⟩:Spot).c (⟨⟨x_p_w,x_p_wn,x_p_fu,⟨x_p_r0,x_p_r1,x_p_r2,x_p_r3⟩,x_p_ms,x_p_ls,x_p_is⟩,⟨⟨⟨x_c_r0,x_c_r1,x_c_r2,x_c_r3⟩,x_c_mm,x_c_st,x_c_pc⟩,x_c_bf,x_c_rb,x_c_en⟩,x_i,⟨x_e_pc,x_e_vl,x_e_ad,x_e_fr,x_e_nx,x_e_dn,x_e_kn,x_e_ft⟩,⟨x_s_k,x_s_o,x_s_d,⟨x_s_ag,x_s_an⟩,⟨x_s_bg,x_s_bn⟩,x_s_nm,x_s_tg⟩⟩:Spot).i (⟨⟨x_p_w,x_p_wn,x_p_fu,⟨x_p_r0,x_p_r1,x_p_r2,x_p_r3⟩,x_p_ms,x_p_ls,x_p_is⟩,⟨⟨⟨x_c_r0,x_c_r1,x_c_r2,x_c_r3⟩,x_c_mm,x_c_st,x_c_pc⟩,x_c_bf,x_c_rb,x_c_en⟩,x_i,⟨x_e_pc,x_e_vl,x_e_ad,x_e_fr,x_e_nx,x_e_dn,x_e_kn,x_e_ft⟩,⟨x_s_k,x_s_o,x_s_d,⟨x_s_ag,x_s_an⟩,⟨x_s_bg,x_s_bn⟩,x_s_nm,x_s_tg⟩⟩:Spot).e ⟨9,0,0,⟨false,0⟩,⟨false,0⟩,⟨#[]⟩,0⟩ 0 0 0).2,vb true])) []):=
 Z6.deep (Zl5 S dp (⟨⟨x_p_w,x_p_wn,x_p_fu,⟨x_p_r0,x_p_r1,x_p_r2,x_p_r3⟩,x_p_ms,x_p_ls,x_p_is⟩,⟨⟨⟨x_c_r0,x_c_r1,x_c_r2,x_c_r3⟩,x_c_mm,x_c_st,x_c_pc⟩,x_c_bf,x_c_rb,x_c_en⟩,x_i,⟨x_e_pc,x_e_vl,x_e_ad,x_e_fr,x_e_nx,x_e_dn,x_e_kn,x_e_ft⟩,⟨x_s_k,x_s_o,x_s_d,⟨x_s_ag,x_s_an⟩,⟨x_s_bg,x_s_bn⟩,x_s_nm,x_s_tg⟩⟩:Spot) hm hs hl hr h0 h1 hg) (np S 150 (by decide)) A nb
end
set_option maxRecDepth 200000
def JV (N:Int)(p:Prog)(c:Conf)(i:Int):Conf×List Obs:=bif Md.can N p c i then Md.JU N p c i else(Md.B1,[])
theorem Zcu {N:Int}{p:Prog}{c:Conf}{i:Int}(h:Md.can N p c i=true):Md.QE p c i=true:=by
 simp only[Md.can,Bool.and_eq_true] at h;exact h.1.1
variable {E:Env} {fn:FuncId->Option (Env->cT->cT)}
section
variable (S:Sur E fn)
include S
theorem Z6m:E.lives 88 7=none/\E.lives 88 25=none/\E.lives 88 27=none/\E.lives 88 31=none/\E.lives 88 35=none/\E.lives 88 37=none/\E.lives 88 41=none/\E.lives 88 45=none/\E.lives 88 49=none:=⟨off S 88 7 (by decide) rfl,off S 88 25 (by decide) rfl,off S 88 27 (by decide) rfl,off S 88 31 (by decide) rfl,off S 88 35 (by decide) rfl,off S 88 37 (by decide) rfl,off S 88 41 (by decide) rfl,off S 88 45 (by decide) rfl,off S 88 49 (by decide) rfl⟩
theorem Zl7 (dp:Nat)(p:Prog)(c:Conf)(i:Int)(hp:p.mems.length<1073741824)(hm:c.state.mem.length<1073741824)(hs:c.state.stack.length<1073741824)(hl:c.buf.length<1073741824)(hr:c.rsb.length<1073741824)(hg:(B6 (Md.real p c.state.stack c.buf i)).length<1073741824):Z6 E fn (dp+10) 88 [Zw p,ZS c,vi i] (.tup [ZS (JV (Zz p.mems) p c i).1,rD (JV (Zz p.mems) p c i).2,vb (Md.can (Zz p.mems) p c i)]):=by
 unfold Z6
 show Z7 (Z4 E fn (dp+9+1) 88 [.d (Zw p),.d (ZS c),.d (vi i)] [])=_
 rw[ZD,S.Zbd,ZG,Zgq,ZC _ _ _ _ _ _ _ _ rfl]
 cases hcan:Md.can (Zz p.mems) p c i with
 | false=>simp only[eG,go_sem,Z3 S,Z2 S,Nat.reduceLT,Nat.reduceEqDiff,Nat.reduceAdd,Nat.reduceMul,Nat.reduceLeDiff,Int.reduceEq,Int.reduceLT,Int.reduceLE,Int.reduceNeg,reduceCtorEq,Z6m S,Z2t S,hl,hp,hcan,Bool.not_false,JV,Md.B1]
 | true=>
  have ho:=Zcu hcan
  obtain⟨h0,he,h1⟩:=P6 ho
  simp only[eG,go_sem,Z3 S,Z2 S,Nat.reduceLT,Nat.reduceEqDiff,Nat.reduceAdd,Nat.reduceMul,Nat.reduceLeDiff,Int.reduceEq,Int.reduceLT,Int.reduceLE,Int.reduceNeg,reduceCtorEq,Z6m S,Z2t S,hl,hp,hm,hs,hr,hg,h0,h1,hcan,Bool.not_true,H8 S,ho,JP,X5 S,Zd3 S,Zs4 S,Zs3 S,Zd2 S,KX S,X6 S,Zso S,JV,Md.JU,Md.put,Zq,Y9,Nat.one_ne_zero,Nat.one_mul,Nat.le_refl,Nat.succ_ne_zero,Rv,Rx]
  by_cases k1:(Md.Yk p c i).kind=1
  ·simp only[k1,Md.QQ,Md.put,if_true,if_false,Int.reduceEq,decide_true,cond_true];rfl
  by_cases k4:(Md.Yk p c i).kind=4
  ·simp only[k4,Md.QQ,Md.put,if_true,if_false,Int.reduceEq,decide_true,decide_false,cond_true,cond_false];rfl
  by_cases k3:(Md.Yk p c i).kind=3
  ·simp only[k3,Md.QQ,Md.put,if_true,if_false,Int.reduceEq,decide_true,decide_false,cond_true,cond_false];rfl
  by_cases k5:(Md.Yk p c i).kind=5
  ·simp only[k5,Md.QQ,if_true,if_false,Int.reduceEq,decide_true,decide_false,cond_true,cond_false]
  by_cases k7:(Md.Yk p c i).kind=7
  ·simp only[k7,Md.QQ,if_true,if_false,Int.reduceEq,decide_true,decide_false,cond_true,cond_false]
  by_cases k9:(Md.Yk p c i).kind=9
  ·simp only[k9,Md.QQ,if_true,if_false,Int.reduceEq,decide_true,decide_false,cond_true,cond_false]
  by_cases k2:(Md.Yk p c i).kind=2
  ·have hab:M3 ⟨p,c,i,Md.ZP c.buf i,Md.Yk p c i⟩=true:=by
    have h:=hcan
    simp only[Md.can,Md.ready,k2,Int.reduceEq,or_self,if_false,if_true,Bool.and_eq_true] at h
    show((Md.Y2 p c i (Md.Yk p c i).a).2&&(Md.Y2 p c i (Md.Yk p c i).b).2)=true
    rw[h.2.1.1,h.2.1.2];rfl
   have had:FX ⟨p,c,i,Md.ZP c.buf i,Md.Yk p c i⟩=Md.Y1 p.w ((Md.Y2 p c i (Md.Yk p c i).a).1+(Md.Y2 p c i (Md.Yk p c i).b).1):=rfl
   by_cases hin:Md.Y1 p.w ((Md.Y2 p c i (Md.Yk p c i).a).1+(Md.Y2 p c i (Md.Yk p c i).b).1)<Zz p.mems
   ·have hin' : N5 ⟨p, c, i, Md.ZP c.buf i, Md.Yk p c i⟩ = true := by unfold N5; rw [had]; exact decide_eq_true hin
    simp only[k2,FH,hab,hin',had,Md.QQ,Md.put,if_true,if_false,Int.reduceEq,decide_true,decide_false,cond_true,cond_false,ge_iff_le,Int.not_le.2 hin];rfl
   ·have hin' : N5 ⟨p, c, i, Md.ZP c.buf i, Md.Yk p c i⟩ = false := by unfold N5; rw [had]; exact decide_eq_false hin
    simp only[k2,FH,hab,hin',had,Md.QQ,Md.put,if_true,if_false,Int.reduceEq,decide_true,decide_false,cond_true,cond_false,ge_iff_le,Int.not_lt.1 hin];rfl
  ·simp only[k1,k2,k3,k4,k5,k7,k9,Md.QQ,Md.put,if_true,if_false,Int.reduceEq,decide_true,decide_false,cond_true,cond_false];rfl
end
theorem Z1q (p:Prog)(i addr:Int):∀(l:List Ent) (k:Nat),(Md.JM p i addr k l).2=true->(k:Int)<=(Md.JM p i addr k l).1/\(Md.JM p i addr k l).1<k+l.length
 | [],_,h=>by cases h
 | e::l,k,h=>by
  unfold Md.JM at h ⊢
  cases hh:Md.FN p i addr e with
  | true=>simp;omega
  | false=>
   rw[hh] at h
   simp only[cond_false] at h ⊢
   have:=Z1q p i addr l (k+1) h
   simp only[List.length_cons]
   omega
theorem Z89 {p:Prog}{l:List Ent}{i addr:Int}(h:(Md.J9 p l i addr).2=true):0<=(Md.J9 p l i addr).1/\(Md.J9 p l i addr).1<l.length:=by
 have:=Z1q p i addr _ _ h
 unfold Md.J9
 rw[List.length_drop] at this
 omega
def EH (N:Int)(p:Prog)(c:Conf)(i:Int):Conf×List Obs:=bif Md.Q8 p c i then Md.EG N p c i else(Md.B1,[])
theorem Zcv {p:Prog}{c:Conf}{i:Int}(h:Md.Q8 p c i=true):Md.QE p c i=true:=by
 simp only[Md.Q8,Bool.and_eq_true] at h;exact h.1.1.1.1
variable {E:Env} {fn:FuncId->Option (Env->cT->cT)}
section
variable (S:Sur E fn)
include S
theorem W4:E.lives 142 9=none:=off S 142 9 (by decide) rfl
theorem VW:E.lives 89 7=none/\E.lives 89 23=none/\E.lives 89 29=none:=⟨off S 89 7 (by decide) rfl,off S 89 23 (by decide) rfl,off S 89 29 (by decide) rfl⟩
theorem Zl8 (dp:Nat)(p:Prog)(c:Conf)(i:Int)(hl:c.buf.length<1073741824):Z6 E fn (dp+7) 142 [Zw p,ZS c,vi i] (vb (Md.Q8 p c i)):=by
 unfold Z6
 show Z7 (Z4 E fn (dp+6+1) 142 [.d (Zw p),.d (ZS c),.d (vi i)] [])=_
 rw[ZD,S.Zbe,ZG,Zgr,ZC _ _ _ _ _ _ _ _ rfl]
 cases ho:Md.QE p c i with
 | false=>simp only[eG,go_sem,Z3 S,Z2 S,zN0,zN1,zN2,zN3,zN4,zI0,zI1,zI2,zI3,reduceCtorEq,W4 S,H8 S,hl,ho,Bool.not_false,Md.Q8]
 | true=>
  by_cases k3:(Md.Yk p c i).kind=3
  ·cases hk : (Md.ZP c.buf i).known with
   | true=>simp only[eG,go_sem,Z3 S,Z2 S,zN0,zN1,zN2,zN3,zN4,zI0,zI1,zI2,zI3,reduceCtorEq,W4 S,H8 S,hl,ho,JP,eq_true k3,hk,Bool.not_true,Md.Q8]
   | false=>
    have hk2:(JP p c i).e.known=false:=hk
    simp only[eG,go_sem,Z3 S,Z2 S,zN0,zN1,zN2,zN3,zN4,zI0,zI1,zI2,zI3,reduceCtorEq,W4 S,H8 S,hl,ho,JP,eq_true k3,hk,Bool.not_true,Bool.not_false,Md.Q8,NG S]
  ·simp only[eG,go_sem,Z3 S,Z2 S,zN0,zN1,zN2,zN3,zN4,zI0,zI1,zI2,zI3,reduceCtorEq,W4 S,H8 S,hl,ho,JP,eq_false k3,Bool.not_true,Bool.not_false,Md.Q8]
theorem U6 (dp:Nat)(p_w p_wn p_fu p_r0 p_r1 p_r2 p_r3:Int)(p_ms:List MemT)(p_ls:List Label)(p_is:List Ins)(c_r0 c_r1 c_r2 c_r3:Int)(c_mm c_st:List Int)(c_pc:Int)(c_bf:List Ent)(c_rb:List Int)(c_en i:Int)(hl:(⟨⟨⟨c_r0,c_r1,c_r2,c_r3⟩,c_mm,c_st,c_pc⟩,c_bf,c_rb,c_en⟩:Conf).buf.length<1073741824)(A:List Blk)(nb:Nat)(us:List Nat):Zv false E (Z4 E fn (dp+7)) 142 A nb (some ([.agg [vi p_w,vi p_wn,vi p_fu,vi p_r0,vi p_r1,vi p_r2,vi p_r3,rD p_ms,rD p_ls,rD p_is],.agg [vi c_r0,vi c_r1,vi c_r2,vi c_r3,rD c_mm,rD c_st,vi c_pc,rD c_bf,rD c_rb,vi c_en],vi i],us))=some (.made (.d (vb (Md.Q8 (⟨p_w,p_wn,p_fu,⟨p_r0,p_r1,p_r2,p_r3⟩,p_ms,p_ls,p_is⟩:Prog) (⟨⟨⟨c_r0,c_r1,c_r2,c_r3⟩,c_mm,c_st,c_pc⟩,c_bf,c_rb,c_en⟩:Conf) i))) []):=
 Z6.flat (Zl8 S dp (⟨p_w,p_wn,p_fu,⟨p_r0,p_r1,p_r2,p_r3⟩,p_ms,p_ls,p_is⟩:Prog) (⟨⟨⟨c_r0,c_r1,c_r2,c_r3⟩,c_mm,c_st,c_pc⟩,c_bf,c_rb,c_en⟩:Conf) i hl) (np S 142 (by decide)) (rfl) A nb us
theorem Zla (dp:Nat)(p:Prog)(c:Conf)(i:Int)(hp:p.mems.length<1073741824)(hm:c.state.mem.length<1073741824)(hs:c.state.stack.length<1073741824)(hl:c.buf.length<1073741824)(hr:c.rsb.length<1073741824):Z6 E fn (dp+8) 89 [Zw p,ZS c,vi i] (.tup [ZS (EH (Zz p.mems) p c i).1,rD (EH (Zz p.mems) p c i).2,vb (Md.Q8 p c i)]):=by
 unfold Z6
 show Z7 (Z4 E fn (dp+7+1) 89 [.d (Zw p),.d (ZS c),.d (vi i)] [])=_
 rw[ZD,S.Zbg,ZG,Zgt,ZC _ _ _ _ _ _ _ _ rfl]
 cases hcan:Md.Q8 p c i with
 | false=>simp only[eG,go_sem,Z3 S,Z2 S,zN0,zN1,zN2,zN3,zN4,zI0,zI1,zI2,zI3,reduceCtorEq,VW S,U6 S,hl,hp,hcan,Bool.not_false,EH,Md.B1]
 | true=>
  have ho:=Zcv hcan
  obtain⟨h0,he,h1⟩:=P6 ho
  have had:Md.Y1 p.w ((Md.Y2 p c i (Md.Yk p c i).a).1+(Md.Y2 p c i (Md.Yk p c i).b).1)=Md.QU p c i:=rfl
  by_cases hin:Md.QU p c i<Zz p.mems
  ·have hge : ¬ Md.QU p c i >= Zz p.mems := by omega
   have hlen:∀ e,(c.buf.set i.toNat e).length=c.buf.length:=fun e=>List.length_set
   generalize hL:c.buf.set i.toNat { Md.ZP c.buf i with addr:=Md.QU p c i,known:=true,fault:=false }=L
   have hLl:L.length<1073741824:=by rw[<-hL,hlen];exact hl
   cases hz:(Md.J9 p L i (Md.QU p c i)).2 with
   | false=>simp only[eG,go_sem,Z3 S,Z2 S,zN0,zN1,zN2,zN3,zN4,zI0,zI1,zI2,zI3,reduceCtorEq,VW S,U6 S,hl,hp,hm,hs,hr,h0,h1,hcan,Bool.not_true,Bool.not_false,H8 S,ho,JP,NG S,U3 S,had,KX S,EH,Md.EG,Md.M2,Md.put,Zq,Y9,Nat.one_ne_zero,Nat.one_mul,Nat.le_refl,Nat.succ_ne_zero,hin,hge,hL,hLl,Zd1 S,hz,show i<4611686018427387904 by omega,show -4611686018427387904<i by omega,Md.Nz];rfl
   | true=>
    obtain⟨z0,z1⟩:=Z89 hz
    obtain⟨e2,he2⟩:=YK (show(Md.J9 p L i (Md.QU p c i)).1.toNat<L.length by omega)
    have he3:Md.ZP L (Md.J9 p L i (Md.QU p c i)).1=e2:=by unfold Md.ZP;rw[he2];rfl
    simp only[eG,go_sem,Z3 S,Z2 S,zN0,zN1,zN2,zN3,zN4,zI0,zI1,zI2,zI3,reduceCtorEq,VW S,U6 S,hl,hp,hm,hs,hr,h0,h1,hcan,Bool.not_true,Bool.not_false,H8 S,ho,JP,NG S,U3 S,had,KX S,EH,Md.EG,Md.M2,Md.put,Zq,Y9,Nat.one_ne_zero,Nat.one_mul,Nat.le_refl,Nat.succ_ne_zero,hin,hge,hL,hLl,Zd1 S,hz,show i<4611686018427387904 by omega,show -4611686018427387904<i by omega,Md.Nz,E1 z0 he2,he3,PT S,Md.cut];rfl
  ·have hge : Md.QU p c i >= Zz p.mems := by omega
   simp only[eG,go_sem,Z3 S,Z2 S,zN0,zN1,zN2,zN3,zN4,zI0,zI1,zI2,zI3,reduceCtorEq,VW S,U6 S,hl,hp,hm,hs,hr,h0,h1,hcan,Bool.not_true,Bool.not_false,H8 S,ho,JP,NG S,U3 S,had,KX S,EH,Md.EG,Md.M2,Md.put,Zq,Y9,Nat.one_ne_zero,Nat.one_mul,Nat.le_refl,Nat.succ_ne_zero,hin,hge]
end
theorem QA (ps:List (Opd×Opd))(k:K)(tm:List AV)(A:List Blk):H4 ps k tm A=bif D8 tm ps then k tm A else none:=id rfl
theorem Qw (tm:List AV)(p:Opd×Opd)(l:List (Opd×Opd)):D8 tm (p::l)=(HC (look tm p.1) (look tm p.2)&&D8 tm l):=id rfl
theorem Qv (tm:List AV):D8 tm []=true:=id rfl
theorem Qz (i v o j w q:Nat):HC (.ref i v o) (.ref j w q)= !Nat.beq i j:=id rfl
theorem WW (l:List Ent)(i:Int)(e:Ent):Md.cut (l.set i.toNat e) i=Md.cut l i:=by
 unfold Md.cut;rw[List.take_set_of_le (Nat.le_refl _)]
theorem CA (p:Prog)(c:Conf)(i:Int)(e:Ent)(v:Val):Md.Y2 p ⟨c.state,c.buf.set i.toNat e,c.rsb,c.end_⟩ i v=Md.Y2 p c i v:=by
 unfold Md.Y2 Md.val Md.reg;simp only[WW]
theorem CV (p:Prog)(c:Conf)(i:Int)(e:Ent)(r:Int):Md.C5 p ⟨c.state,c.buf.set i.toNat e,c.rsb,c.end_⟩ i r=Md.C5 p c i r:=by
 unfold Md.C5 Md.reg;simp only[WW]
theorem Dz (p:Prog)(mem:List Int)(l:List Ent)(i a:Int)(e:Ent):Md.load p mem (l.set i.toNat e) i a=Md.load p mem l i a:=by
 unfold Md.load;rw[WW]
theorem CE (p:Prog)(st:List Int)(l:List Ent)(i:Int)(e:Ent):Md.real p st (l.set i.toNat e) i=Md.real p st l i:=by
 unfold Md.real;rw[WW]
theorem BT (A:List Blk)(s bytes n:Nat)(new:List AV)(h0:n≠0)(h1:n*bytes<=Z5)(h2:n<=Z5):YU A s bytes (.d (.lst [] 0 (some 0))) new n=some (.fresh new n):=by
 obtain⟨m,rfl⟩:∃ m,n=m+1:=⟨n-1,by omega⟩
 rw[Zds,Nat.zero_add,if_pos ⟨by omega,by simp,h1,h2⟩];rfl
theorem CN {l:List Ent}{k:Nat}{e:Ent}(he:l[k]? =some e)(i v:Nat)(A:List Blk)(b:Bool):storeAt A i v (k*8+5) [.d (vb b)] 1 (some (.cells ((rC l).map .d) v false))=some (A.set i (.cells ((rC (l.set k { e with done:=b })).map .d) v false)):=
 NX (o:=5) (e':={ e with done:=b }) [vb b] he rfl rfl rfl rfl (by show 5+1<=8;decide) 8 rfl _ rfl
theorem Z7o {r junk:List Int}(h:r.length≠0):BF false 1 (((rC (r++junk)).map AV.d).drop (r.length-1))=some (.d (vi (Md.C9 r))):=by
 have e1:∀ l:List Int,rC l=l.map vi:=by
  intro l
  induction l with
  | nil=>rfl
  | cons a l ih=>show Cl.cells a++rC l=_;rw[ih];rfl
 have e2:(((rC (r++junk)).map AV.d).drop (r.length-1)).head? =some (.d (vi (Md.C9 r))):=by
  rw[List.head?_drop,List.getElem?_map,e1,List.getElem?_map,List.getElem?_append_left (by omega),Z1k h];rfl
 exact e2
theorem BJ {l:List Ent}(n:Nat)(h:n<=l.length):DV.lst (rC (l.take n)) n none=rD (l.take n):=by
 unfold rD;rw[List.length_take,Nat.min_eq_left h]
variable {E:Env} {fn:FuncId->Option (Env->cT->cT)}
section
variable (S:Sur E fn)
include S
theorem CF:E.lives 81 7=none/\E.lives 81 23=none/\E.lives 81 27=none/\E.lives 81 31=none/\E.lives 81 35=none/\E.lives 81 39=none/\E.lives 81 43=none/\E.lives 81 53=none/\E.lives 81 59=none/\E.lives 81 67=none/\E.lives 81 73=none/\E.lives 81 77=none:=⟨off S 81 7 (by decide) rfl,off S 81 23 (by decide) rfl,off S 81 27 (by decide) rfl,off S 81 31 (by decide) rfl,off S 81 35 (by decide) rfl,off S 81 39 (by decide) rfl,off S 81 43 (by decide) rfl,off S 81 53 (by decide) rfl,off S 81 59 (by decide) rfl,off S 81 67 (by decide) rfl,off S 81 73 (by decide) rfl,off S 81 77 (by decide) rfl⟩
theorem Zk8 (dp:Nat)(p:Prog)(c:Conf)(i:Int)(hl:c.buf.length<1073741824)(hs:c.state.stack.length<1073741824)(hg:(B6 (Md.real p c.state.stack c.buf i)).length<1073741824)(hz:Md.can (c.state.mem.length:Int) p c i=true->(Md.Yk p c i).kind=2->(Md.ZP c.buf i).val=0/\(Md.ZP c.buf i).frm= -1):Z6 E fn (dp+6) 81 [Zw p,ZS c,vi i] (.tup [ZS (JV (c.state.mem.length:Int) p c i).1,rD (JV (c.state.mem.length:Int) p c i).2,vb (Md.can (c.state.mem.length:Int) p c i)]):=by
 unfold Z6
 show Z7 (Z4 E fn (dp+5+1) 81 [.d (Zw p),.d (ZS c),.d (vi i)] [])=_
 rw[ZD,S.Za8,ZG,Zfl,ZC _ _ _ _ _ _ _ _ rfl]
 cases hcan:Md.can (c.state.mem.length:Int) p c i with
 | false=>simp only[eG,go_sem,Z3 S,Z2 S,zN0,zN1,zN2,zN3,zN4,zI0,zI1,zI2,zI3,reduceCtorEq,CF S,B8 S,hl,hcan,Bool.not_false,JV,Md.B1]
 | true=>
  have ho:=Zcu hcan
  obtain⟨h0,he,h1⟩:=P6 ho
  replace hz:=hz hcan
  have hn:c.buf.length≠0:=by omega
  have hk:i.toNat<c.buf.length:=by omega
  have hk1:i.toNat+1<=c.buf.length:=hk
  have b1:c.buf.length*48<=Z5:=by unfold Z5;omega
  have b2:c.buf.length<=Z5:=by unfold Z5;omega
  have hx:Md.at_ p (Md.ZP c.buf i).pc=Md.Yk p c i:=rfl
  generalize hxx:Md.Yk p c i=x at *
  generalize hee:Md.ZP c.buf i=e at *
  have hv:∀ v:Val,(Md.val p c.state.regs (c.buf.set i.toNat { e with done:=true }) i v)=Md.Y2 p c i v:=fun v=>CA p c i _ v
  generalize hB:(ZR 0 _:CT)=BB
  simp only[eG,go_sem,Z3 S,Z2 S,zN0,zN1,zN2,zN3,zN4,zI0,zI1,zI2,zI3,reduceCtorEq,CF S,Nat.add_zero,B8 S,hl,hcan,Bool.not_true,h0,h1,hn,BT,b1,b2,ne_eq,not_false_eq_true,ZH,ZJ,ZE,ZF,YS,Zq,Nat.zero_add,Nat.zero_mul,CN he,CG hk,ZU S,hx,hk,QA,Qw,Qv,Qz,Y9,Bw,BP,BE,BD,BJ,List.length_set,Nat.le_refl,Option.bind_some,Option.map_some,AW S,CA,CV]
  rw[<-hB]
  clear hB BB
  by_cases k1:x.kind=1
  ·simp only[eG,go_sem,Z3 S,Z2 S,zN0,zN1,zN2,zN3,zN4,zI0,zI1,zI2,zI3,reduceCtorEq,CF S,Nat.add_zero,B8 S,hl,hcan,Bool.not_true,h0,h1,hn,BT,b1,b2,ne_eq,not_false_eq_true,ZH,ZJ,ZE,ZF,YS,Zq,Nat.zero_add,Nat.zero_mul,CN he,CG hk,ZU S,hx,hk,QA,Qw,Qv,Qz,Y9,Bw,BP,BE,BD,BJ,List.length_set,Nat.le_refl,Option.bind_some,Option.map_some,AW S,CA,CV,D5 hk,D4 hk,CP hk,BW hk,BV hk,BH hk,DD S,Aw S,CJ S,Dz,CE,JW S,DC S,List.set_set,JV,Md.JU,Md.QQ,Md.put,hxx,hee,Md.JR,k1]
  by_cases k4:x.kind=4
  ·by_cases ha : (Md.Y2 p c i x.a).1 = 0
   ·simp only[eG,go_sem,Z3 S,Z2 S,zN0,zN1,zN2,zN3,zN4,zI0,zI1,zI2,zI3,reduceCtorEq,CF S,Nat.add_zero,B8 S,hl,hcan,Bool.not_true,h0,h1,hn,BT,b1,b2,ne_eq,not_false_eq_true,ZH,ZJ,ZE,ZF,YS,Zq,Nat.zero_add,Nat.zero_mul,CN he,CG hk,ZU S,hx,hk,QA,Qw,Qv,Qz,Y9,Bw,BP,BE,BD,BJ,List.length_set,Nat.le_refl,Option.bind_some,Option.map_some,AW S,CA,CV,D5 hk,D4 hk,CP hk,BW hk,BV hk,BH hk,DD S,Aw S,CJ S,Dz,CE,JW S,DC S,List.set_set,JV,Md.JU,Md.QQ,Md.put,hxx,hee,Md.JR,k4,ha,Bool.not_true,Bool.not_false]
   ·simp only[eG,go_sem,Z3 S,Z2 S,zN0,zN1,zN2,zN3,zN4,zI0,zI1,zI2,zI3,reduceCtorEq,CF S,Nat.add_zero,B8 S,hl,hcan,Bool.not_true,h0,h1,hn,BT,b1,b2,ne_eq,not_false_eq_true,ZH,ZJ,ZE,ZF,YS,Zq,Nat.zero_add,Nat.zero_mul,CN he,CG hk,ZU S,hx,hk,QA,Qw,Qv,Qz,Y9,Bw,BP,BE,BD,BJ,List.length_set,Nat.le_refl,Option.bind_some,Option.map_some,AW S,CA,CV,D5 hk,D4 hk,CP hk,BW hk,BV hk,BH hk,DD S,Aw S,CJ S,Dz,CE,JW S,DC S,List.set_set,JV,Md.JU,Md.QQ,Md.put,hxx,hee,Md.JR,k4,ha,Bool.not_true,Bool.not_false]
  by_cases k3:x.kind=3
  ·simp only[eG,go_sem,Z3 S,Z2 S,zN0,zN1,zN2,zN3,zN4,zI0,zI1,zI2,zI3,reduceCtorEq,CF S,Nat.add_zero,B8 S,hl,hcan,Bool.not_true,h0,h1,hn,BT,b1,b2,ne_eq,not_false_eq_true,ZH,ZJ,ZE,ZF,YS,Zq,Nat.zero_add,Nat.zero_mul,CN he,CG hk,ZU S,hx,hk,QA,Qw,Qv,Qz,Y9,Bw,BP,BE,BD,BJ,List.length_set,Nat.le_refl,Option.bind_some,Option.map_some,AW S,CA,CV,D5 hk,D4 hk,CP hk,BW hk,BV hk,BH hk,DD S,Aw S,CJ S,Dz,CE,JW S,DC S,List.set_set,JV,Md.JU,Md.QQ,Md.put,hxx,hee,Md.JR,k3]
  by_cases k2:x.kind=2
  ·obtain ⟨z1, z2⟩ := hz k2
   by_cases hin:Md.Y1 p.w ((Md.Y2 p c i x.a).1+(Md.Y2 p c i x.b).1)>=(c.state.mem.length:Int)
   ·simp only[eG,go_sem,Z3 S,Z2 S,zN0,zN1,zN2,zN3,zN4,zI0,zI1,zI2,zI3,reduceCtorEq,CF S,Nat.add_zero,B8 S,hl,hcan,Bool.not_true,h0,h1,hn,BT,b1,b2,ne_eq,not_false_eq_true,ZH,ZJ,ZE,ZF,YS,Zq,Nat.zero_add,Nat.zero_mul,CN he,CG hk,ZU S,hx,hk,QA,Qw,Qv,Qz,Y9,Bw,BP,BE,BD,BJ,List.length_set,Nat.le_refl,Option.bind_some,Option.map_some,AW S,CA,CV,D5 hk,D4 hk,CP hk,BW hk,BV hk,BH hk,DD S,Aw S,CJ S,Dz,CE,JW S,DC S,List.set_set,JV,Md.JU,Md.QQ,Md.put,hxx,hee,Md.JR,k2,hin,z1,z2]
   ·simp only[eG,go_sem,Z3 S,Z2 S,zN0,zN1,zN2,zN3,zN4,zI0,zI1,zI2,zI3,reduceCtorEq,CF S,Nat.add_zero,B8 S,hl,hcan,Bool.not_true,h0,h1,hn,BT,b1,b2,ne_eq,not_false_eq_true,ZH,ZJ,ZE,ZF,YS,Zq,Nat.zero_add,Nat.zero_mul,CN he,CG hk,ZU S,hx,hk,QA,Qw,Qv,Qz,Y9,Bw,BP,BE,BD,BJ,List.length_set,Nat.le_refl,Option.bind_some,Option.map_some,AW S,CA,CV,D5 hk,D4 hk,CP hk,BW hk,BV hk,BH hk,DD S,Aw S,CJ S,Dz,CE,JW S,DC S,List.set_set,JV,Md.JU,Md.QQ,Md.put,hxx,hee,Md.JR,k2,hin,z1,z2];rfl
  by_cases k5:x.kind=5
  ·by_cases hw : Md.DJ p.w x.op (Md.Y2 p c i x.a).1 (Md.Y2 p c i x.b).1 = 0
   ·by_cases ht : e.next = IntKind.i64.wrap (e.pc + 1)
    ·simp only[eG,go_sem,Z3 S,Z2 S,zN0,zN1,zN2,zN3,zN4,zI0,zI1,zI2,zI3,reduceCtorEq,CF S,Nat.add_zero,B8 S,hl,hcan,Bool.not_true,h0,h1,hn,BT,b1,b2,ne_eq,not_false_eq_true,ZH,ZJ,ZE,ZF,YS,Zq,Nat.zero_add,Nat.zero_mul,CN he,CG hk,ZU S,hx,hk,QA,Qw,Qv,Qz,Y9,Bw,BP,BE,BD,BJ,List.length_set,Nat.le_refl,Option.bind_some,Option.map_some,AW S,CA,CV,D5 hk,D4 hk,CP hk,BW hk,BV hk,BH hk,DD S,Aw S,CJ S,Dz,CE,JW S,DC S,List.set_set,JV,Md.JU,Md.QQ,Md.put,hxx,hee,Md.JR,show Nat.ble 1 1=true from rfl,AR,AX,AZ,AY,AA,AB,Av,AP,AQ,AF,AG,AC,AD,AH,AJ,GN,AE,AK,AM,AN,List.getD_cons_zero,List.getD_cons_succ,List.drop_succ_cons,List.drop_zero,Nat.ble_eq,Nat.le_refl,List.length_cons,List.length_nil,HU S,Bool.not_true,Bool.not_false,Md.B0,Md.ZW,List.length_set,k5,hw,eq_true ht];rfl
    ·simp only[eG,go_sem,Z3 S,Z2 S,zN0,zN1,zN2,zN3,zN4,zI0,zI1,zI2,zI3,reduceCtorEq,CF S,Nat.add_zero,B8 S,hl,hcan,Bool.not_true,h0,h1,hn,BT,b1,b2,ne_eq,not_false_eq_true,ZH,ZJ,ZE,ZF,YS,Zq,Nat.zero_add,Nat.zero_mul,CN he,CG hk,ZU S,hx,hk,QA,Qw,Qv,Qz,Y9,Bw,BP,BE,BD,BJ,List.length_set,Nat.le_refl,Option.bind_some,Option.map_some,AW S,CA,CV,D5 hk,D4 hk,CP hk,BW hk,BV hk,BH hk,DD S,Aw S,CJ S,Dz,CE,JW S,DC S,List.set_set,JV,Md.JU,Md.QQ,Md.put,hxx,hee,Md.JR,show Nat.ble 1 1=true from rfl,AR,AX,AZ,AY,AA,AB,Av,AP,AQ,AF,AG,AC,AD,AH,AJ,GN,AE,AK,AM,AN,List.getD_cons_zero,List.getD_cons_succ,List.drop_succ_cons,List.drop_zero,Nat.ble_eq,Nat.le_refl,List.length_cons,List.length_nil,HU S,Bool.not_true,Bool.not_false,Md.B0,Md.ZW,List.length_set,k5,hw,ht,hk1];rfl
   ·by_cases ht : e.next = x.target
    ·simp only[eG,go_sem,Z3 S,Z2 S,zN0,zN1,zN2,zN3,zN4,zI0,zI1,zI2,zI3,reduceCtorEq,CF S,Nat.add_zero,B8 S,hl,hcan,Bool.not_true,h0,h1,hn,BT,b1,b2,ne_eq,not_false_eq_true,ZH,ZJ,ZE,ZF,YS,Zq,Nat.zero_add,Nat.zero_mul,CN he,CG hk,ZU S,hx,hk,QA,Qw,Qv,Qz,Y9,Bw,BP,BE,BD,BJ,List.length_set,Nat.le_refl,Option.bind_some,Option.map_some,AW S,CA,CV,D5 hk,D4 hk,CP hk,BW hk,BV hk,BH hk,DD S,Aw S,CJ S,Dz,CE,JW S,DC S,List.set_set,JV,Md.JU,Md.QQ,Md.put,hxx,hee,Md.JR,show Nat.ble 1 1=true from rfl,AR,AX,AZ,AY,AA,AB,Av,AP,AQ,AF,AG,AC,AD,AH,AJ,GN,AE,AK,AM,AN,List.getD_cons_zero,List.getD_cons_succ,List.drop_succ_cons,List.drop_zero,Nat.ble_eq,Nat.le_refl,List.length_cons,List.length_nil,HU S,Bool.not_true,Bool.not_false,Md.B0,Md.ZW,List.length_set,k5,hw,eq_true ht];rfl
    ·simp only[eG,go_sem,Z3 S,Z2 S,zN0,zN1,zN2,zN3,zN4,zI0,zI1,zI2,zI3,reduceCtorEq,CF S,Nat.add_zero,B8 S,hl,hcan,Bool.not_true,h0,h1,hn,BT,b1,b2,ne_eq,not_false_eq_true,ZH,ZJ,ZE,ZF,YS,Zq,Nat.zero_add,Nat.zero_mul,CN he,CG hk,ZU S,hx,hk,QA,Qw,Qv,Qz,Y9,Bw,BP,BE,BD,BJ,List.length_set,Nat.le_refl,Option.bind_some,Option.map_some,AW S,CA,CV,D5 hk,D4 hk,CP hk,BW hk,BV hk,BH hk,DD S,Aw S,CJ S,Dz,CE,JW S,DC S,List.set_set,JV,Md.JU,Md.QQ,Md.put,hxx,hee,Md.JR,show Nat.ble 1 1=true from rfl,AR,AX,AZ,AY,AA,AB,Av,AP,AQ,AF,AG,AC,AD,AH,AJ,GN,AE,AK,AM,AN,List.getD_cons_zero,List.getD_cons_succ,List.drop_succ_cons,List.drop_zero,Nat.ble_eq,Nat.le_refl,List.length_cons,List.length_nil,HU S,Bool.not_true,Bool.not_false,Md.B0,Md.ZW,List.length_set,k5,hw,ht,hk1];rfl
  by_cases k7:x.kind=7
  ·by_cases ht : e.next = min (Md.Y2 p c i x.a).1 p.ins.length
   ·simp only[eG,go_sem,Z3 S,Z2 S,zN0,zN1,zN2,zN3,zN4,zI0,zI1,zI2,zI3,reduceCtorEq,CF S,Nat.add_zero,B8 S,hl,hcan,Bool.not_true,h0,h1,hn,BT,b1,b2,ne_eq,not_false_eq_true,ZH,ZJ,ZE,ZF,YS,Zq,Nat.zero_add,Nat.zero_mul,CN he,CG hk,ZU S,hx,hk,QA,Qw,Qv,Qz,Y9,Bw,BP,BE,BD,BJ,List.length_set,Nat.le_refl,Option.bind_some,Option.map_some,AW S,CA,CV,D5 hk,D4 hk,CP hk,BW hk,BV hk,BH hk,DD S,Aw S,CJ S,Dz,CE,JW S,DC S,List.set_set,JV,Md.JU,Md.QQ,Md.put,hxx,hee,Md.JR,show Nat.ble 1 1=true from rfl,AR,AX,AZ,AY,AA,AB,Av,AP,AQ,AF,AG,AC,AD,AH,AJ,GN,AE,AK,AM,AN,List.getD_cons_zero,List.getD_cons_succ,List.drop_succ_cons,List.drop_zero,Nat.ble_eq,Nat.le_refl,List.length_cons,List.length_nil,HU S,Bool.not_true,Bool.not_false,Md.B0,Md.ZW,List.length_set,k7,eq_true ht];rfl
   ·simp only[eG,go_sem,Z3 S,Z2 S,zN0,zN1,zN2,zN3,zN4,zI0,zI1,zI2,zI3,reduceCtorEq,CF S,Nat.add_zero,B8 S,hl,hcan,Bool.not_true,h0,h1,hn,BT,b1,b2,ne_eq,not_false_eq_true,ZH,ZJ,ZE,ZF,YS,Zq,Nat.zero_add,Nat.zero_mul,CN he,CG hk,ZU S,hx,hk,QA,Qw,Qv,Qz,Y9,Bw,BP,BE,BD,BJ,List.length_set,Nat.le_refl,Option.bind_some,Option.map_some,AW S,CA,CV,D5 hk,D4 hk,CP hk,BW hk,BV hk,BH hk,DD S,Aw S,CJ S,Dz,CE,JW S,DC S,List.set_set,JV,Md.JU,Md.QQ,Md.put,hxx,hee,Md.JR,show Nat.ble 1 1=true from rfl,AR,AX,AZ,AY,AA,AB,Av,AP,AQ,AF,AG,AC,AD,AH,AJ,GN,AE,AK,AM,AN,List.getD_cons_zero,List.getD_cons_succ,List.drop_succ_cons,List.drop_zero,Nat.ble_eq,Nat.le_refl,List.length_cons,List.length_nil,HU S,Bool.not_true,Bool.not_false,Md.B0,Md.ZW,List.length_set,k7,ht,hk1];rfl
  by_cases k9:x.kind=9
  ·have hl2 : (c.buf.set i.toNat { e with done := true }).length < 1073741824 := by rw [List.length_set]; exact hl
   cases hreal:Md.real p c.state.stack c.buf i with
   | none=>
    have ho:=fun A nb us=>Zn7 S (dp+3) p c.state.stack (c.buf.set i.toNat { e with done:=true }) i hl2 hs (by rw[CE];exact hreal) A nb us
    simp only[Zw,Y3,Nat.add_assoc,zN2] at ho
    simp only[eG,go_sem,Z3 S,Z2 S,zN0,zN1,zN2,zN3,zN4,zI0,zI1,zI2,zI3,reduceCtorEq,CF S,Nat.add_zero,B8 S,hl,hcan,Bool.not_true,h0,h1,hn,BT,b1,b2,ne_eq,not_false_eq_true,ZH,ZJ,ZE,ZF,YS,Zq,Nat.zero_add,Nat.zero_mul,CN he,CG hk,ZU S,hx,hk,QA,Qw,Qv,Qz,Y9,Bw,BP,BE,BD,BJ,List.length_set,Nat.le_refl,Option.bind_some,Option.map_some,AW S,CA,CV,D5 hk,D4 hk,CP hk,BW hk,BV hk,BH hk,DD S,Aw S,CJ S,Dz,CE,JW S,DC S,List.set_set,JV,Md.JU,Md.QQ,Md.put,hxx,hee,Md.JR,show Nat.ble 1 1=true from rfl,AR,AX,AZ,AY,AA,AB,Av,AP,AQ,AF,AG,AC,AD,AH,AJ,GN,AE,AK,AM,AN,List.getD_cons_zero,List.getD_cons_succ,List.drop_succ_cons,List.drop_zero,Nat.ble_eq,Nat.le_refl,List.length_cons,List.length_nil,HU S,Bool.not_true,Bool.not_false,Md.B0,Md.ZW,List.length_set,k9,hreal,ho]
   | some r=>
    obtain⟨junk,q,ho⟩:=Zn6 S (dp+3) p c.state.stack (c.buf.set i.toNat { e with done:=true }) i hl2 hs r (by rw[CE];exact hreal)
    simp only[Zw,Y3,Nat.add_assoc,zN2] at ho
    rw[hreal] at hg
    have hg':r.length<1073741824:=hg
    by_cases hr:r.length=0
    ·simp only[eG,go_sem,Z3 S,Z2 S,zN0,zN1,zN2,zN3,zN4,zI0,zI1,zI2,zI3,reduceCtorEq,CF S,Nat.add_zero,B8 S,hl,hcan,Bool.not_true,h0,h1,hn,BT,b1,b2,ne_eq,not_false_eq_true,ZH,ZJ,ZE,ZF,YS,Zq,Nat.zero_add,Nat.zero_mul,CN he,CG hk,ZU S,hx,hk,QA,Qw,Qv,Qz,Y9,Bw,BP,BE,BD,BJ,List.length_set,Nat.le_refl,Option.bind_some,Option.map_some,AW S,CA,CV,D5 hk,D4 hk,CP hk,BW hk,BV hk,BH hk,DD S,Aw S,CJ S,Dz,CE,JW S,DC S,List.set_set,JV,Md.JU,Md.QQ,Md.put,hxx,hee,Md.JR,show Nat.ble 1 1=true from rfl,AR,AX,AZ,AY,AA,AB,Av,AP,AQ,AF,AG,AC,AD,AH,AJ,GN,AE,AK,AM,AN,List.getD_cons_zero,List.getD_cons_succ,List.drop_succ_cons,List.drop_zero,Nat.ble_eq,Nat.le_refl,List.length_cons,List.length_nil,HU S,Bool.not_true,Bool.not_false,Md.B0,Md.ZW,List.length_set,k9,hreal,hr,ho,show((0:Nat):Int)=0 from rfl]
    ·have wl : IntKind.i64.wrap ((r.length : Int) - 1) = ((r.length - 1 : Nat) : Int) := by rw [YH (by omega) (by omega)]; omega
     have hi1:r.length-1<r.length:=by omega
     by_cases ht:e.next=Md.C9 r
     ·simp only[eG,go_sem,Z3 S,Z2 S,zN0,zN1,zN2,zN3,zN4,zI0,zI1,zI2,zI3,reduceCtorEq,CF S,Nat.add_zero,B8 S,hl,hcan,Bool.not_true,h0,h1,hn,BT,b1,b2,ne_eq,not_false_eq_true,ZH,ZJ,ZE,ZF,YS,Zq,Nat.zero_add,Nat.zero_mul,CN he,CG hk,ZU S,hx,hk,QA,Qw,Qv,Qz,Y9,Bw,BP,BE,BD,BJ,List.length_set,Nat.le_refl,Option.bind_some,Option.map_some,AW S,CA,CV,D5 hk,D4 hk,CP hk,BW hk,BV hk,BH hk,DD S,Aw S,CJ S,Dz,CE,JW S,DC S,List.set_set,JV,Md.JU,Md.QQ,Md.put,hxx,hee,Md.JR,show Nat.ble 1 1=true from rfl,AR,AX,AZ,AY,AA,AB,Av,AP,AQ,AF,AG,AC,AD,AH,AJ,GN,AE,AK,AM,AN,List.getD_cons_zero,List.getD_cons_succ,List.drop_succ_cons,List.drop_zero,Nat.ble_eq,Nat.le_refl,List.length_cons,List.length_nil,HU S,Bool.not_true,Bool.not_false,Md.B0,Md.ZW,List.length_set,k9,hreal,hr,ho,wl,hi1,Z7o hr,eq_true ht,Int.natCast_eq_zero,Int.toNat_natCast,Int.natCast_nonneg,Int.ofNat_lt,Nat.mul_one,true_and,and_true,if_true];rfl
     ·simp only[eG,go_sem,Z3 S,Z2 S,zN0,zN1,zN2,zN3,zN4,zI0,zI1,zI2,zI3,reduceCtorEq,CF S,Nat.add_zero,B8 S,hl,hcan,Bool.not_true,h0,h1,hn,BT,b1,b2,ne_eq,not_false_eq_true,ZH,ZJ,ZE,ZF,YS,Zq,Nat.zero_add,Nat.zero_mul,CN he,CG hk,ZU S,hx,hk,QA,Qw,Qv,Qz,Y9,Bw,BP,BE,BD,BJ,List.length_set,Nat.le_refl,Option.bind_some,Option.map_some,AW S,CA,CV,D5 hk,D4 hk,CP hk,BW hk,BV hk,BH hk,DD S,Aw S,CJ S,Dz,CE,JW S,DC S,List.set_set,JV,Md.JU,Md.QQ,Md.put,hxx,hee,Md.JR,show Nat.ble 1 1=true from rfl,AR,AX,AZ,AY,AA,AB,Av,AP,AQ,AF,AG,AC,AD,AH,AJ,GN,AE,AK,AM,AN,List.getD_cons_zero,List.getD_cons_succ,List.drop_succ_cons,List.drop_zero,Nat.ble_eq,Nat.le_refl,List.length_cons,List.length_nil,HU S,Bool.not_true,Bool.not_false,Md.B0,Md.ZW,List.length_set,k9,hreal,hr,ho,wl,hi1,Z7o hr,ht,Int.natCast_eq_zero,Int.toNat_natCast,Int.natCast_nonneg,Int.ofNat_lt,Nat.mul_one,true_and,and_true,if_true,hk1];rfl
  simp only[eG,go_sem,Z3 S,Z2 S,zN0,zN1,zN2,zN3,zN4,zI0,zI1,zI2,zI3,reduceCtorEq,CF S,Nat.add_zero,B8 S,hl,hcan,Bool.not_true,h0,h1,hn,BT,b1,b2,ne_eq,not_false_eq_true,ZH,ZJ,ZE,ZF,YS,Zq,Nat.zero_add,Nat.zero_mul,CN he,CG hk,ZU S,hx,hk,QA,Qw,Qv,Qz,Y9,Bw,BP,BE,BD,BJ,List.length_set,Nat.le_refl,Option.bind_some,Option.map_some,AW S,CA,CV,D5 hk,D4 hk,CP hk,BW hk,BV hk,BH hk,DD S,Aw S,CJ S,Dz,CE,JW S,DC S,List.set_set,JV,Md.JU,Md.QQ,Md.put,hxx,hee,Md.JR,k1,k2,k3,k4,k5,k7,k9]
end
end Go.Aug.Mc
