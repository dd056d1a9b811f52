import Derived.Test.YthnhboimcidhgaaGreatDoorMc13
namespace Go.Aug.Mc
open Go Go.Aug
set_option linter.unusedSimpArgs false
set_option linter.unusedVariables false
set_option maxHeartbeats 40000000
variable {E:Env} {fn:FuncId->Option (Env->cT->cT)}
section
variable (S:Sur E fn)
include S
theorem Zyd:E.lives 208 7=none:=off S 208 7 (by decide) rfl
theorem Zjg (dp:Nat)(l:List Ent)(i:Int)(e:Ent)(hl:l.length<1073741824)(h0:0<=i)(h1:i<l.length):Zk E fn (dp+1) 208 [rD l,vi i,.agg (Cl.cells e)] (.tup [rD (l.set i.toNat e),vb true]):=by
 unfold Zk
 show Zh (evC E fn (dp+1) 208 [.d (rD l),.d (vi i),.d (.agg (Cl.cells e))] [])=_
 rw[Z2,S.Zft,Z3,Zgm,Z6 _ _ _ _ _ _ _ _ rfl]
 obtain⟨e0,he⟩:=Yz (show i.toNat<l.length by omega)
 have hne:l.length≠0:=by omega
 have hst:∀ A:List Blk,storeAt A 1 0 (0+i.toNat*8) [.d (vi e.pc),.d (vi e.val),.d (vi e.addr),.d (vi e.frm),.d (vi e.next),.d (vb e.done),.d (vb e.known),.d (vb e.fault)] 8 (some (.cells ((rC l).map .d) 0 false))=some (A.set 1 (.cells ((rC (l.set i.toNat e)).map .d) 0 false)):=fun A=>
  Zc7 (o:=0) (e':=e) (Cl.cells e) he rfl rfl rfl rfl (by show 0+8<=8;decide) 8 rfl _ (by omega)
 have hd:deep [.cells ((rC (l.set i.toNat e)).map .d) 0 false] 7 (.sref 0 0 0 l.length 8 none)=some (.lst (rC (l.set i.toNat e)) (l.set i.toNat e).length none,[0]):=Y8 _ (fun h=>by have:=congrArg List.length h;rw[List.length_set] at this;exact hne this) _ (by simp) 5 8 none rfl
 simp only[eG,go_sem,thq S,nbr S,Nat.reduceLT,Nat.reduceEqDiff,Nat.reduceAdd,Nat.reduceMul,Nat.reduceLeDiff,Int.reduceEq,Int.reduceLT,Int.reduceLE,Int.reduceNeg,reduceCtorEq,Zyd S,show ¬i<0 by omega,show ¬i>=l.length by omega,Z6x S hl,Za hne,Z9 hne,h0,h1,hst,hd,Jc]
theorem Zr8 (dp:Nat)(l:List Ent)(i e_pc e_vl e_ad e_fr e_nx:Int)(e_dn e_kn e_ft:Bool)(hl:l.length<1073741824)(h0:0<=i)(h1:i<l.length)(A:List Blk)(nb:Nat):Zb false E (evC E fn (dp+1)) 208 A nb (some ([rD l,vi i,.agg [vi e_pc,vi e_vl,vi e_ad,vi e_fr,vi e_nx,vb e_dn,vb e_kn,vb e_ft]],[]))=some (.made (.d (.tup [rD (l.set i.toNat (⟨e_pc,e_vl,e_ad,e_fr,e_nx,e_dn,e_kn,e_ft⟩:Ent)),vb true])) []):=
 Zk.deep (Zjg S dp l i (⟨e_pc,e_vl,e_ad,e_fr,e_nx,e_dn,e_kn,e_ft⟩:Ent) hl h0 h1) (np S 208 (by decide)) A nb
end
open Nat renaming reduceLT -> zN0, reduceEqDiff -> zN1, reduceAdd -> zN2, reduceMul -> zN3, reduceLeDiff -> zN4
open Int renaming reduceEq -> zI0, reduceLT -> zI1, reduceLE -> zI2, reduceNeg -> zI3
structure Spot where
 p:Prog
 c:Conf
 i:Int
 e:Ent
 s:Ins
def Z4x (x:Spot):DV:=.agg (Yd x.p++(Z22 x.c++(vi x.i::(Cl.cells x.e++Cl.cells x.s))))
theorem Zzf (x:Spot):Spot.mk x.p x.c x.i x.e x.s=x:=rfl
attribute [go_sem] Z4x Zzf
def Zqf:Spot:=⟨⟨0,0,0,⟨0,0,0,0⟩,[],[],[]⟩,Md.conf0,0,Md.ent0,⟨0,0,0,⟨false,0⟩,⟨false,0⟩,⟨#[]⟩,0⟩⟩
def Z03 (p:Prog)(c:Conf)(i:Int):Spot:=⟨p,c,i,Md.entAt c.buf i,Md.insM p c i⟩
variable {E:Env} {fn:FuncId->Option (Env->cT->cT)}
section
variable (S:Sur E fn)
include S
theorem Zct:E.lives 144 7=none:=off S 144 7 (by decide) rfl
theorem Znd (dp:Nat)(p:Prog)(c:Conf)(i:Int)(hl:c.buf.length<1073741824):Zk E fn (dp+6) 144 [Zn p,Zv c,vi i] (.tup [Z4x (bif Md.openM p c i then Z03 p c i else Zqf),vb (Md.openM p c i)]):=by
 unfold Zk
 show Zh (evC E fn (dp+5+1) 144 [.d (Zn p),.d (Zv c),.d (vi i)] [])=_
 rw[Z2,S.Zkz,Z3,Zmf,Z6 _ _ _ _ _ _ _ _ rfl]
 cases ho:Md.openM p c i with
 | true=>
  obtain⟨h0,he,h3⟩:=Z51 ho
  have ho':=ho
  simp only[Md.openM,Bool.and_eq_true,Bool.not_eq_true',beq_iff_eq,decide_eq_true_eq] at ho'
  simp only[eG,go_sem,thq S,nbr S,zN0,zN1,zN2,zN3,zN4,zI0,zI1,zI2,zI3,reduceCtorEq,Zct S,Ym S,ho'.1.1.1,show ¬i<0 by omega,show ¬i>=c.buf.length by omega,Z7l S,hl,ho'.2,Z7r h0 he,Z8 S,Z03,Md.insM,Bool.not_true]
 | false=>
  by_cases h1:c.end_=0
  ·by_cases h2 : i < 0
   ·simp only[eG,go_sem,thq S,nbr S,zN0,zN1,zN2,zN3,zN4,zI0,zI1,zI2,zI3,reduceCtorEq,Zct S,Ym S,h1,h2,Bool.not_true,Zqf,Md.conf0,Md.ent0]
   ·by_cases h3 : i >= c.buf.length
    ·simp only[eG,go_sem,thq S,nbr S,zN0,zN1,zN2,zN3,zN4,zI0,zI1,zI2,zI3,reduceCtorEq,Zct S,Ym S,h1,h2,h3,Bool.not_true,Zqf,Md.conf0,Md.ent0]
    ·have hb:Md.blocked p c.buf i=true:=by
      cases hb:Md.blocked p c.buf i with
      | true=>rfl
      | false=>
       have:Md.openM p c i=true:=by simp[Md.openM,hb,h1];omega
       rw[this] at ho;cases ho
     simp only[eG,go_sem,thq S,nbr S,zN0,zN1,zN2,zN3,zN4,zI0,zI1,zI2,zI3,reduceCtorEq,Zct S,Ym S,h1,h2,h3,Z7l S,hl,hb,Bool.not_true,Zqf,Md.conf0,Md.ent0]
  ·simp only[eG,go_sem,thq S,nbr S,zN0,zN1,zN2,zN3,zN4,zI0,zI1,zI2,zI3,reduceCtorEq,Zct S,Ym S,eq_false h1,Bool.not_false,Zqf,Md.conf0,Md.ent0]
theorem Z13 (dp:Nat)(p_w p_wn p_fu p_r0 p_r1 p_r2 p_r3:Int)(p_ms:List MemT)(p_ls:List Label)(p_is:List Ins)(c_r0 c_r1 c_r2 c_r3:Int)(c_mm c_st:List Int)(c_pc:Int)(c_bf:List Ent)(c_rb:List Int)(c_en i:Int)(hl:(⟨⟨⟨c_r0,c_r1,c_r2,c_r3⟩,c_mm,c_st,c_pc⟩,c_bf,c_rb,c_en⟩:Conf).buf.length<1073741824)(A:List Blk)(nb:Nat):Zb false E (evC E fn (dp+6)) 144 A nb (some ([.agg [vi p_w,vi p_wn,vi p_fu,vi p_r0,vi p_r1,vi p_r2,vi p_r3,rD p_ms,rD p_ls,rD p_is],.agg [vi c_r0,vi c_r1,vi c_r2,vi c_r3,rD c_mm,rD c_st,vi c_pc,rD c_bf,rD c_rb,vi c_en],vi i],[]))=some (.made (.d (.tup [Z4x (bif Md.openM (⟨p_w,p_wn,p_fu,⟨p_r0,p_r1,p_r2,p_r3⟩,p_ms,p_ls,p_is⟩:Prog) (⟨⟨⟨c_r0,c_r1,c_r2,c_r3⟩,c_mm,c_st,c_pc⟩,c_bf,c_rb,c_en⟩:Conf) i then Z03 (⟨p_w,p_wn,p_fu,⟨p_r0,p_r1,p_r2,p_r3⟩,p_ms,p_ls,p_is⟩:Prog) (⟨⟨⟨c_r0,c_r1,c_r2,c_r3⟩,c_mm,c_st,c_pc⟩,c_bf,c_rb,c_en⟩:Conf) i else Zqf),vb (Md.openM (⟨p_w,p_wn,p_fu,⟨p_r0,p_r1,p_r2,p_r3⟩,p_ms,p_ls,p_is⟩:Prog) (⟨⟨⟨c_r0,c_r1,c_r2,c_r3⟩,c_mm,c_st,c_pc⟩,c_bf,c_rb,c_en⟩:Conf) i)])) []):=
 Zk.deep (Znd S dp (⟨p_w,p_wn,p_fu,⟨p_r0,p_r1,p_r2,p_r3⟩,p_ms,p_ls,p_is⟩:Prog) (⟨⟨⟨c_r0,c_r1,c_r2,c_r3⟩,c_mm,c_st,c_pc⟩,c_bf,c_rb,c_en⟩:Conf) i hl) (np S 144 (by decide)) A nb
theorem Z9p (dp:Nat)(x:Spot)(v:Val)(hl:x.c.buf.length<1073741824):Zk E fn (dp+5) 145 [Z4x x,.agg (Cl.cells v)] (.tup [vi (Md.valM x.p x.c x.i v).1,vb (Md.valM x.p x.c x.i v).2]):=by
 unfold Zk
 show Zh (evC E fn (dp+4+1) 145 [.d (Z4x x),.d (.agg (Cl.cells v))] [])=_
 rw[Z2,S.Z69,Z3,Z6o,Z6 _ _ _ _ _ _ _ _ rfl]
 simp only[eG,go_sem,thq S,nbr S,zN0,zN1,zN2,zN3,zN4,zI0,zI1,zI2,zI3,reduceCtorEq,Zr9 S,hl,Md.valM,Nat.add_zero,Nat.zero_add]
theorem Z24 (dp:Nat)(x_p_w x_p_wn x_p_fu x_p_r0 x_p_r1 x_p_r2 x_p_r3:Int)(x_p_ms:List MemT)(x_p_ls:List Label)(x_p_is:List Ins)(x_c_r0 x_c_r1 x_c_r2 x_c_r3:Int)(x_c_mm x_c_st:List Int)(x_c_pc:Int)(x_c_bf:List Ent)(x_c_rb:List Int)(x_c_en x_i x_e_pc x_e_vl x_e_ad x_e_fr x_e_nx:Int)(x_e_dn x_e_kn x_e_ft:Bool)(x_s_k x_s_o x_s_d:Int)(x_s_ag:Bool)(x_s_an:Int)(x_s_bg:Bool)(x_s_bn:Int)(x_s_nm:ByteArray)(x_s_tg:Int)(v_g:Bool)(v_n:Int)(hl:(⟨⟨x_p_w,x_p_wn,x_p_fu,⟨x_p_r0,x_p_r1,x_p_r2,x_p_r3⟩,x_p_ms,x_p_ls,x_p_is⟩,⟨⟨⟨x_c_r0,x_c_r1,x_c_r2,x_c_r3⟩,x_c_mm,x_c_st,x_c_pc⟩,x_c_bf,x_c_rb,x_c_en⟩,x_i,⟨x_e_pc,x_e_vl,x_e_ad,x_e_fr,x_e_nx,x_e_dn,x_e_kn,x_e_ft⟩,⟨x_s_k,x_s_o,x_s_d,⟨x_s_ag,x_s_an⟩,⟨x_s_bg,x_s_bn⟩,x_s_nm,x_s_tg⟩⟩:Spot).c.buf.length<1073741824)(A:List Blk)(nb:Nat)(us:List Nat):Zb false E (evC E fn (dp+5)) 145 A nb (some ([.agg [vi x_p_w,vi x_p_wn,vi x_p_fu,vi x_p_r0,vi x_p_r1,vi x_p_r2,vi x_p_r3,rD x_p_ms,rD x_p_ls,rD x_p_is,vi x_c_r0,vi x_c_r1,vi x_c_r2,vi x_c_r3,rD x_c_mm,rD x_c_st,vi x_c_pc,rD x_c_bf,rD x_c_rb,vi x_c_en,vi x_i,vi x_e_pc,vi x_e_vl,vi x_e_ad,vi x_e_fr,vi x_e_nx,vb x_e_dn,vb x_e_kn,vb x_e_ft,vi x_s_k,vi x_s_o,vi x_s_d,vb x_s_ag,vi x_s_an,vb x_s_bg,vi x_s_bn,vt x_s_nm,vi x_s_tg],.agg [vb v_g,vi v_n]],us))=some (.made (.d (.tup [vi (Md.valM (⟨⟨x_p_w,x_p_wn,x_p_fu,⟨x_p_r0,x_p_r1,x_p_r2,x_p_r3⟩,x_p_ms,x_p_ls,x_p_is⟩,⟨⟨⟨x_c_r0,x_c_r1,x_c_r2,x_c_r3⟩,x_c_mm,x_c_st,x_c_pc⟩,x_c_bf,x_c_rb,x_c_en⟩,x_i,⟨x_e_pc,x_e_vl,x_e_ad,x_e_fr,x_e_nx,x_e_dn,x_e_kn,x_e_ft⟩,⟨x_s_k,x_s_o,x_s_d,⟨x_s_ag,x_s_an⟩,⟨x_s_bg,x_s_bn⟩,x_s_nm,x_s_tg⟩⟩:Spot).p (⟨⟨x_p_w,x_p_wn,x_p_fu,⟨x_p_r0,x_p_r1,x_p_r2,x_p_r3⟩,x_p_ms,x_p_ls,x_p_is⟩,⟨⟨⟨x_c_r0,x_c_r1,x_c_r2,x_c_r3⟩,x_c_mm,x_c_st,x_c_pc⟩,x_c_bf,x_c_rb,x_c_en⟩,x_i,⟨x_e_pc,x_e_vl,x_e_ad,x_e_fr,x_e_nx,x_e_dn,x_e_kn,x_e_ft⟩,⟨x_s_k,x_s_o,x_s_d,⟨x_s_ag,x_s_an⟩,⟨x_s_bg,x_s_bn⟩,x_s_nm,x_s_tg⟩⟩:Spot).c (⟨⟨x_p_w,x_p_wn,x_p_fu,⟨x_p_r0,x_p_r1,x_p_r2,x_p_r3⟩,x_p_ms,x_p_ls,x_p_is⟩,⟨⟨⟨x_c_r0,x_c_r1,x_c_r2,x_c_r3⟩,x_c_mm,x_c_st,x_c_pc⟩,x_c_bf,x_c_rb,x_c_en⟩,x_i,⟨x_e_pc,x_e_vl,x_e_ad,x_e_fr,x_e_nx,x_e_dn,x_e_kn,x_e_ft⟩,⟨x_s_k,x_s_o,x_s_d,⟨x_s_ag,x_s_an⟩,⟨x_s_bg,x_s_bn⟩,x_s_nm,x_s_tg⟩⟩:Spot).i (⟨v_g,v_n⟩:Val)).1,vb (Md.valM (⟨⟨x_p_w,x_p_wn,x_p_fu,⟨x_p_r0,x_p_r1,x_p_r2,x_p_r3⟩,x_p_ms,x_p_ls,x_p_is⟩,⟨⟨⟨x_c_r0,x_c_r1,x_c_r2,x_c_r3⟩,x_c_mm,x_c_st,x_c_pc⟩,x_c_bf,x_c_rb,x_c_en⟩,x_i,⟨x_e_pc,x_e_vl,x_e_ad,x_e_fr,x_e_nx,x_e_dn,x_e_kn,x_e_ft⟩,⟨x_s_k,x_s_o,x_s_d,⟨x_s_ag,x_s_an⟩,⟨x_s_bg,x_s_bn⟩,x_s_nm,x_s_tg⟩⟩:Spot).p (⟨⟨x_p_w,x_p_wn,x_p_fu,⟨x_p_r0,x_p_r1,x_p_r2,x_p_r3⟩,x_p_ms,x_p_ls,x_p_is⟩,⟨⟨⟨x_c_r0,x_c_r1,x_c_r2,x_c_r3⟩,x_c_mm,x_c_st,x_c_pc⟩,x_c_bf,x_c_rb,x_c_en⟩,x_i,⟨x_e_pc,x_e_vl,x_e_ad,x_e_fr,x_e_nx,x_e_dn,x_e_kn,x_e_ft⟩,⟨x_s_k,x_s_o,x_s_d,⟨x_s_ag,x_s_an⟩,⟨x_s_bg,x_s_bn⟩,x_s_nm,x_s_tg⟩⟩:Spot).c (⟨⟨x_p_w,x_p_wn,x_p_fu,⟨x_p_r0,x_p_r1,x_p_r2,x_p_r3⟩,x_p_ms,x_p_ls,x_p_is⟩,⟨⟨⟨x_c_r0,x_c_r1,x_c_r2,x_c_r3⟩,x_c_mm,x_c_st,x_c_pc⟩,x_c_bf,x_c_rb,x_c_en⟩,x_i,⟨x_e_pc,x_e_vl,x_e_ad,x_e_fr,x_e_nx,x_e_dn,x_e_kn,x_e_ft⟩,⟨x_s_k,x_s_o,x_s_d,⟨x_s_ag,x_s_an⟩,⟨x_s_bg,x_s_bn⟩,x_s_nm,x_s_tg⟩⟩:Spot).i (⟨v_g,v_n⟩:Val)).2])) []):=
 Zk.flat (Z9p S dp (⟨⟨x_p_w,x_p_wn,x_p_fu,⟨x_p_r0,x_p_r1,x_p_r2,x_p_r3⟩,x_p_ms,x_p_ls,x_p_is⟩,⟨⟨⟨x_c_r0,x_c_r1,x_c_r2,x_c_r3⟩,x_c_mm,x_c_st,x_c_pc⟩,x_c_bf,x_c_rb,x_c_en⟩,x_i,⟨x_e_pc,x_e_vl,x_e_ad,x_e_fr,x_e_nx,x_e_dn,x_e_kn,x_e_ft⟩,⟨x_s_k,x_s_o,x_s_d,⟨x_s_ag,x_s_an⟩,⟨x_s_bg,x_s_bn⟩,x_s_nm,x_s_tg⟩⟩:Spot) (⟨v_g,v_n⟩:Val) hl) (np S 145 (by decide)) (rfl) A nb us
theorem Z9q (dp:Nat)(x:Spot)(hl:x.c.buf.length<1073741824):Zk E fn (dp+6) 153 [Z4x x] (.tup [vi (Md.valM x.p x.c x.i x.s.a).1,vi (Md.valM x.p x.c x.i x.s.b).1,vb ((Md.valM x.p x.c x.i x.s.a).2&&(Md.valM x.p x.c x.i x.s.b).2)]):=by
 unfold Zk
 show Zh (evC E fn (dp+5+1) 153 [.d (Z4x x)] [])=_
 rw[Z2,S.Z6a,Z3,Z6p,Z6 _ _ _ _ _ _ _ _ rfl]
 cases h:(Md.valM x.p x.c x.i x.s.a).2<;>simp only[eG,go_sem,thq S,nbr S,zN0,zN1,zN2,zN3,zN4,zI0,zI1,zI2,zI3,reduceCtorEq,Z24 S,hl,h]
theorem Qr (dp:Nat)(x_p_w x_p_wn x_p_fu x_p_r0 x_p_r1 x_p_r2 x_p_r3:Int)(x_p_ms:List MemT)(x_p_ls:List Label)(x_p_is:List Ins)(x_c_r0 x_c_r1 x_c_r2 x_c_r3:Int)(x_c_mm x_c_st:List Int)(x_c_pc:Int)(x_c_bf:List Ent)(x_c_rb:List Int)(x_c_en x_i x_e_pc x_e_vl x_e_ad x_e_fr x_e_nx:Int)(x_e_dn x_e_kn x_e_ft:Bool)(x_s_k x_s_o x_s_d:Int)(x_s_ag:Bool)(x_s_an:Int)(x_s_bg:Bool)(x_s_bn:Int)(x_s_nm:ByteArray)(x_s_tg:Int)(hl:(⟨⟨x_p_w,x_p_wn,x_p_fu,⟨x_p_r0,x_p_r1,x_p_r2,x_p_r3⟩,x_p_ms,x_p_ls,x_p_is⟩,⟨⟨⟨x_c_r0,x_c_r1,x_c_r2,x_c_r3⟩,x_c_mm,x_c_st,x_c_pc⟩,x_c_bf,x_c_rb,x_c_en⟩,x_i,⟨x_e_pc,x_e_vl,x_e_ad,x_e_fr,x_e_nx,x_e_dn,x_e_kn,x_e_ft⟩,⟨x_s_k,x_s_o,x_s_d,⟨x_s_ag,x_s_an⟩,⟨x_s_bg,x_s_bn⟩,x_s_nm,x_s_tg⟩⟩:Spot).c.buf.length<1073741824)(A:List Blk)(nb:Nat)(us:List Nat):Zb false E (evC E fn (dp+6)) 153 A nb (some ([.agg [vi x_p_w,vi x_p_wn,vi x_p_fu,vi x_p_r0,vi x_p_r1,vi x_p_r2,vi x_p_r3,rD x_p_ms,rD x_p_ls,rD x_p_is,vi x_c_r0,vi x_c_r1,vi x_c_r2,vi x_c_r3,rD x_c_mm,rD x_c_st,vi x_c_pc,rD x_c_bf,rD x_c_rb,vi x_c_en,vi x_i,vi x_e_pc,vi x_e_vl,vi x_e_ad,vi x_e_fr,vi x_e_nx,vb x_e_dn,vb x_e_kn,vb x_e_ft,vi x_s_k,vi x_s_o,vi x_s_d,vb x_s_ag,vi x_s_an,vb x_s_bg,vi x_s_bn,vt x_s_nm,vi x_s_tg]],us))=some (.made (.d (.tup [vi (Md.valM (⟨⟨x_p_w,x_p_wn,x_p_fu,⟨x_p_r0,x_p_r1,x_p_r2,x_p_r3⟩,x_p_ms,x_p_ls,x_p_is⟩,⟨⟨⟨x_c_r0,x_c_r1,x_c_r2,x_c_r3⟩,x_c_mm,x_c_st,x_c_pc⟩,x_c_bf,x_c_rb,x_c_en⟩,x_i,⟨x_e_pc,x_e_vl,x_e_ad,x_e_fr,x_e_nx,x_e_dn,x_e_kn,x_e_ft⟩,⟨x_s_k,x_s_o,x_s_d,⟨x_s_ag,x_s_an⟩,⟨x_s_bg,x_s_bn⟩,x_s_nm,x_s_tg⟩⟩:Spot).p (⟨⟨x_p_w,x_p_wn,x_p_fu,⟨x_p_r0,x_p_r1,x_p_r2,x_p_r3⟩,x_p_ms,x_p_ls,x_p_is⟩,⟨⟨⟨x_c_r0,x_c_r1,x_c_r2,x_c_r3⟩,x_c_mm,x_c_st,x_c_pc⟩,x_c_bf,x_c_rb,x_c_en⟩,x_i,⟨x_e_pc,x_e_vl,x_e_ad,x_e_fr,x_e_nx,x_e_dn,x_e_kn,x_e_ft⟩,⟨x_s_k,x_s_o,x_s_d,⟨x_s_ag,x_s_an⟩,⟨x_s_bg,x_s_bn⟩,x_s_nm,x_s_tg⟩⟩:Spot).c (⟨⟨x_p_w,x_p_wn,x_p_fu,⟨x_p_r0,x_p_r1,x_p_r2,x_p_r3⟩,x_p_ms,x_p_ls,x_p_is⟩,⟨⟨⟨x_c_r0,x_c_r1,x_c_r2,x_c_r3⟩,x_c_mm,x_c_st,x_c_pc⟩,x_c_bf,x_c_rb,x_c_en⟩,x_i,⟨x_e_pc,x_e_vl,x_e_ad,x_e_fr,x_e_nx,x_e_dn,x_e_kn,x_e_ft⟩,⟨x_s_k,x_s_o,x_s_d,⟨x_s_ag,x_s_an⟩,⟨x_s_bg,x_s_bn⟩,x_s_nm,x_s_tg⟩⟩:Spot).i (⟨⟨x_p_w,x_p_wn,x_p_fu,⟨x_p_r0,x_p_r1,x_p_r2,x_p_r3⟩,x_p_ms,x_p_ls,x_p_is⟩,⟨⟨⟨x_c_r0,x_c_r1,x_c_r2,x_c_r3⟩,x_c_mm,x_c_st,x_c_pc⟩,x_c_bf,x_c_rb,x_c_en⟩,x_i,⟨x_e_pc,x_e_vl,x_e_ad,x_e_fr,x_e_nx,x_e_dn,x_e_kn,x_e_ft⟩,⟨x_s_k,x_s_o,x_s_d,⟨x_s_ag,x_s_an⟩,⟨x_s_bg,x_s_bn⟩,x_s_nm,x_s_tg⟩⟩:Spot).s.a).1,vi (Md.valM (⟨⟨x_p_w,x_p_wn,x_p_fu,⟨x_p_r0,x_p_r1,x_p_r2,x_p_r3⟩,x_p_ms,x_p_ls,x_p_is⟩,⟨⟨⟨x_c_r0,x_c_r1,x_c_r2,x_c_r3⟩,x_c_mm,x_c_st,x_c_pc⟩,x_c_bf,x_c_rb,x_c_en⟩,x_i,⟨x_e_pc,x_e_vl,x_e_ad,x_e_fr,x_e_nx,x_e_dn,x_e_kn,x_e_ft⟩,⟨x_s_k,x_s_o,x_s_d,⟨x_s_ag,x_s_an⟩,⟨x_s_bg,x_s_bn⟩,x_s_nm,x_s_tg⟩⟩:Spot).p (⟨⟨x_p_w,x_p_wn,x_p_fu,⟨x_p_r0,x_p_r1,x_p_r2,x_p_r3⟩,x_p_ms,x_p_ls,x_p_is⟩,⟨⟨⟨x_c_r0,x_c_r1,x_c_r2,x_c_r3⟩,x_c_mm,x_c_st,x_c_pc⟩,x_c_bf,x_c_rb,x_c_en⟩,x_i,⟨x_e_pc,x_e_vl,x_e_ad,x_e_fr,x_e_nx,x_e_dn,x_e_kn,x_e_ft⟩,⟨x_s_k,x_s_o,x_s_d,⟨x_s_ag,x_s_an⟩,⟨x_s_bg,x_s_bn⟩,x_s_nm,x_s_tg⟩⟩:Spot).c (⟨⟨x_p_w,x_p_wn,x_p_fu,⟨x_p_r0,x_p_r1,x_p_r2,x_p_r3⟩,x_p_ms,x_p_ls,x_p_is⟩,⟨⟨⟨x_c_r0,x_c_r1,x_c_r2,x_c_r3⟩,x_c_mm,x_c_st,x_c_pc⟩,x_c_bf,x_c_rb,x_c_en⟩,x_i,⟨x_e_pc,x_e_vl,x_e_ad,x_e_fr,x_e_nx,x_e_dn,x_e_kn,x_e_ft⟩,⟨x_s_k,x_s_o,x_s_d,⟨x_s_ag,x_s_an⟩,⟨x_s_bg,x_s_bn⟩,x_s_nm,x_s_tg⟩⟩:Spot).i (⟨⟨x_p_w,x_p_wn,x_p_fu,⟨x_p_r0,x_p_r1,x_p_r2,x_p_r3⟩,x_p_ms,x_p_ls,x_p_is⟩,⟨⟨⟨x_c_r0,x_c_r1,x_c_r2,x_c_r3⟩,x_c_mm,x_c_st,x_c_pc⟩,x_c_bf,x_c_rb,x_c_en⟩,x_i,⟨x_e_pc,x_e_vl,x_e_ad,x_e_fr,x_e_nx,x_e_dn,x_e_kn,x_e_ft⟩,⟨x_s_k,x_s_o,x_s_d,⟨x_s_ag,x_s_an⟩,⟨x_s_bg,x_s_bn⟩,x_s_nm,x_s_tg⟩⟩:Spot).s.b).1,vb ((Md.valM (⟨⟨x_p_w,x_p_wn,x_p_fu,⟨x_p_r0,x_p_r1,x_p_r2,x_p_r3⟩,x_p_ms,x_p_ls,x_p_is⟩,⟨⟨⟨x_c_r0,x_c_r1,x_c_r2,x_c_r3⟩,x_c_mm,x_c_st,x_c_pc⟩,x_c_bf,x_c_rb,x_c_en⟩,x_i,⟨x_e_pc,x_e_vl,x_e_ad,x_e_fr,x_e_nx,x_e_dn,x_e_kn,x_e_ft⟩,⟨x_s_k,x_s_o,x_s_d,⟨x_s_ag,x_s_an⟩,⟨x_s_bg,x_s_bn⟩,x_s_nm,x_s_tg⟩⟩:Spot).p (⟨⟨x_p_w,x_p_wn,x_p_fu,⟨x_p_r0,x_p_r1,x_p_r2,x_p_r3⟩,x_p_ms,x_p_ls,x_p_is⟩,⟨⟨⟨x_c_r0,x_c_r1,x_c_r2,x_c_r3⟩,x_c_mm,x_c_st,x_c_pc⟩,x_c_bf,x_c_rb,x_c_en⟩,x_i,⟨x_e_pc,x_e_vl,x_e_ad,x_e_fr,x_e_nx,x_e_dn,x_e_kn,x_e_ft⟩,⟨x_s_k,x_s_o,x_s_d,⟨x_s_ag,x_s_an⟩,⟨x_s_bg,x_s_bn⟩,x_s_nm,x_s_tg⟩⟩:Spot).c (⟨⟨x_p_w,x_p_wn,x_p_fu,⟨x_p_r0,x_p_r1,x_p_r2,x_p_r3⟩,x_p_ms,x_p_ls,x_p_is⟩,⟨⟨⟨x_c_r0,x_c_r1,x_c_r2,x_c_r3⟩,x_c_mm,x_c_st,x_c_pc⟩,x_c_bf,x_c_rb,x_c_en⟩,x_i,⟨x_e_pc,x_e_vl,x_e_ad,x_e_fr,x_e_nx,x_e_dn,x_e_kn,x_e_ft⟩,⟨x_s_k,x_s_o,x_s_d,⟨x_s_ag,x_s_an⟩,⟨x_s_bg,x_s_bn⟩,x_s_nm,x_s_tg⟩⟩:Spot).i (⟨⟨x_p_w,x_p_wn,x_p_fu,⟨x_p_r0,x_p_r1,x_p_r2,x_p_r3⟩,x_p_ms,x_p_ls,x_p_is⟩,⟨⟨⟨x_c_r0,x_c_r1,x_c_r2,x_c_r3⟩,x_c_mm,x_c_st,x_c_pc⟩,x_c_bf,x_c_rb,x_c_en⟩,x_i,⟨x_e_pc,x_e_vl,x_e_ad,x_e_fr,x_e_nx,x_e_dn,x_e_kn,x_e_ft⟩,⟨x_s_k,x_s_o,x_s_d,⟨x_s_ag,x_s_an⟩,⟨x_s_bg,x_s_bn⟩,x_s_nm,x_s_tg⟩⟩:Spot).s.a).2&&(Md.valM (⟨⟨x_p_w,x_p_wn,x_p_fu,⟨x_p_r0,x_p_r1,x_p_r2,x_p_r3⟩,x_p_ms,x_p_ls,x_p_is⟩,⟨⟨⟨x_c_r0,x_c_r1,x_c_r2,x_c_r3⟩,x_c_mm,x_c_st,x_c_pc⟩,x_c_bf,x_c_rb,x_c_en⟩,x_i,⟨x_e_pc,x_e_vl,x_e_ad,x_e_fr,x_e_nx,x_e_dn,x_e_kn,x_e_ft⟩,⟨x_s_k,x_s_o,x_s_d,⟨x_s_ag,x_s_an⟩,⟨x_s_bg,x_s_bn⟩,x_s_nm,x_s_tg⟩⟩:Spot).p (⟨⟨x_p_w,x_p_wn,x_p_fu,⟨x_p_r0,x_p_r1,x_p_r2,x_p_r3⟩,x_p_ms,x_p_ls,x_p_is⟩,⟨⟨⟨x_c_r0,x_c_r1,x_c_r2,x_c_r3⟩,x_c_mm,x_c_st,x_c_pc⟩,x_c_bf,x_c_rb,x_c_en⟩,x_i,⟨x_e_pc,x_e_vl,x_e_ad,x_e_fr,x_e_nx,x_e_dn,x_e_kn,x_e_ft⟩,⟨x_s_k,x_s_o,x_s_d,⟨x_s_ag,x_s_an⟩,⟨x_s_bg,x_s_bn⟩,x_s_nm,x_s_tg⟩⟩:Spot).c (⟨⟨x_p_w,x_p_wn,x_p_fu,⟨x_p_r0,x_p_r1,x_p_r2,x_p_r3⟩,x_p_ms,x_p_ls,x_p_is⟩,⟨⟨⟨x_c_r0,x_c_r1,x_c_r2,x_c_r3⟩,x_c_mm,x_c_st,x_c_pc⟩,x_c_bf,x_c_rb,x_c_en⟩,x_i,⟨x_e_pc,x_e_vl,x_e_ad,x_e_fr,x_e_nx,x_e_dn,x_e_kn,x_e_ft⟩,⟨x_s_k,x_s_o,x_s_d,⟨x_s_ag,x_s_an⟩,⟨x_s_bg,x_s_bn⟩,x_s_nm,x_s_tg⟩⟩:Spot).i (⟨⟨x_p_w,x_p_wn,x_p_fu,⟨x_p_r0,x_p_r1,x_p_r2,x_p_r3⟩,x_p_ms,x_p_ls,x_p_is⟩,⟨⟨⟨x_c_r0,x_c_r1,x_c_r2,x_c_r3⟩,x_c_mm,x_c_st,x_c_pc⟩,x_c_bf,x_c_rb,x_c_en⟩,x_i,⟨x_e_pc,x_e_vl,x_e_ad,x_e_fr,x_e_nx,x_e_dn,x_e_kn,x_e_ft⟩,⟨x_s_k,x_s_o,x_s_d,⟨x_s_ag,x_s_an⟩,⟨x_s_bg,x_s_bn⟩,x_s_nm,x_s_tg⟩⟩:Spot).s.b).2)])) []):=
 Zk.flat (Z9q S dp (⟨⟨x_p_w,x_p_wn,x_p_fu,⟨x_p_r0,x_p_r1,x_p_r2,x_p_r3⟩,x_p_ms,x_p_ls,x_p_is⟩,⟨⟨⟨x_c_r0,x_c_r1,x_c_r2,x_c_r3⟩,x_c_mm,x_c_st,x_c_pc⟩,x_c_bf,x_c_rb,x_c_en⟩,x_i,⟨x_e_pc,x_e_vl,x_e_ad,x_e_fr,x_e_nx,x_e_dn,x_e_kn,x_e_ft⟩,⟨x_s_k,x_s_o,x_s_d,⟨x_s_ag,x_s_an⟩,⟨x_s_bg,x_s_bn⟩,x_s_nm,x_s_tg⟩⟩:Spot) hl) (np S 153 (by decide)) (rfl) A nb us
theorem Z8k (dp:Nat)(x:Spot)(hl:x.c.buf.length<1073741824):Zk E fn (dp+6) 146 [Z4x x] (.tup [vi (Md.regM x.p x.c x.i x.s.d).1,vb (Md.regM x.p x.c x.i x.s.d).2]):=by
 unfold Zk
 show Zh (evC E fn (dp+5+1) 146 [.d (Z4x x)] [])=_
 rw[Z2,S.Z5i,Z3,Z5q,Z6 _ _ _ _ _ _ _ _ rfl]
 simp only[eG,go_sem,thq S,nbr S,zN0,zN1,zN2,zN3,zN4,zI0,zI1,zI2,zI3,reduceCtorEq,Z24 S,hl,Md.valM,Md.val,Md.regM]
theorem Z5n (dp:Nat)(x_p_w x_p_wn x_p_fu x_p_r0 x_p_r1 x_p_r2 x_p_r3:Int)(x_p_ms:List MemT)(x_p_ls:List Label)(x_p_is:List Ins)(x_c_r0 x_c_r1 x_c_r2 x_c_r3:Int)(x_c_mm x_c_st:List Int)(x_c_pc:Int)(x_c_bf:List Ent)(x_c_rb:List Int)(x_c_en x_i x_e_pc x_e_vl x_e_ad x_e_fr x_e_nx:Int)(x_e_dn x_e_kn x_e_ft:Bool)(x_s_k x_s_o x_s_d:Int)(x_s_ag:Bool)(x_s_an:Int)(x_s_bg:Bool)(x_s_bn:Int)(x_s_nm:ByteArray)(x_s_tg:Int)(hl:(⟨⟨x_p_w,x_p_wn,x_p_fu,⟨x_p_r0,x_p_r1,x_p_r2,x_p_r3⟩,x_p_ms,x_p_ls,x_p_is⟩,⟨⟨⟨x_c_r0,x_c_r1,x_c_r2,x_c_r3⟩,x_c_mm,x_c_st,x_c_pc⟩,x_c_bf,x_c_rb,x_c_en⟩,x_i,⟨x_e_pc,x_e_vl,x_e_ad,x_e_fr,x_e_nx,x_e_dn,x_e_kn,x_e_ft⟩,⟨x_s_k,x_s_o,x_s_d,⟨x_s_ag,x_s_an⟩,⟨x_s_bg,x_s_bn⟩,x_s_nm,x_s_tg⟩⟩:Spot).c.buf.length<1073741824)(A:List Blk)(nb:Nat)(us:List Nat):Zb false E (evC E fn (dp+6)) 146 A nb (some ([.agg [vi x_p_w,vi x_p_wn,vi x_p_fu,vi x_p_r0,vi x_p_r1,vi x_p_r2,vi x_p_r3,rD x_p_ms,rD x_p_ls,rD x_p_is,vi x_c_r0,vi x_c_r1,vi x_c_r2,vi x_c_r3,rD x_c_mm,rD x_c_st,vi x_c_pc,rD x_c_bf,rD x_c_rb,vi x_c_en,vi x_i,vi x_e_pc,vi x_e_vl,vi x_e_ad,vi x_e_fr,vi x_e_nx,vb x_e_dn,vb x_e_kn,vb x_e_ft,vi x_s_k,vi x_s_o,vi x_s_d,vb x_s_ag,vi x_s_an,vb x_s_bg,vi x_s_bn,vt x_s_nm,vi x_s_tg]],us))=some (.made (.d (.tup [vi (Md.regM (⟨⟨x_p_w,x_p_wn,x_p_fu,⟨x_p_r0,x_p_r1,x_p_r2,x_p_r3⟩,x_p_ms,x_p_ls,x_p_is⟩,⟨⟨⟨x_c_r0,x_c_r1,x_c_r2,x_c_r3⟩,x_c_mm,x_c_st,x_c_pc⟩,x_c_bf,x_c_rb,x_c_en⟩,x_i,⟨x_e_pc,x_e_vl,x_e_ad,x_e_fr,x_e_nx,x_e_dn,x_e_kn,x_e_ft⟩,⟨x_s_k,x_s_o,x_s_d,⟨x_s_ag,x_s_an⟩,⟨x_s_bg,x_s_bn⟩,x_s_nm,x_s_tg⟩⟩:Spot).p (⟨⟨x_p_w,x_p_wn,x_p_fu,⟨x_p_r0,x_p_r1,x_p_r2,x_p_r3⟩,x_p_ms,x_p_ls,x_p_is⟩,⟨⟨⟨x_c_r0,x_c_r1,x_c_r2,x_c_r3⟩,x_c_mm,x_c_st,x_c_pc⟩,x_c_bf,x_c_rb,x_c_en⟩,x_i,⟨x_e_pc,x_e_vl,x_e_ad,x_e_fr,x_e_nx,x_e_dn,x_e_kn,x_e_ft⟩,⟨x_s_k,x_s_o,x_s_d,⟨x_s_ag,x_s_an⟩,⟨x_s_bg,x_s_bn⟩,x_s_nm,x_s_tg⟩⟩:Spot).c (⟨⟨x_p_w,x_p_wn,x_p_fu,⟨x_p_r0,x_p_r1,x_p_r2,x_p_r3⟩,x_p_ms,x_p_ls,x_p_is⟩,⟨⟨⟨x_c_r0,x_c_r1,x_c_r2,x_c_r3⟩,x_c_mm,x_c_st,x_c_pc⟩,x_c_bf,x_c_rb,x_c_en⟩,x_i,⟨x_e_pc,x_e_vl,x_e_ad,x_e_fr,x_e_nx,x_e_dn,x_e_kn,x_e_ft⟩,⟨x_s_k,x_s_o,x_s_d,⟨x_s_ag,x_s_an⟩,⟨x_s_bg,x_s_bn⟩,x_s_nm,x_s_tg⟩⟩:Spot).i (⟨⟨x_p_w,x_p_wn,x_p_fu,⟨x_p_r0,x_p_r1,x_p_r2,x_p_r3⟩,x_p_ms,x_p_ls,x_p_is⟩,⟨⟨⟨x_c_r0,x_c_r1,x_c_r2,x_c_r3⟩,x_c_mm,x_c_st,x_c_pc⟩,x_c_bf,x_c_rb,x_c_en⟩,x_i,⟨x_e_pc,x_e_vl,x_e_ad,x_e_fr,x_e_nx,x_e_dn,x_e_kn,x_e_ft⟩,⟨x_s_k,x_s_o,x_s_d,⟨x_s_ag,x_s_an⟩,⟨x_s_bg,x_s_bn⟩,x_s_nm,x_s_tg⟩⟩:Spot).s.d).1,vb (Md.regM (⟨⟨x_p_w,x_p_wn,x_p_fu,⟨x_p_r0,x_p_r1,x_p_r2,x_p_r3⟩,x_p_ms,x_p_ls,x_p_is⟩,⟨⟨⟨x_c_r0,x_c_r1,x_c_r2,x_c_r3⟩,x_c_mm,x_c_st,x_c_pc⟩,x_c_bf,x_c_rb,x_c_en⟩,x_i,⟨x_e_pc,x_e_vl,x_e_ad,x_e_fr,x_e_nx,x_e_dn,x_e_kn,x_e_ft⟩,⟨x_s_k,x_s_o,x_s_d,⟨x_s_ag,x_s_an⟩,⟨x_s_bg,x_s_bn⟩,x_s_nm,x_s_tg⟩⟩:Spot).p (⟨⟨x_p_w,x_p_wn,x_p_fu,⟨x_p_r0,x_p_r1,x_p_r2,x_p_r3⟩,x_p_ms,x_p_ls,x_p_is⟩,⟨⟨⟨x_c_r0,x_c_r1,x_c_r2,x_c_r3⟩,x_c_mm,x_c_st,x_c_pc⟩,x_c_bf,x_c_rb,x_c_en⟩,x_i,⟨x_e_pc,x_e_vl,x_e_ad,x_e_fr,x_e_nx,x_e_dn,x_e_kn,x_e_ft⟩,⟨x_s_k,x_s_o,x_s_d,⟨x_s_ag,x_s_an⟩,⟨x_s_bg,x_s_bn⟩,x_s_nm,x_s_tg⟩⟩:Spot).c (⟨⟨x_p_w,x_p_wn,x_p_fu,⟨x_p_r0,x_p_r1,x_p_r2,x_p_r3⟩,x_p_ms,x_p_ls,x_p_is⟩,⟨⟨⟨x_c_r0,x_c_r1,x_c_r2,x_c_r3⟩,x_c_mm,x_c_st,x_c_pc⟩,x_c_bf,x_c_rb,x_c_en⟩,x_i,⟨x_e_pc,x_e_vl,x_e_ad,x_e_fr,x_e_nx,x_e_dn,x_e_kn,x_e_ft⟩,⟨x_s_k,x_s_o,x_s_d,⟨x_s_ag,x_s_an⟩,⟨x_s_bg,x_s_bn⟩,x_s_nm,x_s_tg⟩⟩:Spot).i (⟨⟨x_p_w,x_p_wn,x_p_fu,⟨x_p_r0,x_p_r1,x_p_r2,x_p_r3⟩,x_p_ms,x_p_ls,x_p_is⟩,⟨⟨⟨x_c_r0,x_c_r1,x_c_r2,x_c_r3⟩,x_c_mm,x_c_st,x_c_pc⟩,x_c_bf,x_c_rb,x_c_en⟩,x_i,⟨x_e_pc,x_e_vl,x_e_ad,x_e_fr,x_e_nx,x_e_dn,x_e_kn,x_e_ft⟩,⟨x_s_k,x_s_o,x_s_d,⟨x_s_ag,x_s_an⟩,⟨x_s_bg,x_s_bn⟩,x_s_nm,x_s_tg⟩⟩:Spot).s.d).2])) []):=
 Zk.flat (Z8k S dp (⟨⟨x_p_w,x_p_wn,x_p_fu,⟨x_p_r0,x_p_r1,x_p_r2,x_p_r3⟩,x_p_ms,x_p_ls,x_p_is⟩,⟨⟨⟨x_c_r0,x_c_r1,x_c_r2,x_c_r3⟩,x_c_mm,x_c_st,x_c_pc⟩,x_c_bf,x_c_rb,x_c_en⟩,x_i,⟨x_e_pc,x_e_vl,x_e_ad,x_e_fr,x_e_nx,x_e_dn,x_e_kn,x_e_ft⟩,⟨x_s_k,x_s_o,x_s_d,⟨x_s_ag,x_s_an⟩,⟨x_s_bg,x_s_bn⟩,x_s_nm,x_s_tg⟩⟩:Spot) hl) (np S 146 (by decide)) (rfl) A nb us
end
def Zws (x:Spot):Bool:=(Md.valM x.p x.c x.i x.s.a).2&&(Md.valM x.p x.c x.i x.s.b).2
def Zro (x:Spot):Int:=Md.mask x.p.w ((Md.valM x.p x.c x.i x.s.a).1+(Md.valM x.p x.c x.i x.s.b).1)
def Zxh (x:Spot):Bool:=decide (Zro x<Z5 x.p.mems)
def Z9t (x:Spot):Ent×Bool×Bool:=
 bif Zws x then
  (bif Zxh x then (⟨x.e.pc, (Md.loadM x.p x.c x.i (Zro x)).1, Zro x, (Md.loadM x.p x.c x.i (Zro x)).2.1, x.e.next, true, true, x.e.fault⟩, true, (Md.loadM x.p x.c x.i (Zro x)).2.2)
   else(⟨x.e.pc,0,Zro x,-1,x.e.next,true,true,true⟩,false,true))
 else(Md.ent0,false,false)
def Zje (x:Spot):Bool:=Md.ready (Z5 x.p.mems) x.p x.c x.i x.s (Md.valM x.p x.c x.i x.s.a) (Md.valM x.p x.c x.i x.s.b) (Md.regM x.p x.c x.i x.s.d)
variable {E:Env} {fn:FuncId->Option (Env->cT->cT)}
section
variable (S:Sur E fn)
include S
theorem Znn:E.lives 151 9=none/\E.lives 151 19=none:=⟨off S 151 9 (by decide) rfl,off S 151 19 (by decide) rfl⟩
theorem Zyf:E.lives 201 15=none/\E.lives 201 17=none/\E.lives 201 21=none/\E.lives 201 25=none/\E.lives 201 31=none/\E.lives 201 35=none:=⟨off S 201 15 (by decide) rfl,off S 201 17 (by decide) rfl,off S 201 21 (by decide) rfl,off S 201 25 (by decide) rfl,off S 201 31 (by decide) rfl,off S 201 35 (by decide) rfl⟩
theorem Z8j (dp:Nat)(x:Spot)(hl:x.c.buf.length<1073741824)(hm:x.p.mems.length<1073741824):Zk E fn (dp+7) 151 [Z4x x] (.tup [.agg (Cl.cells (Z9t x).1),vb (Z9t x).2.1,vb (Z9t x).2.2]):=by
 unfold Zk
 show Zh (evC E fn (dp+6+1) 151 [.d (Z4x x)] [])=_
 rw[Z2,S.Z5h,Z3,Z5p,Z6 _ _ _ _ _ _ _ _ rfl]
 have e1:((Md.valM x.p x.c x.i x.s.a).2&&(Md.valM x.p x.c x.i x.s.b).2)=Zws x:=rfl
 have e2:Md.mask x.p.w ((Md.valM x.p x.c x.i x.s.a).1+(Md.valM x.p x.c x.i x.s.b).1)=Zro x:=rfl
 have e3:decide (Zro x<Z5 x.p.mems)=Zxh x:=rfl
 cases h:Zws x with
 | false=>simp only[eG,go_sem,thq S,nbr S,zN0,zN1,zN2,zN3,zN4,zI0,zI1,zI2,zI3,reduceCtorEq,Znn S,Qr S,hl,e1,h,Bool.not_false,Z9t,Md.ent0]
 | true=>
  cases h2:Zxh x with
  | true=>simp only[eG,go_sem,thq S,nbr S,zN0,zN1,zN2,zN3,zN4,zI0,zI1,zI2,zI3,reduceCtorEq,Znn S,Qr S,hl,hm,e1,e2,e3,h,h2,Bool.not_true,Bool.not_false,Z9t,Z1f S,Zob S,Md.loadM]
  | false=>simp only[eG,go_sem,thq S,nbr S,zN0,zN1,zN2,zN3,zN4,zI0,zI1,zI2,zI3,reduceCtorEq,Znn S,Qr S,hl,hm,e1,e2,e3,h,h2,Bool.not_true,Bool.not_false,Z9t,Z1f S]
theorem Z5m (dp:Nat)(x_p_w x_p_wn x_p_fu x_p_r0 x_p_r1 x_p_r2 x_p_r3:Int)(x_p_ms:List MemT)(x_p_ls:List Label)(x_p_is:List Ins)(x_c_r0 x_c_r1 x_c_r2 x_c_r3:Int)(x_c_mm x_c_st:List Int)(x_c_pc:Int)(x_c_bf:List Ent)(x_c_rb:List Int)(x_c_en x_i x_e_pc x_e_vl x_e_ad x_e_fr x_e_nx:Int)(x_e_dn x_e_kn x_e_ft:Bool)(x_s_k x_s_o x_s_d:Int)(x_s_ag:Bool)(x_s_an:Int)(x_s_bg:Bool)(x_s_bn:Int)(x_s_nm:ByteArray)(x_s_tg:Int)(hl:(⟨⟨x_p_w,x_p_wn,x_p_fu,⟨x_p_r0,x_p_r1,x_p_r2,x_p_r3⟩,x_p_ms,x_p_ls,x_p_is⟩,⟨⟨⟨x_c_r0,x_c_r1,x_c_r2,x_c_r3⟩,x_c_mm,x_c_st,x_c_pc⟩,x_c_bf,x_c_rb,x_c_en⟩,x_i,⟨x_e_pc,x_e_vl,x_e_ad,x_e_fr,x_e_nx,x_e_dn,x_e_kn,x_e_ft⟩,⟨x_s_k,x_s_o,x_s_d,⟨x_s_ag,x_s_an⟩,⟨x_s_bg,x_s_bn⟩,x_s_nm,x_s_tg⟩⟩:Spot).c.buf.length<1073741824)(hm:(⟨⟨x_p_w,x_p_wn,x_p_fu,⟨x_p_r0,x_p_r1,x_p_r2,x_p_r3⟩,x_p_ms,x_p_ls,x_p_is⟩,⟨⟨⟨x_c_r0,x_c_r1,x_c_r2,x_c_r3⟩,x_c_mm,x_c_st,x_c_pc⟩,x_c_bf,x_c_rb,x_c_en⟩,x_i,⟨x_e_pc,x_e_vl,x_e_ad,x_e_fr,x_e_nx,x_e_dn,x_e_kn,x_e_ft⟩,⟨x_s_k,x_s_o,x_s_d,⟨x_s_ag,x_s_an⟩,⟨x_s_bg,x_s_bn⟩,x_s_nm,x_s_tg⟩⟩:Spot).p.mems.length<1073741824)(A:List Blk)(nb:Nat)(us:List Nat):Zb false E (evC E fn (dp+7)) 151 A nb (some ([.agg [vi x_p_w,vi x_p_wn,vi x_p_fu,vi x_p_r0,vi x_p_r1,vi x_p_r2,vi x_p_r3,rD x_p_ms,rD x_p_ls,rD x_p_is,vi x_c_r0,vi x_c_r1,vi x_c_r2,vi x_c_r3,rD x_c_mm,rD x_c_st,vi x_c_pc,rD x_c_bf,rD x_c_rb,vi x_c_en,vi x_i,vi x_e_pc,vi x_e_vl,vi x_e_ad,vi x_e_fr,vi x_e_nx,vb x_e_dn,vb x_e_kn,vb x_e_ft,vi x_s_k,vi x_s_o,vi x_s_d,vb x_s_ag,vi x_s_an,vb x_s_bg,vi x_s_bn,vt x_s_nm,vi x_s_tg]],us))=some (.made (.d (.tup [.agg (Cl.cells (Z9t (⟨⟨x_p_w,x_p_wn,x_p_fu,⟨x_p_r0,x_p_r1,x_p_r2,x_p_r3⟩,x_p_ms,x_p_ls,x_p_is⟩,⟨⟨⟨x_c_r0,x_c_r1,x_c_r2,x_c_r3⟩,x_c_mm,x_c_st,x_c_pc⟩,x_c_bf,x_c_rb,x_c_en⟩,x_i,⟨x_e_pc,x_e_vl,x_e_ad,x_e_fr,x_e_nx,x_e_dn,x_e_kn,x_e_ft⟩,⟨x_s_k,x_s_o,x_s_d,⟨x_s_ag,x_s_an⟩,⟨x_s_bg,x_s_bn⟩,x_s_nm,x_s_tg⟩⟩:Spot)).1),vb (Z9t (⟨⟨x_p_w,x_p_wn,x_p_fu,⟨x_p_r0,x_p_r1,x_p_r2,x_p_r3⟩,x_p_ms,x_p_ls,x_p_is⟩,⟨⟨⟨x_c_r0,x_c_r1,x_c_r2,x_c_r3⟩,x_c_mm,x_c_st,x_c_pc⟩,x_c_bf,x_c_rb,x_c_en⟩,x_i,⟨x_e_pc,x_e_vl,x_e_ad,x_e_fr,x_e_nx,x_e_dn,x_e_kn,x_e_ft⟩,⟨x_s_k,x_s_o,x_s_d,⟨x_s_ag,x_s_an⟩,⟨x_s_bg,x_s_bn⟩,x_s_nm,x_s_tg⟩⟩:Spot)).2.1,vb (Z9t (⟨⟨x_p_w,x_p_wn,x_p_fu,⟨x_p_r0,x_p_r1,x_p_r2,x_p_r3⟩,x_p_ms,x_p_ls,x_p_is⟩,⟨⟨⟨x_c_r0,x_c_r1,x_c_r2,x_c_r3⟩,x_c_mm,x_c_st,x_c_pc⟩,x_c_bf,x_c_rb,x_c_en⟩,x_i,⟨x_e_pc,x_e_vl,x_e_ad,x_e_fr,x_e_nx,x_e_dn,x_e_kn,x_e_ft⟩,⟨x_s_k,x_s_o,x_s_d,⟨x_s_ag,x_s_an⟩,⟨x_s_bg,x_s_bn⟩,x_s_nm,x_s_tg⟩⟩:Spot)).2.2])) []):=
 Zk.flat (Z8j S dp (⟨⟨x_p_w,x_p_wn,x_p_fu,⟨x_p_r0,x_p_r1,x_p_r2,x_p_r3⟩,x_p_ms,x_p_ls,x_p_is⟩,⟨⟨⟨x_c_r0,x_c_r1,x_c_r2,x_c_r3⟩,x_c_mm,x_c_st,x_c_pc⟩,x_c_bf,x_c_rb,x_c_en⟩,x_i,⟨x_e_pc,x_e_vl,x_e_ad,x_e_fr,x_e_nx,x_e_dn,x_e_kn,x_e_ft⟩,⟨x_s_k,x_s_o,x_s_d,⟨x_s_ag,x_s_an⟩,⟨x_s_bg,x_s_bn⟩,x_s_nm,x_s_tg⟩⟩:Spot) hl hm) (np S 151 (by decide)) (rfl) A nb us
theorem Z7w (dp:Nat)(x:Spot)(hl:x.c.buf.length<1073741824)(hm:x.p.mems.length<1073741824):Zk E fn (dp+8) 201 [Z4x x] (vb (Zje x)):=by
 unfold Zk
 show Zh (evC E fn (dp+7+1) 201 [.d (Z4x x)] [])=_
 rw[Z2,S.Z4o,Z3,Z4w,Z6 _ _ _ _ _ _ _ _ rfl]
 have e1:((Md.valM x.p x.c x.i x.s.a).2&&(Md.valM x.p x.c x.i x.s.b).2)=Zws x:=rfl
 have hld:(Z9t x).2.2=(Zws x&&(decide (Zro x>=Z5 x.p.mems) || (Md.loadM x.p x.c x.i (Zro x)).2.2)):=by
  unfold Z9t Zxh
  cases Zws x with
  | false=>rfl
  | true=>
   by_cases h:Zro x<Z5 x.p.mems
   ·simp[h,Int.not_le.2 h]
   ·simp[h,Int.not_lt.1 h]
 unfold Zje
 cases hab:Zws x<;>simp only[eG,go_sem,thq S,nbr S,zN0,zN1,zN2,zN3,zN4,zI0,zI1,zI2,zI3,reduceCtorEq,Zyf S,Qr S,Z5n S,Z24 S,Z5m S,hl,hm,e1,hab,hld]
 all_goals
  have h':=hab
  unfold Zws at h'
  by_cases k1:x.s.kind=1
  ·simp only[k1,Md.ready,h',if_true,decide_true,cond_true,true_or]
  by_cases k5:x.s.kind=5
  ·simp only[k5,Md.ready,h',if_true,decide_true,cond_true,or_true,zI0,decide_false,cond_false]
  by_cases k4:x.s.kind=4
  ·simp only[k4,Md.ready,h',if_true,if_false,decide_true,cond_true,or_self,zI0,decide_false,cond_false,Bool.true_and,Bool.false_and]
  by_cases k2:x.s.kind=2
  ·simp only [k2, Md.ready, h', if_true, if_false, decide_true, cond_true, or_self, zI0, decide_false, cond_false, Bool.true_and, Bool.false_and, Zro]
   try rfl
  by_cases k3:x.s.kind=3
  ·simp only[k3,Md.ready,if_true,if_false,decide_true,cond_true,or_self,zI0,decide_false,cond_false]
  by_cases k7:x.s.kind=7
  ·simp only[k7,Md.ready,if_true,if_false,decide_true,cond_true,or_self,zI0,decide_false,cond_false]
  ·simp only[k1,k2,k3,k4,k5,k7,Md.ready,if_true,if_false,decide_true,cond_true,or_self,zI0,decide_false,cond_false]
theorem Z9x (dp:Nat)(x_p_w x_p_wn x_p_fu x_p_r0 x_p_r1 x_p_r2 x_p_r3:Int)(x_p_ms:List MemT)(x_p_ls:List Label)(x_p_is:List Ins)(x_c_r0 x_c_r1 x_c_r2 x_c_r3:Int)(x_c_mm x_c_st:List Int)(x_c_pc:Int)(x_c_bf:List Ent)(x_c_rb:List Int)(x_c_en x_i x_e_pc x_e_vl x_e_ad x_e_fr x_e_nx:Int)(x_e_dn x_e_kn x_e_ft:Bool)(x_s_k x_s_o x_s_d:Int)(x_s_ag:Bool)(x_s_an:Int)(x_s_bg:Bool)(x_s_bn:Int)(x_s_nm:ByteArray)(x_s_tg:Int)(hl:(⟨⟨x_p_w,x_p_wn,x_p_fu,⟨x_p_r0,x_p_r1,x_p_r2,x_p_r3⟩,x_p_ms,x_p_ls,x_p_is⟩,⟨⟨⟨x_c_r0,x_c_r1,x_c_r2,x_c_r3⟩,x_c_mm,x_c_st,x_c_pc⟩,x_c_bf,x_c_rb,x_c_en⟩,x_i,⟨x_e_pc,x_e_vl,x_e_ad,x_e_fr,x_e_nx,x_e_dn,x_e_kn,x_e_ft⟩,⟨x_s_k,x_s_o,x_s_d,⟨x_s_ag,x_s_an⟩,⟨x_s_bg,x_s_bn⟩,x_s_nm,x_s_tg⟩⟩:Spot).c.buf.length<1073741824)(hm:(⟨⟨x_p_w,x_p_wn,x_p_fu,⟨x_p_r0,x_p_r1,x_p_r2,x_p_r3⟩,x_p_ms,x_p_ls,x_p_is⟩,⟨⟨⟨x_c_r0,x_c_r1,x_c_r2,x_c_r3⟩,x_c_mm,x_c_st,x_c_pc⟩,x_c_bf,x_c_rb,x_c_en⟩,x_i,⟨x_e_pc,x_e_vl,x_e_ad,x_e_fr,x_e_nx,x_e_dn,x_e_kn,x_e_ft⟩,⟨x_s_k,x_s_o,x_s_d,⟨x_s_ag,x_s_an⟩,⟨x_s_bg,x_s_bn⟩,x_s_nm,x_s_tg⟩⟩:Spot).p.mems.length<1073741824)(A:List Blk)(nb:Nat)(us:List Nat):Zb false E (evC E fn (dp+8)) 201 A nb (some ([.agg [vi x_p_w,vi x_p_wn,vi x_p_fu,vi x_p_r0,vi x_p_r1,vi x_p_r2,vi x_p_r3,rD x_p_ms,rD x_p_ls,rD x_p_is,vi x_c_r0,vi x_c_r1,vi x_c_r2,vi x_c_r3,rD x_c_mm,rD x_c_st,vi x_c_pc,rD x_c_bf,rD x_c_rb,vi x_c_en,vi x_i,vi x_e_pc,vi x_e_vl,vi x_e_ad,vi x_e_fr,vi x_e_nx,vb x_e_dn,vb x_e_kn,vb x_e_ft,vi x_s_k,vi x_s_o,vi x_s_d,vb x_s_ag,vi x_s_an,vb x_s_bg,vi x_s_bn,vt x_s_nm,vi x_s_tg]],us))=some (.made (.d (vb (Zje (⟨⟨x_p_w,x_p_wn,x_p_fu,⟨x_p_r0,x_p_r1,x_p_r2,x_p_r3⟩,x_p_ms,x_p_ls,x_p_is⟩,⟨⟨⟨x_c_r0,x_c_r1,x_c_r2,x_c_r3⟩,x_c_mm,x_c_st,x_c_pc⟩,x_c_bf,x_c_rb,x_c_en⟩,x_i,⟨x_e_pc,x_e_vl,x_e_ad,x_e_fr,x_e_nx,x_e_dn,x_e_kn,x_e_ft⟩,⟨x_s_k,x_s_o,x_s_d,⟨x_s_ag,x_s_an⟩,⟨x_s_bg,x_s_bn⟩,x_s_nm,x_s_tg⟩⟩:Spot)))) []):=
 Zk.flat (Z7w S dp (⟨⟨x_p_w,x_p_wn,x_p_fu,⟨x_p_r0,x_p_r1,x_p_r2,x_p_r3⟩,x_p_ms,x_p_ls,x_p_is⟩,⟨⟨⟨x_c_r0,x_c_r1,x_c_r2,x_c_r3⟩,x_c_mm,x_c_st,x_c_pc⟩,x_c_bf,x_c_rb,x_c_en⟩,x_i,⟨x_e_pc,x_e_vl,x_e_ad,x_e_fr,x_e_nx,x_e_dn,x_e_kn,x_e_ft⟩,⟨x_s_k,x_s_o,x_s_d,⟨x_s_ag,x_s_an⟩,⟨x_s_bg,x_s_bn⟩,x_s_nm,x_s_tg⟩⟩:Spot) hl hm) (np S 201 (by decide)) (rfl) A nb us
theorem Zjq (dp:Nat)(p:Prog)(c:Conf)(i:Int)(hl:c.buf.length<1073741824)(hm:p.mems.length<1073741824):Zk E fn (dp+9) 141 [Zn p,Zv c,vi i] (vb (Md.can (Z5 p.mems) p c i)):=by
 unfold Zk
 show Zh (evC E fn (dp+8+1) 141 [.d (Zn p),.d (Zv c),.d (vi i)] [])=_
 rw[Z2,S.Zg7,Z3,Zh0,Z6 _ _ _ _ _ _ _ _ rfl]
 cases ho:Md.openM p c i with
 | false=>simp only[eG,go_sem,thq S,nbr S,zN0,zN1,zN2,zN3,zN4,zI0,zI1,zI2,zI3,reduceCtorEq,Z13 S,hl,ho,Md.can]
 | true=>
  have e:Zje (Z03 p c i)=Md.ready (Z5 p.mems) p c i (Md.insM p c i) (Md.valM p c i (Md.insM p c i).a) (Md.valM p c i (Md.insM p c i).b) (Md.regM p c i (Md.insM p c i).d):=rfl
  cases hd:(Md.entAt c.buf i).done with
  | true=>simp only[eG,go_sem,thq S,nbr S,zN0,zN1,zN2,zN3,zN4,zI0,zI1,zI2,zI3,reduceCtorEq,Z13 S,hl,ho,Z03,hd,Bool.not_true,Md.can]
  | false=>
   have hd':(Z03 p c i).e.done=false:=hd
   have e2:Zje { p:=(Z03 p c i).p,c:=(Z03 p c i).c,i:=(Z03 p c i).i,e:={ pc:=(Z03 p c i).e.pc,val:=(Z03 p c i).e.val,addr:=(Z03 p c i).e.addr,frm:=(Z03 p c i).e.frm,next:=(Z03 p c i).e.next,done:=false,known:=(Z03 p c i).e.known,fault:=(Z03 p c i).e.fault },s:=(Z03 p c i).s }=Md.ready (Z5 p.mems) p c i (Md.insM p c i) (Md.valM p c i (Md.insM p c i).a) (Md.valM p c i (Md.insM p c i).b) (Md.regM p c i (Md.insM p c i).d):=by rw[<-hd'];exact e
   simp only[eG,go_sem,thq S,nbr S,zN0,zN1,zN2,zN3,zN4,zI0,zI1,zI2,zI3,reduceCtorEq,Z13 S,hl,ho,hd',Bool.not_false,Z9x S,show(Z03 p c i).c.buf.length<1073741824 from hl,show(Z03 p c i).p.mems.length<1073741824 from hm,e2,Md.can,hd]
theorem Z9y (dp:Nat)(p_w p_wn p_fu p_r0 p_r1 p_r2 p_r3:Int)(p_ms:List MemT)(p_ls:List Label)(p_is:List Ins)(c_r0 c_r1 c_r2 c_r3:Int)(c_mm c_st:List Int)(c_pc:Int)(c_bf:List Ent)(c_rb:List Int)(c_en i:Int)(hl:(⟨⟨⟨c_r0,c_r1,c_r2,c_r3⟩,c_mm,c_st,c_pc⟩,c_bf,c_rb,c_en⟩:Conf).buf.length<1073741824)(hm:(⟨p_w,p_wn,p_fu,⟨p_r0,p_r1,p_r2,p_r3⟩,p_ms,p_ls,p_is⟩:Prog).mems.length<1073741824)(A:List Blk)(nb:Nat)(us:List Nat):Zb false E (evC E fn (dp+9)) 141 A nb (some ([.agg [vi p_w,vi p_wn,vi p_fu,vi p_r0,vi p_r1,vi p_r2,vi p_r3,rD p_ms,rD p_ls,rD p_is],.agg [vi c_r0,vi c_r1,vi c_r2,vi c_r3,rD c_mm,rD c_st,vi c_pc,rD c_bf,rD c_rb,vi c_en],vi i],us))=some (.made (.d (vb (Md.can (Z5 (⟨p_w,p_wn,p_fu,⟨p_r0,p_r1,p_r2,p_r3⟩,p_ms,p_ls,p_is⟩:Prog).mems) (⟨p_w,p_wn,p_fu,⟨p_r0,p_r1,p_r2,p_r3⟩,p_ms,p_ls,p_is⟩:Prog) (⟨⟨⟨c_r0,c_r1,c_r2,c_r3⟩,c_mm,c_st,c_pc⟩,c_bf,c_rb,c_en⟩:Conf) i))) []):=
 Zk.flat (Zjq S dp (⟨p_w,p_wn,p_fu,⟨p_r0,p_r1,p_r2,p_r3⟩,p_ms,p_ls,p_is⟩:Prog) (⟨⟨⟨c_r0,c_r1,c_r2,c_r3⟩,c_mm,c_st,c_pc⟩,c_bf,c_rb,c_en⟩:Conf) i hl hm) (np S 141 (by decide)) (rfl) A nb us
theorem Z9r (dp:Nat)(x:Spot)(e:Ent)(hm:x.c.state.mem.length<1073741824)(hs:x.c.state.stack.length<1073741824)(hl:x.c.buf.length<1073741824)(hr:x.c.rsb.length<1073741824)(h0:0<=x.i)(h1:x.i<x.c.buf.length):Zk E fn (dp+3) 152 [Z4x x,.agg (Cl.cells e)] (Zv (Md.put x.c x.i e)):=by
 unfold Zk
 show Zh (evC E fn (dp+2+1) 152 [.d (Z4x x),.d (.agg (Cl.cells e))] [])=_
 rw[Z2,S.Z6b,Z3,Z6q,Z6 _ _ _ _ _ _ _ _ rfl]
 simp only[eG,go_sem,thq S,nbr S,zN0,zN1,zN2,zN3,zN4,zI0,zI1,zI2,zI3,reduceCtorEq,Z41 S,hm,hs,hl,hr,Zr8 S,h0,h1,Md.put]
theorem Qb (dp:Nat)(x_p_w x_p_wn x_p_fu x_p_r0 x_p_r1 x_p_r2 x_p_r3:Int)(x_p_ms:List MemT)(x_p_ls:List Label)(x_p_is:List Ins)(x_c_r0 x_c_r1 x_c_r2 x_c_r3:Int)(x_c_mm x_c_st:List Int)(x_c_pc:Int)(x_c_bf:List Ent)(x_c_rb:List Int)(x_c_en x_i x_e_pc x_e_vl x_e_ad x_e_fr x_e_nx:Int)(x_e_dn x_e_kn x_e_ft:Bool)(x_s_k x_s_o x_s_d:Int)(x_s_ag:Bool)(x_s_an:Int)(x_s_bg:Bool)(x_s_bn:Int)(x_s_nm:ByteArray)(x_s_tg e_pc e_vl e_ad e_fr e_nx:Int)(e_dn e_kn e_ft:Bool)(hm:(⟨⟨x_p_w,x_p_wn,x_p_fu,⟨x_p_r0,x_p_r1,x_p_r2,x_p_r3⟩,x_p_ms,x_p_ls,x_p_is⟩,⟨⟨⟨x_c_r0,x_c_r1,x_c_r2,x_c_r3⟩,x_c_mm,x_c_st,x_c_pc⟩,x_c_bf,x_c_rb,x_c_en⟩,x_i,⟨x_e_pc,x_e_vl,x_e_ad,x_e_fr,x_e_nx,x_e_dn,x_e_kn,x_e_ft⟩,⟨x_s_k,x_s_o,x_s_d,⟨x_s_ag,x_s_an⟩,⟨x_s_bg,x_s_bn⟩,x_s_nm,x_s_tg⟩⟩:Spot).c.state.mem.length<1073741824)(hs:(⟨⟨x_p_w,x_p_wn,x_p_fu,⟨x_p_r0,x_p_r1,x_p_r2,x_p_r3⟩,x_p_ms,x_p_ls,x_p_is⟩,⟨⟨⟨x_c_r0,x_c_r1,x_c_r2,x_c_r3⟩,x_c_mm,x_c_st,x_c_pc⟩,x_c_bf,x_c_rb,x_c_en⟩,x_i,⟨x_e_pc,x_e_vl,x_e_ad,x_e_fr,x_e_nx,x_e_dn,x_e_kn,x_e_ft⟩,⟨x_s_k,x_s_o,x_s_d,⟨x_s_ag,x_s_an⟩,⟨x_s_bg,x_s_bn⟩,x_s_nm,x_s_tg⟩⟩:Spot).c.state.stack.length<1073741824)(hl:(⟨⟨x_p_w,x_p_wn,x_p_fu,⟨x_p_r0,x_p_r1,x_p_r2,x_p_r3⟩,x_p_ms,x_p_ls,x_p_is⟩,⟨⟨⟨x_c_r0,x_c_r1,x_c_r2,x_c_r3⟩,x_c_mm,x_c_st,x_c_pc⟩,x_c_bf,x_c_rb,x_c_en⟩,x_i,⟨x_e_pc,x_e_vl,x_e_ad,x_e_fr,x_e_nx,x_e_dn,x_e_kn,x_e_ft⟩,⟨x_s_k,x_s_o,x_s_d,⟨x_s_ag,x_s_an⟩,⟨x_s_bg,x_s_bn⟩,x_s_nm,x_s_tg⟩⟩:Spot).c.buf.length<1073741824)(hr:(⟨⟨x_p_w,x_p_wn,x_p_fu,⟨x_p_r0,x_p_r1,x_p_r2,x_p_r3⟩,x_p_ms,x_p_ls,x_p_is⟩,⟨⟨⟨x_c_r0,x_c_r1,x_c_r2,x_c_r3⟩,x_c_mm,x_c_st,x_c_pc⟩,x_c_bf,x_c_rb,x_c_en⟩,x_i,⟨x_e_pc,x_e_vl,x_e_ad,x_e_fr,x_e_nx,x_e_dn,x_e_kn,x_e_ft⟩,⟨x_s_k,x_s_o,x_s_d,⟨x_s_ag,x_s_an⟩,⟨x_s_bg,x_s_bn⟩,x_s_nm,x_s_tg⟩⟩:Spot).c.rsb.length<1073741824)(h0:0<=(⟨⟨x_p_w,x_p_wn,x_p_fu,⟨x_p_r0,x_p_r1,x_p_r2,x_p_r3⟩,x_p_ms,x_p_ls,x_p_is⟩,⟨⟨⟨x_c_r0,x_c_r1,x_c_r2,x_c_r3⟩,x_c_mm,x_c_st,x_c_pc⟩,x_c_bf,x_c_rb,x_c_en⟩,x_i,⟨x_e_pc,x_e_vl,x_e_ad,x_e_fr,x_e_nx,x_e_dn,x_e_kn,x_e_ft⟩,⟨x_s_k,x_s_o,x_s_d,⟨x_s_ag,x_s_an⟩,⟨x_s_bg,x_s_bn⟩,x_s_nm,x_s_tg⟩⟩:Spot).i)(h1:(⟨⟨x_p_w,x_p_wn,x_p_fu,⟨x_p_r0,x_p_r1,x_p_r2,x_p_r3⟩,x_p_ms,x_p_ls,x_p_is⟩,⟨⟨⟨x_c_r0,x_c_r1,x_c_r2,x_c_r3⟩,x_c_mm,x_c_st,x_c_pc⟩,x_c_bf,x_c_rb,x_c_en⟩,x_i,⟨x_e_pc,x_e_vl,x_e_ad,x_e_fr,x_e_nx,x_e_dn,x_e_kn,x_e_ft⟩,⟨x_s_k,x_s_o,x_s_d,⟨x_s_ag,x_s_an⟩,⟨x_s_bg,x_s_bn⟩,x_s_nm,x_s_tg⟩⟩:Spot).i<(⟨⟨x_p_w,x_p_wn,x_p_fu,⟨x_p_r0,x_p_r1,x_p_r2,x_p_r3⟩,x_p_ms,x_p_ls,x_p_is⟩,⟨⟨⟨x_c_r0,x_c_r1,x_c_r2,x_c_r3⟩,x_c_mm,x_c_st,x_c_pc⟩,x_c_bf,x_c_rb,x_c_en⟩,x_i,⟨x_e_pc,x_e_vl,x_e_ad,x_e_fr,x_e_nx,x_e_dn,x_e_kn,x_e_ft⟩,⟨x_s_k,x_s_o,x_s_d,⟨x_s_ag,x_s_an⟩,⟨x_s_bg,x_s_bn⟩,x_s_nm,x_s_tg⟩⟩:Spot).c.buf.length)(A:List Blk)(nb:Nat):Zb false E (evC E fn (dp+3)) 152 A nb (some ([.agg [vi x_p_w,vi x_p_wn,vi x_p_fu,vi x_p_r0,vi x_p_r1,vi x_p_r2,vi x_p_r3,rD x_p_ms,rD x_p_ls,rD x_p_is,vi x_c_r0,vi x_c_r1,vi x_c_r2,vi x_c_r3,rD x_c_mm,rD x_c_st,vi x_c_pc,rD x_c_bf,rD x_c_rb,vi x_c_en,vi x_i,vi x_e_pc,vi x_e_vl,vi x_e_ad,vi x_e_fr,vi x_e_nx,vb x_e_dn,vb x_e_kn,vb x_e_ft,vi x_s_k,vi x_s_o,vi x_s_d,vb x_s_ag,vi x_s_an,vb x_s_bg,vi x_s_bn,vt x_s_nm,vi x_s_tg],.agg [vi e_pc,vi e_vl,vi e_ad,vi e_fr,vi e_nx,vb e_dn,vb e_kn,vb e_ft]],[]))=some (.made (.d (Zv (Md.put (⟨⟨x_p_w,x_p_wn,x_p_fu,⟨x_p_r0,x_p_r1,x_p_r2,x_p_r3⟩,x_p_ms,x_p_ls,x_p_is⟩,⟨⟨⟨x_c_r0,x_c_r1,x_c_r2,x_c_r3⟩,x_c_mm,x_c_st,x_c_pc⟩,x_c_bf,x_c_rb,x_c_en⟩,x_i,⟨x_e_pc,x_e_vl,x_e_ad,x_e_fr,x_e_nx,x_e_dn,x_e_kn,x_e_ft⟩,⟨x_s_k,x_s_o,x_s_d,⟨x_s_ag,x_s_an⟩,⟨x_s_bg,x_s_bn⟩,x_s_nm,x_s_tg⟩⟩:Spot).c (⟨⟨x_p_w,x_p_wn,x_p_fu,⟨x_p_r0,x_p_r1,x_p_r2,x_p_r3⟩,x_p_ms,x_p_ls,x_p_is⟩,⟨⟨⟨x_c_r0,x_c_r1,x_c_r2,x_c_r3⟩,x_c_mm,x_c_st,x_c_pc⟩,x_c_bf,x_c_rb,x_c_en⟩,x_i,⟨x_e_pc,x_e_vl,x_e_ad,x_e_fr,x_e_nx,x_e_dn,x_e_kn,x_e_ft⟩,⟨x_s_k,x_s_o,x_s_d,⟨x_s_ag,x_s_an⟩,⟨x_s_bg,x_s_bn⟩,x_s_nm,x_s_tg⟩⟩:Spot).i (⟨e_pc,e_vl,e_ad,e_fr,e_nx,e_dn,e_kn,e_ft⟩:Ent)))) []):=
 Zk.deep (Z9r S dp (⟨⟨x_p_w,x_p_wn,x_p_fu,⟨x_p_r0,x_p_r1,x_p_r2,x_p_r3⟩,x_p_ms,x_p_ls,x_p_is⟩,⟨⟨⟨x_c_r0,x_c_r1,x_c_r2,x_c_r3⟩,x_c_mm,x_c_st,x_c_pc⟩,x_c_bf,x_c_rb,x_c_en⟩,x_i,⟨x_e_pc,x_e_vl,x_e_ad,x_e_fr,x_e_nx,x_e_dn,x_e_kn,x_e_ft⟩,⟨x_s_k,x_s_o,x_s_d,⟨x_s_ag,x_s_an⟩,⟨x_s_bg,x_s_bn⟩,x_s_nm,x_s_tg⟩⟩:Spot) (⟨e_pc,e_vl,e_ad,e_fr,e_nx,e_dn,e_kn,e_ft⟩:Ent) hm hs hl hr h0 h1) (np S 152 (by decide)) A nb
end
section
variable (S:Sur E fn)
include S
theorem Z10:E.lives 205 1=none/\E.lives 205 17=none/\E.lives 205 19=none/\E.lives 205 25=none/\E.lives 205 27=none:=⟨off S 205 1 (by decide) rfl,off S 205 17 (by decide) rfl,off S 205 19 (by decide) rfl,off S 205 25 (by decide) rfl,off S 205 27 (by decide) rfl⟩
theorem Zu3 {l:List Int}(h:l.length<1073741824)(call:cT)(A:List Blk)(nb:Nat)(us:List Nat):Zb true E call 86 A nb (some ([.lst (rC l) l.length none],us))=some (.made (Z3m nb l) (Z30 l)):=Z0f S h call A nb us
theorem Zcy (dp:Nat)(p:Prog)(l:List Ent)(hl:l.length<1073741824)(kx:Nat->K)
  (hx:∀ T out junk k,Z01 .bot T 10=.sref 1 0 0 (out:List Int).length 1 k->(out:List Int).length<1073741824->Zh (kx 0 (mk .bot 52 T) [.cells ((Yd p).map .d) 0 false,.cells ((rC (out++junk)).map .d) 0 false])=some (Zir (some out))):
  ∀(m k fuel:Nat) (out junk:List Int),k+m=l.length->m<=fuel->out.length<1073741824->Zh (Q2 (inn E 205) (evC E fn (dp+1)) (Zi 8 Q2 (inn E 205) (evC E fn (dp+1)) kx (Z0u 0 [.tmp 8,.tmp 9]) fuel) kx (Z0u 0 [.tmp 8,.tmp 9])
   (mk .bot 52 [(4,.ref 0 0 0),(10,.sref 1 0 0 out.length 1 none),(17,.d (rD l)),(18,aI l.length),(19,aI k)]) [.cells ((Yd p).map .d) 0 false,.cells ((rC (out++junk)).map .d) 0 false])=
   some (Zir (Md.realGo p (l.drop k) out)):=by
 intro m
 induction m with
 | zero=>
  intro k fuel out junk hk _ ho
  generalize Zi 8 Q2 _ _ kx _ fuel=KK
  rw[Q2,List.drop_of_length_le (by omega)]
  simp only[eG,go_sem,thq S,nbr S,zN0,zN1,zN2,zN3,zN4,zI0,zI1,zI2,zI3,reduceCtorEq,Z10 S,show ¬(k:Int)<l.length by omega,Md.realGo]
  exact hx _ _ _ none rfl ho
 | succ m ih=>
  intro k fuel out junk hk hf ho
  obtain⟨e,he⟩:=Yz (show k<l.length by omega)
  obtain⟨fuel,rfl⟩:∃ m,fuel=m+1:=⟨fuel-1,by omega⟩
  generalize hK:Zi 8 Q2 _ _ kx _ (fuel+1)=KK
  rw[Q2,Z02 he,Md.realGo]
  have h2:(k:Int)<l.length:=by omega
  by_cases k8:(Md.at_ p e.pc).kind=8
  ·by_cases h4 : 4 <= out.length
   ·simp only[eG,go_sem,thq S,nbr S,zN0,zN1,zN2,zN3,zN4,zI0,zI1,zI2,zI3,reduceCtorEq,Z10 S,Q4 he,Z8 S,wi k (by omega),h2,ge_iff_le,k8,h4,show(4:Int)<=out.length by omega,Zir]
   ·have l1 : (out.length + 1) * 8 <= Zf := by unfold Zf; omega
    have l2:out.length+1<=Zf:=by unfold Zf;omega
    cases junk with
    | nil=>
     simp only[List.append_nil]
     simp only[eG,go_sem,thq S,nbr S,zN0,zN1,zN2,zN3,zN4,zI0,zI1,zI2,zI3,reduceCtorEq,Z10 S,Q4 he,Z8 S,wi k (by omega),h2,ge_iff_le,k8,h4,show ¬(4:Int)<=out.length by omega,Zl,Qp,l1,l2]
     rw[<-hK,Z1 (on S _ _ [4,10,17,18,19] (by decide) rfl) rfl _ _ _ _ _ _ _ _ _ rfl]
     simp only[eG,go_sem,thq S,nbr S,zN0,zN1,zN2,zN3,zN4,zI0,zI1,zI2,zI3,reduceCtorEq,Z10 S,Q4 he,Z8 S,wi k (by omega),h2,ge_iff_le]
     have e1:out.length+1=(out++[Md.w64 (e.pc+1)]).length:=by simp
     have:=ih (k+1) fuel (out++[Md.w64 (e.pc+1)]) [] (by omega) (by omega) (by simp;omega)
     rw[<-e1,List.append_nil] at this
     exact this
    | cons y junk=>
     simp only[eG,go_sem,thq S,nbr S,zN0,zN1,zN2,zN3,zN4,zI0,zI1,zI2,zI3,reduceCtorEq,Z10 S,Q4 he,Z8 S,wi k (by omega),h2,ge_iff_le,k8,h4,show ¬(4:Int)<=out.length by omega,Zl,Zoe (y:=y) (junk:=junk),l1,l2]
     rw[<-hK,Z1 (on S _ _ [4,10,17,18,19] (by decide) rfl) rfl _ _ _ _ _ _ _ _ _ rfl]
     simp only[eG,go_sem,thq S,nbr S,zN0,zN1,zN2,zN3,zN4,zI0,zI1,zI2,zI3,reduceCtorEq,Z10 S,Q4 he,Z8 S,wi k (by omega),h2,ge_iff_le]
     have e1:out.length+1=(out++[Md.w64 (e.pc+1)]).length:=by simp
     have:=ih (k+1) fuel (out++[Md.w64 (e.pc+1)]) junk (by omega) (by omega) (by simp;omega)
     rw[<-e1,List.append_assoc] at this
     exact this
  ·by_cases k9 : (Md.at_ p e.pc).kind = 9
   ·cases hr : out.reverse with
    | nil=>
     have:out=[]:=List.reverse_eq_nil_iff.1 hr
     subst this
     simp only[eG,go_sem,thq S,nbr S,zN0,zN1,zN2,zN3,zN4,zI0,zI1,zI2,zI3,reduceCtorEq,Z10 S,Q4 he,Z8 S,wi k (by omega),h2,ge_iff_le,k8,k9,List.length_nil,Zir,zI0,Int.natCast_eq_zero]
    | cons y r=>
     have e0:out=r.reverse++[y]:=by rw[<-List.reverse_reverse out,hr,List.reverse_cons]
     subst e0
     have e1:(r.reverse++[y]).dropLast=r.reverse:=List.dropLast_concat
     have e2:(r.reverse++[y]).length=r.reverse.length+1:=by simp
     have w1:IntKind.i64.wrap (((r.reverse.length+1:Nat):Int)-1)=(r.reverse.length:Int):=by rw[e2] at ho;rw[Zt (by omega) (by omega)];omega
     have bd:=Z2w (r.reverse.length+1) .i64 (r.reverse.length:Int) (by omega) (by omega)
     rw[e2,e1]
     simp only[eG,go_sem,thq S,nbr S,zN0,zN1,zN2,zN3,zN4,zI0,zI1,zI2,zI3,reduceCtorEq,Z10 S,Q4 he,Z8 S,wi k (by omega),h2,ge_iff_le,k8,k9,w1,bd,Int.toNat_natCast,Nat.succ_ne_zero,Int.natCast_eq_zero,ne_eq,not_true_eq_false,and_false,Nat.zero_mul,Nat.sub_zero,Nat.add_zero,Nat.zero_add]
     rw[<-hK,Z1 (on S _ _ [4,10,17,18,19] (by decide) rfl) rfl _ _ _ _ _ _ _ _ _ rfl]
     simp only[eG,go_sem,thq S,nbr S,zN0,zN1,zN2,zN3,zN4,zI0,zI1,zI2,zI3,reduceCtorEq,Z10 S,Q4 he,Z8 S,wi k (by omega),h2,ge_iff_le]
     have:=ih (k+1) fuel r.reverse ([y]++junk) (by omega) (by omega) (by omega)
     rw[<-List.append_assoc] at this
     exact this
   ·simp only [eG, go_sem, thq S, nbr S, zN0, zN1, zN2, zN3, zN4, zI0, zI1, zI2, zI3, reduceCtorEq, Z10 S, Q4 he, Z8 S, wi k (by omega), h2, ge_iff_le, k8, k9]
    rw[<-hK,Z1 (on S _ _ [4,10,17,18,19] (by decide) rfl) rfl _ _ _ _ _ _ _ _ _ rfl]
    simp only[eG,go_sem,thq S,nbr S,zN0,zN1,zN2,zN3,zN4,zI0,zI1,zI2,zI3,reduceCtorEq,Z10 S,Q4 he,Z8 S,wi k (by omega),h2,ge_iff_le]
    exact ih (k+1) fuel out junk (by omega) (by omega) ho
theorem Zny (dp:Nat)(p:Prog)(l:List Ent)(hl:l.length<1073741824)(kx:Nat->K)
  (hx:∀ T out junk k,Z01 .bot T 10=.sref 1 0 0 (out:List Int).length 1 k->(out:List Int).length<1073741824->Zh (kx 0 (mk .bot 52 T) [.cells ((Yd p).map .d) 0 false,.cells ((rC (out++junk)).map .d) 0 false])=some (Zir (some out)))
  (hx0:∀ T,Z01 .bot T 10=.d (.lst [] 0 (some 0))->Zh (kx 0 (mk .bot 52 T) [.cells ((Yd p).map .d) 0 false])=some (Zir (some []))):
  ∀(m k fuel:Nat),k+m=l.length->m<=fuel->Zh (Q2 (inn E 205) (evC E fn (dp+1)) (Zi 8 Q2 (inn E 205) (evC E fn (dp+1)) kx (Z0u 0 [.tmp 8,.tmp 9]) fuel) kx (Z0u 0 [.tmp 8,.tmp 9])
   (mk .bot 52 [(4,.ref 0 0 0),(10,.d (.lst [] 0 (some 0))),(17,.d (rD l)),(18,aI l.length),(19,aI k)]) [.cells ((Yd p).map .d) 0 false])=
   some (Zir (Md.realGo p (l.drop k) [])):=by
 intro m
 induction m with
 | zero=>
  intro k fuel hk _
  generalize Zi 8 Q2 _ _ kx _ fuel=KK
  rw[Q2,List.drop_of_length_le (by omega)]
  simp only[eG,go_sem,thq S,nbr S,zN0,zN1,zN2,zN3,zN4,zI0,zI1,zI2,zI3,reduceCtorEq,Z10 S,show ¬(k:Int)<l.length by omega,Md.realGo]
  exact hx0 _ rfl
 | succ m ih=>
  intro k fuel hk hf
  obtain⟨e,he⟩:=Yz (show k<l.length by omega)
  obtain⟨fuel,rfl⟩:∃ m,fuel=m+1:=⟨fuel-1,by omega⟩
  generalize hK:Zi 8 Q2 _ _ kx _ (fuel+1)=KK
  rw[Q2,Z02 he,Md.realGo]
  have h2:(k:Int)<l.length:=by omega
  by_cases k8:(Md.at_ p e.pc).kind=8
  ·simp only [eG, go_sem, thq S, nbr S, zN0, zN1, zN2, zN3, zN4, zI0, zI1, zI2, zI3, reduceCtorEq, Z10 S, Q4 he, Z8 S, wi k (by omega), h2, ge_iff_le, k8, List.length_nil, show ¬ (4 : Int) <= (0 : Nat) by omega, Zl, Nat.zero_add, Nat.zero_mul, Nat.lt_add_one, true_and, show (1 : Nat) * 8 <= Zf by decide, show (1 : Nat) <= Zf by decide, and_self]
   rw[<-hK,Z1 (on S _ _ [4,10,17,18,19] (by decide) rfl) rfl _ _ _ _ _ _ _ _ _ rfl]
   simp only[eG,go_sem,thq S,nbr S,zN0,zN1,zN2,zN3,zN4,zI0,zI1,zI2,zI3,reduceCtorEq,Z10 S,Q4 he,Z8 S,wi k (by omega),h2,ge_iff_le]
   exact Zcy S dp p l hl kx hx m (k+1) fuel [Md.w64 (e.pc+1)] [] (by omega) (by omega) (by simp)
  ·by_cases k9 : (Md.at_ p e.pc).kind = 9
   ·simp only[eG,go_sem,thq S,nbr S,zN0,zN1,zN2,zN3,zN4,zI0,zI1,zI2,zI3,reduceCtorEq,Z10 S,Q4 he,Z8 S,wi k (by omega),h2,ge_iff_le,k8,k9,List.length_nil,Zir,zI0,Int.natCast_eq_zero]
   ·simp only [eG, go_sem, thq S, nbr S, zN0, zN1, zN2, zN3, zN4, zI0, zI1, zI2, zI3, reduceCtorEq, Z10 S, Q4 he, Z8 S, wi k (by omega), h2, ge_iff_le, k8, k9]
    rw[<-hK,Z1 (on S _ _ [4,10,17,18,19] (by decide) rfl) rfl _ _ _ _ _ _ _ _ _ rfl]
    simp only[eG,go_sem,thq S,nbr S,zN0,zN1,zN2,zN3,zN4,zI0,zI1,zI2,zI3,reduceCtorEq,Z10 S,Q4 he,Z8 S,wi k (by omega),h2,ge_iff_le]
    exact ih (k+1) fuel (by omega) (by omega)
end
theorem Zwq {i:Nat}{out:List Int}{k:Option Nat}{A:List Blk}{b:Bool}(hA:A[i]? =some (.cells ((rC out).map .d) 0 false)):
  Zh (Zl7 0 (some (.tup [.sref i 0 0 out.length 1 k,Q7 b],A)))=some (.tup [rD out,vb b]):=Zof (junk:=[]) (by rw[List.append_nil];exact hA)
variable {E:Env} {fn:FuncId->Option (Env->cT->cT)}
section
variable (S:Sur E fn)
include S
theorem Z7z:E.lives 205 1=none/\E.lives 205 17=none/\E.lives 205 19=none/\E.lives 205 25=none/\E.lives 205 27=none:=⟨off S 205 1 (by decide) rfl,off S 205 17 (by decide) rfl,off S 205 19 (by decide) rfl,off S 205 25 (by decide) rfl,off S 205 27 (by decide) rfl⟩
theorem Zsx:E.lives 148 13=none:=off S 148 13 (by decide) rfl
theorem Zno:E.lives 150 11=none:=off S 150 11 (by decide) rfl
theorem Zii (call:cT)(A:List Blk)(nb:Nat)(us:List Nat):Zb true E call 86 A nb (some ([.lst [] 0 none],us))=some (.made (.d (.lst [] 0 (some 0))) []):=Z0f S (l:=[]) (by decide) call A nb us
theorem Zhg (dp:Nat)(p:Prog)(sk:List Int)(l:List Ent)(i:Int)(hl:l.length<1073741824)(hs:sk.length<1073741824):Zk E fn (dp+3) 205 [Zn p,rD sk,rD l,vi i] (.tup [rD (Zd4 (Md.real p sk l i)),vb (Z88 (Md.real p sk l i))]):=by
 unfold Zk
 show Zh (evC E fn (dp+2+1) 205 [.d (Zn p),.d (rD sk),.d (rD l),.d (vi i)] [])=_
 rw[Z2,S.Zdc,Z3,Ze6,Z6 _ _ _ _ _ _ _ _ rfl]
 have hcl:=Z4d l i
 have fin:∀ X:Option (List Int),DV.tup [rD (Zd4 X),vb (Z88 X)]=Zir X:=fun X=>by cases X<;>rfl
 rw[fin]
 have h0x:∀ T,Z01 .bot T 10=.d (.lst [] 0 (some 0))->Zh (Z6k 0 (cQ (cOz [st 50 (oV (.t 10)),st 51 (oK (.f 86) [(.t 50)]),st 8 (oV (.t 51)),st 9 (oV (.c (.v (.bool true))))]) cZ (inn E 205) (evC E fn (dp+2)) (Z0u 0 [.tmp 8,.tmp 9]) (fun _ _ _=>none) (Z0u 0 [.tmp 8,.tmp 9])) (fun _ _ _=>none) 0 (mk .bot 52 T) [.cells ((Yd p).map .d) 0 false])=some (Zir (some [])):=by
  intro T h
  simp only[eG,go_sem,thq S,nbr S,zN0,zN1,zN2,zN3,zN4,zI0,zI1,zI2,zI3,reduceCtorEq,Z7z S,h,Zii S,Zir]
 have hx:∀ T out junk k,Z01 .bot T 10=.sref 1 0 0 (out:List Int).length 1 k->(out:List Int).length<1073741824->Zh (Z6k 0 (cQ (cOz [st 50 (oV (.t 10)),st 51 (oK (.f 86) [(.t 50)]),st 8 (oV (.t 51)),st 9 (oV (.c (.v (.bool true))))]) cZ (inn E 205) (evC E fn (dp+2)) (Z0u 0 [.tmp 8,.tmp 9]) (fun _ _ _=>none) (Z0u 0 [.tmp 8,.tmp 9])) (fun _ _ _=>none) 0 (mk .bot 52 T) [.cells ((Yd p).map .d) 0 false,.cells ((rC (out++junk)).map .d) 0 false])=some (Zir (some out)):=by
  intro T out junk k h ho
  by_cases hz:out.length=0
  ·have : out = [] := List.length_eq_zero_iff.1 hz
   subst this
   simp only[eG,go_sem,thq S,nbr S,zN0,zN1,zN2,zN3,zN4,zI0,zI1,zI2,zI3,reduceCtorEq,Z7z S,h,Zii S,Zir]
  ·have hne : out ≠ [] := fun h => hz (by rw [h]; rfl)
   have hd:=Zl9 (i:=1) (A:=[.cells ((Yd p).map .d) 0 false,.cells ((rC (out++junk)).map .d) 0 false]) hne rfl 6 1 k rfl
   simp only[Yd,List.map_cons,List.map_nil] at hd
   simp only[go_sem,thq S,nbr S,zN0,zN1,zN2,zN3,zN4,zI0,zI1,zI2,zI3,reduceCtorEq,Z7z S,h,hd,Zu3 S ho,Za hz,Z9 hz]
   exact Zwq rfl
 by_cases h0:sk.length=0
 ·have : sk = [] := List.length_eq_zero_iff.1 h0
  subst this
  simp only[eG,go_sem,thq S,nbr S,zN0,zN1,zN2,zN3,zN4,zI0,zI1,zI2,zI3,reduceCtorEq,Z7z S,Zii S,Z2n S,hl]
  rw[Y2,Z1 (on S _ _ [4,10,17,18,19] (by decide) rfl) rfl _ _ _ _ _ _ _ _ _ rfl]
  simp only[eG,go_sem,thq S,nbr S,zN0,zN1,zN2,zN3,zN4,zI0,zI1,zI2,zI3,reduceCtorEq,Z7z S]
  exact Zny S (dp+1) p (Md.cut l i) (by omega) _ hx h0x (Md.cut l i).length 0 _ (by omega) (by omega)
 ·simp only [eG, go_sem, thq S, nbr S, zN0, zN1, zN2, zN3, zN4, zI0, zI1, zI2, zI3, reduceCtorEq, Z7z S, Z0f S hs, Za h0, Z9 h0, Z2n S, hl]
  rw[Y2,Z1 (on S _ _ [4,10,17,18,19] (by decide) rfl) rfl _ _ _ _ _ _ _ _ _ rfl]
  simp only[eG,go_sem,thq S,nbr S,zN0,zN1,zN2,zN3,zN4,zI0,zI1,zI2,zI3,reduceCtorEq,Z7z S]
  have:=Zcy S (dp+1) p (Md.cut l i) (by omega) _ hx (Md.cut l i).length 0 999999999999999999999999999999 sk [] (by omega) (by omega) hs
  rw[List.append_nil] at this
  exact this
theorem Z3t (dp:Nat)(p_w p_wn p_fu p_r0 p_r1 p_r2 p_r3:Int)(p_ms:List MemT)(p_ls:List Label)(p_is:List Ins)(sk:List Int)(l:List Ent)(i:Int)(hl:l.length<1073741824)(hs:sk.length<1073741824)(A:List Blk)(nb:Nat):Zb false E (evC E fn (dp+3)) 205 A nb (some ([.agg [vi p_w,vi p_wn,vi p_fu,vi p_r0,vi p_r1,vi p_r2,vi p_r3,rD p_ms,rD p_ls,rD p_is],rD sk,rD l,vi i],[]))=some (.made (.d (.tup [rD (Zd4 (Md.real (⟨p_w,p_wn,p_fu,⟨p_r0,p_r1,p_r2,p_r3⟩,p_ms,p_ls,p_is⟩:Prog) sk l i)),vb (Z88 (Md.real (⟨p_w,p_wn,p_fu,⟨p_r0,p_r1,p_r2,p_r3⟩,p_ms,p_ls,p_is⟩:Prog) sk l i))])) []):=
 Zk.deep (Zhg S dp (⟨p_w,p_wn,p_fu,⟨p_r0,p_r1,p_r2,p_r3⟩,p_ms,p_ls,p_is⟩:Prog) sk l i hl hs) (np S 205 (by decide)) A nb
theorem Z8l (dp:Nat)(x:Spot)(to:Int)(hm:x.c.state.mem.length<1073741824)(hs:x.c.state.stack.length<1073741824)(hl:x.c.buf.length<1073741824)(hr:x.c.rsb.length<1073741824)(h0:0<=x.i)(h1:x.i<x.c.buf.length):Zk E fn (dp+4) 148 [Z4x x,vi to] (.tup [Zv (Md.goesM x.c x.i x.e to).1,rD (Md.goesM x.c x.i x.e to).2,vb true]):=by
 unfold Zk
 show Zh (evC E fn (dp+3+1) 148 [.d (Z4x x),.d (vi to)] [])=_
 rw[Z2,S.Z5j,Z3,Z5r,Z6 _ _ _ _ _ _ _ _ rfl]
 have w1:IntKind.i64.wrap (x.i+1)=x.i+1:=Zt (by omega) (by omega)
 have t1:(x.i+1).toNat=x.i.toNat+1:=by omega
 by_cases he:to=x.e.next
 ·simp only [eG, go_sem, thq S, nbr S, zN0, zN1, zN2, zN3, zN4, zI0, zI1, zI2, zI3, reduceCtorEq, Zsx S, eq_true he, Bool.not_true, Qb S, hm, hs, hl, hr, h0, h1, Zl, Zo, Nat.succ_ne_zero, Nat.one_ne_zero, Nat.one_mul, Nat.le_refl, Md.goesM, eq_true he.symm, Md.put]
  rfl
 ·have he' : ¬ x.e.next = to := fun h => he h.symm
  simp only[eG,go_sem,thq S,nbr S,zN0,zN1,zN2,zN3,zN4,zI0,zI1,zI2,zI3,reduceCtorEq,Zsx S,eq_false he,Bool.not_false,Qb S,hm,hs,hl,hr,h0,h1,Zl,Zo,Nat.succ_ne_zero,Nat.one_ne_zero,Nat.one_mul,Nat.le_refl,Md.goesM,eq_false he',Md.put,Z2n S,List.length_set,w1,Md.cut,t1]
  rfl
theorem Z1k (dp:Nat)(x_p_w x_p_wn x_p_fu x_p_r0 x_p_r1 x_p_r2 x_p_r3:Int)(x_p_ms:List MemT)(x_p_ls:List Label)(x_p_is:List Ins)(x_c_r0 x_c_r1 x_c_r2 x_c_r3:Int)(x_c_mm x_c_st:List Int)(x_c_pc:Int)(x_c_bf:List Ent)(x_c_rb:List Int)(x_c_en x_i x_e_pc x_e_vl x_e_ad x_e_fr x_e_nx:Int)(x_e_dn x_e_kn x_e_ft:Bool)(x_s_k x_s_o x_s_d:Int)(x_s_ag:Bool)(x_s_an:Int)(x_s_bg:Bool)(x_s_bn:Int)(x_s_nm:ByteArray)(x_s_tg to:Int)(hm:(⟨⟨x_p_w,x_p_wn,x_p_fu,⟨x_p_r0,x_p_r1,x_p_r2,x_p_r3⟩,x_p_ms,x_p_ls,x_p_is⟩,⟨⟨⟨x_c_r0,x_c_r1,x_c_r2,x_c_r3⟩,x_c_mm,x_c_st,x_c_pc⟩,x_c_bf,x_c_rb,x_c_en⟩,x_i,⟨x_e_pc,x_e_vl,x_e_ad,x_e_fr,x_e_nx,x_e_dn,x_e_kn,x_e_ft⟩,⟨x_s_k,x_s_o,x_s_d,⟨x_s_ag,x_s_an⟩,⟨x_s_bg,x_s_bn⟩,x_s_nm,x_s_tg⟩⟩:Spot).c.state.mem.length<1073741824)(hs:(⟨⟨x_p_w,x_p_wn,x_p_fu,⟨x_p_r0,x_p_r1,x_p_r2,x_p_r3⟩,x_p_ms,x_p_ls,x_p_is⟩,⟨⟨⟨x_c_r0,x_c_r1,x_c_r2,x_c_r3⟩,x_c_mm,x_c_st,x_c_pc⟩,x_c_bf,x_c_rb,x_c_en⟩,x_i,⟨x_e_pc,x_e_vl,x_e_ad,x_e_fr,x_e_nx,x_e_dn,x_e_kn,x_e_ft⟩,⟨x_s_k,x_s_o,x_s_d,⟨x_s_ag,x_s_an⟩,⟨x_s_bg,x_s_bn⟩,x_s_nm,x_s_tg⟩⟩:Spot).c.state.stack.length<1073741824)(hl:(⟨⟨x_p_w,x_p_wn,x_p_fu,⟨x_p_r0,x_p_r1,x_p_r2,x_p_r3⟩,x_p_ms,x_p_ls,x_p_is⟩,⟨⟨⟨x_c_r0,x_c_r1,x_c_r2,x_c_r3⟩,x_c_mm,x_c_st,x_c_pc⟩,x_c_bf,x_c_rb,x_c_en⟩,x_i,⟨x_e_pc,x_e_vl,x_e_ad,x_e_fr,x_e_nx,x_e_dn,x_e_kn,x_e_ft⟩,⟨x_s_k,x_s_o,x_s_d,⟨x_s_ag,x_s_an⟩,⟨x_s_bg,x_s_bn⟩,x_s_nm,x_s_tg⟩⟩:Spot).c.buf.length<1073741824)(hr:(⟨⟨x_p_w,x_p_wn,x_p_fu,⟨x_p_r0,x_p_r1,x_p_r2,x_p_r3⟩,x_p_ms,x_p_ls,x_p_is⟩,⟨⟨⟨x_c_r0,x_c_r1,x_c_r2,x_c_r3⟩,x_c_mm,x_c_st,x_c_pc⟩,x_c_bf,x_c_rb,x_c_en⟩,x_i,⟨x_e_pc,x_e_vl,x_e_ad,x_e_fr,x_e_nx,x_e_dn,x_e_kn,x_e_ft⟩,⟨x_s_k,x_s_o,x_s_d,⟨x_s_ag,x_s_an⟩,⟨x_s_bg,x_s_bn⟩,x_s_nm,x_s_tg⟩⟩:Spot).c.rsb.length<1073741824)(h0:0<=(⟨⟨x_p_w,x_p_wn,x_p_fu,⟨x_p_r0,x_p_r1,x_p_r2,x_p_r3⟩,x_p_ms,x_p_ls,x_p_is⟩,⟨⟨⟨x_c_r0,x_c_r1,x_c_r2,x_c_r3⟩,x_c_mm,x_c_st,x_c_pc⟩,x_c_bf,x_c_rb,x_c_en⟩,x_i,⟨x_e_pc,x_e_vl,x_e_ad,x_e_fr,x_e_nx,x_e_dn,x_e_kn,x_e_ft⟩,⟨x_s_k,x_s_o,x_s_d,⟨x_s_ag,x_s_an⟩,⟨x_s_bg,x_s_bn⟩,x_s_nm,x_s_tg⟩⟩:Spot).i)(h1:(⟨⟨x_p_w,x_p_wn,x_p_fu,⟨x_p_r0,x_p_r1,x_p_r2,x_p_r3⟩,x_p_ms,x_p_ls,x_p_is⟩,⟨⟨⟨x_c_r0,x_c_r1,x_c_r2,x_c_r3⟩,x_c_mm,x_c_st,x_c_pc⟩,x_c_bf,x_c_rb,x_c_en⟩,x_i,⟨x_e_pc,x_e_vl,x_e_ad,x_e_fr,x_e_nx,x_e_dn,x_e_kn,x_e_ft⟩,⟨x_s_k,x_s_o,x_s_d,⟨x_s_ag,x_s_an⟩,⟨x_s_bg,x_s_bn⟩,x_s_nm,x_s_tg⟩⟩:Spot).i<(⟨⟨x_p_w,x_p_wn,x_p_fu,⟨x_p_r0,x_p_r1,x_p_r2,x_p_r3⟩,x_p_ms,x_p_ls,x_p_is⟩,⟨⟨⟨x_c_r0,x_c_r1,x_c_r2,x_c_r3⟩,x_c_mm,x_c_st,x_c_pc⟩,x_c_bf,x_c_rb,x_c_en⟩,x_i,⟨x_e_pc,x_e_vl,x_e_ad,x_e_fr,x_e_nx,x_e_dn,x_e_kn,x_e_ft⟩,⟨x_s_k,x_s_o,x_s_d,⟨x_s_ag,x_s_an⟩,⟨x_s_bg,x_s_bn⟩,x_s_nm,x_s_tg⟩⟩:Spot).c.buf.length)(A:List Blk)(nb:Nat):Zb false E (evC E fn (dp+4)) 148 A nb (some ([.agg [vi x_p_w,vi x_p_wn,vi x_p_fu,vi x_p_r0,vi x_p_r1,vi x_p_r2,vi x_p_r3,rD x_p_ms,rD x_p_ls,rD x_p_is,vi x_c_r0,vi x_c_r1,vi x_c_r2,vi x_c_r3,rD x_c_mm,rD x_c_st,vi x_c_pc,rD x_c_bf,rD x_c_rb,vi x_c_en,vi x_i,vi x_e_pc,vi x_e_vl,vi x_e_ad,vi x_e_fr,vi x_e_nx,vb x_e_dn,vb x_e_kn,vb x_e_ft,vi x_s_k,vi x_s_o,vi x_s_d,vb x_s_ag,vi x_s_an,vb x_s_bg,vi x_s_bn,vt x_s_nm,vi x_s_tg],vi to],[]))=some (.made (.d (.tup [Zv (Md.goesM (⟨⟨x_p_w,x_p_wn,x_p_fu,⟨x_p_r0,x_p_r1,x_p_r2,x_p_r3⟩,x_p_ms,x_p_ls,x_p_is⟩,⟨⟨⟨x_c_r0,x_c_r1,x_c_r2,x_c_r3⟩,x_c_mm,x_c_st,x_c_pc⟩,x_c_bf,x_c_rb,x_c_en⟩,x_i,⟨x_e_pc,x_e_vl,x_e_ad,x_e_fr,x_e_nx,x_e_dn,x_e_kn,x_e_ft⟩,⟨x_s_k,x_s_o,x_s_d,⟨x_s_ag,x_s_an⟩,⟨x_s_bg,x_s_bn⟩,x_s_nm,x_s_tg⟩⟩:Spot).c (⟨⟨x_p_w,x_p_wn,x_p_fu,⟨x_p_r0,x_p_r1,x_p_r2,x_p_r3⟩,x_p_ms,x_p_ls,x_p_is⟩,⟨⟨⟨x_c_r0,x_c_r1,x_c_r2,x_c_r3⟩,x_c_mm,x_c_st,x_c_pc⟩,x_c_bf,x_c_rb,x_c_en⟩,x_i,⟨x_e_pc,x_e_vl,x_e_ad,x_e_fr,x_e_nx,x_e_dn,x_e_kn,x_e_ft⟩,⟨x_s_k,x_s_o,x_s_d,⟨x_s_ag,x_s_an⟩,⟨x_s_bg,x_s_bn⟩,x_s_nm,x_s_tg⟩⟩:Spot).i (⟨⟨x_p_w,x_p_wn,x_p_fu,⟨x_p_r0,x_p_r1,x_p_r2,x_p_r3⟩,x_p_ms,x_p_ls,x_p_is⟩,⟨⟨⟨x_c_r0,x_c_r1,x_c_r2,x_c_r3⟩,x_c_mm,x_c_st,x_c_pc⟩,x_c_bf,x_c_rb,x_c_en⟩,x_i,⟨x_e_pc,x_e_vl,x_e_ad,x_e_fr,x_e_nx,x_e_dn,x_e_kn,x_e_ft⟩,⟨x_s_k,x_s_o,x_s_d,⟨x_s_ag,x_s_an⟩,⟨x_s_bg,x_s_bn⟩,x_s_nm,x_s_tg⟩⟩:Spot).e to).1,rD (Md.goesM (⟨⟨x_p_w,x_p_wn,x_p_fu,⟨x_p_r0,x_p_r1,x_p_r2,x_p_r3⟩,x_p_ms,x_p_ls,x_p_is⟩,⟨⟨⟨x_c_r0,x_c_r1,x_c_r2,x_c_r3⟩,x_c_mm,x_c_st,x_c_pc⟩,x_c_bf,x_c_rb,x_c_en⟩,x_i,⟨x_e_pc,x_e_vl,x_e_ad,x_e_fr,x_e_nx,x_e_dn,x_e_kn,x_e_ft⟩,⟨x_s_k,x_s_o,x_s_d,⟨x_s_ag,x_s_an⟩,⟨x_s_bg,x_s_bn⟩,x_s_nm,x_s_tg⟩⟩:Spot).c (⟨⟨x_p_w,x_p_wn,x_p_fu,⟨x_p_r0,x_p_r1,x_p_r2,x_p_r3⟩,x_p_ms,x_p_ls,x_p_is⟩,⟨⟨⟨x_c_r0,x_c_r1,x_c_r2,x_c_r3⟩,x_c_mm,x_c_st,x_c_pc⟩,x_c_bf,x_c_rb,x_c_en⟩,x_i,⟨x_e_pc,x_e_vl,x_e_ad,x_e_fr,x_e_nx,x_e_dn,x_e_kn,x_e_ft⟩,⟨x_s_k,x_s_o,x_s_d,⟨x_s_ag,x_s_an⟩,⟨x_s_bg,x_s_bn⟩,x_s_nm,x_s_tg⟩⟩:Spot).i (⟨⟨x_p_w,x_p_wn,x_p_fu,⟨x_p_r0,x_p_r1,x_p_r2,x_p_r3⟩,x_p_ms,x_p_ls,x_p_is⟩,⟨⟨⟨x_c_r0,x_c_r1,x_c_r2,x_c_r3⟩,x_c_mm,x_c_st,x_c_pc⟩,x_c_bf,x_c_rb,x_c_en⟩,x_i,⟨x_e_pc,x_e_vl,x_e_ad,x_e_fr,x_e_nx,x_e_dn,x_e_kn,x_e_ft⟩,⟨x_s_k,x_s_o,x_s_d,⟨x_s_ag,x_s_an⟩,⟨x_s_bg,x_s_bn⟩,x_s_nm,x_s_tg⟩⟩:Spot).e to).2,vb true])) []):=
 Zk.deep (Z8l S dp (⟨⟨x_p_w,x_p_wn,x_p_fu,⟨x_p_r0,x_p_r1,x_p_r2,x_p_r3⟩,x_p_ms,x_p_ls,x_p_is⟩,⟨⟨⟨x_c_r0,x_c_r1,x_c_r2,x_c_r3⟩,x_c_mm,x_c_st,x_c_pc⟩,x_c_bf,x_c_rb,x_c_en⟩,x_i,⟨x_e_pc,x_e_vl,x_e_ad,x_e_fr,x_e_nx,x_e_dn,x_e_kn,x_e_ft⟩,⟨x_s_k,x_s_o,x_s_d,⟨x_s_ag,x_s_an⟩,⟨x_s_bg,x_s_bn⟩,x_s_nm,x_s_tg⟩⟩:Spot) to hm hs hl hr h0 h1) (np S 148 (by decide)) A nb
theorem Z8m (dp:Nat)(x:Spot)(hm:x.c.state.mem.length<1073741824)(hs:x.c.state.stack.length<1073741824)(hl:x.c.buf.length<1073741824)(hr:x.c.rsb.length<1073741824)(h0:0<=x.i)(h1:x.i<x.c.buf.length)(hg:(Zd4 (Md.real x.p x.c.state.stack x.c.buf x.i)).length<1073741824):Zk E fn (dp+5) 150 [Z4x x] (.tup [Zv (Md.doK (Z5 x.p.mems) x.p x.c x.i x.e ⟨9,0,0,⟨false,0⟩,⟨false,0⟩,⟨#[]⟩,0⟩ 0 0 0).1,rD (Md.doK (Z5 x.p.mems) x.p x.c x.i x.e ⟨9,0,0,⟨false,0⟩,⟨false,0⟩,⟨#[]⟩,0⟩ 0 0 0).2,vb true]):=by
 unfold Zk
 show Zh (evC E fn (dp+4+1) 150 [.d (Z4x x)] [])=_
 rw[Z2,S.Z5k,Z3,Z5s,Z6 _ _ _ _ _ _ _ _ rfl]
 cases hreal:Md.real x.p x.c.state.stack x.c.buf x.i with
 | none=>simp only[eG,go_sem,thq S,nbr S,zN0,zN1,zN2,zN3,zN4,zI0,zI1,zI2,zI3,reduceCtorEq,Zno S,Z3t S,Z3i S,Qb S,Z1k S,hm,hs,hl,hr,h0,h1,Md.doK,zI0,if_true,if_false,hreal,show Z88 (none:Option (List Int))=false from rfl,Bool.not_false,Bool.not_true,show(Zd4 none).length=0 from rfl,show(0:Nat)<1073741824 by decide]
 | some r=>
  rw[hreal] at hg
  have hg':r.length<1073741824:=hg
  by_cases hz:r.length=0
  ·simp only[eG,go_sem,thq S,nbr S,zN0,zN1,zN2,zN3,zN4,zI0,zI1,zI2,zI3,reduceCtorEq,Zno S,Z3t S,Z3i S,Qb S,Z1k S,hm,hs,hl,hr,h0,h1,Md.doK,zI0,if_true,if_false,hreal,Zd4,Z88,Bool.not_false,Bool.not_true,hg',ne_eq,eq_true hz,not_true_eq_false]
  ·simp only[eG,go_sem,thq S,nbr S,zN0,zN1,zN2,zN3,zN4,zI0,zI1,zI2,zI3,reduceCtorEq,Zno S,Z3t S,Z3i S,Qb S,Z1k S,hm,hs,hl,hr,h0,h1,Md.doK,zI0,if_true,if_false,hreal,Zd4,Z88,Bool.not_false,Bool.not_true,hg',ne_eq,eq_false hz,not_false_eq_true]
theorem Zbm (dp:Nat)(x_p_w x_p_wn x_p_fu x_p_r0 x_p_r1 x_p_r2 x_p_r3:Int)(x_p_ms:List MemT)(x_p_ls:List Label)(x_p_is:List Ins)(x_c_r0 x_c_r1 x_c_r2 x_c_r3:Int)(x_c_mm x_c_st:List Int)(x_c_pc:Int)(x_c_bf:List Ent)(x_c_rb:List Int)(x_c_en x_i x_e_pc x_e_vl x_e_ad x_e_fr x_e_nx:Int)(x_e_dn x_e_kn x_e_ft:Bool)(x_s_k x_s_o x_s_d:Int)(x_s_ag:Bool)(x_s_an:Int)(x_s_bg:Bool)(x_s_bn:Int)(x_s_nm:ByteArray)(x_s_tg:Int)(hm:(⟨⟨x_p_w,x_p_wn,x_p_fu,⟨x_p_r0,x_p_r1,x_p_r2,x_p_r3⟩,x_p_ms,x_p_ls,x_p_is⟩,⟨⟨⟨x_c_r0,x_c_r1,x_c_r2,x_c_r3⟩,x_c_mm,x_c_st,x_c_pc⟩,x_c_bf,x_c_rb,x_c_en⟩,x_i,⟨x_e_pc,x_e_vl,x_e_ad,x_e_fr,x_e_nx,x_e_dn,x_e_kn,x_e_ft⟩,⟨x_s_k,x_s_o,x_s_d,⟨x_s_ag,x_s_an⟩,⟨x_s_bg,x_s_bn⟩,x_s_nm,x_s_tg⟩⟩:Spot).c.state.mem.length<1073741824)(hs:(⟨⟨x_p_w,x_p_wn,x_p_fu,⟨x_p_r0,x_p_r1,x_p_r2,x_p_r3⟩,x_p_ms,x_p_ls,x_p_is⟩,⟨⟨⟨x_c_r0,x_c_r1,x_c_r2,x_c_r3⟩,x_c_mm,x_c_st,x_c_pc⟩,x_c_bf,x_c_rb,x_c_en⟩,x_i,⟨x_e_pc,x_e_vl,x_e_ad,x_e_fr,x_e_nx,x_e_dn,x_e_kn,x_e_ft⟩,⟨x_s_k,x_s_o,x_s_d,⟨x_s_ag,x_s_an⟩,⟨x_s_bg,x_s_bn⟩,x_s_nm,x_s_tg⟩⟩:Spot).c.state.stack.length<1073741824)(hl:(⟨⟨x_p_w,x_p_wn,x_p_fu,⟨x_p_r0,x_p_r1,x_p_r2,x_p_r3⟩,x_p_ms,x_p_ls,x_p_is⟩,⟨⟨⟨x_c_r0,x_c_r1,x_c_r2,x_c_r3⟩,x_c_mm,x_c_st,x_c_pc⟩,x_c_bf,x_c_rb,x_c_en⟩,x_i,⟨x_e_pc,x_e_vl,x_e_ad,x_e_fr,x_e_nx,x_e_dn,x_e_kn,x_e_ft⟩,⟨x_s_k,x_s_o,x_s_d,⟨x_s_ag,x_s_an⟩,⟨x_s_bg,x_s_bn⟩,x_s_nm,x_s_tg⟩⟩:Spot).c.buf.length<1073741824)(hr:(⟨⟨x_p_w,x_p_wn,x_p_fu,⟨x_p_r0,x_p_r1,x_p_r2,x_p_r3⟩,x_p_ms,x_p_ls,x_p_is⟩,⟨⟨⟨x_c_r0,x_c_r1,x_c_r2,x_c_r3⟩,x_c_mm,x_c_st,x_c_pc⟩,x_c_bf,x_c_rb,x_c_en⟩,x_i,⟨x_e_pc,x_e_vl,x_e_ad,x_e_fr,x_e_nx,x_e_dn,x_e_kn,x_e_ft⟩,⟨x_s_k,x_s_o,x_s_d,⟨x_s_ag,x_s_an⟩,⟨x_s_bg,x_s_bn⟩,x_s_nm,x_s_tg⟩⟩:Spot).c.rsb.length<1073741824)(h0:0<=(⟨⟨x_p_w,x_p_wn,x_p_fu,⟨x_p_r0,x_p_r1,x_p_r2,x_p_r3⟩,x_p_ms,x_p_ls,x_p_is⟩,⟨⟨⟨x_c_r0,x_c_r1,x_c_r2,x_c_r3⟩,x_c_mm,x_c_st,x_c_pc⟩,x_c_bf,x_c_rb,x_c_en⟩,x_i,⟨x_e_pc,x_e_vl,x_e_ad,x_e_fr,x_e_nx,x_e_dn,x_e_kn,x_e_ft⟩,⟨x_s_k,x_s_o,x_s_d,⟨x_s_ag,x_s_an⟩,⟨x_s_bg,x_s_bn⟩,x_s_nm,x_s_tg⟩⟩:Spot).i)(h1:(⟨⟨x_p_w,x_p_wn,x_p_fu,⟨x_p_r0,x_p_r1,x_p_r2,x_p_r3⟩,x_p_ms,x_p_ls,x_p_is⟩,⟨⟨⟨x_c_r0,x_c_r1,x_c_r2,x_c_r3⟩,x_c_mm,x_c_st,x_c_pc⟩,x_c_bf,x_c_rb,x_c_en⟩,x_i,⟨x_e_pc,x_e_vl,x_e_ad,x_e_fr,x_e_nx,x_e_dn,x_e_kn,x_e_ft⟩,⟨x_s_k,x_s_o,x_s_d,⟨x_s_ag,x_s_an⟩,⟨x_s_bg,x_s_bn⟩,x_s_nm,x_s_tg⟩⟩:Spot).i<(⟨⟨x_p_w,x_p_wn,x_p_fu,⟨x_p_r0,x_p_r1,x_p_r2,x_p_r3⟩,x_p_ms,x_p_ls,x_p_is⟩,⟨⟨⟨x_c_r0,x_c_r1,x_c_r2,x_c_r3⟩,x_c_mm,x_c_st,x_c_pc⟩,x_c_bf,x_c_rb,x_c_en⟩,x_i,⟨x_e_pc,x_e_vl,x_e_ad,x_e_fr,x_e_nx,x_e_dn,x_e_kn,x_e_ft⟩,⟨x_s_k,x_s_o,x_s_d,⟨x_s_ag,x_s_an⟩,⟨x_s_bg,x_s_bn⟩,x_s_nm,x_s_tg⟩⟩:Spot).c.buf.length)(hg:(Zd4 (Md.real (⟨⟨x_p_w,x_p_wn,x_p_fu,⟨x_p_r0,x_p_r1,x_p_r2,x_p_r3⟩,x_p_ms,x_p_ls,x_p_is⟩,⟨⟨⟨x_c_r0,x_c_r1,x_c_r2,x_c_r3⟩,x_c_mm,x_c_st,x_c_pc⟩,x_c_bf,x_c_rb,x_c_en⟩,x_i,⟨x_e_pc,x_e_vl,x_e_ad,x_e_fr,x_e_nx,x_e_dn,x_e_kn,x_e_ft⟩,⟨x_s_k,x_s_o,x_s_d,⟨x_s_ag,x_s_an⟩,⟨x_s_bg,x_s_bn⟩,x_s_nm,x_s_tg⟩⟩:Spot).p (⟨⟨x_p_w,x_p_wn,x_p_fu,⟨x_p_r0,x_p_r1,x_p_r2,x_p_r3⟩,x_p_ms,x_p_ls,x_p_is⟩,⟨⟨⟨x_c_r0,x_c_r1,x_c_r2,x_c_r3⟩,x_c_mm,x_c_st,x_c_pc⟩,x_c_bf,x_c_rb,x_c_en⟩,x_i,⟨x_e_pc,x_e_vl,x_e_ad,x_e_fr,x_e_nx,x_e_dn,x_e_kn,x_e_ft⟩,⟨x_s_k,x_s_o,x_s_d,⟨x_s_ag,x_s_an⟩,⟨x_s_bg,x_s_bn⟩,x_s_nm,x_s_tg⟩⟩:Spot).c.state.stack (⟨⟨x_p_w,x_p_wn,x_p_fu,⟨x_p_r0,x_p_r1,x_p_r2,x_p_r3⟩,x_p_ms,x_p_ls,x_p_is⟩,⟨⟨⟨x_c_r0,x_c_r1,x_c_r2,x_c_r3⟩,x_c_mm,x_c_st,x_c_pc⟩,x_c_bf,x_c_rb,x_c_en⟩,x_i,⟨x_e_pc,x_e_vl,x_e_ad,x_e_fr,x_e_nx,x_e_dn,x_e_kn,x_e_ft⟩,⟨x_s_k,x_s_o,x_s_d,⟨x_s_ag,x_s_an⟩,⟨x_s_bg,x_s_bn⟩,x_s_nm,x_s_tg⟩⟩:Spot).c.buf (⟨⟨x_p_w,x_p_wn,x_p_fu,⟨x_p_r0,x_p_r1,x_p_r2,x_p_r3⟩,x_p_ms,x_p_ls,x_p_is⟩,⟨⟨⟨x_c_r0,x_c_r1,x_c_r2,x_c_r3⟩,x_c_mm,x_c_st,x_c_pc⟩,x_c_bf,x_c_rb,x_c_en⟩,x_i,⟨x_e_pc,x_e_vl,x_e_ad,x_e_fr,x_e_nx,x_e_dn,x_e_kn,x_e_ft⟩,⟨x_s_k,x_s_o,x_s_d,⟨x_s_ag,x_s_an⟩,⟨x_s_bg,x_s_bn⟩,x_s_nm,x_s_tg⟩⟩:Spot).i)).length<1073741824)(A:List Blk)(nb:Nat):Zb false E (evC E fn (dp+5)) 150 A nb (some ([.agg [vi x_p_w,vi x_p_wn,vi x_p_fu,vi x_p_r0,vi x_p_r1,vi x_p_r2,vi x_p_r3,rD x_p_ms,rD x_p_ls,rD x_p_is,vi x_c_r0,vi x_c_r1,vi x_c_r2,vi x_c_r3,rD x_c_mm,rD x_c_st,vi x_c_pc,rD x_c_bf,rD x_c_rb,vi x_c_en,vi x_i,vi x_e_pc,vi x_e_vl,vi x_e_ad,vi x_e_fr,vi x_e_nx,vb x_e_dn,vb x_e_kn,vb x_e_ft,vi x_s_k,vi x_s_o,vi x_s_d,vb x_s_ag,vi x_s_an,vb x_s_bg,vi x_s_bn,vt x_s_nm,vi x_s_tg]],[]))=some (.made (.d (.tup [Zv (Md.doK (Z5 (⟨⟨x_p_w,x_p_wn,x_p_fu,⟨x_p_r0,x_p_r1,x_p_r2,x_p_r3⟩,x_p_ms,x_p_ls,x_p_is⟩,⟨⟨⟨x_c_r0,x_c_r1,x_c_r2,x_c_r3⟩,x_c_mm,x_c_st,x_c_pc⟩,x_c_bf,x_c_rb,x_c_en⟩,x_i,⟨x_e_pc,x_e_vl,x_e_ad,x_e_fr,x_e_nx,x_e_dn,x_e_kn,x_e_ft⟩,⟨x_s_k,x_s_o,x_s_d,⟨x_s_ag,x_s_an⟩,⟨x_s_bg,x_s_bn⟩,x_s_nm,x_s_tg⟩⟩:Spot).p.mems) (⟨⟨x_p_w,x_p_wn,x_p_fu,⟨x_p_r0,x_p_r1,x_p_r2,x_p_r3⟩,x_p_ms,x_p_ls,x_p_is⟩,⟨⟨⟨x_c_r0,x_c_r1,x_c_r2,x_c_r3⟩,x_c_mm,x_c_st,x_c_pc⟩,x_c_bf,x_c_rb,x_c_en⟩,x_i,⟨x_e_pc,x_e_vl,x_e_ad,x_e_fr,x_e_nx,x_e_dn,x_e_kn,x_e_ft⟩,⟨x_s_k,x_s_o,x_s_d,⟨x_s_ag,x_s_an⟩,⟨x_s_bg,x_s_bn⟩,x_s_nm,x_s_tg⟩⟩:Spot).p (⟨⟨x_p_w,x_p_wn,x_p_fu,⟨x_p_r0,x_p_r1,x_p_r2,x_p_r3⟩,x_p_ms,x_p_ls,x_p_is⟩,⟨⟨⟨x_c_r0,x_c_r1,x_c_r2,x_c_r3⟩,x_c_mm,x_c_st,x_c_pc⟩,x_c_bf,x_c_rb,x_c_en⟩,x_i,⟨x_e_pc,x_e_vl,x_e_ad,x_e_fr,x_e_nx,x_e_dn,x_e_kn,x_e_ft⟩,⟨x_s_k,x_s_o,x_s_d,⟨x_s_ag,x_s_an⟩,⟨x_s_bg,x_s_bn⟩,x_s_nm,x_s_tg⟩⟩:Spot).c (⟨⟨x_p_w,x_p_wn,x_p_fu,⟨x_p_r0,x_p_r1,x_p_r2,x_p_r3⟩,x_p_ms,x_p_ls,x_p_is⟩,⟨⟨⟨x_c_r0,x_c_r1,x_c_r2,x_c_r3⟩,x_c_mm,x_c_st,x_c_pc⟩,x_c_bf,x_c_rb,x_c_en⟩,x_i,⟨x_e_pc,x_e_vl,x_e_ad,x_e_fr,x_e_nx,x_e_dn,x_e_kn,x_e_ft⟩,⟨x_s_k,x_s_o,x_s_d,⟨x_s_ag,x_s_an⟩,⟨x_s_bg,x_s_bn⟩,x_s_nm,x_s_tg⟩⟩:Spot).i (⟨⟨x_p_w,x_p_wn,x_p_fu,⟨x_p_r0,x_p_r1,x_p_r2,x_p_r3⟩,x_p_ms,x_p_ls,x_p_is⟩,⟨⟨⟨x_c_r0,x_c_r1,x_c_r2,x_c_r3⟩,x_c_mm,x_c_st,x_c_pc⟩,x_c_bf,x_c_rb,x_c_en⟩,x_i,⟨x_e_pc,x_e_vl,x_e_ad,x_e_fr,x_e_nx,x_e_dn,x_e_kn,x_e_ft⟩,⟨x_s_k,x_s_o,x_s_d,⟨x_s_ag,x_s_an⟩,⟨x_s_bg,x_s_bn⟩,x_s_nm,x_s_tg⟩⟩:Spot).e ⟨9,0,0,⟨false,0⟩,⟨false,0⟩,⟨#[]⟩,0⟩ 0 0 0).1,rD (Md.doK (Z5 (⟨⟨x_p_w,x_p_wn,x_p_fu,⟨x_p_r0,x_p_r1,x_p_r2,x_p_r3⟩,x_p_ms,x_p_ls,x_p_is⟩,⟨⟨⟨x_c_r0,x_c_r1,x_c_r2,x_c_r3⟩,x_c_mm,x_c_st,x_c_pc⟩,x_c_bf,x_c_rb,x_c_en⟩,x_i,⟨x_e_pc,x_e_vl,x_e_ad,x_e_fr,x_e_nx,x_e_dn,x_e_kn,x_e_ft⟩,⟨x_s_k,x_s_o,x_s_d,⟨x_s_ag,x_s_an⟩,⟨x_s_bg,x_s_bn⟩,x_s_nm,x_s_tg⟩⟩:Spot).p.mems) (⟨⟨x_p_w,x_p_wn,x_p_fu,⟨x_p_r0,x_p_r1,x_p_r2,x_p_r3⟩,x_p_ms,x_p_ls,x_p_is⟩,⟨⟨⟨x_c_r0,x_c_r1,x_c_r2,x_c_r3⟩,x_c_mm,x_c_st,x_c_pc⟩,x_c_bf,x_c_rb,x_c_en⟩,x_i,⟨x_e_pc,x_e_vl,x_e_ad,x_e_fr,x_e_nx,x_e_dn,x_e_kn,x_e_ft⟩,⟨x_s_k,x_s_o,x_s_d,⟨x_s_ag,x_s_an⟩,⟨x_s_bg,x_s_bn⟩,x_s_nm,x_s_tg⟩⟩:Spot).p (⟨⟨x_p_w,x_p_wn,x_p_fu,⟨x_p_r0,x_p_r1,x_p_r2,x_p_r3⟩,x_p_ms,x_p_ls,x_p_is⟩,⟨⟨⟨x_c_r0,x_c_r1,x_c_r2,x_c_r3⟩,x_c_mm,x_c_st,x_c_pc⟩,x_c_bf,x_c_rb,x_c_en⟩,x_i,⟨x_e_pc,x_e_vl,x_e_ad,x_e_fr,x_e_nx,x_e_dn,x_e_kn,x_e_ft⟩,⟨x_s_k,x_s_o,x_s_d,⟨x_s_ag,x_s_an⟩,⟨x_s_bg,x_s_bn⟩,x_s_nm,x_s_tg⟩⟩:Spot).c (⟨⟨x_p_w,x_p_wn,x_p_fu,⟨x_p_r0,x_p_r1,x_p_r2,x_p_r3⟩,x_p_ms,x_p_ls,x_p_is⟩,⟨⟨⟨x_c_r0,x_c_r1,x_c_r2,x_c_r3⟩,x_c_mm,x_c_st,x_c_pc⟩,x_c_bf,x_c_rb,x_c_en⟩,x_i,⟨x_e_pc,x_e_vl,x_e_ad,x_e_fr,x_e_nx,x_e_dn,x_e_kn,x_e_ft⟩,⟨x_s_k,x_s_o,x_s_d,⟨x_s_ag,x_s_an⟩,⟨x_s_bg,x_s_bn⟩,x_s_nm,x_s_tg⟩⟩:Spot).i (⟨⟨x_p_w,x_p_wn,x_p_fu,⟨x_p_r0,x_p_r1,x_p_r2,x_p_r3⟩,x_p_ms,x_p_ls,x_p_is⟩,⟨⟨⟨x_c_r0,x_c_r1,x_c_r2,x_c_r3⟩,x_c_mm,x_c_st,x_c_pc⟩,x_c_bf,x_c_rb,x_c_en⟩,x_i,⟨x_e_pc,x_e_vl,x_e_ad,x_e_fr,x_e_nx,x_e_dn,x_e_kn,x_e_ft⟩,⟨x_s_k,x_s_o,x_s_d,⟨x_s_ag,x_s_an⟩,⟨x_s_bg,x_s_bn⟩,x_s_nm,x_s_tg⟩⟩:Spot).e ⟨9,0,0,⟨false,0⟩,⟨false,0⟩,⟨#[]⟩,0⟩ 0 0 0).2,vb true])) []):=
 Zk.deep (Z8m S dp (⟨⟨x_p_w,x_p_wn,x_p_fu,⟨x_p_r0,x_p_r1,x_p_r2,x_p_r3⟩,x_p_ms,x_p_ls,x_p_is⟩,⟨⟨⟨x_c_r0,x_c_r1,x_c_r2,x_c_r3⟩,x_c_mm,x_c_st,x_c_pc⟩,x_c_bf,x_c_rb,x_c_en⟩,x_i,⟨x_e_pc,x_e_vl,x_e_ad,x_e_fr,x_e_nx,x_e_dn,x_e_kn,x_e_ft⟩,⟨x_s_k,x_s_o,x_s_d,⟨x_s_ag,x_s_an⟩,⟨x_s_bg,x_s_bn⟩,x_s_nm,x_s_tg⟩⟩:Spot) hm hs hl hr h0 h1 hg) (np S 150 (by decide)) A nb
end
set_option maxRecDepth 200000
def doC (N:Int)(p:Prog)(c:Conf)(i:Int):Conf×List Obs:=bif Md.can N p c i then Md.doM N p c i else(Md.conf0,[])
theorem Zpt {N:Int}{p:Prog}{c:Conf}{i:Int}(h:Md.can N p c i=true):Md.openM p c i=true:=by
 simp only[Md.can,Bool.and_eq_true] at h;exact h.1.1
variable {E:Env} {fn:FuncId->Option (Env->cT->cT)}
section
variable (S:Sur E fn)
include S
theorem Zx5:E.lives 88 7=none/\E.lives 88 25=none/\E.lives 88 27=none/\E.lives 88 31=none/\E.lives 88 35=none/\E.lives 88 37=none/\E.lives 88 41=none/\E.lives 88 45=none/\E.lives 88 49=none:=⟨off S 88 7 (by decide) rfl,off S 88 25 (by decide) rfl,off S 88 27 (by decide) rfl,off S 88 31 (by decide) rfl,off S 88 35 (by decide) rfl,off S 88 37 (by decide) rfl,off S 88 41 (by decide) rfl,off S 88 45 (by decide) rfl,off S 88 49 (by decide) rfl⟩
theorem Zne (dp:Nat)(p:Prog)(c:Conf)(i:Int)(hp:p.mems.length<1073741824)(hm:c.state.mem.length<1073741824)(hs:c.state.stack.length<1073741824)(hl:c.buf.length<1073741824)(hr:c.rsb.length<1073741824)(hg:(Zd4 (Md.real p c.state.stack c.buf i)).length<1073741824):Zk E fn (dp+10) 88 [Zn p,Zv c,vi i] (.tup [Zv (doC (Z5 p.mems) p c i).1,rD (doC (Z5 p.mems) p c i).2,vb (Md.can (Z5 p.mems) p c i)]):=by
 unfold Zk
 show Zh (evC E fn (dp+9+1) 88 [.d (Zn p),.d (Zv c),.d (vi i)] [])=_
 rw[Z2,S.Zl0,Z3,Zmg,Z6 _ _ _ _ _ _ _ _ rfl]
 cases hcan:Md.can (Z5 p.mems) p c i with
 | false=>simp only[eG,go_sem,thq S,nbr S,Nat.reduceLT,Nat.reduceEqDiff,Nat.reduceAdd,Nat.reduceMul,Nat.reduceLeDiff,Int.reduceEq,Int.reduceLT,Int.reduceLE,Int.reduceNeg,reduceCtorEq,Zx5 S,Z9y S,hl,hp,hcan,Bool.not_false,doC,Md.conf0]
 | true=>
  have ho:=Zpt hcan
  obtain⟨h0,he,h1⟩:=Z51 ho
  simp only[eG,go_sem,thq S,nbr S,Nat.reduceLT,Nat.reduceEqDiff,Nat.reduceAdd,Nat.reduceMul,Nat.reduceLeDiff,Int.reduceEq,Int.reduceLT,Int.reduceLE,Int.reduceNeg,reduceCtorEq,Zx5 S,Z9y S,hl,hp,hm,hs,hr,hg,h0,h1,hcan,Bool.not_true,Z13 S,ho,Z03,Z24 S,Z5n S,Zlj S,Zr7 S,Z5m S,Qb S,Z1k S,Zbm S,doC,Md.doM,Md.put,Zl,Zo,Nat.one_ne_zero,Nat.one_mul,Nat.le_refl,Nat.succ_ne_zero,Zf7,Y0d]
  by_cases k1:(Md.insM p c i).kind=1
  ·simp only[k1,Md.doK,Md.put,if_true,if_false,Int.reduceEq,decide_true,cond_true];rfl
  by_cases k4:(Md.insM p c i).kind=4
  ·simp only[k4,Md.doK,Md.put,if_true,if_false,Int.reduceEq,decide_true,decide_false,cond_true,cond_false];rfl
  by_cases k3:(Md.insM p c i).kind=3
  ·simp only[k3,Md.doK,Md.put,if_true,if_false,Int.reduceEq,decide_true,decide_false,cond_true,cond_false];rfl
  by_cases k5:(Md.insM p c i).kind=5
  ·simp only[k5,Md.doK,if_true,if_false,Int.reduceEq,decide_true,decide_false,cond_true,cond_false]
  by_cases k7:(Md.insM p c i).kind=7
  ·simp only[k7,Md.doK,if_true,if_false,Int.reduceEq,decide_true,decide_false,cond_true,cond_false]
  by_cases k9:(Md.insM p c i).kind=9
  ·simp only[k9,Md.doK,if_true,if_false,Int.reduceEq,decide_true,decide_false,cond_true,cond_false]
  by_cases k2:(Md.insM p c i).kind=2
  ·have hab:Zws ⟨p,c,i,Md.entAt c.buf i,Md.insM p c i⟩=true:=by
    have h:=hcan
    simp only[Md.can,Md.ready,k2,Int.reduceEq,or_self,if_false,if_true,Bool.and_eq_true] at h
    show((Md.valM p c i (Md.insM p c i).a).2&&(Md.valM p c i (Md.insM p c i).b).2)=true
    rw[h.2.1.1,h.2.1.2];rfl
   have had:Zro ⟨p,c,i,Md.entAt c.buf i,Md.insM p c i⟩=Md.mask p.w ((Md.valM p c i (Md.insM p c i).a).1+(Md.valM p c i (Md.insM p c i).b).1):=rfl
   by_cases hin:Md.mask p.w ((Md.valM p c i (Md.insM p c i).a).1+(Md.valM p c i (Md.insM p c i).b).1)<Z5 p.mems
   ·have hin' : Zxh ⟨p, c, i, Md.entAt c.buf i, Md.insM p c i⟩ = true := by unfold Zxh; rw [had]; exact decide_eq_true hin
    simp only[k2,Z9t,hab,hin',had,Md.doK,Md.put,if_true,if_false,Int.reduceEq,decide_true,decide_false,cond_true,cond_false,ge_iff_le,Int.not_le.2 hin];rfl
   ·have hin' : Zxh ⟨p, c, i, Md.entAt c.buf i, Md.insM p c i⟩ = false := by unfold Zxh; rw [had]; exact decide_eq_false hin
    simp only[k2,Z9t,hab,hin',had,Md.doK,Md.put,if_true,if_false,Int.reduceEq,decide_true,decide_false,cond_true,cond_false,ge_iff_le,Int.not_lt.1 hin];rfl
  ·simp only[k1,k2,k3,k4,k5,k7,k9,Md.doK,Md.put,if_true,if_false,Int.reduceEq,decide_true,decide_false,cond_true,cond_false];rfl
end
theorem Zi4 (p:Prog)(i addr:Int):∀(l:List Ent) (k:Nat),(Md.hazGo p i addr k l).2=true->(k:Int)<=(Md.hazGo p i addr k l).1/\(Md.hazGo p i addr k l).1<k+l.length
 | [],_,h=>by cases h
 | e::l,k,h=>by
  unfold Md.hazGo at h ⊢
  cases hh:Md.hitL p i addr e with
  | true=>simp;omega
  | false=>
   rw[hh] at h
   simp only[cond_false] at h ⊢
   have:=Zi4 p i addr l (k+1) h
   simp only[List.length_cons]
   omega
theorem Zxi {p:Prog}{l:List Ent}{i addr:Int}(h:(Md.hazard p l i addr).2=true):0<=(Md.hazard p l i addr).1/\(Md.hazard p l i addr).1<l.length:=by
 have:=Zi4 p i addr _ _ h
 unfold Md.hazard
 rw[List.length_drop] at this
 omega
def Z8a (N:Int)(p:Prog)(c:Conf)(i:Int):Conf×List Obs:=bif Md.canAddr p c i then Md.addrM N p c i else(Md.conf0,[])
theorem Zau {p:Prog}{c:Conf}{i:Int}(h:Md.canAddr p c i=true):Md.openM p c i=true:=by
 simp only[Md.canAddr,Bool.and_eq_true] at h;exact h.1.1.1.1
variable {E:Env} {fn:FuncId->Option (Env->cT->cT)}
section
variable (S:Sur E fn)
include S
theorem Zhs:E.lives 142 9=none:=off S 142 9 (by decide) rfl
theorem Zp4:E.lives 89 7=none/\E.lives 89 23=none/\E.lives 89 29=none:=⟨off S 89 7 (by decide) rfl,off S 89 23 (by decide) rfl,off S 89 29 (by decide) rfl⟩
theorem Zbi (dp:Nat)(p:Prog)(c:Conf)(i:Int)(hl:c.buf.length<1073741824):Zk E fn (dp+7) 142 [Zn p,Zv c,vi i] (vb (Md.canAddr p c i)):=by
 unfold Zk
 show Zh (evC E fn (dp+6+1) 142 [.d (Zn p),.d (Zv c),.d (vi i)] [])=_
 rw[Z2,S.Z7h,Z3,Z7q,Z6 _ _ _ _ _ _ _ _ rfl]
 cases ho:Md.openM p c i with
 | false=>simp only[eG,go_sem,thq S,nbr S,zN0,zN1,zN2,zN3,zN4,zI0,zI1,zI2,zI3,reduceCtorEq,Zhs S,Z13 S,hl,ho,Bool.not_false,Md.canAddr]
 | true=>
  by_cases k3:(Md.insM p c i).kind=3
  ·cases hk : (Md.entAt c.buf i).known with
   | true=>simp only[eG,go_sem,thq S,nbr S,zN0,zN1,zN2,zN3,zN4,zI0,zI1,zI2,zI3,reduceCtorEq,Zhs S,Z13 S,hl,ho,Z03,eq_true k3,hk,Bool.not_true,Md.canAddr]
   | false=>
    have hk2:(Z03 p c i).e.known=false:=hk
    simp only[eG,go_sem,thq S,nbr S,zN0,zN1,zN2,zN3,zN4,zI0,zI1,zI2,zI3,reduceCtorEq,Zhs S,Z13 S,hl,ho,Z03,eq_true k3,hk,Bool.not_true,Bool.not_false,Md.canAddr,Qr S]
  ·simp only[eG,go_sem,thq S,nbr S,zN0,zN1,zN2,zN3,zN4,zI0,zI1,zI2,zI3,reduceCtorEq,Zhs S,Z13 S,hl,ho,Z03,eq_false k3,Bool.not_true,Bool.not_false,Md.canAddr]
theorem Z1h (dp:Nat)(p_w p_wn p_fu p_r0 p_r1 p_r2 p_r3:Int)(p_ms:List MemT)(p_ls:List Label)(p_is:List Ins)(c_r0 c_r1 c_r2 c_r3:Int)(c_mm c_st:List Int)(c_pc:Int)(c_bf:List Ent)(c_rb:List Int)(c_en i:Int)(hl:(⟨⟨⟨c_r0,c_r1,c_r2,c_r3⟩,c_mm,c_st,c_pc⟩,c_bf,c_rb,c_en⟩:Conf).buf.length<1073741824)(A:List Blk)(nb:Nat)(us:List Nat):Zb false E (evC E fn (dp+7)) 142 A nb (some ([.agg [vi p_w,vi p_wn,vi p_fu,vi p_r0,vi p_r1,vi p_r2,vi p_r3,rD p_ms,rD p_ls,rD p_is],.agg [vi c_r0,vi c_r1,vi c_r2,vi c_r3,rD c_mm,rD c_st,vi c_pc,rD c_bf,rD c_rb,vi c_en],vi i],us))=some (.made (.d (vb (Md.canAddr (⟨p_w,p_wn,p_fu,⟨p_r0,p_r1,p_r2,p_r3⟩,p_ms,p_ls,p_is⟩:Prog) (⟨⟨⟨c_r0,c_r1,c_r2,c_r3⟩,c_mm,c_st,c_pc⟩,c_bf,c_rb,c_en⟩:Conf) i))) []):=
 Zk.flat (Zbi S dp (⟨p_w,p_wn,p_fu,⟨p_r0,p_r1,p_r2,p_r3⟩,p_ms,p_ls,p_is⟩:Prog) (⟨⟨⟨c_r0,c_r1,c_r2,c_r3⟩,c_mm,c_st,c_pc⟩,c_bf,c_rb,c_en⟩:Conf) i hl) (np S 142 (by decide)) (rfl) A nb us
theorem Zhn (dp:Nat)(p:Prog)(c:Conf)(i:Int)(hp:p.mems.length<1073741824)(hm:c.state.mem.length<1073741824)(hs:c.state.stack.length<1073741824)(hl:c.buf.length<1073741824)(hr:c.rsb.length<1073741824):Zk E fn (dp+8) 89 [Zn p,Zv c,vi i] (.tup [Zv (Z8a (Z5 p.mems) p c i).1,rD (Z8a (Z5 p.mems) p c i).2,vb (Md.canAddr p c i)]):=by
 unfold Zk
 show Zh (evC E fn (dp+7+1) 89 [.d (Zn p),.d (Zv c),.d (vi i)] [])=_
 rw[Z2,S.Zdm,Z3,Zeg,Z6 _ _ _ _ _ _ _ _ rfl]
 cases hcan:Md.canAddr p c i with
 | false=>simp only[eG,go_sem,thq S,nbr S,zN0,zN1,zN2,zN3,zN4,zI0,zI1,zI2,zI3,reduceCtorEq,Zp4 S,Z1h S,hl,hp,hcan,Bool.not_false,Z8a,Md.conf0]
 | true=>
  have ho:=Zau hcan
  obtain⟨h0,he,h1⟩:=Z51 ho
  have had:Md.mask p.w ((Md.valM p c i (Md.insM p c i).a).1+(Md.valM p c i (Md.insM p c i).b).1)=Md.addrOf p c i:=rfl
  by_cases hin:Md.addrOf p c i<Z5 p.mems
  ·have hge : ¬ Md.addrOf p c i >= Z5 p.mems := by omega
   have hlen:∀ e,(c.buf.set i.toNat e).length=c.buf.length:=fun e=>List.length_set
   generalize hL:c.buf.set i.toNat { Md.entAt c.buf i with addr:=Md.addrOf p c i,known:=true,fault:=false }=L
   have hLl:L.length<1073741824:=by rw[<-hL,hlen];exact hl
   cases hz:(Md.hazard p L i (Md.addrOf p c i)).2 with
   | false=>simp only[eG,go_sem,thq S,nbr S,zN0,zN1,zN2,zN3,zN4,zI0,zI1,zI2,zI3,reduceCtorEq,Zp4 S,Z1h S,hl,hp,hm,hs,hr,h0,h1,hcan,Bool.not_true,Bool.not_false,Z13 S,ho,Z03,Qr S,Z1f S,had,Qb S,Z8a,Md.addrM,Md.addrK,Md.put,Zl,Zo,Nat.one_ne_zero,Nat.one_mul,Nat.le_refl,Nat.succ_ne_zero,hin,hge,hL,hLl,Z9b S,hz,show i<4611686018427387904 by omega,show -4611686018427387904<i by omega,Md.drop1];rfl
   | true=>
    obtain⟨z0,z1⟩:=Zxi hz
    obtain⟨e2,he2⟩:=Yz (show(Md.hazard p L i (Md.addrOf p c i)).1.toNat<L.length by omega)
    have he3:Md.entAt L (Md.hazard p L i (Md.addrOf p c i)).1=e2:=by unfold Md.entAt;rw[he2];rfl
    simp only[eG,go_sem,thq S,nbr S,zN0,zN1,zN2,zN3,zN4,zI0,zI1,zI2,zI3,reduceCtorEq,Zp4 S,Z1h S,hl,hp,hm,hs,hr,h0,h1,hcan,Bool.not_true,Bool.not_false,Z13 S,ho,Z03,Qr S,Z1f S,had,Qb S,Z8a,Md.addrM,Md.addrK,Md.put,Zl,Zo,Nat.one_ne_zero,Nat.one_mul,Nat.le_refl,Nat.succ_ne_zero,hin,hge,hL,hLl,Z9b S,hz,show i<4611686018427387904 by omega,show -4611686018427387904<i by omega,Md.drop1,Z7r z0 he2,he3,Z2n S,Md.cut];rfl
  ·have hge : Md.addrOf p c i >= Z5 p.mems := by omega
   simp only[eG,go_sem,thq S,nbr S,zN0,zN1,zN2,zN3,zN4,zI0,zI1,zI2,zI3,reduceCtorEq,Zp4 S,Z1h S,hl,hp,hm,hs,hr,h0,h1,hcan,Bool.not_true,Bool.not_false,Z13 S,ho,Z03,Qr S,Z1f S,had,Qb S,Z8a,Md.addrM,Md.addrK,Md.put,Zl,Zo,Nat.one_ne_zero,Nat.one_mul,Nat.le_refl,Nat.succ_ne_zero,hin,hge]
end
end Go.Aug.Mc
