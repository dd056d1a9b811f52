import Derived.Test.YtikiagojnilhiaaGreatMc17
import Derived.Test.YtikiagojnilhiaaGreatMc29
import Derived.Test.YtikiagojnilhiaaGreatMc24
import Derived.Test.YtikiagojnilhiaaGreatMc49
import Derived.Test.YtikiagojnilhiaaGreatMc12
namespace Go.Aug.Mc
open Go Go.Aug
open Nat renaming reduceLT -> zN0, reduceEqDiff -> zN1, reduceAdd -> zN2, reduceMul -> zN3, reduceLeDiff -> zN4
open Int renaming reduceEq -> zI0, reduceLT -> zI1, reduceLE -> zI2, reduceNeg -> zI3
set_option linter.unusedSimpArgs false
set_option linter.unusedVariables false
set_option maxHeartbeats 40000000
theorem ans_own' {i:Nat}{out:List Int}{k:Option Nat}{A:List Blk}{b:Bool}(hA:A[i]? =some (.cells ((rowC out).map .d) 0 false)):
  ansOf (endN 0 (some (.tup [.sref i 0 0 out.length 1 k,abool b],A)))=some (.tup [rowD out,vb b]):=ans_own (junk:=[]) (by rw[List.append_nil];exact hA)
variable {E:Env} {fn:FuncId->Option (Env->CallT->CallT)}
section
variable (S:Sur E fn)
include S
theorem o102_18:E.lives 102 1=none/\E.lives 102 17=none/\E.lives 102 19=none/\E.lives 102 25=none/\E.lives 102 27=none:=⟨off S 102 1 (by decide) rfl,off S 102 17 (by decide) rfl,off S 102 19 (by decide) rfl,off S 102 25 (by decide) rfl,off S 102 27 (by decide) rfl⟩
theorem o66_18:E.lives 66 13=none:=off S 66 13 (by decide) rfl
theorem o68_18:E.lives 68 11=none:=off S 68 11 (by decide) rfl
theorem c_clone0 (call:CallT)(A:List Blk)(nb:Nat)(us:List Nat):evOwnK true E call 81 A nb (some ([.lst [] 0 none],us))=some (.made (.d (.lst [] 0 (some 0))) []):=o_cloneI S (l:=[]) (by decide) call A nb us
theorem raw_retb_Real (dp:Nat)(p:Prog)(sk:List Int)(l:List Ent)(i:Int)(hl:l.length<1073741824)(hs:sk.length<1073741824):Says E fn (dp+3) 102 [progD p,rowD sk,rowD l,vi i] (.tup [rowD (getO (Md.real p sk l i)),vb (boolO (Md.real p sk l i))]):=by
 unfold Says
 show ansOf (evC E fn (dp+2+1) 102 [.d (progD p),.d (rowD sk),.d (rowD l),.d (vi i)] [])=_
 rw[evC_succ,S.f_retb_Real,apF_some,F_retb_Real,mkF_run _ _ _ _ _ _ _ _ rfl]
 have hcl:=cut_len l i
 have fin:∀ X:Option (List Int),DV.tup [rowD (getO X),vb (boolO X)]=resR X:=fun X=>by cases X<;>rfl
 rw[fin]
 have h0x:∀ T,getS .bot T 10=.d (.lst [] 0 (some 0))->ansOf (blockK 0 (cQ (cOz [st 50 (oV (.t 10)),st 51 (oCall (.f 81) [(.t 50)]),st 8 (oV (.t 51)),st 9 (oV (.c (.v (.bool true))))]) cRet (inn E 102) (evC E fn (dp+2)) (kEnd 0 [.tmp 8,.tmp 9]) (fun _ _ _=>none) (kEnd 0 [.tmp 8,.tmp 9])) (fun _ _ _=>none) 0 (mk .bot 52 T) [.cells ((progC p).map .d) 0 false])=some (resR (some [])):=by
  intro T h
  simp only[eG,go_sem,thq S,nbr S,zN0,zN1,zN2,zN3,zN4,zI0,zI1,zI2,zI3,reduceCtorEq,o102_18 S,h,c_clone0 S,resR]
 have hx:∀ T out junk k,getS .bot T 10=.sref 1 0 0 (out:List Int).length 1 k->(out:List Int).length<1073741824->ansOf (blockK 0 (cQ (cOz [st 50 (oV (.t 10)),st 51 (oCall (.f 81) [(.t 50)]),st 8 (oV (.t 51)),st 9 (oV (.c (.v (.bool true))))]) cRet (inn E 102) (evC E fn (dp+2)) (kEnd 0 [.tmp 8,.tmp 9]) (fun _ _ _=>none) (kEnd 0 [.tmp 8,.tmp 9])) (fun _ _ _=>none) 0 (mk .bot 52 T) [.cells ((progC p).map .d) 0 false,.cells ((rowC (out++junk)).map .d) 0 false])=some (resR (some out)):=by
  intro T out junk k h ho
  by_cases hz:out.length=0
  ·have : out = [] := List.length_eq_zero_iff.1 hz
   subst this
   simp only[eG,go_sem,thq S,nbr S,zN0,zN1,zN2,zN3,zN4,zI0,zI1,zI2,zI3,reduceCtorEq,o102_18 S,h,c_clone0 S,resR]
  ·have hne : out ≠ [] := fun h => hz (by rw [h]; rfl)
   have hd:=deep_junk (i:=1) (A:=[.cells ((progC p).map .d) 0 false,.cells ((rowC (out++junk)).map .d) 0 false]) hne rfl 6 1 k rfl
   simp only[progC,List.map_cons,List.map_nil] at hd
   simp only[go_sem,thq S,nbr S,zN0,zN1,zN2,zN3,zN4,zI0,zI1,zI2,zI3,reduceCtorEq,o102_18 S,h,hd,c_realEnd S ho,ownA_ne hz,ownB_ne hz]
   exact ans_own' rfl
 by_cases h0:sk.length=0
 ·have : sk = [] := List.length_eq_zero_iff.1 h0
  subst this
  simp only[eG,go_sem,thq S,nbr S,zN0,zN1,zN2,zN3,zN4,zI0,zI1,zI2,zI3,reduceCtorEq,o102_18 S,c_clone0 S,c_robq_Cut S,hl]
  rw[big_eq,loop_in (on S _ _ [4,10,17,18,19] (by decide) rfl) rfl _ _ _ _ _ _ _ _ _ rfl]
  simp only[eG,go_sem,thq S,nbr S,zN0,zN1,zN2,zN3,zN4,zI0,zI1,zI2,zI3,reduceCtorEq,o102_18 S]
  exact loop_pRealA S (dp+1) p (Md.cut l i) (by omega) _ hx h0x (Md.cut l i).length 0 _ (by omega) (by omega)
 ·simp only [eG, go_sem, thq S, nbr S, zN0, zN1, zN2, zN3, zN4, zI0, zI1, zI2, zI3, reduceCtorEq, o102_18 S, o_cloneI S hs, ownA_ne h0, ownB_ne h0, c_robq_Cut S, hl]
  rw[big_eq,loop_in (on S _ _ [4,10,17,18,19] (by decide) rfl) rfl _ _ _ _ _ _ _ _ _ rfl]
  simp only[eG,go_sem,thq S,nbr S,zN0,zN1,zN2,zN3,zN4,zI0,zI1,zI2,zI3,reduceCtorEq,o102_18 S]
  have:=loop_pRealB S (dp+1) p (Md.cut l i) (by omega) _ hx (Md.cut l i).length 0 999999999999999999999999999999 sk [] (by omega) (by omega) hs
  rw[List.append_nil] at this
  exact this
theorem c_retb_Real (dp:Nat)(p_w p_wn p_fu p_r0 p_r1 p_r2 p_r3:Int)(p_ms:List MemT)(p_ls:List Label)(p_is:List Ins)(sk:List Int)(l:List Ent)(i:Int)(hl:l.length<1073741824)(hs:sk.length<1073741824)(A:List Blk)(nb:Nat):evOwnK false E (evC E fn (dp+3)) 102 A nb (some ([.agg [vi p_w,vi p_wn,vi p_fu,vi p_r0,vi p_r1,vi p_r2,vi p_r3,rowD p_ms,rowD p_ls,rowD p_is],rowD sk,rowD l,vi i],[]))=some (.made (.d (.tup [rowD (getO (Md.real (⟨p_w,p_wn,p_fu,⟨p_r0,p_r1,p_r2,p_r3⟩,p_ms,p_ls,p_is⟩:Prog) sk l i)),vb (boolO (Md.real (⟨p_w,p_wn,p_fu,⟨p_r0,p_r1,p_r2,p_r3⟩,p_ms,p_ls,p_is⟩:Prog) sk l i))])) []):=
 Says.deep (raw_retb_Real S dp (⟨p_w,p_wn,p_fu,⟨p_r0,p_r1,p_r2,p_r3⟩,p_ms,p_ls,p_is⟩:Prog) sk l i hl hs) (np S 102 (by decide)) A nb
theorem raw_exec_spot_goes (dp:Nat)(x:Spot)(to:Int)(hm:x.c.state.mem.length<1073741824)(hs:x.c.state.stack.length<1073741824)(hl:x.c.buf.length<1073741824)(hr:x.c.rsb.length<1073741824)(h0:0<=x.i)(h1:x.i<x.c.buf.length):Says E fn (dp+4) 66 [spotD x,vi to] (.tup [confD (Md.goesM x.c x.i x.e to).1,rowD (Md.goesM x.c x.i x.e to).2,vb true]):=by
 unfold Says
 show ansOf (evC E fn (dp+3+1) 66 [.d (spotD x),.d (vi to)] [])=_
 rw[evC_succ,S.f_exec_spot_goes,apF_some,F_exec_spot_goes,mkF_run _ _ _ _ _ _ _ _ rfl]
 have w1:IntKind.i64.wrap (x.i+1)=x.i+1:=wrap_i64 (by omega) (by omega)
 have t1:(x.i+1).toNat=x.i.toNat+1:=by omega
 by_cases he:to=x.e.next
 ·simp only [eG, go_sem, thq S, nbr S, zN0, zN1, zN2, zN3, zN4, zI0, zI1, zI2, zI3, reduceCtorEq, o66_18 S, eq_true he, Bool.not_true, c_exec_spot_put S, hm, hs, hl, hr, h0, h1, rep1', deep_sr, Nat.succ_ne_zero, Nat.one_ne_zero, Nat.one_mul, Nat.le_refl, Md.goesM, eq_true he.symm, Md.put]
  rfl
 ·have he' : ¬ x.e.next = to := fun h => he h.symm
  simp only[eG,go_sem,thq S,nbr S,zN0,zN1,zN2,zN3,zN4,zI0,zI1,zI2,zI3,reduceCtorEq,o66_18 S,eq_false he,Bool.not_false,c_exec_spot_put S,hm,hs,hl,hr,h0,h1,rep1',deep_sr,Nat.succ_ne_zero,Nat.one_ne_zero,Nat.one_mul,Nat.le_refl,Md.goesM,eq_false he',Md.put,c_robq_Cut S,List.length_set,w1,Md.cut,t1]
  rfl
theorem c_exec_spot_goes (dp:Nat)(x_p_w x_p_wn x_p_fu x_p_r0 x_p_r1 x_p_r2 x_p_r3:Int)(x_p_ms:List MemT)(x_p_ls:List Label)(x_p_is:List Ins)(x_c_r0 x_c_r1 x_c_r2 x_c_r3:Int)(x_c_mm x_c_st:List Int)(x_c_pc:Int)(x_c_bf:List Ent)(x_c_rb:List Int)(x_c_en x_i x_e_pc x_e_vl x_e_ad x_e_fr x_e_nx:Int)(x_e_dn x_e_kn x_e_ft:Bool)(x_s_k x_s_o x_s_d:Int)(x_s_ag:Bool)(x_s_an:Int)(x_s_bg:Bool)(x_s_bn:Int)(x_s_nm:ByteArray)(x_s_tg to:Int)(hm:(⟨⟨x_p_w,x_p_wn,x_p_fu,⟨x_p_r0,x_p_r1,x_p_r2,x_p_r3⟩,x_p_ms,x_p_ls,x_p_is⟩,⟨⟨⟨x_c_r0,x_c_r1,x_c_r2,x_c_r3⟩,x_c_mm,x_c_st,x_c_pc⟩,x_c_bf,x_c_rb,x_c_en⟩,x_i,⟨x_e_pc,x_e_vl,x_e_ad,x_e_fr,x_e_nx,x_e_dn,x_e_kn,x_e_ft⟩,⟨x_s_k,x_s_o,x_s_d,⟨x_s_ag,x_s_an⟩,⟨x_s_bg,x_s_bn⟩,x_s_nm,x_s_tg⟩⟩:Spot).c.state.mem.length<1073741824)(hs:(⟨⟨x_p_w,x_p_wn,x_p_fu,⟨x_p_r0,x_p_r1,x_p_r2,x_p_r3⟩,x_p_ms,x_p_ls,x_p_is⟩,⟨⟨⟨x_c_r0,x_c_r1,x_c_r2,x_c_r3⟩,x_c_mm,x_c_st,x_c_pc⟩,x_c_bf,x_c_rb,x_c_en⟩,x_i,⟨x_e_pc,x_e_vl,x_e_ad,x_e_fr,x_e_nx,x_e_dn,x_e_kn,x_e_ft⟩,⟨x_s_k,x_s_o,x_s_d,⟨x_s_ag,x_s_an⟩,⟨x_s_bg,x_s_bn⟩,x_s_nm,x_s_tg⟩⟩:Spot).c.state.stack.length<1073741824)(hl:(⟨⟨x_p_w,x_p_wn,x_p_fu,⟨x_p_r0,x_p_r1,x_p_r2,x_p_r3⟩,x_p_ms,x_p_ls,x_p_is⟩,⟨⟨⟨x_c_r0,x_c_r1,x_c_r2,x_c_r3⟩,x_c_mm,x_c_st,x_c_pc⟩,x_c_bf,x_c_rb,x_c_en⟩,x_i,⟨x_e_pc,x_e_vl,x_e_ad,x_e_fr,x_e_nx,x_e_dn,x_e_kn,x_e_ft⟩,⟨x_s_k,x_s_o,x_s_d,⟨x_s_ag,x_s_an⟩,⟨x_s_bg,x_s_bn⟩,x_s_nm,x_s_tg⟩⟩:Spot).c.buf.length<1073741824)(hr:(⟨⟨x_p_w,x_p_wn,x_p_fu,⟨x_p_r0,x_p_r1,x_p_r2,x_p_r3⟩,x_p_ms,x_p_ls,x_p_is⟩,⟨⟨⟨x_c_r0,x_c_r1,x_c_r2,x_c_r3⟩,x_c_mm,x_c_st,x_c_pc⟩,x_c_bf,x_c_rb,x_c_en⟩,x_i,⟨x_e_pc,x_e_vl,x_e_ad,x_e_fr,x_e_nx,x_e_dn,x_e_kn,x_e_ft⟩,⟨x_s_k,x_s_o,x_s_d,⟨x_s_ag,x_s_an⟩,⟨x_s_bg,x_s_bn⟩,x_s_nm,x_s_tg⟩⟩:Spot).c.rsb.length<1073741824)(h0:0<=(⟨⟨x_p_w,x_p_wn,x_p_fu,⟨x_p_r0,x_p_r1,x_p_r2,x_p_r3⟩,x_p_ms,x_p_ls,x_p_is⟩,⟨⟨⟨x_c_r0,x_c_r1,x_c_r2,x_c_r3⟩,x_c_mm,x_c_st,x_c_pc⟩,x_c_bf,x_c_rb,x_c_en⟩,x_i,⟨x_e_pc,x_e_vl,x_e_ad,x_e_fr,x_e_nx,x_e_dn,x_e_kn,x_e_ft⟩,⟨x_s_k,x_s_o,x_s_d,⟨x_s_ag,x_s_an⟩,⟨x_s_bg,x_s_bn⟩,x_s_nm,x_s_tg⟩⟩:Spot).i)(h1:(⟨⟨x_p_w,x_p_wn,x_p_fu,⟨x_p_r0,x_p_r1,x_p_r2,x_p_r3⟩,x_p_ms,x_p_ls,x_p_is⟩,⟨⟨⟨x_c_r0,x_c_r1,x_c_r2,x_c_r3⟩,x_c_mm,x_c_st,x_c_pc⟩,x_c_bf,x_c_rb,x_c_en⟩,x_i,⟨x_e_pc,x_e_vl,x_e_ad,x_e_fr,x_e_nx,x_e_dn,x_e_kn,x_e_ft⟩,⟨x_s_k,x_s_o,x_s_d,⟨x_s_ag,x_s_an⟩,⟨x_s_bg,x_s_bn⟩,x_s_nm,x_s_tg⟩⟩:Spot).i<(⟨⟨x_p_w,x_p_wn,x_p_fu,⟨x_p_r0,x_p_r1,x_p_r2,x_p_r3⟩,x_p_ms,x_p_ls,x_p_is⟩,⟨⟨⟨x_c_r0,x_c_r1,x_c_r2,x_c_r3⟩,x_c_mm,x_c_st,x_c_pc⟩,x_c_bf,x_c_rb,x_c_en⟩,x_i,⟨x_e_pc,x_e_vl,x_e_ad,x_e_fr,x_e_nx,x_e_dn,x_e_kn,x_e_ft⟩,⟨x_s_k,x_s_o,x_s_d,⟨x_s_ag,x_s_an⟩,⟨x_s_bg,x_s_bn⟩,x_s_nm,x_s_tg⟩⟩:Spot).c.buf.length)(A:List Blk)(nb:Nat):evOwnK false E (evC E fn (dp+4)) 66 A nb (some ([.agg [vi x_p_w,vi x_p_wn,vi x_p_fu,vi x_p_r0,vi x_p_r1,vi x_p_r2,vi x_p_r3,rowD x_p_ms,rowD x_p_ls,rowD x_p_is,vi x_c_r0,vi x_c_r1,vi x_c_r2,vi x_c_r3,rowD x_c_mm,rowD x_c_st,vi x_c_pc,rowD x_c_bf,rowD x_c_rb,vi x_c_en,vi x_i,vi x_e_pc,vi x_e_vl,vi x_e_ad,vi x_e_fr,vi x_e_nx,vb x_e_dn,vb x_e_kn,vb x_e_ft,vi x_s_k,vi x_s_o,vi x_s_d,vb x_s_ag,vi x_s_an,vb x_s_bg,vi x_s_bn,vt x_s_nm,vi x_s_tg],vi to],[]))=some (.made (.d (.tup [confD (Md.goesM (⟨⟨x_p_w,x_p_wn,x_p_fu,⟨x_p_r0,x_p_r1,x_p_r2,x_p_r3⟩,x_p_ms,x_p_ls,x_p_is⟩,⟨⟨⟨x_c_r0,x_c_r1,x_c_r2,x_c_r3⟩,x_c_mm,x_c_st,x_c_pc⟩,x_c_bf,x_c_rb,x_c_en⟩,x_i,⟨x_e_pc,x_e_vl,x_e_ad,x_e_fr,x_e_nx,x_e_dn,x_e_kn,x_e_ft⟩,⟨x_s_k,x_s_o,x_s_d,⟨x_s_ag,x_s_an⟩,⟨x_s_bg,x_s_bn⟩,x_s_nm,x_s_tg⟩⟩:Spot).c (⟨⟨x_p_w,x_p_wn,x_p_fu,⟨x_p_r0,x_p_r1,x_p_r2,x_p_r3⟩,x_p_ms,x_p_ls,x_p_is⟩,⟨⟨⟨x_c_r0,x_c_r1,x_c_r2,x_c_r3⟩,x_c_mm,x_c_st,x_c_pc⟩,x_c_bf,x_c_rb,x_c_en⟩,x_i,⟨x_e_pc,x_e_vl,x_e_ad,x_e_fr,x_e_nx,x_e_dn,x_e_kn,x_e_ft⟩,⟨x_s_k,x_s_o,x_s_d,⟨x_s_ag,x_s_an⟩,⟨x_s_bg,x_s_bn⟩,x_s_nm,x_s_tg⟩⟩:Spot).i (⟨⟨x_p_w,x_p_wn,x_p_fu,⟨x_p_r0,x_p_r1,x_p_r2,x_p_r3⟩,x_p_ms,x_p_ls,x_p_is⟩,⟨⟨⟨x_c_r0,x_c_r1,x_c_r2,x_c_r3⟩,x_c_mm,x_c_st,x_c_pc⟩,x_c_bf,x_c_rb,x_c_en⟩,x_i,⟨x_e_pc,x_e_vl,x_e_ad,x_e_fr,x_e_nx,x_e_dn,x_e_kn,x_e_ft⟩,⟨x_s_k,x_s_o,x_s_d,⟨x_s_ag,x_s_an⟩,⟨x_s_bg,x_s_bn⟩,x_s_nm,x_s_tg⟩⟩:Spot).e to).1,rowD (Md.goesM (⟨⟨x_p_w,x_p_wn,x_p_fu,⟨x_p_r0,x_p_r1,x_p_r2,x_p_r3⟩,x_p_ms,x_p_ls,x_p_is⟩,⟨⟨⟨x_c_r0,x_c_r1,x_c_r2,x_c_r3⟩,x_c_mm,x_c_st,x_c_pc⟩,x_c_bf,x_c_rb,x_c_en⟩,x_i,⟨x_e_pc,x_e_vl,x_e_ad,x_e_fr,x_e_nx,x_e_dn,x_e_kn,x_e_ft⟩,⟨x_s_k,x_s_o,x_s_d,⟨x_s_ag,x_s_an⟩,⟨x_s_bg,x_s_bn⟩,x_s_nm,x_s_tg⟩⟩:Spot).c (⟨⟨x_p_w,x_p_wn,x_p_fu,⟨x_p_r0,x_p_r1,x_p_r2,x_p_r3⟩,x_p_ms,x_p_ls,x_p_is⟩,⟨⟨⟨x_c_r0,x_c_r1,x_c_r2,x_c_r3⟩,x_c_mm,x_c_st,x_c_pc⟩,x_c_bf,x_c_rb,x_c_en⟩,x_i,⟨x_e_pc,x_e_vl,x_e_ad,x_e_fr,x_e_nx,x_e_dn,x_e_kn,x_e_ft⟩,⟨x_s_k,x_s_o,x_s_d,⟨x_s_ag,x_s_an⟩,⟨x_s_bg,x_s_bn⟩,x_s_nm,x_s_tg⟩⟩:Spot).i (⟨⟨x_p_w,x_p_wn,x_p_fu,⟨x_p_r0,x_p_r1,x_p_r2,x_p_r3⟩,x_p_ms,x_p_ls,x_p_is⟩,⟨⟨⟨x_c_r0,x_c_r1,x_c_r2,x_c_r3⟩,x_c_mm,x_c_st,x_c_pc⟩,x_c_bf,x_c_rb,x_c_en⟩,x_i,⟨x_e_pc,x_e_vl,x_e_ad,x_e_fr,x_e_nx,x_e_dn,x_e_kn,x_e_ft⟩,⟨x_s_k,x_s_o,x_s_d,⟨x_s_ag,x_s_an⟩,⟨x_s_bg,x_s_bn⟩,x_s_nm,x_s_tg⟩⟩:Spot).e to).2,vb true])) []):=
 Says.deep (raw_exec_spot_goes S dp (⟨⟨x_p_w,x_p_wn,x_p_fu,⟨x_p_r0,x_p_r1,x_p_r2,x_p_r3⟩,x_p_ms,x_p_ls,x_p_is⟩,⟨⟨⟨x_c_r0,x_c_r1,x_c_r2,x_c_r3⟩,x_c_mm,x_c_st,x_c_pc⟩,x_c_bf,x_c_rb,x_c_en⟩,x_i,⟨x_e_pc,x_e_vl,x_e_ad,x_e_fr,x_e_nx,x_e_dn,x_e_kn,x_e_ft⟩,⟨x_s_k,x_s_o,x_s_d,⟨x_s_ag,x_s_an⟩,⟨x_s_bg,x_s_bn⟩,x_s_nm,x_s_tg⟩⟩:Spot) to hm hs hl hr h0 h1) (np S 66 (by decide)) A nb
theorem raw_exec_spot_back (dp:Nat)(x:Spot)(hm:x.c.state.mem.length<1073741824)(hs:x.c.state.stack.length<1073741824)(hl:x.c.buf.length<1073741824)(hr:x.c.rsb.length<1073741824)(h0:0<=x.i)(h1:x.i<x.c.buf.length)(hg:(getO (Md.real x.p x.c.state.stack x.c.buf x.i)).length<1073741824):Says E fn (dp+5) 68 [spotD x] (.tup [confD (Md.doK (cellsI x.p.mems) x.p x.c x.i x.e ⟨9,0,0,⟨false,0⟩,⟨false,0⟩,⟨#[]⟩,0⟩ 0 0 0).1,rowD (Md.doK (cellsI x.p.mems) x.p x.c x.i x.e ⟨9,0,0,⟨false,0⟩,⟨false,0⟩,⟨#[]⟩,0⟩ 0 0 0).2,vb true]):=by
 unfold Says
 show ansOf (evC E fn (dp+4+1) 68 [.d (spotD x)] [])=_
 rw[evC_succ,S.f_exec_spot_back,apF_some,F_exec_spot_back,mkF_run _ _ _ _ _ _ _ _ rfl]
 cases hreal:Md.real x.p x.c.state.stack x.c.buf x.i with
 | none=>simp only[eG,go_sem,thq S,nbr S,zN0,zN1,zN2,zN3,zN4,zI0,zI1,zI2,zI3,reduceCtorEq,o68_18 S,c_retb_Real S,c_retb_Pop S,c_exec_spot_put S,c_exec_spot_goes S,hm,hs,hl,hr,h0,h1,Md.doK,zI0,if_true,if_false,hreal,show boolO (none:Option (List Int))=false from rfl,Bool.not_false,Bool.not_true,show(getO none).length=0 from rfl,show(0:Nat)<1073741824 by decide]
 | some r=>
  rw[hreal] at hg
  have hg':r.length<1073741824:=hg
  by_cases hz:r.length=0
  ·simp only[eG,go_sem,thq S,nbr S,zN0,zN1,zN2,zN3,zN4,zI0,zI1,zI2,zI3,reduceCtorEq,o68_18 S,c_retb_Real S,c_retb_Pop S,c_exec_spot_put S,c_exec_spot_goes S,hm,hs,hl,hr,h0,h1,Md.doK,zI0,if_true,if_false,hreal,getO,boolO,Bool.not_false,Bool.not_true,hg',ne_eq,eq_true hz,not_true_eq_false]
  ·simp only[eG,go_sem,thq S,nbr S,zN0,zN1,zN2,zN3,zN4,zI0,zI1,zI2,zI3,reduceCtorEq,o68_18 S,c_retb_Real S,c_retb_Pop S,c_exec_spot_put S,c_exec_spot_goes S,hm,hs,hl,hr,h0,h1,Md.doK,zI0,if_true,if_false,hreal,getO,boolO,Bool.not_false,Bool.not_true,hg',ne_eq,eq_false hz,not_false_eq_true]
theorem c_exec_spot_back (dp:Nat)(x_p_w x_p_wn x_p_fu x_p_r0 x_p_r1 x_p_r2 x_p_r3:Int)(x_p_ms:List MemT)(x_p_ls:List Label)(x_p_is:List Ins)(x_c_r0 x_c_r1 x_c_r2 x_c_r3:Int)(x_c_mm x_c_st:List Int)(x_c_pc:Int)(x_c_bf:List Ent)(x_c_rb:List Int)(x_c_en x_i x_e_pc x_e_vl x_e_ad x_e_fr x_e_nx:Int)(x_e_dn x_e_kn x_e_ft:Bool)(x_s_k x_s_o x_s_d:Int)(x_s_ag:Bool)(x_s_an:Int)(x_s_bg:Bool)(x_s_bn:Int)(x_s_nm:ByteArray)(x_s_tg:Int)(hm:(⟨⟨x_p_w,x_p_wn,x_p_fu,⟨x_p_r0,x_p_r1,x_p_r2,x_p_r3⟩,x_p_ms,x_p_ls,x_p_is⟩,⟨⟨⟨x_c_r0,x_c_r1,x_c_r2,x_c_r3⟩,x_c_mm,x_c_st,x_c_pc⟩,x_c_bf,x_c_rb,x_c_en⟩,x_i,⟨x_e_pc,x_e_vl,x_e_ad,x_e_fr,x_e_nx,x_e_dn,x_e_kn,x_e_ft⟩,⟨x_s_k,x_s_o,x_s_d,⟨x_s_ag,x_s_an⟩,⟨x_s_bg,x_s_bn⟩,x_s_nm,x_s_tg⟩⟩:Spot).c.state.mem.length<1073741824)(hs:(⟨⟨x_p_w,x_p_wn,x_p_fu,⟨x_p_r0,x_p_r1,x_p_r2,x_p_r3⟩,x_p_ms,x_p_ls,x_p_is⟩,⟨⟨⟨x_c_r0,x_c_r1,x_c_r2,x_c_r3⟩,x_c_mm,x_c_st,x_c_pc⟩,x_c_bf,x_c_rb,x_c_en⟩,x_i,⟨x_e_pc,x_e_vl,x_e_ad,x_e_fr,x_e_nx,x_e_dn,x_e_kn,x_e_ft⟩,⟨x_s_k,x_s_o,x_s_d,⟨x_s_ag,x_s_an⟩,⟨x_s_bg,x_s_bn⟩,x_s_nm,x_s_tg⟩⟩:Spot).c.state.stack.length<1073741824)(hl:(⟨⟨x_p_w,x_p_wn,x_p_fu,⟨x_p_r0,x_p_r1,x_p_r2,x_p_r3⟩,x_p_ms,x_p_ls,x_p_is⟩,⟨⟨⟨x_c_r0,x_c_r1,x_c_r2,x_c_r3⟩,x_c_mm,x_c_st,x_c_pc⟩,x_c_bf,x_c_rb,x_c_en⟩,x_i,⟨x_e_pc,x_e_vl,x_e_ad,x_e_fr,x_e_nx,x_e_dn,x_e_kn,x_e_ft⟩,⟨x_s_k,x_s_o,x_s_d,⟨x_s_ag,x_s_an⟩,⟨x_s_bg,x_s_bn⟩,x_s_nm,x_s_tg⟩⟩:Spot).c.buf.length<1073741824)(hr:(⟨⟨x_p_w,x_p_wn,x_p_fu,⟨x_p_r0,x_p_r1,x_p_r2,x_p_r3⟩,x_p_ms,x_p_ls,x_p_is⟩,⟨⟨⟨x_c_r0,x_c_r1,x_c_r2,x_c_r3⟩,x_c_mm,x_c_st,x_c_pc⟩,x_c_bf,x_c_rb,x_c_en⟩,x_i,⟨x_e_pc,x_e_vl,x_e_ad,x_e_fr,x_e_nx,x_e_dn,x_e_kn,x_e_ft⟩,⟨x_s_k,x_s_o,x_s_d,⟨x_s_ag,x_s_an⟩,⟨x_s_bg,x_s_bn⟩,x_s_nm,x_s_tg⟩⟩:Spot).c.rsb.length<1073741824)(h0:0<=(⟨⟨x_p_w,x_p_wn,x_p_fu,⟨x_p_r0,x_p_r1,x_p_r2,x_p_r3⟩,x_p_ms,x_p_ls,x_p_is⟩,⟨⟨⟨x_c_r0,x_c_r1,x_c_r2,x_c_r3⟩,x_c_mm,x_c_st,x_c_pc⟩,x_c_bf,x_c_rb,x_c_en⟩,x_i,⟨x_e_pc,x_e_vl,x_e_ad,x_e_fr,x_e_nx,x_e_dn,x_e_kn,x_e_ft⟩,⟨x_s_k,x_s_o,x_s_d,⟨x_s_ag,x_s_an⟩,⟨x_s_bg,x_s_bn⟩,x_s_nm,x_s_tg⟩⟩:Spot).i)(h1:(⟨⟨x_p_w,x_p_wn,x_p_fu,⟨x_p_r0,x_p_r1,x_p_r2,x_p_r3⟩,x_p_ms,x_p_ls,x_p_is⟩,⟨⟨⟨x_c_r0,x_c_r1,x_c_r2,x_c_r3⟩,x_c_mm,x_c_st,x_c_pc⟩,x_c_bf,x_c_rb,x_c_en⟩,x_i,⟨x_e_pc,x_e_vl,x_e_ad,x_e_fr,x_e_nx,x_e_dn,x_e_kn,x_e_ft⟩,⟨x_s_k,x_s_o,x_s_d,⟨x_s_ag,x_s_an⟩,⟨x_s_bg,x_s_bn⟩,x_s_nm,x_s_tg⟩⟩:Spot).i<(⟨⟨x_p_w,x_p_wn,x_p_fu,⟨x_p_r0,x_p_r1,x_p_r2,x_p_r3⟩,x_p_ms,x_p_ls,x_p_is⟩,⟨⟨⟨x_c_r0,x_c_r1,x_c_r2,x_c_r3⟩,x_c_mm,x_c_st,x_c_pc⟩,x_c_bf,x_c_rb,x_c_en⟩,x_i,⟨x_e_pc,x_e_vl,x_e_ad,x_e_fr,x_e_nx,x_e_dn,x_e_kn,x_e_ft⟩,⟨x_s_k,x_s_o,x_s_d,⟨x_s_ag,x_s_an⟩,⟨x_s_bg,x_s_bn⟩,x_s_nm,x_s_tg⟩⟩:Spot).c.buf.length)(hg:(getO (Md.real (⟨⟨x_p_w,x_p_wn,x_p_fu,⟨x_p_r0,x_p_r1,x_p_r2,x_p_r3⟩,x_p_ms,x_p_ls,x_p_is⟩,⟨⟨⟨x_c_r0,x_c_r1,x_c_r2,x_c_r3⟩,x_c_mm,x_c_st,x_c_pc⟩,x_c_bf,x_c_rb,x_c_en⟩,x_i,⟨x_e_pc,x_e_vl,x_e_ad,x_e_fr,x_e_nx,x_e_dn,x_e_kn,x_e_ft⟩,⟨x_s_k,x_s_o,x_s_d,⟨x_s_ag,x_s_an⟩,⟨x_s_bg,x_s_bn⟩,x_s_nm,x_s_tg⟩⟩:Spot).p (⟨⟨x_p_w,x_p_wn,x_p_fu,⟨x_p_r0,x_p_r1,x_p_r2,x_p_r3⟩,x_p_ms,x_p_ls,x_p_is⟩,⟨⟨⟨x_c_r0,x_c_r1,x_c_r2,x_c_r3⟩,x_c_mm,x_c_st,x_c_pc⟩,x_c_bf,x_c_rb,x_c_en⟩,x_i,⟨x_e_pc,x_e_vl,x_e_ad,x_e_fr,x_e_nx,x_e_dn,x_e_kn,x_e_ft⟩,⟨x_s_k,x_s_o,x_s_d,⟨x_s_ag,x_s_an⟩,⟨x_s_bg,x_s_bn⟩,x_s_nm,x_s_tg⟩⟩:Spot).c.state.stack (⟨⟨x_p_w,x_p_wn,x_p_fu,⟨x_p_r0,x_p_r1,x_p_r2,x_p_r3⟩,x_p_ms,x_p_ls,x_p_is⟩,⟨⟨⟨x_c_r0,x_c_r1,x_c_r2,x_c_r3⟩,x_c_mm,x_c_st,x_c_pc⟩,x_c_bf,x_c_rb,x_c_en⟩,x_i,⟨x_e_pc,x_e_vl,x_e_ad,x_e_fr,x_e_nx,x_e_dn,x_e_kn,x_e_ft⟩,⟨x_s_k,x_s_o,x_s_d,⟨x_s_ag,x_s_an⟩,⟨x_s_bg,x_s_bn⟩,x_s_nm,x_s_tg⟩⟩:Spot).c.buf (⟨⟨x_p_w,x_p_wn,x_p_fu,⟨x_p_r0,x_p_r1,x_p_r2,x_p_r3⟩,x_p_ms,x_p_ls,x_p_is⟩,⟨⟨⟨x_c_r0,x_c_r1,x_c_r2,x_c_r3⟩,x_c_mm,x_c_st,x_c_pc⟩,x_c_bf,x_c_rb,x_c_en⟩,x_i,⟨x_e_pc,x_e_vl,x_e_ad,x_e_fr,x_e_nx,x_e_dn,x_e_kn,x_e_ft⟩,⟨x_s_k,x_s_o,x_s_d,⟨x_s_ag,x_s_an⟩,⟨x_s_bg,x_s_bn⟩,x_s_nm,x_s_tg⟩⟩:Spot).i)).length<1073741824)(A:List Blk)(nb:Nat):evOwnK false E (evC E fn (dp+5)) 68 A nb (some ([.agg [vi x_p_w,vi x_p_wn,vi x_p_fu,vi x_p_r0,vi x_p_r1,vi x_p_r2,vi x_p_r3,rowD x_p_ms,rowD x_p_ls,rowD x_p_is,vi x_c_r0,vi x_c_r1,vi x_c_r2,vi x_c_r3,rowD x_c_mm,rowD x_c_st,vi x_c_pc,rowD x_c_bf,rowD x_c_rb,vi x_c_en,vi x_i,vi x_e_pc,vi x_e_vl,vi x_e_ad,vi x_e_fr,vi x_e_nx,vb x_e_dn,vb x_e_kn,vb x_e_ft,vi x_s_k,vi x_s_o,vi x_s_d,vb x_s_ag,vi x_s_an,vb x_s_bg,vi x_s_bn,vt x_s_nm,vi x_s_tg]],[]))=some (.made (.d (.tup [confD (Md.doK (cellsI (⟨⟨x_p_w,x_p_wn,x_p_fu,⟨x_p_r0,x_p_r1,x_p_r2,x_p_r3⟩,x_p_ms,x_p_ls,x_p_is⟩,⟨⟨⟨x_c_r0,x_c_r1,x_c_r2,x_c_r3⟩,x_c_mm,x_c_st,x_c_pc⟩,x_c_bf,x_c_rb,x_c_en⟩,x_i,⟨x_e_pc,x_e_vl,x_e_ad,x_e_fr,x_e_nx,x_e_dn,x_e_kn,x_e_ft⟩,⟨x_s_k,x_s_o,x_s_d,⟨x_s_ag,x_s_an⟩,⟨x_s_bg,x_s_bn⟩,x_s_nm,x_s_tg⟩⟩:Spot).p.mems) (⟨⟨x_p_w,x_p_wn,x_p_fu,⟨x_p_r0,x_p_r1,x_p_r2,x_p_r3⟩,x_p_ms,x_p_ls,x_p_is⟩,⟨⟨⟨x_c_r0,x_c_r1,x_c_r2,x_c_r3⟩,x_c_mm,x_c_st,x_c_pc⟩,x_c_bf,x_c_rb,x_c_en⟩,x_i,⟨x_e_pc,x_e_vl,x_e_ad,x_e_fr,x_e_nx,x_e_dn,x_e_kn,x_e_ft⟩,⟨x_s_k,x_s_o,x_s_d,⟨x_s_ag,x_s_an⟩,⟨x_s_bg,x_s_bn⟩,x_s_nm,x_s_tg⟩⟩:Spot).p (⟨⟨x_p_w,x_p_wn,x_p_fu,⟨x_p_r0,x_p_r1,x_p_r2,x_p_r3⟩,x_p_ms,x_p_ls,x_p_is⟩,⟨⟨⟨x_c_r0,x_c_r1,x_c_r2,x_c_r3⟩,x_c_mm,x_c_st,x_c_pc⟩,x_c_bf,x_c_rb,x_c_en⟩,x_i,⟨x_e_pc,x_e_vl,x_e_ad,x_e_fr,x_e_nx,x_e_dn,x_e_kn,x_e_ft⟩,⟨x_s_k,x_s_o,x_s_d,⟨x_s_ag,x_s_an⟩,⟨x_s_bg,x_s_bn⟩,x_s_nm,x_s_tg⟩⟩:Spot).c (⟨⟨x_p_w,x_p_wn,x_p_fu,⟨x_p_r0,x_p_r1,x_p_r2,x_p_r3⟩,x_p_ms,x_p_ls,x_p_is⟩,⟨⟨⟨x_c_r0,x_c_r1,x_c_r2,x_c_r3⟩,x_c_mm,x_c_st,x_c_pc⟩,x_c_bf,x_c_rb,x_c_en⟩,x_i,⟨x_e_pc,x_e_vl,x_e_ad,x_e_fr,x_e_nx,x_e_dn,x_e_kn,x_e_ft⟩,⟨x_s_k,x_s_o,x_s_d,⟨x_s_ag,x_s_an⟩,⟨x_s_bg,x_s_bn⟩,x_s_nm,x_s_tg⟩⟩:Spot).i (⟨⟨x_p_w,x_p_wn,x_p_fu,⟨x_p_r0,x_p_r1,x_p_r2,x_p_r3⟩,x_p_ms,x_p_ls,x_p_is⟩,⟨⟨⟨x_c_r0,x_c_r1,x_c_r2,x_c_r3⟩,x_c_mm,x_c_st,x_c_pc⟩,x_c_bf,x_c_rb,x_c_en⟩,x_i,⟨x_e_pc,x_e_vl,x_e_ad,x_e_fr,x_e_nx,x_e_dn,x_e_kn,x_e_ft⟩,⟨x_s_k,x_s_o,x_s_d,⟨x_s_ag,x_s_an⟩,⟨x_s_bg,x_s_bn⟩,x_s_nm,x_s_tg⟩⟩:Spot).e ⟨9,0,0,⟨false,0⟩,⟨false,0⟩,⟨#[]⟩,0⟩ 0 0 0).1,rowD (Md.doK (cellsI (⟨⟨x_p_w,x_p_wn,x_p_fu,⟨x_p_r0,x_p_r1,x_p_r2,x_p_r3⟩,x_p_ms,x_p_ls,x_p_is⟩,⟨⟨⟨x_c_r0,x_c_r1,x_c_r2,x_c_r3⟩,x_c_mm,x_c_st,x_c_pc⟩,x_c_bf,x_c_rb,x_c_en⟩,x_i,⟨x_e_pc,x_e_vl,x_e_ad,x_e_fr,x_e_nx,x_e_dn,x_e_kn,x_e_ft⟩,⟨x_s_k,x_s_o,x_s_d,⟨x_s_ag,x_s_an⟩,⟨x_s_bg,x_s_bn⟩,x_s_nm,x_s_tg⟩⟩:Spot).p.mems) (⟨⟨x_p_w,x_p_wn,x_p_fu,⟨x_p_r0,x_p_r1,x_p_r2,x_p_r3⟩,x_p_ms,x_p_ls,x_p_is⟩,⟨⟨⟨x_c_r0,x_c_r1,x_c_r2,x_c_r3⟩,x_c_mm,x_c_st,x_c_pc⟩,x_c_bf,x_c_rb,x_c_en⟩,x_i,⟨x_e_pc,x_e_vl,x_e_ad,x_e_fr,x_e_nx,x_e_dn,x_e_kn,x_e_ft⟩,⟨x_s_k,x_s_o,x_s_d,⟨x_s_ag,x_s_an⟩,⟨x_s_bg,x_s_bn⟩,x_s_nm,x_s_tg⟩⟩:Spot).p (⟨⟨x_p_w,x_p_wn,x_p_fu,⟨x_p_r0,x_p_r1,x_p_r2,x_p_r3⟩,x_p_ms,x_p_ls,x_p_is⟩,⟨⟨⟨x_c_r0,x_c_r1,x_c_r2,x_c_r3⟩,x_c_mm,x_c_st,x_c_pc⟩,x_c_bf,x_c_rb,x_c_en⟩,x_i,⟨x_e_pc,x_e_vl,x_e_ad,x_e_fr,x_e_nx,x_e_dn,x_e_kn,x_e_ft⟩,⟨x_s_k,x_s_o,x_s_d,⟨x_s_ag,x_s_an⟩,⟨x_s_bg,x_s_bn⟩,x_s_nm,x_s_tg⟩⟩:Spot).c (⟨⟨x_p_w,x_p_wn,x_p_fu,⟨x_p_r0,x_p_r1,x_p_r2,x_p_r3⟩,x_p_ms,x_p_ls,x_p_is⟩,⟨⟨⟨x_c_r0,x_c_r1,x_c_r2,x_c_r3⟩,x_c_mm,x_c_st,x_c_pc⟩,x_c_bf,x_c_rb,x_c_en⟩,x_i,⟨x_e_pc,x_e_vl,x_e_ad,x_e_fr,x_e_nx,x_e_dn,x_e_kn,x_e_ft⟩,⟨x_s_k,x_s_o,x_s_d,⟨x_s_ag,x_s_an⟩,⟨x_s_bg,x_s_bn⟩,x_s_nm,x_s_tg⟩⟩:Spot).i (⟨⟨x_p_w,x_p_wn,x_p_fu,⟨x_p_r0,x_p_r1,x_p_r2,x_p_r3⟩,x_p_ms,x_p_ls,x_p_is⟩,⟨⟨⟨x_c_r0,x_c_r1,x_c_r2,x_c_r3⟩,x_c_mm,x_c_st,x_c_pc⟩,x_c_bf,x_c_rb,x_c_en⟩,x_i,⟨x_e_pc,x_e_vl,x_e_ad,x_e_fr,x_e_nx,x_e_dn,x_e_kn,x_e_ft⟩,⟨x_s_k,x_s_o,x_s_d,⟨x_s_ag,x_s_an⟩,⟨x_s_bg,x_s_bn⟩,x_s_nm,x_s_tg⟩⟩:Spot).e ⟨9,0,0,⟨false,0⟩,⟨false,0⟩,⟨#[]⟩,0⟩ 0 0 0).2,vb true])) []):=
 Says.deep (raw_exec_spot_back S dp (⟨⟨x_p_w,x_p_wn,x_p_fu,⟨x_p_r0,x_p_r1,x_p_r2,x_p_r3⟩,x_p_ms,x_p_ls,x_p_is⟩,⟨⟨⟨x_c_r0,x_c_r1,x_c_r2,x_c_r3⟩,x_c_mm,x_c_st,x_c_pc⟩,x_c_bf,x_c_rb,x_c_en⟩,x_i,⟨x_e_pc,x_e_vl,x_e_ad,x_e_fr,x_e_nx,x_e_dn,x_e_kn,x_e_ft⟩,⟨x_s_k,x_s_o,x_s_d,⟨x_s_ag,x_s_an⟩,⟨x_s_bg,x_s_bn⟩,x_s_nm,x_s_tg⟩⟩:Spot) hm hs hl hr h0 h1 hg) (np S 68 (by decide)) A nb
end
set_option maxRecDepth 200000
def doC (N:Int)(p:Prog)(c:Conf)(i:Int):Conf×List Obs:=bif Md.can N p c i then Md.doM N p c i else(Md.conf0,[])
theorem can_open {N:Int}{p:Prog}{c:Conf}{i:Int}(h:Md.can N p c i=true):Md.openM p c i=true:=by
 simp only[Md.can,Bool.and_eq_true] at h;exact h.1.1
variable {E:Env} {fn:FuncId->Option (Env->CallT->CallT)}
section
variable (S:Sur E fn)
include S
theorem o35_19:E.lives 35 7=none/\E.lives 35 25=none/\E.lives 35 27=none/\E.lives 35 31=none/\E.lives 35 35=none/\E.lives 35 37=none/\E.lives 35 41=none/\E.lives 35 45=none/\E.lives 35 49=none:=⟨off S 35 7 (by decide) rfl,off S 35 25 (by decide) rfl,off S 35 27 (by decide) rfl,off S 35 31 (by decide) rfl,off S 35 35 (by decide) rfl,off S 35 37 (by decide) rfl,off S 35 41 (by decide) rfl,off S 35 45 (by decide) rfl,off S 35 49 (by decide) rfl⟩
theorem raw_exec_Do (dp:Nat)(p:Prog)(c:Conf)(i:Int)(hp:p.mems.length<1073741824)(hm:c.state.mem.length<1073741824)(hs:c.state.stack.length<1073741824)(hl:c.buf.length<1073741824)(hr:c.rsb.length<1073741824)(hg:(getO (Md.real p c.state.stack c.buf i)).length<1073741824):Says E fn (dp+10) 35 [progD p,confD c,vi i] (.tup [confD (doC (cellsI p.mems) p c i).1,rowD (doC (cellsI p.mems) p c i).2,vb (Md.can (cellsI p.mems) p c i)]):=by
 unfold Says
 show ansOf (evC E fn (dp+9+1) 35 [.d (progD p),.d (confD c),.d (vi i)] [])=_
 rw[evC_succ,S.f_exec_Do,apF_some,F_exec_Do,mkF_run _ _ _ _ _ _ _ _ rfl]
 cases hcan:Md.can (cellsI p.mems) p c i with
 | false=>simp only[eG,go_sem,thq S,nbr S,Nat.reduceLT,Nat.reduceEqDiff,Nat.reduceAdd,Nat.reduceMul,Nat.reduceLeDiff,Int.reduceEq,Int.reduceLT,Int.reduceLE,Int.reduceNeg,reduceCtorEq,o35_19 S,c_exec_Can S,hl,hp,hcan,Bool.not_false,doC,Md.conf0]
 | true=>
  have ho:=can_open hcan
  obtain⟨h0,he,h1⟩:=open_get ho
  simp only[eG,go_sem,thq S,nbr S,Nat.reduceLT,Nat.reduceEqDiff,Nat.reduceAdd,Nat.reduceMul,Nat.reduceLeDiff,Int.reduceEq,Int.reduceLT,Int.reduceLE,Int.reduceNeg,reduceCtorEq,o35_19 S,c_exec_Can S,hl,hp,hm,hs,hr,hg,h0,h1,hcan,Bool.not_true,c_exec_at S,ho,spotOf,c_exec_spot_val S,c_exec_spot_held S,c_seqm_Value S,c_seqm_Way S,c_exec_spot_load S,c_exec_spot_put S,c_exec_spot_goes S,c_exec_spot_back S,doC,Md.doM,Md.put,rep1',deep_sr,Nat.one_ne_zero,Nat.one_mul,Nat.le_refl,Nat.succ_ne_zero,valueM,wayM]
  by_cases k1:(Md.insM p c i).kind=1
  ·simp only[k1,Md.doK,Md.put,if_true,if_false,Int.reduceEq,decide_true,cond_true];rfl
  by_cases k4:(Md.insM p c i).kind=4
  ·simp only[k4,Md.doK,Md.put,if_true,if_false,Int.reduceEq,decide_true,decide_false,cond_true,cond_false];rfl
  by_cases k3:(Md.insM p c i).kind=3
  ·simp only[k3,Md.doK,Md.put,if_true,if_false,Int.reduceEq,decide_true,decide_false,cond_true,cond_false];rfl
  by_cases k5:(Md.insM p c i).kind=5
  ·simp only[k5,Md.doK,if_true,if_false,Int.reduceEq,decide_true,decide_false,cond_true,cond_false]
  by_cases k7:(Md.insM p c i).kind=7
  ·simp only[k7,Md.doK,if_true,if_false,Int.reduceEq,decide_true,decide_false,cond_true,cond_false]
  by_cases k9:(Md.insM p c i).kind=9
  ·simp only[k9,Md.doK,if_true,if_false,Int.reduceEq,decide_true,decide_false,cond_true,cond_false]
  by_cases k2:(Md.insM p c i).kind=2
  ·have hab:abOf ⟨p,c,i,Md.entAt c.buf i,Md.insM p c i⟩=true:=by
    have h:=hcan
    simp only[Md.can,Md.ready,k2,Int.reduceEq,or_self,if_false,if_true,Bool.and_eq_true] at h
    show((Md.valM p c i (Md.insM p c i).a).2&&(Md.valM p c i (Md.insM p c i).b).2)=true
    rw[h.2.1.1,h.2.1.2];rfl
   have had:adOf ⟨p,c,i,Md.entAt c.buf i,Md.insM p c i⟩=Md.mask p.w ((Md.valM p c i (Md.insM p c i).a).1+(Md.valM p c i (Md.insM p c i).b).1):=rfl
   by_cases hin:Md.mask p.w ((Md.valM p c i (Md.insM p c i).a).1+(Md.valM p c i (Md.insM p c i).b).1)<cellsI p.mems
   ·have hin' : inOf ⟨p, c, i, Md.entAt c.buf i, Md.insM p c i⟩ = true := by unfold inOf; rw [had]; exact decide_eq_true hin
    simp only[k2,loadE,hab,hin',had,Md.doK,Md.put,if_true,if_false,Int.reduceEq,decide_true,decide_false,cond_true,cond_false,ge_iff_le,Int.not_le.2 hin];rfl
   ·have hin' : inOf ⟨p, c, i, Md.entAt c.buf i, Md.insM p c i⟩ = false := by unfold inOf; rw [had]; exact decide_eq_false hin
    simp only[k2,loadE,hab,hin',had,Md.doK,Md.put,if_true,if_false,Int.reduceEq,decide_true,decide_false,cond_true,cond_false,ge_iff_le,Int.not_lt.1 hin];rfl
  ·simp only[k1,k2,k3,k4,k5,k7,k9,Md.doK,Md.put,if_true,if_false,Int.reduceEq,decide_true,decide_false,cond_true,cond_false];rfl
end
theorem hazGo_lt (p:Prog)(i addr:Int):∀(l:List Ent) (k:Nat),(Md.hazGo p i addr k l).2=true->(k:Int)<=(Md.hazGo p i addr k l).1/\(Md.hazGo p i addr k l).1<k+l.length
 | [],_,h=>by cases h
 | e::l,k,h=>by
  unfold Md.hazGo at h ⊢
  cases hh:Md.hitL p i addr e with
  | true=>simp;omega
  | false=>
   rw[hh] at h
   simp only[cond_false] at h ⊢
   have:=hazGo_lt p i addr l (k+1) h
   simp only[List.length_cons]
   omega
theorem haz_lt {p:Prog}{l:List Ent}{i addr:Int}(h:(Md.hazard p l i addr).2=true):0<=(Md.hazard p l i addr).1/\(Md.hazard p l i addr).1<l.length:=by
 have:=hazGo_lt p i addr _ _ h
 unfold Md.hazard
 rw[List.length_drop] at this
 omega
def addrC (N:Int)(p:Prog)(c:Conf)(i:Int):Conf×List Obs:=bif Md.canAddr p c i then Md.addrM N p c i else(Md.conf0,[])
theorem canAddr_open {p:Prog}{c:Conf}{i:Int}(h:Md.canAddr p c i=true):Md.openM p c i=true:=by
 simp only[Md.canAddr,Bool.and_eq_true] at h;exact h.1.1.1.1
variable {E:Env} {fn:FuncId->Option (Env->CallT->CallT)}
section
variable (S:Sur E fn)
include S
theorem o33_20:E.lives 33 9=none:=off S 33 9 (by decide) rfl
theorem o36_20:E.lives 36 7=none/\E.lives 36 23=none/\E.lives 36 29=none:=⟨off S 36 7 (by decide) rfl,off S 36 23 (by decide) rfl,off S 36 29 (by decide) rfl⟩
theorem raw_exec_CanAddr (dp:Nat)(p:Prog)(c:Conf)(i:Int)(hl:c.buf.length<1073741824):Says E fn (dp+7) 33 [progD p,confD c,vi i] (vb (Md.canAddr p c i)):=by
 unfold Says
 show ansOf (evC E fn (dp+6+1) 33 [.d (progD p),.d (confD c),.d (vi i)] [])=_
 rw[evC_succ,S.f_exec_CanAddr,apF_some,F_exec_CanAddr,mkF_run _ _ _ _ _ _ _ _ rfl]
 cases ho:Md.openM p c i with
 | false=>simp only[eG,go_sem,thq S,nbr S,zN0,zN1,zN2,zN3,zN4,zI0,zI1,zI2,zI3,reduceCtorEq,o33_20 S,c_exec_at S,hl,ho,Bool.not_false,Md.canAddr]
 | true=>
  by_cases k3:(Md.insM p c i).kind=3
  ·cases hk : (Md.entAt c.buf i).known with
   | true=>simp only[eG,go_sem,thq S,nbr S,zN0,zN1,zN2,zN3,zN4,zI0,zI1,zI2,zI3,reduceCtorEq,o33_20 S,c_exec_at S,hl,ho,spotOf,eq_true k3,hk,Bool.not_true,Md.canAddr]
   | false=>
    have hk2:(spotOf p c i).e.known=false:=hk
    simp only[eG,go_sem,thq S,nbr S,zN0,zN1,zN2,zN3,zN4,zI0,zI1,zI2,zI3,reduceCtorEq,o33_20 S,c_exec_at S,hl,ho,spotOf,eq_true k3,hk,Bool.not_true,Bool.not_false,Md.canAddr,c_exec_spot_two S]
  ·simp only[eG,go_sem,thq S,nbr S,zN0,zN1,zN2,zN3,zN4,zI0,zI1,zI2,zI3,reduceCtorEq,o33_20 S,c_exec_at S,hl,ho,spotOf,eq_false k3,Bool.not_true,Bool.not_false,Md.canAddr]
theorem c_exec_CanAddr (dp:Nat)(p_w p_wn p_fu p_r0 p_r1 p_r2 p_r3:Int)(p_ms:List MemT)(p_ls:List Label)(p_is:List Ins)(c_r0 c_r1 c_r2 c_r3:Int)(c_mm c_st:List Int)(c_pc:Int)(c_bf:List Ent)(c_rb:List Int)(c_en i:Int)(hl:(⟨⟨⟨c_r0,c_r1,c_r2,c_r3⟩,c_mm,c_st,c_pc⟩,c_bf,c_rb,c_en⟩:Conf).buf.length<1073741824)(A:List Blk)(nb:Nat)(us:List Nat):evOwnK false E (evC E fn (dp+7)) 33 A nb (some ([.agg [vi p_w,vi p_wn,vi p_fu,vi p_r0,vi p_r1,vi p_r2,vi p_r3,rowD p_ms,rowD p_ls,rowD p_is],.agg [vi c_r0,vi c_r1,vi c_r2,vi c_r3,rowD c_mm,rowD c_st,vi c_pc,rowD c_bf,rowD c_rb,vi c_en],vi i],us))=some (.made (.d (vb (Md.canAddr (⟨p_w,p_wn,p_fu,⟨p_r0,p_r1,p_r2,p_r3⟩,p_ms,p_ls,p_is⟩:Prog) (⟨⟨⟨c_r0,c_r1,c_r2,c_r3⟩,c_mm,c_st,c_pc⟩,c_bf,c_rb,c_en⟩:Conf) i))) []):=
 Says.flat (raw_exec_CanAddr S dp (⟨p_w,p_wn,p_fu,⟨p_r0,p_r1,p_r2,p_r3⟩,p_ms,p_ls,p_is⟩:Prog) (⟨⟨⟨c_r0,c_r1,c_r2,c_r3⟩,c_mm,c_st,c_pc⟩,c_bf,c_rb,c_en⟩:Conf) i hl) (np S 33 (by decide)) (rfl) A nb us
theorem raw_exec_Addr (dp:Nat)(p:Prog)(c:Conf)(i:Int)(hp:p.mems.length<1073741824)(hm:c.state.mem.length<1073741824)(hs:c.state.stack.length<1073741824)(hl:c.buf.length<1073741824)(hr:c.rsb.length<1073741824):Says E fn (dp+8) 36 [progD p,confD c,vi i] (.tup [confD (addrC (cellsI p.mems) p c i).1,rowD (addrC (cellsI p.mems) p c i).2,vb (Md.canAddr p c i)]):=by
 unfold Says
 show ansOf (evC E fn (dp+7+1) 36 [.d (progD p),.d (confD c),.d (vi i)] [])=_
 rw[evC_succ,S.f_exec_Addr,apF_some,F_exec_Addr,mkF_run _ _ _ _ _ _ _ _ rfl]
 cases hcan:Md.canAddr p c i with
 | false=>simp only[eG,go_sem,thq S,nbr S,zN0,zN1,zN2,zN3,zN4,zI0,zI1,zI2,zI3,reduceCtorEq,o36_20 S,c_exec_CanAddr S,hl,hp,hcan,Bool.not_false,addrC,Md.conf0]
 | true=>
  have ho:=canAddr_open hcan
  obtain⟨h0,he,h1⟩:=open_get ho
  have had:Md.mask p.w ((Md.valM p c i (Md.insM p c i).a).1+(Md.valM p c i (Md.insM p c i).b).1)=Md.addrOf p c i:=rfl
  by_cases hin:Md.addrOf p c i<cellsI p.mems
  ·have hge : ¬ Md.addrOf p c i >= cellsI p.mems := by omega
   have hlen:∀ e,(c.buf.set i.toNat e).length=c.buf.length:=fun e=>List.length_set
   generalize hL:c.buf.set i.toNat { Md.entAt c.buf i with addr:=Md.addrOf p c i,known:=true,fault:=false }=L
   have hLl:L.length<1073741824:=by rw[<-hL,hlen];exact hl
   cases hz:(Md.hazard p L i (Md.addrOf p c i)).2 with
   | false=>simp only[eG,go_sem,thq S,nbr S,zN0,zN1,zN2,zN3,zN4,zI0,zI1,zI2,zI3,reduceCtorEq,o36_20 S,c_exec_CanAddr S,hl,hp,hm,hs,hr,h0,h1,hcan,Bool.not_true,Bool.not_false,c_exec_at S,ho,spotOf,c_exec_spot_two S,c_seqm_Address S,had,c_exec_spot_put S,addrC,Md.addrM,Md.addrK,Md.put,rep1',deep_sr,Nat.one_ne_zero,Nat.one_mul,Nat.le_refl,Nat.succ_ne_zero,hin,hge,hL,hLl,c_memo_Hazard S,hz,show i<4611686018427387904 by omega,show -4611686018427387904<i by omega,Md.drop1];rfl
   | true=>
    obtain⟨z0,z1⟩:=haz_lt hz
    obtain⟨e2,he2⟩:=get_of (show(Md.hazard p L i (Md.addrOf p c i)).1.toNat<L.length by omega)
    have he3:Md.entAt L (Md.hazard p L i (Md.addrOf p c i)).1=e2:=by unfold Md.entAt;rw[he2];rfl
    simp only[eG,go_sem,thq S,nbr S,zN0,zN1,zN2,zN3,zN4,zI0,zI1,zI2,zI3,reduceCtorEq,o36_20 S,c_exec_CanAddr S,hl,hp,hm,hs,hr,h0,h1,hcan,Bool.not_true,Bool.not_false,c_exec_at S,ho,spotOf,c_exec_spot_two S,c_seqm_Address S,had,c_exec_spot_put S,addrC,Md.addrM,Md.addrK,Md.put,rep1',deep_sr,Nat.one_ne_zero,Nat.one_mul,Nat.le_refl,Nat.succ_ne_zero,hin,hge,hL,hLl,c_memo_Hazard S,hz,show i<4611686018427387904 by omega,show -4611686018427387904<i by omega,Md.drop1,w_ixI z0 he2,he3,c_robq_Cut S,Md.cut];rfl
  ·have hge : Md.addrOf p c i >= cellsI p.mems := by omega
   simp only[eG,go_sem,thq S,nbr S,zN0,zN1,zN2,zN3,zN4,zI0,zI1,zI2,zI3,reduceCtorEq,o36_20 S,c_exec_CanAddr S,hl,hp,hm,hs,hr,h0,h1,hcan,Bool.not_true,Bool.not_false,c_exec_at S,ho,spotOf,c_exec_spot_two S,c_seqm_Address S,had,c_exec_spot_put S,addrC,Md.addrM,Md.addrK,Md.put,rep1',deep_sr,Nat.one_ne_zero,Nat.one_mul,Nat.le_refl,Nat.succ_ne_zero,hin,hge]
end
theorem d_endD' (ps:List (Opd×Opd))(k:K)(tm:List AV)(A:List Blk):endD ps k tm A=bif refsNe tm ps then k tm A else none:=id rfl
theorem d_neC (tm:List AV)(p:Opd×Opd)(l:List (Opd×Opd)):refsNe tm (p::l)=(refNe (look tm p.1) (look tm p.2)&&refsNe tm l):=id rfl
theorem d_ne0 (tm:List AV):refsNe tm []=true:=id rfl
theorem d_neR (i v o j w q:Nat):refNe (.ref i v o) (.ref j w q)= !Nat.beq i j:=id rfl
theorem cut_set (l:List Ent)(i:Int)(e:Ent):Md.cut (l.set i.toNat e) i=Md.cut l i:=by
 unfold Md.cut;rw[List.take_set_of_le (Nat.le_refl _)]
theorem val_set (p:Prog)(c:Conf)(i:Int)(e:Ent)(v:Val):Md.valM p ⟨c.state,c.buf.set i.toNat e,c.rsb,c.end_⟩ i v=Md.valM p c i v:=by
 unfold Md.valM Md.val Md.reg;simp only[cut_set]
theorem reg_set (p:Prog)(c:Conf)(i:Int)(e:Ent)(r:Int):Md.regM p ⟨c.state,c.buf.set i.toNat e,c.rsb,c.end_⟩ i r=Md.regM p c i r:=by
 unfold Md.regM Md.reg;simp only[cut_set]
theorem load_set (p:Prog)(mem:List Int)(l:List Ent)(i a:Int)(e:Ent):Md.load p mem (l.set i.toNat e) i a=Md.load p mem l i a:=by
 unfold Md.load;rw[cut_set]
theorem real_set (p:Prog)(st:List Int)(l:List Ent)(i:Int)(e:Ent):Md.real p st (l.set i.toNat e) i=Md.real p st l i:=by
 unfold Md.real;rw[cut_set]
theorem app_fresh0 (A:List Blk)(s bytes n:Nat)(new:List AV)(h0:n≠0)(h1:n*bytes<=limA)(h2:n<=limA):evApp A s bytes (.d (.lst [] 0 (some 0))) new n=some (.fresh new n):=by
 obtain⟨m,rfl⟩:∃ m,n=m+1:=⟨n-1,by omega⟩
 rw[app_lst0,Nat.zero_add,if_pos ⟨by omega,by simp,h1,h2⟩];rfl
theorem wr5' {l:List Ent}{k:Nat}{e:Ent}(he:l[k]? =some e)(i v:Nat)(A:List Blk)(b:Bool):storeAt A i v (k*8+5) [.d (vb b)] 1 (some (.cells ((rowC l).map .d) v false))=some (A.set i (.cells ((rowC (l.set k { e with done:=b })).map .d) v false)):=
 st_row (o:=5) (e':={ e with done:=b }) [vb b] he rfl rfl rfl rfl (by show 5+1<=8;decide) 8 rfl _ rfl
theorem ldI {r junk:List Int}(h:r.length≠0):takeVar false 1 (((rowC (r++junk)).map AV.d).drop (r.length-1))=some (.d (vi (Md.lastI r))):=by
 have e1:∀ l:List Int,rowC l=l.map vi:=by
  intro l
  induction l with
  | nil=>rfl
  | cons a l ih=>show Cl.cells a++rowC l=_;rw[ih];rfl
 have e2:(((rowC (r++junk)).map AV.d).drop (r.length-1)).head? =some (.d (vi (Md.lastI r))):=by
  rw[List.head?_drop,List.getElem?_map,e1,List.getElem?_map,List.getElem?_append_left (by omega),last_get h];rfl
 exact e2
theorem foldTE {l:List Ent}(n:Nat)(h:n<=l.length):DV.lst (rowC (l.take n)) n none=rowD (l.take n):=by
 unfold rowD;rw[List.length_take,Nat.min_eq_left h]
variable {E:Env} {fn:FuncId->Option (Env->CallT->CallT)}
section
variable (S:Sur E fn)
include S
theorem o41_30:E.lives 41 7=none/\E.lives 41 23=none/\E.lives 41 27=none/\E.lives 41 31=none/\E.lives 41 35=none/\E.lives 41 39=none/\E.lives 41 43=none/\E.lives 41 53=none/\E.lives 41 59=none/\E.lives 41 67=none/\E.lives 41 73=none/\E.lives 41 77=none:=⟨off S 41 7 (by decide) rfl,off S 41 23 (by decide) rfl,off S 41 27 (by decide) rfl,off S 41 31 (by decide) rfl,off S 41 35 (by decide) rfl,off S 41 39 (by decide) rfl,off S 41 43 (by decide) rfl,off S 41 53 (by decide) rfl,off S 41 59 (by decide) rfl,off S 41 67 (by decide) rfl,off S 41 73 (by decide) rfl,off S 41 77 (by decide) rfl⟩
theorem raw_r9_Do (dp:Nat)(p:Prog)(c:Conf)(i:Int)(hl:c.buf.length<1073741824)(hs:c.state.stack.length<1073741824)(hg:(getO (Md.real p c.state.stack c.buf i)).length<1073741824)(hz:Md.can (c.state.mem.length:Int) p c i=true->(Md.insM p c i).kind=2->(Md.entAt c.buf i).val=0/\(Md.entAt c.buf i).frm= -1):Says E fn (dp+6) 41 [progD p,confD c,vi i] (.tup [confD (doC (c.state.mem.length:Int) p c i).1,rowD (doC (c.state.mem.length:Int) p c i).2,vb (Md.can (c.state.mem.length:Int) p c i)]):=by
 unfold Says
 show ansOf (evC E fn (dp+5+1) 41 [.d (progD p),.d (confD c),.d (vi i)] [])=_
 rw[evC_succ,S.f_r9_Do,apF_some,F_r9_Do,mkF_run _ _ _ _ _ _ _ _ rfl]
 cases hcan:Md.can (c.state.mem.length:Int) p c i with
 | false=>simp only[eG,go_sem,thq S,nbr S,zN0,zN1,zN2,zN3,zN4,zI0,zI1,zI2,zI3,reduceCtorEq,o41_30 S,c_r9_Can S,hl,hcan,Bool.not_false,doC,Md.conf0]
 | true=>
  have ho:=can_open hcan
  obtain⟨h0,he,h1⟩:=open_get ho
  replace hz:=hz hcan
  have hn:c.buf.length≠0:=by omega
  have hk:i.toNat<c.buf.length:=by omega
  have hk1:i.toNat+1<=c.buf.length:=hk
  have b1:c.buf.length*48<=limA:=by unfold limA;omega
  have b2:c.buf.length<=limA:=by unfold limA;omega
  have hx:Md.at_ p (Md.entAt c.buf i).pc=Md.insM p c i:=rfl
  generalize hxx:Md.insM p c i=x at *
  generalize hee:Md.entAt c.buf i=e at *
  have hv:∀ v:Val,(Md.val p c.state.regs (c.buf.set i.toNat { e with done:=true }) i v)=Md.valM p c i v:=fun v=>val_set p c i _ v
  generalize hB:(cBlock 0 _:CT)=BB
  simp only[eG,go_sem,thq S,nbr S,zN0,zN1,zN2,zN3,zN4,zI0,zI1,zI2,zI3,reduceCtorEq,o41_30 S,Nat.add_zero,c_r9_Can S,hl,hcan,Bool.not_true,h0,h1,hn,app_fresh0,b1,b2,ne_eq,not_false_eq_true,sw_t,sw_s,dl_nil,dl_cons,rep0',rep1',Nat.zero_add,Nat.zero_mul,wr5' he,ld0 hk,cA7 S,hx,hk,d_endD',d_neC,d_ne0,d_neR,deep_sr,dp_len,dp_take,take_all,w_foldS,foldTE,List.length_set,Nat.le_refl,Option.bind_some,Option.map_some,c_r9_told S,val_set,reg_set]
  rw[<-hB]
  clear hB BB
  by_cases k1:x.kind=1
  ·simp only[eG,go_sem,thq S,nbr S,zN0,zN1,zN2,zN3,zN4,zI0,zI1,zI2,zI3,reduceCtorEq,o41_30 S,Nat.add_zero,c_r9_Can S,hl,hcan,Bool.not_true,h0,h1,hn,app_fresh0,b1,b2,ne_eq,not_false_eq_true,sw_t,sw_s,dl_nil,dl_cons,rep0',rep1',Nat.zero_add,Nat.zero_mul,wr5' he,ld0 hk,cA7 S,hx,hk,d_endD',d_neC,d_ne0,d_neR,deep_sr,dp_len,dp_take,take_all,w_foldS,foldTE,List.length_set,Nat.le_refl,Option.bind_some,Option.map_some,c_r9_told S,val_set,reg_set,wr1 hk,wr2 hk,wr3 hk,wr6 hk,wr7 hk,ld2 hk,c_r1_Do S,c_r1_Mask S,c_r9_Load S,load_set,real_set,c_r9_Real S,c_r7_Jump S,List.set_set,doC,Md.doM,Md.doK,Md.put,hxx,hee,Md.mask_wrap,k1]
  by_cases k4:x.kind=4
  ·by_cases ha : (Md.valM p c i x.a).1 = 0
   ·simp only[eG,go_sem,thq S,nbr S,zN0,zN1,zN2,zN3,zN4,zI0,zI1,zI2,zI3,reduceCtorEq,o41_30 S,Nat.add_zero,c_r9_Can S,hl,hcan,Bool.not_true,h0,h1,hn,app_fresh0,b1,b2,ne_eq,not_false_eq_true,sw_t,sw_s,dl_nil,dl_cons,rep0',rep1',Nat.zero_add,Nat.zero_mul,wr5' he,ld0 hk,cA7 S,hx,hk,d_endD',d_neC,d_ne0,d_neR,deep_sr,dp_len,dp_take,take_all,w_foldS,foldTE,List.length_set,Nat.le_refl,Option.bind_some,Option.map_some,c_r9_told S,val_set,reg_set,wr1 hk,wr2 hk,wr3 hk,wr6 hk,wr7 hk,ld2 hk,c_r1_Do S,c_r1_Mask S,c_r9_Load S,load_set,real_set,c_r9_Real S,c_r7_Jump S,List.set_set,doC,Md.doM,Md.doK,Md.put,hxx,hee,Md.mask_wrap,k4,ha,Bool.not_true,Bool.not_false]
   ·simp only[eG,go_sem,thq S,nbr S,zN0,zN1,zN2,zN3,zN4,zI0,zI1,zI2,zI3,reduceCtorEq,o41_30 S,Nat.add_zero,c_r9_Can S,hl,hcan,Bool.not_true,h0,h1,hn,app_fresh0,b1,b2,ne_eq,not_false_eq_true,sw_t,sw_s,dl_nil,dl_cons,rep0',rep1',Nat.zero_add,Nat.zero_mul,wr5' he,ld0 hk,cA7 S,hx,hk,d_endD',d_neC,d_ne0,d_neR,deep_sr,dp_len,dp_take,take_all,w_foldS,foldTE,List.length_set,Nat.le_refl,Option.bind_some,Option.map_some,c_r9_told S,val_set,reg_set,wr1 hk,wr2 hk,wr3 hk,wr6 hk,wr7 hk,ld2 hk,c_r1_Do S,c_r1_Mask S,c_r9_Load S,load_set,real_set,c_r9_Real S,c_r7_Jump S,List.set_set,doC,Md.doM,Md.doK,Md.put,hxx,hee,Md.mask_wrap,k4,ha,Bool.not_true,Bool.not_false]
  by_cases k3:x.kind=3
  ·simp only[eG,go_sem,thq S,nbr S,zN0,zN1,zN2,zN3,zN4,zI0,zI1,zI2,zI3,reduceCtorEq,o41_30 S,Nat.add_zero,c_r9_Can S,hl,hcan,Bool.not_true,h0,h1,hn,app_fresh0,b1,b2,ne_eq,not_false_eq_true,sw_t,sw_s,dl_nil,dl_cons,rep0',rep1',Nat.zero_add,Nat.zero_mul,wr5' he,ld0 hk,cA7 S,hx,hk,d_endD',d_neC,d_ne0,d_neR,deep_sr,dp_len,dp_take,take_all,w_foldS,foldTE,List.length_set,Nat.le_refl,Option.bind_some,Option.map_some,c_r9_told S,val_set,reg_set,wr1 hk,wr2 hk,wr3 hk,wr6 hk,wr7 hk,ld2 hk,c_r1_Do S,c_r1_Mask S,c_r9_Load S,load_set,real_set,c_r9_Real S,c_r7_Jump S,List.set_set,doC,Md.doM,Md.doK,Md.put,hxx,hee,Md.mask_wrap,k3]
  by_cases k2:x.kind=2
  ·obtain ⟨z1, z2⟩ := hz k2
   by_cases hin:Md.mask p.w ((Md.valM p c i x.a).1+(Md.valM p c i x.b).1)>=(c.state.mem.length:Int)
   ·simp only[eG,go_sem,thq S,nbr S,zN0,zN1,zN2,zN3,zN4,zI0,zI1,zI2,zI3,reduceCtorEq,o41_30 S,Nat.add_zero,c_r9_Can S,hl,hcan,Bool.not_true,h0,h1,hn,app_fresh0,b1,b2,ne_eq,not_false_eq_true,sw_t,sw_s,dl_nil,dl_cons,rep0',rep1',Nat.zero_add,Nat.zero_mul,wr5' he,ld0 hk,cA7 S,hx,hk,d_endD',d_neC,d_ne0,d_neR,deep_sr,dp_len,dp_take,take_all,w_foldS,foldTE,List.length_set,Nat.le_refl,Option.bind_some,Option.map_some,c_r9_told S,val_set,reg_set,wr1 hk,wr2 hk,wr3 hk,wr6 hk,wr7 hk,ld2 hk,c_r1_Do S,c_r1_Mask S,c_r9_Load S,load_set,real_set,c_r9_Real S,c_r7_Jump S,List.set_set,doC,Md.doM,Md.doK,Md.put,hxx,hee,Md.mask_wrap,k2,hin,z1,z2]
   ·simp only[eG,go_sem,thq S,nbr S,zN0,zN1,zN2,zN3,zN4,zI0,zI1,zI2,zI3,reduceCtorEq,o41_30 S,Nat.add_zero,c_r9_Can S,hl,hcan,Bool.not_true,h0,h1,hn,app_fresh0,b1,b2,ne_eq,not_false_eq_true,sw_t,sw_s,dl_nil,dl_cons,rep0',rep1',Nat.zero_add,Nat.zero_mul,wr5' he,ld0 hk,cA7 S,hx,hk,d_endD',d_neC,d_ne0,d_neR,deep_sr,dp_len,dp_take,take_all,w_foldS,foldTE,List.length_set,Nat.le_refl,Option.bind_some,Option.map_some,c_r9_told S,val_set,reg_set,wr1 hk,wr2 hk,wr3 hk,wr6 hk,wr7 hk,ld2 hk,c_r1_Do S,c_r1_Mask S,c_r9_Load S,load_set,real_set,c_r9_Real S,c_r7_Jump S,List.set_set,doC,Md.doM,Md.doK,Md.put,hxx,hee,Md.mask_wrap,k2,hin,z1,z2];rfl
  by_cases k5:x.kind=5
  ·by_cases hw : Md.wdo p.w x.op (Md.valM p c i x.a).1 (Md.valM p c i x.b).1 = 0
   ·by_cases ht : e.next = IntKind.i64.wrap (e.pc + 1)
    ·simp only[eG,go_sem,thq S,nbr S,zN0,zN1,zN2,zN3,zN4,zI0,zI1,zI2,zI3,reduceCtorEq,o41_30 S,Nat.add_zero,c_r9_Can S,hl,hcan,Bool.not_true,h0,h1,hn,app_fresh0,b1,b2,ne_eq,not_false_eq_true,sw_t,sw_s,dl_nil,dl_cons,rep0',rep1',Nat.zero_add,Nat.zero_mul,wr5' he,ld0 hk,cA7 S,hx,hk,d_endD',d_neC,d_ne0,d_neR,deep_sr,dp_len,dp_take,take_all,w_foldS,foldTE,List.length_set,Nat.le_refl,Option.bind_some,Option.map_some,c_r9_told S,val_set,reg_set,wr1 hk,wr2 hk,wr3 hk,wr6 hk,wr7 hk,ld2 hk,c_r1_Do S,c_r1_Mask S,c_r9_Load S,load_set,real_set,c_r9_Real S,c_r7_Jump S,List.set_set,doC,Md.doM,Md.doK,Md.put,hxx,hee,Md.mask_wrap,show Nat.ble 1 1=true from rfl,o_callB,br_go,br_back,br_backB,ver_nil,ver_cons,ver_some,ok_nil,ok_cons,un_d,un_agg,un_tup,un_sref,unS_some,unS_none,un_comp,un_map,unB_cells,put_nil,put_cons,List.getD_cons_zero,List.getD_cons_succ,List.drop_succ_cons,List.drop_zero,Nat.ble_eq,Nat.le_refl,List.length_cons,List.length_nil,goes_go S,Bool.not_true,Bool.not_false,Md.goesM,Md.w64,List.length_set,k5,hw,eq_true ht];rfl
    ·simp only[eG,go_sem,thq S,nbr S,zN0,zN1,zN2,zN3,zN4,zI0,zI1,zI2,zI3,reduceCtorEq,o41_30 S,Nat.add_zero,c_r9_Can S,hl,hcan,Bool.not_true,h0,h1,hn,app_fresh0,b1,b2,ne_eq,not_false_eq_true,sw_t,sw_s,dl_nil,dl_cons,rep0',rep1',Nat.zero_add,Nat.zero_mul,wr5' he,ld0 hk,cA7 S,hx,hk,d_endD',d_neC,d_ne0,d_neR,deep_sr,dp_len,dp_take,take_all,w_foldS,foldTE,List.length_set,Nat.le_refl,Option.bind_some,Option.map_some,c_r9_told S,val_set,reg_set,wr1 hk,wr2 hk,wr3 hk,wr6 hk,wr7 hk,ld2 hk,c_r1_Do S,c_r1_Mask S,c_r9_Load S,load_set,real_set,c_r9_Real S,c_r7_Jump S,List.set_set,doC,Md.doM,Md.doK,Md.put,hxx,hee,Md.mask_wrap,show Nat.ble 1 1=true from rfl,o_callB,br_go,br_back,br_backB,ver_nil,ver_cons,ver_some,ok_nil,ok_cons,un_d,un_agg,un_tup,un_sref,unS_some,unS_none,un_comp,un_map,unB_cells,put_nil,put_cons,List.getD_cons_zero,List.getD_cons_succ,List.drop_succ_cons,List.drop_zero,Nat.ble_eq,Nat.le_refl,List.length_cons,List.length_nil,goes_go S,Bool.not_true,Bool.not_false,Md.goesM,Md.w64,List.length_set,k5,hw,ht,hk1];rfl
   ·by_cases ht : e.next = x.target
    ·simp only[eG,go_sem,thq S,nbr S,zN0,zN1,zN2,zN3,zN4,zI0,zI1,zI2,zI3,reduceCtorEq,o41_30 S,Nat.add_zero,c_r9_Can S,hl,hcan,Bool.not_true,h0,h1,hn,app_fresh0,b1,b2,ne_eq,not_false_eq_true,sw_t,sw_s,dl_nil,dl_cons,rep0',rep1',Nat.zero_add,Nat.zero_mul,wr5' he,ld0 hk,cA7 S,hx,hk,d_endD',d_neC,d_ne0,d_neR,deep_sr,dp_len,dp_take,take_all,w_foldS,foldTE,List.length_set,Nat.le_refl,Option.bind_some,Option.map_some,c_r9_told S,val_set,reg_set,wr1 hk,wr2 hk,wr3 hk,wr6 hk,wr7 hk,ld2 hk,c_r1_Do S,c_r1_Mask S,c_r9_Load S,load_set,real_set,c_r9_Real S,c_r7_Jump S,List.set_set,doC,Md.doM,Md.doK,Md.put,hxx,hee,Md.mask_wrap,show Nat.ble 1 1=true from rfl,o_callB,br_go,br_back,br_backB,ver_nil,ver_cons,ver_some,ok_nil,ok_cons,un_d,un_agg,un_tup,un_sref,unS_some,unS_none,un_comp,un_map,unB_cells,put_nil,put_cons,List.getD_cons_zero,List.getD_cons_succ,List.drop_succ_cons,List.drop_zero,Nat.ble_eq,Nat.le_refl,List.length_cons,List.length_nil,goes_go S,Bool.not_true,Bool.not_false,Md.goesM,Md.w64,List.length_set,k5,hw,eq_true ht];rfl
    ·simp only[eG,go_sem,thq S,nbr S,zN0,zN1,zN2,zN3,zN4,zI0,zI1,zI2,zI3,reduceCtorEq,o41_30 S,Nat.add_zero,c_r9_Can S,hl,hcan,Bool.not_true,h0,h1,hn,app_fresh0,b1,b2,ne_eq,not_false_eq_true,sw_t,sw_s,dl_nil,dl_cons,rep0',rep1',Nat.zero_add,Nat.zero_mul,wr5' he,ld0 hk,cA7 S,hx,hk,d_endD',d_neC,d_ne0,d_neR,deep_sr,dp_len,dp_take,take_all,w_foldS,foldTE,List.length_set,Nat.le_refl,Option.bind_some,Option.map_some,c_r9_told S,val_set,reg_set,wr1 hk,wr2 hk,wr3 hk,wr6 hk,wr7 hk,ld2 hk,c_r1_Do S,c_r1_Mask S,c_r9_Load S,load_set,real_set,c_r9_Real S,c_r7_Jump S,List.set_set,doC,Md.doM,Md.doK,Md.put,hxx,hee,Md.mask_wrap,show Nat.ble 1 1=true from rfl,o_callB,br_go,br_back,br_backB,ver_nil,ver_cons,ver_some,ok_nil,ok_cons,un_d,un_agg,un_tup,un_sref,unS_some,unS_none,un_comp,un_map,unB_cells,put_nil,put_cons,List.getD_cons_zero,List.getD_cons_succ,List.drop_succ_cons,List.drop_zero,Nat.ble_eq,Nat.le_refl,List.length_cons,List.length_nil,goes_go S,Bool.not_true,Bool.not_false,Md.goesM,Md.w64,List.length_set,k5,hw,ht,hk1];rfl
  by_cases k7:x.kind=7
  ·by_cases ht : e.next = min (Md.valM p c i x.a).1 p.ins.length
   ·simp only[eG,go_sem,thq S,nbr S,zN0,zN1,zN2,zN3,zN4,zI0,zI1,zI2,zI3,reduceCtorEq,o41_30 S,Nat.add_zero,c_r9_Can S,hl,hcan,Bool.not_true,h0,h1,hn,app_fresh0,b1,b2,ne_eq,not_false_eq_true,sw_t,sw_s,dl_nil,dl_cons,rep0',rep1',Nat.zero_add,Nat.zero_mul,wr5' he,ld0 hk,cA7 S,hx,hk,d_endD',d_neC,d_ne0,d_neR,deep_sr,dp_len,dp_take,take_all,w_foldS,foldTE,List.length_set,Nat.le_refl,Option.bind_some,Option.map_some,c_r9_told S,val_set,reg_set,wr1 hk,wr2 hk,wr3 hk,wr6 hk,wr7 hk,ld2 hk,c_r1_Do S,c_r1_Mask S,c_r9_Load S,load_set,real_set,c_r9_Real S,c_r7_Jump S,List.set_set,doC,Md.doM,Md.doK,Md.put,hxx,hee,Md.mask_wrap,show Nat.ble 1 1=true from rfl,o_callB,br_go,br_back,br_backB,ver_nil,ver_cons,ver_some,ok_nil,ok_cons,un_d,un_agg,un_tup,un_sref,unS_some,unS_none,un_comp,un_map,unB_cells,put_nil,put_cons,List.getD_cons_zero,List.getD_cons_succ,List.drop_succ_cons,List.drop_zero,Nat.ble_eq,Nat.le_refl,List.length_cons,List.length_nil,goes_go S,Bool.not_true,Bool.not_false,Md.goesM,Md.w64,List.length_set,k7,eq_true ht];rfl
   ·simp only[eG,go_sem,thq S,nbr S,zN0,zN1,zN2,zN3,zN4,zI0,zI1,zI2,zI3,reduceCtorEq,o41_30 S,Nat.add_zero,c_r9_Can S,hl,hcan,Bool.not_true,h0,h1,hn,app_fresh0,b1,b2,ne_eq,not_false_eq_true,sw_t,sw_s,dl_nil,dl_cons,rep0',rep1',Nat.zero_add,Nat.zero_mul,wr5' he,ld0 hk,cA7 S,hx,hk,d_endD',d_neC,d_ne0,d_neR,deep_sr,dp_len,dp_take,take_all,w_foldS,foldTE,List.length_set,Nat.le_refl,Option.bind_some,Option.map_some,c_r9_told S,val_set,reg_set,wr1 hk,wr2 hk,wr3 hk,wr6 hk,wr7 hk,ld2 hk,c_r1_Do S,c_r1_Mask S,c_r9_Load S,load_set,real_set,c_r9_Real S,c_r7_Jump S,List.set_set,doC,Md.doM,Md.doK,Md.put,hxx,hee,Md.mask_wrap,show Nat.ble 1 1=true from rfl,o_callB,br_go,br_back,br_backB,ver_nil,ver_cons,ver_some,ok_nil,ok_cons,un_d,un_agg,un_tup,un_sref,unS_some,unS_none,un_comp,un_map,unB_cells,put_nil,put_cons,List.getD_cons_zero,List.getD_cons_succ,List.drop_succ_cons,List.drop_zero,Nat.ble_eq,Nat.le_refl,List.length_cons,List.length_nil,goes_go S,Bool.not_true,Bool.not_false,Md.goesM,Md.w64,List.length_set,k7,ht,hk1];rfl
  by_cases k9:x.kind=9
  ·have hl2 : (c.buf.set i.toNat { e with done := true }).length < 1073741824 := by rw [List.length_set]; exact hl
   cases hreal:Md.real p c.state.stack c.buf i with
   | none=>
    have ho:=fun A nb us=>o_Real_none S (dp+3) p c.state.stack (c.buf.set i.toNat { e with done:=true }) i hl2 hs (by rw[real_set];exact hreal) A nb us
    simp only[progD,progC,Nat.add_assoc,zN2] at ho
    simp only[eG,go_sem,thq S,nbr S,zN0,zN1,zN2,zN3,zN4,zI0,zI1,zI2,zI3,reduceCtorEq,o41_30 S,Nat.add_zero,c_r9_Can S,hl,hcan,Bool.not_true,h0,h1,hn,app_fresh0,b1,b2,ne_eq,not_false_eq_true,sw_t,sw_s,dl_nil,dl_cons,rep0',rep1',Nat.zero_add,Nat.zero_mul,wr5' he,ld0 hk,cA7 S,hx,hk,d_endD',d_neC,d_ne0,d_neR,deep_sr,dp_len,dp_take,take_all,w_foldS,foldTE,List.length_set,Nat.le_refl,Option.bind_some,Option.map_some,c_r9_told S,val_set,reg_set,wr1 hk,wr2 hk,wr3 hk,wr6 hk,wr7 hk,ld2 hk,c_r1_Do S,c_r1_Mask S,c_r9_Load S,load_set,real_set,c_r9_Real S,c_r7_Jump S,List.set_set,doC,Md.doM,Md.doK,Md.put,hxx,hee,Md.mask_wrap,show Nat.ble 1 1=true from rfl,o_callB,br_go,br_back,br_backB,ver_nil,ver_cons,ver_some,ok_nil,ok_cons,un_d,un_agg,un_tup,un_sref,unS_some,unS_none,un_comp,un_map,unB_cells,put_nil,put_cons,List.getD_cons_zero,List.getD_cons_succ,List.drop_succ_cons,List.drop_zero,Nat.ble_eq,Nat.le_refl,List.length_cons,List.length_nil,goes_go S,Bool.not_true,Bool.not_false,Md.goesM,Md.w64,List.length_set,k9,hreal,ho]
   | some r=>
    obtain⟨junk,q,ho⟩:=o_Real_some S (dp+3) p c.state.stack (c.buf.set i.toNat { e with done:=true }) i hl2 hs r (by rw[real_set];exact hreal)
    simp only[progD,progC,Nat.add_assoc,zN2] at ho
    rw[hreal] at hg
    have hg':r.length<1073741824:=hg
    by_cases hr:r.length=0
    ·simp only[eG,go_sem,thq S,nbr S,zN0,zN1,zN2,zN3,zN4,zI0,zI1,zI2,zI3,reduceCtorEq,o41_30 S,Nat.add_zero,c_r9_Can S,hl,hcan,Bool.not_true,h0,h1,hn,app_fresh0,b1,b2,ne_eq,not_false_eq_true,sw_t,sw_s,dl_nil,dl_cons,rep0',rep1',Nat.zero_add,Nat.zero_mul,wr5' he,ld0 hk,cA7 S,hx,hk,d_endD',d_neC,d_ne0,d_neR,deep_sr,dp_len,dp_take,take_all,w_foldS,foldTE,List.length_set,Nat.le_refl,Option.bind_some,Option.map_some,c_r9_told S,val_set,reg_set,wr1 hk,wr2 hk,wr3 hk,wr6 hk,wr7 hk,ld2 hk,c_r1_Do S,c_r1_Mask S,c_r9_Load S,load_set,real_set,c_r9_Real S,c_r7_Jump S,List.set_set,doC,Md.doM,Md.doK,Md.put,hxx,hee,Md.mask_wrap,show Nat.ble 1 1=true from rfl,o_callB,br_go,br_back,br_backB,ver_nil,ver_cons,ver_some,ok_nil,ok_cons,un_d,un_agg,un_tup,un_sref,unS_some,unS_none,un_comp,un_map,unB_cells,put_nil,put_cons,List.getD_cons_zero,List.getD_cons_succ,List.drop_succ_cons,List.drop_zero,Nat.ble_eq,Nat.le_refl,List.length_cons,List.length_nil,goes_go S,Bool.not_true,Bool.not_false,Md.goesM,Md.w64,List.length_set,k9,hreal,hr,ho,show((0:Nat):Int)=0 from rfl]
    ·have wl : IntKind.i64.wrap ((r.length : Int) - 1) = ((r.length - 1 : Nat) : Int) := by rw [wrap_i64 (by omega) (by omega)]; omega
     have hi1:r.length-1<r.length:=by omega
     by_cases ht:e.next=Md.lastI r
     ·simp only[eG,go_sem,thq S,nbr S,zN0,zN1,zN2,zN3,zN4,zI0,zI1,zI2,zI3,reduceCtorEq,o41_30 S,Nat.add_zero,c_r9_Can S,hl,hcan,Bool.not_true,h0,h1,hn,app_fresh0,b1,b2,ne_eq,not_false_eq_true,sw_t,sw_s,dl_nil,dl_cons,rep0',rep1',Nat.zero_add,Nat.zero_mul,wr5' he,ld0 hk,cA7 S,hx,hk,d_endD',d_neC,d_ne0,d_neR,deep_sr,dp_len,dp_take,take_all,w_foldS,foldTE,List.length_set,Nat.le_refl,Option.bind_some,Option.map_some,c_r9_told S,val_set,reg_set,wr1 hk,wr2 hk,wr3 hk,wr6 hk,wr7 hk,ld2 hk,c_r1_Do S,c_r1_Mask S,c_r9_Load S,load_set,real_set,c_r9_Real S,c_r7_Jump S,List.set_set,doC,Md.doM,Md.doK,Md.put,hxx,hee,Md.mask_wrap,show Nat.ble 1 1=true from rfl,o_callB,br_go,br_back,br_backB,ver_nil,ver_cons,ver_some,ok_nil,ok_cons,un_d,un_agg,un_tup,un_sref,unS_some,unS_none,un_comp,un_map,unB_cells,put_nil,put_cons,List.getD_cons_zero,List.getD_cons_succ,List.drop_succ_cons,List.drop_zero,Nat.ble_eq,Nat.le_refl,List.length_cons,List.length_nil,goes_go S,Bool.not_true,Bool.not_false,Md.goesM,Md.w64,List.length_set,k9,hreal,hr,ho,wl,hi1,ldI hr,eq_true ht,Int.natCast_eq_zero,Int.toNat_natCast,Int.natCast_nonneg,Int.ofNat_lt,Nat.mul_one,true_and,and_true,if_true];rfl
     ·simp only[eG,go_sem,thq S,nbr S,zN0,zN1,zN2,zN3,zN4,zI0,zI1,zI2,zI3,reduceCtorEq,o41_30 S,Nat.add_zero,c_r9_Can S,hl,hcan,Bool.not_true,h0,h1,hn,app_fresh0,b1,b2,ne_eq,not_false_eq_true,sw_t,sw_s,dl_nil,dl_cons,rep0',rep1',Nat.zero_add,Nat.zero_mul,wr5' he,ld0 hk,cA7 S,hx,hk,d_endD',d_neC,d_ne0,d_neR,deep_sr,dp_len,dp_take,take_all,w_foldS,foldTE,List.length_set,Nat.le_refl,Option.bind_some,Option.map_some,c_r9_told S,val_set,reg_set,wr1 hk,wr2 hk,wr3 hk,wr6 hk,wr7 hk,ld2 hk,c_r1_Do S,c_r1_Mask S,c_r9_Load S,load_set,real_set,c_r9_Real S,c_r7_Jump S,List.set_set,doC,Md.doM,Md.doK,Md.put,hxx,hee,Md.mask_wrap,show Nat.ble 1 1=true from rfl,o_callB,br_go,br_back,br_backB,ver_nil,ver_cons,ver_some,ok_nil,ok_cons,un_d,un_agg,un_tup,un_sref,unS_some,unS_none,un_comp,un_map,unB_cells,put_nil,put_cons,List.getD_cons_zero,List.getD_cons_succ,List.drop_succ_cons,List.drop_zero,Nat.ble_eq,Nat.le_refl,List.length_cons,List.length_nil,goes_go S,Bool.not_true,Bool.not_false,Md.goesM,Md.w64,List.length_set,k9,hreal,hr,ho,wl,hi1,ldI hr,ht,Int.natCast_eq_zero,Int.toNat_natCast,Int.natCast_nonneg,Int.ofNat_lt,Nat.mul_one,true_and,and_true,if_true,hk1];rfl
  simp only[eG,go_sem,thq S,nbr S,zN0,zN1,zN2,zN3,zN4,zI0,zI1,zI2,zI3,reduceCtorEq,o41_30 S,Nat.add_zero,c_r9_Can S,hl,hcan,Bool.not_true,h0,h1,hn,app_fresh0,b1,b2,ne_eq,not_false_eq_true,sw_t,sw_s,dl_nil,dl_cons,rep0',rep1',Nat.zero_add,Nat.zero_mul,wr5' he,ld0 hk,cA7 S,hx,hk,d_endD',d_neC,d_ne0,d_neR,deep_sr,dp_len,dp_take,take_all,w_foldS,foldTE,List.length_set,Nat.le_refl,Option.bind_some,Option.map_some,c_r9_told S,val_set,reg_set,wr1 hk,wr2 hk,wr3 hk,wr6 hk,wr7 hk,ld2 hk,c_r1_Do S,c_r1_Mask S,c_r9_Load S,load_set,real_set,c_r9_Real S,c_r7_Jump S,List.set_set,doC,Md.doM,Md.doK,Md.put,hxx,hee,Md.mask_wrap,k1,k2,k3,k4,k5,k7,k9]
end
theorem run80 (rs:List IRes)(c:CT)(E:Env)(call:CallT)(f:FuncId)(x y z:AV)(A:List Blk):mkF 80 rs c E call f [x,y,z] A=c { E with live:=E.lives f,nb0:=A.length } call (kEnd A.length rs) (fun _ _ _=>none) (kEnd A.length rs) (mk aundef 80 (numb 0 [x,y,z])) A:=mkF_run _ _ _ _ _ _ _ _ rfl
variable {E:Env} {fn:FuncId->Option (Env->CallT->CallT)}
section
variable (S:Sur E fn)
include S
theorem o37_50:E.lives 37 7=none/\E.lives 37 21=none:=⟨off S 37 7 (by decide) rfl,off S 37 21 (by decide) rfl⟩
theorem o_conf_Still (dp:Nat)(r0 r1 r2 r3:Int)(mm sk:List Int)(pc:Int)(bf:List Ent)(rb:List Int)(en:Int)(hm:mm.length<1073741824)(hs:sk.length<1073741824)(hb:bf.length<1073741824)(hr:rb.length<1073741824)(A:List Blk)(nb:Nat):
  evOwnK true E (evC E fn (dp+2)) 39 A nb (some ([.agg [vi r0,vi r1,vi r2,vi r3,rowD mm,rowD sk,vi pc,rowD bf,rowD rb,vi en]],[]))=some (.made (.agg [aint r0,aint r1,aint r2,aint r3,ownA nb mm,ownA (nb+(ownB mm).length) sk,aint pc,.d (rowD bf),.d (rowD rb),aint en]) (ownB mm++ownB sk)):=by
 have h:=own_conf S dp r0 r1 r2 r3 mm sk pc bf rb en hm hs hb hr
 have hr:evRaw E (evC E fn (dp+2)) 39 [.agg [vi r0,vi r1,vi r2,vi r3,rowD mm,rowD sk,vi pc,rowD bf,rowD rb,vi en]]=some (.agg [aint r0,aint r1,aint r2,aint r3,ownA 0 mm,ownA (ownB mm).length sk,aint pc,.d (rowD bf),.d (rowD rb),aint en],ownB mm++ownB sk):=by
  unfold evRaw
  rw[np S 39 (by decide)]
  exact h
 simp only[evOwnK,hr,evAnsB,cond_true]
 by_cases h1:mm.length=0<;>by_cases h2:sk.length=0
 ·have e1 : mm = [] := List.length_eq_zero_iff.1 h1
  have e2:sk=[]:=List.length_eq_zero_iff.1 h2
  subst e1 e2
  rfl
 ·have e1 : mm = [] := List.length_eq_zero_iff.1 h1
  subst e1
  simp[ownA_nil,ownB_nil,ownA_ne h2,ownB_ne h2,thaw,mapT,thawed,isEmptyL,memN,Cl.n]
 ·have e2 : sk = [] := List.length_eq_zero_iff.1 h2
  subst e2
  simp[ownA_nil,ownB_nil,ownA_ne h1,ownB_ne h1,thaw,mapT,thawed,isEmptyL,memN,Cl.n]
 ·simp[ownA_ne h1,ownB_ne h1,ownA_ne h2,ownB_ne h2,thaw,mapT,thawed,isEmptyL,memN,Cl.n]
theorem raw_reti_Do (dp:Nat)(p:Prog)(c:Conf)(hl:c.buf.length<1073741823)(hm:c.state.mem.length<1073741824)(hs:c.state.stack.length<1073741823)(hr:c.rsb.length<1073741824)(hd:0<=(Md.at_ p (Md.entAt c.buf 0).pc).d/\(Md.at_ p (Md.entAt c.buf 0).pc).d<=3):Says E fn (dp+5) 37 [progD p,confD c] (.tup [confD (retC p c),vb (Md.canRetire p c)]):=by
 unfold Says
 show ansOf (evC E fn (dp+4+1) 37 [.d (progD p),.d (confD c)] [])=_
 rw[evC_succ,S.f_reti_Do,apF_some,F_reti_Do,mkF_run _ _ _ _ _ _ _ _ rfl]
 cases hcan:Md.canRetire p c with
 | false=>simp only[eG,go_sem,thq S,nbr S,zN0,zN1,zN2,zN3,zN4,zI0,zI1,zI2,zI3,reduceCtorEq,o37_50 S,c_reti_Can S,hcan,Bool.not_false,retC,Md.conf0]
 | true=>
  obtain⟨e,he,he0,hend⟩:=retire_some hcan
  have hl1:c.buf.length<1073741824:=by omega
  have hs1:c.state.stack.length<1073741824:=by omega
  have hlen:0<c.buf.length:=(List.getElem?_eq_some_iff.1 he).1
  rw[he0] at hd
  generalize hxx:Md.at_ p e.pc=x at *
  have run:=fun a b d A=>(show evC E fn (dp+4) 76 [a,b,d] A=F_reti_commit E (evC E fn (dp+3)) 76 [a,b,d] A by rw[evC_succ,S.f_reti_commit,apF_some])
  have e1:c.state.mem.length=0->c.state.mem=[]:=List.length_eq_zero_iff.1
  have e2:c.state.stack.length=0->c.state.stack=[]:=List.length_eq_zero_iff.1
  have d4:x.d=0∨x.d=1∨x.d=2∨x.d=3:=by omega
  have d0:=hd.1
  have d1:x.d<4:=by omega
  have hst:∀(A:List Blk) (m s q b r n:AV),storeAt A 0 0 (x.d.toNat*1) [.d (vi e.val)] 1 (some (.cells [.d (vi c.state.regs.r0),.d (vi c.state.regs.r1),.d (vi c.state.regs.r2),.d (vi c.state.regs.r3),m,s,q,b,r,n] 0 false))=some (A.set 0 (.cells [.d (vi (Md.setR c.state.regs x.d e.val).r0),.d (vi (Md.setR c.state.regs x.d e.val).r1),.d (vi (Md.setR c.state.regs x.d e.val).r2),.d (vi (Md.setR c.state.regs x.d e.val).r3),m,s,q,b,r,n] 0 false)):=fun A m s q b r n=>by
   rcases d4 with d | d | d | d<;>rw[d]<;>rfl
  have n1:c.state.mem.length*8<=limA:=by unfold limA;omega
  have n2:c.state.mem.length<=limA:=by unfold limA;omega
  have n5:(c.state.stack.length+1)*8<=limA:=by unfold limA;omega
  have n6:c.state.stack.length+1<=limA:=by unfold limA;omega
  have hdl:∀ b,deep [b,.cells ((rowC (c.state.stack++[IntKind.i64.wrap (e.pc+1)])).map .d) 0 false] 6 (.sref 1 0 0 (c.state.stack.length+1) 1 none)=some (.lst (rowC (c.state.stack++[IntKind.i64.wrap (e.pc+1)])) (c.state.stack++[IntKind.i64.wrap (e.pc+1)]).length none,[1]):=fun b=>by
   rw[show c.state.stack.length+1=(c.state.stack++[IntKind.i64.wrap (e.pc+1)]).length by simp]
   exact deep_all rfl (by simp) 4 _ 1 none rfl rfl
  have cp0:∀(A:List Blk) (nb:Nat),evOwnK false E (evC E fn (dp+3)) 103 A nb (some ([.lst [] 0 none],[]))=some (.made (.d (.tup [vi 0,.lst [] 0 none,vb false])) []):=fun A nb=>c_retb_Pop S (dp+2) [] (by decide) A nb
  have cpF:c.state.stack.dropLast.length=0->∀(A:List Blk) (nb:Nat) (us:List Nat),evOwnK false E (evC E fn (dp+3)) 103 A nb (some ([rowD c.state.stack],us))=some (.made (.d (.tup [vi (Md.lastI c.state.stack),rowD c.state.stack.dropLast,vb (decide (c.state.stack.length≠0))])) []):=fun h A nb us=>
   Says.flat (raw_retb_Pop S (dp+2) c.state.stack hs1) (np S 103 (by decide)) (by rw[List.length_eq_zero_iff.1 h];rfl) A nb us
  have cpU:¬c.state.stack.dropLast.length=0->∀(A:List Blk) (nb ui:Nat) (us:List Nat),evOwnK false E (evC E fn (dp+3)) 103 A nb (some ([rowD c.state.stack],ui::us))=some (.turned (.d (.tup [vi (Md.lastI c.state.stack),rowD c.state.stack.dropLast,vb (decide (c.state.stack.length≠0))])) (setRo A (ui::us))):=fun h A nb ui us=>
   u_retb_Pop S (dp+2) c.state.stack hs1 (by
    cases hq:c.state.stack.dropLast with
    | nil=>rw[hq] at h;exact absurd rfl h
    | cons a l=>rfl) A nb ui us
  have hap1:(c.state.stack.length+1)*1<=(List.map AV.d (rowC (c.state.stack++[IntKind.i64.wrap (e.pc+1)]))).length:=dpI_len _ _ (by simp)
  have hap2:(c.state.stack++[IntKind.i64.wrap (e.pc+1)]).take (c.state.stack.length+1)=c.state.stack++[IntKind.i64.wrap (e.pc+1)]:=List.take_of_length_le (by simp)
  have hap3:DV.lst (rowC (c.state.stack++[IntKind.i64.wrap (e.pc+1)])) (c.state.stack.length+1) none=rowD (c.state.stack++[IntKind.i64.wrap (e.pc+1)]):=by unfold rowD;rw[List.length_append];rfl
  have hmem:(c.state.mem.length=0/\(∀ i,ownA i c.state.mem=.d (.lst [] 0 (some 0)))/\ownB c.state.mem=[])∨(¬c.state.mem.length=0/\(∀ i,ownA i c.state.mem=.sref i 0 0 c.state.mem.length 1 none)/\ownB c.state.mem=[.cells ((rowC c.state.mem).map .d) 0 false]):=by
   by_cases h:c.state.mem.length=0
   ·exact .inl ⟨h,own0A h,own0B h⟩
   ·exact .inr ⟨h,fun i=>ownA_ne h i,ownB_ne h⟩
  have hsk:(c.state.stack.length=0/\(∀ i,ownA i c.state.stack=.d (.lst [] 0 (some 0)))/\ownB c.state.stack=[])∨(¬c.state.stack.length=0/\(∀ i,ownA i c.state.stack=.sref i 0 0 c.state.stack.length 1 none)/\ownB c.state.stack=[.cells ((rowC c.state.stack).map .d) 0 false]):=by
   by_cases h:c.state.stack.length=0
   ·exact .inl ⟨h,own0A h,own0B h⟩
   ·exact .inr ⟨h,fun i=>ownA_ne h i,ownB_ne h⟩
  rcases hmem with⟨m0,mA,mB⟩ | ⟨m0,mA,mB⟩<;>rcases hsk with⟨s0,sA,sB⟩ | ⟨s0,sA,sB⟩
  all_goals
   generalize hB:(cQ (cOz [st 44 (oA (.t 3) 0),st 45 (oL (.t 6) true 8),st 46 (oL (.t 9) true 9),st 47 (oCall (.f 76) [(.t 44),(.t 45),(.t 46)])]) _:CT)=BB
   simp only[eG,go_sem,thq S,nbr S,zN0,zN1,zN2,zN3,zN4,zI0,zI1,zI2,zI3,reduceCtorEq,o37_50 S,c_reti_Can S,hcan,Bool.not_true,Bool.not_false,o_conf_Still S,hm,hs,hs1,hr,hl,hl1,hlen,c_robq_Pop S,he0,c_seqm_At S,hxx,c_reti_ended S,retC,Md.retire,Md.endedM,d_endD',d_neC,d_ne0,d_neR,eq_true hend,mA,mB,sA,sB,m0,s0]
   rw[<-hB]
   clear hB BB
   cases hf:e.fault with
   | true=>simp only[eG,go_sem,thq S,nbr S,zN0,zN1,zN2,zN3,zN4,zI0,zI1,zI2,zI3,reduceCtorEq,o37_50 S,c_reti_Can S,hcan,Bool.not_true,Bool.not_false,o_conf_Still S,hm,hs,hs1,hr,hl,hl1,hlen,c_robq_Pop S,he0,c_seqm_At S,hxx,c_reti_ended S,retC,Md.retire,Md.endedM,d_endD',d_neC,d_ne0,d_neR,eq_true hend,deep_sr,dpI_len,dpI_take,Nat.le_refl,Option.bind_some,Option.map_none,foldT,takeS,foldS,List.take_length,w_fold,List.length_set,nc1,app_endI,app_fresh0',n1,n2,n5,n6,ne_eq,not_false_eq_true,not_true_eq_false,Nat.zero_mul,Nat.one_mul,m0,s0,hf];((try rw[hend]);(first | done | rfl | (rw[e1 m0];rfl) | (rw[e2 s0];rfl) | (rw[e1 m0,e2 s0];rfl)))
   | false=>
    by_cases k12:x.kind=12
    ·simp only[eG,go_sem,thq S,nbr S,zN0,zN1,zN2,zN3,zN4,zI0,zI1,zI2,zI3,reduceCtorEq,o37_50 S,c_reti_Can S,hcan,Bool.not_true,Bool.not_false,o_conf_Still S,hm,hs,hs1,hr,hl,hl1,hlen,c_robq_Pop S,he0,c_seqm_At S,hxx,c_reti_ended S,retC,Md.retire,Md.endedM,d_endD',d_neC,d_ne0,d_neR,eq_true hend,deep_sr,dpI_len,dpI_take,Nat.le_refl,Option.bind_some,Option.map_none,foldT,takeS,foldS,List.take_length,w_fold,List.length_set,nc1,app_endI,app_fresh0',n1,n2,n5,n6,ne_eq,not_false_eq_true,not_true_eq_false,Nat.zero_mul,Nat.one_mul,m0,s0,hf,k12];((try rw[hend]);(first | done | rfl | (rw[e1 m0];rfl) | (rw[e2 s0];rfl) | (rw[e1 m0,e2 s0];rfl)))
    by_cases k11:x.kind=11
    ·simp only[eG,go_sem,thq S,nbr S,zN0,zN1,zN2,zN3,zN4,zI0,zI1,zI2,zI3,reduceCtorEq,o37_50 S,c_reti_Can S,hcan,Bool.not_true,Bool.not_false,o_conf_Still S,hm,hs,hs1,hr,hl,hl1,hlen,c_robq_Pop S,he0,c_seqm_At S,hxx,c_reti_ended S,retC,Md.retire,Md.endedM,d_endD',d_neC,d_ne0,d_neR,eq_true hend,deep_sr,dpI_len,dpI_take,Nat.le_refl,Option.bind_some,Option.map_none,foldT,takeS,foldS,List.take_length,w_fold,List.length_set,nc1,app_endI,app_fresh0',n1,n2,n5,n6,ne_eq,not_false_eq_true,not_true_eq_false,Nat.zero_mul,Nat.one_mul,m0,s0,hf,k11];((try rw[hend]);(first | done | rfl | (rw[e1 m0];rfl) | (rw[e2 s0];rfl) | (rw[e1 m0,e2 s0];rfl)))
    by_cases k1:x.kind=1
    ·simp only[eG,go_sem,thq S,nbr S,zN0,zN1,zN2,zN3,zN4,zI0,zI1,zI2,zI3,reduceCtorEq,o37_50 S,c_reti_Can S,hcan,Bool.not_true,Bool.not_false,o_conf_Still S,hm,hs,hs1,hr,hl,hl1,hlen,c_robq_Pop S,he0,c_seqm_At S,hxx,c_reti_ended S,retC,Md.retire,Md.endedM,d_endD',d_neC,d_ne0,d_neR,eq_true hend,show Nat.ble 1 1=true from rfl,show Nat.ble 2 2=true from rfl,show Nat.ble 3 3=true from rfl,show Nat.ble 1 2=true from rfl,show Nat.ble 2 3=true from rfl,List.getElem?_nil,List.getD_nil,Nat.reduceSub,Nat.sub_self,run,F_reti_commit,run80,off S 76 9 (by decide) rfl,off S 76 11 (by decide) rfl,off S 76 13 (by decide) rfl,off S 76 15 (by decide) rfl,off S 76 19 (by decide) rfl,off S 76 21 (by decide) rfl,off S 76 25 (by decide) rfl,off S 76 29 (by decide) rfl,o_callB,br_go,br_back,br_backB,br_backI,ver_some,ver_nil,ver_cons,ok_nil,ok_cons,un_d,un_agg,un_tup,un_sref,unS_some,unS_none,un_map,unB_cells,put_nil,put_cons,map_iteB,end_b,sp_lt,spN_some,rH_N,rB_cells,List.take_succ_cons,List.take_zero,List.drop_succ_cons,List.drop_zero,List.getD_cons_zero,List.getD_cons_succ,sw_t,sw_s,dl_nil,dl_cons,rep1',Option.map_some,Nat.zero_add,Nat.add_zero,hst,d0,d1,nbr S,deep_sr,dpI_len,dpI_take,Nat.le_refl,Option.bind_some,Option.map_none,foldT,takeS,foldS,List.take_length,w_fold,List.length_set,nc1,app_endI,app_fresh0',n1,n2,n5,n6,ne_eq,not_false_eq_true,not_true_eq_false,Nat.zero_mul,Nat.one_mul,Int.cast_ofNat_Int,true_and,Md.commitM,Md.w64,m0,s0,hf,k1];((try rw[hend]);(first | done | rfl | (rw[e1 m0];rfl) | (rw[e2 s0];rfl) | (rw[e1 m0,e2 s0];rfl)))
    by_cases k2:x.kind=2
    ·simp only[eG,go_sem,thq S,nbr S,zN0,zN1,zN2,zN3,zN4,zI0,zI1,zI2,zI3,reduceCtorEq,o37_50 S,c_reti_Can S,hcan,Bool.not_true,Bool.not_false,o_conf_Still S,hm,hs,hs1,hr,hl,hl1,hlen,c_robq_Pop S,he0,c_seqm_At S,hxx,c_reti_ended S,retC,Md.retire,Md.endedM,d_endD',d_neC,d_ne0,d_neR,eq_true hend,show Nat.ble 1 1=true from rfl,show Nat.ble 2 2=true from rfl,show Nat.ble 3 3=true from rfl,show Nat.ble 1 2=true from rfl,show Nat.ble 2 3=true from rfl,List.getElem?_nil,List.getD_nil,Nat.reduceSub,Nat.sub_self,run,F_reti_commit,run80,off S 76 9 (by decide) rfl,off S 76 11 (by decide) rfl,off S 76 13 (by decide) rfl,off S 76 15 (by decide) rfl,off S 76 19 (by decide) rfl,off S 76 21 (by decide) rfl,off S 76 25 (by decide) rfl,off S 76 29 (by decide) rfl,o_callB,br_go,br_back,br_backB,br_backI,ver_some,ver_nil,ver_cons,ok_nil,ok_cons,un_d,un_agg,un_tup,un_sref,unS_some,unS_none,un_map,unB_cells,put_nil,put_cons,map_iteB,end_b,sp_lt,spN_some,rH_N,rB_cells,List.take_succ_cons,List.take_zero,List.drop_succ_cons,List.drop_zero,List.getD_cons_zero,List.getD_cons_succ,sw_t,sw_s,dl_nil,dl_cons,rep1',Option.map_some,Nat.zero_add,Nat.add_zero,hst,d0,d1,nbr S,deep_sr,dpI_len,dpI_take,Nat.le_refl,Option.bind_some,Option.map_none,foldT,takeS,foldS,List.take_length,w_fold,List.length_set,nc1,app_endI,app_fresh0',n1,n2,n5,n6,ne_eq,not_false_eq_true,not_true_eq_false,Nat.zero_mul,Nat.one_mul,Int.cast_ofNat_Int,true_and,Md.commitM,Md.w64,m0,s0,hf,k2];((try rw[hend]);(first | done | rfl | (rw[e1 m0];rfl) | (rw[e2 s0];rfl) | (rw[e1 m0,e2 s0];rfl)))
    by_cases k4:x.kind=4
    ·simp only[eG,go_sem,thq S,nbr S,zN0,zN1,zN2,zN3,zN4,zI0,zI1,zI2,zI3,reduceCtorEq,o37_50 S,c_reti_Can S,hcan,Bool.not_true,Bool.not_false,o_conf_Still S,hm,hs,hs1,hr,hl,hl1,hlen,c_robq_Pop S,he0,c_seqm_At S,hxx,c_reti_ended S,retC,Md.retire,Md.endedM,d_endD',d_neC,d_ne0,d_neR,eq_true hend,show Nat.ble 1 1=true from rfl,show Nat.ble 2 2=true from rfl,show Nat.ble 3 3=true from rfl,show Nat.ble 1 2=true from rfl,show Nat.ble 2 3=true from rfl,List.getElem?_nil,List.getD_nil,Nat.reduceSub,Nat.sub_self,run,F_reti_commit,run80,off S 76 9 (by decide) rfl,off S 76 11 (by decide) rfl,off S 76 13 (by decide) rfl,off S 76 15 (by decide) rfl,off S 76 19 (by decide) rfl,off S 76 21 (by decide) rfl,off S 76 25 (by decide) rfl,off S 76 29 (by decide) rfl,o_callB,br_go,br_back,br_backB,br_backI,ver_some,ver_nil,ver_cons,ok_nil,ok_cons,un_d,un_agg,un_tup,un_sref,unS_some,unS_none,un_map,unB_cells,put_nil,put_cons,map_iteB,end_b,sp_lt,spN_some,rH_N,rB_cells,List.take_succ_cons,List.take_zero,List.drop_succ_cons,List.drop_zero,List.getD_cons_zero,List.getD_cons_succ,sw_t,sw_s,dl_nil,dl_cons,rep1',Option.map_some,Nat.zero_add,Nat.add_zero,hst,d0,d1,nbr S,deep_sr,dpI_len,dpI_take,Nat.le_refl,Option.bind_some,Option.map_none,foldT,takeS,foldS,List.take_length,w_fold,List.length_set,nc1,app_endI,app_fresh0',n1,n2,n5,n6,ne_eq,not_false_eq_true,not_true_eq_false,Nat.zero_mul,Nat.one_mul,Int.cast_ofNat_Int,true_and,Md.commitM,Md.w64,m0,s0,hf,k4];((try rw[hend]);(first | done | rfl | (rw[e1 m0];rfl) | (rw[e2 s0];rfl) | (rw[e1 m0,e2 s0];rfl)))
    by_cases k3:x.kind=3
    ·by_cases a : 0 <= e.addr /\ e.addr < c.state.mem.length
     ·obtain ⟨a0, a1⟩ := a
      have a2:e.addr.toNat<c.state.mem.length:=by omega
      first
       | (exfalso;omega)
       | (simp only[eG,go_sem,thq S,nbr S,zN0,zN1,zN2,zN3,zN4,zI0,zI1,zI2,zI3,reduceCtorEq,o37_50 S,c_reti_Can S,hcan,Bool.not_true,Bool.not_false,o_conf_Still S,hm,hs,hs1,hr,hl,hl1,hlen,c_robq_Pop S,he0,c_seqm_At S,hxx,c_reti_ended S,retC,Md.retire,Md.endedM,d_endD',d_neC,d_ne0,d_neR,eq_true hend,show Nat.ble 1 1=true from rfl,show Nat.ble 2 2=true from rfl,show Nat.ble 3 3=true from rfl,show Nat.ble 1 2=true from rfl,show Nat.ble 2 3=true from rfl,List.getElem?_nil,List.getD_nil,Nat.reduceSub,Nat.sub_self,run,F_reti_commit,run80,off S 76 9 (by decide) rfl,off S 76 11 (by decide) rfl,off S 76 13 (by decide) rfl,off S 76 15 (by decide) rfl,off S 76 19 (by decide) rfl,off S 76 21 (by decide) rfl,off S 76 25 (by decide) rfl,off S 76 29 (by decide) rfl,o_callB,br_go,br_back,br_backB,br_backI,ver_some,ver_nil,ver_cons,ok_nil,ok_cons,un_d,un_agg,un_tup,un_sref,unS_some,unS_none,un_map,unB_cells,put_nil,put_cons,map_iteB,end_b,sp_lt,spN_some,rH_N,rB_cells,List.take_succ_cons,List.take_zero,List.drop_succ_cons,List.drop_zero,List.getD_cons_zero,List.getD_cons_succ,sw_t,sw_s,dl_nil,dl_cons,rep1',Option.map_some,Nat.zero_add,Nat.add_zero,hst,d0,d1,nbr S,deep_sr,dpI_len,dpI_take,Nat.le_refl,Option.bind_some,Option.map_none,foldT,takeS,foldS,List.take_length,w_fold,List.length_set,nc1,app_endI,app_fresh0',n1,n2,n5,n6,ne_eq,not_false_eq_true,not_true_eq_false,Nat.zero_mul,Nat.one_mul,Int.cast_ofNat_Int,true_and,Md.commitM,Md.w64,m0,s0,hf,k3,a0,a1,wrI a2,and_self];((try rw[hend]);(first | done | rfl | (rw[e1 m0];rfl) | (rw[e2 s0];rfl) | (rw[e1 m0,e2 s0];rfl))))
     ·by_cases a0 : 0 <= e.addr
      ·have a1 : ¬ e.addr < c.state.mem.length := fun h => a ⟨a0, h⟩
       have a1':c.state.mem.length=0->¬e.addr<((0:Nat):Int):=fun h=>by omega
       have a1'':c.state.mem.length=0->¬e.addr<0:=fun h=>by omega
       simp only[eG,go_sem,thq S,nbr S,zN0,zN1,zN2,zN3,zN4,zI0,zI1,zI2,zI3,reduceCtorEq,o37_50 S,c_reti_Can S,hcan,Bool.not_true,Bool.not_false,o_conf_Still S,hm,hs,hs1,hr,hl,hl1,hlen,c_robq_Pop S,he0,c_seqm_At S,hxx,c_reti_ended S,retC,Md.retire,Md.endedM,d_endD',d_neC,d_ne0,d_neR,eq_true hend,show Nat.ble 1 1=true from rfl,show Nat.ble 2 2=true from rfl,show Nat.ble 3 3=true from rfl,show Nat.ble 1 2=true from rfl,show Nat.ble 2 3=true from rfl,List.getElem?_nil,List.getD_nil,Nat.reduceSub,Nat.sub_self,run,F_reti_commit,run80,off S 76 9 (by decide) rfl,off S 76 11 (by decide) rfl,off S 76 13 (by decide) rfl,off S 76 15 (by decide) rfl,off S 76 19 (by decide) rfl,off S 76 21 (by decide) rfl,off S 76 25 (by decide) rfl,off S 76 29 (by decide) rfl,o_callB,br_go,br_back,br_backB,br_backI,ver_some,ver_nil,ver_cons,ok_nil,ok_cons,un_d,un_agg,un_tup,un_sref,unS_some,unS_none,un_map,unB_cells,put_nil,put_cons,map_iteB,end_b,sp_lt,spN_some,rH_N,rB_cells,List.take_succ_cons,List.take_zero,List.drop_succ_cons,List.drop_zero,List.getD_cons_zero,List.getD_cons_succ,sw_t,sw_s,dl_nil,dl_cons,rep1',Option.map_some,Nat.zero_add,Nat.add_zero,hst,d0,d1,nbr S,deep_sr,dpI_len,dpI_take,Nat.le_refl,Option.bind_some,Option.map_none,foldT,takeS,foldS,List.take_length,w_fold,List.length_set,nc1,app_endI,app_fresh0',n1,n2,n5,n6,ne_eq,not_false_eq_true,not_true_eq_false,Nat.zero_mul,Nat.one_mul,Int.cast_ofNat_Int,true_and,Md.commitM,Md.w64,m0,s0,hf,k3,a0,a1,a1' ,a1'',and_false];((try rw[hend]);(first | done | rfl | (rw[e1 m0];rfl) | (rw[e2 s0];rfl) | (rw[e1 m0,e2 s0];rfl)))
      ·simp only[eG,go_sem,thq S,nbr S,zN0,zN1,zN2,zN3,zN4,zI0,zI1,zI2,zI3,reduceCtorEq,o37_50 S,c_reti_Can S,hcan,Bool.not_true,Bool.not_false,o_conf_Still S,hm,hs,hs1,hr,hl,hl1,hlen,c_robq_Pop S,he0,c_seqm_At S,hxx,c_reti_ended S,retC,Md.retire,Md.endedM,d_endD',d_neC,d_ne0,d_neR,eq_true hend,show Nat.ble 1 1=true from rfl,show Nat.ble 2 2=true from rfl,show Nat.ble 3 3=true from rfl,show Nat.ble 1 2=true from rfl,show Nat.ble 2 3=true from rfl,List.getElem?_nil,List.getD_nil,Nat.reduceSub,Nat.sub_self,run,F_reti_commit,run80,off S 76 9 (by decide) rfl,off S 76 11 (by decide) rfl,off S 76 13 (by decide) rfl,off S 76 15 (by decide) rfl,off S 76 19 (by decide) rfl,off S 76 21 (by decide) rfl,off S 76 25 (by decide) rfl,off S 76 29 (by decide) rfl,o_callB,br_go,br_back,br_backB,br_backI,ver_some,ver_nil,ver_cons,ok_nil,ok_cons,un_d,un_agg,un_tup,un_sref,unS_some,unS_none,un_map,unB_cells,put_nil,put_cons,map_iteB,end_b,sp_lt,spN_some,rH_N,rB_cells,List.take_succ_cons,List.take_zero,List.drop_succ_cons,List.drop_zero,List.getD_cons_zero,List.getD_cons_succ,sw_t,sw_s,dl_nil,dl_cons,rep1',Option.map_some,Nat.zero_add,Nat.add_zero,hst,d0,d1,nbr S,deep_sr,dpI_len,dpI_take,Nat.le_refl,Option.bind_some,Option.map_none,foldT,takeS,foldS,List.take_length,w_fold,List.length_set,nc1,app_endI,app_fresh0',n1,n2,n5,n6,ne_eq,not_false_eq_true,not_true_eq_false,Nat.zero_mul,Nat.one_mul,Int.cast_ofNat_Int,true_and,Md.commitM,Md.w64,m0,s0,hf,k3,a0,false_and];((try rw[hend]);(first | done | rfl | (rw[e1 m0];rfl) | (rw[e2 s0];rfl) | (rw[e1 m0,e2 s0];rfl)))
    by_cases k8:x.kind=8
    ·simp only[eG,go_sem,thq S,nbr S,zN0,zN1,zN2,zN3,zN4,zI0,zI1,zI2,zI3,reduceCtorEq,o37_50 S,c_reti_Can S,hcan,Bool.not_true,Bool.not_false,o_conf_Still S,hm,hs,hs1,hr,hl,hl1,hlen,c_robq_Pop S,he0,c_seqm_At S,hxx,c_reti_ended S,retC,Md.retire,Md.endedM,d_endD',d_neC,d_ne0,d_neR,eq_true hend,show Nat.ble 1 1=true from rfl,show Nat.ble 2 2=true from rfl,show Nat.ble 3 3=true from rfl,show Nat.ble 1 2=true from rfl,show Nat.ble 2 3=true from rfl,List.getElem?_nil,List.getD_nil,Nat.reduceSub,Nat.sub_self,run,F_reti_commit,run80,off S 76 9 (by decide) rfl,off S 76 11 (by decide) rfl,off S 76 13 (by decide) rfl,off S 76 15 (by decide) rfl,off S 76 19 (by decide) rfl,off S 76 21 (by decide) rfl,off S 76 25 (by decide) rfl,off S 76 29 (by decide) rfl,o_callB,br_go,br_back,br_backB,br_backI,ver_some,ver_nil,ver_cons,ok_nil,ok_cons,un_d,un_agg,un_tup,un_sref,unS_some,unS_none,un_map,unB_cells,put_nil,put_cons,map_iteB,end_b,sp_lt,spN_some,rH_N,rB_cells,List.take_succ_cons,List.take_zero,List.drop_succ_cons,List.drop_zero,List.getD_cons_zero,List.getD_cons_succ,sw_t,sw_s,dl_nil,dl_cons,rep1',Option.map_some,Nat.zero_add,Nat.add_zero,hst,d0,d1,nbr S,deep_sr,dpI_len,dpI_take,Nat.le_refl,Option.bind_some,Option.map_none,foldT,takeS,foldS,List.take_length,w_fold,List.length_set,nc1,app_endI,app_fresh0',n1,n2,n5,n6,ne_eq,not_false_eq_true,not_true_eq_false,Nat.zero_mul,Nat.one_mul,Int.cast_ofNat_Int,true_and,Md.commitM,Md.w64,m0,s0,hf,k8,show(1:Nat)*8<=limA by decide,show(8:Nat)<=limA by decide,show(1:Nat)<=limA by decide,show(1:Nat)*1<=1 by decide,Nat.lt_add_one,Nat.one_ne_zero,show(0:Nat)<1 by decide,hdl,hap1,hap2,hap3];((try rw[hend]);(first | done | rfl | (rw[e1 m0];rfl) | (rw[e2 s0];rfl) | (rw[e1 m0,e2 s0];rfl)))
    by_cases k9:x.kind=9
    ·by_cases sz : c.state.stack.length = 0
     ·first
       | (exfalso;exact s0 sz)
       | (simp only[eG,go_sem,thq S,nbr S,zN0,zN1,zN2,zN3,zN4,zI0,zI1,zI2,zI3,reduceCtorEq,o37_50 S,c_reti_Can S,hcan,Bool.not_true,Bool.not_false,o_conf_Still S,hm,hs,hs1,hr,hl,hl1,hlen,c_robq_Pop S,he0,c_seqm_At S,hxx,c_reti_ended S,retC,Md.retire,Md.endedM,d_endD',d_neC,d_ne0,d_neR,eq_true hend,show Nat.ble 1 1=true from rfl,show Nat.ble 2 2=true from rfl,show Nat.ble 3 3=true from rfl,show Nat.ble 1 2=true from rfl,show Nat.ble 2 3=true from rfl,List.getElem?_nil,List.getD_nil,Nat.reduceSub,Nat.sub_self,run,F_reti_commit,run80,off S 76 9 (by decide) rfl,off S 76 11 (by decide) rfl,off S 76 13 (by decide) rfl,off S 76 15 (by decide) rfl,off S 76 19 (by decide) rfl,off S 76 21 (by decide) rfl,off S 76 25 (by decide) rfl,off S 76 29 (by decide) rfl,o_callB,br_go,br_back,br_backB,br_backI,ver_some,ver_nil,ver_cons,ok_nil,ok_cons,un_d,un_agg,un_tup,un_sref,unS_some,unS_none,un_map,unB_cells,put_nil,put_cons,map_iteB,end_b,sp_lt,spN_some,rH_N,rB_cells,List.take_succ_cons,List.take_zero,List.drop_succ_cons,List.drop_zero,List.getD_cons_zero,List.getD_cons_succ,sw_t,sw_s,dl_nil,dl_cons,rep1',Option.map_some,Nat.zero_add,Nat.add_zero,hst,d0,d1,nbr S,deep_sr,dpI_len,dpI_take,Nat.le_refl,Option.bind_some,Option.map_none,foldT,takeS,foldS,List.take_length,w_fold,List.length_set,nc1,app_endI,app_fresh0',n1,n2,n5,n6,ne_eq,not_false_eq_true,not_true_eq_false,Nat.zero_mul,Nat.one_mul,Int.cast_ofNat_Int,true_and,Md.commitM,Md.w64,m0,s0,hf,k9,cp0];((try rw[hend]);(first | done | rfl | (rw[e1 m0];rfl) | (rw[e2 s0];rfl) | (rw[e1 m0,e2 s0];rfl))))
     ·by_cases sd : c.state.stack.dropLast.length = 0
      ·first
        | (exfalso;exact sz s0)
        | (simp only[eG,go_sem,thq S,nbr S,zN0,zN1,zN2,zN3,zN4,zI0,zI1,zI2,zI3,reduceCtorEq,o37_50 S,c_reti_Can S,hcan,Bool.not_true,Bool.not_false,o_conf_Still S,hm,hs,hs1,hr,hl,hl1,hlen,c_robq_Pop S,he0,c_seqm_At S,hxx,c_reti_ended S,retC,Md.retire,Md.endedM,d_endD',d_neC,d_ne0,d_neR,eq_true hend,show Nat.ble 1 1=true from rfl,show Nat.ble 2 2=true from rfl,show Nat.ble 3 3=true from rfl,show Nat.ble 1 2=true from rfl,show Nat.ble 2 3=true from rfl,List.getElem?_nil,List.getD_nil,Nat.reduceSub,Nat.sub_self,run,F_reti_commit,run80,off S 76 9 (by decide) rfl,off S 76 11 (by decide) rfl,off S 76 13 (by decide) rfl,off S 76 15 (by decide) rfl,off S 76 19 (by decide) rfl,off S 76 21 (by decide) rfl,off S 76 25 (by decide) rfl,off S 76 29 (by decide) rfl,o_callB,br_go,br_back,br_backB,br_backI,ver_some,ver_nil,ver_cons,ok_nil,ok_cons,un_d,un_agg,un_tup,un_sref,unS_some,unS_none,un_map,unB_cells,put_nil,put_cons,map_iteB,end_b,sp_lt,spN_some,rH_N,rB_cells,List.take_succ_cons,List.take_zero,List.drop_succ_cons,List.drop_zero,List.getD_cons_zero,List.getD_cons_succ,sw_t,sw_s,dl_nil,dl_cons,rep1',Option.map_some,Nat.zero_add,Nat.add_zero,hst,d0,d1,nbr S,deep_sr,dpI_len,dpI_take,Nat.le_refl,Option.bind_some,Option.map_none,foldT,takeS,foldS,List.take_length,w_fold,List.length_set,nc1,app_endI,app_fresh0',n1,n2,n5,n6,ne_eq,not_false_eq_true,not_true_eq_false,Nat.zero_mul,Nat.one_mul,Int.cast_ofNat_Int,true_and,Md.commitM,Md.w64,m0,s0,hf,k9,cpF sd];((try rw[hend]);(first | done | rfl | (rw[e1 m0];rfl) | (rw[e2 s0];rfl) | (rw[e1 m0,e2 s0];rfl))))
      ·first
        | (exfalso;exact sz s0)
        | (simp only[eG,go_sem,thq S,nbr S,zN0,zN1,zN2,zN3,zN4,zI0,zI1,zI2,zI3,reduceCtorEq,o37_50 S,c_reti_Can S,hcan,Bool.not_true,Bool.not_false,o_conf_Still S,hm,hs,hs1,hr,hl,hl1,hlen,c_robq_Pop S,he0,c_seqm_At S,hxx,c_reti_ended S,retC,Md.retire,Md.endedM,d_endD',d_neC,d_ne0,d_neR,eq_true hend,show Nat.ble 1 1=true from rfl,show Nat.ble 2 2=true from rfl,show Nat.ble 3 3=true from rfl,show Nat.ble 1 2=true from rfl,show Nat.ble 2 3=true from rfl,List.getElem?_nil,List.getD_nil,Nat.reduceSub,Nat.sub_self,run,F_reti_commit,run80,off S 76 9 (by decide) rfl,off S 76 11 (by decide) rfl,off S 76 13 (by decide) rfl,off S 76 15 (by decide) rfl,off S 76 19 (by decide) rfl,off S 76 21 (by decide) rfl,off S 76 25 (by decide) rfl,off S 76 29 (by decide) rfl,o_callB,br_go,br_back,br_backB,br_backI,ver_some,ver_nil,ver_cons,ok_nil,ok_cons,un_d,un_agg,un_tup,un_sref,unS_some,unS_none,un_map,unB_cells,put_nil,put_cons,map_iteB,end_b,sp_lt,spN_some,rH_N,rB_cells,List.take_succ_cons,List.take_zero,List.drop_succ_cons,List.drop_zero,List.getD_cons_zero,List.getD_cons_succ,sw_t,sw_s,dl_nil,dl_cons,rep1',Option.map_some,Nat.zero_add,Nat.add_zero,hst,d0,d1,nbr S,deep_sr,dpI_len,dpI_take,Nat.le_refl,Option.bind_some,Option.map_none,foldT,takeS,foldS,List.take_length,w_fold,List.length_set,nc1,app_endI,app_fresh0',n1,n2,n5,n6,ne_eq,not_false_eq_true,not_true_eq_false,Nat.zero_mul,Nat.one_mul,Int.cast_ofNat_Int,true_and,Md.commitM,Md.w64,m0,s0,hf,k9,cpU sd];((try rw[hend]);(first | done | rfl | (rw[e1 m0];rfl) | (rw[e2 s0];rfl) | (rw[e1 m0,e2 s0];rfl))))
    simp only[eG,go_sem,thq S,nbr S,zN0,zN1,zN2,zN3,zN4,zI0,zI1,zI2,zI3,reduceCtorEq,o37_50 S,c_reti_Can S,hcan,Bool.not_true,Bool.not_false,o_conf_Still S,hm,hs,hs1,hr,hl,hl1,hlen,c_robq_Pop S,he0,c_seqm_At S,hxx,c_reti_ended S,retC,Md.retire,Md.endedM,d_endD',d_neC,d_ne0,d_neR,eq_true hend,show Nat.ble 1 1=true from rfl,show Nat.ble 2 2=true from rfl,show Nat.ble 3 3=true from rfl,show Nat.ble 1 2=true from rfl,show Nat.ble 2 3=true from rfl,List.getElem?_nil,List.getD_nil,Nat.reduceSub,Nat.sub_self,run,F_reti_commit,run80,off S 76 9 (by decide) rfl,off S 76 11 (by decide) rfl,off S 76 13 (by decide) rfl,off S 76 15 (by decide) rfl,off S 76 19 (by decide) rfl,off S 76 21 (by decide) rfl,off S 76 25 (by decide) rfl,off S 76 29 (by decide) rfl,o_callB,br_go,br_back,br_backB,br_backI,ver_some,ver_nil,ver_cons,ok_nil,ok_cons,un_d,un_agg,un_tup,un_sref,unS_some,unS_none,un_map,unB_cells,put_nil,put_cons,map_iteB,end_b,sp_lt,spN_some,rH_N,rB_cells,List.take_succ_cons,List.take_zero,List.drop_succ_cons,List.drop_zero,List.getD_cons_zero,List.getD_cons_succ,sw_t,sw_s,dl_nil,dl_cons,rep1',Option.map_some,Nat.zero_add,Nat.add_zero,hst,d0,d1,nbr S,deep_sr,dpI_len,dpI_take,Nat.le_refl,Option.bind_some,Option.map_none,foldT,takeS,foldS,List.take_length,w_fold,List.length_set,nc1,app_endI,app_fresh0',n1,n2,n5,n6,ne_eq,not_false_eq_true,not_true_eq_false,Nat.zero_mul,Nat.one_mul,Int.cast_ofNat_Int,true_and,Md.commitM,Md.w64,m0,s0,hf,k1,k2,k3,k4,k8,k9,k11,k12];((try rw[hend]);(first | done | rfl | (rw[e1 m0];rfl) | (rw[e2 s0];rfl) | (rw[e1 m0,e2 s0];rfl)))
end
end Go.Aug.Mc
