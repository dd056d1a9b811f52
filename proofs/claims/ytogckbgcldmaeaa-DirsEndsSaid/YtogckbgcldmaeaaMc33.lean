import Derived.Test.YtogckbgcldmaeaaMc5
import Derived.Test.YtogckbgcldmaeaaMc11
import Derived.Test.YtogckbgcldmaeaaMc14
import Derived.Test.YtogckbgcldmaeaaMc20
namespace Go.Aug.Mc
open Go Go.Aug
set_option linter.unusedSimpArgs false
set_option linter.unusedVariables false
set_option maxHeartbeats 40000000
variable {E:Env} {fn:FuncId->Option (Env->CallT->CallT)}
section
variable (S:Sur E fn)
include S
theorem o92_24:E.lives 92 7=none/\E.lives 92 15=none/\E.lives 92 19=none:=⟨off S 92 7 (by decide) rfl,off S 92 15 (by decide) rfl,off S 92 19 (by decide) rfl⟩
theorem o119_24:E.lives 119 7=none/\E.lives 119 11=none:=⟨off S 119 7 (by decide) rfl,off S 119 11 (by decide) rfl⟩
theorem raw_reti_Can (dp:Nat)(p:Prog)(c:Conf):Says E fn (dp+2) 92 [progD p,confD c] (vb (Md.canRetire p c)):=by
 unfold Says
 show ansOf (evC E fn (dp+1+1) 92 [.d (progD p),.d (confD c)] [])=_
 rw[evC_succ,S.f_reti_Can,apF_some,F_reti_Can,mkF_run _ _ _ _ _ _ _ _ rfl]
 by_cases h1:c.end_=0
 ·by_cases h2 : c.buf.length = 0
  ·simp only [eG, go_sem, thq S, nbr S, Nat.reduceLT, Nat.reduceEqDiff, Nat.reduceAdd, Nat.reduceMul, Nat.reduceLeDiff, Int.reduceEq, Int.reduceLT, Int.reduceLE, Int.reduceNeg, reduceCtorEq, o92_24 S, h1, h2, Md.canRetire, c_conf_Final S]
   simp
  ·obtain ⟨e, he⟩ := get_of (show 0 < c.buf.length by omega)
   have e0:Md.entAt c.buf 0=e:=by show(c.buf[0]?).getD _=_;rw[he];rfl
   have hz:(c.buf.length:Int)≠0:=by omega
   have w0:=w_ixI (l:=c.buf) (i:=0) (by decide) he .i64 8 rfl
   cases hd:e.done<;>cases hk:e.known<;>by_cases k10:(Md.at_ p e.pc).kind=10<;>by_cases k3:(Md.at_ p e.pc).kind=3
   all_goals first | omega | simp only[eG,go_sem,thq S,nbr S,Nat.reduceLT,Nat.reduceEqDiff,Nat.reduceAdd,Nat.reduceMul,Nat.reduceLeDiff,Int.reduceEq,Int.reduceLT,Int.reduceLE,Int.reduceNeg,reduceCtorEq,o92_24 S,h1,h2,hz,w0,Md.canRetire,e0,c_seqm_At S,c_conf_Final S,hd,hk,k10,k3,ne_eq,not_false_eq_true,not_true_eq_false,Bool.not_true,Bool.not_false]
 ·simp only[eG,go_sem,thq S,nbr S,Nat.reduceLT,Nat.reduceEqDiff,Nat.reduceAdd,Nat.reduceMul,Nat.reduceLeDiff,Int.reduceEq,Int.reduceLT,Int.reduceLE,Int.reduceNeg,reduceCtorEq,o92_24 S,h1,Md.canRetire,c_conf_Final S]
theorem c_reti_Can (dp:Nat)(p_w p_wn p_fu p_r0 p_r1 p_r2 p_r3:Int)(p_ms:List MemT)(p_ls:List Label)(p_is:List Ins)(c_r0 c_r1 c_r2 c_r3:Int)(c_mm c_st:List Int)(c_pc:Int)(c_bf:List Ent)(c_rb:List Int)(c_en:Int)(A:List Blk)(nb:Nat)(us:List Nat):evOwnK false E (evC E fn (dp+2)) 92 A nb (some ([.agg [vi p_w,vi p_wn,vi p_fu,vi p_r0,vi p_r1,vi p_r2,vi p_r3,rowD p_ms,rowD p_ls,rowD p_is],.agg [vi c_r0,vi c_r1,vi c_r2,vi c_r3,rowD c_mm,rowD c_st,vi c_pc,rowD c_bf,rowD c_rb,vi c_en]],us))=some (.made (.d (vb (Md.canRetire (⟨p_w,p_wn,p_fu,⟨p_r0,p_r1,p_r2,p_r3⟩,p_ms,p_ls,p_is⟩:Prog) (⟨⟨⟨c_r0,c_r1,c_r2,c_r3⟩,c_mm,c_st,c_pc⟩,c_bf,c_rb,c_en⟩:Conf)))) []):=
 Says.flat (raw_reti_Can S dp (⟨p_w,p_wn,p_fu,⟨p_r0,p_r1,p_r2,p_r3⟩,p_ms,p_ls,p_is⟩:Prog) (⟨⟨⟨c_r0,c_r1,c_r2,c_r3⟩,c_mm,c_st,c_pc⟩,c_bf,c_rb,c_en⟩:Conf) ) (np S 92 (by decide)) (rfl) A nb us
theorem raw_reti_ended (dp:Nat)(e:Ent)(x:Ins):Says E fn (dp+1) 119 [.agg (Cl.cells e),.agg (Cl.cells x)] (vi (Md.endedM e x)):=by
 unfold Says
 show ansOf (evC E fn (dp+1) 119 [.d (.agg (Cl.cells e)),.d (.agg (Cl.cells x))] [])=_
 rw[evC_succ,S.f_reti_ended,apF_some,F_reti_ended,mkF_run _ _ _ _ _ _ _ _ rfl]
 cases h1:e.fault<;>by_cases h2:x.kind=12<;>by_cases h3:x.kind=11
 all_goals first | omega | simp only[eG,go_sem,thq S,nbr S,Nat.reduceLT,Nat.reduceEqDiff,Nat.reduceAdd,Nat.reduceMul,Nat.reduceLeDiff,Int.reduceEq,Int.reduceLT,Int.reduceLE,Int.reduceNeg,reduceCtorEq,o119_24 S,h1,h2,h3,Md.endedM]
theorem c_reti_ended (dp:Nat)(e_pc e_vl e_ad e_fr e_nx:Int)(e_dn e_kn e_ft:Bool)(x_k x_o x_d:Int)(x_ag:Bool)(x_an:Int)(x_bg:Bool)(x_bn:Int)(x_nm:ByteArray)(x_tg:Int)(A:List Blk)(nb:Nat)(us:List Nat):evOwnK false E (evC E fn (dp+1)) 119 A nb (some ([.agg [vi e_pc,vi e_vl,vi e_ad,vi e_fr,vi e_nx,vb e_dn,vb e_kn,vb e_ft],.agg [vi x_k,vi x_o,vi x_d,vb x_ag,vi x_an,vb x_bg,vi x_bn,vt x_nm,vi x_tg]],us))=some (.made (.d (vi (Md.endedM (⟨e_pc,e_vl,e_ad,e_fr,e_nx,e_dn,e_kn,e_ft⟩:Ent) (⟨x_k,x_o,x_d,⟨x_ag,x_an⟩,⟨x_bg,x_bn⟩,x_nm,x_tg⟩:Ins)))) []):=
 Says.flat (raw_reti_ended S dp (⟨e_pc,e_vl,e_ad,e_fr,e_nx,e_dn,e_kn,e_ft⟩:Ent) (⟨x_k,x_o,x_d,⟨x_ag,x_an⟩,⟨x_bg,x_bn⟩,x_nm,x_tg⟩:Ins) ) (np S 119 (by decide)) (rfl) A nb us
end
set_option maxRecDepth 200000
theorem d_endD' (ps:List (Opd×Opd))(k:K)(tm:List AV)(A:List Blk):endD ps k tm A=bif refsNe tm ps then k tm A else none:=id rfl
theorem d_neC (tm:List AV)(p:Opd×Opd)(l:List (Opd×Opd)):refsNe tm (p::l)=(refNe (look tm p.1) (look tm p.2)&&refsNe tm l):=id rfl
theorem d_ne0 (tm:List AV):refsNe tm []=true:=id rfl
theorem d_neR (i v o j w q:Nat):refNe (.ref i v o) (.ref j w q)= !Nat.beq i j:=id rfl
variable {E:Env} {fn:FuncId->Option (Env->CallT->CallT)}
section
variable (S:Sur E fn)
include S
end
section
variable (S:Sur E fn)
include S
end
theorem l48:48<=limA:=by unfold limA;decide
theorem l1a:1<=limA:=by unfold limA;decide
variable {E:Env} {fn:FuncId->Option (Env->CallT->CallT)}
section
variable (S:Sur E fn)
include S
end
theorem app_fresh0' (A:List Blk)(s bytes n:Nat)(new:List AV)(h0:n≠0)(h1:n*bytes<=limA)(h2:n<=limA):evApp A s bytes (.d (.lst [] 0 (some 0))) new n=some (.fresh new n):=by
 obtain⟨m,rfl⟩:∃ m,n=m+1:=⟨n-1,by omega⟩
 rw[app_lst0,Nat.zero_add,if_pos ⟨by omega,by simp,h1,h2⟩];rfl
theorem wrI {l:List Int}{k:Nat}(h:k<l.length)(i v:Nat)(A:List Blk)(n:Int):storeAt A i v (k*1) [.d (vi n)] 1 (some (.cells ((rowC l).map .d) v false))=some (A.set i (.cells ((rowC (l.set k n)).map .d) v false)):=by
 have he:l[k]? =some l[k]:=List.getElem?_eq_getElem h
 exact st_row (o:=0) (e':=n) [vi n] he rfl rfl rfl rfl (by show 0+1<=1;decide) 1 rfl _ rfl
theorem dpI_len (l:List Int)(n:Nat)(hn:n<=l.length):n*1<=((rowC l).map AV.d).length:=by
 rw[List.length_map,rowC_len];exact Nat.mul_le_mul_right _ hn
theorem dpI_take (A:List Blk)(m n:Nat)(l:List Int):mapD (deep A (m+1)) (((rowC l).map AV.d).take (n*1))=some (rowC (l.take n),[]):=by
 rw[<-List.map_take,show n*1=n*Cl.n Int from rfl,rowC_take,mapD_dd]
theorem nc1 (A:List Blk)(x:DV)(k:Option Nat):newCells A false 1 (.d (.lst [x] 1 k))=some ([.d x],1):=rfl
theorem foldT (l:List Int)(n:Nat)(h:n<=l.length):DV.lst (rowC (l.take n)) n none=rowD (l.take n):=by
 unfold rowD;rw[List.length_take,Nat.min_eq_left h]
theorem takeS (l:List Int)(k:Nat)(v:Int):(l.set k v).take l.length=l.set k v:=List.take_of_length_le (by rw[List.length_set];exact Nat.le_refl _)
theorem foldS (l:List Int)(k:Nat)(v:Int):DV.lst (rowC (l.set k v)) l.length none=rowD (l.set k v):=by
 unfold rowD;rw[List.length_set]
def retC (p:Prog)(c:Conf):Conf:=bif Md.canRetire p c then Md.retire p c else Md.conf0
theorem retire_some {p:Prog}{c:Conf}(h:Md.canRetire p c=true):∃ e,c.buf[0]? =some e/\Md.entAt c.buf 0=e/\c.end_=0:=by
 simp only[Md.canRetire,Bool.and_eq_true,beq_iff_eq,decide_eq_true_eq] at h
 obtain⟨e,he⟩:=get_of (show 0<c.buf.length by omega)
 exact⟨e,he,by unfold Md.entAt;rw[show(0:Int).toNat=0 from rfl,he];rfl,h.1.1.1⟩
variable {E:Env} {fn:FuncId->Option (Env->CallT->CallT)}
section
variable (S:Sur E fn)
include S
end
end Go.Aug.Mc
