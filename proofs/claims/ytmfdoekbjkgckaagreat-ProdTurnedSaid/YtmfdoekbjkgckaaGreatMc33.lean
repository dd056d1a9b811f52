import Derived.Test.YtmfdoekbjkgckaaGreatMc18
import Derived.Test.YtmfdoekbjkgckaaGreatMc9
import Derived.Test.YtmfdoekbjkgckaaGreatMc12
namespace Go.Aug.Mc
open Go Go.Aug
set_option linter.unusedSimpArgs false
set_option linter.unusedVariables false
set_option maxHeartbeats 40000000
set_option maxRecDepth 200000
def A7 (N:Int)(p:Prog)(c:Conf)(i:Int):Conf×List Obs:=bif Md.can N p c i then Md.A6 N p c i else(Md.QH,[])
theorem Zcc {N:Int}{p:Prog}{c:Conf}{i:Int}(h:Md.can N p c i=true):Md.JG p c i=true:=by
 simp only[Md.can,Bool.and_eq_true] at h;exact h.1.1
variable {E:Env} {fn:FuncId->Option (Env->cT->cT)}
section
variable (S:Sur E fn)
include S
theorem Z60:E.lives 63 7=none/\E.lives 63 25=none/\E.lives 63 27=none/\E.lives 63 31=none/\E.lives 63 35=none/\E.lives 63 37=none/\E.lives 63 41=none/\E.lives 63 45=none/\E.lives 63 49=none:=⟨off S 63 7 (by decide) rfl,off S 63 25 (by decide) rfl,off S 63 27 (by decide) rfl,off S 63 31 (by decide) rfl,off S 63 35 (by decide) rfl,off S 63 37 (by decide) rfl,off S 63 41 (by decide) rfl,off S 63 45 (by decide) rfl,off S 63 49 (by decide) rfl⟩
theorem Zkk (dp:Nat)(p:Prog)(c:Conf)(i:Int)(hp:p.mems.length<1073741824)(hm:c.state.mem.length<1073741824)(hs:c.state.stack.length<1073741824)(hl:c.buf.length<1073741824)(hr:c.rsb.length<1073741824)(hg:(Bv (Md.real p c.state.stack c.buf i)).length<1073741824):Z6 E fn (dp+10) 63 [Zw p,ZA c,vi i] (.tup [ZA (A7 (Z7 p.mems) p c i).1,rD (A7 (Z7 p.mems) p c i).2,vb (Md.can (Z7 p.mems) p c i)]):=by
 unfold Z6
 show Zk (Z4 E fn (dp+9+1) 63 [.d (Zw p),.d (ZA c),.d (vi i)] [])=_
 rw[ZK,S.Zat,ZM,Zg2,ZP _ _ _ _ _ _ _ _ rfl]
 cases hcan:Md.can (Z7 p.mems) p c i with
 | false=>simp only[eG,go_sem,Z3 S,Z2 S,Nat.reduceLT,Nat.reduceEqDiff,Nat.reduceAdd,Nat.reduceMul,Nat.reduceLeDiff,Int.reduceEq,Int.reduceLT,Int.reduceLE,Int.reduceNeg,reduceCtorEq,Z60 S,PE S,hl,hp,hcan,Bool.not_false,A7,Md.QH]
 | true=>
  have ho:=Zcc hcan
  obtain⟨h0,he,h1⟩:=NW ho
  simp only[eG,go_sem,Z3 S,Z2 S,Nat.reduceLT,Nat.reduceEqDiff,Nat.reduceAdd,Nat.reduceMul,Nat.reduceLeDiff,Int.reduceEq,Int.reduceLT,Int.reduceLE,Int.reduceNeg,reduceCtorEq,Z60 S,PE S,hl,hp,hm,hs,hr,hg,h0,h1,hcan,Bool.not_true,H1 S,ho,JY,WP S,Zcm S,Zrp S,Zro S,Zcl S,KN S,WQ S,Zs3 S,A7,Md.A6,Md.put,Z9,Yk,Nat.one_ne_zero,Nat.one_mul,Nat.le_refl,Nat.succ_ne_zero,R3,R1]
  by_cases k1:(Md.YB p c i).kind=1
  ·simp only[k1,Md.J6,Md.put,if_true,if_false,Int.reduceEq,decide_true,cond_true];rfl
  by_cases k4:(Md.YB p c i).kind=4
  ·simp only[k4,Md.J6,Md.put,if_true,if_false,Int.reduceEq,decide_true,decide_false,cond_true,cond_false];rfl
  by_cases k3:(Md.YB p c i).kind=3
  ·simp only[k3,Md.J6,Md.put,if_true,if_false,Int.reduceEq,decide_true,decide_false,cond_true,cond_false];rfl
  by_cases k5:(Md.YB p c i).kind=5
  ·simp only[k5,Md.J6,if_true,if_false,Int.reduceEq,decide_true,decide_false,cond_true,cond_false]
  by_cases k7:(Md.YB p c i).kind=7
  ·simp only[k7,Md.J6,if_true,if_false,Int.reduceEq,decide_true,decide_false,cond_true,cond_false]
  by_cases k9:(Md.YB p c i).kind=9
  ·simp only[k9,Md.J6,if_true,if_false,Int.reduceEq,decide_true,decide_false,cond_true,cond_false]
  by_cases k2:(Md.YB p c i).kind=2
  ·have hab:KW ⟨p,c,i,Md.ZW c.buf i,Md.YB p c i⟩=true:=by
    have h:=hcan
    simp only[Md.can,Md.ready,k2,Int.reduceEq,or_self,if_false,if_true,Bool.and_eq_true] at h
    show((Md.Y5 p c i (Md.YB p c i).a).2&&(Md.Y5 p c i (Md.YB p c i).b).2)=true
    rw[h.2.1.1,h.2.1.2];rfl
   have had:FU ⟨p,c,i,Md.ZW c.buf i,Md.YB p c i⟩=Md.Y2 p.w ((Md.Y5 p c i (Md.YB p c i).a).1+(Md.Y5 p c i (Md.YB p c i).b).1):=rfl
   by_cases hin:Md.Y2 p.w ((Md.Y5 p c i (Md.YB p c i).a).1+(Md.Y5 p c i (Md.YB p c i).b).1)<Z7 p.mems
   ·have hin' : MZ ⟨p, c, i, Md.ZW c.buf i, Md.YB p c i⟩ = true := by unfold MZ; rw [had]; exact decide_eq_true hin
    simp only[k2,FE,hab,hin',had,Md.J6,Md.put,if_true,if_false,Int.reduceEq,decide_true,decide_false,cond_true,cond_false,ge_iff_le,Int.not_le.2 hin];rfl
   ·have hin' : MZ ⟨p, c, i, Md.ZW c.buf i, Md.YB p c i⟩ = false := by unfold MZ; rw [had]; exact decide_eq_false hin
    simp only[k2,FE,hab,hin',had,Md.J6,Md.put,if_true,if_false,Int.reduceEq,decide_true,decide_false,cond_true,cond_false,ge_iff_le,Int.not_lt.1 hin];rfl
  ·simp only[k1,k2,k3,k4,k5,k7,k9,Md.J6,Md.put,if_true,if_false,Int.reduceEq,decide_true,decide_false,cond_true,cond_false];rfl
end
open Nat renaming reduceLT -> zN0, reduceEqDiff -> zN1, reduceAdd -> zN2, reduceMul -> zN3, reduceLeDiff -> zN4
open Int renaming reduceEq -> zI0, reduceLT -> zI1, reduceLE -> zI2, reduceNeg -> zI3
theorem Z1i (p:Prog)(i addr:Int):∀(l:List Ent) (k:Nat),(Md.JW p i addr k l).2=true->(k:Int)<=(Md.JW p i addr k l).1/\(Md.JW p i addr k l).1<k+l.length
 | [],_,h=>by cases h
 | e::l,k,h=>by
  unfold Md.JW at h ⊢
  cases hh:Md.FK p i addr e with
  | true=>simp;omega
  | false=>
   rw[hh] at h
   simp only[cond_false] at h ⊢
   have:=Z1i p i addr l (k+1) h
   simp only[List.length_cons]
   omega
theorem Z7s {p:Prog}{l:List Ent}{i addr:Int}(h:(Md.JM p l i addr).2=true):0<=(Md.JM p l i addr).1/\(Md.JM p l i addr).1<l.length:=by
 have:=Z1i p i addr _ _ h
 unfold Md.JM
 rw[List.length_drop] at this
 omega
def EG (N:Int)(p:Prog)(c:Conf)(i:Int):Conf×List Obs:=bif Md.QC p c i then Md.EF N p c i else(Md.QH,[])
theorem Zce {p:Prog}{c:Conf}{i:Int}(h:Md.QC p c i=true):Md.JG p c i=true:=by
 simp only[Md.QC,Bool.and_eq_true] at h;exact h.1.1.1.1
variable {E:Env} {fn:FuncId->Option (Env->cT->cT)}
section
variable (S:Sur E fn)
include S
theorem VJ:E.lives 56 9=none:=off S 56 9 (by decide) rfl
theorem VH:E.lives 64 7=none/\E.lives 64 23=none/\E.lives 64 29=none:=⟨off S 64 7 (by decide) rfl,off S 64 23 (by decide) rfl,off S 64 29 (by decide) rfl⟩
theorem Zkl (dp:Nat)(p:Prog)(c:Conf)(i:Int)(hl:c.buf.length<1073741824):Z6 E fn (dp+7) 56 [Zw p,ZA c,vi i] (vb (Md.QC p c i)):=by
 unfold Z6
 show Zk (Z4 E fn (dp+6+1) 56 [.d (Zw p),.d (ZA c),.d (vi i)] [])=_
 rw[ZK,S.Zau,ZM,Zg3,ZP _ _ _ _ _ _ _ _ rfl]
 cases ho:Md.JG p c i with
 | false=>simp only[eG,go_sem,Z3 S,Z2 S,zN0,zN1,zN2,zN3,zN4,zI0,zI1,zI2,zI3,reduceCtorEq,VJ S,H1 S,hl,ho,Bool.not_false,Md.QC]
 | true=>
  by_cases k3:(Md.YB p c i).kind=3
  ·cases hk : (Md.ZW c.buf i).known with
   | true=>simp only[eG,go_sem,Z3 S,Z2 S,zN0,zN1,zN2,zN3,zN4,zI0,zI1,zI2,zI3,reduceCtorEq,VJ S,H1 S,hl,ho,JY,eq_true k3,hk,Bool.not_true,Md.QC]
   | false=>
    have hk2:(JY p c i).e.known=false:=hk
    simp only[eG,go_sem,Z3 S,Z2 S,zN0,zN1,zN2,zN3,zN4,zI0,zI1,zI2,zI3,reduceCtorEq,VJ S,H1 S,hl,ho,JY,eq_true k3,hk,Bool.not_true,Bool.not_false,Md.QC,Nv S]
  ·simp only[eG,go_sem,Z3 S,Z2 S,zN0,zN1,zN2,zN3,zN4,zI0,zI1,zI2,zI3,reduceCtorEq,VJ S,H1 S,hl,ho,JY,eq_false k3,Bool.not_true,Bool.not_false,Md.QC]
theorem KP (dp:Nat)(p_w p_wn p_fu p_r0 p_r1 p_r2 p_r3:Int)(p_ms:List MemT)(p_ls:List Label)(p_is:List Ins)(c_r0 c_r1 c_r2 c_r3:Int)(c_mm c_st:List Int)(c_pc:Int)(c_bf:List Ent)(c_rb:List Int)(c_en i:Int)(hl:(⟨⟨⟨c_r0,c_r1,c_r2,c_r3⟩,c_mm,c_st,c_pc⟩,c_bf,c_rb,c_en⟩:Conf).buf.length<1073741824)(A:List Blk)(nb:Nat)(us:List Nat):ZH false E (Z4 E fn (dp+7)) 56 A nb (some ([.agg [vi p_w,vi p_wn,vi p_fu,vi p_r0,vi p_r1,vi p_r2,vi p_r3,rD p_ms,rD p_ls,rD p_is],.agg [vi c_r0,vi c_r1,vi c_r2,vi c_r3,rD c_mm,rD c_st,vi c_pc,rD c_bf,rD c_rb,vi c_en],vi i],us))=some (.made (.d (vb (Md.QC (⟨p_w,p_wn,p_fu,⟨p_r0,p_r1,p_r2,p_r3⟩,p_ms,p_ls,p_is⟩:Prog) (⟨⟨⟨c_r0,c_r1,c_r2,c_r3⟩,c_mm,c_st,c_pc⟩,c_bf,c_rb,c_en⟩:Conf) i))) []):=
 Z6.flat (Zkl S dp (⟨p_w,p_wn,p_fu,⟨p_r0,p_r1,p_r2,p_r3⟩,p_ms,p_ls,p_is⟩:Prog) (⟨⟨⟨c_r0,c_r1,c_r2,c_r3⟩,c_mm,c_st,c_pc⟩,c_bf,c_rb,c_en⟩:Conf) i hl) (np S 56 (by decide)) (rfl) A nb us
theorem Zkn (dp:Nat)(p:Prog)(c:Conf)(i:Int)(hp:p.mems.length<1073741824)(hm:c.state.mem.length<1073741824)(hs:c.state.stack.length<1073741824)(hl:c.buf.length<1073741824)(hr:c.rsb.length<1073741824):Z6 E fn (dp+8) 64 [Zw p,ZA c,vi i] (.tup [ZA (EG (Z7 p.mems) p c i).1,rD (EG (Z7 p.mems) p c i).2,vb (Md.QC p c i)]):=by
 unfold Z6
 show Zk (Z4 E fn (dp+7+1) 64 [.d (Zw p),.d (ZA c),.d (vi i)] [])=_
 rw[ZK,S.Zaw,ZM,Zg5,ZP _ _ _ _ _ _ _ _ rfl]
 cases hcan:Md.QC p c i with
 | false=>simp only[eG,go_sem,Z3 S,Z2 S,zN0,zN1,zN2,zN3,zN4,zI0,zI1,zI2,zI3,reduceCtorEq,VH S,KP S,hl,hp,hcan,Bool.not_false,EG,Md.QH]
 | true=>
  have ho:=Zce hcan
  obtain⟨h0,he,h1⟩:=NW ho
  have had:Md.Y2 p.w ((Md.Y5 p c i (Md.YB p c i).a).1+(Md.Y5 p c i (Md.YB p c i).b).1)=Md.J9 p c i:=rfl
  by_cases hin:Md.J9 p c i<Z7 p.mems
  ·have hge : ¬ Md.J9 p c i >= Z7 p.mems := by omega
   have hlen:∀ e,(c.buf.set i.toNat e).length=c.buf.length:=fun e=>List.length_set
   generalize hL:c.buf.set i.toNat { Md.ZW c.buf i with addr:=Md.J9 p c i,known:=true,fault:=false }=L
   have hLl:L.length<1073741824:=by rw[<-hL,hlen];exact hl
   cases hz:(Md.JM p L i (Md.J9 p c i)).2 with
   | false=>simp only[eG,go_sem,Z3 S,Z2 S,zN0,zN1,zN2,zN3,zN4,zI0,zI1,zI2,zI3,reduceCtorEq,VH S,KP S,hl,hp,hm,hs,hr,h0,h1,hcan,Bool.not_true,Bool.not_false,H1 S,ho,JY,Nv S,TX S,had,KN S,EG,Md.EF,Md.KV,Md.put,Z9,Yk,Nat.one_ne_zero,Nat.one_mul,Nat.le_refl,Nat.succ_ne_zero,hin,hge,hL,hLl,Zck S,hz,show i<4611686018427387904 by omega,show -4611686018427387904<i by omega,Md.N9];rfl
   | true=>
    obtain⟨z0,z1⟩:=Z7s hz
    obtain⟨e2,he2⟩:=YX (show(Md.JM p L i (Md.J9 p c i)).1.toNat<L.length by omega)
    have he3:Md.ZW L (Md.JM p L i (Md.J9 p c i)).1=e2:=by unfold Md.ZW;rw[he2];rfl
    simp only[eG,go_sem,Z3 S,Z2 S,zN0,zN1,zN2,zN3,zN4,zI0,zI1,zI2,zI3,reduceCtorEq,VH S,KP S,hl,hp,hm,hs,hr,h0,h1,hcan,Bool.not_true,Bool.not_false,H1 S,ho,JY,Nv S,TX S,had,KN S,EG,Md.EF,Md.KV,Md.put,Z9,Yk,Nat.one_ne_zero,Nat.one_mul,Nat.le_refl,Nat.succ_ne_zero,hin,hge,hL,hLl,Zck S,hz,show i<4611686018427387904 by omega,show -4611686018427387904<i by omega,Md.N9,E5 z0 he2,he3,PD S,Md.cut];rfl
  ·have hge : Md.J9 p c i >= Z7 p.mems := by omega
   simp only[eG,go_sem,Z3 S,Z2 S,zN0,zN1,zN2,zN3,zN4,zI0,zI1,zI2,zI3,reduceCtorEq,VH S,KP S,hl,hp,hm,hs,hr,h0,h1,hcan,Bool.not_true,Bool.not_false,H1 S,ho,JY,Nv S,TX S,had,KN S,EG,Md.EF,Md.KV,Md.put,Z9,Yk,Nat.one_ne_zero,Nat.one_mul,Nat.le_refl,Nat.succ_ne_zero,hin,hge]
end
variable {E:Env} {fn:FuncId->Option (Env->cT->cT)}
section
variable (S:Sur E fn)
include S
theorem Z0k:E.lives 42 7=none:=off S 42 7 (by decide) rfl
theorem Z0j:E.lives 57 7=none/\E.lives 57 15=none/\E.lives 57 19=none:=⟨off S 57 7 (by decide) rfl,off S 57 15 (by decide) rfl,off S 57 19 (by decide) rfl⟩
theorem Zn1:E.lives 111 7=none/\E.lives 111 11=none:=⟨off S 111 7 (by decide) rfl,off S 111 11 (by decide) rfl⟩
theorem Zjp (dp:Nat)(p:Prog)(c:Conf):Z6 E fn (dp+2) 42 [Zw p,ZA c] (vb (Md.Qv p c)):=by
 unfold Z6
 show Zk (Z4 E fn (dp+1+1) 42 [.d (Zw p),.d (ZA c)] [])=_
 rw[ZK,S.Z9r,ZM,Zf0,ZP _ _ _ _ _ _ _ _ rfl]
 by_cases h1:c.end_=0
 ·by_cases h2 : c.buf.length = 0
  ·simp only [eG, go_sem, Z3 S, Z2 S, zN0, zN1, zN2, zN3, zN4, zI0, zI1, zI2, zI3, reduceCtorEq, Z0k S, h1, h2, Md.Qv]
   simp
  ·obtain ⟨e, he⟩ := YX (show 0 < c.buf.length by omega)
   have e0:Md.ZW c.buf 0=e:=by show(c.buf[0]?).getD _=_;rw[he];rfl
   have hz:(c.buf.length:Int)≠0:=by omega
   have w0:=E5 (l:=c.buf) (i:=0) (by decide) he .i64 8 rfl
   cases hd:e.done<;>cases hk:e.known<;>by_cases k10:(Md.at_ p e.pc).kind=10<;>by_cases k3:(Md.at_ p e.pc).kind=3
   all_goals first | omega | simp only[eG,go_sem,Z3 S,Z2 S,zN0,zN1,zN2,zN3,zN4,zI0,zI1,zI2,zI3,reduceCtorEq,Z0k S,h1,h2,hz,w0,Md.Qv,e0,ZV S,hd,hk,k10,k3,ne_eq,not_false_eq_true,not_true_eq_false,Bool.not_true,Bool.not_false]
 ·simp only[eG,go_sem,Z3 S,Z2 S,zN0,zN1,zN2,zN3,zN4,zI0,zI1,zI2,zI3,reduceCtorEq,Z0k S,h1,Md.Qv]
theorem JR (dp:Nat)(p_w p_wn p_fu p_r0 p_r1 p_r2 p_r3:Int)(p_ms:List MemT)(p_ls:List Label)(p_is:List Ins)(c_r0 c_r1 c_r2 c_r3:Int)(c_mm c_st:List Int)(c_pc:Int)(c_bf:List Ent)(c_rb:List Int)(c_en:Int)(A:List Blk)(nb:Nat)(us:List Nat):ZH false E (Z4 E fn (dp+2)) 42 A nb (some ([.agg [vi p_w,vi p_wn,vi p_fu,vi p_r0,vi p_r1,vi p_r2,vi p_r3,rD p_ms,rD p_ls,rD p_is],.agg [vi c_r0,vi c_r1,vi c_r2,vi c_r3,rD c_mm,rD c_st,vi c_pc,rD c_bf,rD c_rb,vi c_en]],us))=some (.made (.d (vb (Md.Qv (⟨p_w,p_wn,p_fu,⟨p_r0,p_r1,p_r2,p_r3⟩,p_ms,p_ls,p_is⟩:Prog) (⟨⟨⟨c_r0,c_r1,c_r2,c_r3⟩,c_mm,c_st,c_pc⟩,c_bf,c_rb,c_en⟩:Conf)))) []):=
 Z6.flat (Zjp S dp (⟨p_w,p_wn,p_fu,⟨p_r0,p_r1,p_r2,p_r3⟩,p_ms,p_ls,p_is⟩:Prog) (⟨⟨⟨c_r0,c_r1,c_r2,c_r3⟩,c_mm,c_st,c_pc⟩,c_bf,c_rb,c_en⟩:Conf) ) (np S 42 (by decide)) (rfl) A nb us
theorem Ziy (dp:Nat)(p:Prog)(c:Conf):Z6 E fn (dp+2) 57 [Zw p,ZA c] (vb (Md.Qv p c)):=by
 unfold Z6
 show Zk (Z4 E fn (dp+1+1) 57 [.d (Zw p),.d (ZA c)] [])=_
 rw[ZK,S.Z8z,ZM,Ze8,ZP _ _ _ _ _ _ _ _ rfl]
 by_cases h1:c.end_=0
 ·by_cases h2 : c.buf.length = 0
  ·simp only [eG, go_sem, Z3 S, Z2 S, zN0, zN1, zN2, zN3, zN4, zI0, zI1, zI2, zI3, reduceCtorEq, Z0j S, h1, h2, Md.Qv, EB S]
   simp
  ·obtain ⟨e, he⟩ := YX (show 0 < c.buf.length by omega)
   have e0:Md.ZW c.buf 0=e:=by show(c.buf[0]?).getD _=_;rw[he];rfl
   have hz:(c.buf.length:Int)≠0:=by omega
   have w0:=E5 (l:=c.buf) (i:=0) (by decide) he .i64 8 rfl
   cases hd:e.done<;>cases hk:e.known<;>by_cases k10:(Md.at_ p e.pc).kind=10<;>by_cases k3:(Md.at_ p e.pc).kind=3
   all_goals first | omega | simp only[eG,go_sem,Z3 S,Z2 S,zN0,zN1,zN2,zN3,zN4,zI0,zI1,zI2,zI3,reduceCtorEq,Z0j S,h1,h2,hz,w0,Md.Qv,e0,Yx S,EB S,hd,hk,k10,k3,ne_eq,not_false_eq_true,not_true_eq_false,Bool.not_true,Bool.not_false]
 ·simp only[eG,go_sem,Z3 S,Z2 S,zN0,zN1,zN2,zN3,zN4,zI0,zI1,zI2,zI3,reduceCtorEq,Z0j S,h1,Md.Qv,EB S]
theorem Jz (dp:Nat)(p_w p_wn p_fu p_r0 p_r1 p_r2 p_r3:Int)(p_ms:List MemT)(p_ls:List Label)(p_is:List Ins)(c_r0 c_r1 c_r2 c_r3:Int)(c_mm c_st:List Int)(c_pc:Int)(c_bf:List Ent)(c_rb:List Int)(c_en:Int)(A:List Blk)(nb:Nat)(us:List Nat):ZH false E (Z4 E fn (dp+2)) 57 A nb (some ([.agg [vi p_w,vi p_wn,vi p_fu,vi p_r0,vi p_r1,vi p_r2,vi p_r3,rD p_ms,rD p_ls,rD p_is],.agg [vi c_r0,vi c_r1,vi c_r2,vi c_r3,rD c_mm,rD c_st,vi c_pc,rD c_bf,rD c_rb,vi c_en]],us))=some (.made (.d (vb (Md.Qv (⟨p_w,p_wn,p_fu,⟨p_r0,p_r1,p_r2,p_r3⟩,p_ms,p_ls,p_is⟩:Prog) (⟨⟨⟨c_r0,c_r1,c_r2,c_r3⟩,c_mm,c_st,c_pc⟩,c_bf,c_rb,c_en⟩:Conf)))) []):=
 Z6.flat (Ziy S dp (⟨p_w,p_wn,p_fu,⟨p_r0,p_r1,p_r2,p_r3⟩,p_ms,p_ls,p_is⟩:Prog) (⟨⟨⟨c_r0,c_r1,c_r2,c_r3⟩,c_mm,c_st,c_pc⟩,c_bf,c_rb,c_en⟩:Conf) ) (np S 57 (by decide)) (rfl) A nb us
theorem Ziw (dp:Nat)(e:Ent)(x:Ins):Z6 E fn (dp+1) 111 [.agg (Cl.cells e),.agg (Cl.cells x)] (vi (Md.Jx e x)):=by
 unfold Z6
 show Zk (Z4 E fn (dp+1) 111 [.d (.agg (Cl.cells e)),.d (.agg (Cl.cells x))] [])=_
 rw[ZK,S.Z8w,ZM,Ze6,ZP _ _ _ _ _ _ _ _ rfl]
 cases h1:e.fault<;>by_cases h2:x.kind=12<;>by_cases h3:x.kind=11
 all_goals first | omega | simp only[eG,go_sem,Z3 S,Z2 S,zN0,zN1,zN2,zN3,zN4,zI0,zI1,zI2,zI3,reduceCtorEq,Zn1 S,h1,h2,h3,Md.Jx]
theorem Ev (dp:Nat)(e_pc e_vl e_ad e_fr e_nx:Int)(e_dn e_kn e_ft:Bool)(x_k x_o x_d:Int)(x_ag:Bool)(x_an:Int)(x_bg:Bool)(x_bn:Int)(x_nm:ByteArray)(x_tg:Int)(A:List Blk)(nb:Nat)(us:List Nat):ZH false E (Z4 E fn (dp+1)) 111 A nb (some ([.agg [vi e_pc,vi e_vl,vi e_ad,vi e_fr,vi e_nx,vb e_dn,vb e_kn,vb e_ft],.agg [vi x_k,vi x_o,vi x_d,vb x_ag,vi x_an,vb x_bg,vi x_bn,vt x_nm,vi x_tg]],us))=some (.made (.d (vi (Md.Jx (⟨e_pc,e_vl,e_ad,e_fr,e_nx,e_dn,e_kn,e_ft⟩:Ent) (⟨x_k,x_o,x_d,⟨x_ag,x_an⟩,⟨x_bg,x_bn⟩,x_nm,x_tg⟩:Ins)))) []):=
 Z6.flat (Ziw S dp (⟨e_pc,e_vl,e_ad,e_fr,e_nx,e_dn,e_kn,e_ft⟩:Ent) (⟨x_k,x_o,x_d,⟨x_ag,x_an⟩,⟨x_bg,x_bn⟩,x_nm,x_tg⟩:Ins) ) (np S 111 (by decide)) (rfl) A nb us
theorem Zjw (dp:Nat)(p:Prog)(a:Int):Z6 E fn (dp+1) 124 [Zw p,vi a] (vi (min a p.ins.length)):=by
 unfold Z6
 show Zk (Z4 E fn (dp+1) 124 [.d (Zw p),.d (vi a)] [])=_
 rw[ZK,S.Za1,ZM,Zfa,ZP _ _ _ _ _ _ _ _ rfl]
 simp only[eG,go_sem,Z3 S,Z2 S,zN0,zN1,zN2,zN3,zN4,zI0,zI1,zI2,zI3,reduceCtorEq]
theorem DH (dp:Nat)(p_w p_wn p_fu p_r0 p_r1 p_r2 p_r3:Int)(p_ms:List MemT)(p_ls:List Label)(p_is:List Ins)(a:Int)(A:List Blk)(nb:Nat)(us:List Nat):ZH false E (Z4 E fn (dp+1)) 124 A nb (some ([.agg [vi p_w,vi p_wn,vi p_fu,vi p_r0,vi p_r1,vi p_r2,vi p_r3,rD p_ms,rD p_ls,rD p_is],vi a],us))=some (.made (.d (vi (min a (⟨p_w,p_wn,p_fu,⟨p_r0,p_r1,p_r2,p_r3⟩,p_ms,p_ls,p_is⟩:Prog).ins.length))) []):=
 Z6.flat (Zjw S dp (⟨p_w,p_wn,p_fu,⟨p_r0,p_r1,p_r2,p_r3⟩,p_ms,p_ls,p_is⟩:Prog) a ) (np S 124 (by decide)) (rfl) A nb us
end
theorem Q1 (ps:List (Opd×Opd))(k:K)(tm:List AV)(A:List Blk):HW ps k tm A=bif Dq tm ps then k tm A else none:=id rfl
theorem YZ (tm:List AV)(p:Opd×Opd)(l:List (Opd×Opd)):Dq tm (p::l)=(Hq (look tm p.1) (look tm p.2)&&Dq tm l):=id rfl
theorem Q0 (tm:List AV):Dq tm []=true:=id rfl
theorem YY (i v o j w q:Nat):Hq (.ref i v o) (.ref j w q)= !Nat.beq i j:=id rfl
theorem WE (l:List Ent)(i:Int)(e:Ent):Md.cut (l.set i.toNat e) i=Md.cut l i:=by
 unfold Md.cut;rw[List.take_set_of_le (Nat.le_refl _)]
theorem CE (p:Prog)(c:Conf)(i:Int)(e:Ent)(v:Val):Md.Y5 p ⟨c.state,c.buf.set i.toNat e,c.rsb,c.end_⟩ i v=Md.Y5 p c i v:=by
 unfold Md.Y5 Md.val Md.reg;simp only[WE]
theorem CY (p:Prog)(c:Conf)(i:Int)(e:Ent)(r:Int):Md.C8 p ⟨c.state,c.buf.set i.toNat e,c.rsb,c.end_⟩ i r=Md.C8 p c i r:=by
 unfold Md.C8 Md.reg;simp only[WE]
theorem DC (p:Prog)(mem:List Int)(l:List Ent)(i a:Int)(e:Ent):Md.load p mem (l.set i.toNat e) i a=Md.load p mem l i a:=by
 unfold Md.load;rw[WE]
theorem CJ (p:Prog)(st:List Int)(l:List Ent)(i:Int)(e:Ent):Md.real p st (l.set i.toNat e) i=Md.real p st l i:=by
 unfold Md.real;rw[WE]
theorem BW (A:List Blk)(s bytes n:Nat)(new:List AV)(h0:n≠0)(h1:n*bytes<=Z5)(h2:n<=Z5):Q7 A s bytes (.d (.lst [] 0 (some 0))) new n=some (.fresh new n):=by
 obtain⟨m,rfl⟩:∃ m,n=m+1:=⟨n-1,by omega⟩
 rw[Zd8,Nat.zero_add,if_pos ⟨by omega,by simp,h1,h2⟩];rfl
theorem CS {l:List Ent}{k:Nat}{e:Ent}(he:l[k]? =some e)(i v:Nat)(A:List Blk)(b:Bool):storeAt A i v (k*8+5) [.d (vb b)] 1 (some (.cells ((rC l).map .d) v false))=some (A.set i (.cells ((rC (l.set k { e with done:=b })).map .d) v false)):=
 Mw (o:=5) (e':={ e with done:=b }) [vb b] he rfl rfl rfl rfl (by show 5+1<=8;decide) 8 rfl _ rfl
theorem Z79 {r junk:List Int}(h:r.length≠0):BH false 1 (((rC (r++junk)).map AV.d).drop (r.length-1))=some (.d (vi (Md.Cz r))):=by
 have e1:∀ l:List Int,rC l=l.map vi:=by
  intro l
  induction l with
  | nil=>rfl
  | cons a l ih=>show Cl.cells a++rC l=_;rw[ih];rfl
 have e2:(((rC (r++junk)).map AV.d).drop (r.length-1)).head? =some (.d (vi (Md.Cz r))):=by
  rw[List.head?_drop,List.getElem?_map,e1,List.getElem?_map,List.getElem?_append_left (by omega),Z1a h];rfl
 exact e2
theorem BN {l:List Ent}(n:Nat)(h:n<=l.length):DV.lst (rC (l.take n)) n none=rD (l.take n):=by
 unfold rD;rw[List.length_take,Nat.min_eq_left h]
variable {E:Env} {fn:FuncId->Option (Env->cT->cT)}
section
variable (S:Sur E fn)
include S
theorem CM:E.lives 76 7=none/\E.lives 76 23=none/\E.lives 76 27=none/\E.lives 76 31=none/\E.lives 76 35=none/\E.lives 76 39=none/\E.lives 76 43=none/\E.lives 76 53=none/\E.lives 76 59=none/\E.lives 76 67=none/\E.lives 76 73=none/\E.lives 76 77=none:=⟨off S 76 7 (by decide) rfl,off S 76 23 (by decide) rfl,off S 76 27 (by decide) rfl,off S 76 31 (by decide) rfl,off S 76 35 (by decide) rfl,off S 76 39 (by decide) rfl,off S 76 43 (by decide) rfl,off S 76 53 (by decide) rfl,off S 76 59 (by decide) rfl,off S 76 67 (by decide) rfl,off S 76 73 (by decide) rfl,off S 76 77 (by decide) rfl⟩
theorem Zjn (dp:Nat)(p:Prog)(c:Conf)(i:Int)(hl:c.buf.length<1073741824)(hs:c.state.stack.length<1073741824)(hg:(Bv (Md.real p c.state.stack c.buf i)).length<1073741824)(hz:Md.can (c.state.mem.length:Int) p c i=true->(Md.YB p c i).kind=2->(Md.ZW c.buf i).val=0/\(Md.ZW c.buf i).frm= -1):Z6 E fn (dp+6) 76 [Zw p,ZA c,vi i] (.tup [ZA (A7 (c.state.mem.length:Int) p c i).1,rD (A7 (c.state.mem.length:Int) p c i).2,vb (Md.can (c.state.mem.length:Int) p c i)]):=by
 unfold Z6
 show Zk (Z4 E fn (dp+5+1) 76 [.d (Zw p),.d (ZA c),.d (vi i)] [])=_
 rw[ZK,S.Z9p,ZM,Zey,ZP _ _ _ _ _ _ _ _ rfl]
 cases hcan:Md.can (c.state.mem.length:Int) p c i with
 | false=>simp only[eG,go_sem,Z3 S,Z2 S,zN0,zN1,zN2,zN3,zN4,zI0,zI1,zI2,zI3,reduceCtorEq,CM S,Bk S,hl,hcan,Bool.not_false,A7,Md.QH]
 | true=>
  have ho:=Zcc hcan
  obtain⟨h0,he,h1⟩:=NW ho
  replace hz:=hz hcan
  have hn:c.buf.length≠0:=by omega
  have hk:i.toNat<c.buf.length:=by omega
  have hk1:i.toNat+1<=c.buf.length:=hk
  have b1:c.buf.length*48<=Z5:=by unfold Z5;omega
  have b2:c.buf.length<=Z5:=by unfold Z5;omega
  have hx:Md.at_ p (Md.ZW c.buf i).pc=Md.YB p c i:=rfl
  generalize hxx:Md.YB p c i=x at *
  generalize hee:Md.ZW c.buf i=e at *
  have hv:∀ v:Val,(Md.val p c.state.regs (c.buf.set i.toNat { e with done:=true }) i v)=Md.Y5 p c i v:=fun v=>CE p c i _ v
  generalize hB:(ZS 0 _:CT)=BB
  simp only[eG,go_sem,Z3 S,Z2 S,zN0,zN1,zN2,zN3,zN4,zI0,zI1,zI2,zI3,reduceCtorEq,CM S,Nat.add_zero,Bk S,hl,hcan,Bool.not_true,h0,h1,hn,BW,b1,b2,ne_eq,not_false_eq_true,ZD,ZE,ZF,ZG,Q5,Z9,Nat.zero_add,Nat.zero_mul,CS he,CN hk,ZV S,hx,hk,Q1,YZ,Q0,YY,Yk,BC,BR,BG,BF,BN,List.length_set,Nat.le_refl,Option.bind_some,Option.map_some,B2 S,CE,CY]
  rw[<-hB]
  clear hB BB
  by_cases k1:x.kind=1
  ·simp only[eG,go_sem,Z3 S,Z2 S,zN0,zN1,zN2,zN3,zN4,zI0,zI1,zI2,zI3,reduceCtorEq,CM S,Nat.add_zero,Bk S,hl,hcan,Bool.not_true,h0,h1,hn,BW,b1,b2,ne_eq,not_false_eq_true,ZD,ZE,ZF,ZG,Q5,Z9,Nat.zero_add,Nat.zero_mul,CS he,CN hk,ZV S,hx,hk,Q1,YZ,Q0,YY,Yk,BC,BR,BG,BF,BN,List.length_set,Nat.le_refl,Option.bind_some,Option.map_some,B2 S,CE,CY,D9 hk,D8 hk,CU hk,C1 hk,C0 hk,BM hk,DJ S,AM S,CQ S,DC,CJ,A8 S,DH S,List.set_set,A7,Md.A6,Md.J6,Md.put,hxx,hee,Md.A0,k1]
  by_cases k4:x.kind=4
  ·by_cases ha : (Md.Y5 p c i x.a).1 = 0
   ·simp only[eG,go_sem,Z3 S,Z2 S,zN0,zN1,zN2,zN3,zN4,zI0,zI1,zI2,zI3,reduceCtorEq,CM S,Nat.add_zero,Bk S,hl,hcan,Bool.not_true,h0,h1,hn,BW,b1,b2,ne_eq,not_false_eq_true,ZD,ZE,ZF,ZG,Q5,Z9,Nat.zero_add,Nat.zero_mul,CS he,CN hk,ZV S,hx,hk,Q1,YZ,Q0,YY,Yk,BC,BR,BG,BF,BN,List.length_set,Nat.le_refl,Option.bind_some,Option.map_some,B2 S,CE,CY,D9 hk,D8 hk,CU hk,C1 hk,C0 hk,BM hk,DJ S,AM S,CQ S,DC,CJ,A8 S,DH S,List.set_set,A7,Md.A6,Md.J6,Md.put,hxx,hee,Md.A0,k4,ha,Bool.not_true,Bool.not_false]
   ·simp only[eG,go_sem,Z3 S,Z2 S,zN0,zN1,zN2,zN3,zN4,zI0,zI1,zI2,zI3,reduceCtorEq,CM S,Nat.add_zero,Bk S,hl,hcan,Bool.not_true,h0,h1,hn,BW,b1,b2,ne_eq,not_false_eq_true,ZD,ZE,ZF,ZG,Q5,Z9,Nat.zero_add,Nat.zero_mul,CS he,CN hk,ZV S,hx,hk,Q1,YZ,Q0,YY,Yk,BC,BR,BG,BF,BN,List.length_set,Nat.le_refl,Option.bind_some,Option.map_some,B2 S,CE,CY,D9 hk,D8 hk,CU hk,C1 hk,C0 hk,BM hk,DJ S,AM S,CQ S,DC,CJ,A8 S,DH S,List.set_set,A7,Md.A6,Md.J6,Md.put,hxx,hee,Md.A0,k4,ha,Bool.not_true,Bool.not_false]
  by_cases k3:x.kind=3
  ·simp only[eG,go_sem,Z3 S,Z2 S,zN0,zN1,zN2,zN3,zN4,zI0,zI1,zI2,zI3,reduceCtorEq,CM S,Nat.add_zero,Bk S,hl,hcan,Bool.not_true,h0,h1,hn,BW,b1,b2,ne_eq,not_false_eq_true,ZD,ZE,ZF,ZG,Q5,Z9,Nat.zero_add,Nat.zero_mul,CS he,CN hk,ZV S,hx,hk,Q1,YZ,Q0,YY,Yk,BC,BR,BG,BF,BN,List.length_set,Nat.le_refl,Option.bind_some,Option.map_some,B2 S,CE,CY,D9 hk,D8 hk,CU hk,C1 hk,C0 hk,BM hk,DJ S,AM S,CQ S,DC,CJ,A8 S,DH S,List.set_set,A7,Md.A6,Md.J6,Md.put,hxx,hee,Md.A0,k3]
  by_cases k2:x.kind=2
  ·obtain ⟨z1, z2⟩ := hz k2
   by_cases hin:Md.Y2 p.w ((Md.Y5 p c i x.a).1+(Md.Y5 p c i x.b).1)>=(c.state.mem.length:Int)
   ·simp only[eG,go_sem,Z3 S,Z2 S,zN0,zN1,zN2,zN3,zN4,zI0,zI1,zI2,zI3,reduceCtorEq,CM S,Nat.add_zero,Bk S,hl,hcan,Bool.not_true,h0,h1,hn,BW,b1,b2,ne_eq,not_false_eq_true,ZD,ZE,ZF,ZG,Q5,Z9,Nat.zero_add,Nat.zero_mul,CS he,CN hk,ZV S,hx,hk,Q1,YZ,Q0,YY,Yk,BC,BR,BG,BF,BN,List.length_set,Nat.le_refl,Option.bind_some,Option.map_some,B2 S,CE,CY,D9 hk,D8 hk,CU hk,C1 hk,C0 hk,BM hk,DJ S,AM S,CQ S,DC,CJ,A8 S,DH S,List.set_set,A7,Md.A6,Md.J6,Md.put,hxx,hee,Md.A0,k2,hin,z1,z2]
   ·simp only[eG,go_sem,Z3 S,Z2 S,zN0,zN1,zN2,zN3,zN4,zI0,zI1,zI2,zI3,reduceCtorEq,CM S,Nat.add_zero,Bk S,hl,hcan,Bool.not_true,h0,h1,hn,BW,b1,b2,ne_eq,not_false_eq_true,ZD,ZE,ZF,ZG,Q5,Z9,Nat.zero_add,Nat.zero_mul,CS he,CN hk,ZV S,hx,hk,Q1,YZ,Q0,YY,Yk,BC,BR,BG,BF,BN,List.length_set,Nat.le_refl,Option.bind_some,Option.map_some,B2 S,CE,CY,D9 hk,D8 hk,CU hk,C1 hk,C0 hk,BM hk,DJ S,AM S,CQ S,DC,CJ,A8 S,DH S,List.set_set,A7,Md.A6,Md.J6,Md.put,hxx,hee,Md.A0,k2,hin,z1,z2];rfl
  by_cases k5:x.kind=5
  ·by_cases hw : Md.DP p.w x.op (Md.Y5 p c i x.a).1 (Md.Y5 p c i x.b).1 = 0
   ·by_cases ht : e.next = IntKind.i64.wrap (e.pc + 1)
    ·simp only[eG,go_sem,Z3 S,Z2 S,zN0,zN1,zN2,zN3,zN4,zI0,zI1,zI2,zI3,reduceCtorEq,CM S,Nat.add_zero,Bk S,hl,hcan,Bool.not_true,h0,h1,hn,BW,b1,b2,ne_eq,not_false_eq_true,ZD,ZE,ZF,ZG,Q5,Z9,Nat.zero_add,Nat.zero_mul,CS he,CN hk,ZV S,hx,hk,Q1,YZ,Q0,YY,Yk,BC,BR,BG,BF,BN,List.length_set,Nat.le_refl,Option.bind_some,Option.map_some,B2 S,CE,CY,D9 hk,D8 hk,CU hk,C1 hk,C0 hk,BM hk,DJ S,AM S,CQ S,DC,CJ,A8 S,DH S,List.set_set,A7,Md.A6,Md.J6,Md.put,hxx,hee,Md.A0,show Nat.ble 1 1=true from rfl,J1,Aj,AN,B3,Aq,Ax,AP,AZ,B0,AS,AU,AQ,AR,AW,AX,GB,Az,Aw,AC,AY,List.getD_cons_zero,List.getD_cons_succ,List.drop_succ_cons,List.drop_zero,Nat.ble_eq,Nat.le_refl,List.length_cons,List.length_nil,HP S,Bool.not_true,Bool.not_false,Md.B6,Md.ZY,List.length_set,k5,hw,eq_true ht];rfl
    ·simp only[eG,go_sem,Z3 S,Z2 S,zN0,zN1,zN2,zN3,zN4,zI0,zI1,zI2,zI3,reduceCtorEq,CM S,Nat.add_zero,Bk S,hl,hcan,Bool.not_true,h0,h1,hn,BW,b1,b2,ne_eq,not_false_eq_true,ZD,ZE,ZF,ZG,Q5,Z9,Nat.zero_add,Nat.zero_mul,CS he,CN hk,ZV S,hx,hk,Q1,YZ,Q0,YY,Yk,BC,BR,BG,BF,BN,List.length_set,Nat.le_refl,Option.bind_some,Option.map_some,B2 S,CE,CY,D9 hk,D8 hk,CU hk,C1 hk,C0 hk,BM hk,DJ S,AM S,CQ S,DC,CJ,A8 S,DH S,List.set_set,A7,Md.A6,Md.J6,Md.put,hxx,hee,Md.A0,show Nat.ble 1 1=true from rfl,J1,Aj,AN,B3,Aq,Ax,AP,AZ,B0,AS,AU,AQ,AR,AW,AX,GB,Az,Aw,AC,AY,List.getD_cons_zero,List.getD_cons_succ,List.drop_succ_cons,List.drop_zero,Nat.ble_eq,Nat.le_refl,List.length_cons,List.length_nil,HP S,Bool.not_true,Bool.not_false,Md.B6,Md.ZY,List.length_set,k5,hw,ht,hk1];rfl
   ·by_cases ht : e.next = x.target
    ·simp only[eG,go_sem,Z3 S,Z2 S,zN0,zN1,zN2,zN3,zN4,zI0,zI1,zI2,zI3,reduceCtorEq,CM S,Nat.add_zero,Bk S,hl,hcan,Bool.not_true,h0,h1,hn,BW,b1,b2,ne_eq,not_false_eq_true,ZD,ZE,ZF,ZG,Q5,Z9,Nat.zero_add,Nat.zero_mul,CS he,CN hk,ZV S,hx,hk,Q1,YZ,Q0,YY,Yk,BC,BR,BG,BF,BN,List.length_set,Nat.le_refl,Option.bind_some,Option.map_some,B2 S,CE,CY,D9 hk,D8 hk,CU hk,C1 hk,C0 hk,BM hk,DJ S,AM S,CQ S,DC,CJ,A8 S,DH S,List.set_set,A7,Md.A6,Md.J6,Md.put,hxx,hee,Md.A0,show Nat.ble 1 1=true from rfl,J1,Aj,AN,B3,Aq,Ax,AP,AZ,B0,AS,AU,AQ,AR,AW,AX,GB,Az,Aw,AC,AY,List.getD_cons_zero,List.getD_cons_succ,List.drop_succ_cons,List.drop_zero,Nat.ble_eq,Nat.le_refl,List.length_cons,List.length_nil,HP S,Bool.not_true,Bool.not_false,Md.B6,Md.ZY,List.length_set,k5,hw,eq_true ht];rfl
    ·simp only[eG,go_sem,Z3 S,Z2 S,zN0,zN1,zN2,zN3,zN4,zI0,zI1,zI2,zI3,reduceCtorEq,CM S,Nat.add_zero,Bk S,hl,hcan,Bool.not_true,h0,h1,hn,BW,b1,b2,ne_eq,not_false_eq_true,ZD,ZE,ZF,ZG,Q5,Z9,Nat.zero_add,Nat.zero_mul,CS he,CN hk,ZV S,hx,hk,Q1,YZ,Q0,YY,Yk,BC,BR,BG,BF,BN,List.length_set,Nat.le_refl,Option.bind_some,Option.map_some,B2 S,CE,CY,D9 hk,D8 hk,CU hk,C1 hk,C0 hk,BM hk,DJ S,AM S,CQ S,DC,CJ,A8 S,DH S,List.set_set,A7,Md.A6,Md.J6,Md.put,hxx,hee,Md.A0,show Nat.ble 1 1=true from rfl,J1,Aj,AN,B3,Aq,Ax,AP,AZ,B0,AS,AU,AQ,AR,AW,AX,GB,Az,Aw,AC,AY,List.getD_cons_zero,List.getD_cons_succ,List.drop_succ_cons,List.drop_zero,Nat.ble_eq,Nat.le_refl,List.length_cons,List.length_nil,HP S,Bool.not_true,Bool.not_false,Md.B6,Md.ZY,List.length_set,k5,hw,ht,hk1];rfl
  by_cases k7:x.kind=7
  ·by_cases ht : e.next = min (Md.Y5 p c i x.a).1 p.ins.length
   ·simp only[eG,go_sem,Z3 S,Z2 S,zN0,zN1,zN2,zN3,zN4,zI0,zI1,zI2,zI3,reduceCtorEq,CM S,Nat.add_zero,Bk S,hl,hcan,Bool.not_true,h0,h1,hn,BW,b1,b2,ne_eq,not_false_eq_true,ZD,ZE,ZF,ZG,Q5,Z9,Nat.zero_add,Nat.zero_mul,CS he,CN hk,ZV S,hx,hk,Q1,YZ,Q0,YY,Yk,BC,BR,BG,BF,BN,List.length_set,Nat.le_refl,Option.bind_some,Option.map_some,B2 S,CE,CY,D9 hk,D8 hk,CU hk,C1 hk,C0 hk,BM hk,DJ S,AM S,CQ S,DC,CJ,A8 S,DH S,List.set_set,A7,Md.A6,Md.J6,Md.put,hxx,hee,Md.A0,show Nat.ble 1 1=true from rfl,J1,Aj,AN,B3,Aq,Ax,AP,AZ,B0,AS,AU,AQ,AR,AW,AX,GB,Az,Aw,AC,AY,List.getD_cons_zero,List.getD_cons_succ,List.drop_succ_cons,List.drop_zero,Nat.ble_eq,Nat.le_refl,List.length_cons,List.length_nil,HP S,Bool.not_true,Bool.not_false,Md.B6,Md.ZY,List.length_set,k7,eq_true ht];rfl
   ·simp only[eG,go_sem,Z3 S,Z2 S,zN0,zN1,zN2,zN3,zN4,zI0,zI1,zI2,zI3,reduceCtorEq,CM S,Nat.add_zero,Bk S,hl,hcan,Bool.not_true,h0,h1,hn,BW,b1,b2,ne_eq,not_false_eq_true,ZD,ZE,ZF,ZG,Q5,Z9,Nat.zero_add,Nat.zero_mul,CS he,CN hk,ZV S,hx,hk,Q1,YZ,Q0,YY,Yk,BC,BR,BG,BF,BN,List.length_set,Nat.le_refl,Option.bind_some,Option.map_some,B2 S,CE,CY,D9 hk,D8 hk,CU hk,C1 hk,C0 hk,BM hk,DJ S,AM S,CQ S,DC,CJ,A8 S,DH S,List.set_set,A7,Md.A6,Md.J6,Md.put,hxx,hee,Md.A0,show Nat.ble 1 1=true from rfl,J1,Aj,AN,B3,Aq,Ax,AP,AZ,B0,AS,AU,AQ,AR,AW,AX,GB,Az,Aw,AC,AY,List.getD_cons_zero,List.getD_cons_succ,List.drop_succ_cons,List.drop_zero,Nat.ble_eq,Nat.le_refl,List.length_cons,List.length_nil,HP S,Bool.not_true,Bool.not_false,Md.B6,Md.ZY,List.length_set,k7,ht,hk1];rfl
  by_cases k9:x.kind=9
  ·have hl2 : (c.buf.set i.toNat { e with done := true }).length < 1073741824 := by rw [List.length_set]; exact hl
   cases hreal:Md.real p c.state.stack c.buf i with
   | none=>
    have ho:=fun A nb us=>Zms S (dp+3) p c.state.stack (c.buf.set i.toNat { e with done:=true }) i hl2 hs (by rw[CJ];exact hreal) A nb us
    simp only[Zw,ZZ,Nat.add_assoc,zN2] at ho
    simp only[eG,go_sem,Z3 S,Z2 S,zN0,zN1,zN2,zN3,zN4,zI0,zI1,zI2,zI3,reduceCtorEq,CM S,Nat.add_zero,Bk S,hl,hcan,Bool.not_true,h0,h1,hn,BW,b1,b2,ne_eq,not_false_eq_true,ZD,ZE,ZF,ZG,Q5,Z9,Nat.zero_add,Nat.zero_mul,CS he,CN hk,ZV S,hx,hk,Q1,YZ,Q0,YY,Yk,BC,BR,BG,BF,BN,List.length_set,Nat.le_refl,Option.bind_some,Option.map_some,B2 S,CE,CY,D9 hk,D8 hk,CU hk,C1 hk,C0 hk,BM hk,DJ S,AM S,CQ S,DC,CJ,A8 S,DH S,List.set_set,A7,Md.A6,Md.J6,Md.put,hxx,hee,Md.A0,show Nat.ble 1 1=true from rfl,J1,Aj,AN,B3,Aq,Ax,AP,AZ,B0,AS,AU,AQ,AR,AW,AX,GB,Az,Aw,AC,AY,List.getD_cons_zero,List.getD_cons_succ,List.drop_succ_cons,List.drop_zero,Nat.ble_eq,Nat.le_refl,List.length_cons,List.length_nil,HP S,Bool.not_true,Bool.not_false,Md.B6,Md.ZY,List.length_set,k9,hreal,ho]
   | some r=>
    obtain⟨junk,q,ho⟩:=Zmr S (dp+3) p c.state.stack (c.buf.set i.toNat { e with done:=true }) i hl2 hs r (by rw[CJ];exact hreal)
    simp only[Zw,ZZ,Nat.add_assoc,zN2] at ho
    rw[hreal] at hg
    have hg':r.length<1073741824:=hg
    by_cases hr:r.length=0
    ·simp only[eG,go_sem,Z3 S,Z2 S,zN0,zN1,zN2,zN3,zN4,zI0,zI1,zI2,zI3,reduceCtorEq,CM S,Nat.add_zero,Bk S,hl,hcan,Bool.not_true,h0,h1,hn,BW,b1,b2,ne_eq,not_false_eq_true,ZD,ZE,ZF,ZG,Q5,Z9,Nat.zero_add,Nat.zero_mul,CS he,CN hk,ZV S,hx,hk,Q1,YZ,Q0,YY,Yk,BC,BR,BG,BF,BN,List.length_set,Nat.le_refl,Option.bind_some,Option.map_some,B2 S,CE,CY,D9 hk,D8 hk,CU hk,C1 hk,C0 hk,BM hk,DJ S,AM S,CQ S,DC,CJ,A8 S,DH S,List.set_set,A7,Md.A6,Md.J6,Md.put,hxx,hee,Md.A0,show Nat.ble 1 1=true from rfl,J1,Aj,AN,B3,Aq,Ax,AP,AZ,B0,AS,AU,AQ,AR,AW,AX,GB,Az,Aw,AC,AY,List.getD_cons_zero,List.getD_cons_succ,List.drop_succ_cons,List.drop_zero,Nat.ble_eq,Nat.le_refl,List.length_cons,List.length_nil,HP S,Bool.not_true,Bool.not_false,Md.B6,Md.ZY,List.length_set,k9,hreal,hr,ho,show((0:Nat):Int)=0 from rfl]
    ·have wl : IntKind.i64.wrap ((r.length : Int) - 1) = ((r.length - 1 : Nat) : Int) := by rw [Q4 (by omega) (by omega)]; omega
     have hi1:r.length-1<r.length:=by omega
     by_cases ht:e.next=Md.Cz r
     ·simp only[eG,go_sem,Z3 S,Z2 S,zN0,zN1,zN2,zN3,zN4,zI0,zI1,zI2,zI3,reduceCtorEq,CM S,Nat.add_zero,Bk S,hl,hcan,Bool.not_true,h0,h1,hn,BW,b1,b2,ne_eq,not_false_eq_true,ZD,ZE,ZF,ZG,Q5,Z9,Nat.zero_add,Nat.zero_mul,CS he,CN hk,ZV S,hx,hk,Q1,YZ,Q0,YY,Yk,BC,BR,BG,BF,BN,List.length_set,Nat.le_refl,Option.bind_some,Option.map_some,B2 S,CE,CY,D9 hk,D8 hk,CU hk,C1 hk,C0 hk,BM hk,DJ S,AM S,CQ S,DC,CJ,A8 S,DH S,List.set_set,A7,Md.A6,Md.J6,Md.put,hxx,hee,Md.A0,show Nat.ble 1 1=true from rfl,J1,Aj,AN,B3,Aq,Ax,AP,AZ,B0,AS,AU,AQ,AR,AW,AX,GB,Az,Aw,AC,AY,List.getD_cons_zero,List.getD_cons_succ,List.drop_succ_cons,List.drop_zero,Nat.ble_eq,Nat.le_refl,List.length_cons,List.length_nil,HP S,Bool.not_true,Bool.not_false,Md.B6,Md.ZY,List.length_set,k9,hreal,hr,ho,wl,hi1,Z79 hr,eq_true ht,Int.natCast_eq_zero,Int.toNat_natCast,Int.natCast_nonneg,Int.ofNat_lt,Nat.mul_one,true_and,and_true,if_true];rfl
     ·simp only[eG,go_sem,Z3 S,Z2 S,zN0,zN1,zN2,zN3,zN4,zI0,zI1,zI2,zI3,reduceCtorEq,CM S,Nat.add_zero,Bk S,hl,hcan,Bool.not_true,h0,h1,hn,BW,b1,b2,ne_eq,not_false_eq_true,ZD,ZE,ZF,ZG,Q5,Z9,Nat.zero_add,Nat.zero_mul,CS he,CN hk,ZV S,hx,hk,Q1,YZ,Q0,YY,Yk,BC,BR,BG,BF,BN,List.length_set,Nat.le_refl,Option.bind_some,Option.map_some,B2 S,CE,CY,D9 hk,D8 hk,CU hk,C1 hk,C0 hk,BM hk,DJ S,AM S,CQ S,DC,CJ,A8 S,DH S,List.set_set,A7,Md.A6,Md.J6,Md.put,hxx,hee,Md.A0,show Nat.ble 1 1=true from rfl,J1,Aj,AN,B3,Aq,Ax,AP,AZ,B0,AS,AU,AQ,AR,AW,AX,GB,Az,Aw,AC,AY,List.getD_cons_zero,List.getD_cons_succ,List.drop_succ_cons,List.drop_zero,Nat.ble_eq,Nat.le_refl,List.length_cons,List.length_nil,HP S,Bool.not_true,Bool.not_false,Md.B6,Md.ZY,List.length_set,k9,hreal,hr,ho,wl,hi1,Z79 hr,ht,Int.natCast_eq_zero,Int.toNat_natCast,Int.natCast_nonneg,Int.ofNat_lt,Nat.mul_one,true_and,and_true,if_true,hk1];rfl
  simp only[eG,go_sem,Z3 S,Z2 S,zN0,zN1,zN2,zN3,zN4,zI0,zI1,zI2,zI3,reduceCtorEq,CM S,Nat.add_zero,Bk S,hl,hcan,Bool.not_true,h0,h1,hn,BW,b1,b2,ne_eq,not_false_eq_true,ZD,ZE,ZF,ZG,Q5,Z9,Nat.zero_add,Nat.zero_mul,CS he,CN hk,ZV S,hx,hk,Q1,YZ,Q0,YY,Yk,BC,BR,BG,BF,BN,List.length_set,Nat.le_refl,Option.bind_some,Option.map_some,B2 S,CE,CY,D9 hk,D8 hk,CU hk,C1 hk,C0 hk,BM hk,DJ S,AM S,CQ S,DC,CJ,A8 S,DH S,List.set_set,A7,Md.A6,Md.J6,Md.put,hxx,hee,Md.A0,k1,k2,k3,k4,k5,k7,k9]
end
theorem W5 {L:List Ent}{k:Nat}{e:Ent}(he:L[k]? =some e):BH false 1 (((rC L).map AV.d).drop (k*8))=some (.d (vi e.pc)):=by
 have hk:k<L.length:=(List.getElem?_eq_some_iff.1 he).1
 have:L.set k e=L:=by
  obtain⟨_,rfl⟩:=List.getElem?_eq_some_iff.1 he
  exact List.set_getElem_self hk
 have h:=CN (e:=e) hk
 rw[this] at h;exact h
theorem Xq {l:List Ent}{k:Nat}{e:Ent}(he:l[k]? =some e)(i v:Nat)(A:List Blk)(n:Int):storeAt A i v (k*8+2) [.d (vi n)] 1 (some (.cells ((rC l).map .d) v false))=some (A.set i (.cells ((rC (l.set k { e with addr:=n })).map .d) v false)):=
 Mw (o:=2) (e':={ e with addr:=n }) [vi n] he rfl rfl rfl rfl (by show 2+1<=8;decide) 8 rfl _ rfl
theorem Zpb {p:Prog}{l:List Ent}{i addr:Int}(h:(Md.JM p l i addr).2=true):(Md.Cv l i:Int)<=(Md.JM p l i addr).1:=(Z1i p i addr _ _ h).1
variable {E:Env} {fn:FuncId->Option (Env->cT->cT)}
section
variable (S:Sur E fn)
include S
theorem VG:E.lives 77 7=none/\E.lives 77 21=none/\E.lives 77 29=none:=⟨off S 77 7 (by decide) rfl,off S 77 21 (by decide) rfl,off S 77 29 (by decide) rfl⟩
theorem Zju (dp:Nat)(p:Prog)(c:Conf)(i:Int)(hl:c.buf.length<1073741824)(hz:Md.QC p c i=true->(Md.ZW c.buf i).fault=false):Z6 E fn (dp+6) 77 [Zw p,ZA c,vi i] (.tup [ZA (EG (c.state.mem.length:Int) p c i).1,rD (EG (c.state.mem.length:Int) p c i).2,vb (Md.QC p c i)]):=by
 unfold Z6
 show Zk (Z4 E fn (dp+5+1) 77 [.d (Zw p),.d (ZA c),.d (vi i)] [])=_
 rw[ZK,S.Z9x,ZM,Zf6,ZP _ _ _ _ _ _ _ _ rfl]
 cases hcan:Md.QC p c i with
 | false=>simp only[eG,go_sem,Z3 S,Z2 S,Nat.reduceLT,Nat.reduceEqDiff,Nat.reduceAdd,Nat.reduceMul,Nat.reduceLeDiff,Int.reduceEq,Int.reduceLT,Int.reduceLE,Int.reduceNeg,reduceCtorEq,VG S,Nz S,hl,hcan,Bool.not_false,EG,Md.QH]
 | true=>
  have ho:=Zce hcan
  obtain⟨h0,he,h1⟩:=NW ho
  have hf:=hz hcan
  have hn:c.buf.length≠0:=by omega
  have hk:i.toNat<c.buf.length:=by omega
  have b1:c.buf.length*48<=Z5:=by unfold Z5;omega
  have b2:c.buf.length<=Z5:=by unfold Z5;omega
  have hx:Md.at_ p (Md.ZW c.buf i).pc=Md.YB p c i:=rfl
  have had:Md.Y2 p.w ((Md.Y5 p c i (Md.YB p c i).a).1+(Md.Y5 p c i (Md.YB p c i).b).1)=Md.J9 p c i:=rfl
  generalize hxx:Md.YB p c i=x at *
  generalize hee:Md.ZW c.buf i=e at *
  have hset:c.buf.set i.toNat e=c.buf:=by
   obtain⟨hq,hw⟩:=List.getElem?_eq_some_iff.1 he
   rw[<-hw];exact List.set_getElem_self hq
  have hL0:∀ n b,c.buf.set i.toNat { e with addr:=n,known:=b }=c.buf.set i.toNat ⟨e.pc,e.val,n,e.frm,e.next,e.done,b,false⟩:=fun n b=>by rw[<-hf]
  by_cases hin:(c.state.mem.length:Int)<=Md.J9 p c i
  ·simp only[eG,go_sem,Z3 S,Z2 S,Nat.reduceLT,Nat.reduceEqDiff,Nat.reduceAdd,Nat.reduceMul,Nat.reduceLeDiff,Int.reduceEq,Int.reduceLT,Int.reduceLE,Int.reduceNeg,reduceCtorEq,VG S,Nat.add_zero,Nz S,hl,hcan,Bool.not_true,h0,h1,hn,BW,b1,b2,ne_eq,not_false_eq_true,ZD,ZE,ZF,ZG,Q5,Z9,Nat.zero_add,Nat.zero_mul,Xq he,C1 hk,C0 hk,W5 he,BM hk,ZV S,hx,hk,Q1,YZ,Q0,YY,Yk,BC,BR,BG,BF,BN,List.take_length,Jv,List.length_set,Nat.le_refl,Option.bind_some,Option.map_some,B2 S,AM S,Md.A0,had,EG,Md.EF,Md.KV,Md.put,hee,ge_iff_le,hin]
  ·generalize hL : c.buf.set i.toNat ⟨e.pc, e.val, Md.J9 p c i, e.frm, e.next, e.done, true, false⟩ = L
   have hLl:L.length=c.buf.length:=by rw[<-hL];exact List.length_set
   have hLl2:L.length<1073741824:=by omega
   have hld:BH false 1 (((rC L).map AV.d).drop (i.toNat*8+2))=some (.d (vi (Md.J9 p c i))):=by rw[<-hL];exact BM hk
   have hfold:DV.lst (rC L) c.buf.length none=rD L:=by unfold rD;rw[hLl]
   have hdl:c.buf.length*8<=((rC L).map AV.d).length:=BC _ (by omega)
   have htk:L.take c.buf.length=L:=List.take_of_length_le (by omega)
   cases hz2:(Md.JM p L i (Md.J9 p c i)).2 with
   | false=>simp only[eG,go_sem,Z3 S,Z2 S,Nat.reduceLT,Nat.reduceEqDiff,Nat.reduceAdd,Nat.reduceMul,Nat.reduceLeDiff,Int.reduceEq,Int.reduceLT,Int.reduceLE,Int.reduceNeg,reduceCtorEq,VG S,Nat.add_zero,Nz S,hl,hcan,Bool.not_true,h0,h1,hn,BW,b1,b2,ne_eq,not_false_eq_true,ZD,ZE,ZF,ZG,Q5,Z9,Nat.zero_add,Nat.zero_mul,Xq he,C1 hk,C0 hk,W5 he,BM hk,ZV S,hx,hk,Q1,YZ,Q0,YY,Yk,BC,BR,BG,BF,BN,List.take_length,Jv,List.length_set,Nat.le_refl,Option.bind_some,Option.map_some,B2 S,AM S,Md.A0,had,EG,Md.EF,Md.KV,Md.put,hee,ge_iff_le,hin,hf,hL,hld,hfold,hdl,htk,Zcj S,hLl2,hz2,Md.N9,show i<4611686018427387904 by omega,show -4611686018427387904<i by omega];rfl
   | true=>
    obtain⟨z0,z1⟩:=Z7s hz2
    have z2:=Zpb hz2
    have z3:1<=Md.Cv L i:=by unfold Md.Cv;omega
    generalize hkk:(Md.JM p L i (Md.J9 p c i)).1=kk at *
    obtain⟨e2,he2⟩:=YX (show kk.toNat<L.length by omega)
    have he3:Md.ZW L kk=e2:=by unfold Md.ZW;rw[he2];rfl
    have hk0:kk.toNat≠0:=by omega
    have hk1:kk<c.buf.length:=by omega
    have hk2:kk.toNat<=L.length:=by omega
    have bd:=H3 c.buf.length .i64 kk z0 (by omega)
    simp only[eG,go_sem,Z3 S,Z2 S,Nat.reduceLT,Nat.reduceEqDiff,Nat.reduceAdd,Nat.reduceMul,Nat.reduceLeDiff,Int.reduceEq,Int.reduceLT,Int.reduceLE,Int.reduceNeg,reduceCtorEq,VG S,Nat.add_zero,Nz S,hl,hcan,Bool.not_true,h0,h1,hn,BW,b1,b2,ne_eq,not_false_eq_true,ZD,ZE,ZF,ZG,Q5,Z9,Nat.zero_add,Nat.zero_mul,Xq he,C1 hk,C0 hk,W5 he,BM hk,ZV S,hx,hk,Q1,YZ,Q0,YY,Yk,BC,BR,BG,BF,BN,List.take_length,Jv,List.length_set,Nat.le_refl,Option.bind_some,Option.map_some,B2 S,AM S,Md.A0,had,EG,Md.EF,Md.KV,Md.put,hee,ge_iff_le,hin,hf,hL,hld,hfold,hdl,htk,Zcj S,hLl2,hz2,hkk,Md.N9,he3,W5 he2,z0,hk0,hk1,hk2,bd,Nat.sub_zero,not_true_eq_false,and_false,Option.map_none,show i<4611686018427387904 by omega,show -4611686018427387904<i by omega];rfl
end
theorem Z1b:48<=Z5:=by unfold Z5;decide
theorem Z1c:1<=Z5:=by unfold Z5;decide
variable {E:Env} {fn:FuncId->Option (Env->cT->cT)}
section
variable (S:Sur E fn)
include S
theorem EV:E.lives 126 1=none/\E.lives 126 17=none:=⟨off S 126 1 (by decide) rfl,off S 126 17 (by decide) rfl⟩
theorem Zn2 (dp:Nat)(l:List Ent)(hl:l.length<1073741824)(kx:Nat->K)(kr:K)(k f:Nat)(out:List Ent)(e:Ent)(he:l[k]? =some e)(ho:out.length<1073741824):
  Bq (Zq E 126) (Z4 E fn dp) (Zj 8 Bq (Zq E 126) (Z4 E fn dp) kx kr (f+1)) kx kr (mk .bot 28 [(0,.d (rD l)),(3,.sref 0 0 0 out.length 8 none),(4,aI k)]) [.cells ((rC out).map .d) 0 false]=
  Bq (Zq E 126) (Z4 E fn dp) (Zj 8 Bq (Zq E 126) (Z4 E fn dp) kx kr f) kx kr (mk .bot 28 [(0,.d (rD l)),(3,.sref 0 0 0 (out.length+1) 8 none),(4,aI ((k+1:Nat):Int))]) [.cells ((rC (out++[Md.JF e])).map .d) 0 false]:=by
 have hk:k<l.length:=(List.getElem?_eq_some_iff.1 he).1
 have k1:(out.length+1)*48<=Z5:=by unfold Z5;omega
 have k2:out.length+1<=Z5:=by unfold Z5;omega
 generalize hK:Zj 8 Bq _ _ kx kr (f+1)=KK
 first | (conv=>lhs;rw[Bq]) | rw[Bq]
 by_cases h:0<=e.frm
 ·simp only [eG, go_sem, Z3 S, Z2 S, zN0, zN1, zN2, zN3, zN4, zI0, zI1, zI2, zI3, reduceCtorEq, EV S, show (k : Int) < l.length by omega, Zz he, wi k (by omega), ge_iff_le, h, Z9, FT, k1, k2, Md.JF]
  rw[<-hK,Z8 (on S _ _ [0,3,4] (by decide) rfl) rfl _ _ _ _ _ _ _ _ _ rfl]
  simp only[eG,go_sem,Z3 S,Z2 S,zN0,zN1,zN2,zN3,zN4,zI0,zI1,zI2,zI3,reduceCtorEq,EV S]
  rfl
 ·simp only [eG, go_sem, Z3 S, Z2 S, zN0, zN1, zN2, zN3, zN4, zI0, zI1, zI2, zI3, reduceCtorEq, EV S, show (k : Int) < l.length by omega, Zz he, wi k (by omega), ge_iff_le, h, Z9, FT, k1, k2, Md.JF]
  rw[<-hK,Z8 (on S _ _ [0,3,4] (by decide) rfl) rfl _ _ _ _ _ _ _ _ _ rfl]
  simp only[eG,go_sem,Z3 S,Z2 S,zN0,zN1,zN2,zN3,zN4,zI0,zI1,zI2,zI3,reduceCtorEq,EV S]
theorem Zpo (dp:Nat)(l:List Ent)(hl:l.length<1073741824)(kx:Nat->K)(kr:K)(k f:Nat)(e:Ent)(he:l[k]? =some e):
  Bq (Zq E 126) (Z4 E fn dp) (Zj 8 Bq (Zq E 126) (Z4 E fn dp) kx kr (f+1)) kx kr (mk .bot 28 [(0,.d (rD l)),(3,zn),(4,aI k)]) []=
  Bq (Zq E 126) (Z4 E fn dp) (Zj 8 Bq (Zq E 126) (Z4 E fn dp) kx kr f) kx kr (mk .bot 28 [(0,.d (rD l)),(3,.sref 0 0 0 1 8 none),(4,aI ((k+1:Nat):Int))]) [.cells ((rC [Md.JF e]).map .d) 0 false]:=by
 have hk:k<l.length:=(List.getElem?_eq_some_iff.1 he).1
 generalize hK:Zj 8 Bq _ _ kx kr (f+1)=KK
 first | (conv=>lhs;rw[Bq]) | rw[Bq]
 by_cases h:0<=e.frm
 ·simp only [eG, go_sem, Z3 S, Z2 S, zN0, zN1, zN2, zN3, zN4, zI0, zI1, zI2, zI3, reduceCtorEq, EV S, show (k : Int) < l.length by omega, Zz he, wi k (by omega), ge_iff_le, h, Z9, Z1b, Z1c, Nat.zero_add, Nat.one_mul, Nat.zero_mul, and_self, true_and, Md.JF]
  rw[<-hK,Z8 (on S _ _ [0,3,4] (by decide) rfl) rfl _ _ _ _ _ _ _ _ _ rfl]
  simp only[eG,go_sem,Z3 S,Z2 S,zN0,zN1,zN2,zN3,zN4,zI0,zI1,zI2,zI3,reduceCtorEq,EV S]
  rfl
 ·simp only [eG, go_sem, Z3 S, Z2 S, zN0, zN1, zN2, zN3, zN4, zI0, zI1, zI2, zI3, reduceCtorEq, EV S, show (k : Int) < l.length by omega, Zz he, wi k (by omega), ge_iff_le, h, Z9, Z1b, Z1c, Nat.zero_add, Nat.one_mul, Nat.zero_mul, and_self, true_and, Md.JF]
  rw[<-hK,Z8 (on S _ _ [0,3,4] (by decide) rfl) rfl _ _ _ _ _ _ _ _ _ rfl]
  simp only[eG,go_sem,Z3 S,Z2 S,zN0,zN1,zN2,zN3,zN4,zI0,zI1,zI2,zI3,reduceCtorEq,EV S]
  try rfl
theorem Zpg (dp:Nat)(l:List Ent)(hl:l.length<1073741824)(kx:Nat->K)(kr:K):∀ m k f out,k+m=l.length->m<=f->out.length<=k->
  Bq (Zq E 126) (Z4 E fn dp) (Zj 8 Bq (Zq E 126) (Z4 E fn dp) kx kr f) kx kr (mk .bot 28 [(0,.d (rD l)),(3,.sref 0 0 0 out.length 8 none),(4,aI k)]) [.cells ((rC out).map .d) 0 false]=
  kx 0 (mk .bot 28 [(9,YD false),(8,aI l.length),(7,.d (rD l)),(6,aI l.length),(0,.d (rD l)),(3,.sref 0 0 0 (out++(l.drop k).map Md.JF).length 8 none),(4,aI l.length)]) [.cells ((rC (out++(l.drop k).map Md.JF)).map .d) 0 false]:=by
 intro m
 induction m with
 | zero=>
  intro k f out hk _ _
  obtain rfl:k=l.length:=by omega
  rw[List.drop_length,List.map_nil,List.append_nil]
  generalize Zj 8 Bq _ _ kx kr f=KK
  first | (conv=>lhs;rw[Bq]) | rw[Bq]
  simp only[eG,go_sem,Z3 S,Z2 S,zN0,zN1,zN2,zN3,zN4,zI0,zI1,zI2,zI3,reduceCtorEq,EV S,Int.lt_irrefl]
 | succ m ih=>
  intro k f out hk hf ho
  obtain⟨e,he⟩:=YX (show k<l.length by omega)
  obtain⟨f,rfl⟩:∃ g,f=g+1:=⟨f-1,by omega⟩
  rw[Zn2 S dp l hl kx kr k f out e he (by omega),JQ he,List.map_cons]
  have:=ih (k+1) f (out++[Md.JF e]) (by omega) (by omega) (by simp;omega)
  simp only[List.append_assoc,List.singleton_append,List.cons_append,List.nil_append] at this
  rw[show(out++[Md.JF e]).length=out.length+1 by simp] at this
  exact this
theorem Zjh (dp:Nat)(l:List Ent)(hl:l.length<1073741824):Z6 E fn (dp+1) 126 [rD l] (rD (Md.JA l)):=by
 unfold Z6
 show Zk (Z4 E fn (dp+1) 126 [.d (rD l)] [])=_
 rw[ZK,S.Z9j,ZM,Zes,ZP _ _ _ _ _ _ _ _ rfl]
 simp only[eG,go_sem,Z3 S,Z2 S,zN0,zN1,zN2,zN3,zN4,zI0,zI1,zI2,zI3,reduceCtorEq,EV S]
 rw[Y9,Z8 (on S _ _ [0,3,4] (by decide) rfl) rfl _ _ _ _ _ _ _ _ _ rfl]
 simp only[eG,go_sem,Z3 S,Z2 S,zN0,zN1,zN2,zN3,zN4,zI0,zI1,zI2,zI3,reduceCtorEq,EV S]
 by_cases h:l.length<=1
 ·generalize Zj 8 Bq _ _ _ _ _ = KK
  first | (conv=>lhs;rw[Bq]) | rw[Bq]
  have hd:Md.JA l=[]:=by unfold Md.JA;rw[List.drop_of_length_le h];rfl
  rw[hd]
  simp only[eG,go_sem,Z3 S,Z2 S,zN0,zN1,zN2,zN3,zN4,zI0,zI1,zI2,zI3,reduceCtorEq,EV S,show ¬(1:Int)<l.length by omega]
 ·obtain ⟨e, he⟩ := YX (show 1 < l.length by omega)
  have e1:=fun kx kr=>Zpo S dp l hl kx kr 1 999999999999999999999999999998 e he
  simp only[Int.cast_ofNat_Int] at e1
  rw[show(999999999999999999999999999999:Nat)=999999999999999999999999999998+1 from rfl,e1]
  have e2:=fun kx kr=>Zpg S dp l hl kx kr (l.length-2) 2 999999999999999999999999999998 [Md.JF e] (by omega) (by omega) (by simp)
  have e3:[Md.JF e]++(l.drop 2).map Md.JF=Md.JA l:=by unfold Md.JA;rw[JQ he];rfl
  simp only[e3,List.length_cons,List.length_nil,Nat.zero_add,Int.cast_ofNat_Int] at e2
  rw[show(((1+1:Nat)):Int)=2 from rfl,e2]
  have hne:Md.JA l≠[]:=by rw[<-e3];simp
  simp only[eG,go_sem,Z3 S,Z2 S,zN0,zN1,zN2,zN3,zN4,zI0,zI1,zI2,zI3,reduceCtorEq,EV S]
  rw[CA (Md.JA l) hne _ rfl 6 8 none rfl]
  simp only[eG,go_sem,Z3 S,Z2 S,zN0,zN1,zN2,zN3,zN4,zI0,zI1,zI2,zI3,reduceCtorEq,EV S]
  rfl
theorem G6 (dp:Nat)(l:List Ent)(hl:l.length<1073741824)(A:List Blk)(nb:Nat):ZH false E (Z4 E fn (dp+1)) 126 A nb (some ([rD l],[]))=some (.made (.d (rD (Md.JA l))) []):=
 Z6.deep (Zjh S dp l hl) (np S 126 (by decide)) A nb
end
theorem Ak (A:List Blk)(s bytes n:Nat)(new:List AV)(h0:n≠0)(h1:n*bytes<=Z5)(h2:n<=Z5):Q7 A s bytes (.d (.lst [] 0 (some 0))) new n=some (.fresh new n):=by
 obtain⟨m,rfl⟩:∃ m,n=m+1:=⟨n-1,by omega⟩
 rw[Zd8,Nat.zero_add,if_pos ⟨by omega,by simp,h1,h2⟩];rfl
theorem Z3h {l:List Int}{k:Nat}(h:k<l.length)(i v:Nat)(A:List Blk)(n:Int):storeAt A i v (k*1) [.d (vi n)] 1 (some (.cells ((rC l).map .d) v false))=some (A.set i (.cells ((rC (l.set k n)).map .d) v false)):=by
 have he:l[k]? =some l[k]:=List.getElem?_eq_getElem h
 exact Mw (o:=0) (e':=n) [vi n] he rfl rfl rfl rfl (by show 0+1<=1;decide) 1 rfl _ rfl
theorem A5 (l:List Int)(n:Nat)(hn:n<=l.length):n*1<=((rC l).map AV.d).length:=by
 rw[List.length_map,QX];exact Nat.mul_le_mul_right _ hn
theorem AJ (A:List Blk)(m n:Nat)(l:List Int):YQ (deep A (m+1)) (((rC l).map AV.d).take (n*1))=some (rC (l.take n),[]):=by
 rw[<-List.map_take,show n*1=n*Cl.n Int from rfl,SM,HE]
theorem DA (A:List Blk)(x:DV)(k:Option Nat):Ek A false 1 (.d (.lst [x] 1 k))=some ([.d x],1):=rfl
theorem AF (l:List Int)(n:Nat)(h:n<=l.length):DV.lst (rC (l.take n)) n none=rD (l.take n):=by
 unfold rD;rw[List.length_take,Nat.min_eq_left h]
theorem AA (l:List Int)(k:Nat)(v:Int):(l.set k v).take l.length=l.set k v:=List.take_of_length_le (by rw[List.length_set];exact Nat.le_refl _)
theorem AG (l:List Int)(k:Nat)(v:Int):DV.lst (rC (l.set k v)) l.length none=rD (l.set k v):=by
 unfold rD;rw[List.length_set]
def J8 (p:Prog)(c:Conf):Conf:=bif Md.Qv p c then Md.J7 p c else Md.QH
theorem UX {p:Prog}{c:Conf}(h:Md.Qv p c=true):∃ e,c.buf[0]? =some e/\Md.ZW c.buf 0=e/\c.end_=0:=by
 simp only[Md.Qv,Bool.and_eq_true,beq_iff_eq,decide_eq_true_eq] at h
 obtain⟨e,he⟩:=YX (show 0<c.buf.length by omega)
 exact⟨e,he,by unfold Md.ZW;rw[show(0:Int).toNat=0 from rfl,he];rfl,h.1.1.1⟩
theorem Zt3 {n:Int}(h:n=0∨n=1∨n=2∨n=3):Qz .and (.d (vi n)) (.d (vi 3))=some (.d (vi n)):=by
 rcases h with rfl | rfl | rfl | rfl<;>rfl
variable {E:Env} {fn:FuncId->Option (Env->cT->cT)}
section
variable (S:Sur E fn)
include S
theorem Fw:E.lives 78 7=none/\E.lives 78 21=none/\E.lives 78 25=none/\E.lives 78 29=none/\E.lives 78 33=none/\E.lives 78 37=none/\E.lives 78 41=none/\E.lives 78 45=none:=⟨off S 78 7 (by decide) rfl,off S 78 21 (by decide) rfl,off S 78 25 (by decide) rfl,off S 78 29 (by decide) rfl,off S 78 33 (by decide) rfl,off S 78 37 (by decide) rfl,off S 78 41 (by decide) rfl,off S 78 45 (by decide) rfl⟩
theorem Zjd (dp:Nat)(p:Prog)(c:Conf)(hl:c.buf.length<1073741824)(hm:c.state.mem.length<1073741824)(hs:c.state.stack.length<1073741823)(hd:0<=(Md.at_ p (Md.ZW c.buf 0).pc).d/\(Md.at_ p (Md.ZW c.buf 0).pc).d<=3)(hx:Md.Qv p c=true->(Md.at_ p (Md.ZW c.buf 0).pc).kind=3->(Md.ZW c.buf 0).fault=false->0<=(Md.ZW c.buf 0).addr/\(Md.ZW c.buf 0).addr<c.state.mem.length)(hy:Md.Qv p c=true->(Md.at_ p (Md.ZW c.buf 0).pc).kind=9->(Md.ZW c.buf 0).fault=false->c.state.stack≠[]):Z6 E fn (dp+4) 78 [Zw p,ZA c] (.tup [ZA (J8 p c),vb (Md.Qv p c)]):=by
 unfold Z6
 show Zk (Z4 E fn (dp+3+1) 78 [.d (Zw p),.d (ZA c)] [])=_
 rw[ZK,S.Z9g,ZM,Zep,ZP _ _ _ _ _ _ _ _ rfl]
 cases hcan:Md.Qv p c with
 | false=>simp only[eG,go_sem,Z3 S,Z2 S,zN0,zN1,zN2,zN3,zN4,zI0,zI1,zI2,zI3,reduceCtorEq,Fw S,JR S,hcan,Bool.not_false,J8,Md.QH]
 | true=>
  replace hx:=hx hcan
  replace hy:=hy hcan
  obtain⟨e,he,he0,hend⟩:=UX hcan
  rw[he0] at hx hy hd
  have hgo:=he0
  generalize hxx:Md.at_ p e.pc=x at *
  have w0:=E5 (l:=c.buf) (i:=0) (by decide) he .i64 8 rfl
  have n1:c.state.mem.length*8<=Z5:=by unfold Z5;omega
  have n2:c.state.mem.length<=Z5:=by unfold Z5;omega
  have n3:c.state.stack.length*8<=Z5:=by unfold Z5;omega
  have n4:c.state.stack.length<=Z5:=by unfold Z5;omega
  have n5:(c.state.stack.length+1)*8<=Z5:=by unfold Z5;omega
  have n6:c.state.stack.length+1<=Z5:=by unfold Z5;omega
  have e1:c.state.mem.length=0->c.state.mem=[]:=List.length_eq_zero_iff.1
  have e2:c.state.stack.length=0->c.state.stack=[]:=List.length_eq_zero_iff.1
  have hdl:deep [.cells ((rC (c.state.stack++[IntKind.i64.wrap (e.pc+1)])).map .d) 0 false] 6 (.sref 0 0 0 (c.state.stack.length+1) 1 none)=some (.lst (rC (c.state.stack++[IntKind.i64.wrap (e.pc+1)])) (c.state.stack++[IntKind.i64.wrap (e.pc+1)]).length none,[0]):=CA _ (by simp) _ (by simp) 4 1 none rfl
  have d4:x.d=0∨x.d=1∨x.d=2∨x.d=3:=by omega
  have hdl2:deep [.cells ((rC c.state.mem).map .d) 0 false,.cells ((rC (c.state.stack++[IntKind.i64.wrap (e.pc+1)])).map .d) 0 false] 6 (.sref 1 0 0 (c.state.stack.length+1) 1 none)=some (.lst (rC (c.state.stack++[IntKind.i64.wrap (e.pc+1)])) (c.state.stack++[IntKind.i64.wrap (e.pc+1)]).length none,[1]):=by
   rw[show c.state.stack.length+1=(c.state.stack++[IntKind.i64.wrap (e.pc+1)]).length by simp]
   exact BS rfl (by simp) 4 _ 1 none rfl rfl
  have hand:=Zt3 d4
  have d0:=hd.1
  have d1:x.d<4:=by omega
  have hst:∀(A:List Blk) (m s q:AV),storeAt A 5 0 (x.d.toNat*1) [.d (vi e.val)] 1 (some (.cells [.d (vi c.state.regs.r0),.d (vi c.state.regs.r1),.d (vi c.state.regs.r2),.d (vi c.state.regs.r3),m,s,q] 0 false))=some (A.set 5 (.cells [.d (vi (Md.CH c.state.regs x.d e.val).r0),.d (vi (Md.CH c.state.regs x.d e.val).r1),.d (vi (Md.CH c.state.regs x.d e.val).r2),.d (vi (Md.CH c.state.regs x.d e.val).r3),m,s,q] 0 false)):=fun A m s q=>by
   rcases d4 with d | d | d | d<;>rw[d]<;>rfl
  by_cases m0:c.state.mem.length=0<;>by_cases s0:c.state.stack.length=0
  all_goals
   generalize hB:(ZS 0 _:CT)=BB
   simp only[eG,go_sem,Z3 S,Z2 S,zN0,zN1,zN2,zN3,zN4,zI0,zI1,zI2,zI3,reduceCtorEq,Fw S,JR S,hcan,Bool.not_true,Bool.not_false,w0,ZV S,hxx,G6 S,hl,ZD,ZE,ZF,ZG,Q5,Z9,Ak,n1,n2,n3,n4,n5,n6,ne_eq,not_false_eq_true,not_true_eq_false,Nat.zero_add,Nat.add_zero,Nat.zero_mul,Yk,A5,AJ,Nat.le_refl,Option.bind_some,Option.map_some,Option.map_none,AF,AA,AG,List.take_length,Jv,List.length_set,J8,Md.J7,he0,Md.Jx,Md.AK,eq_true hend,Md.ZY,m0,s0]
   rw[<-hB]
   clear hB BB
   cases hf:e.fault with
   | true=>simp only[eG,go_sem,Z3 S,Z2 S,zN0,zN1,zN2,zN3,zN4,zI0,zI1,zI2,zI3,reduceCtorEq,Fw S,JR S,hcan,Bool.not_true,Bool.not_false,w0,ZV S,hxx,G6 S,hl,ZD,ZE,ZF,ZG,Q5,Z9,Ak,n1,n2,n3,n4,n5,n6,ne_eq,not_false_eq_true,not_true_eq_false,Nat.zero_add,Nat.add_zero,Nat.zero_mul,Yk,A5,AJ,Nat.le_refl,Option.bind_some,Option.map_some,Option.map_none,AF,AA,AG,List.take_length,Jv,List.length_set,J8,Md.J7,he0,Md.Jx,Md.AK,eq_true hend,Md.ZY,m0,s0,hf];(first | done | rfl | (rw[e1 m0];rfl) | (rw[e2 s0];rfl) | (rw[e1 m0,e2 s0];rfl))
   | false=>
    by_cases k12:x.kind=12
    ·simp only[eG,go_sem,Z3 S,Z2 S,zN0,zN1,zN2,zN3,zN4,zI0,zI1,zI2,zI3,reduceCtorEq,Fw S,JR S,hcan,Bool.not_true,Bool.not_false,w0,ZV S,hxx,G6 S,hl,ZD,ZE,ZF,ZG,Q5,Z9,Ak,n1,n2,n3,n4,n5,n6,ne_eq,not_false_eq_true,not_true_eq_false,Nat.zero_add,Nat.add_zero,Nat.zero_mul,Yk,A5,AJ,Nat.le_refl,Option.bind_some,Option.map_some,Option.map_none,AF,AA,AG,List.take_length,Jv,List.length_set,J8,Md.J7,he0,Md.Jx,Md.AK,eq_true hend,Md.ZY,m0,s0,hf,k12];(first | done | rfl | (rw[e1 m0];rfl) | (rw[e2 s0];rfl) | (rw[e1 m0,e2 s0];rfl))
    by_cases k11:x.kind=11
    ·simp only[eG,go_sem,Z3 S,Z2 S,zN0,zN1,zN2,zN3,zN4,zI0,zI1,zI2,zI3,reduceCtorEq,Fw S,JR S,hcan,Bool.not_true,Bool.not_false,w0,ZV S,hxx,G6 S,hl,ZD,ZE,ZF,ZG,Q5,Z9,Ak,n1,n2,n3,n4,n5,n6,ne_eq,not_false_eq_true,not_true_eq_false,Nat.zero_add,Nat.add_zero,Nat.zero_mul,Yk,A5,AJ,Nat.le_refl,Option.bind_some,Option.map_some,Option.map_none,AF,AA,AG,List.take_length,Jv,List.length_set,J8,Md.J7,he0,Md.Jx,Md.AK,eq_true hend,Md.ZY,m0,s0,hf,k11];(first | done | rfl | (rw[e1 m0];rfl) | (rw[e2 s0];rfl) | (rw[e1 m0,e2 s0];rfl))
    by_cases k1:x.kind=1
    ·simp only[eG,go_sem,Z3 S,Z2 S,zN0,zN1,zN2,zN3,zN4,zI0,zI1,zI2,zI3,reduceCtorEq,Fw S,JR S,hcan,Bool.not_true,Bool.not_false,w0,ZV S,hxx,G6 S,hl,ZD,ZE,ZF,ZG,Q5,Z9,Ak,n1,n2,n3,n4,n5,n6,ne_eq,not_false_eq_true,not_true_eq_false,Nat.zero_add,Nat.add_zero,Nat.zero_mul,Yk,A5,AJ,Nat.le_refl,Option.bind_some,Option.map_some,Option.map_none,AF,AA,AG,List.take_length,Jv,List.length_set,J8,Md.J7,he0,Md.Jx,Md.AK,eq_true hend,Md.ZY,Int.cast_ofNat_Int,true_and,if_true,hand,d0,d1,hst,m0,s0,hf,k1];(first | done | rfl | (rw[e1 m0];rfl) | (rw[e2 s0];rfl) | (rw[e1 m0,e2 s0];rfl))
    by_cases k2:x.kind=2
    ·simp only[eG,go_sem,Z3 S,Z2 S,zN0,zN1,zN2,zN3,zN4,zI0,zI1,zI2,zI3,reduceCtorEq,Fw S,JR S,hcan,Bool.not_true,Bool.not_false,w0,ZV S,hxx,G6 S,hl,ZD,ZE,ZF,ZG,Q5,Z9,Ak,n1,n2,n3,n4,n5,n6,ne_eq,not_false_eq_true,not_true_eq_false,Nat.zero_add,Nat.add_zero,Nat.zero_mul,Yk,A5,AJ,Nat.le_refl,Option.bind_some,Option.map_some,Option.map_none,AF,AA,AG,List.take_length,Jv,List.length_set,J8,Md.J7,he0,Md.Jx,Md.AK,eq_true hend,Md.ZY,Int.cast_ofNat_Int,true_and,if_true,hand,d0,d1,hst,m0,s0,hf,k2];(first | done | rfl | (rw[e1 m0];rfl) | (rw[e2 s0];rfl) | (rw[e1 m0,e2 s0];rfl))
    by_cases k4:x.kind=4
    ·simp only[eG,go_sem,Z3 S,Z2 S,zN0,zN1,zN2,zN3,zN4,zI0,zI1,zI2,zI3,reduceCtorEq,Fw S,JR S,hcan,Bool.not_true,Bool.not_false,w0,ZV S,hxx,G6 S,hl,ZD,ZE,ZF,ZG,Q5,Z9,Ak,n1,n2,n3,n4,n5,n6,ne_eq,not_false_eq_true,not_true_eq_false,Nat.zero_add,Nat.add_zero,Nat.zero_mul,Yk,A5,AJ,Nat.le_refl,Option.bind_some,Option.map_some,Option.map_none,AF,AA,AG,List.take_length,Jv,List.length_set,J8,Md.J7,he0,Md.Jx,Md.AK,eq_true hend,Md.ZY,Int.cast_ofNat_Int,true_and,if_true,hand,d0,d1,hst,m0,s0,hf,k4];(first | done | rfl | (rw[e1 m0];rfl) | (rw[e2 s0];rfl) | (rw[e1 m0,e2 s0];rfl))
    by_cases k3:x.kind=3
    ·obtain ⟨a0, a1⟩ := hx k3 hf
     have a2:e.addr.toNat<c.state.mem.length:=by omega
     first
      | (exfalso;omega)
      | (simp only[eG,go_sem,Z3 S,Z2 S,zN0,zN1,zN2,zN3,zN4,zI0,zI1,zI2,zI3,reduceCtorEq,Fw S,JR S,hcan,Bool.not_true,Bool.not_false,w0,ZV S,hxx,G6 S,hl,ZD,ZE,ZF,ZG,Q5,Z9,Ak,n1,n2,n3,n4,n5,n6,ne_eq,not_false_eq_true,not_true_eq_false,Nat.zero_add,Nat.add_zero,Nat.zero_mul,Yk,A5,AJ,Nat.le_refl,Option.bind_some,Option.map_some,Option.map_none,AF,AA,AG,List.take_length,Jv,List.length_set,J8,Md.J7,he0,Md.Jx,Md.AK,eq_true hend,Md.ZY,m0,s0,hf,k3,a0,a1,Z3h a2,and_self];(first | done | rfl | (rw[e1 m0];rfl) | (rw[e2 s0];rfl) | (rw[e1 m0,e2 s0];rfl)))
    by_cases k8:x.kind=8
    ·simp only[eG,go_sem,Z3 S,Z2 S,zN0,zN1,zN2,zN3,zN4,zI0,zI1,zI2,zI3,reduceCtorEq,Fw S,JR S,hcan,Bool.not_true,Bool.not_false,w0,ZV S,hxx,G6 S,hl,ZD,ZE,ZF,ZG,Q5,Z9,Ak,n1,n2,n3,n4,n5,n6,ne_eq,not_false_eq_true,not_true_eq_false,Nat.zero_add,Nat.add_zero,Nat.zero_mul,Yk,A5,AJ,Nat.le_refl,Option.bind_some,Option.map_some,Option.map_none,AF,AA,AG,List.take_length,Jv,List.length_set,J8,Md.J7,he0,Md.Jx,Md.AK,eq_true hend,Md.ZY,m0,s0,hf,k8,DA,BX,show(1:Nat)*8<=Z5 by decide,show(8:Nat)<=Z5 by decide,show(1:Nat)<=Z5 by decide,show(1:Nat)*1<=1 by decide,Nat.lt_add_one,Nat.one_ne_zero,Nat.one_mul,show(0:Nat)<1 by decide,hdl,hdl2];(first | done | rfl | (rw[e1 m0];rfl) | (rw[e2 s0];rfl) | (rw[e1 m0,e2 s0];rfl))
    by_cases k9:x.kind=9
    ·have hne : c.state.stack.length ≠ 0 := fun h => hy k9 hf (List.length_eq_zero_iff.1 h)
     have wl:IntKind.i64.wrap ((c.state.stack.length:Int)-1)=((c.state.stack.length-1:Nat):Int):=by rw[Q4 (by omega) (by omega)];omega
     have bd:=H3 c.state.stack.length .i64 ((c.state.stack.length-1:Nat):Int) (by omega) (by omega)
     have le1:c.state.stack.length-1<=c.state.stack.length:=by omega
     by_cases s1:c.state.stack.length-1=0
     ·have dl : c.state.stack.dropLast = [] := by rw [List.dropLast_eq_take, s1]; rfl
      have bd0:=bd
      rw[s1] at bd0
      first
       | (exfalso;omega)
       | (simp only[eG,go_sem,Z3 S,Z2 S,zN0,zN1,zN2,zN3,zN4,zI0,zI1,zI2,zI3,reduceCtorEq,Fw S,JR S,hcan,Bool.not_true,Bool.not_false,w0,ZV S,hxx,G6 S,hl,ZD,ZE,ZF,ZG,Q5,Z9,Ak,n1,n2,n3,n4,n5,n6,ne_eq,not_false_eq_true,not_true_eq_false,Nat.zero_add,Nat.add_zero,Nat.zero_mul,Yk,A5,AJ,Nat.le_refl,Option.bind_some,Option.map_some,Option.map_none,AF,AA,AG,List.take_length,Jv,List.length_set,J8,Md.J7,he0,Md.Jx,Md.AK,eq_true hend,Md.ZY,m0,s0,hf,k9,wl,bd0,Int.toNat_natCast,s1,dl,Nat.sub_zero,and_false];(first | done | rfl | (rw[e1 m0];rfl) | (rw[e2 s0];rfl) | (rw[e1 m0,e2 s0];rfl)))
     ·first
       | (exfalso;omega)
       | (simp only[eG,go_sem,Z3 S,Z2 S,zN0,zN1,zN2,zN3,zN4,zI0,zI1,zI2,zI3,reduceCtorEq,Fw S,JR S,hcan,Bool.not_true,Bool.not_false,w0,ZV S,hxx,G6 S,hl,ZD,ZE,ZF,ZG,Q5,Z9,Ak,n1,n2,n3,n4,n5,n6,ne_eq,not_false_eq_true,not_true_eq_false,Nat.zero_add,Nat.add_zero,Nat.zero_mul,Yk,A5,AJ,Nat.le_refl,Option.bind_some,Option.map_some,Option.map_none,AF,AA,AG,List.take_length,Jv,List.length_set,J8,Md.J7,he0,Md.Jx,Md.AK,eq_true hend,Md.ZY,m0,s0,hf,k9,wl,bd,Int.toNat_natCast,s1,le1,List.dropLast_eq_take,Nat.sub_zero,and_false];(first | done | rfl | (rw[e1 m0];rfl) | (rw[e2 s0];rfl) | (rw[e1 m0,e2 s0];rfl)))
    simp only[eG,go_sem,Z3 S,Z2 S,zN0,zN1,zN2,zN3,zN4,zI0,zI1,zI2,zI3,reduceCtorEq,Fw S,JR S,hcan,Bool.not_true,Bool.not_false,w0,ZV S,hxx,G6 S,hl,ZD,ZE,ZF,ZG,Q5,Z9,Ak,n1,n2,n3,n4,n5,n6,ne_eq,not_false_eq_true,not_true_eq_false,Nat.zero_add,Nat.add_zero,Nat.zero_mul,Yk,A5,AJ,Nat.le_refl,Option.bind_some,Option.map_some,Option.map_none,AF,AA,AG,List.take_length,Jv,List.length_set,J8,Md.J7,he0,Md.Jx,Md.AK,eq_true hend,Md.ZY,m0,s0,hf,k1,k2,k3,k4,k8,k9,k11,k12];(first | done | rfl | (rw[e1 m0];rfl) | (rw[e2 s0];rfl) | (rw[e1 m0,e2 s0];rfl))
end
end Go.Aug.Mc
