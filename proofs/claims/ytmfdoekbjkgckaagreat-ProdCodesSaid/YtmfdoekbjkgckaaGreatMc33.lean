import Derived.Test.YtmfdoekbjkgckaaGreatMc17
import Derived.Test.YtmfdoekbjkgckaaGreatMc11
import Derived.Test.YtmfdoekbjkgckaaGreatMc4
namespace Go.Aug.Mc
open Go Go.Aug
set_option linter.unusedSimpArgs false
set_option linter.unusedVariables false
set_option maxHeartbeats 40000000
variable {E:Env} {fn:FuncId->Option (Env->cT->cT)}
section
variable (S:Sur E fn)
include S
end
set_option maxRecDepth 200000
def A0 (N:Int)(p:Prog)(c:Conf)(i:Int):Conf×List Obs:=bif Md.can N p c i then Md.JZ N p c i else(Md.Eq,[])
theorem Zhv {N:Int}{p:Prog}{c:Conf}{i:Int}(h:Md.can N p c i=true):Md.Bv p c i=true:=by
 simp only[Md.can,Bool.and_eq_true] at h;exact h.1.1
variable {E:Env} {fn:FuncId->Option (Env->cT->cT)}
section
variable (S:Sur E fn)
include S
end
theorem VX (p:Prog)(i addr:Int):∀(l:List Ent) (k:Nat),(Md.AP p i addr k l).2=true->(k:Int)<=(Md.AP p i addr k l).1/\(Md.AP p i addr k l).1<k+l.length
 | [],_,h=>by cases h
 | e::l,k,h=>by
  unfold Md.AP at h ⊢
  cases hh:Md.K4 p i addr e with
  | true=>simp;omega
  | false=>
   rw[hh] at h
   simp only[cond_false] at h ⊢
   have:=VX p i addr l (k+1) h
   simp only[List.length_cons]
   omega
theorem Zfs {p:Prog}{l:List Ent}{i addr:Int}(h:(Md.JH p l i addr).2=true):0<=(Md.JH p l i addr).1/\(Md.JH p l i addr).1<l.length:=by
 have:=VX p i addr _ _ h
 unfold Md.JH
 rw[List.length_drop] at this
 omega
def MM (N:Int)(p:Prog)(c:Conf)(i:Int):Conf×List Obs:=bif Md.QX p c i then Md.addrM N p c i else(Md.Eq,[])
theorem Zhw {p:Prog}{c:Conf}{i:Int}(h:Md.QX p c i=true):Md.Bv p c i=true:=by
 simp only[Md.QX,Bool.and_eq_true] at h;exact h.1.1.1.1
variable {E:Env} {fn:FuncId->Option (Env->cT->cT)}
section
variable (S:Sur E fn)
include S
end
section
variable (S:Sur E fn)
include S
theorem Vq:E.lives 42 7=none:=off S 42 7 (by decide) rfl
theorem Zb8 (dp:Nat)(p:Prog)(c:Conf):Z7 E fn (dp+2) 42 [ZP p,ZY c] (vb (Md.QC p c)):=by
 unfold Z7
 show Zz (Z5 E fn (dp+1+1) 42 [.d (ZP p),.d (ZY c)] [])=_
 rw[Yx,S.Z4s,Yw,Z8d,Yq _ _ _ _ _ _ _ _ rfl]
 by_cases h1:c.end_=0
 ·by_cases h2 : c.buf.length = 0
  ·simp only [eG, go_sem, Z2 S, Z1 S, Nat.reduceLT, Nat.reduceEqDiff, Nat.reduceAdd, Nat.reduceMul, Nat.reduceLeDiff, Int.reduceEq, Int.reduceLT, Int.reduceLE, Int.reduceNeg, reduceCtorEq, Vq S, h1, h2, Md.QC]
   simp
  ·obtain ⟨e, he⟩ := QB (show 0 < c.buf.length by omega)
   have e0:Md.ZA c.buf 0=e:=by show(c.buf[0]?).getD _=_;rw[he];rfl
   have hz:(c.buf.length:Int)≠0:=by omega
   have w0:=EK (l:=c.buf) (i:=0) (by decide) he .i64 8 rfl
   cases hd:e.done<;>cases hk:e.known<;>by_cases k10:(Md.at_ p e.pc).kind=10<;>by_cases k3:(Md.at_ p e.pc).kind=3
   all_goals first | omega | simp only[eG,go_sem,Z2 S,Z1 S,Nat.reduceLT,Nat.reduceEqDiff,Nat.reduceAdd,Nat.reduceMul,Nat.reduceLeDiff,Int.reduceEq,Int.reduceLT,Int.reduceLE,Int.reduceNeg,reduceCtorEq,Vq S,h1,h2,hz,w0,Md.QC,e0,Zv S,hd,hk,k10,k3,ne_eq,not_false_eq_true,not_true_eq_false,Bool.not_true,Bool.not_false]
 ·simp only[eG,go_sem,Z2 S,Z1 S,Nat.reduceLT,Nat.reduceEqDiff,Nat.reduceAdd,Nat.reduceMul,Nat.reduceLeDiff,Int.reduceEq,Int.reduceLT,Int.reduceLE,Int.reduceNeg,reduceCtorEq,Vq S,h1,Md.QC]
theorem QN (dp:Nat)(p_w p_wn p_fu p_r0 p_r1 p_r2 p_r3:Int)(p_ms:List MemT)(p_ls:List Label)(p_is:List Ins)(c_r0 c_r1 c_r2 c_r3:Int)(c_mm c_st:List Int)(c_pc:Int)(c_bf:List Ent)(c_rb:List Int)(c_en:Int)(A:List Blk)(nb:Nat)(us:List Nat):ZX false E (Z5 E fn (dp+2)) 42 A nb (some ([.agg [vi p_w,vi p_wn,vi p_fu,vi p_r0,vi p_r1,vi p_r2,vi p_r3,rD p_ms,rD p_ls,rD p_is],.agg [vi c_r0,vi c_r1,vi c_r2,vi c_r3,rD c_mm,rD c_st,vi c_pc,rD c_bf,rD c_rb,vi c_en]],us))=some (.made (.d (vb (Md.QC (⟨p_w,p_wn,p_fu,⟨p_r0,p_r1,p_r2,p_r3⟩,p_ms,p_ls,p_is⟩:Prog) (⟨⟨⟨c_r0,c_r1,c_r2,c_r3⟩,c_mm,c_st,c_pc⟩,c_bf,c_rb,c_en⟩:Conf)))) []):=
 Z7.flat (Zb8 S dp (⟨p_w,p_wn,p_fu,⟨p_r0,p_r1,p_r2,p_r3⟩,p_ms,p_ls,p_is⟩:Prog) (⟨⟨⟨c_r0,c_r1,c_r2,c_r3⟩,c_mm,c_st,c_pc⟩,c_bf,c_rb,c_en⟩:Conf) ) (np S 42 (by decide)) (rfl) A nb us
theorem Zbf (dp:Nat)(p:Prog)(a:Int):Z7 E fn (dp+1) 124 [ZP p,vi a] (vi (min a p.ins.length)):=by
 unfold Z7
 show Zz (Z5 E fn (dp+1) 124 [.d (ZP p),.d (vi a)] [])=_
 rw[Yx,S.Z51,Yw,Z8m,Yq _ _ _ _ _ _ _ _ rfl]
 simp only[eG,go_sem,Z2 S,Z1 S,Nat.reduceLT,Nat.reduceEqDiff,Nat.reduceAdd,Nat.reduceMul,Nat.reduceLeDiff,Int.reduceEq,Int.reduceLT,Int.reduceLE,Int.reduceNeg,reduceCtorEq]
theorem BW (dp:Nat)(p_w p_wn p_fu p_r0 p_r1 p_r2 p_r3:Int)(p_ms:List MemT)(p_ls:List Label)(p_is:List Ins)(a:Int)(A:List Blk)(nb:Nat)(us:List Nat):ZX false E (Z5 E fn (dp+1)) 124 A nb (some ([.agg [vi p_w,vi p_wn,vi p_fu,vi p_r0,vi p_r1,vi p_r2,vi p_r3,rD p_ms,rD p_ls,rD p_is],vi a],us))=some (.made (.d (vi (min a (⟨p_w,p_wn,p_fu,⟨p_r0,p_r1,p_r2,p_r3⟩,p_ms,p_ls,p_is⟩:Prog).ins.length))) []):=
 Z7.flat (Zbf S dp (⟨p_w,p_wn,p_fu,⟨p_r0,p_r1,p_r2,p_r3⟩,p_ms,p_ls,p_is⟩:Prog) a ) (np S 124 (by decide)) (rfl) A nb us
end
open Nat renaming reduceLT -> zN0, reduceEqDiff -> zN1, reduceAdd -> zN2, reduceMul -> zN3, reduceLeDiff -> zN4
open Int renaming reduceEq -> zI0, reduceLT -> zI1, reduceLE -> zI2, reduceNeg -> zI3
theorem A7 (ps:List (Opd×Opd))(k:K)(tm:List AV)(A:List Blk):Gj ps k tm A=bif BR tm ps then k tm A else none:=id rfl
theorem A5 (tm:List AV)(p:Opd×Opd)(l:List (Opd×Opd)):BR tm (p::l)=(FN (look tm p.1) (look tm p.2)&&BR tm l):=id rfl
theorem A6 (tm:List AV):BR tm []=true:=id rfl
theorem A4 (i v o j w q:Nat):FN (.ref i v o) (.ref j w q)= !Nat.beq i j:=id rfl
theorem TM (l:List Ent)(i:Int)(e:Ent):Md.cut (l.set i.toNat e) i=Md.cut l i:=by
 unfold Md.cut;rw[List.take_set_of_le (Nat.le_refl _)]
theorem AW (p:Prog)(c:Conf)(i:Int)(e:Ent)(v:Val):Md.YS p ⟨c.state,c.buf.set i.toNat e,c.rsb,c.end_⟩ i v=Md.YS p c i v:=by
 unfold Md.YS Md.val Md.reg;simp only[TM]
theorem Bq (p:Prog)(c:Conf)(i:Int)(e:Ent)(r:Int):Md.CY p ⟨c.state,c.buf.set i.toNat e,c.rsb,c.end_⟩ i r=Md.CY p c i r:=by
 unfold Md.CY Md.reg;simp only[TM]
theorem BU (p:Prog)(mem:List Int)(l:List Ent)(i a:Int)(e:Ent):Md.load p mem (l.set i.toNat e) i a=Md.load p mem l i a:=by
 unfold Md.load;rw[TM]
theorem AZ (p:Prog)(st:List Int)(l:List Ent)(i:Int)(e:Ent):Md.real p st (l.set i.toNat e) i=Md.real p st l i:=by
 unfold Md.real;rw[TM]
theorem Ak (A:List Blk)(s bytes n:Nat)(new:List AV)(h0:n≠0)(h1:n*bytes<=Z4)(h2:n<=Z4):ZS A s bytes (.d (.lst [] 0 (some 0))) new n=some (.fresh new n):=by
 obtain⟨m,rfl⟩:∃ m,n=m+1:=⟨n-1,by omega⟩
 rw[Z7c,Nat.zero_add,if_pos ⟨by omega,by simp,h1,h2⟩];rfl
theorem Bj {l:List Ent}{k:Nat}{e:Ent}(he:l[k]? =some e)(i v:Nat)(A:List Blk)(b:Bool):storeAt A i v (k*8+5) [.d (vb b)] 1 (some (.cells ((rC l).map .d) v false))=some (A.set i (.cells ((rC (l.set k { e with done:=b })).map .d) v false)):=
 MX (o:=5) (e':={ e with done:=b }) [vb b] he rfl rfl rfl rfl (by show 5+1<=8;decide) 8 rfl _ rfl
theorem Z35 {r junk:List Int}(h:r.length≠0):AY false 1 (((rC (r++junk)).map AV.d).drop (r.length-1))=some (.d (vi (Md.G1 r))):=by
 have e1:∀ l:List Int,rC l=l.map vi:=by
  intro l
  induction l with
  | nil=>rfl
  | cons a l ih=>show Cl.cells a++rC l=_;rw[ih];rfl
 have e2:(((rC (r++junk)).map AV.d).drop (r.length-1)).head? =some (.d (vi (Md.G1 r))):=by
  rw[List.head?_drop,List.getElem?_map,e1,List.getElem?_map,List.getElem?_append_left (by omega),VM h];rfl
 exact e2
theorem JV {l:List Ent}(n:Nat)(h:n<=l.length):DV.lst (rC (l.take n)) n none=rD (l.take n):=by
 unfold rD;rw[List.length_take,Nat.min_eq_left h]
variable {E:Env} {fn:FuncId->Option (Env->cT->cT)}
section
variable (S:Sur E fn)
include S
theorem B0:E.lives 76 7=none/\E.lives 76 23=none/\E.lives 76 27=none/\E.lives 76 31=none/\E.lives 76 35=none/\E.lives 76 39=none/\E.lives 76 43=none/\E.lives 76 53=none/\E.lives 76 59=none/\E.lives 76 67=none/\E.lives 76 73=none/\E.lives 76 77=none:=⟨off S 76 7 (by decide) rfl,off S 76 23 (by decide) rfl,off S 76 27 (by decide) rfl,off S 76 31 (by decide) rfl,off S 76 35 (by decide) rfl,off S 76 39 (by decide) rfl,off S 76 43 (by decide) rfl,off S 76 53 (by decide) rfl,off S 76 59 (by decide) rfl,off S 76 67 (by decide) rfl,off S 76 73 (by decide) rfl,off S 76 77 (by decide) rfl⟩
theorem Zb6 (dp:Nat)(p:Prog)(c:Conf)(i:Int)(hl:c.buf.length<1073741824)(hs:c.state.stack.length<1073741824)(hg:(F0 (Md.real p c.state.stack c.buf i)).length<1073741824)(hz:Md.can (c.state.mem.length:Int) p c i=true->(Md.QA p c i).kind=2->(Md.ZA c.buf i).val=0/\(Md.ZA c.buf i).frm= -1):Z7 E fn (dp+6) 76 [ZP p,ZY c,vi i] (.tup [ZY (A0 (c.state.mem.length:Int) p c i).1,rD (A0 (c.state.mem.length:Int) p c i).2,vb (Md.can (c.state.mem.length:Int) p c i)]):=by
 unfold Z7
 show Zz (Z5 E fn (dp+5+1) 76 [.d (ZP p),.d (ZY c),.d (vi i)] [])=_
 rw[Yx,S.Z4q,Yw,Z8b,Yq _ _ _ _ _ _ _ _ rfl]
 cases hcan:Md.can (c.state.mem.length:Int) p c i with
 | false=>simp only[eG,go_sem,Z2 S,Z1 S,zN0,zN1,zN2,zN3,zN4,zI0,zI1,zI2,zI3,reduceCtorEq,B0 S,JB S,hl,hcan,Bool.not_false,A0,Md.Eq]
 | true=>
  have ho:=Zhv hcan
  obtain⟨h0,he,h1⟩:=SP ho
  replace hz:=hz hcan
  have hn:c.buf.length≠0:=by omega
  have hk:i.toNat<c.buf.length:=by omega
  have hk1:i.toNat+1<=c.buf.length:=hk
  have b1:c.buf.length*48<=Z4:=by unfold Z4;omega
  have b2:c.buf.length<=Z4:=by unfold Z4;omega
  have hx:Md.at_ p (Md.ZA c.buf i).pc=Md.QA p c i:=rfl
  generalize hxx:Md.QA p c i=x at *
  generalize hee:Md.ZA c.buf i=e at *
  have hv:∀ v:Val,(Md.val p c.state.regs (c.buf.set i.toNat { e with done:=true }) i v)=Md.YS p c i v:=fun v=>AW p c i _ v
  generalize hB:(ZK 0 _:CT)=BB
  simp only[eG,go_sem,Z2 S,Z1 S,zN0,zN1,zN2,zN3,zN4,zI0,zI1,zI2,zI3,reduceCtorEq,B0 S,Nat.add_zero,JB S,hl,hcan,Bool.not_true,h0,h1,hn,Ak,b1,b2,ne_eq,not_false_eq_true,ZB,ZC,ZD,ZE,YE,Zq,Nat.zero_add,Nat.zero_mul,Bj he,B1 hk,Zv S,hx,hk,A7,A5,A6,A4,YJ,JK,JY,JR,JQ,JV,List.length_set,Nat.le_refl,Option.bind_some,Option.map_some,Jj S,AW,Bq]
  rw[<-hB]
  clear hB BB
  by_cases k1:x.kind=1
  ·simp only[eG,go_sem,Z2 S,Z1 S,zN0,zN1,zN2,zN3,zN4,zI0,zI1,zI2,zI3,reduceCtorEq,B0 S,Nat.add_zero,JB S,hl,hcan,Bool.not_true,h0,h1,hn,Ak,b1,b2,ne_eq,not_false_eq_true,ZB,ZC,ZD,ZE,YE,Zq,Nat.zero_add,Nat.zero_mul,Bj he,B1 hk,Zv S,hx,hk,A7,A5,A6,A4,YJ,JK,JY,JR,JQ,JV,List.length_set,Nat.le_refl,Option.bind_some,Option.map_some,Jj S,AW,Bq,BN hk,BM hk,BK hk,Az hk,Ax hk,JU hk,BX S,J5 S,B6 S,BU,AZ,QY S,BW S,List.set_set,A0,Md.JZ,Md.doK,Md.put,hxx,hee,Md.Jx,k1]
  by_cases k4:x.kind=4
  ·by_cases ha : (Md.YS p c i x.a).1 = 0
   ·simp only[eG,go_sem,Z2 S,Z1 S,zN0,zN1,zN2,zN3,zN4,zI0,zI1,zI2,zI3,reduceCtorEq,B0 S,Nat.add_zero,JB S,hl,hcan,Bool.not_true,h0,h1,hn,Ak,b1,b2,ne_eq,not_false_eq_true,ZB,ZC,ZD,ZE,YE,Zq,Nat.zero_add,Nat.zero_mul,Bj he,B1 hk,Zv S,hx,hk,A7,A5,A6,A4,YJ,JK,JY,JR,JQ,JV,List.length_set,Nat.le_refl,Option.bind_some,Option.map_some,Jj S,AW,Bq,BN hk,BM hk,BK hk,Az hk,Ax hk,JU hk,BX S,J5 S,B6 S,BU,AZ,QY S,BW S,List.set_set,A0,Md.JZ,Md.doK,Md.put,hxx,hee,Md.Jx,k4,ha,Bool.not_true,Bool.not_false]
   ·simp only[eG,go_sem,Z2 S,Z1 S,zN0,zN1,zN2,zN3,zN4,zI0,zI1,zI2,zI3,reduceCtorEq,B0 S,Nat.add_zero,JB S,hl,hcan,Bool.not_true,h0,h1,hn,Ak,b1,b2,ne_eq,not_false_eq_true,ZB,ZC,ZD,ZE,YE,Zq,Nat.zero_add,Nat.zero_mul,Bj he,B1 hk,Zv S,hx,hk,A7,A5,A6,A4,YJ,JK,JY,JR,JQ,JV,List.length_set,Nat.le_refl,Option.bind_some,Option.map_some,Jj S,AW,Bq,BN hk,BM hk,BK hk,Az hk,Ax hk,JU hk,BX S,J5 S,B6 S,BU,AZ,QY S,BW S,List.set_set,A0,Md.JZ,Md.doK,Md.put,hxx,hee,Md.Jx,k4,ha,Bool.not_true,Bool.not_false]
  by_cases k3:x.kind=3
  ·simp only[eG,go_sem,Z2 S,Z1 S,zN0,zN1,zN2,zN3,zN4,zI0,zI1,zI2,zI3,reduceCtorEq,B0 S,Nat.add_zero,JB S,hl,hcan,Bool.not_true,h0,h1,hn,Ak,b1,b2,ne_eq,not_false_eq_true,ZB,ZC,ZD,ZE,YE,Zq,Nat.zero_add,Nat.zero_mul,Bj he,B1 hk,Zv S,hx,hk,A7,A5,A6,A4,YJ,JK,JY,JR,JQ,JV,List.length_set,Nat.le_refl,Option.bind_some,Option.map_some,Jj S,AW,Bq,BN hk,BM hk,BK hk,Az hk,Ax hk,JU hk,BX S,J5 S,B6 S,BU,AZ,QY S,BW S,List.set_set,A0,Md.JZ,Md.doK,Md.put,hxx,hee,Md.Jx,k3]
  by_cases k2:x.kind=2
  ·obtain ⟨z1, z2⟩ := hz k2
   by_cases hin:Md.ZR p.w ((Md.YS p c i x.a).1+(Md.YS p c i x.b).1)>=(c.state.mem.length:Int)
   ·simp only[eG,go_sem,Z2 S,Z1 S,zN0,zN1,zN2,zN3,zN4,zI0,zI1,zI2,zI3,reduceCtorEq,B0 S,Nat.add_zero,JB S,hl,hcan,Bool.not_true,h0,h1,hn,Ak,b1,b2,ne_eq,not_false_eq_true,ZB,ZC,ZD,ZE,YE,Zq,Nat.zero_add,Nat.zero_mul,Bj he,B1 hk,Zv S,hx,hk,A7,A5,A6,A4,YJ,JK,JY,JR,JQ,JV,List.length_set,Nat.le_refl,Option.bind_some,Option.map_some,Jj S,AW,Bq,BN hk,BM hk,BK hk,Az hk,Ax hk,JU hk,BX S,J5 S,B6 S,BU,AZ,QY S,BW S,List.set_set,A0,Md.JZ,Md.doK,Md.put,hxx,hee,Md.Jx,k2,hin,z1,z2]
   ·simp only[eG,go_sem,Z2 S,Z1 S,zN0,zN1,zN2,zN3,zN4,zI0,zI1,zI2,zI3,reduceCtorEq,B0 S,Nat.add_zero,JB S,hl,hcan,Bool.not_true,h0,h1,hn,Ak,b1,b2,ne_eq,not_false_eq_true,ZB,ZC,ZD,ZE,YE,Zq,Nat.zero_add,Nat.zero_mul,Bj he,B1 hk,Zv S,hx,hk,A7,A5,A6,A4,YJ,JK,JY,JR,JQ,JV,List.length_set,Nat.le_refl,Option.bind_some,Option.map_some,Jj S,AW,Bq,BN hk,BM hk,BK hk,Az hk,Ax hk,JU hk,BX S,J5 S,B6 S,BU,AZ,QY S,BW S,List.set_set,A0,Md.JZ,Md.doK,Md.put,hxx,hee,Md.Jx,k2,hin,z1,z2];rfl
  by_cases k5:x.kind=5
  ·by_cases hw : Md.EJ p.w x.op (Md.YS p c i x.a).1 (Md.YS p c i x.b).1 = 0
   ·by_cases ht : e.next = IntKind.i64.wrap (e.pc + 1)
    ·simp only[eG,go_sem,Z2 S,Z1 S,zN0,zN1,zN2,zN3,zN4,zI0,zI1,zI2,zI3,reduceCtorEq,B0 S,Nat.add_zero,JB S,hl,hcan,Bool.not_true,h0,h1,hn,Ak,b1,b2,ne_eq,not_false_eq_true,ZB,ZC,ZD,ZE,YE,Zq,Nat.zero_add,Nat.zero_mul,Bj he,B1 hk,Zv S,hx,hk,A7,A5,A6,A4,YJ,JK,JY,JR,JQ,JV,List.length_set,Nat.le_refl,Option.bind_some,Option.map_some,Jj S,AW,Bq,BN hk,BM hk,BK hk,Az hk,Ax hk,JU hk,BX S,J5 S,B6 S,BU,AZ,QY S,BW S,List.set_set,A0,Md.JZ,Md.doK,Md.put,hxx,hee,Md.Jx,show Nat.ble 1 1=true from rfl,EU,F9,Fj,GC,Fz,Fw,Fq,FT,FU,FE,FF,FC,FD,FG,FH,EN,EM,EP,FQ,FR,List.getD_cons_zero,List.getD_cons_succ,List.drop_succ_cons,List.drop_zero,Nat.ble_eq,Nat.le_refl,List.length_cons,List.length_nil,G4 S,Bool.not_true,Bool.not_false,Md.BC,Md.Y1,List.length_set,k5,hw,eq_true ht];rfl
    ·simp only[eG,go_sem,Z2 S,Z1 S,zN0,zN1,zN2,zN3,zN4,zI0,zI1,zI2,zI3,reduceCtorEq,B0 S,Nat.add_zero,JB S,hl,hcan,Bool.not_true,h0,h1,hn,Ak,b1,b2,ne_eq,not_false_eq_true,ZB,ZC,ZD,ZE,YE,Zq,Nat.zero_add,Nat.zero_mul,Bj he,B1 hk,Zv S,hx,hk,A7,A5,A6,A4,YJ,JK,JY,JR,JQ,JV,List.length_set,Nat.le_refl,Option.bind_some,Option.map_some,Jj S,AW,Bq,BN hk,BM hk,BK hk,Az hk,Ax hk,JU hk,BX S,J5 S,B6 S,BU,AZ,QY S,BW S,List.set_set,A0,Md.JZ,Md.doK,Md.put,hxx,hee,Md.Jx,show Nat.ble 1 1=true from rfl,EU,F9,Fj,GC,Fz,Fw,Fq,FT,FU,FE,FF,FC,FD,FG,FH,EN,EM,EP,FQ,FR,List.getD_cons_zero,List.getD_cons_succ,List.drop_succ_cons,List.drop_zero,Nat.ble_eq,Nat.le_refl,List.length_cons,List.length_nil,G4 S,Bool.not_true,Bool.not_false,Md.BC,Md.Y1,List.length_set,k5,hw,ht,hk1];rfl
   ·by_cases ht : e.next = x.target
    ·simp only[eG,go_sem,Z2 S,Z1 S,zN0,zN1,zN2,zN3,zN4,zI0,zI1,zI2,zI3,reduceCtorEq,B0 S,Nat.add_zero,JB S,hl,hcan,Bool.not_true,h0,h1,hn,Ak,b1,b2,ne_eq,not_false_eq_true,ZB,ZC,ZD,ZE,YE,Zq,Nat.zero_add,Nat.zero_mul,Bj he,B1 hk,Zv S,hx,hk,A7,A5,A6,A4,YJ,JK,JY,JR,JQ,JV,List.length_set,Nat.le_refl,Option.bind_some,Option.map_some,Jj S,AW,Bq,BN hk,BM hk,BK hk,Az hk,Ax hk,JU hk,BX S,J5 S,B6 S,BU,AZ,QY S,BW S,List.set_set,A0,Md.JZ,Md.doK,Md.put,hxx,hee,Md.Jx,show Nat.ble 1 1=true from rfl,EU,F9,Fj,GC,Fz,Fw,Fq,FT,FU,FE,FF,FC,FD,FG,FH,EN,EM,EP,FQ,FR,List.getD_cons_zero,List.getD_cons_succ,List.drop_succ_cons,List.drop_zero,Nat.ble_eq,Nat.le_refl,List.length_cons,List.length_nil,G4 S,Bool.not_true,Bool.not_false,Md.BC,Md.Y1,List.length_set,k5,hw,eq_true ht];rfl
    ·simp only[eG,go_sem,Z2 S,Z1 S,zN0,zN1,zN2,zN3,zN4,zI0,zI1,zI2,zI3,reduceCtorEq,B0 S,Nat.add_zero,JB S,hl,hcan,Bool.not_true,h0,h1,hn,Ak,b1,b2,ne_eq,not_false_eq_true,ZB,ZC,ZD,ZE,YE,Zq,Nat.zero_add,Nat.zero_mul,Bj he,B1 hk,Zv S,hx,hk,A7,A5,A6,A4,YJ,JK,JY,JR,JQ,JV,List.length_set,Nat.le_refl,Option.bind_some,Option.map_some,Jj S,AW,Bq,BN hk,BM hk,BK hk,Az hk,Ax hk,JU hk,BX S,J5 S,B6 S,BU,AZ,QY S,BW S,List.set_set,A0,Md.JZ,Md.doK,Md.put,hxx,hee,Md.Jx,show Nat.ble 1 1=true from rfl,EU,F9,Fj,GC,Fz,Fw,Fq,FT,FU,FE,FF,FC,FD,FG,FH,EN,EM,EP,FQ,FR,List.getD_cons_zero,List.getD_cons_succ,List.drop_succ_cons,List.drop_zero,Nat.ble_eq,Nat.le_refl,List.length_cons,List.length_nil,G4 S,Bool.not_true,Bool.not_false,Md.BC,Md.Y1,List.length_set,k5,hw,ht,hk1];rfl
  by_cases k7:x.kind=7
  ·by_cases ht : e.next = min (Md.YS p c i x.a).1 p.ins.length
   ·simp only[eG,go_sem,Z2 S,Z1 S,zN0,zN1,zN2,zN3,zN4,zI0,zI1,zI2,zI3,reduceCtorEq,B0 S,Nat.add_zero,JB S,hl,hcan,Bool.not_true,h0,h1,hn,Ak,b1,b2,ne_eq,not_false_eq_true,ZB,ZC,ZD,ZE,YE,Zq,Nat.zero_add,Nat.zero_mul,Bj he,B1 hk,Zv S,hx,hk,A7,A5,A6,A4,YJ,JK,JY,JR,JQ,JV,List.length_set,Nat.le_refl,Option.bind_some,Option.map_some,Jj S,AW,Bq,BN hk,BM hk,BK hk,Az hk,Ax hk,JU hk,BX S,J5 S,B6 S,BU,AZ,QY S,BW S,List.set_set,A0,Md.JZ,Md.doK,Md.put,hxx,hee,Md.Jx,show Nat.ble 1 1=true from rfl,EU,F9,Fj,GC,Fz,Fw,Fq,FT,FU,FE,FF,FC,FD,FG,FH,EN,EM,EP,FQ,FR,List.getD_cons_zero,List.getD_cons_succ,List.drop_succ_cons,List.drop_zero,Nat.ble_eq,Nat.le_refl,List.length_cons,List.length_nil,G4 S,Bool.not_true,Bool.not_false,Md.BC,Md.Y1,List.length_set,k7,eq_true ht];rfl
   ·simp only[eG,go_sem,Z2 S,Z1 S,zN0,zN1,zN2,zN3,zN4,zI0,zI1,zI2,zI3,reduceCtorEq,B0 S,Nat.add_zero,JB S,hl,hcan,Bool.not_true,h0,h1,hn,Ak,b1,b2,ne_eq,not_false_eq_true,ZB,ZC,ZD,ZE,YE,Zq,Nat.zero_add,Nat.zero_mul,Bj he,B1 hk,Zv S,hx,hk,A7,A5,A6,A4,YJ,JK,JY,JR,JQ,JV,List.length_set,Nat.le_refl,Option.bind_some,Option.map_some,Jj S,AW,Bq,BN hk,BM hk,BK hk,Az hk,Ax hk,JU hk,BX S,J5 S,B6 S,BU,AZ,QY S,BW S,List.set_set,A0,Md.JZ,Md.doK,Md.put,hxx,hee,Md.Jx,show Nat.ble 1 1=true from rfl,EU,F9,Fj,GC,Fz,Fw,Fq,FT,FU,FE,FF,FC,FD,FG,FH,EN,EM,EP,FQ,FR,List.getD_cons_zero,List.getD_cons_succ,List.drop_succ_cons,List.drop_zero,Nat.ble_eq,Nat.le_refl,List.length_cons,List.length_nil,G4 S,Bool.not_true,Bool.not_false,Md.BC,Md.Y1,List.length_set,k7,ht,hk1];rfl
  by_cases k9:x.kind=9
  ·have hl2 : (c.buf.set i.toNat { e with done := true }).length < 1073741824 := by rw [List.length_set]; exact hl
   cases hreal:Md.real p c.state.stack c.buf i with
   | none=>
    have ho:=fun A nb us=>Zdl S (dp+3) p c.state.stack (c.buf.set i.toNat { e with done:=true }) i hl2 hs (by rw[AZ];exact hreal) A nb us
    simp only[ZP,YH,Nat.add_assoc,zN2] at ho
    simp only[eG,go_sem,Z2 S,Z1 S,zN0,zN1,zN2,zN3,zN4,zI0,zI1,zI2,zI3,reduceCtorEq,B0 S,Nat.add_zero,JB S,hl,hcan,Bool.not_true,h0,h1,hn,Ak,b1,b2,ne_eq,not_false_eq_true,ZB,ZC,ZD,ZE,YE,Zq,Nat.zero_add,Nat.zero_mul,Bj he,B1 hk,Zv S,hx,hk,A7,A5,A6,A4,YJ,JK,JY,JR,JQ,JV,List.length_set,Nat.le_refl,Option.bind_some,Option.map_some,Jj S,AW,Bq,BN hk,BM hk,BK hk,Az hk,Ax hk,JU hk,BX S,J5 S,B6 S,BU,AZ,QY S,BW S,List.set_set,A0,Md.JZ,Md.doK,Md.put,hxx,hee,Md.Jx,show Nat.ble 1 1=true from rfl,EU,F9,Fj,GC,Fz,Fw,Fq,FT,FU,FE,FF,FC,FD,FG,FH,EN,EM,EP,FQ,FR,List.getD_cons_zero,List.getD_cons_succ,List.drop_succ_cons,List.drop_zero,Nat.ble_eq,Nat.le_refl,List.length_cons,List.length_nil,G4 S,Bool.not_true,Bool.not_false,Md.BC,Md.Y1,List.length_set,k9,hreal,ho]
   | some r=>
    obtain⟨junk,q,ho⟩:=Zdk S (dp+3) p c.state.stack (c.buf.set i.toNat { e with done:=true }) i hl2 hs r (by rw[AZ];exact hreal)
    simp only[ZP,YH,Nat.add_assoc,zN2] at ho
    rw[hreal] at hg
    have hg':r.length<1073741824:=hg
    by_cases hr:r.length=0
    ·simp only[eG,go_sem,Z2 S,Z1 S,zN0,zN1,zN2,zN3,zN4,zI0,zI1,zI2,zI3,reduceCtorEq,B0 S,Nat.add_zero,JB S,hl,hcan,Bool.not_true,h0,h1,hn,Ak,b1,b2,ne_eq,not_false_eq_true,ZB,ZC,ZD,ZE,YE,Zq,Nat.zero_add,Nat.zero_mul,Bj he,B1 hk,Zv S,hx,hk,A7,A5,A6,A4,YJ,JK,JY,JR,JQ,JV,List.length_set,Nat.le_refl,Option.bind_some,Option.map_some,Jj S,AW,Bq,BN hk,BM hk,BK hk,Az hk,Ax hk,JU hk,BX S,J5 S,B6 S,BU,AZ,QY S,BW S,List.set_set,A0,Md.JZ,Md.doK,Md.put,hxx,hee,Md.Jx,show Nat.ble 1 1=true from rfl,EU,F9,Fj,GC,Fz,Fw,Fq,FT,FU,FE,FF,FC,FD,FG,FH,EN,EM,EP,FQ,FR,List.getD_cons_zero,List.getD_cons_succ,List.drop_succ_cons,List.drop_zero,Nat.ble_eq,Nat.le_refl,List.length_cons,List.length_nil,G4 S,Bool.not_true,Bool.not_false,Md.BC,Md.Y1,List.length_set,k9,hreal,hr,ho,show((0:Nat):Int)=0 from rfl]
    ·have wl : IntKind.i64.wrap ((r.length : Int) - 1) = ((r.length - 1 : Nat) : Int) := by rw [YM (by omega) (by omega)]; omega
     have hi1:r.length-1<r.length:=by omega
     by_cases ht:e.next=Md.G1 r
     ·simp only[eG,go_sem,Z2 S,Z1 S,zN0,zN1,zN2,zN3,zN4,zI0,zI1,zI2,zI3,reduceCtorEq,B0 S,Nat.add_zero,JB S,hl,hcan,Bool.not_true,h0,h1,hn,Ak,b1,b2,ne_eq,not_false_eq_true,ZB,ZC,ZD,ZE,YE,Zq,Nat.zero_add,Nat.zero_mul,Bj he,B1 hk,Zv S,hx,hk,A7,A5,A6,A4,YJ,JK,JY,JR,JQ,JV,List.length_set,Nat.le_refl,Option.bind_some,Option.map_some,Jj S,AW,Bq,BN hk,BM hk,BK hk,Az hk,Ax hk,JU hk,BX S,J5 S,B6 S,BU,AZ,QY S,BW S,List.set_set,A0,Md.JZ,Md.doK,Md.put,hxx,hee,Md.Jx,show Nat.ble 1 1=true from rfl,EU,F9,Fj,GC,Fz,Fw,Fq,FT,FU,FE,FF,FC,FD,FG,FH,EN,EM,EP,FQ,FR,List.getD_cons_zero,List.getD_cons_succ,List.drop_succ_cons,List.drop_zero,Nat.ble_eq,Nat.le_refl,List.length_cons,List.length_nil,G4 S,Bool.not_true,Bool.not_false,Md.BC,Md.Y1,List.length_set,k9,hreal,hr,ho,wl,hi1,Z35 hr,eq_true ht,Int.natCast_eq_zero,Int.toNat_natCast,Int.natCast_nonneg,Int.ofNat_lt,Nat.mul_one,true_and,and_true,if_true];rfl
     ·simp only[eG,go_sem,Z2 S,Z1 S,zN0,zN1,zN2,zN3,zN4,zI0,zI1,zI2,zI3,reduceCtorEq,B0 S,Nat.add_zero,JB S,hl,hcan,Bool.not_true,h0,h1,hn,Ak,b1,b2,ne_eq,not_false_eq_true,ZB,ZC,ZD,ZE,YE,Zq,Nat.zero_add,Nat.zero_mul,Bj he,B1 hk,Zv S,hx,hk,A7,A5,A6,A4,YJ,JK,JY,JR,JQ,JV,List.length_set,Nat.le_refl,Option.bind_some,Option.map_some,Jj S,AW,Bq,BN hk,BM hk,BK hk,Az hk,Ax hk,JU hk,BX S,J5 S,B6 S,BU,AZ,QY S,BW S,List.set_set,A0,Md.JZ,Md.doK,Md.put,hxx,hee,Md.Jx,show Nat.ble 1 1=true from rfl,EU,F9,Fj,GC,Fz,Fw,Fq,FT,FU,FE,FF,FC,FD,FG,FH,EN,EM,EP,FQ,FR,List.getD_cons_zero,List.getD_cons_succ,List.drop_succ_cons,List.drop_zero,Nat.ble_eq,Nat.le_refl,List.length_cons,List.length_nil,G4 S,Bool.not_true,Bool.not_false,Md.BC,Md.Y1,List.length_set,k9,hreal,hr,ho,wl,hi1,Z35 hr,ht,Int.natCast_eq_zero,Int.toNat_natCast,Int.natCast_nonneg,Int.ofNat_lt,Nat.mul_one,true_and,and_true,if_true,hk1];rfl
  simp only[eG,go_sem,Z2 S,Z1 S,zN0,zN1,zN2,zN3,zN4,zI0,zI1,zI2,zI3,reduceCtorEq,B0 S,Nat.add_zero,JB S,hl,hcan,Bool.not_true,h0,h1,hn,Ak,b1,b2,ne_eq,not_false_eq_true,ZB,ZC,ZD,ZE,YE,Zq,Nat.zero_add,Nat.zero_mul,Bj he,B1 hk,Zv S,hx,hk,A7,A5,A6,A4,YJ,JK,JY,JR,JQ,JV,List.length_set,Nat.le_refl,Option.bind_some,Option.map_some,Jj S,AW,Bq,BN hk,BM hk,BK hk,Az hk,Ax hk,JU hk,BX S,J5 S,B6 S,BU,AZ,QY S,BW S,List.set_set,A0,Md.JZ,Md.doK,Md.put,hxx,hee,Md.Jx,k1,k2,k3,k4,k5,k7,k9]
end
theorem T9 {L:List Ent}{k:Nat}{e:Ent}(he:L[k]? =some e):AY false 1 (((rC L).map AV.d).drop (k*8))=some (.d (vi e.pc)):=by
 have hk:k<L.length:=(List.getElem?_eq_some_iff.1 he).1
 have:L.set k e=L:=by
  obtain⟨_,rfl⟩:=List.getElem?_eq_some_iff.1 he
  exact List.set_getElem_self hk
 have h:=B1 (e:=e) hk
 rw[this] at h;exact h
theorem U9 {l:List Ent}{k:Nat}{e:Ent}(he:l[k]? =some e)(i v:Nat)(A:List Blk)(n:Int):storeAt A i v (k*8+2) [.d (vi n)] 1 (some (.cells ((rC l).map .d) v false))=some (A.set i (.cells ((rC (l.set k { e with addr:=n })).map .d) v false)):=
 MX (o:=2) (e':={ e with addr:=n }) [vi n] he rfl rfl rfl rfl (by show 2+1<=8;decide) 8 rfl _ rfl
theorem Zft {p:Prog}{l:List Ent}{i addr:Int}(h:(Md.JH p l i addr).2=true):(Md.D6 l i:Int)<=(Md.JH p l i addr).1:=(VX p i addr _ _ h).1
variable {E:Env} {fn:FuncId->Option (Env->cT->cT)}
section
variable (S:Sur E fn)
include S
theorem SX:E.lives 77 7=none/\E.lives 77 21=none/\E.lives 77 29=none:=⟨off S 77 7 (by decide) rfl,off S 77 21 (by decide) rfl,off S 77 29 (by decide) rfl⟩
theorem Zbe (dp:Nat)(p:Prog)(c:Conf)(i:Int)(hl:c.buf.length<1073741824)(hz:Md.QX p c i=true->(Md.ZA c.buf i).fault=false):Z7 E fn (dp+6) 77 [ZP p,ZY c,vi i] (.tup [ZY (MM (c.state.mem.length:Int) p c i).1,rD (MM (c.state.mem.length:Int) p c i).2,vb (Md.QX p c i)]):=by
 unfold Z7
 show Zz (Z5 E fn (dp+5+1) 77 [.d (ZP p),.d (ZY c),.d (vi i)] [])=_
 rw[Yx,S.Z4y,Yw,Z8j,Yq _ _ _ _ _ _ _ _ rfl]
 cases hcan:Md.QX p c i with
 | false=>simp only[eG,go_sem,Z2 S,Z1 S,Nat.reduceLT,Nat.reduceEqDiff,Nat.reduceAdd,Nat.reduceMul,Nat.reduceLeDiff,Int.reduceEq,Int.reduceLT,Int.reduceLE,Int.reduceNeg,reduceCtorEq,SX S,KA S,hl,hcan,Bool.not_false,MM,Md.Eq]
 | true=>
  have ho:=Zhw hcan
  obtain⟨h0,he,h1⟩:=SP ho
  have hf:=hz hcan
  have hn:c.buf.length≠0:=by omega
  have hk:i.toNat<c.buf.length:=by omega
  have b1:c.buf.length*48<=Z4:=by unfold Z4;omega
  have b2:c.buf.length<=Z4:=by unfold Z4;omega
  have hx:Md.at_ p (Md.ZA c.buf i).pc=Md.QA p c i:=rfl
  have had:Md.ZR p.w ((Md.YS p c i (Md.QA p c i).a).1+(Md.YS p c i (Md.QA p c i).b).1)=Md.QP p c i:=rfl
  generalize hxx:Md.QA p c i=x at *
  generalize hee:Md.ZA c.buf i=e at *
  have hset:c.buf.set i.toNat e=c.buf:=by
   obtain⟨hq,hw⟩:=List.getElem?_eq_some_iff.1 he
   rw[<-hw];exact List.set_getElem_self hq
  have hL0:∀ n b,c.buf.set i.toNat { e with addr:=n,known:=b }=c.buf.set i.toNat ⟨e.pc,e.val,n,e.frm,e.next,e.done,b,false⟩:=fun n b=>by rw[<-hf]
  by_cases hin:(c.state.mem.length:Int)<=Md.QP p c i
  ·simp only[eG,go_sem,Z2 S,Z1 S,Nat.reduceLT,Nat.reduceEqDiff,Nat.reduceAdd,Nat.reduceMul,Nat.reduceLeDiff,Int.reduceEq,Int.reduceLT,Int.reduceLE,Int.reduceNeg,reduceCtorEq,SX S,Nat.add_zero,KA S,hl,hcan,Bool.not_true,h0,h1,hn,Ak,b1,b2,ne_eq,not_false_eq_true,ZB,ZC,ZD,ZE,YE,Zq,Nat.zero_add,Nat.zero_mul,U9 he,Az hk,Ax hk,T9 he,JU hk,Zv S,hx,hk,A7,A5,A6,A4,YJ,JK,JY,JR,JQ,JV,List.take_length,CD,List.length_set,Nat.le_refl,Option.bind_some,Option.map_some,Jj S,J5 S,Md.Jx,had,MM,Md.addrM,Md.NZ,Md.put,hee,ge_iff_le,hin]
  ·generalize hL : c.buf.set i.toNat ⟨e.pc, e.val, Md.QP p c i, e.frm, e.next, e.done, true, false⟩ = L
   have hLl:L.length=c.buf.length:=by rw[<-hL];exact List.length_set
   have hLl2:L.length<1073741824:=by omega
   have hld:AY false 1 (((rC L).map AV.d).drop (i.toNat*8+2))=some (.d (vi (Md.QP p c i))):=by rw[<-hL];exact JU hk
   have hfold:DV.lst (rC L) c.buf.length none=rD L:=by unfold rD;rw[hLl]
   have hdl:c.buf.length*8<=((rC L).map AV.d).length:=JK _ (by omega)
   have htk:L.take c.buf.length=L:=List.take_of_length_le (by omega)
   cases hz2:(Md.JH p L i (Md.QP p c i)).2 with
   | false=>simp only[eG,go_sem,Z2 S,Z1 S,Nat.reduceLT,Nat.reduceEqDiff,Nat.reduceAdd,Nat.reduceMul,Nat.reduceLeDiff,Int.reduceEq,Int.reduceLT,Int.reduceLE,Int.reduceNeg,reduceCtorEq,SX S,Nat.add_zero,KA S,hl,hcan,Bool.not_true,h0,h1,hn,Ak,b1,b2,ne_eq,not_false_eq_true,ZB,ZC,ZD,ZE,YE,Zq,Nat.zero_add,Nat.zero_mul,U9 he,Az hk,Ax hk,T9 he,JU hk,Zv S,hx,hk,A7,A5,A6,A4,YJ,JK,JY,JR,JQ,JV,List.take_length,CD,List.length_set,Nat.le_refl,Option.bind_some,Option.map_some,Jj S,J5 S,Md.Jx,had,MM,Md.addrM,Md.NZ,Md.put,hee,ge_iff_le,hin,hf,hL,hld,hfold,hdl,htk,Z6p S,hLl2,hz2,Md.MB,show i<4611686018427387904 by omega,show -4611686018427387904<i by omega];rfl
   | true=>
    obtain⟨z0,z1⟩:=Zfs hz2
    have z2:=Zft hz2
    have z3:1<=Md.D6 L i:=by unfold Md.D6;omega
    generalize hkk:(Md.JH p L i (Md.QP p c i)).1=kk at *
    obtain⟨e2,he2⟩:=QB (show kk.toNat<L.length by omega)
    have he3:Md.ZA L kk=e2:=by unfold Md.ZA;rw[he2];rfl
    have hk0:kk.toNat≠0:=by omega
    have hk1:kk<c.buf.length:=by omega
    have hk2:kk.toNat<=L.length:=by omega
    have bd:=MG c.buf.length .i64 kk z0 (by omega)
    simp only[eG,go_sem,Z2 S,Z1 S,Nat.reduceLT,Nat.reduceEqDiff,Nat.reduceAdd,Nat.reduceMul,Nat.reduceLeDiff,Int.reduceEq,Int.reduceLT,Int.reduceLE,Int.reduceNeg,reduceCtorEq,SX S,Nat.add_zero,KA S,hl,hcan,Bool.not_true,h0,h1,hn,Ak,b1,b2,ne_eq,not_false_eq_true,ZB,ZC,ZD,ZE,YE,Zq,Nat.zero_add,Nat.zero_mul,U9 he,Az hk,Ax hk,T9 he,JU hk,Zv S,hx,hk,A7,A5,A6,A4,YJ,JK,JY,JR,JQ,JV,List.take_length,CD,List.length_set,Nat.le_refl,Option.bind_some,Option.map_some,Jj S,J5 S,Md.Jx,had,MM,Md.addrM,Md.NZ,Md.put,hee,ge_iff_le,hin,hf,hL,hld,hfold,hdl,htk,Z6p S,hLl2,hz2,hkk,Md.MB,he3,T9 he2,z0,hk0,hk1,hk2,bd,Nat.sub_zero,not_true_eq_false,and_false,Option.map_none,show i<4611686018427387904 by omega,show -4611686018427387904<i by omega];rfl
end
theorem Z39:48<=Z4:=by unfold Z4;decide
theorem Z3a:1<=Z4:=by unfold Z4;decide
variable {E:Env} {fn:FuncId->Option (Env->cT->cT)}
section
variable (S:Sur E fn)
include S
theorem D5:E.lives 126 1=none/\E.lives 126 17=none:=⟨off S 126 1 (by decide) rfl,off S 126 17 (by decide) rfl⟩
theorem Zdr (dp:Nat)(l:List Ent)(hl:l.length<1073741824)(kx:Nat->K)(kr:K)(k f:Nat)(out:List Ent)(e:Ent)(he:l[k]? =some e)(ho:out.length<1073741824):
  JC (Zj E 126) (Z5 E fn dp) (Z9 8 JC (Zj E 126) (Z5 E fn dp) kx kr (f+1)) kx kr (mk .bot 28 [(0,.d (rD l)),(3,.sref 0 0 0 out.length 8 none),(4,aI k)]) [.cells ((rC out).map .d) 0 false]=
  JC (Zj E 126) (Z5 E fn dp) (Z9 8 JC (Zj E 126) (Z5 E fn dp) kx kr f) kx kr (mk .bot 28 [(0,.d (rD l)),(3,.sref 0 0 0 (out.length+1) 8 none),(4,aI ((k+1:Nat):Int))]) [.cells ((rC (out++[Md.Jv e])).map .d) 0 false]:=by
 have hk:k<l.length:=(List.getElem?_eq_some_iff.1 he).1
 have k1:(out.length+1)*48<=Z4:=by unfold Z4;omega
 have k2:out.length+1<=Z4:=by unfold Z4;omega
 generalize hK:Z9 8 JC _ _ kx kr (f+1)=KK
 first | (conv=>lhs;rw[JC]) | rw[JC]
 by_cases h:0<=e.frm
 ·simp only [eG, go_sem, Z2 S, Z1 S, zN0, zN1, zN2, zN3, zN4, zI0, zI1, zI2, zI3, reduceCtorEq, D5 S, show (k : Int) < l.length by omega, ZF he, wi k (by omega), ge_iff_le, h, Zq, EC, k1, k2, Md.Jv]
  rw[<-hK,Z6 (on S _ _ [0,3,4] (by decide) rfl) rfl _ _ _ _ _ _ _ _ _ rfl]
  simp only[eG,go_sem,Z2 S,Z1 S,zN0,zN1,zN2,zN3,zN4,zI0,zI1,zI2,zI3,reduceCtorEq,D5 S]
  rfl
 ·simp only [eG, go_sem, Z2 S, Z1 S, zN0, zN1, zN2, zN3, zN4, zI0, zI1, zI2, zI3, reduceCtorEq, D5 S, show (k : Int) < l.length by omega, ZF he, wi k (by omega), ge_iff_le, h, Zq, EC, k1, k2, Md.Jv]
  rw[<-hK,Z6 (on S _ _ [0,3,4] (by decide) rfl) rfl _ _ _ _ _ _ _ _ _ rfl]
  simp only[eG,go_sem,Z2 S,Z1 S,zN0,zN1,zN2,zN3,zN4,zI0,zI1,zI2,zI3,reduceCtorEq,D5 S]
theorem Zg7 (dp:Nat)(l:List Ent)(hl:l.length<1073741824)(kx:Nat->K)(kr:K)(k f:Nat)(e:Ent)(he:l[k]? =some e):
  JC (Zj E 126) (Z5 E fn dp) (Z9 8 JC (Zj E 126) (Z5 E fn dp) kx kr (f+1)) kx kr (mk .bot 28 [(0,.d (rD l)),(3,zn),(4,aI k)]) []=
  JC (Zj E 126) (Z5 E fn dp) (Z9 8 JC (Zj E 126) (Z5 E fn dp) kx kr f) kx kr (mk .bot 28 [(0,.d (rD l)),(3,.sref 0 0 0 1 8 none),(4,aI ((k+1:Nat):Int))]) [.cells ((rC [Md.Jv e]).map .d) 0 false]:=by
 have hk:k<l.length:=(List.getElem?_eq_some_iff.1 he).1
 generalize hK:Z9 8 JC _ _ kx kr (f+1)=KK
 first | (conv=>lhs;rw[JC]) | rw[JC]
 by_cases h:0<=e.frm
 ·simp only [eG, go_sem, Z2 S, Z1 S, zN0, zN1, zN2, zN3, zN4, zI0, zI1, zI2, zI3, reduceCtorEq, D5 S, show (k : Int) < l.length by omega, ZF he, wi k (by omega), ge_iff_le, h, Zq, Z39, Z3a, Nat.zero_add, Nat.one_mul, Nat.zero_mul, and_self, true_and, Md.Jv]
  rw[<-hK,Z6 (on S _ _ [0,3,4] (by decide) rfl) rfl _ _ _ _ _ _ _ _ _ rfl]
  simp only[eG,go_sem,Z2 S,Z1 S,zN0,zN1,zN2,zN3,zN4,zI0,zI1,zI2,zI3,reduceCtorEq,D5 S]
  rfl
 ·simp only [eG, go_sem, Z2 S, Z1 S, zN0, zN1, zN2, zN3, zN4, zI0, zI1, zI2, zI3, reduceCtorEq, D5 S, show (k : Int) < l.length by omega, ZF he, wi k (by omega), ge_iff_le, h, Zq, Z39, Z3a, Nat.zero_add, Nat.one_mul, Nat.zero_mul, and_self, true_and, Md.Jv]
  rw[<-hK,Z6 (on S _ _ [0,3,4] (by decide) rfl) rfl _ _ _ _ _ _ _ _ _ rfl]
  simp only[eG,go_sem,Z2 S,Z1 S,zN0,zN1,zN2,zN3,zN4,zI0,zI1,zI2,zI3,reduceCtorEq,D5 S]
  try rfl
theorem Zfy (dp:Nat)(l:List Ent)(hl:l.length<1073741824)(kx:Nat->K)(kr:K):∀ m k f out,k+m=l.length->m<=f->out.length<=k->
  JC (Zj E 126) (Z5 E fn dp) (Z9 8 JC (Zj E 126) (Z5 E fn dp) kx kr f) kx kr (mk .bot 28 [(0,.d (rD l)),(3,.sref 0 0 0 out.length 8 none),(4,aI k)]) [.cells ((rC out).map .d) 0 false]=
  kx 0 (mk .bot 28 [(9,ZZ false),(8,aI l.length),(7,.d (rD l)),(6,aI l.length),(0,.d (rD l)),(3,.sref 0 0 0 (out++(l.drop k).map Md.Jv).length 8 none),(4,aI l.length)]) [.cells ((rC (out++(l.drop k).map Md.Jv)).map .d) 0 false]:=by
 intro m
 induction m with
 | zero=>
  intro k f out hk _ _
  obtain rfl:k=l.length:=by omega
  rw[List.drop_length,List.map_nil,List.append_nil]
  generalize Z9 8 JC _ _ kx kr f=KK
  first | (conv=>lhs;rw[JC]) | rw[JC]
  simp only[eG,go_sem,Z2 S,Z1 S,zN0,zN1,zN2,zN3,zN4,zI0,zI1,zI2,zI3,reduceCtorEq,D5 S,Int.lt_irrefl]
 | succ m ih=>
  intro k f out hk hf ho
  obtain⟨e,he⟩:=QB (show k<l.length by omega)
  obtain⟨f,rfl⟩:∃ g,f=g+1:=⟨f-1,by omega⟩
  rw[Zdr S dp l hl kx kr k f out e he (by omega),E9 he,List.map_cons]
  have:=ih (k+1) f (out++[Md.Jv e]) (by omega) (by omega) (by simp;omega)
  simp only[List.append_assoc,List.singleton_append,List.cons_append,List.nil_append] at this
  rw[show(out++[Md.Jv e]).length=out.length+1 by simp] at this
  exact this
theorem Zb0 (dp:Nat)(l:List Ent)(hl:l.length<1073741824):Z7 E fn (dp+1) 126 [rD l] (rD (Md.JE l)):=by
 unfold Z7
 show Zz (Z5 E fn (dp+1) 126 [.d (rD l)] [])=_
 rw[Yx,S.Z4k,Yw,Z85,Yq _ _ _ _ _ _ _ _ rfl]
 simp only[eG,go_sem,Z2 S,Z1 S,zN0,zN1,zN2,zN3,zN4,zI0,zI1,zI2,zI3,reduceCtorEq,D5 S]
 rw[ZU,Z6 (on S _ _ [0,3,4] (by decide) rfl) rfl _ _ _ _ _ _ _ _ _ rfl]
 simp only[eG,go_sem,Z2 S,Z1 S,zN0,zN1,zN2,zN3,zN4,zI0,zI1,zI2,zI3,reduceCtorEq,D5 S]
 by_cases h:l.length<=1
 ·generalize Z9 8 JC _ _ _ _ _ = KK
  first | (conv=>lhs;rw[JC]) | rw[JC]
  have hd:Md.JE l=[]:=by unfold Md.JE;rw[List.drop_of_length_le h];rfl
  rw[hd]
  simp only[eG,go_sem,Z2 S,Z1 S,zN0,zN1,zN2,zN3,zN4,zI0,zI1,zI2,zI3,reduceCtorEq,D5 S,show ¬(1:Int)<l.length by omega]
 ·obtain ⟨e, he⟩ := QB (show 1 < l.length by omega)
  have e1:=fun kx kr=>Zg7 S dp l hl kx kr 1 999999999999999999999999999998 e he
  simp only[Int.cast_ofNat_Int] at e1
  rw[show(999999999999999999999999999999:Nat)=999999999999999999999999999998+1 from rfl,e1]
  have e2:=fun kx kr=>Zfy S dp l hl kx kr (l.length-2) 2 999999999999999999999999999998 [Md.Jv e] (by omega) (by omega) (by simp)
  have e3:[Md.Jv e]++(l.drop 2).map Md.Jv=Md.JE l:=by unfold Md.JE;rw[E9 he];rfl
  simp only[e3,List.length_cons,List.length_nil,Nat.zero_add,Int.cast_ofNat_Int] at e2
  rw[show(((1+1:Nat)):Int)=2 from rfl,e2]
  have hne:Md.JE l≠[]:=by rw[<-e3];simp
  simp only[eG,go_sem,Z2 S,Z1 S,zN0,zN1,zN2,zN3,zN4,zI0,zI1,zI2,zI3,reduceCtorEq,D5 S]
  rw[Ck (Md.JE l) hne _ rfl 6 8 none rfl]
  simp only[eG,go_sem,Z2 S,Z1 S,zN0,zN1,zN2,zN3,zN4,zI0,zI1,zI2,zI3,reduceCtorEq,D5 S]
  rfl
theorem Ev (dp:Nat)(l:List Ent)(hl:l.length<1073741824)(A:List Blk)(nb:Nat):ZX false E (Z5 E fn (dp+1)) 126 A nb (some ([rD l],[]))=some (.made (.d (rD (Md.JE l))) []):=
 Z7.deep (Zb0 S dp l hl) (np S 126 (by decide)) A nb
end
theorem EB (A:List Blk)(s bytes n:Nat)(new:List AV)(h0:n≠0)(h1:n*bytes<=Z4)(h2:n<=Z4):ZS A s bytes (.d (.lst [] 0 (some 0))) new n=some (.fresh new n):=by
 obtain⟨m,rfl⟩:∃ m,n=m+1:=⟨n-1,by omega⟩
 rw[Z7c,Nat.zero_add,if_pos ⟨by omega,by simp,h1,h2⟩];rfl
theorem Z92 {l:List Int}{k:Nat}(h:k<l.length)(i v:Nat)(A:List Blk)(n:Int):storeAt A i v (k*1) [.d (vi n)] 1 (some (.cells ((rC l).map .d) v false))=some (A.set i (.cells ((rC (l.set k n)).map .d) v false)):=by
 have he:l[k]? =some l[k]:=List.getElem?_eq_getElem h
 exact MX (o:=0) (e':=n) [vi n] he rfl rfl rfl rfl (by show 0+1<=1;decide) 1 rfl _ rfl
theorem Ek (l:List Int)(n:Nat)(hn:n<=l.length):n*1<=((rC l).map AV.d).length:=by
 rw[List.length_map,QH];exact Nat.mul_le_mul_right _ hn
theorem Ej (A:List Blk)(m n:Nat)(l:List Int):Y8 (deep A (m+1)) (((rC l).map AV.d).take (n*1))=some (rC (l.take n),[]):=by
 rw[<-List.map_take,show n*1=n*Cl.n Int from rfl,Px,FY]
theorem Ze1 (A:List Blk)(x:DV)(k:Option Nat):CH A false 1 (.d (.lst [x] 1 k))=some ([.d x],1):=rfl
theorem E6 (l:List Int)(n:Nat)(h:n<=l.length):DV.lst (rC (l.take n)) n none=rD (l.take n):=by
 unfold rD;rw[List.length_take,Nat.min_eq_left h]
theorem E1 (l:List Int)(k:Nat)(v:Int):(l.set k v).take l.length=l.set k v:=List.take_of_length_le (by rw[List.length_set];exact Nat.le_refl _)
theorem E7 (l:List Int)(k:Nat)(v:Int):DV.lst (rC (l.set k v)) l.length none=rD (l.set k v):=by
 unfold rD;rw[List.length_set]
def CF (p:Prog)(c:Conf):Conf:=bif Md.QC p c then Md.retire p c else Md.Eq
theorem UP {p:Prog}{c:Conf}(h:Md.QC p c=true):∃ e,c.buf[0]? =some e/\Md.ZA c.buf 0=e/\c.end_=0:=by
 simp only[Md.QC,Bool.and_eq_true,beq_iff_eq,decide_eq_true_eq] at h
 obtain⟨e,he⟩:=QB (show 0<c.buf.length by omega)
 exact⟨e,he,by unfold Md.ZA;rw[show(0:Int).toNat=0 from rfl,he];rfl,h.1.1.1⟩
theorem Zj8 {n:Int}(h:n=0∨n=1∨n=2∨n=3):YF .and (.d (vi n)) (.d (vi 3))=some (.d (vi n)):=by
 rcases h with rfl | rfl | rfl | rfl<;>rfl
variable {E:Env} {fn:FuncId->Option (Env->cT->cT)}
section
variable (S:Sur E fn)
include S
theorem DF:E.lives 78 7=none/\E.lives 78 21=none/\E.lives 78 25=none/\E.lives 78 29=none/\E.lives 78 33=none/\E.lives 78 37=none/\E.lives 78 41=none/\E.lives 78 45=none:=⟨off S 78 7 (by decide) rfl,off S 78 21 (by decide) rfl,off S 78 25 (by decide) rfl,off S 78 29 (by decide) rfl,off S 78 33 (by decide) rfl,off S 78 37 (by decide) rfl,off S 78 41 (by decide) rfl,off S 78 45 (by decide) rfl⟩
theorem Zaw (dp:Nat)(p:Prog)(c:Conf)(hl:c.buf.length<1073741824)(hm:c.state.mem.length<1073741824)(hs:c.state.stack.length<1073741823)(hd:0<=(Md.at_ p (Md.ZA c.buf 0).pc).d/\(Md.at_ p (Md.ZA c.buf 0).pc).d<=3)(hx:Md.QC p c=true->(Md.at_ p (Md.ZA c.buf 0).pc).kind=3->(Md.ZA c.buf 0).fault=false->0<=(Md.ZA c.buf 0).addr/\(Md.ZA c.buf 0).addr<c.state.mem.length)(hy:Md.QC p c=true->(Md.at_ p (Md.ZA c.buf 0).pc).kind=9->(Md.ZA c.buf 0).fault=false->c.state.stack≠[]):Z7 E fn (dp+4) 78 [ZP p,ZY c] (.tup [ZY (CF p c),vb (Md.QC p c)]):=by
 unfold Z7
 show Zz (Z5 E fn (dp+3+1) 78 [.d (ZP p),.d (ZY c)] [])=_
 rw[Yx,S.Z4h,Yw,Z82,Yq _ _ _ _ _ _ _ _ rfl]
 cases hcan:Md.QC p c with
 | false=>simp only[eG,go_sem,Z2 S,Z1 S,zN0,zN1,zN2,zN3,zN4,zI0,zI1,zI2,zI3,reduceCtorEq,DF S,QN S,hcan,Bool.not_false,CF,Md.Eq]
 | true=>
  replace hx:=hx hcan
  replace hy:=hy hcan
  obtain⟨e,he,he0,hend⟩:=UP hcan
  rw[he0] at hx hy hd
  have hgo:=he0
  generalize hxx:Md.at_ p e.pc=x at *
  have w0:=EK (l:=c.buf) (i:=0) (by decide) he .i64 8 rfl
  have n1:c.state.mem.length*8<=Z4:=by unfold Z4;omega
  have n2:c.state.mem.length<=Z4:=by unfold Z4;omega
  have n3:c.state.stack.length*8<=Z4:=by unfold Z4;omega
  have n4:c.state.stack.length<=Z4:=by unfold Z4;omega
  have n5:(c.state.stack.length+1)*8<=Z4:=by unfold Z4;omega
  have n6:c.state.stack.length+1<=Z4:=by unfold Z4;omega
  have e1:c.state.mem.length=0->c.state.mem=[]:=List.length_eq_zero_iff.1
  have e2:c.state.stack.length=0->c.state.stack=[]:=List.length_eq_zero_iff.1
  have hdl:deep [.cells ((rC (c.state.stack++[IntKind.i64.wrap (e.pc+1)])).map .d) 0 false] 6 (.sref 0 0 0 (c.state.stack.length+1) 1 none)=some (.lst (rC (c.state.stack++[IntKind.i64.wrap (e.pc+1)])) (c.state.stack++[IntKind.i64.wrap (e.pc+1)]).length none,[0]):=Ck _ (by simp) _ (by simp) 4 1 none rfl
  have d4:x.d=0∨x.d=1∨x.d=2∨x.d=3:=by omega
  have hdl2:deep [.cells ((rC c.state.mem).map .d) 0 false,.cells ((rC (c.state.stack++[IntKind.i64.wrap (e.pc+1)])).map .d) 0 false] 6 (.sref 1 0 0 (c.state.stack.length+1) 1 none)=some (.lst (rC (c.state.stack++[IntKind.i64.wrap (e.pc+1)])) (c.state.stack++[IntKind.i64.wrap (e.pc+1)]).length none,[1]):=by
   rw[show c.state.stack.length+1=(c.state.stack++[IntKind.i64.wrap (e.pc+1)]).length by simp]
   exact Cq rfl (by simp) 4 _ 1 none rfl rfl
  have hand:=Zj8 d4
  have d0:=hd.1
  have d1:x.d<4:=by omega
  have hst:∀(A:List Blk) (m s q:AV),storeAt A 5 0 (x.d.toNat*1) [.d (vi e.val)] 1 (some (.cells [.d (vi c.state.regs.r0),.d (vi c.state.regs.r1),.d (vi c.state.regs.r2),.d (vi c.state.regs.r3),m,s,q] 0 false))=some (A.set 5 (.cells [.d (vi (Md.AD c.state.regs x.d e.val).r0),.d (vi (Md.AD c.state.regs x.d e.val).r1),.d (vi (Md.AD c.state.regs x.d e.val).r2),.d (vi (Md.AD c.state.regs x.d e.val).r3),m,s,q] 0 false)):=fun A m s q=>by
   rcases d4 with d | d | d | d<;>rw[d]<;>rfl
  by_cases m0:c.state.mem.length=0<;>by_cases s0:c.state.stack.length=0
  all_goals
   generalize hB:(ZK 0 _:CT)=BB
   simp only[eG,go_sem,Z2 S,Z1 S,zN0,zN1,zN2,zN3,zN4,zI0,zI1,zI2,zI3,reduceCtorEq,DF S,QN S,hcan,Bool.not_true,Bool.not_false,w0,Zv S,hxx,Ev S,hl,ZB,ZC,ZD,ZE,YE,Zq,EB,n1,n2,n3,n4,n5,n6,ne_eq,not_false_eq_true,not_true_eq_false,Nat.zero_add,Nat.add_zero,Nat.zero_mul,YJ,Ek,Ej,Nat.le_refl,Option.bind_some,Option.map_some,Option.map_none,E6,E1,E7,List.take_length,CD,List.length_set,CF,Md.retire,he0,Md.BH,Md.A8,eq_true hend,Md.Y1,m0,s0]
   rw[<-hB]
   clear hB BB
   cases hf:e.fault with
   | true=>simp only[eG,go_sem,Z2 S,Z1 S,zN0,zN1,zN2,zN3,zN4,zI0,zI1,zI2,zI3,reduceCtorEq,DF S,QN S,hcan,Bool.not_true,Bool.not_false,w0,Zv S,hxx,Ev S,hl,ZB,ZC,ZD,ZE,YE,Zq,EB,n1,n2,n3,n4,n5,n6,ne_eq,not_false_eq_true,not_true_eq_false,Nat.zero_add,Nat.add_zero,Nat.zero_mul,YJ,Ek,Ej,Nat.le_refl,Option.bind_some,Option.map_some,Option.map_none,E6,E1,E7,List.take_length,CD,List.length_set,CF,Md.retire,he0,Md.BH,Md.A8,eq_true hend,Md.Y1,m0,s0,hf];(first | done | rfl | (rw[e1 m0];rfl) | (rw[e2 s0];rfl) | (rw[e1 m0,e2 s0];rfl))
   | false=>
    by_cases k12:x.kind=12
    ·simp only[eG,go_sem,Z2 S,Z1 S,zN0,zN1,zN2,zN3,zN4,zI0,zI1,zI2,zI3,reduceCtorEq,DF S,QN S,hcan,Bool.not_true,Bool.not_false,w0,Zv S,hxx,Ev S,hl,ZB,ZC,ZD,ZE,YE,Zq,EB,n1,n2,n3,n4,n5,n6,ne_eq,not_false_eq_true,not_true_eq_false,Nat.zero_add,Nat.add_zero,Nat.zero_mul,YJ,Ek,Ej,Nat.le_refl,Option.bind_some,Option.map_some,Option.map_none,E6,E1,E7,List.take_length,CD,List.length_set,CF,Md.retire,he0,Md.BH,Md.A8,eq_true hend,Md.Y1,m0,s0,hf,k12];(first | done | rfl | (rw[e1 m0];rfl) | (rw[e2 s0];rfl) | (rw[e1 m0,e2 s0];rfl))
    by_cases k11:x.kind=11
    ·simp only[eG,go_sem,Z2 S,Z1 S,zN0,zN1,zN2,zN3,zN4,zI0,zI1,zI2,zI3,reduceCtorEq,DF S,QN S,hcan,Bool.not_true,Bool.not_false,w0,Zv S,hxx,Ev S,hl,ZB,ZC,ZD,ZE,YE,Zq,EB,n1,n2,n3,n4,n5,n6,ne_eq,not_false_eq_true,not_true_eq_false,Nat.zero_add,Nat.add_zero,Nat.zero_mul,YJ,Ek,Ej,Nat.le_refl,Option.bind_some,Option.map_some,Option.map_none,E6,E1,E7,List.take_length,CD,List.length_set,CF,Md.retire,he0,Md.BH,Md.A8,eq_true hend,Md.Y1,m0,s0,hf,k11];(first | done | rfl | (rw[e1 m0];rfl) | (rw[e2 s0];rfl) | (rw[e1 m0,e2 s0];rfl))
    by_cases k1:x.kind=1
    ·simp only[eG,go_sem,Z2 S,Z1 S,zN0,zN1,zN2,zN3,zN4,zI0,zI1,zI2,zI3,reduceCtorEq,DF S,QN S,hcan,Bool.not_true,Bool.not_false,w0,Zv S,hxx,Ev S,hl,ZB,ZC,ZD,ZE,YE,Zq,EB,n1,n2,n3,n4,n5,n6,ne_eq,not_false_eq_true,not_true_eq_false,Nat.zero_add,Nat.add_zero,Nat.zero_mul,YJ,Ek,Ej,Nat.le_refl,Option.bind_some,Option.map_some,Option.map_none,E6,E1,E7,List.take_length,CD,List.length_set,CF,Md.retire,he0,Md.BH,Md.A8,eq_true hend,Md.Y1,Int.cast_ofNat_Int,true_and,if_true,hand,d0,d1,hst,m0,s0,hf,k1];(first | done | rfl | (rw[e1 m0];rfl) | (rw[e2 s0];rfl) | (rw[e1 m0,e2 s0];rfl))
    by_cases k2:x.kind=2
    ·simp only[eG,go_sem,Z2 S,Z1 S,zN0,zN1,zN2,zN3,zN4,zI0,zI1,zI2,zI3,reduceCtorEq,DF S,QN S,hcan,Bool.not_true,Bool.not_false,w0,Zv S,hxx,Ev S,hl,ZB,ZC,ZD,ZE,YE,Zq,EB,n1,n2,n3,n4,n5,n6,ne_eq,not_false_eq_true,not_true_eq_false,Nat.zero_add,Nat.add_zero,Nat.zero_mul,YJ,Ek,Ej,Nat.le_refl,Option.bind_some,Option.map_some,Option.map_none,E6,E1,E7,List.take_length,CD,List.length_set,CF,Md.retire,he0,Md.BH,Md.A8,eq_true hend,Md.Y1,Int.cast_ofNat_Int,true_and,if_true,hand,d0,d1,hst,m0,s0,hf,k2];(first | done | rfl | (rw[e1 m0];rfl) | (rw[e2 s0];rfl) | (rw[e1 m0,e2 s0];rfl))
    by_cases k4:x.kind=4
    ·simp only[eG,go_sem,Z2 S,Z1 S,zN0,zN1,zN2,zN3,zN4,zI0,zI1,zI2,zI3,reduceCtorEq,DF S,QN S,hcan,Bool.not_true,Bool.not_false,w0,Zv S,hxx,Ev S,hl,ZB,ZC,ZD,ZE,YE,Zq,EB,n1,n2,n3,n4,n5,n6,ne_eq,not_false_eq_true,not_true_eq_false,Nat.zero_add,Nat.add_zero,Nat.zero_mul,YJ,Ek,Ej,Nat.le_refl,Option.bind_some,Option.map_some,Option.map_none,E6,E1,E7,List.take_length,CD,List.length_set,CF,Md.retire,he0,Md.BH,Md.A8,eq_true hend,Md.Y1,Int.cast_ofNat_Int,true_and,if_true,hand,d0,d1,hst,m0,s0,hf,k4];(first | done | rfl | (rw[e1 m0];rfl) | (rw[e2 s0];rfl) | (rw[e1 m0,e2 s0];rfl))
    by_cases k3:x.kind=3
    ·obtain ⟨a0, a1⟩ := hx k3 hf
     have a2:e.addr.toNat<c.state.mem.length:=by omega
     first
      | (exfalso;omega)
      | (simp only[eG,go_sem,Z2 S,Z1 S,zN0,zN1,zN2,zN3,zN4,zI0,zI1,zI2,zI3,reduceCtorEq,DF S,QN S,hcan,Bool.not_true,Bool.not_false,w0,Zv S,hxx,Ev S,hl,ZB,ZC,ZD,ZE,YE,Zq,EB,n1,n2,n3,n4,n5,n6,ne_eq,not_false_eq_true,not_true_eq_false,Nat.zero_add,Nat.add_zero,Nat.zero_mul,YJ,Ek,Ej,Nat.le_refl,Option.bind_some,Option.map_some,Option.map_none,E6,E1,E7,List.take_length,CD,List.length_set,CF,Md.retire,he0,Md.BH,Md.A8,eq_true hend,Md.Y1,m0,s0,hf,k3,a0,a1,Z92 a2,and_self];(first | done | rfl | (rw[e1 m0];rfl) | (rw[e2 s0];rfl) | (rw[e1 m0,e2 s0];rfl)))
    by_cases k8:x.kind=8
    ·simp only[eG,go_sem,Z2 S,Z1 S,zN0,zN1,zN2,zN3,zN4,zI0,zI1,zI2,zI3,reduceCtorEq,DF S,QN S,hcan,Bool.not_true,Bool.not_false,w0,Zv S,hxx,Ev S,hl,ZB,ZC,ZD,ZE,YE,Zq,EB,n1,n2,n3,n4,n5,n6,ne_eq,not_false_eq_true,not_true_eq_false,Nat.zero_add,Nat.add_zero,Nat.zero_mul,YJ,Ek,Ej,Nat.le_refl,Option.bind_some,Option.map_some,Option.map_none,E6,E1,E7,List.take_length,CD,List.length_set,CF,Md.retire,he0,Md.BH,Md.A8,eq_true hend,Md.Y1,m0,s0,hf,k8,Ze1,RK,show(1:Nat)*8<=Z4 by decide,show(8:Nat)<=Z4 by decide,show(1:Nat)<=Z4 by decide,show(1:Nat)*1<=1 by decide,Nat.lt_add_one,Nat.one_ne_zero,Nat.one_mul,show(0:Nat)<1 by decide,hdl,hdl2];(first | done | rfl | (rw[e1 m0];rfl) | (rw[e2 s0];rfl) | (rw[e1 m0,e2 s0];rfl))
    by_cases k9:x.kind=9
    ·have hne : c.state.stack.length ≠ 0 := fun h => hy k9 hf (List.length_eq_zero_iff.1 h)
     have wl:IntKind.i64.wrap ((c.state.stack.length:Int)-1)=((c.state.stack.length-1:Nat):Int):=by rw[YM (by omega) (by omega)];omega
     have bd:=MG c.state.stack.length .i64 ((c.state.stack.length-1:Nat):Int) (by omega) (by omega)
     have le1:c.state.stack.length-1<=c.state.stack.length:=by omega
     by_cases s1:c.state.stack.length-1=0
     ·have dl : c.state.stack.dropLast = [] := by rw [List.dropLast_eq_take, s1]; rfl
      have bd0:=bd
      rw[s1] at bd0
      first
       | (exfalso;omega)
       | (simp only[eG,go_sem,Z2 S,Z1 S,zN0,zN1,zN2,zN3,zN4,zI0,zI1,zI2,zI3,reduceCtorEq,DF S,QN S,hcan,Bool.not_true,Bool.not_false,w0,Zv S,hxx,Ev S,hl,ZB,ZC,ZD,ZE,YE,Zq,EB,n1,n2,n3,n4,n5,n6,ne_eq,not_false_eq_true,not_true_eq_false,Nat.zero_add,Nat.add_zero,Nat.zero_mul,YJ,Ek,Ej,Nat.le_refl,Option.bind_some,Option.map_some,Option.map_none,E6,E1,E7,List.take_length,CD,List.length_set,CF,Md.retire,he0,Md.BH,Md.A8,eq_true hend,Md.Y1,m0,s0,hf,k9,wl,bd0,Int.toNat_natCast,s1,dl,Nat.sub_zero,and_false];(first | done | rfl | (rw[e1 m0];rfl) | (rw[e2 s0];rfl) | (rw[e1 m0,e2 s0];rfl)))
     ·first
       | (exfalso;omega)
       | (simp only[eG,go_sem,Z2 S,Z1 S,zN0,zN1,zN2,zN3,zN4,zI0,zI1,zI2,zI3,reduceCtorEq,DF S,QN S,hcan,Bool.not_true,Bool.not_false,w0,Zv S,hxx,Ev S,hl,ZB,ZC,ZD,ZE,YE,Zq,EB,n1,n2,n3,n4,n5,n6,ne_eq,not_false_eq_true,not_true_eq_false,Nat.zero_add,Nat.add_zero,Nat.zero_mul,YJ,Ek,Ej,Nat.le_refl,Option.bind_some,Option.map_some,Option.map_none,E6,E1,E7,List.take_length,CD,List.length_set,CF,Md.retire,he0,Md.BH,Md.A8,eq_true hend,Md.Y1,m0,s0,hf,k9,wl,bd,Int.toNat_natCast,s1,le1,List.dropLast_eq_take,Nat.sub_zero,and_false];(first | done | rfl | (rw[e1 m0];rfl) | (rw[e2 s0];rfl) | (rw[e1 m0,e2 s0];rfl)))
    simp only[eG,go_sem,Z2 S,Z1 S,zN0,zN1,zN2,zN3,zN4,zI0,zI1,zI2,zI3,reduceCtorEq,DF S,QN S,hcan,Bool.not_true,Bool.not_false,w0,Zv S,hxx,Ev S,hl,ZB,ZC,ZD,ZE,YE,Zq,EB,n1,n2,n3,n4,n5,n6,ne_eq,not_false_eq_true,not_true_eq_false,Nat.zero_add,Nat.add_zero,Nat.zero_mul,YJ,Ek,Ej,Nat.le_refl,Option.bind_some,Option.map_some,Option.map_none,E6,E1,E7,List.take_length,CD,List.length_set,CF,Md.retire,he0,Md.BH,Md.A8,eq_true hend,Md.Y1,m0,s0,hf,k1,k2,k3,k4,k8,k9,k11,k12];(first | done | rfl | (rw[e1 m0];rfl) | (rw[e2 s0];rfl) | (rw[e1 m0,e2 s0];rfl))
end
end Go.Aug.Mc
