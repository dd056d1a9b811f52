import Derived.Test.YthnhboimcidhgaaGreatDoorMc54
import Derived.Test.YthnhboimcidhgaaGreatDoorMc6
import Derived.Test.YthnhboimcidhgaaGreatDoorMc34
import Derived.Test.YthnhboimcidhgaaGreatDoorMc10
import Derived.Test.YthnhboimcidhgaaGreatDoorMc2
import Derived.Test.YthnhboimcidhgaaGreatDoorMc24
namespace Go.Aug.Mc
open Go Go.Aug
set_option linter.unusedSimpArgs false
set_option linter.unusedVariables false
set_option maxHeartbeats 40000000
set_option maxRecDepth 200000
variable {E:Env} {fn:FuncId->Option (Env->cT->cT)}
section
variable (S:Sur E fn)
include S
theorem Zsq:E.lives 91 7=none:=off S 91 7 (by decide) rfl
theorem Zer (dp:Nat)(p:Prog)(c:Conf)(g:Int)(hi:p.ins.length<1073741824)(hb:c.buf.length<1073741823)(hm:c.state.mem.length<1073741824)(hs:c.state.stack.length<1073741824)(hr:c.rsb.length<1073741823):Zk E fn (dp+6) 91 [Zn p,Zv c,vi g] (.tup [Zv (Z67 p c g),vb (Md.canFetch p c g)]):=by
 unfold Zk
 show Zh (evC E fn (dp+5+1) 91 [.d (Zn p),.d (Zv c),.d (vi g)] [])=_
 rw[Z2,S.Zao,Z3,Zb8,Z6 _ _ _ _ _ _ _ _ rfl]
 have hb':c.buf.length<1073741824:=by omega
 have hr':c.rsb.length<1073741824:=by omega
 by_cases g0:g<0
 ·simp only[eG,go_sem,thq S,nbr S,Nat.reduceLT,Nat.reduceEqDiff,Nat.reduceAdd,Nat.reduceMul,Nat.reduceLeDiff,Int.reduceEq,Int.reduceLT,Int.reduceLE,Int.reduceNeg,reduceCtorEq,Zsq S,g0,Z67,Md.canFetch,show ¬0<=g by omega,Md.conf0]
 by_cases g1:g>=Md.guesses p c
 ·simp only[eG,go_sem,thq S,nbr S,Nat.reduceLT,Nat.reduceEqDiff,Nat.reduceAdd,Nat.reduceMul,Nat.reduceLeDiff,Int.reduceEq,Int.reduceLT,Int.reduceLE,Int.reduceNeg,reduceCtorEq,Zsq S,g0,g1,Z67,Md.canFetch,show ¬g<Md.guesses p c by omega,Md.conf0,Z4e S,hi]
 have hc:Md.canFetch p c g=true:=by simp[Md.canFetch];omega
 have hw:¬(c.buf.length:Int)>=p.window:=by
  have:¬Md.guesses p c<=0:=by omega
  intro h
  apply this
  unfold Md.guesses
  rw[if_pos (.inr (.inr h))]
  exact Int.le_refl 0
 unfold Z67
 rw[hc,cond_true]
 unfold Md.fetch
 have eg:=Zw6 S dp p c g hs hb' hr
 generalize (Md.entry p c g).1=e at eg ⊢
 generalize (Md.entry p c g).2=rb at eg ⊢
 have hp:Zng c.buf e p.window=c.buf++[e]:=by unfold Zng;rw[if_neg hw]
 simp only[Z22,Z5y,Z5u,Zu0,List.map_cons,List.map_nil,List.cons_append,List.nil_append,List.map_append] at eg
 simp only[eG,go_sem,thq S,nbr S,Nat.reduceLT,Nat.reduceEqDiff,Nat.reduceAdd,Nat.reduceMul,Nat.reduceLeDiff,Int.reduceEq,Int.reduceLT,Int.reduceLE,Int.reduceNeg,reduceCtorEq,Zsq S,Z2d,Z2b,Yh,Z9j,Yi,List.take_succ_cons,List.take_zero,Jd,Je,Zj,Z7,Zl,Option.map_some,J1,Z38,J2,Yx,Z0i,Yr,Qw,Yt,Z0p,J0,Zbd,Z0o,Z0m,Qx,Yu,Yv,Z0n,Y9,Qz,Yw,Z0h,List.drop_succ_cons,List.drop_zero,List.getD_cons_zero,List.getD_cons_succ,show Nat.ble 1 1=true from rfl,nbr S,g0,g1,Z4e S,hi,Z41 S,hm,hs,hb,hb',hr',eg,Zoa S,hp]
end
theorem ldG {L:List Ent}{k:Nat}{e:Ent}(he:L[k]? =some e):Jw false 1 (((rC L).map AV.d).drop (k*8))=some (.d (vi e.pc)):=by
 have hk:k<L.length:=(List.getElem?_eq_some_iff.1 he).1
 have:L.set k e=L:=by
  obtain⟨_,rfl⟩:=List.getElem?_eq_some_iff.1 he
  exact List.set_getElem_self hk
 have h:=ld0 (e:=e) hk
 rw[this] at h;exact h
theorem Y41 {l:List Ent}{k:Nat}{e:Ent}(he:l[k]? =some e)(i v:Nat)(A:List Blk)(n:Int):storeAt A i v (k*8+2) [.d (vi n)] 1 (some (.cells ((rC l).map .d) v false))=some (A.set i (.cells ((rC (l.set k { e with addr:=n })).map .d) v false)):=
 Zc7 (o:=2) (e':={ e with addr:=n }) [vi n] he rfl rfl rfl rfl (by show 2+1<=8;decide) 8 rfl _ rfl
theorem Y1p {p:Prog}{l:List Ent}{i addr:Int}(h:(Md.hazard p l i addr).2=true):(Md.hazAt l i:Int)<=(Md.hazard p l i addr).1:=(Zi4 p i addr _ _ h).1
variable {E:Env} {fn:FuncId->Option (Env->cT->cT)}
section
variable (S:Sur E fn)
include S
theorem Zp5:E.lives 82 7=none/\E.lives 82 21=none/\E.lives 82 29=none:=⟨off S 82 7 (by decide) rfl,off S 82 21 (by decide) rfl,off S 82 29 (by decide) rfl⟩
theorem Zn9 (dp:Nat)(p:Prog)(c:Conf)(i:Int)(hl:c.buf.length<1073741824)(hz:Md.canAddr p c i=true->(Md.entAt c.buf i).fault=false):Zk E fn (dp+6) 82 [Zn p,Zv c,vi i] (.tup [Zv (Z8a (c.state.mem.length:Int) p c i).1,rD (Z8a (c.state.mem.length:Int) p c i).2,vb (Md.canAddr p c i)]):=by
 unfold Zk
 show Zh (evC E fn (dp+5+1) 82 [.d (Zn p),.d (Zv c),.d (vi i)] [])=_
 rw[Z2,S.Zku,Z3,Zma,Z6 _ _ _ _ _ _ _ _ rfl]
 cases hcan:Md.canAddr p c i with
 | false=>simp only[eG,go_sem,thq S,nbr S,Nat.reduceLT,Nat.reduceEqDiff,Nat.reduceAdd,Nat.reduceMul,Nat.reduceLeDiff,Int.reduceEq,Int.reduceLT,Int.reduceLE,Int.reduceNeg,reduceCtorEq,Zp5 S,Z0c S,hl,hcan,Bool.not_false,Z8a,Md.conf0]
 | true=>
  have ho:=Zau hcan
  obtain⟨h0,he,h1⟩:=Z51 ho
  have hf:=hz hcan
  have hn:c.buf.length≠0:=by omega
  have hk:i.toNat<c.buf.length:=by omega
  have b1:c.buf.length*48<=Zf:=by unfold Zf;omega
  have b2:c.buf.length<=Zf:=by unfold Zf;omega
  have hx:Md.at_ p (Md.entAt c.buf i).pc=Md.insM p c i:=rfl
  have had:Md.mask p.w ((Md.valM p c i (Md.insM p c i).a).1+(Md.valM p c i (Md.insM p c i).b).1)=Md.addrOf p c i:=rfl
  generalize hxx:Md.insM p c i=x at *
  generalize hee:Md.entAt c.buf i=e at *
  have hset:c.buf.set i.toNat e=c.buf:=by
   obtain⟨hq,hw⟩:=List.getElem?_eq_some_iff.1 he
   rw[<-hw];exact List.set_getElem_self hq
  have hL0:∀ n b,c.buf.set i.toNat { e with addr:=n,known:=b }=c.buf.set i.toNat ⟨e.pc,e.val,n,e.frm,e.next,e.done,b,false⟩:=fun n b=>by rw[<-hf]
  by_cases hin:(c.state.mem.length:Int)<=Md.addrOf p c i
  ·simp only[eG,go_sem,thq S,nbr S,Nat.reduceLT,Nat.reduceEqDiff,Nat.reduceAdd,Nat.reduceMul,Nat.reduceLeDiff,Int.reduceEq,Int.reduceLT,Int.reduceLE,Int.reduceNeg,reduceCtorEq,Zp5 S,Nat.add_zero,Z0c S,hl,hcan,Bool.not_true,h0,h1,hn,Ye,b1,b2,ne_eq,not_false_eq_true,Jd,Je,Zj,Z7,J3,Zl,Nat.zero_add,Nat.zero_mul,Y41 he,wr6 hk,wr7 hk,ldG he,ld2 hk,cA7 S,hx,hk,Y6,Z09,Z0a,Z08,Zo,Z19,Jy,Qm,Jv,Z1d,List.take_length,Jc,List.length_set,Nat.le_refl,Option.bind_some,Option.map_some,Ya S,Y7 S,Md.mask_wrap,had,Z8a,Md.addrM,Md.addrK,Md.put,hee,ge_iff_le,hin]
  ·generalize hL : c.buf.set i.toNat ⟨e.pc, e.val, Md.addrOf p c i, e.frm, e.next, e.done, true, false⟩ = L
   have hLl:L.length=c.buf.length:=by rw[<-hL];exact List.length_set
   have hLl2:L.length<1073741824:=by omega
   have hld:Jw false 1 (((rC L).map AV.d).drop (i.toNat*8+2))=some (.d (vi (Md.addrOf p c i))):=by rw[<-hL];exact ld2 hk
   have hfold:DV.lst (rC L) c.buf.length none=rD L:=by unfold rD;rw[hLl]
   have hdl:c.buf.length*8<=((rC L).map AV.d).length:=Z19 _ (by omega)
   have htk:L.take c.buf.length=L:=List.take_of_length_le (by omega)
   cases hz2:(Md.hazard p L i (Md.addrOf p c i)).2 with
   | false=>simp only[eG,go_sem,thq S,nbr S,Nat.reduceLT,Nat.reduceEqDiff,Nat.reduceAdd,Nat.reduceMul,Nat.reduceLeDiff,Int.reduceEq,Int.reduceLT,Int.reduceLE,Int.reduceNeg,reduceCtorEq,Zp5 S,Nat.add_zero,Z0c S,hl,hcan,Bool.not_true,h0,h1,hn,Ye,b1,b2,ne_eq,not_false_eq_true,Jd,Je,Zj,Z7,J3,Zl,Nat.zero_add,Nat.zero_mul,Y41 he,wr6 hk,wr7 hk,ldG he,ld2 hk,cA7 S,hx,hk,Y6,Z09,Z0a,Z08,Zo,Z19,Jy,Qm,Jv,Z1d,List.take_length,Jc,List.length_set,Nat.le_refl,Option.bind_some,Option.map_some,Ya S,Y7 S,Md.mask_wrap,had,Z8a,Md.addrM,Md.addrK,Md.put,hee,ge_iff_le,hin,hf,hL,hld,hfold,hdl,htk,Zdv S,hLl2,hz2,Md.drop1,show i<4611686018427387904 by omega,show -4611686018427387904<i by omega];rfl
   | true=>
    obtain⟨z0,z1⟩:=Zxi hz2
    have z2:=Y1p hz2
    have z3:1<=Md.hazAt L i:=by unfold Md.hazAt;omega
    generalize hkk:(Md.hazard p L i (Md.addrOf p c i)).1=kk at *
    obtain⟨e2,he2⟩:=Yz (show kk.toNat<L.length by omega)
    have he3:Md.entAt L kk=e2:=by unfold Md.entAt;rw[he2];rfl
    have hk0:kk.toNat≠0:=by omega
    have hk1:kk<c.buf.length:=by omega
    have hk2:kk.toNat<=L.length:=by omega
    have bd:=Z2w c.buf.length .i64 kk z0 (by omega)
    simp only[eG,go_sem,thq S,nbr S,Nat.reduceLT,Nat.reduceEqDiff,Nat.reduceAdd,Nat.reduceMul,Nat.reduceLeDiff,Int.reduceEq,Int.reduceLT,Int.reduceLE,Int.reduceNeg,reduceCtorEq,Zp5 S,Nat.add_zero,Z0c S,hl,hcan,Bool.not_true,h0,h1,hn,Ye,b1,b2,ne_eq,not_false_eq_true,Jd,Je,Zj,Z7,J3,Zl,Nat.zero_add,Nat.zero_mul,Y41 he,wr6 hk,wr7 hk,ldG he,ld2 hk,cA7 S,hx,hk,Y6,Z09,Z0a,Z08,Zo,Z19,Jy,Qm,Jv,Z1d,List.take_length,Jc,List.length_set,Nat.le_refl,Option.bind_some,Option.map_some,Ya S,Y7 S,Md.mask_wrap,had,Z8a,Md.addrM,Md.addrK,Md.put,hee,ge_iff_le,hin,hf,hL,hld,hfold,hdl,htk,Zdv S,hLl2,hz2,hkk,Md.drop1,he3,ldG he2,z0,hk0,hk1,hk2,bd,Nat.sub_zero,not_true_eq_false,and_false,Option.map_none,show i<4611686018427387904 by omega,show -4611686018427387904<i by omega];rfl
end
open Nat renaming reduceLT -> zN0, reduceEqDiff -> zN1, reduceAdd -> zN2, reduceMul -> zN3, reduceLeDiff -> zN4
open Int renaming reduceEq -> zI0, reduceLT -> zI1, reduceLE -> zI2, reduceNeg -> zI3
def Za5 (N:Int)(p:Prog)(c:Conf)(d:Dir):Conf×List Obs:=bif Md.canSay N p c d then Md.say N p c d else(Md.conf0,[])
variable {E:Env} {fn:FuncId->Option (Env->cT->cT)}
section
variable (S:Sur E fn)
include S
theorem Zfk:E.lives 44 7=none/\E.lives 44 13=none/\E.lives 44 17=none/\E.lives 44 21=none:=⟨off S 44 7 (by decide) rfl,off S 44 13 (by decide) rfl,off S 44 17 (by decide) rfl,off S 44 21 (by decide) rfl⟩
theorem Zqs (dp:Nat)(p:Prog)(c:Conf)(d:Dir)(hi:p.ins.length<1073741824)(hl:c.buf.length<1073741823)(hm:c.state.mem.length<1073741824)(hs:c.state.stack.length<1073741823)(hr:c.rsb.length<1073741823)(hg:(Zd4 (Md.real p c.state.stack c.buf d.n)).length<1073741824)(hz:Md.can (c.state.mem.length:Int) p c d.n=true->(Md.insM p c d.n).kind=2->(Md.entAt c.buf d.n).val=0/\(Md.entAt c.buf d.n).frm= -1)(hz2:Md.canAddr p c d.n=true->(Md.entAt c.buf d.n).fault=false)(hd:0<=(Md.at_ p (Md.entAt c.buf 0).pc).d/\(Md.at_ p (Md.entAt c.buf 0).pc).d<=3)(hx:Md.canRetire p c=true->(Md.at_ p (Md.entAt c.buf 0).pc).kind=3->(Md.entAt c.buf 0).fault=false->0<=(Md.entAt c.buf 0).addr/\(Md.entAt c.buf 0).addr<c.state.mem.length)(hy:Md.canRetire p c=true->(Md.at_ p (Md.entAt c.buf 0).pc).kind=9->(Md.entAt c.buf 0).fault=false->c.state.stack≠[]):Zk E fn (dp+7) 44 [Zn p,Zv c,.agg (Cl.cells d)] (.tup [Zv (Za5 (c.state.mem.length:Int) p c d).1,rD (Za5 (c.state.mem.length:Int) p c d).2,vb (Md.canSay (c.state.mem.length:Int) p c d)]):=by
 unfold Zk
 show Zh (evC E fn (dp+6+1) 44 [.d (Zn p),.d (Zv c),.d (.agg (Cl.cells d))] [])=_
 rw[Z2,S.Zpk,Z3,Zq4,Z6 _ _ _ _ _ _ _ _ rfl]
 have hl':c.buf.length<1073741824:=by omega
 have hs':c.state.stack.length<1073741824:=by omega
 have hr':c.rsb.length<1073741824:=by omega
 have cF:=fun(A:List Blk) (nb:Nat)=>Zk.deep (Zjn S (dp+3) p c d.n hi hl hs' hr) (np S 80 (by decide)) A nb
 have cD:=fun(A:List Blk) (nb:Nat)=>Zk.deep (Zs6 S dp p c d.n hl' hs' hg hz) (np S 81 (by decide)) A nb
 have cA:=fun(A:List Blk) (nb:Nat)=>Zk.deep (Zn9 S dp p c d.n hl' hz2) (np S 82 (by decide)) A nb
 have cR:=fun(A:List Blk) (nb:Nat)=>Zk.deep (Zhj S (dp+2) p c hl' hm hs hd hx hy) (np S 83 (by decide)) A nb
 simp only[Zn,Yd,Zv,Z22] at cF cD cA cR
 by_cases k1:d.kind=1
 ·simp only [eG, go_sem, thq S, nbr S, zN0, zN1, zN2, zN3, zN4, zI0, zI1, zI2, zI3, reduceCtorEq, Zfk S, k1, cF, Za5, Md.canSay, Md.say, Z67]
  cases hc:Md.canFetch p c d.n<;>simp only[cond_true,cond_false]<;>rfl
 by_cases k2:d.kind=2
 ·simp only[eG,go_sem,thq S,nbr S,zN0,zN1,zN2,zN3,zN4,zI0,zI1,zI2,zI3,reduceCtorEq,Zfk S,k1,k2,cD,Za5,doC,Md.canSay,Md.say]
 by_cases k3:d.kind=3
 ·simp only[eG,go_sem,thq S,nbr S,zN0,zN1,zN2,zN3,zN4,zI0,zI1,zI2,zI3,reduceCtorEq,Zfk S,k1,k2,k3,cA,Za5,Z8a,Md.canSay,Md.say]
 by_cases k4:d.kind=4
 ·by_cases n0 : d.n = 0
  ·simp only [eG, go_sem, thq S, nbr S, zN0, zN1, zN2, zN3, zN4, zI0, zI1, zI2, zI3, reduceCtorEq, Zfk S, k1, k2, k3, k4, n0, cR, Za5, Z6s, Md.canSay, Md.say]
   cases hc:Md.canRetire p c<;>simp only[cond_true,cond_false]<;>rfl
  ·simp only[eG,go_sem,thq S,nbr S,zN0,zN1,zN2,zN3,zN4,zI0,zI1,zI2,zI3,reduceCtorEq,Zfk S,k1,k2,k3,k4,n0,Za5,Md.canSay,Md.conf0]
 ·simp only[eG,go_sem,thq S,nbr S,zN0,zN1,zN2,zN3,zN4,zI0,zI1,zI2,zI3,reduceCtorEq,Zfk S,k1,k2,k3,k4,Za5,Md.canSay,Md.conf0]
theorem Zwh (dp:Nat)(p_w p_wn p_fu p_r0 p_r1 p_r2 p_r3:Int)(p_ms:List MemT)(p_ls:List Label)(p_is:List Ins)(c_r0 c_r1 c_r2 c_r3:Int)(c_mm c_st:List Int)(c_pc:Int)(c_bf:List Ent)(c_rb:List Int)(c_en d_k d_n:Int)(hi:(⟨p_w,p_wn,p_fu,⟨p_r0,p_r1,p_r2,p_r3⟩,p_ms,p_ls,p_is⟩:Prog).ins.length<1073741824)(hl:(⟨⟨⟨c_r0,c_r1,c_r2,c_r3⟩,c_mm,c_st,c_pc⟩,c_bf,c_rb,c_en⟩:Conf).buf.length<1073741823)(hm:(⟨⟨⟨c_r0,c_r1,c_r2,c_r3⟩,c_mm,c_st,c_pc⟩,c_bf,c_rb,c_en⟩:Conf).state.mem.length<1073741824)(hs:(⟨⟨⟨c_r0,c_r1,c_r2,c_r3⟩,c_mm,c_st,c_pc⟩,c_bf,c_rb,c_en⟩:Conf).state.stack.length<1073741823)(hr:(⟨⟨⟨c_r0,c_r1,c_r2,c_r3⟩,c_mm,c_st,c_pc⟩,c_bf,c_rb,c_en⟩:Conf).rsb.length<1073741823)(hg:(Zd4 (Md.real (⟨p_w,p_wn,p_fu,⟨p_r0,p_r1,p_r2,p_r3⟩,p_ms,p_ls,p_is⟩:Prog) (⟨⟨⟨c_r0,c_r1,c_r2,c_r3⟩,c_mm,c_st,c_pc⟩,c_bf,c_rb,c_en⟩:Conf).state.stack (⟨⟨⟨c_r0,c_r1,c_r2,c_r3⟩,c_mm,c_st,c_pc⟩,c_bf,c_rb,c_en⟩:Conf).buf (⟨d_k,d_n⟩:Dir).n)).length<1073741824)(hz:Md.can ((⟨⟨⟨c_r0,c_r1,c_r2,c_r3⟩,c_mm,c_st,c_pc⟩,c_bf,c_rb,c_en⟩:Conf).state.mem.length:Int) (⟨p_w,p_wn,p_fu,⟨p_r0,p_r1,p_r2,p_r3⟩,p_ms,p_ls,p_is⟩:Prog) (⟨⟨⟨c_r0,c_r1,c_r2,c_r3⟩,c_mm,c_st,c_pc⟩,c_bf,c_rb,c_en⟩:Conf) (⟨d_k,d_n⟩:Dir).n=true->(Md.insM (⟨p_w,p_wn,p_fu,⟨p_r0,p_r1,p_r2,p_r3⟩,p_ms,p_ls,p_is⟩:Prog) (⟨⟨⟨c_r0,c_r1,c_r2,c_r3⟩,c_mm,c_st,c_pc⟩,c_bf,c_rb,c_en⟩:Conf) (⟨d_k,d_n⟩:Dir).n).kind=2->(Md.entAt (⟨⟨⟨c_r0,c_r1,c_r2,c_r3⟩,c_mm,c_st,c_pc⟩,c_bf,c_rb,c_en⟩:Conf).buf (⟨d_k,d_n⟩:Dir).n).val=0/\(Md.entAt (⟨⟨⟨c_r0,c_r1,c_r2,c_r3⟩,c_mm,c_st,c_pc⟩,c_bf,c_rb,c_en⟩:Conf).buf (⟨d_k,d_n⟩:Dir).n).frm= -1)(hz2:Md.canAddr (⟨p_w,p_wn,p_fu,⟨p_r0,p_r1,p_r2,p_r3⟩,p_ms,p_ls,p_is⟩:Prog) (⟨⟨⟨c_r0,c_r1,c_r2,c_r3⟩,c_mm,c_st,c_pc⟩,c_bf,c_rb,c_en⟩:Conf) (⟨d_k,d_n⟩:Dir).n=true->(Md.entAt (⟨⟨⟨c_r0,c_r1,c_r2,c_r3⟩,c_mm,c_st,c_pc⟩,c_bf,c_rb,c_en⟩:Conf).buf (⟨d_k,d_n⟩:Dir).n).fault=false)(hd:0<=(Md.at_ (⟨p_w,p_wn,p_fu,⟨p_r0,p_r1,p_r2,p_r3⟩,p_ms,p_ls,p_is⟩:Prog) (Md.entAt (⟨⟨⟨c_r0,c_r1,c_r2,c_r3⟩,c_mm,c_st,c_pc⟩,c_bf,c_rb,c_en⟩:Conf).buf 0).pc).d/\(Md.at_ (⟨p_w,p_wn,p_fu,⟨p_r0,p_r1,p_r2,p_r3⟩,p_ms,p_ls,p_is⟩:Prog) (Md.entAt (⟨⟨⟨c_r0,c_r1,c_r2,c_r3⟩,c_mm,c_st,c_pc⟩,c_bf,c_rb,c_en⟩:Conf).buf 0).pc).d<=3)(hx:Md.canRetire (⟨p_w,p_wn,p_fu,⟨p_r0,p_r1,p_r2,p_r3⟩,p_ms,p_ls,p_is⟩:Prog) (⟨⟨⟨c_r0,c_r1,c_r2,c_r3⟩,c_mm,c_st,c_pc⟩,c_bf,c_rb,c_en⟩:Conf)=true->(Md.at_ (⟨p_w,p_wn,p_fu,⟨p_r0,p_r1,p_r2,p_r3⟩,p_ms,p_ls,p_is⟩:Prog) (Md.entAt (⟨⟨⟨c_r0,c_r1,c_r2,c_r3⟩,c_mm,c_st,c_pc⟩,c_bf,c_rb,c_en⟩:Conf).buf 0).pc).kind=3->(Md.entAt (⟨⟨⟨c_r0,c_r1,c_r2,c_r3⟩,c_mm,c_st,c_pc⟩,c_bf,c_rb,c_en⟩:Conf).buf 0).fault=false->0<=(Md.entAt (⟨⟨⟨c_r0,c_r1,c_r2,c_r3⟩,c_mm,c_st,c_pc⟩,c_bf,c_rb,c_en⟩:Conf).buf 0).addr/\(Md.entAt (⟨⟨⟨c_r0,c_r1,c_r2,c_r3⟩,c_mm,c_st,c_pc⟩,c_bf,c_rb,c_en⟩:Conf).buf 0).addr<(⟨⟨⟨c_r0,c_r1,c_r2,c_r3⟩,c_mm,c_st,c_pc⟩,c_bf,c_rb,c_en⟩:Conf).state.mem.length)(hy:Md.canRetire (⟨p_w,p_wn,p_fu,⟨p_r0,p_r1,p_r2,p_r3⟩,p_ms,p_ls,p_is⟩:Prog) (⟨⟨⟨c_r0,c_r1,c_r2,c_r3⟩,c_mm,c_st,c_pc⟩,c_bf,c_rb,c_en⟩:Conf)=true->(Md.at_ (⟨p_w,p_wn,p_fu,⟨p_r0,p_r1,p_r2,p_r3⟩,p_ms,p_ls,p_is⟩:Prog) (Md.entAt (⟨⟨⟨c_r0,c_r1,c_r2,c_r3⟩,c_mm,c_st,c_pc⟩,c_bf,c_rb,c_en⟩:Conf).buf 0).pc).kind=9->(Md.entAt (⟨⟨⟨c_r0,c_r1,c_r2,c_r3⟩,c_mm,c_st,c_pc⟩,c_bf,c_rb,c_en⟩:Conf).buf 0).fault=false->(⟨⟨⟨c_r0,c_r1,c_r2,c_r3⟩,c_mm,c_st,c_pc⟩,c_bf,c_rb,c_en⟩:Conf).state.stack≠[])(A:List Blk)(nb:Nat):Zb false E (evC E fn (dp+7)) 44 A nb (some ([.agg [vi p_w,vi p_wn,vi p_fu,vi p_r0,vi p_r1,vi p_r2,vi p_r3,rD p_ms,rD p_ls,rD p_is],.agg [vi c_r0,vi c_r1,vi c_r2,vi c_r3,rD c_mm,rD c_st,vi c_pc,rD c_bf,rD c_rb,vi c_en],.agg [vi d_k,vi d_n]],[]))=some (.made (.d (.tup [Zv (Za5 ((⟨⟨⟨c_r0,c_r1,c_r2,c_r3⟩,c_mm,c_st,c_pc⟩,c_bf,c_rb,c_en⟩:Conf).state.mem.length:Int) (⟨p_w,p_wn,p_fu,⟨p_r0,p_r1,p_r2,p_r3⟩,p_ms,p_ls,p_is⟩:Prog) (⟨⟨⟨c_r0,c_r1,c_r2,c_r3⟩,c_mm,c_st,c_pc⟩,c_bf,c_rb,c_en⟩:Conf) (⟨d_k,d_n⟩:Dir)).1,rD (Za5 ((⟨⟨⟨c_r0,c_r1,c_r2,c_r3⟩,c_mm,c_st,c_pc⟩,c_bf,c_rb,c_en⟩:Conf).state.mem.length:Int) (⟨p_w,p_wn,p_fu,⟨p_r0,p_r1,p_r2,p_r3⟩,p_ms,p_ls,p_is⟩:Prog) (⟨⟨⟨c_r0,c_r1,c_r2,c_r3⟩,c_mm,c_st,c_pc⟩,c_bf,c_rb,c_en⟩:Conf) (⟨d_k,d_n⟩:Dir)).2,vb (Md.canSay ((⟨⟨⟨c_r0,c_r1,c_r2,c_r3⟩,c_mm,c_st,c_pc⟩,c_bf,c_rb,c_en⟩:Conf).state.mem.length:Int) (⟨p_w,p_wn,p_fu,⟨p_r0,p_r1,p_r2,p_r3⟩,p_ms,p_ls,p_is⟩:Prog) (⟨⟨⟨c_r0,c_r1,c_r2,c_r3⟩,c_mm,c_st,c_pc⟩,c_bf,c_rb,c_en⟩:Conf) (⟨d_k,d_n⟩:Dir))])) []):=
 Zk.deep (Zqs S dp (⟨p_w,p_wn,p_fu,⟨p_r0,p_r1,p_r2,p_r3⟩,p_ms,p_ls,p_is⟩:Prog) (⟨⟨⟨c_r0,c_r1,c_r2,c_r3⟩,c_mm,c_st,c_pc⟩,c_bf,c_rb,c_en⟩:Conf) (⟨d_k,d_n⟩:Dir) hi hl hm hs hr hg hz hz2 hd hx hy) (np S 44 (by decide)) A nb
end
theorem Zo5 {p:Prog}{c:Conf}{g:Int}(hl:c.buf.length<1073741823)(hm:c.state.mem.length<1073741824)(hs:c.state.stack.length<1073741824)(hr:c.rsb.length<1073741823):
  (Md.fetch p c g).state.mem.length<1073741824/\(Md.fetch p c g).state.stack.length<1073741824/\(Md.fetch p c g).buf.length<1073741824/\(Md.fetch p c g).rsb.length<1073741824:=by
 refine⟨hm,hs,?_,?_⟩
 ·show (c.buf ++ [(Md.entry p c g).1]).length < _
  rw[List.length_append,List.length_singleton];omega
 ·show (Md.entry p c g).2.length < _
  unfold Md.entry
  simp only
  split
  ·show c.rsb.length<_;omega
  split
  ·show c.rsb.length<_;omega
  split
  ·show c.rsb.length<_;omega
  split
  ·show (Md.push c.rsb _).length < _
   unfold Md.push
   rw[List.length_drop,List.length_append,List.length_singleton];omega
  split
  ·split
   ·show c.rsb.length<_;omega
   ·show c.rsb.dropLast.length < _
    rw[List.length_dropLast];omega
  split
  ·show c.rsb.length<_;omega
  ·show c.rsb.length<_;omega
variable {E:Env} {fn:FuncId->Option (Env->cT->cT)}
section
variable (S:Sur E fn)
include S
theorem Zjz:E.lives 46 7=none/\E.lives 46 13=none/\E.lives 46 17=none/\E.lives 46 21=none:=⟨off S 46 7 (by decide) rfl,off S 46 13 (by decide) rfl,off S 46 17 (by decide) rfl,off S 46 21 (by decide) rfl⟩
theorem Znf (dp:Nat)(p:Prog)(c:Conf)(d:Dir)(hi:p.ins.length<1073741824)(hp:p.mems.length<1073741824)(hl:c.buf.length<1073741823)(hm:c.state.mem.length<1073741824)(hs:c.state.stack.length<1073741823)(hr:c.rsb.length<1073741823)(hg:(Zd4 (Md.real p c.state.stack c.buf d.n)).length<1073741824)(hd:0<=(Md.at_ p (Md.entAt c.buf 0).pc).d/\(Md.at_ p (Md.entAt c.buf 0).pc).d<=3):Zk E fn (dp+11) 46 [Zn p,Zv c,.agg (Cl.cells d)] (.tup [Zv (Za5 (Z5 p.mems) p c d).1,rD (Za5 (Z5 p.mems) p c d).2,vb (Md.canSay (Z5 p.mems) p c d)]):=by
 unfold Zk
 show Zh (evC E fn (dp+10+1) 46 [.d (Zn p),.d (Zv c),.d (.agg (Cl.cells d))] [])=_
 rw[Z2,S.Zl1,Z3,Zmh,Z6 _ _ _ _ _ _ _ _ rfl]
 have hl':c.buf.length<1073741824:=by omega
 have hs':c.state.stack.length<1073741824:=by omega
 have hr':c.rsb.length<1073741824:=by omega
 cases hcan:Md.canSay (Z5 p.mems) p c d with
 | false=>simp only[eG,go_sem,thq S,nbr S,zN0,zN1,zN2,zN3,zN4,zI0,zI1,zI2,zI3,reduceCtorEq,Zjz S,Z4t S,hi,hp,hl',hcan,Bool.not_false,Za5,Md.conf0]
 | true=>
  have hsay:Za5 (Z5 p.mems) p c d=Md.say (Z5 p.mems) p c d:=by unfold Za5;rw[hcan];rfl
  rw[hsay]
  have cF:=fun(A:List Blk) (nb:Nat)=>Zk.deep (Zer S (dp+4) p c d.n hi hl hm hs' hr) (np S 91 (by decide)) A nb
  have cD:=fun(A:List Blk) (nb:Nat)=>Zk.deep (Zne S dp p c d.n hp hm hs' hl' hr' hg) (np S 88 (by decide)) A nb
  have cA:=fun(A:List Blk) (nb:Nat)=>Zk.deep (Zhn S (dp+2) p c d.n hp hm hs' hl' hr') (np S 89 (by decide)) A nb
  have cR:=fun(A:List Blk) (nb:Nat)=>Zk.deep (Zn0 S (dp+5) p c hl hm hs hr' hd) (np S 90 (by decide)) A nb
  have hdd:=hcan
  obtain⟨dk,dn⟩:=d
  simp only at cF cD cA cR hcan hg
  by_cases k1:dk=1
  ·subst k1
   have hc:Md.canFetch p c dn=true:=by simpa [Md.canSay] using hcan
   have hF:Z67 p c dn=Md.fetch p c dn:=by unfold Z67;rw[hc];rfl
   obtain⟨f1,f2,f3,f4⟩:=Zo5 (p:=p) (c:=c) (g:=dn) hl hm hs' hr
   rw[hF,hc] at cF
   have e1:Md.say (Z5 p.mems) p c ⟨1,dn⟩=(Md.fetch p c dn,[]):=rfl
   rw[e1]
   generalize Md.fetch p c dn=X at *
   simp only[Zn,Yd,Zv,Z22,Z5y,Z5u,List.cons_append,List.nil_append] at cF
   simp only[eG,go_sem,thq S,nbr S,zN0,zN1,zN2,zN3,zN4,zI0,zI1,zI2,zI3,reduceCtorEq,Zjz S,Z4t S,hi,hp,hl',hcan,Bool.not_true,cF,Z41 S,f1,f2,f3,f4]
  by_cases k2:dk=2
  ·subst k2
   have hc:Md.can (Z5 p.mems) p c dn=true:=by simpa [Md.canSay] using hcan
   have hF:doC (Z5 p.mems) p c dn=Md.doM (Z5 p.mems) p c dn:=by unfold doC;rw[hc];rfl
   rw[hF,hc] at cD
   have e1:Md.say (Z5 p.mems) p c ⟨2,dn⟩=Md.doM (Z5 p.mems) p c dn:=rfl
   rw[e1]
   generalize Md.doM (Z5 p.mems) p c dn=X at *
   simp only[Zn,Yd,Zv,Z22,Z5y,Z5u,List.cons_append,List.nil_append] at cD
   simp only[eG,go_sem,thq S,nbr S,zN0,zN1,zN2,zN3,zN4,zI0,zI1,zI2,zI3,reduceCtorEq,Zjz S,Z4t S,hi,hp,hl',hcan,Bool.not_true,cD]
  by_cases k3:dk=3
  ·subst k3
   have hc:Md.canAddr p c dn=true:=by simpa [Md.canSay] using hcan
   have hF:Z8a (Z5 p.mems) p c dn=Md.addrM (Z5 p.mems) p c dn:=by unfold Z8a;rw[hc];rfl
   rw[hF,hc] at cA
   have e1:Md.say (Z5 p.mems) p c ⟨3,dn⟩=Md.addrM (Z5 p.mems) p c dn:=rfl
   rw[e1]
   generalize Md.addrM (Z5 p.mems) p c dn=X at *
   simp only[Zn,Yd,Zv,Z22,Z5y,Z5u,List.cons_append,List.nil_append] at cA
   simp only[eG,go_sem,thq S,nbr S,zN0,zN1,zN2,zN3,zN4,zI0,zI1,zI2,zI3,reduceCtorEq,Zjz S,Z4t S,hi,hp,hl',hcan,Bool.not_true,cA]
  have h4:dk=4/\dn=0/\Md.canRetire p c=true:=by
   simp[Md.canSay,k1,k2,k3] at hcan
   exact⟨hcan.1.1,hcan.1.2,hcan.2⟩
  obtain⟨k4,n0,hc⟩:=h4
  subst k4
  have hF:Z6s p c=Md.retire p c:=by unfold Z6s;rw[hc];rfl
  rw[hF,hc] at cR
  have e1:Md.say (Z5 p.mems) p c ⟨4,dn⟩=(Md.retire p c,[]):=rfl
  rw[e1]
  generalize Md.retire p c=X at *
  simp only[Zn,Yd,Zv,Z22,Z5y,Z5u,List.cons_append,List.nil_append] at cR
  simp only[eG,go_sem,thq S,nbr S,zN0,zN1,zN2,zN3,zN4,zI0,zI1,zI2,zI3,reduceCtorEq,Zjz S,Z4t S,hi,hp,hl',hcan,Bool.not_true,cR]
end
theorem Ztv (k:K)(tm:List AV)(A:List Blk):Ztp [] k tm A=k tm A:=id rfl
variable {E:Env} {fn:FuncId->Option (Env->cT->cT)}
section
variable (S:Sur E fn)
include S
theorem Zab:E.lives 47 1=none/\E.lives 47 7=none/\E.lives 47 17=none:=⟨off S 47 1 (by decide) rfl,off S 47 7 (by decide) rfl,off S 47 17 (by decide) rfl⟩
theorem Zbk (dp:Nat)(a b:List Int)(hl:a.length<1073741824)(hab:a.length=b.length)(kx:Nat->K)(hx:∀ T,Zh (kx 0 (mk .bot 26 T) [])=some (vb true)):∀ m k f,k+m=a.length->m<=f->
  Zh (Jg (inn E 47) (evC E fn dp) (Zi 10 Jg (inn E 47) (evC E fn dp) kx (Z0u 0 [.tmp 4]) f) kx (Z0u 0 [.tmp 4]) (mk .bot 26 [(0,.d (rD a)),(1,.d (rD b)),(5,aI k)]) [])=
  some (vb (decide (a.drop k=b.drop k))):=by
 intro m
 induction m with
 | zero=>
  intro k f hk _
  obtain rfl:k=a.length:=by omega
  generalize Zi 10 Jg _ _ kx _ f=KK
  rw[Jg,show a.drop a.length=[] from List.drop_length,show b.drop a.length=[] by rw[hab];exact List.drop_length]
  simp only[eG,go_sem,thq S,nbr S,zN0,zN1,zN2,zN3,zN4,zI0,zI1,zI2,zI3,reduceCtorEq,Zab S,Int.lt_irrefl]
  exact hx _
 | succ m ih=>
  intro k f hk hf
  obtain⟨e,he⟩:=Yz (show k<a.length by omega)
  obtain⟨e',he'⟩:=Yz (show k<b.length by omega)
  obtain⟨f,rfl⟩:∃ g,f=g+1:=⟨f-1,by omega⟩
  generalize hK:Zi 10 Jg _ _ kx _ (f+1)=KK
  rw[Jg,Z02 he,Z02 he']
  by_cases h:e=e'
  ·subst h
   simp only[eG,go_sem,thq S,nbr S,zN0,zN1,zN2,zN3,zN4,zI0,zI1,zI2,zI3,reduceCtorEq,Zab S,show(k:Int)<a.length by omega,Q4 he,Q4 he',wi k (by omega),Ztv]
   rw[<-hK,Z1 (on S _ _ [0,1,5] (by decide) rfl) rfl _ _ _ _ _ _ _ _ _ rfl]
   simp only[eG,go_sem,thq S,nbr S,zN0,zN1,zN2,zN3,zN4,zI0,zI1,zI2,zI3,reduceCtorEq,Zab S]
   have:=ih (k+1) f (by omega) (by omega)
   simp only[List.cons.injEq,true_and]
   exact this
  ·simp only [eG, go_sem, thq S, nbr S, zN0, zN1, zN2, zN3, zN4, zI0, zI1, zI2, zI3, reduceCtorEq, Zab S, show (k : Int) < a.length by omega, Q4 he, Q4 he', wi k (by omega), Ztv, eq_false h]
   simp[h]
theorem Zch (dp:Nat)(a b:List Int)(hl:a.length<1073741824):Zk E fn (dp+1) 47 [rD a,rD b] (vb (decide (a=b))):=by
 unfold Zk
 show Zh (evC E fn (dp+1) 47 [.d (rD a),.d (rD b)] [])=_
 rw[Z2,S.Z91,Z3,Z9h,Z6 _ _ _ _ _ _ _ _ rfl]
 by_cases hab:a.length=b.length
 ·simp only [eG, go_sem, thq S, nbr S, zN0, zN1, zN2, zN3, zN4, zI0, zI1, zI2, zI3, reduceCtorEq, Zab S, hab, not_true_eq_false]
  rw[Y2,Z1 (on S _ _ [0,1,5] (by decide) rfl) rfl _ _ _ _ _ _ _ _ _ rfl]
  simp only[eG,go_sem,thq S,nbr S,zN0,zN1,zN2,zN3,zN4,zI0,zI1,zI2,zI3,reduceCtorEq,Zab S]
  refine Zbk S dp a b hl hab _ ?_ a.length 0 _ (by omega) (by omega)
  intro T
  simp only[eG,go_sem,thq S,nbr S,zN0,zN1,zN2,zN3,zN4,zI0,zI1,zI2,zI3,reduceCtorEq,Zab S]
 ·have hne : ¬ a = b := fun e => hab (by rw [e])
  simp only[eG,go_sem,thq S,nbr S,zN0,zN1,zN2,zN3,zN4,zI0,zI1,zI2,zI3,reduceCtorEq,Zab S,show ¬((a.length:Int)=b.length) by omega,not_false_eq_true,eq_false hne]
theorem Zih (dp:Nat)(a b:List Int)(hl:a.length<1073741824)(A:List Blk)(nb:Nat)(us:List Nat):Zb false E (evC E fn (dp+1)) 47 A nb (some ([rD a,rD b],us))=some (.made (.d (vb (decide (a=b)))) []):=
 Zk.flat (Zch S dp a b hl) (np S 47 (by decide)) (rfl) A nb us
end
end Go.Aug.Mc
namespace Go.Aug.Md
open Go Go.Aug
theorem Zbr (a:Int)(k:Nat)(hk:k<=62):∃ r:Nat,r<2^k/\iand a ((2^k-1:Nat):Int)=r:=by
 obtain⟨r,h1,h2⟩:=Zt2 a k hk
 refine⟨r,h1,?_⟩
 have:Z94 .and .i64 a ((2^k-1:Nat):Int)=some (.int .i64 (iand a ((2^k-1:Nat):Int))):=rfl
 rw[this] at h2
 simpa using h2
theorem iand1 (a:Int):∃ r:Nat,r<2/\iand a 1=r:=Zbr a 1 (by decide)
theorem iand3 (a:Int):∃ r:Nat,r<4/\iand a 3=r:=Zbr a 2 (by decide)
theorem Zz2 (a:Int):∃ r:Nat,r<256/\iand a 255=r:=Zbr a 8 (by decide)
def kM (l:List Int)(i:Int):Int:=(l[i.toNat]?).getD i
def shi (x:Int)(n:Nat):Int:=x.fdiv (2^n)
def lowmod (x:Int)(n:Nat):Nat:=(iand x 255).toNat%n
theorem lowmod_eq (x:Int)(n:Nat):(iand x 255).tmod (n:Int)=(lowmod x n:Nat):=by
 obtain⟨r,_,h⟩:=Zz2 x
 rw[lowmod,h,Int.toNat_natCast,<-Int.ofNat_tmod]
theorem lowmod_lt (x:Int){n:Nat}(h:0<n):lowmod x n<n:=Nat.mod_lt _ h
def v0:Val:=⟨false,0⟩
def valN (n:Int):Val:=if iand n 4=0 then⟨false,iand n 3⟩ else⟨true,iand n 3⟩
def k18:List Int:=[1,1,2,2,2,3,3,4,5,5,5,6,7,8,9,10,11,1]
def o4:List Int:=[9,10,3,2]
def insN (x:Int)(n:Nat):Ins:=
 let k:=k18.getD (lowmod x 18) 0
 let a:=valN (shi x 8)
 let b:=valN (shi x 11)
 let d:=iand (shi x 14) 3
 let t:Int:=lowmod (shi x 18) (n+1)
 if k=1 then⟨1,lowmod (shi x 16) 10+1,d,a,b,⟨#[]⟩,0⟩
 else if k=2∨k=3∨k=4 then⟨k,0,d,a,b,⟨#[]⟩,0⟩
 else if k=5 then⟨5,o4.getD (iand (shi x 16) 3).toNat 0,0,a,b,⟨#[]⟩,t⟩
 else if k=6∨k=8 then⟨k,0,0,v0,v0,⟨#[]⟩,t⟩
 else if k=7 then⟨7,0,0,a,v0,⟨#[]⟩,0⟩
 else⟨k,0,0,v0,v0,⟨#[]⟩,0⟩
def r4:List Int:=[0,0,1,2]
def Y34 (l:List Int)(n:Nat):Int:=r4.getD (iand (shi (kM l 1) n) 3).toNat 0
abbrev w64' (x:Int):Int:=IntKind.i64.wrap x
def regStep (W pub sec r:Int):Int×Int×Int:=
 if r=1/\w64' (pub+W)<=2 then(r,w64' (pub+W),sec) else if r=2/\w64' (sec+W)<=2 then(r,pub,w64' (sec+W)) else(0,pub,sec)
def reg0 (l:List Int)(W:Int):=regStep W 0 0 (Y34 l 0)
def reg1 (l:List Int)(W:Int):=regStep W (reg0 l W).2.1 (reg0 l W).2.2 (Y34 l 2)
def reg2 (l:List Int)(W:Int):=regStep W (reg1 l W).2.1 (reg1 l W).2.2 (Y34 l 4)
def reg3 (l:List Int)(W:Int):=regStep W (reg2 l W).2.1 (reg2 l W).2.2 (Y34 l 6)
def mem1 (l:List Int)(W:Int):List MemT:=if 0<iand (shi (kM l 1) 8) 3 then[⟨⟨#[109]⟩,false,if W=1/\iand (shi (kM l 1) 10) 3=0 then 2 else 1⟩] else[]
def memsM (l:List Int)(W:Int):List MemT:=
 if 0<iand (shi (kM l 1) 12) 3/\w64' ((reg3 l W).2.2+W)<=3/\(mem1 l W=[]∨(mem1 l W).map MemT.n=[1]) then mem1 l W++[⟨⟨#[115]⟩,true,1⟩] else mem1 l W
def dig (n:Nat):ByteArray:=⟨#[(48+n).toUInt8]⟩
def labM (n:Nat):Label:=⟨⟨#[108,(48+n).toUInt8]⟩,n⟩
def nM (l:List Int):Nat:=(iand (shi (kM l 0) 12) 3).toNat+2
def widM (l:List Int):Int:=iand (kM l 0) 1+1
def make (l:List Int):Prog:=
 ⟨widM l, lowmod (shi (kM l 0) 1) 3 + 1, 6, ⟨(reg0 l (widM l)).1, (reg1 l (widM l)).1, (reg2 l (widM l)).1, (reg3 l (widM l)).1⟩,
  memsM l (widM l),(List.range (nM l+1)).map labM,(List.range (nM l)).map fun i:Nat=>insN (kM l (i+2)) (nM l)⟩
end Go.Aug.Md
