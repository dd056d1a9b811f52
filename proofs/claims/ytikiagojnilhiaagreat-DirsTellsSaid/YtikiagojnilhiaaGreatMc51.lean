import Derived.Test.YtikiagojnilhiaaGreatMc28
import Derived.Test.YtikiagojnilhiaaGreatMc11
import Derived.Test.YtikiagojnilhiaaGreatMc33
import Derived.Test.YtikiagojnilhiaaGreatMc15
import Derived.Test.YtikiagojnilhiaaGreatMc24
namespace Go.Aug.Mc
open Go Go.Aug
open Nat renaming reduceLT -> zN0, reduceEqDiff -> zN1, reduceAdd -> zN2, reduceMul -> zN3, reduceLeDiff -> zN4
open Int renaming reduceEq -> zI0, reduceLT -> zI1, reduceLE -> zI2, reduceNeg -> zI3
set_option linter.unusedSimpArgs false
set_option linter.unusedVariables false
set_option maxHeartbeats 40000000
theorem ldA {l:List Ent}{k:Nat}{e:Ent}(h:k<l.length):takeVar true 8 (((rowC (l.set k e)).map AV.d).drop (k*8))=some (.agg [.d (vi e.pc),.d (vi e.val),.d (vi e.addr),.d (vi e.frm),.d (vi e.next),.d (vb e.done),.d (vb e.known),.d (vb e.fault)]):=by
 have:=drop_set (e:=e) h 0 (by decide)
 rw[Nat.add_zero] at this;rw[this];rfl
theorem ld3 {l:List Ent}{k:Nat}{e:Ent}(h:k<l.length):takeVar false 1 (((rowC (l.set k e)).map AV.d).drop (k*8+3))=some (.d (vi e.frm)):=by rw[drop_set h 3 (by decide)];rfl
theorem set_self {l:List Ent}{k:Nat}{e:Ent}(h:l[k]? =some e):l.set k e=l:=by
 obtain⟨hi,rfl⟩:=List.getElem?_eq_some_iff.1 h
 exact List.set_getElem_self hi
variable {E:Env} {fn:FuncId->Option (Env->CallT->CallT)}
section
variable (S:Sur E fn)
include S
theorem o74_49:E.lives 74 1=none/\E.lives 74 7=none/\E.lives 74 19=none:=⟨off S 74 1 (by decide) rfl,off S 74 7 (by decide) rfl,off S 74 19 (by decide) rfl⟩
theorem pop_loop (dp:Nat)(l:List Ent)(n:Nat)(hn:n<1073741824)(kx:Nat->K)(P:Option (AV×List Blk)->Prop)(R:List Ent)
  (hx:∀ T,getS .bot T 0=.d (rowD l)->getS .bot T 2=.ref 0 0 0->getS .bot T 5=.sref 1 0 0 n 8 none->P (kx 0 (mk .bot 38 T) [.cells [zi,zi,zi,zi,zi,zb,zb,zb] 0 false,.cells ((rowC R).map .d) 0 false])):
  ∀(m k f:Nat) (L:List Ent),k+m=n->m<=f->L.length=n->L.take k++(L.drop k).map Md.popE=R->
  P (B12_robq_Pop (inn E 74) (evC E fn dp) (loopK 12 B12_robq_Pop (inn E 74) (evC E fn dp) kx (kEnd 0 [.cell 2 true 8,.tmp 3,.tmp 4]) f) kx (kEnd 0 [.cell 2 true 8,.tmp 3,.tmp 4]) (mk .bot 38 [(0,.d (rowD l)),(2,.ref 0 0 0),(5,.sref 1 0 0 n 8 none),(15,.sref 1 0 0 n 8 none),(16,aint n),(17,aint k)]) [.cells [zi,zi,zi,zi,zi,zb,zb,zb] 0 false,.cells ((rowC L).map .d) 0 false]):=by
 intro m
 induction m with
 | zero=>
  intro k f L hk _ hL hr
  rw[List.drop_of_length_le (by omega),List.take_of_length_le (by omega)] at hr
  have hr:L=R:=by simpa using hr
  subst hr
  generalize loopK 12 B12_robq_Pop _ _ kx _ f=KK
  first | (conv=>lhs;rw[B12_robq_Pop]) | rw[B12_robq_Pop]
  simp only[eG,go_sem,thq S,nbr S,zN0,zN1,zN2,zN3,zN4,zI0,zI1,zI2,zI3,reduceCtorEq,o74_49 S,show ¬(k:Int)<n by omega]
  exact hx _ rfl rfl rfl
 | succ m ih=>
  intro k f L hk hf hL hr
  have hkL:k<L.length:=by omega
  obtain⟨e,he⟩:=get_of hkL
  obtain⟨f,rfl⟩:∃ g,f=g+1:=⟨f-1,by omega⟩
  have hkg:(k:Int)<n:=by omega
  have h0:(0:Int)<=k:=by omega
  have hr':(L.set k (Md.popE e)).take (k+1)++((L.set k (Md.popE e)).drop (k+1)).map Md.popE=R:=by
   rw[<-hr,take_get (List.getElem?_set_self hkL),List.take_set_of_le (Nat.le_refl k),List.drop_set_of_lt (by omega),drop_get he,List.map_cons,List.append_assoc];rfl
  have next:=ih (k+1) f (L.set k (Md.popE e)) (by omega) (by omega) (by rw[List.length_set];exact hL) hr'
  generalize hK:loopK 12 B12_robq_Pop _ _ kx _ (f+1)=KK
  first | (conv=>lhs;rw[B12_robq_Pop]) | rw[B12_robq_Pop]
  rw[<-set_self he]
  by_cases h:0<=e.frm
  ·have hp : Md.popE e = { e with frm := Md.w64 (e.frm - 1) } := by unfold Md.popE; rw [if_pos h]
   rw[hp] at next
   simp only[eG,go_sem,thq S,nbr S,zN0,zN1,zN2,zN3,zN4,zI0,zI1,zI2,zI3,reduceCtorEq,o74_49 S,hkg,h0,ge_iff_le,h,ldA hkL,ld3 hkL,wr3 hkL,wi k (by omega),Int.toNat_natCast,Nat.zero_add]
   rw[<-hK,loop_in (on S _ _ [0,2,5,15,16,17] (by decide) rfl) rfl _ _ _ _ _ _ _ _ _ rfl]
   simp only[eG,go_sem,thq S,nbr S,zN0,zN1,zN2,zN3,zN4,zI0,zI1,zI2,zI3,reduceCtorEq,o74_49 S]
   exact next
  ·have hp : Md.popE e = e := by unfold Md.popE; rw [if_neg h]
   rw[hp] at next
   simp only[eG,go_sem,thq S,nbr S,zN0,zN1,zN2,zN3,zN4,zI0,zI1,zI2,zI3,reduceCtorEq,o74_49 S,hkg,h0,ge_iff_le,h,ldA hkL,wi k (by omega),Int.toNat_natCast,Nat.zero_add]
   rw[<-hK,loop_in (on S _ _ [0,2,5,15,16,17] (by decide) rfl) rfl _ _ _ _ _ _ _ _ _ rfl]
   simp only[eG,go_sem,thq S,nbr S,zN0,zN1,zN2,zN3,zN4,zI0,zI1,zI2,zI3,reduceCtorEq,o74_49 S]
   exact next
theorem raw_robq_Pop (dp:Nat)(l:List Ent)(hl:l.length<1073741823)(h0:0<l.length):Says E fn (dp+1) 74 [rowD l] (.tup [.agg (Cl.cells (Md.entAt l 0)),rowD (Md.popL l),vb true]):=by
 unfold Says
 show ansOf (evC E fn (dp+1) 74 [.d (rowD l)] [])=_
 rw[evC_succ,S.f_robq_Pop,apF_some,F_robq_Pop,mkF_run _ _ _ _ _ _ _ _ rfl]
 obtain⟨e,he⟩:=get_of h0
 have he0:Md.entAt l 0=e:=by unfold Md.entAt;rw[show(0:Int).toNat=0 from rfl,he];rfl
 have w0:=w_ixI (l:=l) (i:=0) (by decide) he .i64 8 rfl
 have hdl:(l.drop 1).length=l.length-1:=List.length_drop
 have hd2:(l.drop 1).length<1073741824:=by omega
 have hne:(l.length:Int)≠0:=by omega
 have bd:=bndsV_lo l.length .i64 1 (by omega) (by omega)
 have h1:(1:Int).toNat=1:=rfl
 have n1:(l.drop 1).length*48<=limA:=by unfold limA;omega
 rw[he0]
 have htk:(l.drop 1).take (l.length-1)=l.drop 1:=List.take_of_length_le (by omega)
 by_cases hz:(l.drop 1).length=0
 ·have hz1 : l.drop 1 = [] := List.length_eq_zero_iff.1 hz
  have hpop:Md.popL l=[]:=by unfold Md.popL;rw[hz1];rfl
  have oa:∀ i,ownA i (l.drop 1)=.d (.lst [] 0 (some 0)):=fun i=>by rw[hz1];rfl
  have ob:ownB (l.drop 1)=[]:=by rw[hz1];rfl
  rw[hpop]
  simp only[eG,go_sem,thq S,nbr S,zN0,zN1,zN2,zN3,zN4,zI0,zI1,zI2,zI3,reduceCtorEq,o74_49 S,htk,hne,bd,h1,w0,o_cloneE S hd2,Nat.zero_add,Nat.one_mul,Nat.zero_mul,Bool.not_true,Bool.not_false,List.drop_drop,oa,ob]
  rw[big_eq,loop_in (on S _ _ [0,2,5,15,16,17] (by decide) rfl) rfl _ _ _ _ _ _ _ _ _ rfl]
  simp only[eG,go_sem,thq S,nbr S,zN0,zN1,zN2,zN3,zN4,zI0,zI1,zI2,zI3,reduceCtorEq,o74_49 S]
  generalize loopK 12 B12_robq_Pop _ _ _ _ _=KK
  first | (conv=>lhs;rw[B12_robq_Pop]) | rw[B12_robq_Pop]
  simp only[eG,go_sem,thq S,nbr S,zN0,zN1,zN2,zN3,zN4,zI0,zI1,zI2,zI3,reduceCtorEq,o74_49 S,w0,show ¬(0:Int)<((0:Nat):Int) by decide]
 ·simp only [eG, go_sem, thq S, nbr S, zN0, zN1, zN2, zN3, zN4, zI0, zI1, zI2, zI3, reduceCtorEq, o74_49 S, htk, hne, bd, h1, w0, o_cloneE S hd2, Nat.zero_add, Nat.one_mul, Nat.zero_mul, Bool.not_true, Bool.not_false, List.drop_drop, ownA_ne hz, ownB_ne hz]
  rw[big_eq,loop_in (on S _ _ [0,2,5,15,16,17] (by decide) rfl) rfl _ _ _ _ _ _ _ _ _ rfl]
  simp only[eG,go_sem,thq S,nbr S,zN0,zN1,zN2,zN3,zN4,zI0,zI1,zI2,zI3,reduceCtorEq,o74_49 S]
  have go:=fun(kx:Nat->K) (P:Option (AV×List Blk)->Prop) hx=>pop_loop S dp l (l.drop 1).length hd2 kx P (Md.popL l) hx (l.drop 1).length 0 999999999999999999999999999999 (l.drop 1) (by omega) (by omega) rfl (by rw[List.take_zero];rfl)
  simp only[Int.cast_ofNat_Int] at go
  refine go _ (fun r=>ansOf r=_) ?_
  intro T t0 t2 t5
  have hpl:(Md.popL l).length=(l.drop 1).length:=by unfold Md.popL;rw[List.length_map]
  have hd:deep [.cells ((rowC (Md.popL l)).map .d) 0 false] 7 (.sref 0 0 0 (l.drop 1).length 8 none)=some (.lst (rowC (Md.popL l)) (Md.popL l).length none,[0]):=deep_alone (Md.popL l) (fun h=>hz (by rw[<-hpl,h];rfl)) _ hpl.symm 5 8 none rfl
  simp only[eG,go_sem,thq S,nbr S,zN0,zN1,zN2,zN3,zN4,zI0,zI1,zI2,zI3,reduceCtorEq,o74_49 S,htk,hne,bd,h1,w0,o_cloneE S hd2,Nat.zero_add,Nat.one_mul,Nat.zero_mul,Bool.not_true,Bool.not_false,List.drop_drop,t0,t2,t5,hd]
  rfl
theorem c_robq_Pop (dp:Nat)(l:List Ent)(hl:l.length<1073741823)(h0:0<l.length)(A:List Blk)(nb:Nat):evOwnK false E (evC E fn (dp+1)) 74 A nb (some ([rowD l],[]))=some (.made (.d (.tup [.agg (Cl.cells (Md.entAt l 0)),rowD (Md.popL l),vb true])) []):=
 Says.deep (raw_robq_Pop S dp l hl h0) (np S 74 (by decide)) A nb
end
set_option maxRecDepth 200000
theorem run80 (rs:List IRes)(c:CT)(E:Env)(call:CallT)(f:FuncId)(x y z:AV)(A:List Blk):mkF 80 rs c E call f [x,y,z] A=c { E with live:=E.lives f,nb0:=A.length } call (kEnd A.length rs) (fun _ _ _=>none) (kEnd A.length rs) (mk aundef 80 (numb 0 [x,y,z])) A:=mkF_run _ _ _ _ _ _ _ _ rfl
variable {E:Env} {fn:FuncId->Option (Env->CallT->CallT)}
section
variable (S:Sur E fn)
include S
theorem o37_50:E.lives 37 7=none/\E.lives 37 21=none:=⟨off S 37 7 (by decide) rfl,off S 37 21 (by decide) rfl⟩
theorem o_conf_Still (dp:Nat)(r0 r1 r2 r3:Int)(mm sk:List Int)(pc:Int)(bf:List Ent)(rb:List Int)(en:Int)(hm:mm.length<1073741824)(hs:sk.length<1073741824)(hb:bf.length<1073741824)(hr:rb.length<1073741824)(A:List Blk)(nb:Nat):
  evOwnK true E (evC E fn (dp+2)) 39 A nb (some ([.agg [vi r0,vi r1,vi r2,vi r3,rowD mm,rowD sk,vi pc,rowD bf,rowD rb,vi en]],[]))=some (.made (.agg [aint r0,aint r1,aint r2,aint r3,ownA nb mm,ownA (nb+(ownB mm).length) sk,aint pc,.d (rowD bf),.d (rowD rb),aint en]) (ownB mm++ownB sk)):=by
 have h:=own_conf S dp r0 r1 r2 r3 mm sk pc bf rb en hm hs hb hr
 have hr:evRaw E (evC E fn (dp+2)) 39 [.agg [vi r0,vi r1,vi r2,vi r3,rowD mm,rowD sk,vi pc,rowD bf,rowD rb,vi en]]=some (.agg [aint r0,aint r1,aint r2,aint r3,ownA 0 mm,ownA (ownB mm).length sk,aint pc,.d (rowD bf),.d (rowD rb),aint en],ownB mm++ownB sk):=by
  unfold evRaw
  rw[np S 39 (by decide)]
  exact h
 simp only[evOwnK,hr,evAnsB,cond_true]
 by_cases h1:mm.length=0<;>by_cases h2:sk.length=0
 ·have e1 : mm = [] := List.length_eq_zero_iff.1 h1
  have e2:sk=[]:=List.length_eq_zero_iff.1 h2
  subst e1 e2
  rfl
 ·have e1 : mm = [] := List.length_eq_zero_iff.1 h1
  subst e1
  simp[ownA_nil,ownB_nil,ownA_ne h2,ownB_ne h2,thaw,mapT,thawed,isEmptyL,memN,Cl.n]
 ·have e2 : sk = [] := List.length_eq_zero_iff.1 h2
  subst e2
  simp[ownA_nil,ownB_nil,ownA_ne h1,ownB_ne h1,thaw,mapT,thawed,isEmptyL,memN,Cl.n]
 ·simp[ownA_ne h1,ownB_ne h1,ownA_ne h2,ownB_ne h2,thaw,mapT,thawed,isEmptyL,memN,Cl.n]
theorem raw_reti_Do (dp:Nat)(p:Prog)(c:Conf)(hl:c.buf.length<1073741823)(hm:c.state.mem.length<1073741824)(hs:c.state.stack.length<1073741823)(hr:c.rsb.length<1073741824)(hd:0<=(Md.at_ p (Md.entAt c.buf 0).pc).d/\(Md.at_ p (Md.entAt c.buf 0).pc).d<=3):Says E fn (dp+5) 37 [progD p,confD c] (.tup [confD (retC p c),vb (Md.canRetire p c)]):=by
 unfold Says
 show ansOf (evC E fn (dp+4+1) 37 [.d (progD p),.d (confD c)] [])=_
 rw[evC_succ,S.f_reti_Do,apF_some,F_reti_Do,mkF_run _ _ _ _ _ _ _ _ rfl]
 cases hcan:Md.canRetire p c with
 | false=>simp only[eG,go_sem,thq S,nbr S,zN0,zN1,zN2,zN3,zN4,zI0,zI1,zI2,zI3,reduceCtorEq,o37_50 S,c_reti_Can S,hcan,Bool.not_false,retC,Md.conf0]
 | true=>
  obtain⟨e,he,he0,hend⟩:=retire_some hcan
  have hl1:c.buf.length<1073741824:=by omega
  have hs1:c.state.stack.length<1073741824:=by omega
  have hlen:0<c.buf.length:=(List.getElem?_eq_some_iff.1 he).1
  rw[he0] at hd
  generalize hxx:Md.at_ p e.pc=x at *
  have run:=fun a b d A=>(show evC E fn (dp+4) 76 [a,b,d] A=F_reti_commit E (evC E fn (dp+3)) 76 [a,b,d] A by rw[evC_succ,S.f_reti_commit,apF_some])
  have e1:c.state.mem.length=0->c.state.mem=[]:=List.length_eq_zero_iff.1
  have e2:c.state.stack.length=0->c.state.stack=[]:=List.length_eq_zero_iff.1
  have d4:x.d=0∨x.d=1∨x.d=2∨x.d=3:=by omega
  have d0:=hd.1
  have d1:x.d<4:=by omega
  have hst:∀(A:List Blk) (m s q b r n:AV),storeAt A 0 0 (x.d.toNat*1) [.d (vi e.val)] 1 (some (.cells [.d (vi c.state.regs.r0),.d (vi c.state.regs.r1),.d (vi c.state.regs.r2),.d (vi c.state.regs.r3),m,s,q,b,r,n] 0 false))=some (A.set 0 (.cells [.d (vi (Md.setR c.state.regs x.d e.val).r0),.d (vi (Md.setR c.state.regs x.d e.val).r1),.d (vi (Md.setR c.state.regs x.d e.val).r2),.d (vi (Md.setR c.state.regs x.d e.val).r3),m,s,q,b,r,n] 0 false)):=fun A m s q b r n=>by
   rcases d4 with d | d | d | d<;>rw[d]<;>rfl
  have n1:c.state.mem.length*8<=limA:=by unfold limA;omega
  have n2:c.state.mem.length<=limA:=by unfold limA;omega
  have n5:(c.state.stack.length+1)*8<=limA:=by unfold limA;omega
  have n6:c.state.stack.length+1<=limA:=by unfold limA;omega
  have hdl:∀ b,deep [b,.cells ((rowC (c.state.stack++[IntKind.i64.wrap (e.pc+1)])).map .d) 0 false] 6 (.sref 1 0 0 (c.state.stack.length+1) 1 none)=some (.lst (rowC (c.state.stack++[IntKind.i64.wrap (e.pc+1)])) (c.state.stack++[IntKind.i64.wrap (e.pc+1)]).length none,[1]):=fun b=>by
   rw[show c.state.stack.length+1=(c.state.stack++[IntKind.i64.wrap (e.pc+1)]).length by simp]
   exact deep_all rfl (by simp) 4 _ 1 none rfl rfl
  have cp0:∀(A:List Blk) (nb:Nat),evOwnK false E (evC E fn (dp+3)) 103 A nb (some ([.lst [] 0 none],[]))=some (.made (.d (.tup [vi 0,.lst [] 0 none,vb false])) []):=fun A nb=>c_retb_Pop S (dp+2) [] (by decide) A nb
  have cpF:c.state.stack.dropLast.length=0->∀(A:List Blk) (nb:Nat) (us:List Nat),evOwnK false E (evC E fn (dp+3)) 103 A nb (some ([rowD c.state.stack],us))=some (.made (.d (.tup [vi (Md.lastI c.state.stack),rowD c.state.stack.dropLast,vb (decide (c.state.stack.length≠0))])) []):=fun h A nb us=>
   Says.flat (raw_retb_Pop S (dp+2) c.state.stack hs1) (np S 103 (by decide)) (by rw[List.length_eq_zero_iff.1 h];rfl) A nb us
  have cpU:¬c.state.stack.dropLast.length=0->∀(A:List Blk) (nb ui:Nat) (us:List Nat),evOwnK false E (evC E fn (dp+3)) 103 A nb (some ([rowD c.state.stack],ui::us))=some (.turned (.d (.tup [vi (Md.lastI c.state.stack),rowD c.state.stack.dropLast,vb (decide (c.state.stack.length≠0))])) (setRo A (ui::us))):=fun h A nb ui us=>
   u_retb_Pop S (dp+2) c.state.stack hs1 (by
    cases hq:c.state.stack.dropLast with
    | nil=>rw[hq] at h;exact absurd rfl h
    | cons a l=>rfl) A nb ui us
  have hap1:(c.state.stack.length+1)*1<=(List.map AV.d (rowC (c.state.stack++[IntKind.i64.wrap (e.pc+1)]))).length:=dpI_len _ _ (by simp)
  have hap2:(c.state.stack++[IntKind.i64.wrap (e.pc+1)]).take (c.state.stack.length+1)=c.state.stack++[IntKind.i64.wrap (e.pc+1)]:=List.take_of_length_le (by simp)
  have hap3:DV.lst (rowC (c.state.stack++[IntKind.i64.wrap (e.pc+1)])) (c.state.stack.length+1) none=rowD (c.state.stack++[IntKind.i64.wrap (e.pc+1)]):=by unfold rowD;rw[List.length_append];rfl
  have hmem:(c.state.mem.length=0/\(∀ i,ownA i c.state.mem=.d (.lst [] 0 (some 0)))/\ownB c.state.mem=[])∨(¬c.state.mem.length=0/\(∀ i,ownA i c.state.mem=.sref i 0 0 c.state.mem.length 1 none)/\ownB c.state.mem=[.cells ((rowC c.state.mem).map .d) 0 false]):=by
   by_cases h:c.state.mem.length=0
   ·exact .inl ⟨h,own0A h,own0B h⟩
   ·exact .inr ⟨h,fun i=>ownA_ne h i,ownB_ne h⟩
  have hsk:(c.state.stack.length=0/\(∀ i,ownA i c.state.stack=.d (.lst [] 0 (some 0)))/\ownB c.state.stack=[])∨(¬c.state.stack.length=0/\(∀ i,ownA i c.state.stack=.sref i 0 0 c.state.stack.length 1 none)/\ownB c.state.stack=[.cells ((rowC c.state.stack).map .d) 0 false]):=by
   by_cases h:c.state.stack.length=0
   ·exact .inl ⟨h,own0A h,own0B h⟩
   ·exact .inr ⟨h,fun i=>ownA_ne h i,ownB_ne h⟩
  rcases hmem with⟨m0,mA,mB⟩ | ⟨m0,mA,mB⟩<;>rcases hsk with⟨s0,sA,sB⟩ | ⟨s0,sA,sB⟩
  all_goals
   generalize hB:(cQ (cOz [st 44 (oA (.t 3) 0),st 45 (oL (.t 6) true 8),st 46 (oL (.t 9) true 9),st 47 (oCall (.f 76) [(.t 44),(.t 45),(.t 46)])]) _:CT)=BB
   simp only[eG,go_sem,thq S,nbr S,zN0,zN1,zN2,zN3,zN4,zI0,zI1,zI2,zI3,reduceCtorEq,o37_50 S,c_reti_Can S,hcan,Bool.not_true,Bool.not_false,o_conf_Still S,hm,hs,hs1,hr,hl,hl1,hlen,c_robq_Pop S,he0,c_seqm_At S,hxx,c_reti_ended S,retC,Md.retire,Md.endedM,d_endD',d_neC,d_ne0,d_neR,eq_true hend,mA,mB,sA,sB,m0,s0]
   rw[<-hB]
   clear hB BB
   cases hf:e.fault with
   | true=>simp only[eG,go_sem,thq S,nbr S,zN0,zN1,zN2,zN3,zN4,zI0,zI1,zI2,zI3,reduceCtorEq,o37_50 S,c_reti_Can S,hcan,Bool.not_true,Bool.not_false,o_conf_Still S,hm,hs,hs1,hr,hl,hl1,hlen,c_robq_Pop S,he0,c_seqm_At S,hxx,c_reti_ended S,retC,Md.retire,Md.endedM,d_endD',d_neC,d_ne0,d_neR,eq_true hend,deep_sr,dpI_len,dpI_take,Nat.le_refl,Option.bind_some,Option.map_none,foldT,takeS,foldS,List.take_length,w_fold,List.length_set,nc1,app_endI,app_fresh0',n1,n2,n5,n6,ne_eq,not_false_eq_true,not_true_eq_false,Nat.zero_mul,Nat.one_mul,m0,s0,hf];((try rw[hend]);(first | done | rfl | (rw[e1 m0];rfl) | (rw[e2 s0];rfl) | (rw[e1 m0,e2 s0];rfl)))
   | false=>
    by_cases k12:x.kind=12
    ·simp only[eG,go_sem,thq S,nbr S,zN0,zN1,zN2,zN3,zN4,zI0,zI1,zI2,zI3,reduceCtorEq,o37_50 S,c_reti_Can S,hcan,Bool.not_true,Bool.not_false,o_conf_Still S,hm,hs,hs1,hr,hl,hl1,hlen,c_robq_Pop S,he0,c_seqm_At S,hxx,c_reti_ended S,retC,Md.retire,Md.endedM,d_endD',d_neC,d_ne0,d_neR,eq_true hend,deep_sr,dpI_len,dpI_take,Nat.le_refl,Option.bind_some,Option.map_none,foldT,takeS,foldS,List.take_length,w_fold,List.length_set,nc1,app_endI,app_fresh0',n1,n2,n5,n6,ne_eq,not_false_eq_true,not_true_eq_false,Nat.zero_mul,Nat.one_mul,m0,s0,hf,k12];((try rw[hend]);(first | done | rfl | (rw[e1 m0];rfl) | (rw[e2 s0];rfl) | (rw[e1 m0,e2 s0];rfl)))
    by_cases k11:x.kind=11
    ·simp only[eG,go_sem,thq S,nbr S,zN0,zN1,zN2,zN3,zN4,zI0,zI1,zI2,zI3,reduceCtorEq,o37_50 S,c_reti_Can S,hcan,Bool.not_true,Bool.not_false,o_conf_Still S,hm,hs,hs1,hr,hl,hl1,hlen,c_robq_Pop S,he0,c_seqm_At S,hxx,c_reti_ended S,retC,Md.retire,Md.endedM,d_endD',d_neC,d_ne0,d_neR,eq_true hend,deep_sr,dpI_len,dpI_take,Nat.le_refl,Option.bind_some,Option.map_none,foldT,takeS,foldS,List.take_length,w_fold,List.length_set,nc1,app_endI,app_fresh0',n1,n2,n5,n6,ne_eq,not_false_eq_true,not_true_eq_false,Nat.zero_mul,Nat.one_mul,m0,s0,hf,k11];((try rw[hend]);(first | done | rfl | (rw[e1 m0];rfl) | (rw[e2 s0];rfl) | (rw[e1 m0,e2 s0];rfl)))
    by_cases k1:x.kind=1
    ·simp only[eG,go_sem,thq S,nbr S,zN0,zN1,zN2,zN3,zN4,zI0,zI1,zI2,zI3,reduceCtorEq,o37_50 S,c_reti_Can S,hcan,Bool.not_true,Bool.not_false,o_conf_Still S,hm,hs,hs1,hr,hl,hl1,hlen,c_robq_Pop S,he0,c_seqm_At S,hxx,c_reti_ended S,retC,Md.retire,Md.endedM,d_endD',d_neC,d_ne0,d_neR,eq_true hend,show Nat.ble 1 1=true from rfl,show Nat.ble 2 2=true from rfl,show Nat.ble 3 3=true from rfl,show Nat.ble 1 2=true from rfl,show Nat.ble 2 3=true from rfl,List.getElem?_nil,List.getD_nil,Nat.reduceSub,Nat.sub_self,run,F_reti_commit,run80,off S 76 9 (by decide) rfl,off S 76 11 (by decide) rfl,off S 76 13 (by decide) rfl,off S 76 15 (by decide) rfl,off S 76 19 (by decide) rfl,off S 76 21 (by decide) rfl,off S 76 25 (by decide) rfl,off S 76 29 (by decide) rfl,o_callB,br_go,br_back,br_backB,br_backI,ver_some,ver_nil,ver_cons,ok_nil,ok_cons,un_d,un_agg,un_tup,un_sref,unS_some,unS_none,un_map,unB_cells,put_nil,put_cons,map_iteB,end_b,sp_lt,spN_some,rH_N,rB_cells,List.take_succ_cons,List.take_zero,List.drop_succ_cons,List.drop_zero,List.getD_cons_zero,List.getD_cons_succ,sw_t,sw_s,dl_nil,dl_cons,rep1',Option.map_some,Nat.zero_add,Nat.add_zero,hst,d0,d1,nbr S,deep_sr,dpI_len,dpI_take,Nat.le_refl,Option.bind_some,Option.map_none,foldT,takeS,foldS,List.take_length,w_fold,List.length_set,nc1,app_endI,app_fresh0',n1,n2,n5,n6,ne_eq,not_false_eq_true,not_true_eq_false,Nat.zero_mul,Nat.one_mul,Int.cast_ofNat_Int,true_and,Md.commitM,Md.w64,m0,s0,hf,k1];((try rw[hend]);(first | done | rfl | (rw[e1 m0];rfl) | (rw[e2 s0];rfl) | (rw[e1 m0,e2 s0];rfl)))
    by_cases k2:x.kind=2
    ·simp only[eG,go_sem,thq S,nbr S,zN0,zN1,zN2,zN3,zN4,zI0,zI1,zI2,zI3,reduceCtorEq,o37_50 S,c_reti_Can S,hcan,Bool.not_true,Bool.not_false,o_conf_Still S,hm,hs,hs1,hr,hl,hl1,hlen,c_robq_Pop S,he0,c_seqm_At S,hxx,c_reti_ended S,retC,Md.retire,Md.endedM,d_endD',d_neC,d_ne0,d_neR,eq_true hend,show Nat.ble 1 1=true from rfl,show Nat.ble 2 2=true from rfl,show Nat.ble 3 3=true from rfl,show Nat.ble 1 2=true from rfl,show Nat.ble 2 3=true from rfl,List.getElem?_nil,List.getD_nil,Nat.reduceSub,Nat.sub_self,run,F_reti_commit,run80,off S 76 9 (by decide) rfl,off S 76 11 (by decide) rfl,off S 76 13 (by decide) rfl,off S 76 15 (by decide) rfl,off S 76 19 (by decide) rfl,off S 76 21 (by decide) rfl,off S 76 25 (by decide) rfl,off S 76 29 (by decide) rfl,o_callB,br_go,br_back,br_backB,br_backI,ver_some,ver_nil,ver_cons,ok_nil,ok_cons,un_d,un_agg,un_tup,un_sref,unS_some,unS_none,un_map,unB_cells,put_nil,put_cons,map_iteB,end_b,sp_lt,spN_some,rH_N,rB_cells,List.take_succ_cons,List.take_zero,List.drop_succ_cons,List.drop_zero,List.getD_cons_zero,List.getD_cons_succ,sw_t,sw_s,dl_nil,dl_cons,rep1',Option.map_some,Nat.zero_add,Nat.add_zero,hst,d0,d1,nbr S,deep_sr,dpI_len,dpI_take,Nat.le_refl,Option.bind_some,Option.map_none,foldT,takeS,foldS,List.take_length,w_fold,List.length_set,nc1,app_endI,app_fresh0',n1,n2,n5,n6,ne_eq,not_false_eq_true,not_true_eq_false,Nat.zero_mul,Nat.one_mul,Int.cast_ofNat_Int,true_and,Md.commitM,Md.w64,m0,s0,hf,k2];((try rw[hend]);(first | done | rfl | (rw[e1 m0];rfl) | (rw[e2 s0];rfl) | (rw[e1 m0,e2 s0];rfl)))
    by_cases k4:x.kind=4
    ·simp only[eG,go_sem,thq S,nbr S,zN0,zN1,zN2,zN3,zN4,zI0,zI1,zI2,zI3,reduceCtorEq,o37_50 S,c_reti_Can S,hcan,Bool.not_true,Bool.not_false,o_conf_Still S,hm,hs,hs1,hr,hl,hl1,hlen,c_robq_Pop S,he0,c_seqm_At S,hxx,c_reti_ended S,retC,Md.retire,Md.endedM,d_endD',d_neC,d_ne0,d_neR,eq_true hend,show Nat.ble 1 1=true from rfl,show Nat.ble 2 2=true from rfl,show Nat.ble 3 3=true from rfl,show Nat.ble 1 2=true from rfl,show Nat.ble 2 3=true from rfl,List.getElem?_nil,List.getD_nil,Nat.reduceSub,Nat.sub_self,run,F_reti_commit,run80,off S 76 9 (by decide) rfl,off S 76 11 (by decide) rfl,off S 76 13 (by decide) rfl,off S 76 15 (by decide) rfl,off S 76 19 (by decide) rfl,off S 76 21 (by decide) rfl,off S 76 25 (by decide) rfl,off S 76 29 (by decide) rfl,o_callB,br_go,br_back,br_backB,br_backI,ver_some,ver_nil,ver_cons,ok_nil,ok_cons,un_d,un_agg,un_tup,un_sref,unS_some,unS_none,un_map,unB_cells,put_nil,put_cons,map_iteB,end_b,sp_lt,spN_some,rH_N,rB_cells,List.take_succ_cons,List.take_zero,List.drop_succ_cons,List.drop_zero,List.getD_cons_zero,List.getD_cons_succ,sw_t,sw_s,dl_nil,dl_cons,rep1',Option.map_some,Nat.zero_add,Nat.add_zero,hst,d0,d1,nbr S,deep_sr,dpI_len,dpI_take,Nat.le_refl,Option.bind_some,Option.map_none,foldT,takeS,foldS,List.take_length,w_fold,List.length_set,nc1,app_endI,app_fresh0',n1,n2,n5,n6,ne_eq,not_false_eq_true,not_true_eq_false,Nat.zero_mul,Nat.one_mul,Int.cast_ofNat_Int,true_and,Md.commitM,Md.w64,m0,s0,hf,k4];((try rw[hend]);(first | done | rfl | (rw[e1 m0];rfl) | (rw[e2 s0];rfl) | (rw[e1 m0,e2 s0];rfl)))
    by_cases k3:x.kind=3
    ·by_cases a : 0 <= e.addr /\ e.addr < c.state.mem.length
     ·obtain ⟨a0, a1⟩ := a
      have a2:e.addr.toNat<c.state.mem.length:=by omega
      first
       | (exfalso;omega)
       | (simp only[eG,go_sem,thq S,nbr S,zN0,zN1,zN2,zN3,zN4,zI0,zI1,zI2,zI3,reduceCtorEq,o37_50 S,c_reti_Can S,hcan,Bool.not_true,Bool.not_false,o_conf_Still S,hm,hs,hs1,hr,hl,hl1,hlen,c_robq_Pop S,he0,c_seqm_At S,hxx,c_reti_ended S,retC,Md.retire,Md.endedM,d_endD',d_neC,d_ne0,d_neR,eq_true hend,show Nat.ble 1 1=true from rfl,show Nat.ble 2 2=true from rfl,show Nat.ble 3 3=true from rfl,show Nat.ble 1 2=true from rfl,show Nat.ble 2 3=true from rfl,List.getElem?_nil,List.getD_nil,Nat.reduceSub,Nat.sub_self,run,F_reti_commit,run80,off S 76 9 (by decide) rfl,off S 76 11 (by decide) rfl,off S 76 13 (by decide) rfl,off S 76 15 (by decide) rfl,off S 76 19 (by decide) rfl,off S 76 21 (by decide) rfl,off S 76 25 (by decide) rfl,off S 76 29 (by decide) rfl,o_callB,br_go,br_back,br_backB,br_backI,ver_some,ver_nil,ver_cons,ok_nil,ok_cons,un_d,un_agg,un_tup,un_sref,unS_some,unS_none,un_map,unB_cells,put_nil,put_cons,map_iteB,end_b,sp_lt,spN_some,rH_N,rB_cells,List.take_succ_cons,List.take_zero,List.drop_succ_cons,List.drop_zero,List.getD_cons_zero,List.getD_cons_succ,sw_t,sw_s,dl_nil,dl_cons,rep1',Option.map_some,Nat.zero_add,Nat.add_zero,hst,d0,d1,nbr S,deep_sr,dpI_len,dpI_take,Nat.le_refl,Option.bind_some,Option.map_none,foldT,takeS,foldS,List.take_length,w_fold,List.length_set,nc1,app_endI,app_fresh0',n1,n2,n5,n6,ne_eq,not_false_eq_true,not_true_eq_false,Nat.zero_mul,Nat.one_mul,Int.cast_ofNat_Int,true_and,Md.commitM,Md.w64,m0,s0,hf,k3,a0,a1,wrI a2,and_self];((try rw[hend]);(first | done | rfl | (rw[e1 m0];rfl) | (rw[e2 s0];rfl) | (rw[e1 m0,e2 s0];rfl))))
     ·by_cases a0 : 0 <= e.addr
      ·have a1 : ¬ e.addr < c.state.mem.length := fun h => a ⟨a0, h⟩
       have a1':c.state.mem.length=0->¬e.addr<((0:Nat):Int):=fun h=>by omega
       have a1'':c.state.mem.length=0->¬e.addr<0:=fun h=>by omega
       simp only[eG,go_sem,thq S,nbr S,zN0,zN1,zN2,zN3,zN4,zI0,zI1,zI2,zI3,reduceCtorEq,o37_50 S,c_reti_Can S,hcan,Bool.not_true,Bool.not_false,o_conf_Still S,hm,hs,hs1,hr,hl,hl1,hlen,c_robq_Pop S,he0,c_seqm_At S,hxx,c_reti_ended S,retC,Md.retire,Md.endedM,d_endD',d_neC,d_ne0,d_neR,eq_true hend,show Nat.ble 1 1=true from rfl,show Nat.ble 2 2=true from rfl,show Nat.ble 3 3=true from rfl,show Nat.ble 1 2=true from rfl,show Nat.ble 2 3=true from rfl,List.getElem?_nil,List.getD_nil,Nat.reduceSub,Nat.sub_self,run,F_reti_commit,run80,off S 76 9 (by decide) rfl,off S 76 11 (by decide) rfl,off S 76 13 (by decide) rfl,off S 76 15 (by decide) rfl,off S 76 19 (by decide) rfl,off S 76 21 (by decide) rfl,off S 76 25 (by decide) rfl,off S 76 29 (by decide) rfl,o_callB,br_go,br_back,br_backB,br_backI,ver_some,ver_nil,ver_cons,ok_nil,ok_cons,un_d,un_agg,un_tup,un_sref,unS_some,unS_none,un_map,unB_cells,put_nil,put_cons,map_iteB,end_b,sp_lt,spN_some,rH_N,rB_cells,List.take_succ_cons,List.take_zero,List.drop_succ_cons,List.drop_zero,List.getD_cons_zero,List.getD_cons_succ,sw_t,sw_s,dl_nil,dl_cons,rep1',Option.map_some,Nat.zero_add,Nat.add_zero,hst,d0,d1,nbr S,deep_sr,dpI_len,dpI_take,Nat.le_refl,Option.bind_some,Option.map_none,foldT,takeS,foldS,List.take_length,w_fold,List.length_set,nc1,app_endI,app_fresh0',n1,n2,n5,n6,ne_eq,not_false_eq_true,not_true_eq_false,Nat.zero_mul,Nat.one_mul,Int.cast_ofNat_Int,true_and,Md.commitM,Md.w64,m0,s0,hf,k3,a0,a1,a1' ,a1'',and_false];((try rw[hend]);(first | done | rfl | (rw[e1 m0];rfl) | (rw[e2 s0];rfl) | (rw[e1 m0,e2 s0];rfl)))
      ·simp only[eG,go_sem,thq S,nbr S,zN0,zN1,zN2,zN3,zN4,zI0,zI1,zI2,zI3,reduceCtorEq,o37_50 S,c_reti_Can S,hcan,Bool.not_true,Bool.not_false,o_conf_Still S,hm,hs,hs1,hr,hl,hl1,hlen,c_robq_Pop S,he0,c_seqm_At S,hxx,c_reti_ended S,retC,Md.retire,Md.endedM,d_endD',d_neC,d_ne0,d_neR,eq_true hend,show Nat.ble 1 1=true from rfl,show Nat.ble 2 2=true from rfl,show Nat.ble 3 3=true from rfl,show Nat.ble 1 2=true from rfl,show Nat.ble 2 3=true from rfl,List.getElem?_nil,List.getD_nil,Nat.reduceSub,Nat.sub_self,run,F_reti_commit,run80,off S 76 9 (by decide) rfl,off S 76 11 (by decide) rfl,off S 76 13 (by decide) rfl,off S 76 15 (by decide) rfl,off S 76 19 (by decide) rfl,off S 76 21 (by decide) rfl,off S 76 25 (by decide) rfl,off S 76 29 (by decide) rfl,o_callB,br_go,br_back,br_backB,br_backI,ver_some,ver_nil,ver_cons,ok_nil,ok_cons,un_d,un_agg,un_tup,un_sref,unS_some,unS_none,un_map,unB_cells,put_nil,put_cons,map_iteB,end_b,sp_lt,spN_some,rH_N,rB_cells,List.take_succ_cons,List.take_zero,List.drop_succ_cons,List.drop_zero,List.getD_cons_zero,List.getD_cons_succ,sw_t,sw_s,dl_nil,dl_cons,rep1',Option.map_some,Nat.zero_add,Nat.add_zero,hst,d0,d1,nbr S,deep_sr,dpI_len,dpI_take,Nat.le_refl,Option.bind_some,Option.map_none,foldT,takeS,foldS,List.take_length,w_fold,List.length_set,nc1,app_endI,app_fresh0',n1,n2,n5,n6,ne_eq,not_false_eq_true,not_true_eq_false,Nat.zero_mul,Nat.one_mul,Int.cast_ofNat_Int,true_and,Md.commitM,Md.w64,m0,s0,hf,k3,a0,false_and];((try rw[hend]);(first | done | rfl | (rw[e1 m0];rfl) | (rw[e2 s0];rfl) | (rw[e1 m0,e2 s0];rfl)))
    by_cases k8:x.kind=8
    ·simp only[eG,go_sem,thq S,nbr S,zN0,zN1,zN2,zN3,zN4,zI0,zI1,zI2,zI3,reduceCtorEq,o37_50 S,c_reti_Can S,hcan,Bool.not_true,Bool.not_false,o_conf_Still S,hm,hs,hs1,hr,hl,hl1,hlen,c_robq_Pop S,he0,c_seqm_At S,hxx,c_reti_ended S,retC,Md.retire,Md.endedM,d_endD',d_neC,d_ne0,d_neR,eq_true hend,show Nat.ble 1 1=true from rfl,show Nat.ble 2 2=true from rfl,show Nat.ble 3 3=true from rfl,show Nat.ble 1 2=true from rfl,show Nat.ble 2 3=true from rfl,List.getElem?_nil,List.getD_nil,Nat.reduceSub,Nat.sub_self,run,F_reti_commit,run80,off S 76 9 (by decide) rfl,off S 76 11 (by decide) rfl,off S 76 13 (by decide) rfl,off S 76 15 (by decide) rfl,off S 76 19 (by decide) rfl,off S 76 21 (by decide) rfl,off S 76 25 (by decide) rfl,off S 76 29 (by decide) rfl,o_callB,br_go,br_back,br_backB,br_backI,ver_some,ver_nil,ver_cons,ok_nil,ok_cons,un_d,un_agg,un_tup,un_sref,unS_some,unS_none,un_map,unB_cells,put_nil,put_cons,map_iteB,end_b,sp_lt,spN_some,rH_N,rB_cells,List.take_succ_cons,List.take_zero,List.drop_succ_cons,List.drop_zero,List.getD_cons_zero,List.getD_cons_succ,sw_t,sw_s,dl_nil,dl_cons,rep1',Option.map_some,Nat.zero_add,Nat.add_zero,hst,d0,d1,nbr S,deep_sr,dpI_len,dpI_take,Nat.le_refl,Option.bind_some,Option.map_none,foldT,takeS,foldS,List.take_length,w_fold,List.length_set,nc1,app_endI,app_fresh0',n1,n2,n5,n6,ne_eq,not_false_eq_true,not_true_eq_false,Nat.zero_mul,Nat.one_mul,Int.cast_ofNat_Int,true_and,Md.commitM,Md.w64,m0,s0,hf,k8,show(1:Nat)*8<=limA by decide,show(8:Nat)<=limA by decide,show(1:Nat)<=limA by decide,show(1:Nat)*1<=1 by decide,Nat.lt_add_one,Nat.one_ne_zero,show(0:Nat)<1 by decide,hdl,hap1,hap2,hap3];((try rw[hend]);(first | done | rfl | (rw[e1 m0];rfl) | (rw[e2 s0];rfl) | (rw[e1 m0,e2 s0];rfl)))
    by_cases k9:x.kind=9
    ·by_cases sz : c.state.stack.length = 0
     ·first
       | (exfalso;exact s0 sz)
       | (simp only[eG,go_sem,thq S,nbr S,zN0,zN1,zN2,zN3,zN4,zI0,zI1,zI2,zI3,reduceCtorEq,o37_50 S,c_reti_Can S,hcan,Bool.not_true,Bool.not_false,o_conf_Still S,hm,hs,hs1,hr,hl,hl1,hlen,c_robq_Pop S,he0,c_seqm_At S,hxx,c_reti_ended S,retC,Md.retire,Md.endedM,d_endD',d_neC,d_ne0,d_neR,eq_true hend,show Nat.ble 1 1=true from rfl,show Nat.ble 2 2=true from rfl,show Nat.ble 3 3=true from rfl,show Nat.ble 1 2=true from rfl,show Nat.ble 2 3=true from rfl,List.getElem?_nil,List.getD_nil,Nat.reduceSub,Nat.sub_self,run,F_reti_commit,run80,off S 76 9 (by decide) rfl,off S 76 11 (by decide) rfl,off S 76 13 (by decide) rfl,off S 76 15 (by decide) rfl,off S 76 19 (by decide) rfl,off S 76 21 (by decide) rfl,off S 76 25 (by decide) rfl,off S 76 29 (by decide) rfl,o_callB,br_go,br_back,br_backB,br_backI,ver_some,ver_nil,ver_cons,ok_nil,ok_cons,un_d,un_agg,un_tup,un_sref,unS_some,unS_none,un_map,unB_cells,put_nil,put_cons,map_iteB,end_b,sp_lt,spN_some,rH_N,rB_cells,List.take_succ_cons,List.take_zero,List.drop_succ_cons,List.drop_zero,List.getD_cons_zero,List.getD_cons_succ,sw_t,sw_s,dl_nil,dl_cons,rep1',Option.map_some,Nat.zero_add,Nat.add_zero,hst,d0,d1,nbr S,deep_sr,dpI_len,dpI_take,Nat.le_refl,Option.bind_some,Option.map_none,foldT,takeS,foldS,List.take_length,w_fold,List.length_set,nc1,app_endI,app_fresh0',n1,n2,n5,n6,ne_eq,not_false_eq_true,not_true_eq_false,Nat.zero_mul,Nat.one_mul,Int.cast_ofNat_Int,true_and,Md.commitM,Md.w64,m0,s0,hf,k9,cp0];((try rw[hend]);(first | done | rfl | (rw[e1 m0];rfl) | (rw[e2 s0];rfl) | (rw[e1 m0,e2 s0];rfl))))
     ·by_cases sd : c.state.stack.dropLast.length = 0
      ·first
        | (exfalso;exact sz s0)
        | (simp only[eG,go_sem,thq S,nbr S,zN0,zN1,zN2,zN3,zN4,zI0,zI1,zI2,zI3,reduceCtorEq,o37_50 S,c_reti_Can S,hcan,Bool.not_true,Bool.not_false,o_conf_Still S,hm,hs,hs1,hr,hl,hl1,hlen,c_robq_Pop S,he0,c_seqm_At S,hxx,c_reti_ended S,retC,Md.retire,Md.endedM,d_endD',d_neC,d_ne0,d_neR,eq_true hend,show Nat.ble 1 1=true from rfl,show Nat.ble 2 2=true from rfl,show Nat.ble 3 3=true from rfl,show Nat.ble 1 2=true from rfl,show Nat.ble 2 3=true from rfl,List.getElem?_nil,List.getD_nil,Nat.reduceSub,Nat.sub_self,run,F_reti_commit,run80,off S 76 9 (by decide) rfl,off S 76 11 (by decide) rfl,off S 76 13 (by decide) rfl,off S 76 15 (by decide) rfl,off S 76 19 (by decide) rfl,off S 76 21 (by decide) rfl,off S 76 25 (by decide) rfl,off S 76 29 (by decide) rfl,o_callB,br_go,br_back,br_backB,br_backI,ver_some,ver_nil,ver_cons,ok_nil,ok_cons,un_d,un_agg,un_tup,un_sref,unS_some,unS_none,un_map,unB_cells,put_nil,put_cons,map_iteB,end_b,sp_lt,spN_some,rH_N,rB_cells,List.take_succ_cons,List.take_zero,List.drop_succ_cons,List.drop_zero,List.getD_cons_zero,List.getD_cons_succ,sw_t,sw_s,dl_nil,dl_cons,rep1',Option.map_some,Nat.zero_add,Nat.add_zero,hst,d0,d1,nbr S,deep_sr,dpI_len,dpI_take,Nat.le_refl,Option.bind_some,Option.map_none,foldT,takeS,foldS,List.take_length,w_fold,List.length_set,nc1,app_endI,app_fresh0',n1,n2,n5,n6,ne_eq,not_false_eq_true,not_true_eq_false,Nat.zero_mul,Nat.one_mul,Int.cast_ofNat_Int,true_and,Md.commitM,Md.w64,m0,s0,hf,k9,cpF sd];((try rw[hend]);(first | done | rfl | (rw[e1 m0];rfl) | (rw[e2 s0];rfl) | (rw[e1 m0,e2 s0];rfl))))
      ·first
        | (exfalso;exact sz s0)
        | (simp only[eG,go_sem,thq S,nbr S,zN0,zN1,zN2,zN3,zN4,zI0,zI1,zI2,zI3,reduceCtorEq,o37_50 S,c_reti_Can S,hcan,Bool.not_true,Bool.not_false,o_conf_Still S,hm,hs,hs1,hr,hl,hl1,hlen,c_robq_Pop S,he0,c_seqm_At S,hxx,c_reti_ended S,retC,Md.retire,Md.endedM,d_endD',d_neC,d_ne0,d_neR,eq_true hend,show Nat.ble 1 1=true from rfl,show Nat.ble 2 2=true from rfl,show Nat.ble 3 3=true from rfl,show Nat.ble 1 2=true from rfl,show Nat.ble 2 3=true from rfl,List.getElem?_nil,List.getD_nil,Nat.reduceSub,Nat.sub_self,run,F_reti_commit,run80,off S 76 9 (by decide) rfl,off S 76 11 (by decide) rfl,off S 76 13 (by decide) rfl,off S 76 15 (by decide) rfl,off S 76 19 (by decide) rfl,off S 76 21 (by decide) rfl,off S 76 25 (by decide) rfl,off S 76 29 (by decide) rfl,o_callB,br_go,br_back,br_backB,br_backI,ver_some,ver_nil,ver_cons,ok_nil,ok_cons,un_d,un_agg,un_tup,un_sref,unS_some,unS_none,un_map,unB_cells,put_nil,put_cons,map_iteB,end_b,sp_lt,spN_some,rH_N,rB_cells,List.take_succ_cons,List.take_zero,List.drop_succ_cons,List.drop_zero,List.getD_cons_zero,List.getD_cons_succ,sw_t,sw_s,dl_nil,dl_cons,rep1',Option.map_some,Nat.zero_add,Nat.add_zero,hst,d0,d1,nbr S,deep_sr,dpI_len,dpI_take,Nat.le_refl,Option.bind_some,Option.map_none,foldT,takeS,foldS,List.take_length,w_fold,List.length_set,nc1,app_endI,app_fresh0',n1,n2,n5,n6,ne_eq,not_false_eq_true,not_true_eq_false,Nat.zero_mul,Nat.one_mul,Int.cast_ofNat_Int,true_and,Md.commitM,Md.w64,m0,s0,hf,k9,cpU sd];((try rw[hend]);(first | done | rfl | (rw[e1 m0];rfl) | (rw[e2 s0];rfl) | (rw[e1 m0,e2 s0];rfl))))
    simp only[eG,go_sem,thq S,nbr S,zN0,zN1,zN2,zN3,zN4,zI0,zI1,zI2,zI3,reduceCtorEq,o37_50 S,c_reti_Can S,hcan,Bool.not_true,Bool.not_false,o_conf_Still S,hm,hs,hs1,hr,hl,hl1,hlen,c_robq_Pop S,he0,c_seqm_At S,hxx,c_reti_ended S,retC,Md.retire,Md.endedM,d_endD',d_neC,d_ne0,d_neR,eq_true hend,show Nat.ble 1 1=true from rfl,show Nat.ble 2 2=true from rfl,show Nat.ble 3 3=true from rfl,show Nat.ble 1 2=true from rfl,show Nat.ble 2 3=true from rfl,List.getElem?_nil,List.getD_nil,Nat.reduceSub,Nat.sub_self,run,F_reti_commit,run80,off S 76 9 (by decide) rfl,off S 76 11 (by decide) rfl,off S 76 13 (by decide) rfl,off S 76 15 (by decide) rfl,off S 76 19 (by decide) rfl,off S 76 21 (by decide) rfl,off S 76 25 (by decide) rfl,off S 76 29 (by decide) rfl,o_callB,br_go,br_back,br_backB,br_backI,ver_some,ver_nil,ver_cons,ok_nil,ok_cons,un_d,un_agg,un_tup,un_sref,unS_some,unS_none,un_map,unB_cells,put_nil,put_cons,map_iteB,end_b,sp_lt,spN_some,rH_N,rB_cells,List.take_succ_cons,List.take_zero,List.drop_succ_cons,List.drop_zero,List.getD_cons_zero,List.getD_cons_succ,sw_t,sw_s,dl_nil,dl_cons,rep1',Option.map_some,Nat.zero_add,Nat.add_zero,hst,d0,d1,nbr S,deep_sr,dpI_len,dpI_take,Nat.le_refl,Option.bind_some,Option.map_none,foldT,takeS,foldS,List.take_length,w_fold,List.length_set,nc1,app_endI,app_fresh0',n1,n2,n5,n6,ne_eq,not_false_eq_true,not_true_eq_false,Nat.zero_mul,Nat.one_mul,Int.cast_ofNat_Int,true_and,Md.commitM,Md.w64,m0,s0,hf,k1,k2,k3,k4,k8,k9,k11,k12];((try rw[hend]);(first | done | rfl | (rw[e1 m0];rfl) | (rw[e2 s0];rfl) | (rw[e1 m0,e2 s0];rfl)))
end
variable {E:Env} {fn:FuncId->Option (Env->CallT->CallT)}
section
variable (S:Sur E fn)
include S
theorem o31_27:E.lives 31 7=none/\E.lives 31 13=none/\E.lives 31 17=none:=⟨off S 31 7 (by decide) rfl,off S 31 13 (by decide) rfl,off S 31 17 (by decide) rfl⟩
theorem raw_fetc_Guesses (dp:Nat)(p:Prog)(c:Conf)(hi:p.ins.length<1073741824):Says E fn (dp+2) 31 [progD p,confD c] (vi (Md.guesses p c)):=by
 unfold Says
 show ansOf (evC E fn (dp+1+1) 31 [.d (progD p),.d (confD c)] [])=_
 rw[evC_succ,S.f_fetc_Guesses,apF_some,F_fetc_Guesses,mkF_run _ _ _ _ _ _ _ _ rfl]
 have hw:IntKind.i64.wrap ((p.ins.length:Int)+1)=p.ins.length+1:=by rw[wrap_i64 (by omega) (by omega)]
 by_cases h1:c.end_=0
 ·by_cases h2 : c.state.pc = -1
  ·simp only[eG,go_sem,thq S,nbr S,zN0,zN1,zN2,zN3,zN4,zI0,zI1,zI2,zI3,reduceCtorEq,o31_27 S,h1,h2,Md.guesses,c_conf_Final S,ne_eq,not_true_eq_false,not_false_eq_true]
  ·by_cases h3 : (c.buf.length : Int) >= p.window
   ·simp only[eG,go_sem,thq S,nbr S,zN0,zN1,zN2,zN3,zN4,zI0,zI1,zI2,zI3,reduceCtorEq,o31_27 S,h1,h2,h3,Md.guesses,c_conf_Final S,ne_eq,not_true_eq_false,not_false_eq_true]
   ·by_cases h9 : c.rsb.length = 0
    ·simp only [eG, go_sem, thq S, nbr S, zN0, zN1, zN2, zN3, zN4, zI0, zI1, zI2, zI3, reduceCtorEq, o31_27 S, h1, h2, h3, h9, Md.guesses, c_conf_Final S, ne_eq, not_true_eq_false, not_false_eq_true, c_seqm_At S, c_conf_Final S, hw, Int.natCast_eq_zero]
     by_cases k5:(Md.at_ p c.state.pc).kind=5
     ·simp only[eG,go_sem,thq S,nbr S,zN0,zN1,zN2,zN3,zN4,zI0,zI1,zI2,zI3,reduceCtorEq,o31_27 S,h9,hw,Int.natCast_eq_zero,ne_eq,not_true_eq_false,not_false_eq_true,Bool.not_true,Bool.not_false,k5,decide_true,decide_false,cond_true,cond_false,if_true,if_false,zI0]
     by_cases k7:(Md.at_ p c.state.pc).kind=7
     ·simp only[eG,go_sem,thq S,nbr S,zN0,zN1,zN2,zN3,zN4,zI0,zI1,zI2,zI3,reduceCtorEq,o31_27 S,h9,hw,Int.natCast_eq_zero,ne_eq,not_true_eq_false,not_false_eq_true,Bool.not_true,Bool.not_false,k7,decide_true,decide_false,cond_true,cond_false,if_true,if_false,zI0,true_or]
     by_cases k9:(Md.at_ p c.state.pc).kind=9
     ·simp only[eG,go_sem,thq S,nbr S,zN0,zN1,zN2,zN3,zN4,zI0,zI1,zI2,zI3,reduceCtorEq,o31_27 S,h9,hw,Int.natCast_eq_zero,ne_eq,not_true_eq_false,not_false_eq_true,Bool.not_true,Bool.not_false,k9,decide_true,decide_false,cond_true,cond_false,if_true,if_false,zI0,or_true,and_self]
     ·simp only[eG,go_sem,thq S,nbr S,zN0,zN1,zN2,zN3,zN4,zI0,zI1,zI2,zI3,reduceCtorEq,o31_27 S,h9,hw,Int.natCast_eq_zero,ne_eq,not_true_eq_false,not_false_eq_true,Bool.not_true,Bool.not_false,k5,k7,k9,decide_true,decide_false,cond_true,cond_false,if_true,if_false,zI0,or_self,false_and]
    ·simp only [eG, go_sem, thq S, nbr S, zN0, zN1, zN2, zN3, zN4, zI0, zI1, zI2, zI3, reduceCtorEq, o31_27 S, h1, h2, h3, h9, Md.guesses, c_conf_Final S, ne_eq, not_true_eq_false, not_false_eq_true, c_seqm_At S, c_conf_Final S, hw, Int.natCast_eq_zero]
     by_cases k5:(Md.at_ p c.state.pc).kind=5
     ·simp only[eG,go_sem,thq S,nbr S,zN0,zN1,zN2,zN3,zN4,zI0,zI1,zI2,zI3,reduceCtorEq,o31_27 S,h9,hw,Int.natCast_eq_zero,ne_eq,not_true_eq_false,not_false_eq_true,Bool.not_true,Bool.not_false,k5,decide_true,decide_false,cond_true,cond_false,if_true,if_false,zI0]
     by_cases k7:(Md.at_ p c.state.pc).kind=7
     ·simp only[eG,go_sem,thq S,nbr S,zN0,zN1,zN2,zN3,zN4,zI0,zI1,zI2,zI3,reduceCtorEq,o31_27 S,h9,hw,Int.natCast_eq_zero,ne_eq,not_true_eq_false,not_false_eq_true,Bool.not_true,Bool.not_false,k7,decide_true,decide_false,cond_true,cond_false,if_true,if_false,zI0,true_or]
     by_cases k9:(Md.at_ p c.state.pc).kind=9
     ·simp only[eG,go_sem,thq S,nbr S,zN0,zN1,zN2,zN3,zN4,zI0,zI1,zI2,zI3,reduceCtorEq,o31_27 S,h9,hw,Int.natCast_eq_zero,ne_eq,not_true_eq_false,not_false_eq_true,Bool.not_true,Bool.not_false,k9,decide_true,decide_false,cond_true,cond_false,if_true,if_false,zI0,or_true,and_self,and_false,or_self]
     ·simp only[eG,go_sem,thq S,nbr S,zN0,zN1,zN2,zN3,zN4,zI0,zI1,zI2,zI3,reduceCtorEq,o31_27 S,h9,hw,Int.natCast_eq_zero,ne_eq,not_true_eq_false,not_false_eq_true,Bool.not_true,Bool.not_false,k5,k7,k9,decide_true,decide_false,cond_true,cond_false,if_true,if_false,zI0,or_self,false_and]
 ·simp only[eG,go_sem,thq S,nbr S,zN0,zN1,zN2,zN3,zN4,zI0,zI1,zI2,zI3,reduceCtorEq,o31_27 S,h1,Md.guesses,c_conf_Final S,ne_eq,not_true_eq_false,not_false_eq_true]
theorem c_fetc_Guesses (dp:Nat)(p_w p_wn p_fu p_r0 p_r1 p_r2 p_r3:Int)(p_ms:List MemT)(p_ls:List Label)(p_is:List Ins)(c_r0 c_r1 c_r2 c_r3:Int)(c_mm c_st:List Int)(c_pc:Int)(c_bf:List Ent)(c_rb:List Int)(c_en:Int)(hi:(⟨p_w,p_wn,p_fu,⟨p_r0,p_r1,p_r2,p_r3⟩,p_ms,p_ls,p_is⟩:Prog).ins.length<1073741824)(A:List Blk)(nb:Nat)(us:List Nat):evOwnK false E (evC E fn (dp+2)) 31 A nb (some ([.agg [vi p_w,vi p_wn,vi p_fu,vi p_r0,vi p_r1,vi p_r2,vi p_r3,rowD p_ms,rowD p_ls,rowD p_is],.agg [vi c_r0,vi c_r1,vi c_r2,vi c_r3,rowD c_mm,rowD c_st,vi c_pc,rowD c_bf,rowD c_rb,vi c_en]],us))=some (.made (.d (vi (Md.guesses (⟨p_w,p_wn,p_fu,⟨p_r0,p_r1,p_r2,p_r3⟩,p_ms,p_ls,p_is⟩:Prog) (⟨⟨⟨c_r0,c_r1,c_r2,c_r3⟩,c_mm,c_st,c_pc⟩,c_bf,c_rb,c_en⟩:Conf)))) []):=
 Says.flat (raw_fetc_Guesses S dp (⟨p_w,p_wn,p_fu,⟨p_r0,p_r1,p_r2,p_r3⟩,p_ms,p_ls,p_is⟩:Prog) (⟨⟨⟨c_r0,c_r1,c_r2,c_r3⟩,c_mm,c_st,c_pc⟩,c_bf,c_rb,c_en⟩:Conf) hi) (np S 31 (by decide)) (rfl) A nb us
end
section
variable (S:Sur E fn)
include S
theorem o19_51:E.lives 19 9=none/\E.lives 19 13=none/\E.lives 19 17=none/\E.lives 19 21=none:=⟨off S 19 9 (by decide) rfl,off S 19 13 (by decide) rfl,off S 19 17 (by decide) rfl,off S 19 21 (by decide) rfl⟩
theorem raw_dirs_Can (dp:Nat)(p:Prog)(c:Conf)(d:Dir)(hi:p.ins.length<1073741824)(hm:p.mems.length<1073741824)(hl:c.buf.length<1073741824):Says E fn (dp+10) 19 [progD p,confD c,.agg (Cl.cells d)] (vb (Md.canSay (cellsI p.mems) p c d)):=by
 unfold Says
 show ansOf (evC E fn (dp+9+1) 19 [.d (progD p),.d (confD c),.d (.agg (Cl.cells d))] [])=_
 rw[evC_succ,S.f_dirs_Can,apF_some,F_dirs_Can,mkF_run _ _ _ _ _ _ _ _ rfl]
 by_cases k1:d.kind=1
 ·by_cases h0 : 0 <= d.n
  ·simp only[eG,go_sem,thq S,nbr S,zN0,zN1,zN2,zN3,zN4,zI0,zI1,zI2,zI3,reduceCtorEq,o19_51 S,k1,h0,ge_iff_le,c_fetc_Guesses S,hi,Md.canSay,Md.canFetch]
  ·simp only[eG,go_sem,thq S,nbr S,zN0,zN1,zN2,zN3,zN4,zI0,zI1,zI2,zI3,reduceCtorEq,o19_51 S,k1,h0,ge_iff_le,Md.canSay,Md.canFetch]
 by_cases k2:d.kind=2
 ·simp only[eG,go_sem,thq S,nbr S,zN0,zN1,zN2,zN3,zN4,zI0,zI1,zI2,zI3,reduceCtorEq,o19_51 S,k1,k2,c_exec_Can S,hl,hm,Md.canSay]
 by_cases k3:d.kind=3
 ·simp only[eG,go_sem,thq S,nbr S,zN0,zN1,zN2,zN3,zN4,zI0,zI1,zI2,zI3,reduceCtorEq,o19_51 S,k1,k2,k3,c_exec_CanAddr S,hl,Md.canSay]
 by_cases k4:d.kind=4
 ·by_cases n0 : d.n = 0
  ·simp only[eG,go_sem,thq S,nbr S,zN0,zN1,zN2,zN3,zN4,zI0,zI1,zI2,zI3,reduceCtorEq,o19_51 S,k1,k2,k3,k4,n0,c_reti_Can S,Md.canSay]
  ·simp only[eG,go_sem,thq S,nbr S,zN0,zN1,zN2,zN3,zN4,zI0,zI1,zI2,zI3,reduceCtorEq,o19_51 S,k1,k2,k3,k4,n0,Md.canSay]
 ·simp only[eG,go_sem,thq S,nbr S,zN0,zN1,zN2,zN3,zN4,zI0,zI1,zI2,zI3,reduceCtorEq,o19_51 S,k1,k2,k3,k4,Md.canSay]
theorem c_dirs_Can (dp:Nat)(p_w p_wn p_fu p_r0 p_r1 p_r2 p_r3:Int)(p_ms:List MemT)(p_ls:List Label)(p_is:List Ins)(c_r0 c_r1 c_r2 c_r3:Int)(c_mm c_st:List Int)(c_pc:Int)(c_bf:List Ent)(c_rb:List Int)(c_en d_k d_n:Int)(hi:(⟨p_w,p_wn,p_fu,⟨p_r0,p_r1,p_r2,p_r3⟩,p_ms,p_ls,p_is⟩:Prog).ins.length<1073741824)(hm:(⟨p_w,p_wn,p_fu,⟨p_r0,p_r1,p_r2,p_r3⟩,p_ms,p_ls,p_is⟩:Prog).mems.length<1073741824)(hl:(⟨⟨⟨c_r0,c_r1,c_r2,c_r3⟩,c_mm,c_st,c_pc⟩,c_bf,c_rb,c_en⟩:Conf).buf.length<1073741824)(A:List Blk)(nb:Nat)(us:List Nat):evOwnK false E (evC E fn (dp+10)) 19 A nb (some ([.agg [vi p_w,vi p_wn,vi p_fu,vi p_r0,vi p_r1,vi p_r2,vi p_r3,rowD p_ms,rowD p_ls,rowD p_is],.agg [vi c_r0,vi c_r1,vi c_r2,vi c_r3,rowD c_mm,rowD c_st,vi c_pc,rowD c_bf,rowD c_rb,vi c_en],.agg [vi d_k,vi d_n]],us))=some (.made (.d (vb (Md.canSay (cellsI (⟨p_w,p_wn,p_fu,⟨p_r0,p_r1,p_r2,p_r3⟩,p_ms,p_ls,p_is⟩:Prog).mems) (⟨p_w,p_wn,p_fu,⟨p_r0,p_r1,p_r2,p_r3⟩,p_ms,p_ls,p_is⟩:Prog) (⟨⟨⟨c_r0,c_r1,c_r2,c_r3⟩,c_mm,c_st,c_pc⟩,c_bf,c_rb,c_en⟩:Conf) (⟨d_k,d_n⟩:Dir)))) []):=
 Says.flat (raw_dirs_Can S dp (⟨p_w,p_wn,p_fu,⟨p_r0,p_r1,p_r2,p_r3⟩,p_ms,p_ls,p_is⟩:Prog) (⟨⟨⟨c_r0,c_r1,c_r2,c_r3⟩,c_mm,c_st,c_pc⟩,c_bf,c_rb,c_en⟩:Conf) (⟨d_k,d_n⟩:Dir) hi hm hl) (np S 19 (by decide)) (rfl) A nb us
end
end Go.Aug.Mc
