import Derived.Test.YthnhboimcidhgaaGreatDoorMc2
namespace Go.Aug.Mc
open Go Go.Aug
open Nat renaming reduceLT -> zN0, reduceEqDiff -> zN1, reduceAdd -> zN2, reduceMul -> zN3, reduceLeDiff -> zN4
open Int renaming reduceEq -> zI0, reduceLT -> zI1, reduceLE -> zI2, reduceNeg -> zI3
set_option linter.unusedSimpArgs false
set_option linter.unusedVariables false
set_option maxHeartbeats 40000000
variable {E:Env} {fn:FuncId->Option (Env->cT->cT)}
section
variable (S:Sur E fn)
include S
theorem Z3n:E.lives 198 1=none/\E.lives 198 7=none/\E.lives 198 19=none/\E.lives 198 21=none:=⟨off S 198 1 (by decide) rfl,off S 198 7 (by decide) rfl,off S 198 19 (by decide) rfl,off S 198 21 (by decide) rfl⟩
theorem Y1d:E.lives 132 7=none:=off S 132 7 (by decide) rfl
theorem Zac:E.lives 197 1=none/\E.lives 197 13=none:=⟨off S 197 1 (by decide) rfl,off S 197 13 (by decide) rfl⟩
theorem Z4n:E.lives 131 1=none/\E.lives 131 13=none/\E.lives 131 15=none/\E.lives 131 21=none:=⟨off S 131 1 (by decide) rfl,off S 131 13 (by decide) rfl,off S 131 15 (by decide) rfl,off S 131 21 (by decide) rfl⟩
theorem Zt6 (dp:Nat)(p:Prog)(of:Regs)(l:List Ent)(r:Int)(hl:l.length<1073741824)(kx:Nat->K)(D:Int)
  (hx:∀ T,Z01 .bot T 4=aI r->Z01 .bot T 6=.ref 1 0 0->Zh (kx 0 (mk .bot 62 T) [.cells ((Yd p).map .d) 0 false,.cells ((Z5u of).map .d) 0 false])=some (.tup [vi D,vb true])):
  ∀(k fuel:Nat),k<=l.length->k<fuel->Zh (Z2q (inn E 198) (evC E fn (dp+1)) (Zi 10 Z2q (inn E 198) (evC E fn (dp+1)) kx (Z0u 0 [.tmp 10,.tmp 11]) fuel) kx (Z0u 0 [.tmp 10,.tmp 11])
   (mk .bot 62 [(2,.d (rD l)),(4,aI r),(5,.ref 0 0 0),(6,.ref 1 0 0),(12,aI ((k:Int)-1))]) [.cells ((Yd p).map .d) 0 false,.cells ((Z5u of).map .d) 0 false])=
   some (.tup [vi (Md.regGo p r D (l.take k).reverse).1,vb (Md.regGo p r D (l.take k).reverse).2]):=by
 intro k
 induction k with
 | zero=>
  intro fuel _ hf
  generalize Zi 10 Z2q _ _ kx _ fuel=KK
  rw[Z2q]
  simp only[eG,go_sem,thq S,nbr S,zN0,zN1,zN2,zN3,zN4,zI0,zI1,zI2,zI3,reduceCtorEq,Z3n S,show ¬(((0:Nat):Int)-1>=0) by omega,List.take_zero,List.reverse_nil,Md.regGo]
  exact hx _ rfl rfl
 | succ k ih=>
  intro fuel hk hf
  obtain⟨e,he⟩:=Yz (show k<l.length by omega)
  obtain⟨fuel,rfl⟩:∃ m,fuel=m+1:=⟨fuel-1,by omega⟩
  rw[show(((k+1:Nat):Int)-1)=(k:Int) by omega,Zbo he]
  generalize hK:Zi 10 Z2q _ _ kx _ (fuel+1)=KK
  rw[Z2q]
  simp only[eG,go_sem,thq S,nbr S,zN0,zN1,zN2,zN3,zN4,zI0,zI1,zI2,zI3,reduceCtorEq,Z3n S,Q4 he,cA7 S,Z99 S,Int.natCast_nonneg,ge_iff_le,wd k (by omega),Md.regGo]
  cases h1:Md.destK (Md.at_ p e.pc) with
  | false=>
   simp only[eG,go_sem,thq S,nbr S,zN0,zN1,zN2,zN3,zN4,zI0,zI1,zI2,zI3,reduceCtorEq,Z3n S,Q4 he,cA7 S,Z99 S,Int.natCast_nonneg,ge_iff_le,wd k (by omega)]
   rw[<-hK,Z1 (on S _ _ [2,4,5,6,12] (by decide) rfl) rfl _ _ _ _ _ _ _ _ _ rfl]
   simp only[eG,go_sem,thq S,nbr S,zN0,zN1,zN2,zN3,zN4,zI0,zI1,zI2,zI3,reduceCtorEq,Z3n S]
   exact ih fuel (by omega) (by omega)
  | true=>
   by_cases h2:(Md.at_ p e.pc).d=r
   ·cases h3:e.done<;>simp only[eG,go_sem,thq S,nbr S,zN0,zN1,zN2,zN3,zN4,zI0,zI1,zI2,zI3,reduceCtorEq,Z3n S,Q4 he,cA7 S,Z99 S,Int.natCast_nonneg,ge_iff_le,wd k (by omega),h2,h3,Md.dest,h1]
   ·simp only [eG, go_sem, thq S, nbr S, zN0, zN1, zN2, zN3, zN4, zI0, zI1, zI2, zI3, reduceCtorEq, Z3n S, Q4 he, cA7 S, Z99 S, Int.natCast_nonneg, ge_iff_le, wd k (by omega), h2, Md.dest, h1]
    rw[<-hK,Z1 (on S _ _ [2,4,5,6,12] (by decide) rfl) rfl _ _ _ _ _ _ _ _ _ rfl]
    simp only[eG,go_sem,thq S,nbr S,zN0,zN1,zN2,zN3,zN4,zI0,zI1,zI2,zI3,reduceCtorEq,Z3n S]
    exact ih fuel (by omega) (by omega)
theorem Zqt (dp:Nat)(p:Prog)(of:Regs)(l:List Ent)(i r:Int)(hl:l.length<1073741824):Zk E fn (dp+2) 198 [Zn p,.agg (Z5u of),rD l,vi i,vi r] (.tup [vi (Md.reg p of l i r).1,vb (Md.reg p of l i r).2]):=by
 unfold Zk
 show Zh (evC E fn (dp+1+1) 198 [.d (Zn p),.d (.agg (Z5u of)),.d (rD l),.d (vi i),.d (vi r)] [])=_
 rw[Z2,S.Zpl,Z3,Zq5,Z6 _ _ _ _ _ _ _ _ rfl]
 by_cases h:r<0
 ·simp only[eG,go_sem,thq S,nbr S,zN0,zN1,zN2,zN3,zN4,zI0,zI1,zI2,zI3,reduceCtorEq,Z3n S,h,Md.reg]
 by_cases h2:r>3
 ·simp only[eG,go_sem,thq S,nbr S,zN0,zN1,zN2,zN3,zN4,zI0,zI1,zI2,zI3,reduceCtorEq,Z3n S,h,h2,Md.reg,show 4<=r by omega]
 ·have e:Md.reg p of l i r=Md.regGo p r (Md.getR of r) (l.take (min i.toNat l.length)).reverse:=by
   unfold Md.reg;rw[if_neg (by omega),Ztx]
  rw[e]
  simp only[eG,go_sem,thq S,nbr S,zN0,zN1,zN2,zN3,zN4,zI0,zI1,zI2,zI3,reduceCtorEq,Z3n S,h,h2,Y7b,wd _ (show min i.toNat l.length<4611686018427387904 by omega)]
  rw[Y2,Z1 (on S _ _ [2,4,5,6,12] (by decide) rfl) rfl _ _ _ _ _ _ _ _ _ rfl]
  simp only[eG,go_sem,thq S,nbr S,zN0,zN1,zN2,zN3,zN4,zI0,zI1,zI2,zI3,reduceCtorEq,Z3n S]
  refine Zt6 S dp p of l r hl _ (Md.getR of r) ?_ _ _ (Nat.min_le_right _ _) (by omega)
  intro T h4 h6
  obtain rfl | rfl | rfl | rfl:r=0∨r=1∨r=2∨r=3:=by omega
  ·simp only[eG,go_sem,thq S,nbr S,zN0,zN1,zN2,zN3,zN4,zI0,zI1,zI2,zI3,reduceCtorEq,Z3n S,h4,h6,zI2,zI1,Int.toNat_zero,Int.reduceToNat,Nat.zero_mul,Md.getR];rfl
  ·simp only[eG,go_sem,thq S,nbr S,zN0,zN1,zN2,zN3,zN4,zI0,zI1,zI2,zI3,reduceCtorEq,Z3n S,h4,h6,zI2,zI1,Int.reduceToNat,Nat.one_mul,Md.getR];rfl
  ·simp only[eG,go_sem,thq S,nbr S,zN0,zN1,zN2,zN3,zN4,zI0,zI1,zI2,zI3,reduceCtorEq,Z3n S,h4,h6,zI2,zI1,Int.reduceToNat,Md.getR];rfl
  ·simp only[eG,go_sem,thq S,nbr S,zN0,zN1,zN2,zN3,zN4,zI0,zI1,zI2,zI3,reduceCtorEq,Z3n S,h4,h6,zI2,zI1,Int.reduceToNat,Md.getR];rfl
theorem Zpu (dp:Nat)(p_w p_wn p_fu p_r0 p_r1 p_r2 p_r3:Int)(p_ms:List MemT)(p_ls:List Label)(p_is:List Ins)(of_r0 of_r1 of_r2 of_r3:Int)(l:List Ent)(i r:Int)(hl:l.length<1073741824)(A:List Blk)(nb:Nat)(us:List Nat):Zb false E (evC E fn (dp+2)) 198 A nb (some ([.agg [vi p_w,vi p_wn,vi p_fu,vi p_r0,vi p_r1,vi p_r2,vi p_r3,rD p_ms,rD p_ls,rD p_is],.agg [vi of_r0,vi of_r1,vi of_r2,vi of_r3],rD l,vi i,vi r],us))=some (.made (.d (.tup [vi (Md.reg (⟨p_w,p_wn,p_fu,⟨p_r0,p_r1,p_r2,p_r3⟩,p_ms,p_ls,p_is⟩:Prog) (⟨of_r0,of_r1,of_r2,of_r3⟩:Regs) l i r).1,vb (Md.reg (⟨p_w,p_wn,p_fu,⟨p_r0,p_r1,p_r2,p_r3⟩,p_ms,p_ls,p_is⟩:Prog) (⟨of_r0,of_r1,of_r2,of_r3⟩:Regs) l i r).2])) []):=
 Zk.flat (Zqt S dp (⟨p_w,p_wn,p_fu,⟨p_r0,p_r1,p_r2,p_r3⟩,p_ms,p_ls,p_is⟩:Prog) (⟨of_r0,of_r1,of_r2,of_r3⟩:Regs) l i r hl) (np S 198 (by decide)) (rfl) A nb us
theorem Zqr (dp:Nat)(p:Prog)(of:Regs)(l:List Ent)(i:Int)(v:Val)(hl:l.length<1073741824):Zk E fn (dp+3) 132 [Zn p,.agg (Z5u of),rD l,vi i,.agg (Cl.cells v)] (.tup [vi (Md.val p of l i v).1,vb (Md.val p of l i v).2]):=by
 unfold Zk
 show Zh (evC E fn (dp+2+1) 132 [.d (Zn p),.d (.agg (Z5u of)),.d (rD l),.d (vi i),.d (.agg (Cl.cells v))] [])=_
 rw[Z2,S.Zpj,Z3,Zq3,Z6 _ _ _ _ _ _ _ _ rfl]
 cases h:v.reg<;>simp only[eG,go_sem,thq S,nbr S,zN0,zN1,zN2,zN3,zN4,zI0,zI1,zI2,zI3,reduceCtorEq,Y1d S,h,Md.val,Zpu S,hl,Y7 S]
theorem Zig (dp:Nat)(p_w p_wn p_fu p_r0 p_r1 p_r2 p_r3:Int)(p_ms:List MemT)(p_ls:List Label)(p_is:List Ins)(of_r0 of_r1 of_r2 of_r3:Int)(l:List Ent)(i:Int)(v_g:Bool)(v_n:Int)(hl:l.length<1073741824)(A:List Blk)(nb:Nat)(us:List Nat):Zb false E (evC E fn (dp+3)) 132 A nb (some ([.agg [vi p_w,vi p_wn,vi p_fu,vi p_r0,vi p_r1,vi p_r2,vi p_r3,rD p_ms,rD p_ls,rD p_is],.agg [vi of_r0,vi of_r1,vi of_r2,vi of_r3],rD l,vi i,.agg [vb v_g,vi v_n]],us))=some (.made (.d (.tup [vi (Md.val (⟨p_w,p_wn,p_fu,⟨p_r0,p_r1,p_r2,p_r3⟩,p_ms,p_ls,p_is⟩:Prog) (⟨of_r0,of_r1,of_r2,of_r3⟩:Regs) l i (⟨v_g,v_n⟩:Val)).1,vb (Md.val (⟨p_w,p_wn,p_fu,⟨p_r0,p_r1,p_r2,p_r3⟩,p_ms,p_ls,p_is⟩:Prog) (⟨of_r0,of_r1,of_r2,of_r3⟩:Regs) l i (⟨v_g,v_n⟩:Val)).2])) []):=
 Zk.flat (Zqr S dp (⟨p_w,p_wn,p_fu,⟨p_r0,p_r1,p_r2,p_r3⟩,p_ms,p_ls,p_is⟩:Prog) (⟨of_r0,of_r1,of_r2,of_r3⟩:Regs) l i (⟨v_g,v_n⟩:Val) hl) (np S 132 (by decide)) (rfl) A nb us
theorem Zhz (dp:Nat)(p:Prog)(l:List Ent)(i:Int)(hl:l.length<1073741824)(kx:Nat->K)
  (hx:∀ T,Zh (kx 0 (mk .bot 28 T) [.cells ((Yd p).map .d) 0 false])=some (vb false)):
  ∀(m k fuel:Nat),k+m=(Md.cut l i).length->m<=fuel->Zh (Z0k (inn E 197) (evC E fn (dp+1)) (Zi 6 Z0k (inn E 197) (evC E fn (dp+1)) kx (Z0u 0 [.tmp 6]) fuel) kx (Z0u 0 [.tmp 6])
   (mk .bot 28 [(1,.d (rD l)),(2,aI i),(3,.ref 0 0 0),(7,aI k)]) [.cells ((Yd p).map .d) 0 false])=
   some (vb (((Md.cut l i).drop k).any (Md.isFence p))):=by
 intro m
 have hcl:(Md.cut l i).length=min i.toNat l.length:=by simp[Md.cut]
 induction m with
 | zero=>
  intro k fuel hk _
  generalize Zi 6 Z0k _ _ kx _ fuel=KK
  rw[Z0k,List.drop_of_length_le (by omega)]
  by_cases h1:(k:Int)<i
  ·simp only [eG, go_sem, thq S, nbr S, zN0, zN1, zN2, zN3, zN4, zI0, zI1, zI2, zI3, reduceCtorEq, Zac S, h1, show ¬ (k : Int) < l.length by omega, List.any_nil]
   exact hx _
  ·simp only [eG, go_sem, thq S, nbr S, zN0, zN1, zN2, zN3, zN4, zI0, zI1, zI2, zI3, reduceCtorEq, Zac S, h1, List.any_nil]
   exact hx _
 | succ m ih=>
  intro k fuel hk hf
  obtain⟨e,he⟩:=Yz (show k<l.length by omega)
  have hc:(Md.cut l i)[k]? =some e:=by unfold Md.cut;rw[List.getElem?_take,if_pos (by omega),he]
  obtain⟨fuel,rfl⟩:∃ m,fuel=m+1:=⟨fuel-1,by omega⟩
  generalize hK:Zi 6 Z0k _ _ kx _ (fuel+1)=KK
  rw[Z0k,Z02 hc,List.any_cons]
  have h1:(k:Int)<i:=by omega
  have h2:(k:Int)<l.length:=by omega
  by_cases h3:(Md.at_ p e.pc).kind=10
  ·simp only[eG,go_sem,thq S,nbr S,zN0,zN1,zN2,zN3,zN4,zI0,zI1,zI2,zI3,reduceCtorEq,Zac S,Q4 he,cA7 S,wi k (by omega),h1,h2,h3,Md.isFence]
  ·simp only [eG, go_sem, thq S, nbr S, zN0, zN1, zN2, zN3, zN4, zI0, zI1, zI2, zI3, reduceCtorEq, Zac S, Q4 he, cA7 S, wi k (by omega), h1, h2, h3, Md.isFence]
   rw[<-hK,Z1 (on S _ _ [1,2,3,7] (by decide) rfl) rfl _ _ _ _ _ _ _ _ _ rfl]
   simp only[eG,go_sem,thq S,nbr S,zN0,zN1,zN2,zN3,zN4,zI0,zI1,zI2,zI3,reduceCtorEq,Zac S,Q4 he,cA7 S,wi k (by omega),h1,h2]
   exact ih (k+1) fuel (by omega) (by omega)
theorem Zeq (dp:Nat)(p:Prog)(l:List Ent)(i:Int)(hl:l.length<1073741824):Zk E fn (dp+2) 197 [Zn p,rD l,vi i] (vb (Md.blocked p l i)):=by
 unfold Zk
 show Zh (evC E fn (dp+1+1) 197 [.d (Zn p),.d (rD l),.d (vi i)] [])=_
 rw[Z2,S.Zam,Z3,Zb6,Z6 _ _ _ _ _ _ _ _ rfl]
 simp only[eG,go_sem,thq S,nbr S,zN0,zN1,zN2,zN3,zN4,zI0,zI1,zI2,zI3,reduceCtorEq,Zac S]
 rw[Y2,Z1 (on S _ _ [1,2,3,7] (by decide) rfl) rfl _ _ _ _ _ _ _ _ _ rfl]
 simp only[eG,go_sem,thq S,nbr S,zN0,zN1,zN2,zN3,zN4,zI0,zI1,zI2,zI3,reduceCtorEq,Zac S]
 refine Zhz S dp p l i hl _ ?_ (Md.cut l i).length 0 _ (by omega) (by have:=Z4d l i;omega)
 intro T
 simp only[eG,go_sem,thq S,nbr S,zN0,zN1,zN2,zN3,zN4,zI0,zI1,zI2,zI3,reduceCtorEq,Zac S]
theorem Zll (dp:Nat)(p_w p_wn p_fu p_r0 p_r1 p_r2 p_r3:Int)(p_ms:List MemT)(p_ls:List Label)(p_is:List Ins)(l:List Ent)(i:Int)(hl:l.length<1073741824)(A:List Blk)(nb:Nat)(us:List Nat):Zb false E (evC E fn (dp+2)) 197 A nb (some ([.agg [vi p_w,vi p_wn,vi p_fu,vi p_r0,vi p_r1,vi p_r2,vi p_r3,rD p_ms,rD p_ls,rD p_is],rD l,vi i],us))=some (.made (.d (vb (Md.blocked (⟨p_w,p_wn,p_fu,⟨p_r0,p_r1,p_r2,p_r3⟩,p_ms,p_ls,p_is⟩:Prog) l i))) []):=
 Zk.flat (Zeq S dp (⟨p_w,p_wn,p_fu,⟨p_r0,p_r1,p_r2,p_r3⟩,p_ms,p_ls,p_is⟩:Prog) l i hl) (np S 197 (by decide)) (rfl) A nb us
theorem Zr2 (dp:Nat)(p:Prog)(mem:List Int)(l:List Ent)(addr:Int)(hl:l.length<1073741824)(kx:Nat->K)
  (hx:∀ T,Z01 .bot T 1=.d (rD mem)->Z01 .bot T 4=aI addr->Zh (kx 0 (mk .bot 73 T) [.cells ((Yd p).map .d) 0 false])=some (.tup [vi (Md.loadGo p mem addr []).1,vi (Md.loadGo p mem addr []).2.1,vb (Md.loadGo p mem addr []).2.2])):
  ∀(k fuel:Nat),k<=l.length->k<fuel->Zh (Z2p (inn E 131) (evC E fn (dp+1)) (Zi 6 Z2p (inn E 131) (evC E fn (dp+1)) kx (Z0u 0 [.tmp 10,.tmp 11,.tmp 12]) fuel) kx (Z0u 0 [.tmp 10,.tmp 11,.tmp 12])
   (mk .bot 73 [(1,.d (rD mem)),(2,.d (rD l)),(4,aI addr),(5,.ref 0 0 0),(13,aI ((k:Int)-1))]) [.cells ((Yd p).map .d) 0 false])=
   some (.tup [vi (Md.loadGo p mem addr (l.take k).reverse).1,vi (Md.loadGo p mem addr (l.take k).reverse).2.1,vb (Md.loadGo p mem addr (l.take k).reverse).2.2]):=by
 intro k
 induction k with
 | zero=>
  intro fuel _ hf
  generalize Zi 6 Z2p _ _ kx _ fuel=KK
  rw[Z2p]
  simp only[eG,go_sem,thq S,nbr S,zN0,zN1,zN2,zN3,zN4,zI0,zI1,zI2,zI3,reduceCtorEq,Z4n S,show ¬(((0:Nat):Int)-1>=0) by omega,List.take_zero,List.reverse_nil]
  exact hx _ rfl rfl
 | succ k ih=>
  intro fuel hk hf
  obtain⟨e,he⟩:=Yz (show k<l.length by omega)
  obtain⟨fuel,rfl⟩:∃ m,fuel=m+1:=⟨fuel-1,by omega⟩
  rw[show(((k+1:Nat):Int)-1)=(k:Int) by omega,Zbo he]
  generalize hK:Zi 6 Z2p _ _ kx _ (fuel+1)=KK
  rw[Z2p]
  have hlen:(l.take k).reverse.length=k:=by simp;omega
  by_cases h1:(Md.at_ p e.pc).kind=3
  ·cases h2 : e.known with
   | true=>
    by_cases h3:e.addr=addr
    ·cases h4:e.done<;>simp only[eG,go_sem,thq S,nbr S,zN0,zN1,zN2,zN3,zN4,zI0,zI1,zI2,zI3,reduceCtorEq,Z4n S,Q4 he,cA7 S,Int.natCast_nonneg,ge_iff_le,wd k (by omega),h1,h2,h3,h4,Md.loadGo,Md.hitS,hlen]
    ·simp only [eG, go_sem, thq S, nbr S, zN0, zN1, zN2, zN3, zN4, zI0, zI1, zI2, zI3, reduceCtorEq, Z4n S, Q4 he, cA7 S, Int.natCast_nonneg, ge_iff_le, wd k (by omega), h1, h2, h3, Md.loadGo, Md.hitS]
     rw[<-hK,Z1 (on S _ _ [1,2,4,5,13] (by decide) rfl) rfl _ _ _ _ _ _ _ _ _ rfl]
     simp only[eG,go_sem,thq S,nbr S,zN0,zN1,zN2,zN3,zN4,zI0,zI1,zI2,zI3,reduceCtorEq,Z4n S,Q4 he,cA7 S,Int.natCast_nonneg,ge_iff_le,wd k (by omega)]
     exact ih fuel (by omega) (by omega)
   | false=>
    simp only[eG,go_sem,thq S,nbr S,zN0,zN1,zN2,zN3,zN4,zI0,zI1,zI2,zI3,reduceCtorEq,Z4n S,Q4 he,cA7 S,Int.natCast_nonneg,ge_iff_le,wd k (by omega),h1,h2,Md.loadGo,Md.hitS]
    rw[<-hK,Z1 (on S _ _ [1,2,4,5,13] (by decide) rfl) rfl _ _ _ _ _ _ _ _ _ rfl]
    simp only[eG,go_sem,thq S,nbr S,zN0,zN1,zN2,zN3,zN4,zI0,zI1,zI2,zI3,reduceCtorEq,Z4n S,Q4 he,cA7 S,Int.natCast_nonneg,ge_iff_le,wd k (by omega)]
    exact ih fuel (by omega) (by omega)
  ·simp only [eG, go_sem, thq S, nbr S, zN0, zN1, zN2, zN3, zN4, zI0, zI1, zI2, zI3, reduceCtorEq, Z4n S, Q4 he, cA7 S, Int.natCast_nonneg, ge_iff_le, wd k (by omega), h1, Md.loadGo, Md.hitS]
   rw[<-hK,Z1 (on S _ _ [1,2,4,5,13] (by decide) rfl) rfl _ _ _ _ _ _ _ _ _ rfl]
   simp only[eG,go_sem,thq S,nbr S,zN0,zN1,zN2,zN3,zN4,zI0,zI1,zI2,zI3,reduceCtorEq,Z4n S,Q4 he,cA7 S,Int.natCast_nonneg,ge_iff_le,wd k (by omega)]
   exact ih fuel (by omega) (by omega)
theorem Zn6 (dp:Nat)(p:Prog)(mem:List Int)(l:List Ent)(i addr:Int)(hl:l.length<1073741824):Zk E fn (dp+2) 131 [Zn p,rD mem,rD l,vi i,vi addr] (.tup [vi (Md.load p mem l i addr).1,vi (Md.load p mem l i addr).2.1,vb (Md.load p mem l i addr).2.2]):=by
 unfold Zk
 show Zh (evC E fn (dp+1+1) 131 [.d (Zn p),.d (rD mem),.d (rD l),.d (vi i),.d (vi addr)] [])=_
 rw[Z2,S.Zkr,Z3,Zm7,Z6 _ _ _ _ _ _ _ _ rfl]
 have e:Md.load p mem l i addr=Md.loadGo p mem addr (l.take (min i.toNat l.length)).reverse:=by unfold Md.load;rw[Ztx]
 rw[e]
 simp only[eG,go_sem,thq S,nbr S,zN0,zN1,zN2,zN3,zN4,zI0,zI1,zI2,zI3,reduceCtorEq,Z4n S,Y7b,wd _ (show min i.toNat l.length<4611686018427387904 by omega)]
 rw[Y2,Z1 (on S _ _ [1,2,4,5,13] (by decide) rfl) rfl _ _ _ _ _ _ _ _ _ rfl]
 simp only[eG,go_sem,thq S,nbr S,zN0,zN1,zN2,zN3,zN4,zI0,zI1,zI2,zI3,reduceCtorEq,Z4n S]
 refine Zr2 S dp p mem l addr hl _ ?_ _ _ (Nat.min_le_right _ _) (by omega)
 intro T h1 h4
 by_cases h:addr<0
 ·simp only[eG,go_sem,thq S,nbr S,zN0,zN1,zN2,zN3,zN4,zI0,zI1,zI2,zI3,reduceCtorEq,Z4n S,h1,h4,h,Md.loadGo]
 ·by_cases h2 : (mem.length : Int) <= addr
  ·simp only[eG,go_sem,thq S,nbr S,zN0,zN1,zN2,zN3,zN4,zI0,zI1,zI2,zI3,reduceCtorEq,Z4n S,h1,h4,h,ge_iff_le,h2,Md.loadGo]
  ·obtain ⟨e, he⟩ := Yz (show addr.toNat < mem.length by omega)
   simp only[eG,go_sem,thq S,nbr S,zN0,zN1,zN2,zN3,zN4,zI0,zI1,zI2,zI3,reduceCtorEq,Z4n S,h1,h4,h,ge_iff_le,h2,Md.loadGo,Z7r (show 0<=addr by omega) he,he,Option.getD_some]
theorem Q9 (dp:Nat)(p_w p_wn p_fu p_r0 p_r1 p_r2 p_r3:Int)(p_ms:List MemT)(p_ls:List Label)(p_is:List Ins)(mem:List Int)(l:List Ent)(i addr:Int)(hl:l.length<1073741824)(A:List Blk)(nb:Nat)(us:List Nat):Zb false E (evC E fn (dp+2)) 131 A nb (some ([.agg [vi p_w,vi p_wn,vi p_fu,vi p_r0,vi p_r1,vi p_r2,vi p_r3,rD p_ms,rD p_ls,rD p_is],rD mem,rD l,vi i,vi addr],us))=some (.made (.d (.tup [vi (Md.load (⟨p_w,p_wn,p_fu,⟨p_r0,p_r1,p_r2,p_r3⟩,p_ms,p_ls,p_is⟩:Prog) mem l i addr).1,vi (Md.load (⟨p_w,p_wn,p_fu,⟨p_r0,p_r1,p_r2,p_r3⟩,p_ms,p_ls,p_is⟩:Prog) mem l i addr).2.1,vb (Md.load (⟨p_w,p_wn,p_fu,⟨p_r0,p_r1,p_r2,p_r3⟩,p_ms,p_ls,p_is⟩:Prog) mem l i addr).2.2])) []):=
 Zk.flat (Zn6 S dp (⟨p_w,p_wn,p_fu,⟨p_r0,p_r1,p_r2,p_r3⟩,p_ms,p_ls,p_is⟩:Prog) mem l i addr hl) (np S 131 (by decide)) (rfl) A nb us
end
end Go.Aug.Mc
namespace Go.Aug.Md
open Go Go.Aug
def ent0:Ent:=⟨0,0,0,0,0,false,false,false⟩
def entAt (l:List Ent)(i:Int):Ent:=(l[i.toNat]?).getD ent0
def openM (p:Prog)(c:Conf)(i:Int):Bool:=c.end_==0&&decide (0<=i)&&decide (i<c.buf.length)&& !blocked p c.buf i
def insM (p:Prog)(c:Conf)(i:Int):Ins:=at_ p (entAt c.buf i).pc
def valM (p:Prog)(c:Conf)(i:Int)(v:Val):Int×Bool:=val p c.state.regs c.buf i v
def regM (p:Prog)(c:Conf)(i r:Int):Int×Bool:=reg p c.state.regs c.buf i r
def loadM (p:Prog)(c:Conf)(i addr:Int):Int×Int×Bool:=load p c.state.mem c.buf i addr
def ready (N:Int)(p:Prog)(c:Conf)(i:Int)(x:Ins)(a b d:Int×Bool):Bool:=
 if x.kind=1∨x.kind=5 then a.2&&b.2
 else if x.kind=4 then a.2&&b.2&&d.2
 else if x.kind=2 then a.2&&b.2&&(decide (mask p.w (a.1+b.1)>=N) || (loadM p c i (mask p.w (a.1+b.1))).2.2)
 else if x.kind=3 then d.2
 else if x.kind=7 then a.2
 else decide (x.kind=9)
def can (N:Int)(p:Prog)(c:Conf)(i:Int):Bool:=
 openM p c i&& !(entAt c.buf i).done&&ready N p c i (insM p c i) (valM p c i (insM p c i).a) (valM p c i (insM p c i).b) (regM p c i (insM p c i).d)
def put (c:Conf)(i:Int)(e:Ent):Conf:={ c with buf:=c.buf.set i.toNat e }
def goesM (c:Conf)(i:Int)(e:Ent)(to:Int):Conf×List Obs:=
 (if e.next = to then put c i { e with done := true }
  else { c with buf:=(c.buf.set i.toNat { e with done:=true,next:=to }).take (i.toNat+1),state:={ c.state with pc:=to } },[⟨3,to⟩])
def conf0:Conf:=⟨⟨⟨0,0,0,0⟩,[],[],0⟩,[],[],0⟩
def lastI (l:List Int):Int:=l.getLast?.getD 0
def doK (N:Int)(p:Prog)(c:Conf)(i:Int)(e:Ent)(x:Ins)(a b d:Int):Conf×List Obs:=
 if x.kind=1 then(put c i { e with val:=wdo p.w x.op a b,done:=true },[])
 else if x.kind=4 then(put c i { e with val:=if a=0 then d else b,done:=true },[])
 else if x.kind=3 then(put c i { e with val:=d,done:=true },[])
 else if x.kind=2 then
  (if mask p.w (a + b) >= N then (put c i ⟨e.pc, 0, mask p.w (a + b), -1, e.next, true, true, true⟩, [])
   else(put c i ⟨e.pc,(loadM p c i (mask p.w (a+b))).1,mask p.w (a+b),(loadM p c i (mask p.w (a+b))).2.1,e.next,true,true,e.fault⟩,[⟨1,mask p.w (a+b)⟩]))
 else if x.kind=5 then goesM c i e (if wdo p.w x.op a b=0 then w64 (e.pc+1) else x.target)
 else if x.kind=7 then goesM c i e (min a p.ins.length)
 else if x.kind=9 then
  (match real p c.state.stack c.buf i with
   | none=>(put c i { e with done:=true,fault:=true },[])
   | some l=>if l.length=0 then(put c i { e with done:=true,fault:=true },[]) else goesM c i e (lastI l))
 else(put c i { e with done:=true },[])
def doM (N:Int)(p:Prog)(c:Conf)(i:Int):Conf×List Obs:=
 doK N p c i (entAt c.buf i) (insM p c i) (valM p c i (insM p c i).a).1 (valM p c i (insM p c i).b).1 (regM p c i (insM p c i).d).1
def canAddr (p:Prog)(c:Conf)(i:Int):Bool:=
 openM p c i&& !(entAt c.buf i).known&&decide ((insM p c i).kind=3)&&(valM p c i (insM p c i).a).2&&(valM p c i (insM p c i).b).2
def addrOf (p:Prog)(c:Conf)(i:Int):Int:=mask p.w ((valM p c i (insM p c i).a).1+(valM p c i (insM p c i).b).1)
def drop1 (p:Prog)(c:Conf)(i addr:Int)(l:List Ent):Conf:=
 bif (hazard p l i addr).2 then { c with buf:=l.take (hazard p l i addr).1.toNat,state:={ c.state with pc:=(entAt l (hazard p l i addr).1).pc } } else { c with buf:=l }
def addrK (N:Int)(p:Prog)(c:Conf)(i:Int)(e:Ent)(addr:Int):Conf×List Obs:=
 if addr>=N then(put c i { e with addr:=addr,known:=true,fault:=true },[])
 else(drop1 p c i addr (c.buf.set i.toNat { e with addr:=addr,known:=true,fault:=false }),[⟨2,addr⟩])
def addrM (N:Int)(p:Prog)(c:Conf)(i:Int):Conf×List Obs:=addrK N p c i (entAt c.buf i) (addrOf p c i)
def guesses (p:Prog)(c:Conf):Int:=
 if c.end_≠0∨c.state.pc= -1∨(c.buf.length:Int)>=p.window then 0
 else if(at_ p c.state.pc).kind=5 then 2
 else if(at_ p c.state.pc).kind=7∨(at_ p c.state.pc).kind=9/\c.rsb.length=0 then p.ins.length+1
 else 1
def entry (p:Prog)(c:Conf)(g:Int):Ent×List Int:=
 let pc:=c.state.pc
 let x:=at_ p pc
 let e:Ent:=⟨pc,0,0,-1,w64 (pc+1),false,false,false⟩
 if x.kind=5 then({ e with next:=if g=1 then x.target else w64 (pc+1) },c.rsb)
 else if x.kind=6 then({ e with next:=x.target,done:=true },c.rsb)
 else if x.kind=7 then({ e with next:=g },c.rsb)
 else if x.kind=8 then({ e with next:=x.target,done:=true,fault:=match real p c.state.stack c.buf c.buf.length with | none=>true | some l=>decide (4<=l.length) },push c.rsb (w64 (pc+1)))
 else if x.kind=9 then(if c.rsb.length=0 then({ e with next:=g },c.rsb) else({ e with next:=lastI c.rsb },c.rsb.dropLast))
 else if x.kind=11∨x.kind=12 then({ e with next:= -1,done:=true },c.rsb)
 else(e,c.rsb)
def canFetch (p:Prog)(c:Conf)(g:Int):Bool:=decide (0<=g)&&decide (g<guesses p c)
def fetch (p:Prog)(c:Conf)(g:Int):Conf:=
 {c with buf:=c.buf++[(entry p c g).1],rsb:=(entry p c g).2,state:={ c.state with pc:=(entry p c g).1.next } }
def canRetire (p:Prog)(c:Conf):Bool:=
 c.end_==0&&decide (c.buf.length≠0)&&((entAt c.buf 0).done || decide ((at_ p (entAt c.buf 0).pc).kind=10))&&(decide ((at_ p (entAt c.buf 0).pc).kind≠3) || (entAt c.buf 0).known)
def popE (e:Ent):Ent:=if 0<=e.frm then { e with frm:=w64 (e.frm-1) } else e
def popL (l:List Ent):List Ent:=(l.drop 1).map popE
def endedM (e:Ent)(x:Ins):Int:=bif e.fault || decide (x.kind=12) then 2 else if x.kind=11 then 1 else 0
def commitM (s:State)(e:Ent)(x:Ins):State:=
 if x.kind=1∨x.kind=2∨x.kind=4 then { s with regs:=setR s.regs x.d e.val }
 else if x.kind=3 then(if 0<=e.addr/\e.addr<s.mem.length then { s with mem:=s.mem.set e.addr.toNat e.val } else s)
 else if x.kind=8 then { s with stack:=s.stack++[w64 (e.pc+1)] }
 else if x.kind=9 then { s with stack:=s.stack.dropLast }
 else s
def retire (p:Prog)(c:Conf):Conf:=
 let e:=entAt c.buf 0
 let x:=at_ p e.pc
 if endedM e x=0 then { c with buf:=popL c.buf,state:=commitM c.state e x }
 else { c with buf:=[],rsb:=[],end_:=endedM e x,state:={ c.state with pc:=e.pc } }
def all (N:Int)(p:Prog)(c:Conf):List Dir:=
 ((List.range (guesses p c).toNat).map fun n:Nat=>(⟨1,(n:Int)⟩:Dir))++
 (((List.range c.buf.length).filter fun n:Nat=>can N p c (n:Int)).map fun n:Nat=>(⟨2,(n:Int)⟩:Dir))++
 (((List.range c.buf.length).filter fun n:Nat=>canAddr p c (n:Int)).map fun n:Nat=>(⟨3,(n:Int)⟩:Dir))++
 (bif canRetire p c then[⟨4,0⟩] else[])
def canSay (N:Int)(p:Prog)(c:Conf)(d:Dir):Bool:=
 if d.kind=1 then canFetch p c d.n else if d.kind=2 then can N p c d.n else if d.kind=3 then canAddr p c d.n
 else decide (d.kind=4)&&decide (d.n=0)&&canRetire p c
def say (N:Int)(p:Prog)(c:Conf)(d:Dir):Conf×List Obs:=
 if d.kind=1 then(fetch p c d.n,[]) else if d.kind=2 then doM N p c d.n else if d.kind=3 then addrM N p c d.n else(retire p c,[])
end Go.Aug.Md
namespace Go.Aug.Mc
open Go Go.Aug
open Nat renaming reduceLT -> zN0, reduceEqDiff -> zN1, reduceAdd -> zN2, reduceMul -> zN3, reduceLeDiff -> zN4
open Int renaming reduceEq -> zI0, reduceLT -> zI1, reduceLE -> zI2, reduceNeg -> zI3
set_option linter.unusedSimpArgs false
set_option linter.unusedVariables false
set_option maxHeartbeats 40000000
theorem Z51 {p:Prog}{c:Conf}{i:Int}(h:Md.openM p c i=true):0<=i/\c.buf[i.toNat]? =some (Md.entAt c.buf i)/\i<c.buf.length:=by
 simp only[Md.openM,Bool.and_eq_true,decide_eq_true_eq] at h
 obtain⟨e,he⟩:=Yz (show i.toNat<c.buf.length by omega)
 exact⟨h.1.1.2,by rw[Md.entAt,he];rfl,h.1.2⟩
variable {E:Env} {fn:FuncId->Option (Env->cT->cT)}
section
variable (S:Sur E fn)
include S
theorem Zvj:E.lives 77 7=none/\E.lives 77 17=none/\E.lives 77 19=none/\E.lives 77 23=none/\E.lives 77 27=none/\E.lives 77 35=none/\E.lives 77 39=none:=⟨off S 77 7 (by decide) rfl,off S 77 17 (by decide) rfl,off S 77 19 (by decide) rfl,off S 77 23 (by decide) rfl,off S 77 27 (by decide) rfl,off S 77 35 (by decide) rfl,off S 77 39 (by decide) rfl⟩
theorem Za8 (dp:Nat)(s:State):Zk E fn (dp+1) 17 [Z0y s] (Zv ⟨s,[],[],0⟩):=by
 unfold Zk
 show Zh (evC E fn (dp+1) 17 [.d (Z0y s)] [])=_
 rw[Z2,S.Zg2,Z3,Zgv,Z6 _ _ _ _ _ _ _ _ rfl]
 simp only[eG,go_sem,thq S,nbr S,zN0,zN1,zN2,zN3,zN4,zI0,zI1,zI2,zI3,reduceCtorEq]
theorem Zrc (dp:Nat)(s_r0 s_r1 s_r2 s_r3:Int)(s_mm s_st:List Int)(s_pc:Int)(A:List Blk)(nb:Nat):Zb false E (evC E fn (dp+1)) 17 A nb (some ([.agg [vi s_r0,vi s_r1,vi s_r2,vi s_r3,rD s_mm,rD s_st,vi s_pc]],[]))=some (.made (.d (Zv ⟨(⟨⟨s_r0,s_r1,s_r2,s_r3⟩,s_mm,s_st,s_pc⟩:State),[],[],0⟩)) []):=
 Zk.deep (Za8 S dp (⟨⟨s_r0,s_r1,s_r2,s_r3⟩,s_mm,s_st,s_pc⟩:State) ) (np S 17 (by decide)) A nb
theorem Zn2 (dp:Nat)(p:Prog)(c:Conf)(i:Int)(hl:c.buf.length<1073741824):Zk E fn (dp+3) 129 [Zn p,Zv c,vi i] (vb (Md.openM p c i)):=by
 unfold Zk
 show Zh (evC E fn (dp+2+1) 129 [.d (Zn p),.d (Zv c),.d (vi i)] [])=_
 rw[Z2,S.Zkn,Z3,Zm3,Z6 _ _ _ _ _ _ _ _ rfl]
 by_cases h1:c.end_=0
 ·by_cases h2 : 0 <= i
  ·by_cases h3 : i < c.buf.length
   ·simp only[eG,go_sem,thq S,nbr S,zN0,zN1,zN2,zN3,zN4,zI0,zI1,zI2,zI3,reduceCtorEq,h1,h2,h3,ge_iff_le,Zll S,hl,Md.openM]
   ·simp only[eG,go_sem,thq S,nbr S,zN0,zN1,zN2,zN3,zN4,zI0,zI1,zI2,zI3,reduceCtorEq,h1,h2,h3,ge_iff_le,Md.openM]
  ·simp only[eG,go_sem,thq S,nbr S,zN0,zN1,zN2,zN3,zN4,zI0,zI1,zI2,zI3,reduceCtorEq,h1,h2,ge_iff_le,Md.openM]
 ·simp only[eG,go_sem,thq S,nbr S,zN0,zN1,zN2,zN3,zN4,zI0,zI1,zI2,zI3,reduceCtorEq,h1,Md.openM]
theorem Z35 (dp:Nat)(p_w p_wn p_fu p_r0 p_r1 p_r2 p_r3:Int)(p_ms:List MemT)(p_ls:List Label)(p_is:List Ins)(c_r0 c_r1 c_r2 c_r3:Int)(c_mm c_st:List Int)(c_pc:Int)(c_bf:List Ent)(c_rb:List Int)(c_en i:Int)(hl:(⟨⟨⟨c_r0,c_r1,c_r2,c_r3⟩,c_mm,c_st,c_pc⟩,c_bf,c_rb,c_en⟩:Conf).buf.length<1073741824)(A:List Blk)(nb:Nat)(us:List Nat):Zb false E (evC E fn (dp+3)) 129 A nb (some ([.agg [vi p_w,vi p_wn,vi p_fu,vi p_r0,vi p_r1,vi p_r2,vi p_r3,rD p_ms,rD p_ls,rD p_is],.agg [vi c_r0,vi c_r1,vi c_r2,vi c_r3,rD c_mm,rD c_st,vi c_pc,rD c_bf,rD c_rb,vi c_en],vi i],us))=some (.made (.d (vb (Md.openM (⟨p_w,p_wn,p_fu,⟨p_r0,p_r1,p_r2,p_r3⟩,p_ms,p_ls,p_is⟩:Prog) (⟨⟨⟨c_r0,c_r1,c_r2,c_r3⟩,c_mm,c_st,c_pc⟩,c_bf,c_rb,c_en⟩:Conf) i))) []):=
 Zk.flat (Zn2 S dp (⟨p_w,p_wn,p_fu,⟨p_r0,p_r1,p_r2,p_r3⟩,p_ms,p_ls,p_is⟩:Prog) (⟨⟨⟨c_r0,c_r1,c_r2,c_r3⟩,c_mm,c_st,c_pc⟩,c_bf,c_rb,c_en⟩:Conf) i hl) (np S 129 (by decide)) (rfl) A nb us
theorem Zn1 (dp:Nat)(p:Prog)(c:Conf)(i:Int)(x:Ins)(hl:c.buf.length<1073741824):Zk E fn (dp+4) 130 [Zn p,Zv c,vi i,.agg (Cl.cells x)] (.tup [vi (Md.valM p c i x.a).1,vi (Md.valM p c i x.b).1,vi (Md.regM p c i x.d).1,vb ((Md.valM p c i x.a).2&&(Md.valM p c i x.b).2),vb (Md.regM p c i x.d).2]):=by
 unfold Zk
 show Zh (evC E fn (dp+3+1) 130 [.d (Zn p),.d (Zv c),.d (vi i),.d (.agg (Cl.cells x))] [])=_
 rw[Z2,S.Zkm,Z3,Zm2,Z6 _ _ _ _ _ _ _ _ rfl]
 cases h:(Md.val p c.state.regs c.buf i x.a).2<;>simp only[eG,go_sem,thq S,nbr S,zN0,zN1,zN2,zN3,zN4,zI0,zI1,zI2,zI3,reduceCtorEq,h,Zig S,Zpu S,hl,Md.valM,Md.regM]
theorem Ya (dp:Nat)(p_w p_wn p_fu p_r0 p_r1 p_r2 p_r3:Int)(p_ms:List MemT)(p_ls:List Label)(p_is:List Ins)(c_r0 c_r1 c_r2 c_r3:Int)(c_mm c_st:List Int)(c_pc:Int)(c_bf:List Ent)(c_rb:List Int)(c_en i x_k x_o x_d:Int)(x_ag:Bool)(x_an:Int)(x_bg:Bool)(x_bn:Int)(x_nm:ByteArray)(x_tg:Int)(hl:(⟨⟨⟨c_r0,c_r1,c_r2,c_r3⟩,c_mm,c_st,c_pc⟩,c_bf,c_rb,c_en⟩:Conf).buf.length<1073741824)(A:List Blk)(nb:Nat)(us:List Nat):Zb false E (evC E fn (dp+4)) 130 A nb (some ([.agg [vi p_w,vi p_wn,vi p_fu,vi p_r0,vi p_r1,vi p_r2,vi p_r3,rD p_ms,rD p_ls,rD p_is],.agg [vi c_r0,vi c_r1,vi c_r2,vi c_r3,rD c_mm,rD c_st,vi c_pc,rD c_bf,rD c_rb,vi c_en],vi i,.agg [vi x_k,vi x_o,vi x_d,vb x_ag,vi x_an,vb x_bg,vi x_bn,vt x_nm,vi x_tg]],us))=some (.made (.d (.tup [vi (Md.valM (⟨p_w,p_wn,p_fu,⟨p_r0,p_r1,p_r2,p_r3⟩,p_ms,p_ls,p_is⟩:Prog) (⟨⟨⟨c_r0,c_r1,c_r2,c_r3⟩,c_mm,c_st,c_pc⟩,c_bf,c_rb,c_en⟩:Conf) i (⟨x_k,x_o,x_d,⟨x_ag,x_an⟩,⟨x_bg,x_bn⟩,x_nm,x_tg⟩:Ins).a).1,vi (Md.valM (⟨p_w,p_wn,p_fu,⟨p_r0,p_r1,p_r2,p_r3⟩,p_ms,p_ls,p_is⟩:Prog) (⟨⟨⟨c_r0,c_r1,c_r2,c_r3⟩,c_mm,c_st,c_pc⟩,c_bf,c_rb,c_en⟩:Conf) i (⟨x_k,x_o,x_d,⟨x_ag,x_an⟩,⟨x_bg,x_bn⟩,x_nm,x_tg⟩:Ins).b).1,vi (Md.regM (⟨p_w,p_wn,p_fu,⟨p_r0,p_r1,p_r2,p_r3⟩,p_ms,p_ls,p_is⟩:Prog) (⟨⟨⟨c_r0,c_r1,c_r2,c_r3⟩,c_mm,c_st,c_pc⟩,c_bf,c_rb,c_en⟩:Conf) i (⟨x_k,x_o,x_d,⟨x_ag,x_an⟩,⟨x_bg,x_bn⟩,x_nm,x_tg⟩:Ins).d).1,vb ((Md.valM (⟨p_w,p_wn,p_fu,⟨p_r0,p_r1,p_r2,p_r3⟩,p_ms,p_ls,p_is⟩:Prog) (⟨⟨⟨c_r0,c_r1,c_r2,c_r3⟩,c_mm,c_st,c_pc⟩,c_bf,c_rb,c_en⟩:Conf) i (⟨x_k,x_o,x_d,⟨x_ag,x_an⟩,⟨x_bg,x_bn⟩,x_nm,x_tg⟩:Ins).a).2&&(Md.valM (⟨p_w,p_wn,p_fu,⟨p_r0,p_r1,p_r2,p_r3⟩,p_ms,p_ls,p_is⟩:Prog) (⟨⟨⟨c_r0,c_r1,c_r2,c_r3⟩,c_mm,c_st,c_pc⟩,c_bf,c_rb,c_en⟩:Conf) i (⟨x_k,x_o,x_d,⟨x_ag,x_an⟩,⟨x_bg,x_bn⟩,x_nm,x_tg⟩:Ins).b).2),vb (Md.regM (⟨p_w,p_wn,p_fu,⟨p_r0,p_r1,p_r2,p_r3⟩,p_ms,p_ls,p_is⟩:Prog) (⟨⟨⟨c_r0,c_r1,c_r2,c_r3⟩,c_mm,c_st,c_pc⟩,c_bf,c_rb,c_en⟩:Conf) i (⟨x_k,x_o,x_d,⟨x_ag,x_an⟩,⟨x_bg,x_bn⟩,x_nm,x_tg⟩:Ins).d).2])) []):=
 Zk.flat (Zn1 S dp (⟨p_w,p_wn,p_fu,⟨p_r0,p_r1,p_r2,p_r3⟩,p_ms,p_ls,p_is⟩:Prog) (⟨⟨⟨c_r0,c_r1,c_r2,c_r3⟩,c_mm,c_st,c_pc⟩,c_bf,c_rb,c_en⟩:Conf) i (⟨x_k,x_o,x_d,⟨x_ag,x_an⟩,⟨x_bg,x_bn⟩,x_nm,x_tg⟩:Ins) hl) (np S 130 (by decide)) (rfl) A nb us
theorem Zqv (dp:Nat)(p:Prog)(c:Conf)(i:Int)(hl:c.buf.length<1073741824):Zk E fn (dp+5) 77 [Zn p,Zv c,vi i] (vb (Md.can (c.state.mem.length:Int) p c i)):=by
 unfold Zk
 show Zh (evC E fn (dp+4+1) 77 [.d (Zn p),.d (Zv c),.d (vi i)] [])=_
 rw[Z2,S.Zpn,Z3,Zq7,Z6 _ _ _ _ _ _ _ _ rfl]
 cases ho:Md.openM p c i with
 | false=>simp only[eG,go_sem,thq S,nbr S,zN0,zN1,zN2,zN3,zN4,zI0,zI1,zI2,zI3,reduceCtorEq,Zvj S,Z35 S,hl,ho,Md.can]
 | true=>
  obtain⟨h0,he,_⟩:=Z51 ho
  cases hd:(Md.entAt c.buf i).done with
  | true=>simp only[eG,go_sem,thq S,nbr S,zN0,zN1,zN2,zN3,zN4,zI0,zI1,zI2,zI3,reduceCtorEq,Zvj S,Z35 S,hl,ho,Z7r h0 he,hd,Md.can]
  | false=>
   simp only[eG,go_sem,thq S,nbr S,zN0,zN1,zN2,zN3,zN4,zI0,zI1,zI2,zI3,reduceCtorEq,Zvj S,Z35 S,hl,ho,Z7r h0 he,hd,Md.can,cA7 S,Ya S,Y7 S,Q9 S,Zig S,Md.mask_wrap]
   have hm:Md.insM p c i=Md.at_ p (Md.entAt c.buf i).pc:=rfl
   rw[hm]
   generalize hx:Md.at_ p (Md.entAt c.buf i).pc=x
   cases hab:((Md.valM p c i x.a).2&&(Md.valM p c i x.b).2)<;>by_cases hN:Md.mask p.w ((Md.valM p c i x.a).1+(Md.valM p c i x.b).1)>=(c.state.mem.length:Int)
   all_goals
    simp only[eG,go_sem,thq S,nbr S,zN0,zN1,zN2,zN3,zN4,zI0,zI1,zI2,zI3,reduceCtorEq,Zvj S,hab,hN,Z35 S,hl,ho,Z7r h0 he,hd,Md.can,cA7 S,Ya S,Y7 S,Q9 S,Zig S,Md.mask_wrap]
    by_cases k1:x.kind=1
    ·simp only[k1,Md.ready,hab,if_true,decide_true,cond_true,true_or]
    by_cases k5:x.kind=5
    ·simp only[k5,Md.ready,hab,if_true,decide_true,cond_true,or_true,zI0,decide_false,cond_false]
    by_cases k4:x.kind=4
    ·simp only[k4,Md.ready,hab,if_true,if_false,decide_true,cond_true,or_self,zI0,decide_false,cond_false,Bool.true_and,Bool.false_and]
    by_cases k2:x.kind=2
    ·simp only[k2,Md.ready,hab,hN,if_true,if_false,decide_true,cond_true,or_self,zI0,decide_false,cond_false,Bool.true_and,Bool.false_and,Bool.true_or,Bool.false_or,Md.loadM]
    by_cases k3:x.kind=3
    ·simp only[k3,Md.ready,if_true,if_false,decide_true,cond_true,or_self,zI0,decide_false,cond_false]
    by_cases k7:x.kind=7
    ·simp only[k7,Md.ready,if_true,if_false,decide_true,cond_true,or_self,zI0,decide_false,cond_false,Md.valM]
    ·simp only[k1,k2,k3,k4,k5,k7,Md.ready,if_true,if_false,decide_true,cond_true,or_self,zI0,decide_false,cond_false]
theorem Qa (dp:Nat)(p_w p_wn p_fu p_r0 p_r1 p_r2 p_r3:Int)(p_ms:List MemT)(p_ls:List Label)(p_is:List Ins)(c_r0 c_r1 c_r2 c_r3:Int)(c_mm c_st:List Int)(c_pc:Int)(c_bf:List Ent)(c_rb:List Int)(c_en i:Int)(hl:(⟨⟨⟨c_r0,c_r1,c_r2,c_r3⟩,c_mm,c_st,c_pc⟩,c_bf,c_rb,c_en⟩:Conf).buf.length<1073741824)(A:List Blk)(nb:Nat)(us:List Nat):Zb false E (evC E fn (dp+5)) 77 A nb (some ([.agg [vi p_w,vi p_wn,vi p_fu,vi p_r0,vi p_r1,vi p_r2,vi p_r3,rD p_ms,rD p_ls,rD p_is],.agg [vi c_r0,vi c_r1,vi c_r2,vi c_r3,rD c_mm,rD c_st,vi c_pc,rD c_bf,rD c_rb,vi c_en],vi i],us))=some (.made (.d (vb (Md.can ((⟨⟨⟨c_r0,c_r1,c_r2,c_r3⟩,c_mm,c_st,c_pc⟩,c_bf,c_rb,c_en⟩:Conf).state.mem.length:Int) (⟨p_w,p_wn,p_fu,⟨p_r0,p_r1,p_r2,p_r3⟩,p_ms,p_ls,p_is⟩:Prog) (⟨⟨⟨c_r0,c_r1,c_r2,c_r3⟩,c_mm,c_st,c_pc⟩,c_bf,c_rb,c_en⟩:Conf) i))) []):=
 Zk.flat (Zqv S dp (⟨p_w,p_wn,p_fu,⟨p_r0,p_r1,p_r2,p_r3⟩,p_ms,p_ls,p_is⟩:Prog) (⟨⟨⟨c_r0,c_r1,c_r2,c_r3⟩,c_mm,c_st,c_pc⟩,c_bf,c_rb,c_en⟩:Conf) i hl) (np S 77 (by decide)) (rfl) A nb us
end
theorem Zvx (l:List Ent)(i:Int):Md.hazAt l i<=l.length+1:=by unfold Md.hazAt;omega
theorem Zz3 (l:List Ent)(i:Int):min (max i (-1)) (l.length:Int)+1=(Md.hazAt l i:Int):=by unfold Md.hazAt;omega
variable {E:Env} {fn:FuncId->Option (Env->cT->cT)}
section
variable (S:Sur E fn)
include S
theorem Zvi:E.lives 78 7=none:=off S 78 7 (by decide) rfl
theorem Zss:E.lives 76 7=none/\E.lives 76 13=none/\E.lives 76 17=none/\E.lives 76 21=none/\E.lives 76 23=none:=⟨off S 76 7 (by decide) rfl,off S 76 13 (by decide) rfl,off S 76 17 (by decide) rfl,off S 76 21 (by decide) rfl,off S 76 23 (by decide) rfl⟩
theorem Z4m:E.lives 138 1=none/\E.lives 138 13=none:=⟨off S 138 1 (by decide) rfl,off S 138 13 (by decide) rfl⟩
theorem Zep (dp:Nat)(p:Prog)(c:Conf)(i:Int)(hl:c.buf.length<1073741824):Zk E fn (dp+5) 78 [Zn p,Zv c,vi i] (vb (Md.canAddr p c i)):=by
 unfold Zk
 show Zh (evC E fn (dp+4+1) 78 [.d (Zn p),.d (Zv c),.d (vi i)] [])=_
 rw[Z2,S.Zal,Z3,Zb5,Z6 _ _ _ _ _ _ _ _ rfl]
 cases ho:Md.openM p c i with
 | false=>simp only[eG,go_sem,thq S,nbr S,zN0,zN1,zN2,zN3,zN4,zI0,zI1,zI2,zI3,reduceCtorEq,Zvi S,Z35 S,hl,ho,Md.canAddr]
 | true=>
  obtain⟨h0,he,_⟩:=Z51 ho
  cases hd:(Md.entAt c.buf i).known with
  | true=>simp only[eG,go_sem,thq S,nbr S,zN0,zN1,zN2,zN3,zN4,zI0,zI1,zI2,zI3,reduceCtorEq,Zvi S,Z35 S,hl,ho,Z7r h0 he,hd,Md.canAddr]
  | false=>
   by_cases k3:(Md.at_ p (Md.entAt c.buf i).pc).kind=3
   ·simp only[eG,go_sem,thq S,nbr S,zN0,zN1,zN2,zN3,zN4,zI0,zI1,zI2,zI3,reduceCtorEq,Zvi S,Z35 S,hl,ho,Z7r h0 he,hd,Md.canAddr,cA7 S,Ya S,Md.insM,k3]
   ·simp only[eG,go_sem,thq S,nbr S,zN0,zN1,zN2,zN3,zN4,zI0,zI1,zI2,zI3,reduceCtorEq,Zvi S,Z35 S,hl,ho,Z7r h0 he,hd,Md.canAddr,cA7 S,Ya S,Md.insM,k3]
theorem Z0c (dp:Nat)(p_w p_wn p_fu p_r0 p_r1 p_r2 p_r3:Int)(p_ms:List MemT)(p_ls:List Label)(p_is:List Ins)(c_r0 c_r1 c_r2 c_r3:Int)(c_mm c_st:List Int)(c_pc:Int)(c_bf:List Ent)(c_rb:List Int)(c_en i:Int)(hl:(⟨⟨⟨c_r0,c_r1,c_r2,c_r3⟩,c_mm,c_st,c_pc⟩,c_bf,c_rb,c_en⟩:Conf).buf.length<1073741824)(A:List Blk)(nb:Nat)(us:List Nat):Zb false E (evC E fn (dp+5)) 78 A nb (some ([.agg [vi p_w,vi p_wn,vi p_fu,vi p_r0,vi p_r1,vi p_r2,vi p_r3,rD p_ms,rD p_ls,rD p_is],.agg [vi c_r0,vi c_r1,vi c_r2,vi c_r3,rD c_mm,rD c_st,vi c_pc,rD c_bf,rD c_rb,vi c_en],vi i],us))=some (.made (.d (vb (Md.canAddr (⟨p_w,p_wn,p_fu,⟨p_r0,p_r1,p_r2,p_r3⟩,p_ms,p_ls,p_is⟩:Prog) (⟨⟨⟨c_r0,c_r1,c_r2,c_r3⟩,c_mm,c_st,c_pc⟩,c_bf,c_rb,c_en⟩:Conf) i))) []):=
 Zk.flat (Zep S dp (⟨p_w,p_wn,p_fu,⟨p_r0,p_r1,p_r2,p_r3⟩,p_ms,p_ls,p_is⟩:Prog) (⟨⟨⟨c_r0,c_r1,c_r2,c_r3⟩,c_mm,c_st,c_pc⟩,c_bf,c_rb,c_en⟩:Conf) i hl) (np S 78 (by decide)) (rfl) A nb us
theorem Zeo (dp:Nat)(p:Prog)(c:Conf)(hi:p.ins.length<1073741824):Zk E fn (dp+2) 76 [Zn p,Zv c] (vi (Md.guesses p c)):=by
 unfold Zk
 show Zh (evC E fn (dp+1+1) 76 [.d (Zn p),.d (Zv c)] [])=_
 rw[Z2,S.Zak,Z3,Zb4,Z6 _ _ _ _ _ _ _ _ rfl]
 have hw:IntKind.i64.wrap ((p.ins.length:Int)+1)=p.ins.length+1:=by rw[Zt (by omega) (by omega)]
 by_cases h1:c.end_=0
 ·by_cases h2 : c.state.pc = -1
  ·simp only[eG,go_sem,thq S,nbr S,zN0,zN1,zN2,zN3,zN4,zI0,zI1,zI2,zI3,reduceCtorEq,Zss S,h1,h2,Md.guesses,ne_eq,not_true_eq_false,not_false_eq_true]
  ·by_cases h3 : (c.buf.length : Int) >= p.window
   ·simp only[eG,go_sem,thq S,nbr S,zN0,zN1,zN2,zN3,zN4,zI0,zI1,zI2,zI3,reduceCtorEq,Zss S,h1,h2,h3,Md.guesses,ne_eq,not_true_eq_false,not_false_eq_true]
   ·by_cases h9 : c.rsb.length = 0
    ·simp only [eG, go_sem, thq S, nbr S, zN0, zN1, zN2, zN3, zN4, zI0, zI1, zI2, zI3, reduceCtorEq, Zss S, h1, h2, h3, h9, Md.guesses, ne_eq, not_true_eq_false, not_false_eq_true, cA7 S, hw, Int.natCast_eq_zero]
     by_cases k5:(Md.at_ p c.state.pc).kind=5
     ·simp only[k5,decide_true,decide_false,cond_true,cond_false,if_true,if_false,zI0]
     by_cases k7:(Md.at_ p c.state.pc).kind=7
     ·simp only[k7,decide_true,decide_false,cond_true,cond_false,if_true,if_false,zI0,true_or]
     by_cases k9:(Md.at_ p c.state.pc).kind=9
     ·simp only[k9,decide_true,decide_false,cond_true,cond_false,if_true,if_false,zI0,or_true,and_self]
     ·simp only[k5,k7,k9,decide_true,decide_false,cond_true,cond_false,if_true,if_false,zI0,or_self,false_and]
    ·simp only [eG, go_sem, thq S, nbr S, zN0, zN1, zN2, zN3, zN4, zI0, zI1, zI2, zI3, reduceCtorEq, Zss S, h1, h2, h3, h9, Md.guesses, ne_eq, not_true_eq_false, not_false_eq_true, cA7 S, hw, Int.natCast_eq_zero]
     by_cases k5:(Md.at_ p c.state.pc).kind=5
     ·simp only[k5,decide_true,decide_false,cond_true,cond_false,if_true,if_false,zI0]
     by_cases k7:(Md.at_ p c.state.pc).kind=7
     ·simp only[k7,decide_true,decide_false,cond_true,cond_false,if_true,if_false,zI0,true_or]
     by_cases k9:(Md.at_ p c.state.pc).kind=9
     ·simp only[k9,decide_true,decide_false,cond_true,cond_false,if_true,if_false,zI0,or_true,and_self,and_false,or_self]
     ·simp only[k5,k7,k9,decide_true,decide_false,cond_true,cond_false,if_true,if_false,zI0,or_self,false_and]
 ·simp only[eG,go_sem,thq S,nbr S,zN0,zN1,zN2,zN3,zN4,zI0,zI1,zI2,zI3,reduceCtorEq,Zss S,h1,Md.guesses,ne_eq,not_true_eq_false,not_false_eq_true]
theorem Yl (dp:Nat)(p_w p_wn p_fu p_r0 p_r1 p_r2 p_r3:Int)(p_ms:List MemT)(p_ls:List Label)(p_is:List Ins)(c_r0 c_r1 c_r2 c_r3:Int)(c_mm c_st:List Int)(c_pc:Int)(c_bf:List Ent)(c_rb:List Int)(c_en:Int)(hi:(⟨p_w,p_wn,p_fu,⟨p_r0,p_r1,p_r2,p_r3⟩,p_ms,p_ls,p_is⟩:Prog).ins.length<1073741824)(A:List Blk)(nb:Nat)(us:List Nat):Zb false E (evC E fn (dp+2)) 76 A nb (some ([.agg [vi p_w,vi p_wn,vi p_fu,vi p_r0,vi p_r1,vi p_r2,vi p_r3,rD p_ms,rD p_ls,rD p_is],.agg [vi c_r0,vi c_r1,vi c_r2,vi c_r3,rD c_mm,rD c_st,vi c_pc,rD c_bf,rD c_rb,vi c_en]],us))=some (.made (.d (vi (Md.guesses (⟨p_w,p_wn,p_fu,⟨p_r0,p_r1,p_r2,p_r3⟩,p_ms,p_ls,p_is⟩:Prog) (⟨⟨⟨c_r0,c_r1,c_r2,c_r3⟩,c_mm,c_st,c_pc⟩,c_bf,c_rb,c_en⟩:Conf)))) []):=
 Zk.flat (Zeo S dp (⟨p_w,p_wn,p_fu,⟨p_r0,p_r1,p_r2,p_r3⟩,p_ms,p_ls,p_is⟩:Prog) (⟨⟨⟨c_r0,c_r1,c_r2,c_r3⟩,c_mm,c_st,c_pc⟩,c_bf,c_rb,c_en⟩:Conf) hi) (np S 76 (by decide)) (rfl) A nb us
theorem Zt7 (dp:Nat)(p:Prog)(l:List Ent)(i addr:Int)(hl:l.length<1073741824)(kx:Nat->K)
  (hx:∀ T,Zh (kx 0 (mk .bot 58 T) [.cells ((Yd p).map .d) 0 false])=some (.tup [vi 0,vb false])):
  ∀(m k fuel:Nat),(k+m=l.length∨(m=0/\l.length<=k))->k<=l.length+1->m<=fuel->Zh (Z16 (inn E 138) (evC E fn (dp+1)) (Zi 6 Z16 (inn E 138) (evC E fn (dp+1)) kx (Z0u 0 [.tmp 8,.tmp 9]) fuel) kx (Z0u 0 [.tmp 8,.tmp 9])
   (mk .bot 58 [(1,.d (rD l)),(2,aI i),(3,aI addr),(4,.ref 0 0 0),(10,aI k)]) [.cells ((Yd p).map .d) 0 false])=
   some (.tup [vi (Md.hazGo p i addr k (l.drop k)).1,vb (Md.hazGo p i addr k (l.drop k)).2]):=by
 intro m
 induction m with
 | zero=>
  intro k fuel hk hk2 _
  generalize Zi 6 Z16 _ _ kx _ fuel=KK
  rw[Z16,List.drop_of_length_le (by omega)]
  simp only[eG,go_sem,thq S,nbr S,zN0,zN1,zN2,zN3,zN4,zI0,zI1,zI2,zI3,reduceCtorEq,Z4m S,show ¬(k:Int)<l.length by omega,Md.hazGo]
  exact hx _
 | succ m ih=>
  intro k fuel hk hk2 hf
  obtain⟨e,he⟩:=Yz (show k<l.length by omega)
  obtain⟨fuel,rfl⟩:∃ m,fuel=m+1:=⟨fuel-1,by omega⟩
  generalize hK:Zi 6 Z16 _ _ kx _ (fuel+1)=KK
  rw[Z16,Z02 he]
  have h2:(k:Int)<l.length:=by omega
  have next:∀ X,(Md.hazGo p i addr (k+1) (l.drop (k+1)))=X->X=Md.hazGo p i addr (k+1) (l.drop (k+1)):=fun _ h=>h.symm
  by_cases k2:(Md.at_ p e.pc).kind=2
  ·cases hk : e.known with
   | true=>
    by_cases ha:e.addr=addr
    ·by_cases hfr : e.frm < i
     ·simp only[eG,go_sem,thq S,nbr S,zN0,zN1,zN2,zN3,zN4,zI0,zI1,zI2,zI3,reduceCtorEq,Z4m S,Q4 he,cA7 S,wi k (by omega),h2,k2,hk,ha,hfr,Md.hazGo,Md.hitL]
     ·simp only [eG, go_sem, thq S, nbr S, zN0, zN1, zN2, zN3, zN4, zI0, zI1, zI2, zI3, reduceCtorEq, Z4m S, Q4 he, cA7 S, wi k (by omega), h2, k2, hk, ha, hfr, Md.hazGo, Md.hitL]
      rw[<-hK,Z1 (on S _ _ [1,2,3,4,10] (by decide) rfl) rfl _ _ _ _ _ _ _ _ _ rfl]
      simp only[eG,go_sem,thq S,nbr S,zN0,zN1,zN2,zN3,zN4,zI0,zI1,zI2,zI3,reduceCtorEq,Z4m S,Q4 he,cA7 S,wi k (by omega),h2]
      exact ih (k+1) fuel (by omega) (by omega) (by omega)
    ·simp only [eG, go_sem, thq S, nbr S, zN0, zN1, zN2, zN3, zN4, zI0, zI1, zI2, zI3, reduceCtorEq, Z4m S, Q4 he, cA7 S, wi k (by omega), h2, k2, hk, ha, Md.hazGo, Md.hitL]
     rw[<-hK,Z1 (on S _ _ [1,2,3,4,10] (by decide) rfl) rfl _ _ _ _ _ _ _ _ _ rfl]
     simp only[eG,go_sem,thq S,nbr S,zN0,zN1,zN2,zN3,zN4,zI0,zI1,zI2,zI3,reduceCtorEq,Z4m S,Q4 he,cA7 S,wi k (by omega),h2]
     exact ih (k+1) fuel (by omega) (by omega) (by omega)
   | false=>
    simp only[eG,go_sem,thq S,nbr S,zN0,zN1,zN2,zN3,zN4,zI0,zI1,zI2,zI3,reduceCtorEq,Z4m S,Q4 he,cA7 S,wi k (by omega),h2,k2,hk,Md.hazGo,Md.hitL]
    rw[<-hK,Z1 (on S _ _ [1,2,3,4,10] (by decide) rfl) rfl _ _ _ _ _ _ _ _ _ rfl]
    simp only[eG,go_sem,thq S,nbr S,zN0,zN1,zN2,zN3,zN4,zI0,zI1,zI2,zI3,reduceCtorEq,Z4m S,Q4 he,cA7 S,wi k (by omega),h2]
    exact ih (k+1) fuel (by omega) (by omega) (by omega)
  ·simp only [eG, go_sem, thq S, nbr S, zN0, zN1, zN2, zN3, zN4, zI0, zI1, zI2, zI3, reduceCtorEq, Z4m S, Q4 he, cA7 S, wi k (by omega), h2, k2, Md.hazGo, Md.hitL]
   rw[<-hK,Z1 (on S _ _ [1,2,3,4,10] (by decide) rfl) rfl _ _ _ _ _ _ _ _ _ rfl]
   simp only[eG,go_sem,thq S,nbr S,zN0,zN1,zN2,zN3,zN4,zI0,zI1,zI2,zI3,reduceCtorEq,Z4m S,Q4 he,cA7 S,wi k (by omega),h2]
   exact ih (k+1) fuel (by omega) (by omega) (by omega)
theorem Zhk (dp:Nat)(p:Prog)(l:List Ent)(i addr:Int)(hl:l.length<1073741824):Zk E fn (dp+2) 138 [Zn p,rD l,vi i,vi addr] (.tup [vi (Md.hazard p l i addr).1,vb (Md.hazard p l i addr).2]):=by
 unfold Zk
 show Zh (evC E fn (dp+1+1) 138 [.d (Zn p),.d (rD l),.d (vi i),.d (vi addr)] [])=_
 rw[Z2,S.Zdh,Z3,Zeb,Z6 _ _ _ _ _ _ _ _ rfl]
 have hh:=Zvx l i
 have hr:IntKind.i64.wrap (min (max i (-1)) (l.length:Int)+1)=(Md.hazAt l i:Int):=by rw[Zz3];exact Zt (by omega) (by omega)
 simp only[eG,go_sem,thq S,nbr S,zN0,zN1,zN2,zN3,zN4,zI0,zI1,zI2,zI3,reduceCtorEq,Z4m S,hr]
 rw[Y2,Z1 (on S _ _ [1,2,3,4,10] (by decide) rfl) rfl _ _ _ _ _ _ _ _ _ rfl]
 simp only[eG,go_sem,thq S,nbr S,zN0,zN1,zN2,zN3,zN4,zI0,zI1,zI2,zI3,reduceCtorEq,Z4m S]
 refine Zt7 S dp p l i addr hl _ ?_ (l.length-Md.hazAt l i) (Md.hazAt l i) _ (by omega) hh (by omega)
 intro T
 simp only[eG,go_sem,thq S,nbr S,zN0,zN1,zN2,zN3,zN4,zI0,zI1,zI2,zI3,reduceCtorEq,Z4m S]
theorem Zdv (dp:Nat)(p_w p_wn p_fu p_r0 p_r1 p_r2 p_r3:Int)(p_ms:List MemT)(p_ls:List Label)(p_is:List Ins)(l:List Ent)(i addr:Int)(hl:l.length<1073741824)(A:List Blk)(nb:Nat)(us:List Nat):Zb false E (evC E fn (dp+2)) 138 A nb (some ([.agg [vi p_w,vi p_wn,vi p_fu,vi p_r0,vi p_r1,vi p_r2,vi p_r3,rD p_ms,rD p_ls,rD p_is],rD l,vi i,vi addr],us))=some (.made (.d (.tup [vi (Md.hazard (⟨p_w,p_wn,p_fu,⟨p_r0,p_r1,p_r2,p_r3⟩,p_ms,p_ls,p_is⟩:Prog) l i addr).1,vb (Md.hazard (⟨p_w,p_wn,p_fu,⟨p_r0,p_r1,p_r2,p_r3⟩,p_ms,p_ls,p_is⟩:Prog) l i addr).2])) []):=
 Zk.flat (Zhk S dp (⟨p_w,p_wn,p_fu,⟨p_r0,p_r1,p_r2,p_r3⟩,p_ms,p_ls,p_is⟩:Prog) l i addr hl) (np S 138 (by decide)) (rfl) A nb us
end
variable {E:Env} {fn:FuncId->Option (Env->cT->cT)}
section
variable (S:Sur E fn)
include S
theorem Zsr:E.lives 79 7=none:=off S 79 7 (by decide) rfl
theorem Znr:E.lives 143 7=none/\E.lives 143 15=none/\E.lives 143 19=none:=⟨off S 143 7 (by decide) rfl,off S 143 15 (by decide) rfl,off S 143 19 (by decide) rfl⟩
theorem Zyg:E.lives 159 7=none/\E.lives 159 11=none:=⟨off S 159 7 (by decide) rfl,off S 159 11 (by decide) rfl⟩
theorem Zbg (dp:Nat)(p:Prog)(c:Conf):Zk E fn (dp+2) 79 [Zn p,Zv c] (vb (Md.canRetire p c)):=by
 unfold Zk
 show Zh (evC E fn (dp+1+1) 79 [.d (Zn p),.d (Zv c)] [])=_
 rw[Z2,S.Z7f,Z3,Z7o,Z6 _ _ _ _ _ _ _ _ rfl]
 by_cases h1:c.end_=0
 ·by_cases h2 : c.buf.length = 0
  ·simp only [eG, go_sem, thq S, nbr S, zN0, zN1, zN2, zN3, zN4, zI0, zI1, zI2, zI3, reduceCtorEq, Zsr S, h1, h2, Md.canRetire]
   simp
  ·obtain ⟨e, he⟩ := Yz (show 0 < c.buf.length by omega)
   have e0:Md.entAt c.buf 0=e:=by show(c.buf[0]?).getD _=_;rw[he];rfl
   have hz:(c.buf.length:Int)≠0:=by omega
   have w0:=Z7r (l:=c.buf) (i:=0) (by decide) he .i64 8 rfl
   cases hd:e.done<;>cases hk:e.known<;>by_cases k10:(Md.at_ p e.pc).kind=10<;>by_cases k3:(Md.at_ p e.pc).kind=3
   all_goals first | omega | simp only[eG,go_sem,thq S,nbr S,zN0,zN1,zN2,zN3,zN4,zI0,zI1,zI2,zI3,reduceCtorEq,Zsr S,h1,h2,hz,w0,Md.canRetire,e0,cA7 S,hd,hk,k10,k3,ne_eq,not_false_eq_true,not_true_eq_false,Bool.not_true,Bool.not_false]
 ·simp only[eG,go_sem,thq S,nbr S,zN0,zN1,zN2,zN3,zN4,zI0,zI1,zI2,zI3,reduceCtorEq,Zsr S,h1,Md.canRetire]
theorem Zg (dp:Nat)(p_w p_wn p_fu p_r0 p_r1 p_r2 p_r3:Int)(p_ms:List MemT)(p_ls:List Label)(p_is:List Ins)(c_r0 c_r1 c_r2 c_r3:Int)(c_mm c_st:List Int)(c_pc:Int)(c_bf:List Ent)(c_rb:List Int)(c_en:Int)(A:List Blk)(nb:Nat)(us:List Nat):Zb false E (evC E fn (dp+2)) 79 A nb (some ([.agg [vi p_w,vi p_wn,vi p_fu,vi p_r0,vi p_r1,vi p_r2,vi p_r3,rD p_ms,rD p_ls,rD p_is],.agg [vi c_r0,vi c_r1,vi c_r2,vi c_r3,rD c_mm,rD c_st,vi c_pc,rD c_bf,rD c_rb,vi c_en]],us))=some (.made (.d (vb (Md.canRetire (⟨p_w,p_wn,p_fu,⟨p_r0,p_r1,p_r2,p_r3⟩,p_ms,p_ls,p_is⟩:Prog) (⟨⟨⟨c_r0,c_r1,c_r2,c_r3⟩,c_mm,c_st,c_pc⟩,c_bf,c_rb,c_en⟩:Conf)))) []):=
 Zk.flat (Zbg S dp (⟨p_w,p_wn,p_fu,⟨p_r0,p_r1,p_r2,p_r3⟩,p_ms,p_ls,p_is⟩:Prog) (⟨⟨⟨c_r0,c_r1,c_r2,c_r3⟩,c_mm,c_st,c_pc⟩,c_bf,c_rb,c_en⟩:Conf) ) (np S 79 (by decide)) (rfl) A nb us
theorem Zjj (dp:Nat)(p:Prog)(c:Conf):Zk E fn (dp+2) 143 [Zn p,Zv c] (vb (Md.canRetire p c)):=by
 unfold Zk
 show Zh (evC E fn (dp+1+1) 143 [.d (Zn p),.d (Zv c)] [])=_
 rw[Z2,S.Zfw,Z3,Zgp,Z6 _ _ _ _ _ _ _ _ rfl]
 by_cases h1:c.end_=0
 ·by_cases h2 : c.buf.length = 0
  ·simp only [eG, go_sem, thq S, nbr S, zN0, zN1, zN2, zN3, zN4, zI0, zI1, zI2, zI3, reduceCtorEq, Znr S, h1, h2, Md.canRetire, Ym S]
   simp
  ·obtain ⟨e, he⟩ := Yz (show 0 < c.buf.length by omega)
   have e0:Md.entAt c.buf 0=e:=by show(c.buf[0]?).getD _=_;rw[he];rfl
   have hz:(c.buf.length:Int)≠0:=by omega
   have w0:=Z7r (l:=c.buf) (i:=0) (by decide) he .i64 8 rfl
   cases hd:e.done<;>cases hk:e.known<;>by_cases k10:(Md.at_ p e.pc).kind=10<;>by_cases k3:(Md.at_ p e.pc).kind=3
   all_goals first | omega | simp only[eG,go_sem,thq S,nbr S,zN0,zN1,zN2,zN3,zN4,zI0,zI1,zI2,zI3,reduceCtorEq,Znr S,h1,h2,hz,w0,Md.canRetire,e0,Z8 S,Ym S,hd,hk,k10,k3,ne_eq,not_false_eq_true,not_true_eq_false,Bool.not_true,Bool.not_false]
 ·simp only[eG,go_sem,thq S,nbr S,zN0,zN1,zN2,zN3,zN4,zI0,zI1,zI2,zI3,reduceCtorEq,Znr S,h1,Md.canRetire,Ym S]
theorem Q0 (dp:Nat)(p_w p_wn p_fu p_r0 p_r1 p_r2 p_r3:Int)(p_ms:List MemT)(p_ls:List Label)(p_is:List Ins)(c_r0 c_r1 c_r2 c_r3:Int)(c_mm c_st:List Int)(c_pc:Int)(c_bf:List Ent)(c_rb:List Int)(c_en:Int)(A:List Blk)(nb:Nat)(us:List Nat):Zb false E (evC E fn (dp+2)) 143 A nb (some ([.agg [vi p_w,vi p_wn,vi p_fu,vi p_r0,vi p_r1,vi p_r2,vi p_r3,rD p_ms,rD p_ls,rD p_is],.agg [vi c_r0,vi c_r1,vi c_r2,vi c_r3,rD c_mm,rD c_st,vi c_pc,rD c_bf,rD c_rb,vi c_en]],us))=some (.made (.d (vb (Md.canRetire (⟨p_w,p_wn,p_fu,⟨p_r0,p_r1,p_r2,p_r3⟩,p_ms,p_ls,p_is⟩:Prog) (⟨⟨⟨c_r0,c_r1,c_r2,c_r3⟩,c_mm,c_st,c_pc⟩,c_bf,c_rb,c_en⟩:Conf)))) []):=
 Zk.flat (Zjj S dp (⟨p_w,p_wn,p_fu,⟨p_r0,p_r1,p_r2,p_r3⟩,p_ms,p_ls,p_is⟩:Prog) (⟨⟨⟨c_r0,c_r1,c_r2,c_r3⟩,c_mm,c_st,c_pc⟩,c_bf,c_rb,c_en⟩:Conf) ) (np S 143 (by decide)) (rfl) A nb us
theorem Zen (dp:Nat)(e:Ent)(x:Ins):Zk E fn (dp+1) 159 [.agg (Cl.cells e),.agg (Cl.cells x)] (vi (Md.endedM e x)):=by
 unfold Zk
 show Zh (evC E fn (dp+1) 159 [.d (.agg (Cl.cells e)),.d (.agg (Cl.cells x))] [])=_
 rw[Z2,S.Zaj,Z3,Zb3,Z6 _ _ _ _ _ _ _ _ rfl]
 cases h1:e.fault<;>by_cases h2:x.kind=12<;>by_cases h3:x.kind=11
 all_goals first | omega | simp only[eG,go_sem,thq S,nbr S,zN0,zN1,zN2,zN3,zN4,zI0,zI1,zI2,zI3,reduceCtorEq,Zyg S,h1,h2,h3,Md.endedM]
theorem Yk (dp:Nat)(e_pc e_vl e_ad e_fr e_nx:Int)(e_dn e_kn e_ft:Bool)(x_k x_o x_d:Int)(x_ag:Bool)(x_an:Int)(x_bg:Bool)(x_bn:Int)(x_nm:ByteArray)(x_tg:Int)(A:List Blk)(nb:Nat)(us:List Nat):Zb false E (evC E fn (dp+1)) 159 A nb (some ([.agg [vi e_pc,vi e_vl,vi e_ad,vi e_fr,vi e_nx,vb e_dn,vb e_kn,vb e_ft],.agg [vi x_k,vi x_o,vi x_d,vb x_ag,vi x_an,vb x_bg,vi x_bn,vt x_nm,vi x_tg]],us))=some (.made (.d (vi (Md.endedM (⟨e_pc,e_vl,e_ad,e_fr,e_nx,e_dn,e_kn,e_ft⟩:Ent) (⟨x_k,x_o,x_d,⟨x_ag,x_an⟩,⟨x_bg,x_bn⟩,x_nm,x_tg⟩:Ins)))) []):=
 Zk.flat (Zen S dp (⟨e_pc,e_vl,e_ad,e_fr,e_nx,e_dn,e_kn,e_ft⟩:Ent) (⟨x_k,x_o,x_d,⟨x_ag,x_an⟩,⟨x_bg,x_bn⟩,x_nm,x_tg⟩:Ins) ) (np S 159 (by decide)) (rfl) A nb us
theorem Zna (dp:Nat)(p:Prog)(a:Int):Zk E fn (dp+1) 137 [Zn p,vi a] (vi (min a p.ins.length)):=by
 unfold Zk
 show Zh (evC E fn (dp+1) 137 [.d (Zn p),.d (vi a)] [])=_
 rw[Z2,S.Zkv,Z3,Zmb,Z6 _ _ _ _ _ _ _ _ rfl]
 simp only[eG,go_sem,thq S,nbr S,zN0,zN1,zN2,zN3,zN4,zI0,zI1,zI2,zI3,reduceCtorEq]
theorem Qq (dp:Nat)(p_w p_wn p_fu p_r0 p_r1 p_r2 p_r3:Int)(p_ms:List MemT)(p_ls:List Label)(p_is:List Ins)(a:Int)(A:List Blk)(nb:Nat)(us:List Nat):Zb false E (evC E fn (dp+1)) 137 A nb (some ([.agg [vi p_w,vi p_wn,vi p_fu,vi p_r0,vi p_r1,vi p_r2,vi p_r3,rD p_ms,rD p_ls,rD p_is],vi a],us))=some (.made (.d (vi (min a (⟨p_w,p_wn,p_fu,⟨p_r0,p_r1,p_r2,p_r3⟩,p_ms,p_ls,p_is⟩:Prog).ins.length))) []):=
 Zk.flat (Zna S dp (⟨p_w,p_wn,p_fu,⟨p_r0,p_r1,p_r2,p_r3⟩,p_ms,p_ls,p_is⟩:Prog) a ) (np S 137 (by decide)) (rfl) A nb us
end
end Go.Aug.Mc
