import Derived.Test.YthnhboimcidhgaaGreatDoorMc3
import Derived.Test.YthnhboimcidhgaaGreatDoorBr
import Derived.Test.YthnhboimcidhgaaGreatDoorMc33
namespace Go.Aug.Mc
open Go Go.Aug
open Nat renaming reduceLT -> zN0, reduceEqDiff -> zN1, reduceAdd -> zN2, reduceMul -> zN3, reduceLeDiff -> zN4
open Int renaming reduceEq -> zI0, reduceLT -> zI1, reduceLE -> zI2, reduceNeg -> zI3
set_option linter.unusedSimpArgs false
set_option linter.unusedVariables false
set_option maxHeartbeats 40000000
def Zz (l:List MemT):Int:=(l.map fun m=>min (max m.n 0) 16).sum
theorem NA:∀ l:List MemT,0<=Zz l/\Zz l<=16*l.length
 | []=>by simp[Zz]
 | m::l=>by
  have:=NA l
  simp only[Zz,List.map_cons,List.sum_cons,List.length_cons] at this ⊢
  omega
theorem WY {l:List MemT}{i:Nat}{m:MemT}(h:l[i]? =some m):Zz (l.take (i+1))=Zz (l.take i)+min (max m.n 0) 16:=by
 unfold Zz
 rw[XY h,List.map_append,List.sum_append]
 simp
def Rv (p:Prog)(x:Ins)(a b d:Int):Int:=if x.kind=4 then(if a=0 then d else b) else Md.DJ p.w x.op a b
def Rx (p:Prog)(x:Ins)(pc a b:Int):Int:=if x.kind=7 then min a p.ins.length else if Md.DJ p.w x.op a b=0 then Md.ZW (pc+1) else x.target
variable {E:Env} {fn:FuncId->Option (Env->cT->cT)}
section
variable (S:Sur E fn)
include S
theorem RQ:E.lives 210 1=none:=off S 210 1 (by decide) rfl
theorem Z12:E.lives 147 7=none/\E.lives 147 9=none:=⟨off S 147 7 (by decide) rfl,off S 147 9 (by decide) rfl⟩
theorem Z11:E.lives 149 7=none/\E.lives 149 13=none:=⟨off S 149 7 (by decide) rfl,off S 149 13 (by decide) rfl⟩
theorem Z6q:E.lives 206 9=none:=off S 206 9 (by decide) rfl
theorem Zoo (dp:Nat)(l:List MemT)(hl:l.length<1073741824)(kx:Nat->K)(D:Int)
  (hx:∀ T,ZX .bot T 3=aI (Zz l)->Z7 (kx 0 (mk .bot 21 T) [])=some (vi D)):
  ∀(m k fuel:Nat),k+m=l.length->m<=fuel->Z7 (PZ (Zj E 210) (Z4 E fn dp) (Z9 8 PZ (Zj E 210) (Z4 E fn dp) kx (ZY 0 [.tmp 2]) fuel) kx (ZY 0 [.tmp 2])
   (mk .bot 21 [(3,aI (Zz (l.take k))),(7,.d (rD l)),(8,aI l.length),(9,aI k)]) [])=some (vi D):=by
 intro m
 induction m with
 | zero=>
  intro k fuel hk _
  generalize Z9 8 PZ _ _ kx _ fuel=KK
  rw[PZ,List.take_of_length_le (by omega)]
  simp only[eG,go_sem,Z3 S,Z2 S,zN0,zN1,zN2,zN3,zN4,zI0,zI1,zI2,zI3,reduceCtorEq,RQ S,show ¬(k:Int)<l.length by omega]
  exact hx _ rfl
 | succ m ih=>
  intro k fuel hk hf
  obtain⟨e,he⟩:=YK (show k<l.length by omega)
  obtain⟨fuel,rfl⟩:∃ m,fuel=m+1:=⟨fuel-1,by omega⟩
  generalize hK:Z9 8 PZ _ _ kx _ (fuel+1)=KK
  rw[PZ]
  have hb:=NA (l.take k)
  have hbl:(l.take k).length<=l.length:=by simp;omega
  have hw:IntKind.i64.wrap (Zz (l.take k)+min (max e.n 0) 16)=Zz (l.take (k+1)):=by
   rw[WY he]
   exact YH (by omega) (by omega)
  simp only[eG,go_sem,Z3 S,Z2 S,zN0,zN1,zN2,zN3,zN4,zI0,zI1,zI2,zI3,reduceCtorEq,RQ S,show(k:Int)<l.length by omega,Zx he,wi k (by omega),hw]
  rw[<-hK,Z8 (on S _ _ [3,7,8,9] (by decide) rfl) rfl _ _ _ _ _ _ _ _ _ rfl]
  simp only[eG,go_sem,Z3 S,Z2 S,zN0,zN1,zN2,zN3,zN4,zI0,zI1,zI2,zI3,reduceCtorEq,RQ S]
  exact ih (k+1) fuel (by omega) (by omega)
theorem Zlf (dp:Nat)(p:Prog)(hm:p.mems.length<1073741824):Z6 E fn (dp+1) 210 [Zw p] (vi (Zz p.mems)):=by
 unfold Z6
 show Z7 (Z4 E fn (dp+1) 210 [.d (Zw p)] [])=_
 rw[ZD,S.Zbm,ZG,Zgz,ZC _ _ _ _ _ _ _ _ rfl]
 simp only[eG,go_sem,Z3 S,Z2 S,zN0,zN1,zN2,zN3,zN4,zI0,zI1,zI2,zI3,reduceCtorEq,RQ S]
 rw[Y7,Z8 (on S _ _ [3,7,8,9] (by decide) rfl) rfl _ _ _ _ _ _ _ _ _ rfl]
 simp only[eG,go_sem,Z3 S,Z2 S,zN0,zN1,zN2,zN3,zN4,zI0,zI1,zI2,zI3,reduceCtorEq,RQ S]
 refine Zoo S dp p.mems hm _ (Zz p.mems) ?_ p.mems.length 0 _ (by omega) (by omega)
 intro T h3
 simp only[eG,go_sem,Z3 S,Z2 S,zN0,zN1,zN2,zN3,zN4,zI0,zI1,zI2,zI3,reduceCtorEq,RQ S,h3]
theorem Zsp (dp:Nat)(p_w p_wn p_fu p_r0 p_r1 p_r2 p_r3:Int)(p_ms:List MemT)(p_ls:List Label)(p_is:List Ins)(hm:(⟨p_w,p_wn,p_fu,⟨p_r0,p_r1,p_r2,p_r3⟩,p_ms,p_ls,p_is⟩:Prog).mems.length<1073741824)(A:List Blk)(nb:Nat)(us:List Nat):Zv false E (Z4 E fn (dp+1)) 210 A nb (some ([.agg [vi p_w,vi p_wn,vi p_fu,vi p_r0,vi p_r1,vi p_r2,vi p_r3,rD p_ms,rD p_ls,rD p_is]],us))=some (.made (.d (vi (Zz (⟨p_w,p_wn,p_fu,⟨p_r0,p_r1,p_r2,p_r3⟩,p_ms,p_ls,p_is⟩:Prog).mems))) []):=
 Z6.flat (Zlf S dp (⟨p_w,p_wn,p_fu,⟨p_r0,p_r1,p_r2,p_r3⟩,p_ms,p_ls,p_is⟩:Prog) hm) (np S 210 (by decide)) (rfl) A nb us
theorem Zj5 (dp:Nat)(p:Prog)(x:Ins)(a b d:Int):Z6 E fn (dp+5) 147 [Zw p,.agg (Cl.cells x),vi a,vi b,vi d] (vi (Rv p x a b d)):=by
 unfold Z6
 show Z7 (Z4 E fn (dp+4+1) 147 [.d (Zw p),.d (.agg (Cl.cells x)),.d (vi a),.d (vi b),.d (vi d)] [])=_
 rw[ZD,S.Z92,ZG,Zeg,ZC _ _ _ _ _ _ _ _ rfl]
 by_cases h:x.kind=4
 ·by_cases h2 : a = 0
  ·simp only[eG,go_sem,Z3 S,Z2 S,zN0,zN1,zN2,zN3,zN4,zI0,zI1,zI2,zI3,reduceCtorEq,Z12 S,h,eq_true h2,Rv,Bool.not_true,Bool.not_false]
  ·simp only[eG,go_sem,Z3 S,Z2 S,zN0,zN1,zN2,zN3,zN4,zI0,zI1,zI2,zI3,reduceCtorEq,Z12 S,h,eq_false h2,Rv,Bool.not_true,Bool.not_false]
 ·simp only[eG,go_sem,Z3 S,Z2 S,zN0,zN1,zN2,zN3,zN4,zI0,zI1,zI2,zI3,reduceCtorEq,Z12 S,h,Rv,Z2n S]
theorem Zs4 (dp:Nat)(p_w p_wn p_fu p_r0 p_r1 p_r2 p_r3:Int)(p_ms:List MemT)(p_ls:List Label)(p_is:List Ins)(x_k x_o x_d:Int)(x_ag:Bool)(x_an:Int)(x_bg:Bool)(x_bn:Int)(x_nm:ByteArray)(x_tg a b d:Int)(A:List Blk)(nb:Nat)(us:List Nat):Zv false E (Z4 E fn (dp+5)) 147 A nb (some ([.agg [vi p_w,vi p_wn,vi p_fu,vi p_r0,vi p_r1,vi p_r2,vi p_r3,rD p_ms,rD p_ls,rD p_is],.agg [vi x_k,vi x_o,vi x_d,vb x_ag,vi x_an,vb x_bg,vi x_bn,vt x_nm,vi x_tg],vi a,vi b,vi d],us))=some (.made (.d (vi (Rv (⟨p_w,p_wn,p_fu,⟨p_r0,p_r1,p_r2,p_r3⟩,p_ms,p_ls,p_is⟩:Prog) (⟨x_k,x_o,x_d,⟨x_ag,x_an⟩,⟨x_bg,x_bn⟩,x_nm,x_tg⟩:Ins) a b d))) []):=
 Z6.flat (Zj5 S dp (⟨p_w,p_wn,p_fu,⟨p_r0,p_r1,p_r2,p_r3⟩,p_ms,p_ls,p_is⟩:Prog) (⟨x_k,x_o,x_d,⟨x_ag,x_an⟩,⟨x_bg,x_bn⟩,x_nm,x_tg⟩:Ins) a b d ) (np S 147 (by decide)) (rfl) A nb us
theorem Zj4 (dp:Nat)(p:Prog)(x:Ins)(pc a b:Int):Z6 E fn (dp+5) 149 [Zw p,.agg (Cl.cells x),vi pc,vi a,vi b] (vi (Rx p x pc a b)):=by
 unfold Z6
 show Z7 (Z4 E fn (dp+4+1) 149 [.d (Zw p),.d (.agg (Cl.cells x)),.d (vi pc),.d (vi a),.d (vi b)] [])=_
 rw[ZD,S.Z91,ZG,Zef,ZC _ _ _ _ _ _ _ _ rfl]
 by_cases h:x.kind=7
 ·simp only[eG,go_sem,Z3 S,Z2 S,zN0,zN1,zN2,zN3,zN4,zI0,zI1,zI2,zI3,reduceCtorEq,Z11 S,h,Rx]
 ·by_cases h2 : Md.DJ p.w x.op a b = 0
  ·simp only[eG,go_sem,Z3 S,Z2 S,zN0,zN1,zN2,zN3,zN4,zI0,zI1,zI2,zI3,reduceCtorEq,Z11 S,h,Rx,Z2n S,h2,Bool.not_true,Bool.not_false,Md.ZW]
  ·simp only[eG,go_sem,Z3 S,Z2 S,zN0,zN1,zN2,zN3,zN4,zI0,zI1,zI2,zI3,reduceCtorEq,Z11 S,h,Rx,Z2n S,h2,Bool.not_true,Bool.not_false,Md.ZW]
theorem Zs3 (dp:Nat)(p_w p_wn p_fu p_r0 p_r1 p_r2 p_r3:Int)(p_ms:List MemT)(p_ls:List Label)(p_is:List Ins)(x_k x_o x_d:Int)(x_ag:Bool)(x_an:Int)(x_bg:Bool)(x_bn:Int)(x_nm:ByteArray)(x_tg pc a b:Int)(A:List Blk)(nb:Nat)(us:List Nat):Zv false E (Z4 E fn (dp+5)) 149 A nb (some ([.agg [vi p_w,vi p_wn,vi p_fu,vi p_r0,vi p_r1,vi p_r2,vi p_r3,rD p_ms,rD p_ls,rD p_is],.agg [vi x_k,vi x_o,vi x_d,vb x_ag,vi x_an,vb x_bg,vi x_bn,vt x_nm,vi x_tg],vi pc,vi a,vi b],us))=some (.made (.d (vi (Rx (⟨p_w,p_wn,p_fu,⟨p_r0,p_r1,p_r2,p_r3⟩,p_ms,p_ls,p_is⟩:Prog) (⟨x_k,x_o,x_d,⟨x_ag,x_an⟩,⟨x_bg,x_bn⟩,x_nm,x_tg⟩:Ins) pc a b))) []):=
 Z6.flat (Zj4 S dp (⟨p_w,p_wn,p_fu,⟨p_r0,p_r1,p_r2,p_r3⟩,p_ms,p_ls,p_is⟩:Prog) (⟨x_k,x_o,x_d,⟨x_ag,x_an⟩,⟨x_bg,x_bn⟩,x_nm,x_tg⟩:Ins) pc a b ) (np S 149 (by decide)) (rfl) A nb us
theorem Zj7 (dp:Nat)(p:Prog)(a b:Int)(hm:p.mems.length<1073741824):Z6 E fn (dp+4) 154 [Zw p,vi a,vi b] (.tup [vi (Md.Y1 p.w (a+b)),vb (decide (Md.Y1 p.w (a+b)<Zz p.mems))]):=by
 unfold Z6
 show Z7 (Z4 E fn (dp+3+1) 154 [.d (Zw p),.d (vi a),.d (vi b)] [])=_
 rw[ZD,S.Z94,ZG,Zei,ZC _ _ _ _ _ _ _ _ rfl]
 simp only[eG,go_sem,Z3 S,Z2 S,zN0,zN1,zN2,zN3,zN4,zI0,zI1,zI2,zI3,reduceCtorEq,Z2m S,Md.JR,Zsp S,hm]
theorem U3 (dp:Nat)(p_w p_wn p_fu p_r0 p_r1 p_r2 p_r3:Int)(p_ms:List MemT)(p_ls:List Label)(p_is:List Ins)(a b:Int)(hm:(⟨p_w,p_wn,p_fu,⟨p_r0,p_r1,p_r2,p_r3⟩,p_ms,p_ls,p_is⟩:Prog).mems.length<1073741824)(A:List Blk)(nb:Nat)(us:List Nat):Zv false E (Z4 E fn (dp+4)) 154 A nb (some ([.agg [vi p_w,vi p_wn,vi p_fu,vi p_r0,vi p_r1,vi p_r2,vi p_r3,rD p_ms,rD p_ls,rD p_is],vi a,vi b],us))=some (.made (.d (.tup [vi (Md.Y1 (⟨p_w,p_wn,p_fu,⟨p_r0,p_r1,p_r2,p_r3⟩,p_ms,p_ls,p_is⟩:Prog).w (a+b)),vb (decide (Md.Y1 (⟨p_w,p_wn,p_fu,⟨p_r0,p_r1,p_r2,p_r3⟩,p_ms,p_ls,p_is⟩:Prog).w (a+b)<Zz (⟨p_w,p_wn,p_fu,⟨p_r0,p_r1,p_r2,p_r3⟩,p_ms,p_ls,p_is⟩:Prog).mems))])) []):=
 Z6.flat (Zj7 S dp (⟨p_w,p_wn,p_fu,⟨p_r0,p_r1,p_r2,p_r3⟩,p_ms,p_ls,p_is⟩:Prog) a b hm) (np S 154 (by decide)) (rfl) A nb us
theorem Z0g (dp:Nat)(l:List Int)(hl:l.length<1073741824):Z6 E fn (dp+1) 206 [rD l] (.tup [vi (Md.C9 l),rD l.dropLast,vb (decide (l.length≠0))]):=by
 unfold Z6
 show Z7 (Z4 E fn (dp+1) 206 [.d (rD l)] [])=_
 rw[ZD,S.Z9l,ZG,Zey,ZC _ _ _ _ _ _ _ _ rfl]
 by_cases h:l.length=0
 ·have : l = [] := List.length_eq_zero_iff.1 h
  subst this
  simp only[eG,go_sem,Z3 S,Z2 S,zN0,zN1,zN2,zN3,zN4,zI0,zI1,zI2,zI3,reduceCtorEq,Z6q S,List.length_nil,Int.natCast_eq_zero,Md.C9]
  rfl
 ·have hlast:l[l.length-1]? =some (Md.C9 l):=by
   unfold Md.C9
   rw[List.getLast?_eq_getElem?]
   obtain⟨e,he⟩:=YK (show l.length-1<l.length by omega)
   rw[he];rfl
  have w2:IntKind.i64.wrap ((l.length:Int)-1)=((l.length-1:Nat):Int):=by rw[YH (by omega) (by omega)];omega
  have bd:=Hk l.length .i64 ((l.length-1:Nat):Int) (by omega) (by omega)
  have hdl:l.take (l.length-1)=l.dropLast:=List.dropLast_eq_take.symm
  have hdn:l.dropLast.length<1073741824:=by simp;omega
  simp only[eG,go_sem,Z3 S,Z2 S,zN0,zN1,zN2,zN3,zN4,zI0,zI1,zI2,zI3,reduceCtorEq,Z6q S,eq_false h,Int.natCast_eq_zero,w2,bd,Zx hlast,Int.toNat_natCast,List.drop_zero,Nat.sub_zero,hdl,U8 S hdn,ne_eq,not_false_eq_true]
theorem S9 (dp:Nat)(l:List Int)(hl:l.length<1073741824)(A:List Blk)(nb:Nat):Zv false E (Z4 E fn (dp+1)) 206 A nb (some ([rD l],[]))=some (.made (.d (.tup [vi (Md.C9 l),rD l.dropLast,vb (decide (l.length≠0))])) []):=
 Z6.deep (Z0g S dp l hl) (np S 206 (by decide)) A nb
theorem Zhc (dp:Nat)(l:List Int)(hl:l.length<1073741824)(hf:DV.flat 8 (.tup [vi (Md.C9 l),rD l.dropLast,vb (decide (l.length≠0))])=false)(A:List Blk)(nb ui:Nat)(us:List Nat):Zv false E (Z4 E fn (dp+1)) 206 A nb (some ([rD l],ui::us))=some (.turned (.d (.tup [vi (Md.C9 l),rD l.dropLast,vb (decide (l.length≠0))])) (YJ A (ui::us))):=
 Z6.used (Z0g S dp l hl) (np S 206 (by decide)) hf A nb ui us
end
variable {E:Env} {fn:FuncId->Option (Env->cT->cT)}
section
variable (S:Sur E fn)
include S
theorem FB:E.lives 207 1=none/\E.lives 207 19=none/\E.lives 207 25=none:=⟨off S 207 1 (by decide) rfl,off S 207 19 (by decide) rfl,off S 207 25 (by decide) rfl⟩
theorem FC:E.lives 155 1=none/\E.lives 155 15=none:=⟨off S 155 1 (by decide) rfl,off S 155 15 (by decide) rfl⟩
theorem Zoh (dp:Nat)(p:Prog)(mem:List Int)(l:List Ent)(addr:Int)(hl:l.length<1073741824)(kx:Nat->K)
  (hx:∀ T,ZX .bot T 1=.d (rD mem)->ZX .bot T 4=aI addr->∀ A,Z7 (kx 0 (mk .bot 65 T) (.cells ((Y3 p).map .d) 0 false::A))=some (.tup [vi (Md.QN p mem addr []).1,vi (Md.QN p mem addr []).2.1,vb (Md.QN p mem addr []).2.2])):
  ∀(k fuel:Nat),k<=l.length->k<fuel->Z7 (PY (Zj E 207) (Z4 E fn (dp+1)) (Z9 8 PY (Zj E 207) (Z4 E fn (dp+1)) kx (ZY 0 [.tmp 10,.tmp 11,.tmp 12]) fuel) kx (ZY 0 [.tmp 10,.tmp 11,.tmp 12])
   (mk .bot 65 [(1,.d (rD mem)),(4,aI addr),(5,.ref 0 0 0),(13,.d (rD l)),(14,aI ((k:Int)-1))]) [.cells ((Y3 p).map .d) 0 false])=
   some (.tup [vi (Md.QN p mem addr (l.take k).reverse).1,vi (Md.QN p mem addr (l.take k).reverse).2.1,vb (Md.QN p mem addr (l.take k).reverse).2.2]):=by
 intro k
 induction k with
 | zero=>
  intro fuel _ hf
  generalize Z9 8 PY _ _ kx _ fuel=KK
  rw[PY]
  simp only[eG,go_sem,Z3 S,Z2 S,zN0,zN1,zN2,zN3,zN4,zI0,zI1,zI2,zI3,reduceCtorEq,FB S,show ¬(((0:Nat):Int)-1>=0) by omega,List.take_zero,List.reverse_nil]
  exact hx _ rfl rfl []
 | succ k ih=>
  intro fuel hk hf
  obtain⟨e,he⟩:=YK (show k<l.length by omega)
  obtain⟨fuel,rfl⟩:∃ m,fuel=m+1:=⟨fuel-1,by omega⟩
  rw[show(((k+1:Nat):Int)-1)=(k:Int) by omega,V4 he]
  generalize hK:Z9 8 PY _ _ kx _ (fuel+1)=KK
  rw[PY]
  have hlen:(l.take k).reverse.length=k:=by simp;omega
  by_cases h1:(Md.at_ p e.pc).kind=3
  ·cases h2 : e.known with
   | true=>
    by_cases h3:e.addr=addr
    ·cases h4:e.done<;>simp only[eG,go_sem,Z3 S,Z2 S,zN0,zN1,zN2,zN3,zN4,zI0,zI1,zI2,zI3,reduceCtorEq,FB S,Zx he,Yj S,Int.natCast_nonneg,ge_iff_le,wd k (by omega),Bool.not_true,Bool.not_false,h1,h2,eq_true h3,h4,Md.QN,Md.HT,hlen]
    ·simp only [eG, go_sem, Z3 S, Z2 S, zN0, zN1, zN2, zN3, zN4, zI0, zI1, zI2, zI3, reduceCtorEq, FB S, Zx he, Yj S, Int.natCast_nonneg, ge_iff_le, wd k (by omega), Bool.not_true, Bool.not_false, h1, h2, eq_false h3, Md.QN, Md.HT]
     rw[<-hK,Z8 (on S _ _ [1,4,5,13,14] (by decide) rfl) rfl _ _ _ _ _ _ _ _ _ rfl]
     simp only[eG,go_sem,Z3 S,Z2 S,zN0,zN1,zN2,zN3,zN4,zI0,zI1,zI2,zI3,reduceCtorEq,FB S,Zx he,Yj S,Int.natCast_nonneg,ge_iff_le,wd k (by omega),Bool.not_true,Bool.not_false]
     exact ih fuel (by omega) (by omega)
   | false=>
    simp only[eG,go_sem,Z3 S,Z2 S,zN0,zN1,zN2,zN3,zN4,zI0,zI1,zI2,zI3,reduceCtorEq,FB S,Zx he,Yj S,Int.natCast_nonneg,ge_iff_le,wd k (by omega),Bool.not_true,Bool.not_false,h1,h2,Md.QN,Md.HT]
    rw[<-hK,Z8 (on S _ _ [1,4,5,13,14] (by decide) rfl) rfl _ _ _ _ _ _ _ _ _ rfl]
    simp only[eG,go_sem,Z3 S,Z2 S,zN0,zN1,zN2,zN3,zN4,zI0,zI1,zI2,zI3,reduceCtorEq,FB S,Zx he,Yj S,Int.natCast_nonneg,ge_iff_le,wd k (by omega),Bool.not_true,Bool.not_false]
    exact ih fuel (by omega) (by omega)
  ·simp only [eG, go_sem, Z3 S, Z2 S, zN0, zN1, zN2, zN3, zN4, zI0, zI1, zI2, zI3, reduceCtorEq, FB S, Zx he, Yj S, Int.natCast_nonneg, ge_iff_le, wd k (by omega), Bool.not_true, Bool.not_false, eq_false h1, Md.QN, Md.HT]
   rw[<-hK,Z8 (on S _ _ [1,4,5,13,14] (by decide) rfl) rfl _ _ _ _ _ _ _ _ _ rfl]
   simp only[eG,go_sem,Z3 S,Z2 S,zN0,zN1,zN2,zN3,zN4,zI0,zI1,zI2,zI3,reduceCtorEq,FB S,Zx he,Yj S,Int.natCast_nonneg,ge_iff_le,wd k (by omega),Bool.not_true,Bool.not_false]
   exact ih fuel (by omega) (by omega)
theorem Zkq (dp:Nat)(p:Prog)(mem:List Int)(l:List Ent)(i addr:Int)(hl:l.length<1073741824):Z6 E fn (dp+3) 207 [Zw p,rD mem,rD l,vi i,vi addr] (.tup [vi (Md.load p mem l i addr).1,vi (Md.load p mem l i addr).2.1,vb (Md.load p mem l i addr).2.2]):=by
 unfold Z6
 show Z7 (Z4 E fn (dp+2+1) 207 [.d (Zw p),.d (rD mem),.d (rD l),.d (vi i),.d (vi addr)] [])=_
 rw[ZD,S.Zau,ZG,Zg7,ZC _ _ _ _ _ _ _ _ rfl]
 have hcl:=K4 l i
 have e:(Md.cut l i).take (Md.cut l i).length=Md.cut l i:=List.take_of_length_le (by omega)
 have e2:Md.load p mem l i addr=Md.QN p mem addr ((Md.cut l i).take (Md.cut l i).length).reverse:=by rw[e];rfl
 rw[e2]
 simp only[eG,go_sem,Z3 S,Z2 S,zN0,zN1,zN2,zN3,zN4,zI0,zI1,zI2,zI3,reduceCtorEq,FB S,PT S,hl,wd _ (show(Md.cut l i).length<4611686018427387904 by omega)]
 rw[Y7,Z8 (on S _ _ [1,4,5,13,14] (by decide) rfl) rfl _ _ _ _ _ _ _ _ _ rfl]
 simp only[eG,go_sem,Z3 S,Z2 S,zN0,zN1,zN2,zN3,zN4,zI0,zI1,zI2,zI3,reduceCtorEq,FB S]
 refine Zoh S (dp+1) p mem (Md.cut l i) addr (by omega) _ ?_ _ _ (Nat.le_refl _) (by omega)
 intro T h1 h4 A
 by_cases h:addr<0
 ·simp only[eG,go_sem,Z3 S,Z2 S,zN0,zN1,zN2,zN3,zN4,zI0,zI1,zI2,zI3,reduceCtorEq,FB S,h1,h4,h,Md.QN]
 ·by_cases h2 : (mem.length : Int) <= addr
  ·simp only[eG,go_sem,Z3 S,Z2 S,zN0,zN1,zN2,zN3,zN4,zI0,zI1,zI2,zI3,reduceCtorEq,FB S,h1,h4,h,ge_iff_le,h2,Md.QN]
  ·obtain ⟨e, he⟩ := YK (show addr.toNat < mem.length by omega)
   simp only[eG,go_sem,Z3 S,Z2 S,zN0,zN1,zN2,zN3,zN4,zI0,zI1,zI2,zI3,reduceCtorEq,FB S,h1,h4,h,ge_iff_le,h2,Md.QN,E1 (show 0<=addr by omega) he,he,Option.getD_some]
theorem Zsj (dp:Nat)(p_w p_wn p_fu p_r0 p_r1 p_r2 p_r3:Int)(p_ms:List MemT)(p_ls:List Label)(p_is:List Ins)(mem:List Int)(l:List Ent)(i addr:Int)(hl:l.length<1073741824)(A:List Blk)(nb:Nat)(us:List Nat):Zv false E (Z4 E fn (dp+3)) 207 A nb (some ([.agg [vi p_w,vi p_wn,vi p_fu,vi p_r0,vi p_r1,vi p_r2,vi p_r3,rD p_ms,rD p_ls,rD p_is],rD mem,rD l,vi i,vi addr],us))=some (.made (.d (.tup [vi (Md.load (⟨p_w,p_wn,p_fu,⟨p_r0,p_r1,p_r2,p_r3⟩,p_ms,p_ls,p_is⟩:Prog) mem l i addr).1,vi (Md.load (⟨p_w,p_wn,p_fu,⟨p_r0,p_r1,p_r2,p_r3⟩,p_ms,p_ls,p_is⟩:Prog) mem l i addr).2.1,vb (Md.load (⟨p_w,p_wn,p_fu,⟨p_r0,p_r1,p_r2,p_r3⟩,p_ms,p_ls,p_is⟩:Prog) mem l i addr).2.2])) []):=
 Z6.flat (Zkq S dp (⟨p_w,p_wn,p_fu,⟨p_r0,p_r1,p_r2,p_r3⟩,p_ms,p_ls,p_is⟩:Prog) mem l i addr hl) (np S 207 (by decide)) (rfl) A nb us
theorem Zoi (dp:Nat)(p:Prog)(l:List Ent)(i addr:Int)(hl:l.length<1073741824)(kx:Nat->K)
  (hx:∀ T A,Z7 (kx 0 (mk .bot 51 T) A)=some (.tup [vi 0,vb false])):
  ∀(m k fuel:Nat),(k+m=l.length∨(m=0/\l.length<=k))->k<=l.length+1->m<=fuel->Z7 (R4 (Zj E 155) (Z4 E fn (dp+1)) (Z9 6 R4 (Zj E 155) (Z4 E fn (dp+1)) kx (ZY 0 [.tmp 8,.tmp 9]) fuel) kx (ZY 0 [.tmp 8,.tmp 9])
   (mk .bot 51 [(1,.d (rD l)),(2,aI i),(3,aI addr),(4,.ref 0 0 0),(10,aI k)]) [.cells ((Y3 p).map .d) 0 false])=
   some (.tup [vi (Md.JM p i addr k (l.drop k)).1,vb (Md.JM p i addr k (l.drop k)).2]):=by
 intro m
 induction m with
 | zero=>
  intro k fuel hk hk2 _
  generalize Z9 6 R4 _ _ kx _ fuel=KK
  rw[R4,List.drop_of_length_le (by omega)]
  simp only[eG,go_sem,Z3 S,Z2 S,zN0,zN1,zN2,zN3,zN4,zI0,zI1,zI2,zI3,reduceCtorEq,FC S,show ¬(k:Int)<l.length by omega,Md.JM]
  exact hx _ _
 | succ m ih=>
  intro k fuel hk hk2 hf
  obtain⟨e,he⟩:=YK (show k<l.length by omega)
  obtain⟨fuel,rfl⟩:∃ m,fuel=m+1:=⟨fuel-1,by omega⟩
  generalize hK:Z9 6 R4 _ _ kx _ (fuel+1)=KK
  rw[R4,Aj he]
  have h2:(k:Int)<l.length:=by omega
  by_cases k2:(Md.at_ p e.pc).kind=2
  ·cases hk : e.known with
   | true=>
    by_cases ha:e.addr=addr
    ·by_cases hfr : e.frm < i
     ·simp only[eG,go_sem,Z3 S,Z2 S,zN0,zN1,zN2,zN3,zN4,zI0,zI1,zI2,zI3,reduceCtorEq,FC S,Zx he,Yj S,wi k (by omega),h2,k2,hk,eq_true ha,hfr,Md.JM,Md.FN]
     ·simp only [eG, go_sem, Z3 S, Z2 S, zN0, zN1, zN2, zN3, zN4, zI0, zI1, zI2, zI3, reduceCtorEq, FC S, Zx he, Yj S, wi k (by omega), h2, k2, hk, eq_true ha, hfr, Md.JM, Md.FN]
      rw[<-hK,Z8 (on S _ _ [1,2,3,4,10] (by decide) rfl) rfl _ _ _ _ _ _ _ _ _ rfl]
      simp only[eG,go_sem,Z3 S,Z2 S,zN0,zN1,zN2,zN3,zN4,zI0,zI1,zI2,zI3,reduceCtorEq,FC S,Zx he,Yj S,wi k (by omega),h2]
      exact ih (k+1) fuel (by omega) (by omega) (by omega)
    ·simp only [eG, go_sem, Z3 S, Z2 S, zN0, zN1, zN2, zN3, zN4, zI0, zI1, zI2, zI3, reduceCtorEq, FC S, Zx he, Yj S, wi k (by omega), h2, k2, hk, eq_false ha, Md.JM, Md.FN]
     rw[<-hK,Z8 (on S _ _ [1,2,3,4,10] (by decide) rfl) rfl _ _ _ _ _ _ _ _ _ rfl]
     simp only[eG,go_sem,Z3 S,Z2 S,zN0,zN1,zN2,zN3,zN4,zI0,zI1,zI2,zI3,reduceCtorEq,FC S,Zx he,Yj S,wi k (by omega),h2]
     exact ih (k+1) fuel (by omega) (by omega) (by omega)
   | false=>
    simp only[eG,go_sem,Z3 S,Z2 S,zN0,zN1,zN2,zN3,zN4,zI0,zI1,zI2,zI3,reduceCtorEq,FC S,Zx he,Yj S,wi k (by omega),h2,k2,hk,Md.JM,Md.FN]
    rw[<-hK,Z8 (on S _ _ [1,2,3,4,10] (by decide) rfl) rfl _ _ _ _ _ _ _ _ _ rfl]
    simp only[eG,go_sem,Z3 S,Z2 S,zN0,zN1,zN2,zN3,zN4,zI0,zI1,zI2,zI3,reduceCtorEq,FC S,Zx he,Yj S,wi k (by omega),h2]
    exact ih (k+1) fuel (by omega) (by omega) (by omega)
  ·simp only [eG, go_sem, Z3 S, Z2 S, zN0, zN1, zN2, zN3, zN4, zI0, zI1, zI2, zI3, reduceCtorEq, FC S, Zx he, Yj S, wi k (by omega), h2, eq_false k2, Md.JM, Md.FN]
   rw[<-hK,Z8 (on S _ _ [1,2,3,4,10] (by decide) rfl) rfl _ _ _ _ _ _ _ _ _ rfl]
   simp only[eG,go_sem,Z3 S,Z2 S,zN0,zN1,zN2,zN3,zN4,zI0,zI1,zI2,zI3,reduceCtorEq,FC S,Zx he,Yj S,wi k (by omega),h2]
   exact ih (k+1) fuel (by omega) (by omega) (by omega)
theorem Zkr (dp:Nat)(p:Prog)(l:List Ent)(i addr:Int)(hl:l.length<1073741824)(hi0:i<4611686018427387904)(hi1: -4611686018427387904<i):Z6 E fn (dp+2) 155 [Zw p,rD l,vi i,vi addr] (.tup [vi (Md.J9 p l i addr).1,vb (Md.J9 p l i addr).2]):=by
 unfold Z6
 show Z7 (Z4 E fn (dp+1+1) 155 [.d (Zw p),.d (rD l),.d (vi i),.d (vi addr)] [])=_
 rw[ZD,S.Zav,ZG,Zg8,ZC _ _ _ _ _ _ _ _ rfl]
 have hh:Md.Cq l i<=l.length+1:=by unfold Md.Cq;omega
 have hr:max (IntKind.i64.wrap (min i (l.length:Int)+1)) 0=(Md.Cq l i:Int):=by rw[YH (by omega) (by omega)];unfold Md.Cq;omega
 simp only[eG,go_sem,Z3 S,Z2 S,zN0,zN1,zN2,zN3,zN4,zI0,zI1,zI2,zI3,reduceCtorEq,FC S,hr]
 rw[Y7,Z8 (on S _ _ [1,2,3,4,10] (by decide) rfl) rfl _ _ _ _ _ _ _ _ _ rfl]
 simp only[eG,go_sem,Z3 S,Z2 S,zN0,zN1,zN2,zN3,zN4,zI0,zI1,zI2,zI3,reduceCtorEq,FC S]
 refine Zoi S dp p l i addr hl _ ?_ (l.length-Md.Cq l i) (Md.Cq l i) _ (by omega) hh (by omega)
 intro T A
 simp only[eG,go_sem,Z3 S,Z2 S,zN0,zN1,zN2,zN3,zN4,zI0,zI1,zI2,zI3,reduceCtorEq,FC S]
theorem Zd1 (dp:Nat)(p_w p_wn p_fu p_r0 p_r1 p_r2 p_r3:Int)(p_ms:List MemT)(p_ls:List Label)(p_is:List Ins)(l:List Ent)(i addr:Int)(hl:l.length<1073741824)(hi0:i<4611686018427387904)(hi1: -4611686018427387904<i)(A:List Blk)(nb:Nat)(us:List Nat):Zv false E (Z4 E fn (dp+2)) 155 A nb (some ([.agg [vi p_w,vi p_wn,vi p_fu,vi p_r0,vi p_r1,vi p_r2,vi p_r3,rD p_ms,rD p_ls,rD p_is],rD l,vi i,vi addr],us))=some (.made (.d (.tup [vi (Md.J9 (⟨p_w,p_wn,p_fu,⟨p_r0,p_r1,p_r2,p_r3⟩,p_ms,p_ls,p_is⟩:Prog) l i addr).1,vb (Md.J9 (⟨p_w,p_wn,p_fu,⟨p_r0,p_r1,p_r2,p_r3⟩,p_ms,p_ls,p_is⟩:Prog) l i addr).2])) []):=
 Z6.flat (Zkr S dp (⟨p_w,p_wn,p_fu,⟨p_r0,p_r1,p_r2,p_r3⟩,p_ms,p_ls,p_is⟩:Prog) l i addr hl hi0 hi1) (np S 155 (by decide)) (rfl) A nb us
end
theorem GW {α:Type} [Cl α] {l:List α}(h:l.length=0)(i:Nat):YN i l=.d (.lst [] 0 (some 0)):=by rw[List.length_eq_zero_iff.1 h];rfl
theorem GV {α:Type} [Cl α] {l:List α}(h:l.length=0):Yz l=[]:=by rw[List.length_eq_zero_iff.1 h];rfl
variable {E:Env} {fn:FuncId->Option (Env->cT->cT)}
section
variable (S:Sur E fn)
include S
theorem Z0w:E.lives 242 7=none/\E.lives 242 17=none/\E.lives 242 19=none:=⟨off S 242 7 (by decide) rfl,off S 242 17 (by decide) rfl,off S 242 19 (by decide) rfl⟩
theorem Zmp (dp:Nat)(r0 r1 r2 r3:Int)(mm sk:List Int)(pc:Int)(hm:mm.length<1073741824)(hs:sk.length<1073741824):
  Z4 E fn (dp+1) 84 [.d (.agg [vi r0,vi r1,vi r2,vi r3,rD mm,rD sk,vi pc])] []=some (.agg [aI r0,aI r1,aI r2,aI r3,YN 0 mm,YN (Yz mm).length sk,aI pc],Yz mm++Yz sk):=by
 rw[ZD,S.Zbl,ZG,Zgy,ZC _ _ _ _ _ _ _ _ rfl]
 by_cases h1:mm.length=0<;>by_cases h2:sk.length=0
 ·simp only[eG,go_sem,Z3 S,Z2 S,zN0,zN1,zN2,zN3,zN4,zI0,zI1,zI2,zI3,reduceCtorEq,E7 S hm,E7 S hs,GW h1,GV h1,GW h2,GV h2]
 ·simp only[eG,go_sem,Z3 S,Z2 S,zN0,zN1,zN2,zN3,zN4,zI0,zI1,zI2,zI3,reduceCtorEq,E7 S hm,E7 S hs,GW h1,GV h1,ZN h2,ZM h2]
 ·simp only[eG,go_sem,Z3 S,Z2 S,zN0,zN1,zN2,zN3,zN4,zI0,zI1,zI2,zI3,reduceCtorEq,E7 S hm,E7 S hs,ZN h1,ZM h1,GW h2,GV h2]
 ·simp only[eG,go_sem,Z3 S,Z2 S,zN0,zN1,zN2,zN3,zN4,zI0,zI1,zI2,zI3,reduceCtorEq,E7 S hm,E7 S hs,ZN h1,ZM h1,ZN h2,ZM h2]
theorem VQ (dp:Nat)(r0 r1 r2 r3:Int)(mm sk:List Int)(pc:Int)(hm:mm.length<1073741824)(hs:sk.length<1073741824)(A:List Blk)(nb:Nat):
  Zv true E (Z4 E fn (dp+1)) 84 A nb (some ([.agg [vi r0,vi r1,vi r2,vi r3,rD mm,rD sk,vi pc]],[]))=some (.made (.agg [aI r0,aI r1,aI r2,aI r3,YN nb mm,YN (nb+(Yz mm).length) sk,aI pc]) (Yz mm++Yz sk)):=by
 have h:=Zmp S dp r0 r1 r2 r3 mm sk pc hm hs
 have hr:Jk E (Z4 E fn (dp+1)) 84 [.agg [vi r0,vi r1,vi r2,vi r3,rD mm,rD sk,vi pc]]=some (.agg [aI r0,aI r1,aI r2,aI r3,YN 0 mm,YN (Yz mm).length sk,aI pc],Yz mm++Yz sk):=by
  unfold Jk
  rw[np S 84 (by decide)]
  exact h
 simp only[Zv,hr,F5,cond_true]
 by_cases h1:mm.length=0<;>by_cases h2:sk.length=0
 ·have e1 : mm = [] := List.length_eq_zero_iff.1 h1
  have e2:sk=[]:=List.length_eq_zero_iff.1 h2
  subst e1 e2
  rfl
 ·have e1 : mm = [] := List.length_eq_zero_iff.1 h1
  subst e1
  simp[Yv,Yw,ZN h2,ZM h2,B4,DU,E3,Bq,Y8,Cl.n]
 ·have e2 : sk = [] := List.length_eq_zero_iff.1 h2
  subst e2
  simp[Yv,Yw,ZN h1,ZM h1,B4,DU,E3,Bq,Y8,Cl.n]
 ·simp[ZN h1,ZM h1,ZN h2,ZM h2,B4,DU,E3,Bq,Y8,Cl.n]
theorem Z6a (dp:Nat)(r0 r1 r2 r3:Int)(mm sk:List Int)(pc:Int)(bf:List Ent)(rb:List Int)(en:Int)(hm:mm.length<1073741824)(hs:sk.length<1073741824)(hb:bf.length<1073741824)(hr:rb.length<1073741824):
  Z4 E fn (dp+2) 45 [.d (.agg [vi r0,vi r1,vi r2,vi r3,rD mm,rD sk,vi pc,rD bf,rD rb,vi en])] []=some (.agg [aI r0,aI r1,aI r2,aI r3,YN 0 mm,YN (Yz mm).length sk,aI pc,.d (rD bf),.d (rD rb),aI en],Yz mm++Yz sk):=by
 rw[ZD,S.Zbj,ZG,Zgw,ZC _ _ _ _ _ _ _ _ rfl]
 by_cases h1:mm.length=0<;>by_cases h2:sk.length=0
 ·simp only[eG,go_sem,Z3 S,Z2 S,zN0,zN1,zN2,zN3,zN4,zI0,zI1,zI2,zI3,reduceCtorEq,VQ S,hm,hs,U9 S hb,U8 S hr,GW h1,GV h1,GW h2,GV h2]
 ·simp only[eG,go_sem,Z3 S,Z2 S,zN0,zN1,zN2,zN3,zN4,zI0,zI1,zI2,zI3,reduceCtorEq,VQ S,hm,hs,U9 S hb,U8 S hr,GW h1,GV h1,ZN h2,ZM h2]
 ·simp only[eG,go_sem,Z3 S,Z2 S,zN0,zN1,zN2,zN3,zN4,zI0,zI1,zI2,zI3,reduceCtorEq,VQ S,hm,hs,U9 S hb,U8 S hr,ZN h1,ZM h1,GW h2,GV h2]
 ·simp only[eG,go_sem,Z3 S,Z2 S,zN0,zN1,zN2,zN3,zN4,zI0,zI1,zI2,zI3,reduceCtorEq,VQ S,hm,hs,U9 S hb,U8 S hr,ZN h1,ZM h1,ZN h2,ZM h2]
theorem Zld (dp:Nat)(c:Conf)(hm:c.state.mem.length<1073741824)(hs:c.state.stack.length<1073741824)(hb:c.buf.length<1073741824)(hr:c.rsb.length<1073741824):Z6 E fn (dp+2) 45 [ZS c] (ZS c):=by
 unfold Z6
 show Z7 (Z4 E fn (dp+1+1) 45 [.d (ZS c)] [])=_
 have h:=Z6a S dp c.state.regs.r0 c.state.regs.r1 c.state.regs.r2 c.state.regs.r3 c.state.mem c.state.stack c.state.pc c.buf c.rsb c.end_ hm hs hb hr
 show Z7 (Z4 E fn (dp+2) 45 [.d (.agg [vi c.state.regs.r0,vi c.state.regs.r1,vi c.state.regs.r2,vi c.state.regs.r3,rD c.state.mem,rD c.state.stack,vi c.state.pc,rD c.buf,rD c.rsb,vi c.end_])] [])=_
 rw[h]
 by_cases h1:c.state.mem.length=0<;>by_cases h2:c.state.stack.length=0
 ·have e1 : c.state.mem = [] := List.length_eq_zero_iff.1 h1
  have e2:c.state.stack=[]:=List.length_eq_zero_iff.1 h2
  simp only[eG,go_sem,Z3 S,Z2 S,zN0,zN1,zN2,zN3,zN4,zI0,zI1,zI2,zI3,reduceCtorEq,e1,e2,Yv,Yw]
 ·have e1 : c.state.mem = [] := List.length_eq_zero_iff.1 h1
  have n2:c.state.stack≠[]:=fun e=>h2 (by rw[e];rfl)
  have d2:deep [.cells ((rC c.state.stack).map .d) 0 false] 7 (.sref 0 0 0 c.state.stack.length 1 none)=some (.lst (rC c.state.stack) c.state.stack.length none,[0]):=Bv rfl n2 5 _ 1 none rfl rfl
  simp only[eG,go_sem,Z3 S,Z2 S,zN0,zN1,zN2,zN3,zN4,zI0,zI1,zI2,zI3,reduceCtorEq,e1,Yv,Yw,ZN h2,ZM h2,d2];rfl
 ·have e2 : c.state.stack = [] := List.length_eq_zero_iff.1 h2
  have n1:c.state.mem≠[]:=fun e=>h1 (by rw[e];rfl)
  have d1:deep [.cells ((rC c.state.mem).map .d) 0 false] 7 (.sref 0 0 0 c.state.mem.length 1 none)=some (.lst (rC c.state.mem) c.state.mem.length none,[0]):=Bv rfl n1 5 _ 1 none rfl rfl
  simp only[eG,go_sem,Z3 S,Z2 S,zN0,zN1,zN2,zN3,zN4,zI0,zI1,zI2,zI3,reduceCtorEq,e2,Yv,Yw,ZN h1,ZM h1,d1];rfl
 ·have n2 : c.state.stack ≠ [] := fun e => h2 (by rw [e]; rfl)
  have n1:c.state.mem≠[]:=fun e=>h1 (by rw[e];rfl)
  have d1:deep [.cells ((rC c.state.mem).map .d) 0 false,.cells ((rC c.state.stack).map .d) 0 false] 7 (.sref 0 0 0 c.state.mem.length 1 none)=some (.lst (rC c.state.mem) c.state.mem.length none,[0]):=Bv rfl n1 5 _ 1 none rfl rfl
  have d2:deep [.cells ((rC c.state.mem).map .d) 0 false,.cells ((rC c.state.stack).map .d) 0 false] 7 (.sref 1 0 0 c.state.stack.length 1 none)=some (.lst (rC c.state.stack) c.state.stack.length none,[1]):=Bv rfl n2 5 _ 1 none rfl rfl
  simp only[eG,go_sem,Z3 S,Z2 S,zN0,zN1,zN2,zN3,zN4,zI0,zI1,zI2,zI3,reduceCtorEq,ZN h1,ZM h1,ZN h2,ZM h2,d1,d2];rfl
theorem X7 (dp:Nat)(c_r0 c_r1 c_r2 c_r3:Int)(c_mm c_st:List Int)(c_pc:Int)(c_bf:List Ent)(c_rb:List Int)(c_en:Int)(hm:(⟨⟨⟨c_r0,c_r1,c_r2,c_r3⟩,c_mm,c_st,c_pc⟩,c_bf,c_rb,c_en⟩:Conf).state.mem.length<1073741824)(hs:(⟨⟨⟨c_r0,c_r1,c_r2,c_r3⟩,c_mm,c_st,c_pc⟩,c_bf,c_rb,c_en⟩:Conf).state.stack.length<1073741824)(hb:(⟨⟨⟨c_r0,c_r1,c_r2,c_r3⟩,c_mm,c_st,c_pc⟩,c_bf,c_rb,c_en⟩:Conf).buf.length<1073741824)(hr:(⟨⟨⟨c_r0,c_r1,c_r2,c_r3⟩,c_mm,c_st,c_pc⟩,c_bf,c_rb,c_en⟩:Conf).rsb.length<1073741824)(A:List Blk)(nb:Nat):Zv false E (Z4 E fn (dp+2)) 45 A nb (some ([.agg [vi c_r0,vi c_r1,vi c_r2,vi c_r3,rD c_mm,rD c_st,vi c_pc,rD c_bf,rD c_rb,vi c_en]],[]))=some (.made (.d (ZS (⟨⟨⟨c_r0,c_r1,c_r2,c_r3⟩,c_mm,c_st,c_pc⟩,c_bf,c_rb,c_en⟩:Conf))) []):=
 Z6.deep (Zld S dp (⟨⟨⟨c_r0,c_r1,c_r2,c_r3⟩,c_mm,c_st,c_pc⟩,c_bf,c_rb,c_en⟩:Conf) hm hs hb hr) (np S 45 (by decide)) A nb
theorem Zsq (dp:Nat)(l:List Ent)(A:List Blk)(nb:Nat):Zv false E (Z4 E fn (dp+1)) 263 A nb (some ([rD l],[]))=some (.made (.d (.fn (.func 275) [.vptr [rD l]])) []):=by
 have h:Z6 E fn (dp+1) 263 [rD l] (.fn (.func 275) [.vptr [rD l]]):=by
  unfold Z6
  show Z7 (Z4 E fn (dp+1) 263 [.d (rD l)] [])=_
  rw[ZD,S.Z90,ZG,Zee,ZC _ _ _ _ _ _ _ _ rfl]
  simp only[eG,go_sem,Z3 S,Z2 S,zN0,zN1,zN2,zN3,zN4,zI0,zI1,zI2,zI3,reduceCtorEq,YY]
 exact h.deep (np S 263 (by decide)) A nb
theorem Zid (dp:Nat)(p:Prog)(of:Regs)(l:List Ent)(r:Int)(hl:l.length<1073741824)(kn:K)(kx:Nat->K)(D:Int)(d:AV)(T:List (Nat×AV))
  (h5:ZX d T 5=.ref 0 0 0) (h9:ZX d T 9=.ref 2 0 0) (h10:ZX d T 10=.ref 3 0 0) (h11:ZX d T 11=.ref 4 0 0)
  (hx:∀ A,Z7 (kn (mk d 50 T) (.cells ((Y3 p).map .d) 0 false:: .cells ((CU of).map .d) 0 false:: .cells [aI r] 0 false:: .cells [zi] 0 false:: .cells [zb] 0 false::A))=some (.tup [vi D,vb true])):
  ∀(k:Nat),k<=l.length->∀ es,D2 (rC l) 8 true k=some es->∀ A,Z7 (Kx XC XB [26,27] (Zj E 242) (Z4 E fn (dp+1)) kn kx (ZY 0 [.cell 10 false 1,.cell 11 false 1]) (mk d 50 T) es (.cells ((Y3 p).map .d) 0 false:: .cells ((CU of).map .d) 0 false:: .cells [aI r] 0 false:: .cells [zi] 0 false:: .cells [zb] 0 false::A))=
   some (.tup [vi (Md.E5 p r D (l.take k).reverse).1,vb (Md.E5 p r D (l.take k).reverse).2]):=by
 intro k
 induction k with
 | zero=>
  intro _ es hes A
  have:es=[]:=by simpa [D2] using hes.symm
  subst this
  exact hx A
 | succ k ih=>
  intro hk es hes A
  obtain⟨e,he⟩:=YK (show k<l.length by omega)
  obtain⟨es0,h0⟩:=Z3c (s:=8) rfl l k (by omega)
  have:=Zt3 (s:=8) rfl he h0 hes
  subst this
  rw[V4 he]
  have ih':=fun A'=>ih (by omega) es0 h0 A'
  rw[Kx]
  generalize hK:(fun(x:List AV) (A2:List Blk)=>Kx XC XB [26,27] (Zj E 242) (Z4 E fn (dp+1)) kn kx (ZY 0 [.cell 10 false 1,.cell 11 false 1]) (mk d 50 T) es0 A2)=KK
  rw[XC,XB]
  by_cases h1:Md.CZ (Md.at_ p e.pc)=true
  ·by_cases h2 : (Md.at_ p e.pc).d = r
   ·cases h3:e.done<;>simp only[eG,go_sem,Z3 S,Z2 S,zN0,zN1,zN2,zN3,zN4,zI0,zI1,zI2,zI3,reduceCtorEq,Z0w S,h5,h9,h10,h11,Yj S,Z2p S,Md.E5,Md.Dv,h1,eq_true h2,h3]
   ·simp only [eG, go_sem, Z3 S, Z2 S, zN0, zN1, zN2, zN3, zN4, zI0, zI1, zI2, zI3, reduceCtorEq, Z0w S, h5, h9, h10, h11, Yj S, Z2p S, Md.E5, Md.Dv, h1, eq_false h2]
    rw[<-hK]
    exact ih' _
  ·have h1' : Md.CZ (Md.at_ p e.pc) = false := by simpa using h1
   simp only[eG,go_sem,Z3 S,Z2 S,zN0,zN1,zN2,zN3,zN4,zI0,zI1,zI2,zI3,reduceCtorEq,Z0w S,h5,h9,h10,h11,Yj S,Z2p S,Md.E5,Md.Dv,h1']
   rw[<-hK]
   exact ih' _
end
def UE (Z:Option (AV×List Blk)):Option (List Int)->Prop
 | none=>Z=some (.tup [.d (.lst [] 0 (some 0)),Yx false],[])
 | some out=>∃ junk k,Z=some (.tup [.sref 0 0 0 out.length 1 k,Yx true],[.cells ((rC (out++junk)).map .d) 0 false])
theorem Z0k (Z:Option (AV×List Blk)):UE Z none=(Z=some (.tup [.d (.lst [] 0 (some 0)),Yx false],[])):=id rfl
theorem Z69 {Z:Option (AV×List Blk)}{out:List Int}(junk:List Int)(k:Option Nat)(h:Z=some (.tup [.sref 0 0 0 out.length 1 k,Yx true],[.cells ((rC (out++junk)).map .d) 0 false])):UE Z (some out):=⟨junk,k,h⟩
theorem Zbw {i:Nat}{out junk:List Int}{k:Option Nat}{A:List Blk}{b:Bool}(hA:A[i]? =some (.cells ((rC (out++junk)).map .d) 0 false)):
  Dw 0 (some (.tup [.sref i 0 0 out.length 1 k,Yx b],A))=some (.tup [.sref 0 0 0 out.length 1 k,Yx b],[.cells ((rC (out++junk)).map .d) 0 false]):=by
 have hi:¬A.length<=i:=by
  intro h;rw[List.getElem?_eq_none h] at hA;cases hA
 simp only[eG,go_sem,PP,hA,hi,List.not_mem_nil,false_or,or_false,Nat.not_lt_zero,if_false]
variable {E:Env} {fn:FuncId->Option (Env->cT->cT)}
section
variable (S:Sur E fn)
include S
theorem C7:E.lives 133 1=none/\E.lives 133 17=none/\E.lives 133 19=none/\E.lives 133 25=none/\E.lives 133 27=none:=⟨off S 133 1 (by decide) rfl,off S 133 17 (by decide) rfl,off S 133 19 (by decide) rfl,off S 133 25 (by decide) rfl,off S 133 27 (by decide) rfl⟩
theorem Z7i (dp:Nat)(p:Prog)(l:List Ent)(i:Int)(hl:l.length<1073741824)(kx:Nat->K)
  (hx:∀ T out junk k,ZX .bot T 10=.sref 1 0 0 (out:List Int).length 1 k->UE (kx 0 (mk .bot 59 T) [.cells ((Y3 p).map .d) 0 false,.cells ((rC (out++junk)).map .d) 0 false]) (some out)):
  ∀(m k fuel:Nat) (out junk:List Int) (q:Option Nat),k+m=(Md.cut l i).length->m<=fuel->out.length<1073741824->(q=none∨q=some 0/\out=[]/\junk=[])->UE (G0 (Zj E 133) (Z4 E fn (dp+1)) (Z9 8 G0 (Zj E 133) (Z4 E fn (dp+1)) kx (ZY 0 [.tmp 8,.tmp 9]) fuel) kx (ZY 0 [.tmp 8,.tmp 9])
   (mk .bot 59 [(2,.d (rD l)),(3,aI i),(4,.ref 0 0 0),(10,.sref 1 0 0 out.length 1 q),(11,aI k)]) [.cells ((Y3 p).map .d) 0 false,.cells ((rC (out++junk)).map .d) 0 false])
   (Md.QX p ((Md.cut l i).drop k) out):=by
 intro m
 have hcl:(Md.cut l i).length=min i.toNat l.length:=by simp[Md.cut]
 induction m with
 | zero=>
  intro k fuel out junk q hk _ ho hq
  generalize Z9 8 G0 _ _ kx _ fuel=KK
  rw[G0,List.drop_of_length_le (by omega)]
  by_cases h1:(k:Int)<i
  ·simp only [eG, go_sem, Z3 S, Z2 S, zN0, zN1, zN2, zN3, zN4, zI0, zI1, zI2, zI3, reduceCtorEq, C7 S, h1, show ¬ (k : Int) < l.length by omega, Md.QX]
   exact hx _ _ _ q rfl
  ·simp only [eG, go_sem, Z3 S, Z2 S, zN0, zN1, zN2, zN3, zN4, zI0, zI1, zI2, zI3, reduceCtorEq, C7 S, h1, Md.QX]
   exact hx _ _ _ q rfl
 | succ m ih=>
  intro k fuel out junk q hk hf ho hq
  obtain⟨e,he⟩:=YK (show k<l.length by omega)
  have hc:(Md.cut l i)[k]? =some e:=by unfold Md.cut;rw[List.getElem?_take,if_pos (by omega),he]
  obtain⟨fuel,rfl⟩:∃ m,fuel=m+1:=⟨fuel-1,by omega⟩
  generalize hK:Z9 8 G0 _ _ kx _ (fuel+1)=KK
  rw[G0,Aj hc,Md.QX]
  have h1:(k:Int)<i:=by omega
  have h2:(k:Int)<l.length:=by omega
  by_cases k8:(Md.at_ p e.pc).kind=8
  ·by_cases h4 : 4 <= out.length
   ·simp only[eG,go_sem,Z3 S,Z2 S,zN0,zN1,zN2,zN3,zN4,zI0,zI1,zI2,zI3,reduceCtorEq,C7 S,Zx he,ZU S,wi k (by omega),h1,h2,ge_iff_le,k8,h4,show(4:Int)<=out.length by omega,Z0k]
   ·have l1 : (out.length + 1) * 8 <= Z5 := by unfold Z5; omega
    have l2:out.length+1<=Z5:=by unfold Z5;omega
    rcases hq with rfl | ⟨rfl,rfl,rfl⟩
    ·cases junk with
     | nil=>
      simp only[List.append_nil]
      simp only[eG,go_sem,Z3 S,Z2 S,zN0,zN1,zN2,zN3,zN4,zI0,zI1,zI2,zI3,reduceCtorEq,C7 S,Zx he,ZU S,wi k (by omega),h1,h2,ge_iff_le,k8,h4,show ¬(4:Int)<=out.length by omega,Zq,BU,l1,l2]
      rw[<-hK,Z8 (on S _ _ [2,3,4,10,11] (by decide) rfl) rfl _ _ _ _ _ _ _ _ _ rfl]
      simp only[eG,go_sem,Z3 S,Z2 S,zN0,zN1,zN2,zN3,zN4,zI0,zI1,zI2,zI3,reduceCtorEq,C7 S,Zx he,ZU S,wi k (by omega),h1,h2,ge_iff_le]
      have e1:out.length+1=(out++[Md.ZW (e.pc+1)]).length:=by simp
      have:=ih (k+1) fuel (out++[Md.ZW (e.pc+1)]) [] none (by omega) (by omega) (by simp;omega) (.inl rfl)
      rw[<-e1,List.append_nil] at this
      exact this
     | cons y junk=>
      simp only[eG,go_sem,Z3 S,Z2 S,zN0,zN1,zN2,zN3,zN4,zI0,zI1,zI2,zI3,reduceCtorEq,C7 S,Zx he,ZU S,wi k (by omega),h1,h2,ge_iff_le,k8,h4,show ¬(4:Int)<=out.length by omega,Zq,Z3i (y:=y) (junk:=junk),l1,l2]
      rw[<-hK,Z8 (on S _ _ [2,3,4,10,11] (by decide) rfl) rfl _ _ _ _ _ _ _ _ _ rfl]
      simp only[eG,go_sem,Z3 S,Z2 S,zN0,zN1,zN2,zN3,zN4,zI0,zI1,zI2,zI3,reduceCtorEq,C7 S,Zx he,ZU S,wi k (by omega),h1,h2,ge_iff_le]
      have e1:out.length+1=(out++[Md.ZW (e.pc+1)]).length:=by simp
      have:=ih (k+1) fuel (out++[Md.ZW (e.pc+1)]) junk none (by omega) (by omega) (by simp;omega) (.inl rfl)
      rw[<-e1,List.append_assoc] at this
      exact this
    ·simp only [eG, go_sem, Z3 S, Z2 S, zN0, zN1, zN2, zN3, zN4, zI0, zI1, zI2, zI3, reduceCtorEq, C7 S, Zx he, ZU S, wi k (by omega), h1, h2, ge_iff_le, k8, List.length_nil, show ¬ (4 : Int) <= (0 : Nat) by omega, Zq, Cw (cs := []), Nat.succ_ne_zero, show (1 : Nat) * 8 <= Z5 by decide, show (1 : Nat) <= Z5 by decide, ne_eq, not_false_eq_true]
     rw[<-hK,Z8 (on S _ _ [2,3,4,10,11] (by decide) rfl) rfl _ _ _ _ _ _ _ _ _ rfl]
     simp only[eG,go_sem,Z3 S,Z2 S,zN0,zN1,zN2,zN3,zN4,zI0,zI1,zI2,zI3,reduceCtorEq,C7 S,Zx he,ZU S,wi k (by omega),h1,h2,ge_iff_le]
     exact ih (k+1) fuel [Md.ZW (e.pc+1)] [] none (by omega) (by omega) (by simp) (.inl rfl)
  ·by_cases k9 : (Md.at_ p e.pc).kind = 9
   ·cases hr : out.reverse with
    | nil=>
     have:out=[]:=List.reverse_eq_nil_iff.1 hr
     subst this
     simp only[eG,go_sem,Z3 S,Z2 S,zN0,zN1,zN2,zN3,zN4,zI0,zI1,zI2,zI3,reduceCtorEq,C7 S,Zx he,ZU S,wi k (by omega),h1,h2,ge_iff_le,k8,k9,List.length_nil,Z0k,zI0,Int.natCast_eq_zero]
    | cons y r=>
     have e0:out=r.reverse++[y]:=by rw[<-List.reverse_reverse out,hr,List.reverse_cons]
     subst e0
     have e1:(r.reverse++[y]).dropLast=r.reverse:=List.dropLast_concat
     have e2:(r.reverse++[y]).length=r.reverse.length+1:=by simp
     rcases hq with rfl | ⟨_,h,_⟩
     ·have w1 : IntKind.i64.wrap (((r.reverse.length + 1 : Nat) : Int) - 1) = (r.reverse.length : Int) := by rw [e2] at ho; rw [YH (by omega) (by omega)]; omega
      have bd:=Hk (r.reverse.length+1) .i64 (r.reverse.length:Int) (by omega) (by omega)
      rw[e2,e1]
      simp only[eG,go_sem,Z3 S,Z2 S,zN0,zN1,zN2,zN3,zN4,zI0,zI1,zI2,zI3,reduceCtorEq,C7 S,Zx he,ZU S,wi k (by omega),h1,h2,ge_iff_le,k8,k9,w1,bd,Int.toNat_natCast,Nat.succ_ne_zero,Int.natCast_eq_zero,ne_eq,not_true_eq_false,and_false,Nat.zero_mul,Nat.sub_zero,Nat.add_zero,Nat.zero_add]
      rw[<-hK,Z8 (on S _ _ [2,3,4,10,11] (by decide) rfl) rfl _ _ _ _ _ _ _ _ _ rfl]
      simp only[eG,go_sem,Z3 S,Z2 S,zN0,zN1,zN2,zN3,zN4,zI0,zI1,zI2,zI3,reduceCtorEq,C7 S,Zx he,ZU S,wi k (by omega),h1,h2,ge_iff_le]
      have:=ih (k+1) fuel r.reverse ([y]++junk) none (by omega) (by omega) (by omega) (.inl rfl)
      rw[<-List.append_assoc] at this
      exact this
     ·simp at h
   ·simp only [eG, go_sem, Z3 S, Z2 S, zN0, zN1, zN2, zN3, zN4, zI0, zI1, zI2, zI3, reduceCtorEq, C7 S, Zx he, ZU S, wi k (by omega), h1, h2, ge_iff_le, k8, k9]
    rw[<-hK,Z8 (on S _ _ [2,3,4,10,11] (by decide) rfl) rfl _ _ _ _ _ _ _ _ _ rfl]
    simp only[eG,go_sem,Z3 S,Z2 S,zN0,zN1,zN2,zN3,zN4,zI0,zI1,zI2,zI3,reduceCtorEq,C7 S,Zx he,ZU S,wi k (by omega),h1,h2,ge_iff_le]
    exact ih (k+1) fuel out junk q (by omega) (by omega) ho hq
theorem Z6b (dp:Nat)(p:Prog)(sk:List Int)(l:List Ent)(i:Int)(hl:l.length<1073741824)(hs:sk.length<1073741824):
  UE (Z4 E fn (dp+2) 133 [.d (Zw p),.d (rD sk),.d (rD l),aI i] []) (Md.real p sk l i):=by
 rw[ZD,S.Z1x,ZG,Z3n,ZC _ _ _ _ _ _ _ _ rfl]
 by_cases h0:sk.length=0
 ·have : sk = [] := List.length_eq_zero_iff.1 h0
  subst this
  simp only[eG,go_sem,Z3 S,Z2 S,zN0,zN1,zN2,zN3,zN4,zI0,zI1,zI2,zI3,reduceCtorEq,C7 S,YS]
  rw[Y7,Z8 (on S _ _ [2,3,4,10,11] (by decide) rfl) rfl _ _ _ _ _ _ _ _ _ rfl]
  simp only[eG,go_sem,Z3 S,Z2 S,zN0,zN1,zN2,zN3,zN4,zI0,zI1,zI2,zI3,reduceCtorEq,C7 S]
  refine Z7i S dp p l i hl _ ?_ (Md.cut l i).length 0 _ [] [] (some 0) (by omega) (by have:=K4 l i;omega) (by simp) (.inr ⟨rfl,rfl,rfl⟩)
  intro T out junk k h
  refine Z69 junk k ?_
  simp only[go_sem,Z3 S,Z2 S,zN0,zN1,zN2,zN3,zN4,zI0,zI1,zI2,zI3,reduceCtorEq,C7 S,h]
  exact Zbw rfl
 ·have l1 : sk.length * 8 <= Z5 := by unfold Z5; omega
  have l2:sk.length<=Z5:=by unfold Z5;omega
  have l3:(((rC sk).map AV.d).all AV.one)=true:=G5 _
  simp only[eG,go_sem,Z3 S,Z2 S,zN0,zN1,zN2,zN3,zN4,zI0,zI1,zI2,zI3,reduceCtorEq,C7 S,YS,Cw (cs:=[]),l1,l2,l3,ne_eq,h0,not_false_eq_true]
  rw[Y7,Z8 (on S _ _ [2,3,4,10,11] (by decide) rfl) rfl _ _ _ _ _ _ _ _ _ rfl]
  simp only[eG,go_sem,Z3 S,Z2 S,zN0,zN1,zN2,zN3,zN4,zI0,zI1,zI2,zI3,reduceCtorEq,C7 S]
  have:=Z7i S dp p l i hl (Hq 0 (cQ (Z1 [st 58 (oV (.t 10)),st 8 (oV (.t 58)),st 9 (oV (.c (.v (.bool true))))]) cZ (Zj E 133) (Z4 E fn (dp+1)) (ZY 0 [.tmp 8,.tmp 9]) (fun _ _ _=>none) (ZY 0 [.tmp 8,.tmp 9])) (fun _ _ _=>none)) ?_ (Md.cut l i).length 0 999999999999999999999999999999 sk [] none (by omega) (by have:=K4 l i;omega) hs (.inl rfl)
  ·rw [List.append_nil] at this
   exact this
  intro T out junk k h
  refine Z69 junk k ?_
  simp only[go_sem,Z3 S,Z2 S,zN0,zN1,zN2,zN3,zN4,zI0,zI1,zI2,zI3,reduceCtorEq,C7 S,h]
  exact Zbw rfl
theorem Zn7 (dp:Nat)(p:Prog)(sk:List Int)(l:List Ent)(i:Int)(hl:l.length<1073741824)(hs:sk.length<1073741824)(h:Md.real p sk l i=none)(A:List Blk)(nb:Nat)(us:List Nat):
  Zv true E (Z4 E fn (dp+2)) 133 A nb (some ([Zw p,rD sk,rD l,vi i],us))=some (.made (.tup [.d (.lst [] 0 (some 0)),Yx false]) []):=by
 have h1:=Z6b S dp p sk l i hl hs
 rw[h,Z0k] at h1
 have hr:Jk E (Z4 E fn (dp+2)) 133 [Zw p,rD sk,rD l,vi i]=some (.tup [.d (.lst [] 0 (some 0)),Yx false],[]):=by
  unfold Jk
  rw[np S 133 (by decide)]
  exact h1
 simp only[Zv,hr,F5,cond_true]
 show E3 A us (some (.tup [.d (.lst [] 0 (some 0)),Yx false],[],[]))=_
 show(bif Bq us || true then _ else _)=_
 rw[Bool.or_true];rfl
theorem Zn6 (dp:Nat)(p:Prog)(sk:List Int)(l:List Ent)(i:Int)(hl:l.length<1073741824)(hs:sk.length<1073741824)(r:List Int)(h:Md.real p sk l i=some r):
  ∃ junk k,∀(A:List Blk) (nb:Nat) (us:List Nat),Zv true E (Z4 E fn (dp+2)) 133 A nb (some ([Zw p,rD sk,rD l,vi i],us))=some (.made (.tup [.sref nb 0 0 r.length 1 k,Yx true]) [.cells ((rC (r++junk)).map .d) 0 false]):=by
 have h1:=Z6b S dp p sk l i hl hs
 rw[h] at h1
 obtain⟨junk,k,h1⟩:=h1
 refine⟨junk,k,fun A nb us=> ?_⟩
 have hr:Jk E (Z4 E fn (dp+2)) 133 [Zw p,rD sk,rD l,vi i]=some (.tup [.sref 0 0 0 r.length 1 k,Yx true],[.cells ((rC (r++junk)).map .d) 0 false]):=by
  unfold Jk
  rw[np S 133 (by decide)]
  exact h1
 simp only[Zv,hr,F5,cond_true]
 have ht:B4 [.cells ((rC (r++junk)).map .d) 0 false] nb 6 (.tup [.sref 0 0 0 r.length 1 k,Yx true]) [] []=some (.tup [.sref nb 0 0 r.length 1 k,Yx true],[.cells ((rC (r++junk)).map .d) 0 false],[0]):=by
  simp[B4,DU,Y8]
 rw[ht]
 have hf:HV [.cells ((rC (r++junk)).map .d) 0 false]=true:=by
  show(((rC (r++junk)).map AV.d).all _&&true)=true
  rw[Bool.and_true,List.all_map]
  exact Z09 (r++junk)
 show(bif Bq us || (true&&HV [.cells ((rC (r++junk)).map .d) 0 false]) then _ else _)=_
 rw[hf,Bool.and_true,Bool.or_true]
 rfl
end
def KN (p:Prog):Nat->List Ent->Int
 | _,[]=> -1
 | k,e::l=>bif Md.FM p e then(k:Int) else KN p (k+1) l
theorem Z85 (p:Prog):∀(l:List Ent) (k:Nat),decide (KN p k l>=0)=l.any (Md.FM p)
 | [],_=>rfl
 | e::l,k=>by
  rw[KN,List.any_cons]
  cases h:Md.FM p e with
  | true=>simp
  | false=>
   rw[cond_false,Bool.false_or]
   exact Z85 p l (k+1)
variable {E:Env} {fn:FuncId->Option (Env->cT->cT)}
section
variable (S:Sur E fn)
include S
theorem Pz:E.lives 242 7=none/\E.lives 242 17=none/\E.lives 242 19=none:=⟨off S 242 7 (by decide) rfl,off S 242 17 (by decide) rfl,off S 242 19 (by decide) rfl⟩
theorem Znc:E.lives 203 7=none:=off S 203 7 (by decide) rfl
theorem Px:E.lives 262 1=none/\E.lives 262 13=none:=⟨off S 262 1 (by decide) rfl,off S 262 13 (by decide) rfl⟩
theorem Zjn (dp:Nat)(p:Prog)(of:Regs)(l:List Ent)(i r:Int)(hl:l.length<1073741824):Z6 E fn (dp+3) 242 [Zw p,.agg (CU of),rD l,vi i,vi r] (.tup [vi (Md.reg p of l i r).1,vb (Md.reg p of l i r).2]):=by
 unfold Z6
 show Z7 (Z4 E fn (dp+2+1) 242 [.d (Zw p),.d (.agg (CU of)),.d (rD l),.d (vi i),.d (vi r)] [])=_
 rw[ZD,S.Z9n,ZG,Zf0,ZC _ _ _ _ _ _ _ _ rfl]
 have hcl:=K4 l i
 by_cases h:r<0
 ·simp only[eG,go_sem,Z3 S,Z2 S,zN0,zN1,zN2,zN3,zN4,zI0,zI1,zI2,zI3,reduceCtorEq,Pz S,h,Md.reg]
 by_cases h2:r>=4
 ·simp only[eG,go_sem,Z3 S,Z2 S,zN0,zN1,zN2,zN3,zN4,zI0,zI1,zI2,zI3,reduceCtorEq,Pz S,h,h2,Md.reg,show 4<=r by omega]
 ·have e1 : (Md.cut l i).take (Md.cut l i).length = Md.cut l i := List.take_of_length_le (by omega)
  have e:Md.reg p of l i r=Md.E5 p r (Md.Bx of r) ((Md.cut l i).take (Md.cut l i).length).reverse:=by
   unfold Md.reg;rw[if_neg (by omega),e1]
  rw[e]
  obtain⟨es,hes⟩:=Z3c (s:=8) rfl (Md.cut l i) (Md.cut l i).length (Nat.le_refl _)
  have hr:=Zqp (E:=Zj E 242) (ag:=true) S.bk rfl (Md.cut l i) (by unfold Z5;omega) (by decide) (by simp) []
  rw[hes] at hr
  simp only[eG,go_sem,Z3 S,Z2 S,zN0,zN1,zN2,zN3,zN4,zI0,zI1,zI2,zI3,reduceCtorEq,Pz S,h,h2,PT S,hl,Zsq S,hr]
  refine Zid S (dp+1) p of (Md.cut l i) r (by omega) _ _ (Md.Bx of r) CK _ rfl rfl rfl rfl ?_ _ (Nat.le_refl _) es hes []
  intro A
  obtain rfl | rfl | rfl | rfl:r=0∨r=1∨r=2∨r=3:=by omega
  ·simp only[eG,go_sem,Z3 S,Z2 S,zN0,zN1,zN2,zN3,zN4,zI0,zI1,zI2,zI3,reduceCtorEq,Pz S,Int.toNat_zero,Int.reduceToNat,Nat.zero_mul,Md.Bx];rfl
  ·simp only[eG,go_sem,Z3 S,Z2 S,zN0,zN1,zN2,zN3,zN4,zI0,zI1,zI2,zI3,reduceCtorEq,Pz S,Int.reduceToNat,Nat.one_mul,Md.Bx];rfl
  ·simp only[eG,go_sem,Z3 S,Z2 S,zN0,zN1,zN2,zN3,zN4,zI0,zI1,zI2,zI3,reduceCtorEq,Pz S,Int.reduceToNat,Md.Bx];rfl
  ·simp only[eG,go_sem,Z3 S,Z2 S,zN0,zN1,zN2,zN3,zN4,zI0,zI1,zI2,zI3,reduceCtorEq,Pz S,Int.reduceToNat,Md.Bx];rfl
theorem Zs8 (dp:Nat)(p_w p_wn p_fu p_r0 p_r1 p_r2 p_r3:Int)(p_ms:List MemT)(p_ls:List Label)(p_is:List Ins)(of_r0 of_r1 of_r2 of_r3:Int)(l:List Ent)(i r:Int)(hl:l.length<1073741824)(A:List Blk)(nb:Nat)(us:List Nat):Zv false E (Z4 E fn (dp+3)) 242 A nb (some ([.agg [vi p_w,vi p_wn,vi p_fu,vi p_r0,vi p_r1,vi p_r2,vi p_r3,rD p_ms,rD p_ls,rD p_is],.agg [vi of_r0,vi of_r1,vi of_r2,vi of_r3],rD l,vi i,vi r],us))=some (.made (.d (.tup [vi (Md.reg (⟨p_w,p_wn,p_fu,⟨p_r0,p_r1,p_r2,p_r3⟩,p_ms,p_ls,p_is⟩:Prog) (⟨of_r0,of_r1,of_r2,of_r3⟩:Regs) l i r).1,vb (Md.reg (⟨p_w,p_wn,p_fu,⟨p_r0,p_r1,p_r2,p_r3⟩,p_ms,p_ls,p_is⟩:Prog) (⟨of_r0,of_r1,of_r2,of_r3⟩:Regs) l i r).2])) []):=
 Z6.flat (Zjn S dp (⟨p_w,p_wn,p_fu,⟨p_r0,p_r1,p_r2,p_r3⟩,p_ms,p_ls,p_is⟩:Prog) (⟨of_r0,of_r1,of_r2,of_r3⟩:Regs) l i r hl) (np S 242 (by decide)) (rfl) A nb us
theorem Zjm (dp:Nat)(p:Prog)(of:Regs)(l:List Ent)(i:Int)(v:Val)(hl:l.length<1073741824):Z6 E fn (dp+4) 203 [Zw p,.agg (CU of),rD l,vi i,.agg (Cl.cells v)] (.tup [vi (Md.val p of l i v).1,vb (Md.val p of l i v).2]):=by
 unfold Z6
 show Z7 (Z4 E fn (dp+3+1) 203 [.d (Zw p),.d (.agg (CU of)),.d (rD l),.d (vi i),.d (.agg (Cl.cells v))] [])=_
 rw[ZD,S.Z9m,ZG,Zez,ZC _ _ _ _ _ _ _ _ rfl]
 cases h:v.reg<;>simp only[eG,go_sem,Z3 S,Z2 S,zN0,zN1,zN2,zN3,zN4,zI0,zI1,zI2,zI3,reduceCtorEq,Znc S,h,Md.val,Zs8 S,hl,Z2m S]
theorem Zs7 (dp:Nat)(p_w p_wn p_fu p_r0 p_r1 p_r2 p_r3:Int)(p_ms:List MemT)(p_ls:List Label)(p_is:List Ins)(of_r0 of_r1 of_r2 of_r3:Int)(l:List Ent)(i:Int)(v_g:Bool)(v_n:Int)(hl:l.length<1073741824)(A:List Blk)(nb:Nat)(us:List Nat):Zv false E (Z4 E fn (dp+4)) 203 A nb (some ([.agg [vi p_w,vi p_wn,vi p_fu,vi p_r0,vi p_r1,vi p_r2,vi p_r3,rD p_ms,rD p_ls,rD p_is],.agg [vi of_r0,vi of_r1,vi of_r2,vi of_r3],rD l,vi i,.agg [vb v_g,vi v_n]],us))=some (.made (.d (.tup [vi (Md.val (⟨p_w,p_wn,p_fu,⟨p_r0,p_r1,p_r2,p_r3⟩,p_ms,p_ls,p_is⟩:Prog) (⟨of_r0,of_r1,of_r2,of_r3⟩:Regs) l i (⟨v_g,v_n⟩:Val)).1,vb (Md.val (⟨p_w,p_wn,p_fu,⟨p_r0,p_r1,p_r2,p_r3⟩,p_ms,p_ls,p_is⟩:Prog) (⟨of_r0,of_r1,of_r2,of_r3⟩:Regs) l i (⟨v_g,v_n⟩:Val)).2])) []):=
 Z6.flat (Zjm S dp (⟨p_w,p_wn,p_fu,⟨p_r0,p_r1,p_r2,p_r3⟩,p_ms,p_ls,p_is⟩:Prog) (⟨of_r0,of_r1,of_r2,of_r3⟩:Regs) l i (⟨v_g,v_n⟩:Val) hl) (np S 203 (by decide)) (rfl) A nb us
theorem Zjp (dp:Nat)(e:Ent)(p:Prog):Z6 E fn (dp+2) 241 [.agg (Cl.cells e),.vptr (Y3 p)] (vb (Md.FM p e)):=by
 unfold Z6
 show Z7 (Z4 E fn (dp+1+1) 241 [.d (.agg (Cl.cells e)),.d (.vptr (Y3 p))] [])=_
 rw[ZD,S.Z9p,ZG,Zf2,ZC _ _ _ _ _ _ _ _ rfl]
 simp only[eG,go_sem,Z3 S,Z2 S,zN0,zN1,zN2,zN3,zN4,zI0,zI1,zI2,zI3,reduceCtorEq,Yj S,Md.FM]
theorem Zcx (dp:Nat)(e_pc e_vl e_ad e_fr e_nx:Int)(e_dn e_kn e_ft:Bool)(p_w p_wn p_fu p_r0 p_r1 p_r2 p_r3:Int)(p_ms:List MemT)(p_ls:List Label)(p_is:List Ins)(A:List Blk)(nb:Nat)(us:List Nat):Zv false E (Z4 E fn (dp+2)) 241 A nb (some ([.agg [vi e_pc,vi e_vl,vi e_ad,vi e_fr,vi e_nx,vb e_dn,vb e_kn,vb e_ft],.vptr [vi p_w,vi p_wn,vi p_fu,vi p_r0,vi p_r1,vi p_r2,vi p_r3,rD p_ms,rD p_ls,rD p_is]],us))=some (.made (.d (vb (Md.FM (⟨p_w,p_wn,p_fu,⟨p_r0,p_r1,p_r2,p_r3⟩,p_ms,p_ls,p_is⟩:Prog) (⟨e_pc,e_vl,e_ad,e_fr,e_nx,e_dn,e_kn,e_ft⟩:Ent)))) []):=
 Z6.flat (Zjp S dp (⟨e_pc,e_vl,e_ad,e_fr,e_nx,e_dn,e_kn,e_ft⟩:Ent) (⟨p_w,p_wn,p_fu,⟨p_r0,p_r1,p_r2,p_r3⟩,p_ms,p_ls,p_is⟩:Prog) ) (np S 241 (by decide)) (rfl) A nb us
theorem Zoj (dp:Nat)(p:Prog)(l:List Ent)(hl:l.length<1073741824)(kx:Nat->K)
  (hx:∀ T,Z7 (kx 0 (mk .bot 19 T) [])=some (vi (-1))):
  ∀(m k fuel:Nat),k+m=l.length->m<=fuel->Z7 (R0 (Zj E 262) (Z4 E fn (dp+2)) (Z9 6 R0 (Zj E 262) (Z4 E fn (dp+2)) kx (ZY 0 [.tmp 4]) fuel) kx (ZY 0 [.tmp 4])
   (mk .bot 19 [(0,.d (rD l)),(1,.d (.fn (.func 241) [.vptr (Y3 p)])),(7,aI l.length),(8,aI k)]) [])=some (vi (KN p k (l.drop k))):=by
 intro m
 induction m with
 | zero=>
  intro k fuel hk _
  generalize Z9 6 R0 _ _ kx _ fuel=KK
  rw[R0,List.drop_of_length_le (by omega)]
  simp only[eG,go_sem,Z3 S,Z2 S,zN0,zN1,zN2,zN3,zN4,zI0,zI1,zI2,zI3,reduceCtorEq,Px S,show ¬(k:Int)<l.length by omega,KN]
  exact hx _
 | succ m ih=>
  intro k fuel hk hf
  obtain⟨e,he⟩:=YK (show k<l.length by omega)
  obtain⟨fuel,rfl⟩:∃ m,fuel=m+1:=⟨fuel-1,by omega⟩
  generalize hK:Z9 6 R0 _ _ kx _ (fuel+1)=KK
  rw[R0,Aj he]
  cases h0:Md.FM p e with
  | false=>
   simp only[eG,go_sem,Z3 S,Z2 S,zN0,zN1,zN2,zN3,zN4,zI0,zI1,zI2,zI3,reduceCtorEq,Px S,show(k:Int)<l.length by omega,Zx he,Zcx S,h0,KN,wi k (by omega)]
   rw[<-hK,Z8 (on S _ _ [0,1,7,8] (by decide) rfl) rfl _ _ _ _ _ _ _ _ _ rfl]
   simp only[eG,go_sem,Z3 S,Z2 S,zN0,zN1,zN2,zN3,zN4,zI0,zI1,zI2,zI3,reduceCtorEq,Px S]
   exact ih (k+1) fuel (by omega) (by omega)
  | true=>simp only[eG,go_sem,Z3 S,Z2 S,zN0,zN1,zN2,zN3,zN4,zI0,zI1,zI2,zI3,reduceCtorEq,Px S,show(k:Int)<l.length by omega,Zx he,Zcx S,h0,KN,wi k (by omega)]
theorem Zj2 (dp:Nat)(l:List Ent)(p:Prog)(hl:l.length<1073741824):Z6 E fn (dp+3) 262 [rD l,.fn (.func 241) [.vptr (Y3 p)]] (vi (KN p 0 l)):=by
 unfold Z6
 show Z7 (Z4 E fn (dp+2+1) 262 [.d (rD l),.d (.fn (.func 241) [.vptr (Y3 p)])] [])=_
 rw[ZD,S.Z8y,ZG,Zec,ZC _ _ _ _ _ _ _ _ rfl]
 simp only[eG,go_sem,Z3 S,Z2 S,zN0,zN1,zN2,zN3,zN4,zI0,zI1,zI2,zI3,reduceCtorEq,Px S]
 rw[Y7,Z8 (on S _ _ [0,1,7,8] (by decide) rfl) rfl _ _ _ _ _ _ _ _ _ rfl]
 simp only[eG,go_sem,Z3 S,Z2 S,zN0,zN1,zN2,zN3,zN4,zI0,zI1,zI2,zI3,reduceCtorEq,Px S]
 have:=Zoj S dp p l hl (Hq 0 (cQ (Z1 [st 4 (oV (ci (-1)))]) cZ (Zj E 262) (Z4 E fn (dp+2)) (ZY 0 [.tmp 4]) (fun _ _ _=>none) (ZY 0 [.tmp 4])) (fun _ _ _=>none)) ?_ l.length 0 999999999999999999999999999999 (by omega) (by omega)
 ·rw [List.drop_zero] at this
  exact this
 intro T
 simp only[eG,go_sem,Z3 S,Z2 S,zN0,zN1,zN2,zN3,zN4,zI0,zI1,zI2,zI3,reduceCtorEq,Px S]
theorem Zs1 (dp:Nat)(l:List Ent)(p_w p_wn p_fu p_r0 p_r1 p_r2 p_r3:Int)(p_ms:List MemT)(p_ls:List Label)(p_is:List Ins)(hl:l.length<1073741824)(A:List Blk)(nb:Nat)(us:List Nat):Zv false E (Z4 E fn (dp+3)) 262 A nb (some ([rD l,.fn (.func 241) [.vptr [vi p_w,vi p_wn,vi p_fu,vi p_r0,vi p_r1,vi p_r2,vi p_r3,rD p_ms,rD p_ls,rD p_is]]],us))=some (.made (.d (vi (KN (⟨p_w,p_wn,p_fu,⟨p_r0,p_r1,p_r2,p_r3⟩,p_ms,p_ls,p_is⟩:Prog) 0 l))) []):=
 Z6.flat (Zj2 S dp l (⟨p_w,p_wn,p_fu,⟨p_r0,p_r1,p_r2,p_r3⟩,p_ms,p_ls,p_is⟩:Prog) hl) (np S 262 (by decide)) (rfl) A nb us
theorem Zj3 (dp:Nat)(l:List Ent)(p:Prog)(hl:l.length<1073741824):Z6 E fn (dp+4) 240 [rD l,.fn (.func 241) [.vptr (Y3 p)]] (vb (l.any (Md.FM p))):=by
 unfold Z6
 show Z7 (Z4 E fn (dp+3+1) 240 [.d (rD l),.d (.fn (.func 241) [.vptr (Y3 p)])] [])=_
 rw[ZD,S.Z8z,ZG,Zed,ZC _ _ _ _ _ _ _ _ rfl]
 rw[<-Z85 p l 0]
 simp only[eG,go_sem,Z3 S,Z2 S,zN0,zN1,zN2,zN3,zN4,zI0,zI1,zI2,zI3,reduceCtorEq,Zs1 S,hl]
theorem Zs2 (dp:Nat)(l:List Ent)(p_w p_wn p_fu p_r0 p_r1 p_r2 p_r3:Int)(p_ms:List MemT)(p_ls:List Label)(p_is:List Ins)(hl:l.length<1073741824)(A:List Blk)(nb:Nat)(us:List Nat):Zv false E (Z4 E fn (dp+4)) 240 A nb (some ([rD l,.fn (.func 241) [.vptr [vi p_w,vi p_wn,vi p_fu,vi p_r0,vi p_r1,vi p_r2,vi p_r3,rD p_ms,rD p_ls,rD p_is]]],us))=some (.made (.d (vb (l.any (Md.FM (⟨p_w,p_wn,p_fu,⟨p_r0,p_r1,p_r2,p_r3⟩,p_ms,p_ls,p_is⟩:Prog))))) []):=
 Z6.flat (Zj3 S dp l (⟨p_w,p_wn,p_fu,⟨p_r0,p_r1,p_r2,p_r3⟩,p_ms,p_ls,p_is⟩:Prog) hl) (np S 240 (by decide)) (rfl) A nb us
theorem Zjq (dp:Nat)(p:Prog)(l:List Ent)(i:Int)(hl:l.length<1073741824):Z6 E fn (dp+5) 202 [Zw p,rD l,vi i] (vb (Md.NN p l i)):=by
 unfold Z6
 show Z7 (Z4 E fn (dp+4+1) 202 [.d (Zw p),.d (rD l),.d (vi i)] [])=_
 rw[ZD,S.Z9q,ZG,Zf3,ZC _ _ _ _ _ _ _ _ rfl]
 have hcl:=K4 l i
 simp only[eG,go_sem,Z3 S,Z2 S,zN0,zN1,zN2,zN3,zN4,zI0,zI1,zI2,zI3,reduceCtorEq,PT S,hl,YY,Zs2 S,show(Md.cut l i).length<1073741824 by omega,Md.NN]
theorem Zcy (dp:Nat)(p_w p_wn p_fu p_r0 p_r1 p_r2 p_r3:Int)(p_ms:List MemT)(p_ls:List Label)(p_is:List Ins)(l:List Ent)(i:Int)(hl:l.length<1073741824)(A:List Blk)(nb:Nat)(us:List Nat):Zv false E (Z4 E fn (dp+5)) 202 A nb (some ([.agg [vi p_w,vi p_wn,vi p_fu,vi p_r0,vi p_r1,vi p_r2,vi p_r3,rD p_ms,rD p_ls,rD p_is],rD l,vi i],us))=some (.made (.d (vb (Md.NN (⟨p_w,p_wn,p_fu,⟨p_r0,p_r1,p_r2,p_r3⟩,p_ms,p_ls,p_is⟩:Prog) l i))) []):=
 Z6.flat (Zjq S dp (⟨p_w,p_wn,p_fu,⟨p_r0,p_r1,p_r2,p_r3⟩,p_ms,p_ls,p_is⟩:Prog) l i hl) (np S 202 (by decide)) (rfl) A nb us
end
section
variable (S:Sur E fn)
include S
theorem Znb:E.lives 208 7=none:=off S 208 7 (by decide) rfl
theorem Zjd (dp:Nat)(l:List Ent)(i:Int)(e:Ent)(hl:l.length<1073741824)(h0:0<=i)(h1:i<l.length):Z6 E fn (dp+1) 208 [rD l,vi i,.agg (Cl.cells e)] (.tup [rD (l.set i.toNat e),vb true]):=by
 unfold Z6
 show Z7 (Z4 E fn (dp+1) 208 [.d (rD l),.d (vi i),.d (.agg (Cl.cells e))] [])=_
 rw[ZD,S.Z9b,ZG,Zep,ZC _ _ _ _ _ _ _ _ rfl]
 obtain⟨e0,he⟩:=YK (show i.toNat<l.length by omega)
 have hne:l.length≠0:=by omega
 have hst:∀ A:List Blk,storeAt A 1 0 (0+i.toNat*8) [.d (vi e.pc),.d (vi e.val),.d (vi e.addr),.d (vi e.frm),.d (vi e.next),.d (vb e.done),.d (vb e.known),.d (vb e.fault)] 8 (some (.cells ((rC l).map .d) 0 false))=some (A.set 1 (.cells ((rC (l.set i.toNat e)).map .d) 0 false)):=fun A=>
  NX (o:=0) (e':=e) (Cl.cells e) he rfl rfl rfl rfl (by show 0+8<=8;decide) 8 rfl _ (by omega)
 have hd:deep [.cells ((rC (l.set i.toNat e)).map .d) 0 false] 7 (.sref 0 0 0 l.length 8 none)=some (.lst (rC (l.set i.toNat e)) (l.set i.toNat e).length none,[0]):=Ax _ (fun h=>by have:=congrArg List.length h;rw[List.length_set] at this;exact hne this) _ (by simp) 5 8 none rfl
 simp only[eG,go_sem,Z3 S,Z2 S,Nat.reduceLT,Nat.reduceEqDiff,Nat.reduceAdd,Nat.reduceMul,Nat.reduceLeDiff,Int.reduceEq,Int.reduceLT,Int.reduceLE,Int.reduceNeg,reduceCtorEq,Znb S,show ¬i<0 by omega,show ¬i>=l.length by omega,RK S hl,ZN hne,ZM hne,h0,h1,hst,hd,QZ]
theorem Zs5 (dp:Nat)(l:List Ent)(i e_pc e_vl e_ad e_fr e_nx:Int)(e_dn e_kn e_ft:Bool)(hl:l.length<1073741824)(h0:0<=i)(h1:i<l.length)(A:List Blk)(nb:Nat):Zv false E (Z4 E fn (dp+1)) 208 A nb (some ([rD l,vi i,.agg [vi e_pc,vi e_vl,vi e_ad,vi e_fr,vi e_nx,vb e_dn,vb e_kn,vb e_ft]],[]))=some (.made (.d (.tup [rD (l.set i.toNat (⟨e_pc,e_vl,e_ad,e_fr,e_nx,e_dn,e_kn,e_ft⟩:Ent)),vb true])) []):=
 Z6.deep (Zjd S dp l i (⟨e_pc,e_vl,e_ad,e_fr,e_nx,e_dn,e_kn,e_ft⟩:Ent) hl h0 h1) (np S 208 (by decide)) A nb
end
end Go.Aug.Mc
