import Derived.Test.YthnhboimcidhgaaGreatDoorSd
import Derived.Test.YthnhboimcidhgaaGreatDoorMc51
import Derived.Lib.TrimAscii
import Derived.Test.YthnhboimcidhgaaGreatDoorMc72
namespace Go.Aug.Mc
open Go Go.Aug
open Nat renaming reduceLT -> zN0, reduceEqDiff -> zN1, reduceAdd -> zN2, reduceMul -> zN3, reduceLeDiff -> zN4
open Int renaming reduceEq -> zI0, reduceLT -> zI1, reduceLE -> zI2, reduceNeg -> zI3
set_option linter.unusedSimpArgs false
set_option linter.unusedVariables false
set_option maxHeartbeats 40000000
set_option maxRecDepth 200000
def PN (c:Int):List Rn->Nat->Int
 | [],_=> -1
 | r::t,k=>bif decide (c=r.n) then(k:Int) else PN c t (k+1)
def kinds:List Rn:=[⟨0⟩,⟨102⟩,⟨120⟩,⟨97⟩,⟨99⟩]
def KH (c:Int):Int:=PN c kinds 0
def B7 (l:List Rn)(k:Nat):Dir×Nat×Bool:=match l[k]? with
 | some r=>bif decide (KH r.n<1) then(⟨0,0⟩,k,false) else bif decide (KH r.n=4) then(⟨4,0⟩,k+1,true) else(⟨KH r.n,(Dk l (blk l (k+1)) 3).1⟩,(Dk l (blk l (k+1)) 3).2.1,(Dk l (blk l (k+1)) 3).2.2)
 | none=>(⟨0,0⟩,k,false)
theorem Z2g {A:List Blk}{j v m:Nat}{k:Option Nat}(hA:A[j]? =some (.cells [AV.d (DV.v (Value.int IntKind.i32 0)),AV.d (DV.v (Value.int IntKind.i32 102)),AV.d (DV.v (Value.int IntKind.i32 120)),AV.d (DV.v (Value.int IntKind.i32 97)),AV.d (DV.v (Value.int IntKind.i32 99))] v false)):deep A (m+2) (.sref j v 0 5 1 k)=some (.lst [.v (.int .i32 0),.v (.int .i32 102),.v (.int .i32 120),.v (.int .i32 97),.v (.int .i32 99)] 5 k,[j]):=
 WU (α:=Rn) (l:=kinds) (by simp[kinds]) hA m k
variable {E:Env} {fn:FuncId->Option (Env->cT->cT)}
section
variable (S:Sur E fn)
include S
theorem P7:E.lives 94 1=none/\E.lives 94 13=none:=⟨off S 94 1 (by decide) rfl,off S 94 13 (by decide) rfl⟩
theorem VN:E.lives 52 7=none/\E.lives 52 13=none/\E.lives 52 17=none:=⟨off S 52 7 (by decide) rfl,off S 52 13 (by decide) rfl,off S 52 17 (by decide) rfl⟩
theorem Zpr (dp:Nat)(l:List Rn)(hl:l.length<1073741824)(c:Int)(kx:Nat->K)(R:Int)
  (hx:∀ T,Z7 (kx 0 (mk .bot 19 T) [])=some (vi (-1))):
  ∀(m g k:Nat),k+m=l.length->m<=g->PN c (l.drop k) k=R->
  Z7 (M7 (Zj E 94) (Z4 E fn dp) (Z9 6 M7 (Zj E 94) (Z4 E fn dp) kx (ZY 0 [.tmp 4]) g) kx (ZY 0 [.tmp 4]) (mk .bot 19 [(0,.d (rD l)),(1,.d (.v (.int .i32 c))),(7,aI l.length),(8,aI k)]) [])=some (vi R):=by
 intro m
 induction m with
 | zero=>
  intro g k hk _ hr
  rw[List.drop_of_length_le (by omega)] at hr
  have hr: -1=R:=hr
  subst hr
  have hkl:¬(k:Int)<l.length:=by omega
  generalize Z9 6 M7 _ _ kx _ g=KK
  first | (conv=>lhs;rw[M7]) | rw[M7]
  simp only[eG,go_sem,Z3 S,Z2 S,zN0,zN1,zN2,zN3,zN4,zI0,zI1,zI2,zI3,reduceCtorEq,P7 S,hkl]
  exact hx _
 | succ m ih=>
  intro g k hk hg hr
  obtain⟨g,rfl⟩:∃ j,g=j+1:=⟨g-1,by omega⟩
  obtain⟨r,he⟩:=YK (show k<l.length by omega)
  have hkl:(k:Int)<l.length:=by omega
  rw[Aj he] at hr
  unfold PN at hr
  generalize hK:Z9 6 M7 _ _ kx _ (g+1)=KK
  first | (conv=>lhs;rw[M7]) | rw[M7]
  by_cases h:c=r.n
  ·rw [decide_eq_true h] at hr
   have hr:(k:Int)=R:=hr
   subst hr
   simp only[eG,go_sem,Z3 S,Z2 S,zN0,zN1,zN2,zN3,zN4,zI0,zI1,zI2,zI3,reduceCtorEq,P7 S,hkl,Zx he .i64 1 rfl,D1,JG,<-h]
  ·rw [decide_eq_false h] at hr
   have next:=ih g (k+1) (by omega) (by omega) hr
   simp only[eG,go_sem,Z3 S,Z2 S,zN0,zN1,zN2,zN3,zN4,zI0,zI1,zI2,zI3,reduceCtorEq,P7 S,hkl,Zx he .i64 1 rfl,D1,JG,h,wi k (by omega)]
   rw[<-hK,Z8 (on S _ _ [0,1,7,8] (by decide) rfl) rfl _ _ _ _ _ _ _ _ _ rfl]
   simp only[eG,go_sem,Z3 S,Z2 S,zN0,zN1,zN2,zN3,zN4,zI0,zI1,zI2,zI3,reduceCtorEq,P7 S]
   exact next
theorem Zj1 (dp:Nat)(l:List Rn)(c:Int)(hl:l.length<1073741824):Z6 E fn (dp+2) 94 [rD l,.v (.int .i32 c)] (vi (PN c l 0)):=by
 unfold Z6
 show Z7 (Z4 E fn (dp+1+1) 94 [.d (rD l),.d (.v (.int .i32 c))] [])=_
 rw[ZD,S.Z8x,ZG,Zeb,ZC _ _ _ _ _ _ _ _ rfl]
 simp only[eG,go_sem,Z3 S,Z2 S,zN0,zN1,zN2,zN3,zN4,zI0,zI1,zI2,zI3,reduceCtorEq,P7 S]
 rw[Y7,Z8 (on S _ _ [0,1,7,8] (by decide) rfl) rfl _ _ _ _ _ _ _ _ _ rfl]
 simp only[eG,go_sem,Z3 S,Z2 S,zN0,zN1,zN2,zN3,zN4,zI0,zI1,zI2,zI3,reduceCtorEq,P7 S]
 refine Zpr S (dp+1) l hl c _ (PN c l 0) ?_ l.length 999999999999999999999999999999 0 (by omega) (by omega) rfl
 intro T
 simp only[eG,go_sem,Z3 S,Z2 S,zN0,zN1,zN2,zN3,zN4,zI0,zI1,zI2,zI3,reduceCtorEq,P7 S]
theorem Zs0 (dp:Nat)(l:List Rn)(c:Int)(hl:l.length<1073741824)(A:List Blk)(nb:Nat)(us:List Nat):Zv false E (Z4 E fn (dp+2)) 94 A nb (some ([rD l,.v (.int .i32 c)],us))=some (.made (.d (vi (PN c l 0))) []):=
 Z6.flat (Zj1 S dp l c hl) (np S 94 (by decide)) (rfl) A nb us
theorem Z2r (dp:Nat)(c:Int)(A:List Blk)(nb:Nat)(us:List Nat):Zv false E (Z4 E fn (dp+2)) 94 A nb (some ([.lst [.v (.int .i32 0),.v (.int .i32 102),.v (.int .i32 120),.v (.int .i32 97),.v (.int .i32 99)] 5 none,.v (.int .i32 c)],us))=some (.made (.d (vi (KH c))) []):=
 Zs0 S dp kinds c (by decide) A nb us
theorem Zj9 (dp:Nat)(l:List Rn)(k:Nat)(hl:l.length<1073741824)(hk:k<=l.length):Z6 E fn (dp+4) 52 [rD l,vi (k:Nat)] (.tup [.agg (Cl.cells (B7 l k).1),vi ((B7 l k).2.1:Nat),vb (B7 l k).2.2]):=by
 unfold Z6
 show Z7 (Z4 E fn (dp+3+1) 52 [.d (rD l),.d (vi (k:Nat))] [])=_
 rw[ZD,S.Z96,ZG,Zek,ZC _ _ _ _ _ _ _ _ rfl]
 unfold B7
 by_cases hin:k<l.length
 ·obtain ⟨r, he⟩ := YK hin
  have hi:(k:Int)<l.length:=by omega
  have hni:¬(l.length:Int)<=k:=by omega
  have hb:blk l (k+1)<=l.length:=Uw (by omega)
  rw[he]
  simp only[]
  have cN:=fun(A:List Blk) (nb:Nat) (us:List Nat)=>Zsk S dp l (blk l (k+1)) 3 hl hb (by omega) A nb us
  have cB:=fun(A:List Blk) (nb:Nat) (us:List Nat)=>X1 S (dp+1) l (k+1) hl (by omega) A nb us
  simp only[Int.cast_ofNat_Int] at cN
  by_cases h1:KH r.n<1
  ·rw [decide_eq_true h1]
   simp only[eG,go_sem,Z3 S,Z2 S,zN0,zN1,zN2,zN3,zN4,zI0,zI1,zI2,zI3,reduceCtorEq,VN S,hni,Zx he .i64 1 rfl,D1,JG,Z2r S,Z2g,ge_iff_le,h1,Jx,cond_true,rep]
  ·rw [decide_eq_false h1]
   by_cases h4:KH r.n=4
   ·rw [decide_eq_true h4]
    simp only[eG,go_sem,Z3 S,Z2 S,zN0,zN1,zN2,zN3,zN4,zI0,zI1,zI2,zI3,reduceCtorEq,VN S,hni,Zx he .i64 1 rfl,D1,JG,Z2r S,Z2g,ge_iff_le,h1,h4,Jx,cond_true,cond_false,wi k (by omega),rep]
   ·rw [decide_eq_false h4]
    simp only[eG,go_sem,Z3 S,Z2 S,zN0,zN1,zN2,zN3,zN4,zI0,zI1,zI2,zI3,reduceCtorEq,VN S,hni,Zx he .i64 1 rfl,D1,JG,Z2r S,Z2g,ge_iff_le,h1,h4,Jx,cond_true,cond_false,wi k (by omega),cN,cB,rep]
 ·have hn : l[k]? = none := List.getElem?_eq_none (by omega)
  rw[hn]
  simp only[eG,go_sem,Z3 S,Z2 S,zN0,zN1,zN2,zN3,zN4,zI0,zI1,zI2,zI3,reduceCtorEq,VN S,ge_iff_le,show(l.length:Int)<=k by omega,Jx]
end
theorem Zcc (l:List Rn):∀(m k:Nat) (n:Int),k<=l.length->k<=(Ex l m k n).2/\(Ex l m k n).2<=l.length
 | 0,k,n,h=>⟨Nat.le_refl _,h⟩
 | m+1,k,n,h=>by
  cases he:l[k]? with
  | none=>rw[Z2c he];exact⟨Nat.le_refl _,h⟩
  | some r=>
   cases hd:Ck r.n with
   | false=>rw[Z2d he hd];exact⟨Nat.le_refl _,h⟩
   | true=>
    obtain⟨hk,_⟩:=List.getElem?_eq_some_iff.1 he
    rw[Nw he hd]
    have:=Zcc l m (k+1) (10*n+(r.n-48)) (by omega)
    omega
theorem Znn {l:List Rn}{k:Nat}(M:Nat)(h:k<=l.length):k<=(Dk l k M).2.1/\(Dk l k M).2.1<=l.length:=by
 unfold Dk
 cases he:l[k]? with
 | none=>exact⟨Nat.le_refl _,h⟩
 | some r=>
  obtain⟨hk,_⟩:=List.getElem?_eq_some_iff.1 he
  simp only[]
  cases Ck r.n with
  | false=>exact⟨Nat.le_refl _,h⟩
  | true=>
   cases decide (r.n=48) with
   | true=>simp only[cond_true];omega
   | false=>exact Zcc l M k 0 h
theorem Zr2 {l:List Rn}{k:Nat}(h:k<=l.length):k<=(B7 l k).2.1/\(B7 l k).2.1<=l.length/\((B7 l k).2.2=true->k<(B7 l k).2.1):=by
 unfold B7
 cases he:l[k]? with
 | none=>exact⟨Nat.le_refl _,h,fun e=>by cases e⟩
 | some r=>
  obtain⟨hk,_⟩:=List.getElem?_eq_some_iff.1 he
  simp only[]
  cases decide (KH r.n<1) with
  | true=>exact⟨Nat.le_refl _,h,fun e=>by cases e⟩
  | false=>
   cases decide (KH r.n=4) with
   | true=>simp only[cond_true,cond_false];omega
   | false=>
    have h1:blk l (k+1)<=l.length:=Uw (by omega)
    have h2:=Z3a l (k+1)
    have h3:=Znn 3 h1
    simp only[cond_false]
    omega
def Kv (l:List Rn):Nat->Nat->List Dir->List Dir×Nat×Bool
 | 0,k,o=>([],k,false)
 | f + 1, k, o => bif (B7 l k).2.2 then (bif decide (blk l (B7 l k).2.1 = l.length) then (o ++ [(B7 l k).1], 0, true) else (match l[blk l (B7 l k).2.1]? with
   | some r=>bif decide (r.n=59) then Kv l f (blk l (blk l (B7 l k).2.1+1)) (o++[(B7 l k).1]) else([],blk l (B7 l k).2.1,false)
   | none=>([],blk l (B7 l k).2.1,false))) else([],(B7 l k).2.1,false)
def P5 (l:List Rn):List Dir×Nat×Bool:=bif decide (blk l 0=l.length) then([],0,true) else Kv l (l.length+1) (blk l 0) []
variable {E:Env} {fn:FuncId->Option (Env->cT->cT)}
section
variable (S:Sur E fn)
include S
theorem Fw:E.lives 25 11=none/\E.lives 25 19=none/\E.lives 25 27=none/\E.lives 25 31=none:=⟨off S 25 11 (by decide) rfl,off S 25 19 (by decide) rfl,off S 25 27 (by decide) rfl,off S 25 31 (by decide) rfl⟩
theorem Zpp (dp:Nat)(l:List Rn)(hl:l.length<1073741824)(kx:Nat->K):
  ∀(f g k:Nat) (o:List Dir),k<=l.length->l.length<k+f->f<=g->o.length<=k->
  Z7 (SH (Zj E 25) (Z4 E fn (dp+4)) (Z9 14 SH (Zj E 25) (Z4 E fn (dp+4)) kx (ZY 0 [.tmp 2,.tmp 3,.tmp 4]) g) kx (ZY 0 [.tmp 2,.tmp 3,.tmp 4]) (mk .bot 51 [(5,.d (rD l)),(6,.d (vi (k:Nat))),(7,YN 0 o)]) (Yz o))=some (.tup [rD (Kv l f k o).1,vi ((Kv l f k o).2.1:Nat),vb (Kv l f k o).2.2]):=by
 intro f
 induction f with
 | zero=>intro g k o hk hf;omega
 | succ f ih=>
  intro g k o hk hf hg ho
  obtain⟨g,rfl⟩:∃ j,g=j+1:=⟨g-1,by omega⟩
  have cD:=fun(A:List Blk) (nb:Nat)=>Z6.deep (Zj9 S dp l k hl hk) (np S 52 (by decide)) A nb
  obtain⟨p1,p2,p3⟩:=Zr2 hk
  unfold Kv
  generalize B7 l k=d at *
  obtain⟨⟨dk,dn⟩,e,ok⟩:=d
  simp only[Jx] at cD p1 p2 p3 ⊢
  have hbe:blk l e<=l.length:=Uw p2
  have hge:=Z3a l e
  have cB:=fun(A:List Blk) (nb:Nat) (us:List Nat)=>X1 S (dp+2) l e hl p2 A nb us
  have k1:(o.length+1)*16<=Z5:=by unfold Z5;omega
  have k2:o.length+1<=Z5:=by unfold Z5;omega
  have hdo:∀(x:Dir),deep [.cells ((rC (o++[x])).map .d) 0 false] 7 (.sref 0 0 0 (o.length+1) 2 none)=some (.lst (rC (o++[x])) (o++[x]).length none,[0]):=fun x=>by
   have:=Ax (o++[x]) (by simp) _ rfl 5 2 none rfl
   simp only[List.length_append,List.length_singleton] at this ⊢
   exact this
  have hd1:deep [.cells [.d (vi dk),.d (vi dn)] 0 false] 7 (.sref 0 0 0 1 2 none)=some (.lst [vi dk,vi dn] 1 none,[0]):=Ax [(⟨dk,dn⟩:Dir)] (by simp) _ rfl 5 2 none rfl
  generalize hK:Z9 14 SH _ _ kx _ (g+1)=KK
  first | (conv=>lhs;rw[SH]) | rw[SH]
  cases ok with
  | false=>
   by_cases h0:o.length=0
   ·obtain rfl : o = [] := List.length_eq_zero_iff.1 h0
    rw[Yv,Yw]
    simp only[eG,go_sem,Z3 S,Z2 S,zN0,zN1,zN2,zN3,zN4,zI0,zI1,zI2,zI3,reduceCtorEq,Fw S,ZH,ZJ,ZE,ZF,Zq,J7,A0,JK,JJ,JH,Option.map_some,Nat.zero_add,Nat.one_mul,Nat.zero_mul,and_self,true_and,show(0:Nat)<1 by decide,Jx,D7,Int.cast_ofNat_Int,cD,Bool.not_false,Bool.not_true,cond_false]
   ·rw [ZN h0, ZM h0]
    simp only[eG,go_sem,Z3 S,Z2 S,zN0,zN1,zN2,zN3,zN4,zI0,zI1,zI2,zI3,reduceCtorEq,Fw S,ZH,ZJ,ZE,ZF,Zq,J7,A0,JK,JJ,JH,Option.map_some,Nat.zero_add,Nat.one_mul,Nat.zero_mul,and_self,true_and,show(0:Nat)<1 by decide,Jx,D7,Int.cast_ofNat_Int,cD,Bool.not_false,Bool.not_true,cond_false]
  | true=>
   have hke:=p3 rfl
   rw[cond_true]
   by_cases hfin:blk l e=l.length
   ·have hfi : (blk l e : Int) = l.length := by omega
    rw[decide_eq_true hfin,cond_true]
    by_cases h0:o.length=0
    ·obtain rfl : o = [] := List.length_eq_zero_iff.1 h0
     rw[Yv,Yw]
     simp only[eG,go_sem,Z3 S,Z2 S,zN0,zN1,zN2,zN3,zN4,zI0,zI1,zI2,zI3,reduceCtorEq,Fw S,ZH,ZJ,ZE,ZF,Zq,J7,A0,JK,JJ,JH,Option.map_some,Nat.zero_add,Nat.one_mul,Nat.zero_mul,and_self,true_and,show(0:Nat)<1 by decide,Jx,D7,Int.cast_ofNat_Int,cD,cB,Bool.not_false,Bool.not_true,hfi,hd1]
     try rfl
    ·rw [ZN h0, ZM h0]
     simp only[eG,go_sem,Z3 S,Z2 S,zN0,zN1,zN2,zN3,zN4,zI0,zI1,zI2,zI3,reduceCtorEq,Fw S,ZH,ZJ,ZE,ZF,Zq,J7,A0,JK,JJ,JH,Option.map_some,Nat.zero_add,Nat.one_mul,Nat.zero_mul,and_self,true_and,show(0:Nat)<1 by decide,Jx,D7,Int.cast_ofNat_Int,cD,cB,Bool.not_false,Bool.not_true,hfi,k1,k2,hdo]
     try rfl
   ·have hfi : ¬ (blk l e : Int) = l.length := by omega
    obtain⟨r,he⟩:=YK (show blk l e<l.length by omega)
    rw[decide_eq_false hfin,cond_false,he]
    simp only[]
    have hb2:blk l (blk l e+1)<=l.length:=Uw (by omega)
    have hg2:=Z3a l (blk l e+1)
    have cB2:=fun(A:List Blk) (nb:Nat) (us:List Nat)=>X1 S (dp+2) l (blk l e+1) hl (by omega) A nb us
    by_cases hs:r.n=59
    ·rw [decide_eq_true hs, cond_true]
     have next:=ih g (blk l (blk l e+1)) (o++[⟨dk,dn⟩]) hb2 (by omega) (by omega) (by rw[List.length_append];simp;omega)
     rw[ZN (by simp),ZM (by simp),List.length_append,List.length_singleton] at next
     by_cases h0:o.length=0
     ·obtain rfl : o = [] := List.length_eq_zero_iff.1 h0
      rw[Yv,Yw]
      simp only[eG,go_sem,Z3 S,Z2 S,zN0,zN1,zN2,zN3,zN4,zI0,zI1,zI2,zI3,reduceCtorEq,Fw S,ZH,ZJ,ZE,ZF,Zq,J7,A0,JK,JJ,JH,Option.map_some,Nat.zero_add,Nat.one_mul,Nat.zero_mul,and_self,true_and,show(0:Nat)<1 by decide,Jx,D7,Int.cast_ofNat_Int,cD,cB,cB2,Bool.not_false,Bool.not_true,hfi,Zx he .i64 1 rfl,D1,JG,hs,wi (blk l e) (by omega)]
      rw[<-hK,Z8 (on S _ _ [5,6,7] (by decide) rfl) rfl _ _ _ _ _ _ _ _ _ rfl]
      simp only[eG,go_sem,Z3 S,Z2 S,zN0,zN1,zN2,zN3,zN4,zI0,zI1,zI2,zI3,reduceCtorEq,Fw S]
      exact next
     ·rw [ZN h0, ZM h0]
      simp only[eG,go_sem,Z3 S,Z2 S,zN0,zN1,zN2,zN3,zN4,zI0,zI1,zI2,zI3,reduceCtorEq,Fw S,ZH,ZJ,ZE,ZF,Zq,J7,A0,JK,JJ,JH,Option.map_some,Nat.zero_add,Nat.one_mul,Nat.zero_mul,and_self,true_and,show(0:Nat)<1 by decide,Jx,D7,Int.cast_ofNat_Int,cD,cB,cB2,Bool.not_false,Bool.not_true,hfi,Zx he .i64 1 rfl,D1,JG,hs,wi (blk l e) (by omega),k1,k2]
      rw[<-hK,Z8 (on S _ _ [5,6,7] (by decide) rfl) rfl _ _ _ _ _ _ _ _ _ rfl]
      simp only[eG,go_sem,Z3 S,Z2 S,zN0,zN1,zN2,zN3,zN4,zI0,zI1,zI2,zI3,reduceCtorEq,Fw S]
      exact next
    ·rw [decide_eq_false hs, cond_false]
     by_cases h0:o.length=0
     ·obtain rfl : o = [] := List.length_eq_zero_iff.1 h0
      rw[Yv,Yw]
      simp only[eG,go_sem,Z3 S,Z2 S,zN0,zN1,zN2,zN3,zN4,zI0,zI1,zI2,zI3,reduceCtorEq,Fw S,ZH,ZJ,ZE,ZF,Zq,J7,A0,JK,JJ,JH,Option.map_some,Nat.zero_add,Nat.one_mul,Nat.zero_mul,and_self,true_and,show(0:Nat)<1 by decide,Jx,D7,Int.cast_ofNat_Int,cD,cB,Bool.not_false,Bool.not_true,hfi,Zx he .i64 1 rfl,D1,JG,hs]
     ·rw [ZN h0, ZM h0]
      simp only[eG,go_sem,Z3 S,Z2 S,zN0,zN1,zN2,zN3,zN4,zI0,zI1,zI2,zI3,reduceCtorEq,Fw S,ZH,ZJ,ZE,ZF,Zq,J7,A0,JK,JJ,JH,Option.map_some,Nat.zero_add,Nat.one_mul,Nat.zero_mul,and_self,true_and,show(0:Nat)<1 by decide,Jx,D7,Int.cast_ofNat_Int,cD,cB,Bool.not_false,Bool.not_true,hfi,Zx he .i64 1 rfl,D1,JG,hs,k1,k2]
theorem Zjc (dp:Nat)(s:ByteArray)(hs:s.size<1073741824):Z6 E fn (dp+5) 25 [vt s] (.tup [rD (P5 (runes s)).1,vi ((P5 (runes s)).2.1:Nat),vb (P5 (runes s)).2.2]):=by
 unfold Z6
 show Z7 (Z4 E fn (dp+4+1) 25 [.d (vt s)] [])=_
 rw[ZD,S.Z9a,ZG,Zeo,ZC _ _ _ _ _ _ _ _ rfl]
 have hl:(runes s).length<1073741824:=by have:=Zi9 s;omega
 have cR:=fun(A:List Blk) (nb:Nat)=>Z6.deep (Zks S (dp+2) s hs) (np S 50 (by decide)) A nb
 generalize runes s=l at *
 have cB:=fun(A:List Blk) (nb:Nat) (us:List Nat)=>X1 S (dp+2) l 0 hl (Nat.zero_le _) A nb us
 simp only[Int.cast_ofNat_Int] at cB
 have hle:blk l 0<=l.length:=Uw (Nat.zero_le _)
 unfold P5
 by_cases h:blk l 0=l.length
 ·have hi : (blk l 0 : Int) = l.length := by omega
  rw[decide_eq_true h]
  simp only[eG,go_sem,Z3 S,Z2 S,zN0,zN1,zN2,zN3,zN4,zI0,zI1,zI2,zI3,reduceCtorEq,Fw S,cR,cB,hi,cond_true,D7,Int.cast_ofNat_Int]
 ·have hi : ¬ (blk l 0 : Int) = l.length := by omega
  rw[decide_eq_false h]
  simp only[eG,go_sem,Z3 S,Z2 S,zN0,zN1,zN2,zN3,zN4,zI0,zI1,zI2,zI3,reduceCtorEq,Fw S,cR,cB,hi,cond_false]
  rw[Y7,Z8 (on S _ _ [5,6,7] (by decide) rfl) rfl _ _ _ _ _ _ _ _ _ rfl]
  simp only[eG,go_sem,Z3 S,Z2 S,zN0,zN1,zN2,zN3,zN4,zI0,zI1,zI2,zI3,reduceCtorEq,Fw S]
  have go:=fun(kx:Nat->K)=>Zpp S dp l hl kx (l.length+1) 999999999999999999999999999999 (blk l 0) [] hle (by omega) (by omega) (Nat.zero_le _)
  rw[Yv,Yw] at go
  exact go _
end
def rn (b:UInt8):Rn:=⟨(b.toNat:Int)⟩
theorem Z58 {T:List UInt8}(h:∀ b ∈ T,b.toNat<128):∀ f p,T.length<=p+f->GR (tx T) f p=(T.drop p).map rn
 | 0,p,hp=>by rw[List.drop_of_length_le (by omega)];rfl
 | f+1,p,hp=>by
  cases hb:Nat.blt p (tx T).size with
  | false=>
   have:¬p<T.length:=by
    intro hl
    have:Nat.blt p (tx T).size=true:=by rw[Nat.blt_eq];exact hl
    rw[hb] at this;cases this
   rw[List.drop_of_length_le (by omega)]
   show(bif Nat.blt p (tx T).size then _ else _)=_
   rw[hb];rfl
  | true=>
   have hl:p<T.length:=by rw[Nat.blt_eq] at hb;exact hb
   obtain⟨b,hb1⟩:∃ b,T[p]? =some b:=⟨_,List.getElem?_eq_getElem hl⟩
   have hd:=Aj hb1
   have e:Utf8.decode (tx T) p=(b.toNat,1):=by
    rw[<-Lib.decodeL_drop,V0,hd]
    exact Lib.decodeL_ascii b _ (h b (List.mem_of_getElem? hb1))
   rw[Z56 hb,e,Z58 h f (p+1) (by omega),hd];rfl
theorem Zib {T:List UInt8}(h:∀ b ∈ T,b.toNat<128):runes (tx T)=T.map rn:=by
 unfold runes
 rw[Z58 h _ _ (by rw[Zhe];omega),List.drop_zero]
def KB (d:Dir):Prop:=(1<=d.kind/\d.kind<=4)/\(0<=d.n/\d.n<=999)/\(d.kind=4->d.n=0)
def QH (d:Dir):List UInt8:=if d.kind=1 then 102::32::Aq d.n.toNat else if d.kind=2 then 120::32::Aq d.n.toNat else if d.kind=3 then 97::32::Aq d.n.toNat else[99]
theorem Z3z {d:Dir}(h:KB d):EM d=(tx (QH d),true):=by
 obtain⟨⟨h1,h2⟩,⟨h3,h4⟩,h5⟩:=h
 unfold EM QH
 rw[decide_eq_false (by omega),decide_eq_false (by omega)]
 simp only[Bool.or_false,cond_false]
 by_cases k1:d.kind=1
 ·rw[decide_eq_true k1,if_pos k1];rfl
 rw[decide_eq_false k1,if_neg k1]
 by_cases k2:d.kind=2
 ·rw[decide_eq_true k2,if_pos k2];rfl
 rw[decide_eq_false k2,if_neg k2]
 by_cases k3:d.kind=3
 ·rw[decide_eq_true k3,if_pos k3];rfl
 have k4:d.kind=4:=by omega
 rw[decide_eq_false k3,if_neg k3,decide_eq_true k4,decide_eq_true (h5 k4)];rfl
theorem Z3u:∀(l:List Dir) (o:List Tx),(∀ d ∈ l,KB d)->DZ l o=some (o++l.map fun d=>⟨tx (QH d)⟩)
 | [],o,_=>by rw[List.map_nil,List.append_nil];rfl
 | d::l,o,h=>by
  rw[Z3w,Z3z (h d List.mem_cons_self),cond_true,Z3u l _ fun e he=>h e (List.mem_cons_of_mem _ he),List.map_cons,List.append_assoc];rfl
theorem Z0j {l:List Dir}(h:∀ d ∈ l,KB d):G4 l=(tx (Lib.join (l.map QH) [59,32]),true):=by
 unfold G4
 rw[Z3u l [] h,List.nil_append]
 simp only[]
 unfold TJ
 rw[List.map_map];rfl
theorem NV {n:Nat}(h:n<256):(n.toUInt8).toNat=n:=by
 show n%256=n
 omega
theorem PS {n:Nat}(h:n<10):rn (48+n).toUInt8=⟨48+(n:Int)⟩:=by
 unfold rn
 rw[NV (by omega)];congr 1
theorem KR {n:Nat}(h:n<10):Ck (48+(n:Int))=true:=by
 unfold Ck
 rw[decide_eq_true (by omega),decide_eq_true (by omega)];rfl
theorem FU {l:List Rn}{k:Nat}{r:Rn}{t:List Rn}(h:l.drop k=r::t):l[k]? =some r/\l.drop (k+1)=t:=by
 have h1:(l.drop k)[0]? =some r:=by rw[h];rfl
 rw[List.getElem?_drop,Nat.add_zero] at h1
 refine⟨h1,?_⟩
 rw[Aj h1] at h
 exact(List.cons.inj h).2
theorem Zt7 {l:List Rn}{k:Nat}(h:l.drop k=[]):l[k]? =none:=by
 rw[List.getElem?_eq_none]
 have:=congrArg List.length h
 rw[List.length_drop] at this
 simpa using(by simp at this;omega:l.length<=k)
def Kj (R:List Rn):Prop:=R=[]∨∃ t,R=⟨59⟩::t
theorem Zca {l:List Rn}{k:Nat}{R:List Rn}(h:l.drop k=R)(hR:Kj R)(m:Nat)(n:Int):Ex l m k n=(n,k):=by
 rcases hR with rfl | ⟨t,rfl⟩
 ·exact Z2c (Zt7 h) m n
 ·exact Z2d (FU h).1 rfl m n
theorem Znm {l:List Rn}{k n:Nat}{R:List Rn}(hn:n<=999)(h:l.drop k=(Aq n).map rn++R)(hR:Kj R):Dk l k 3=((n:Int),k+(Aq n).length,true):=by
 unfold Aq at h ⊢
 by_cases h1:n<10
 ·rw [if_pos h1] at h ⊢
  rw[List.map_cons,List.map_nil,PS h1] at h
  obtain⟨a1,a2⟩:=FU h
  unfold Dk
  rw[a1]
  simp only[KR h1,cond_true]
  by_cases hz:n=0
  ·subst hz;rfl
  ·rw [decide_eq_false (by omega), cond_false, Nw a1 (KR h1), Zca a2 hR]
   show(_,_,_)=(_,_,_)
   rw[show(10*(0:Int)+(48+(n:Int)-48))=n by omega];rfl
 ·rw [if_neg h1] at h ⊢
  by_cases h2:n<100
  ·rw [if_pos h2] at h ⊢
   rw[List.map_cons,List.map_cons,List.map_nil,PS (show n/10<10 by omega),PS (show n%10<10 by omega)] at h
   obtain⟨a1,a2⟩:=FU h
   obtain⟨b1,b2⟩:=FU a2
   unfold Dk
   rw[a1]
   simp only[KR (show n/10<10 by omega),cond_true]
   rw[decide_eq_false (by omega),cond_false,Nw a1 (KR (show n/10<10 by omega)),Nw b1 (KR (show n%10<10 by omega)),Zca b2 hR]
   show(_,_,_)=(_,_,_)
   rw[show(10*(10*(0:Int)+(48+((n/10:Nat):Int)-48))+(48+((n%10:Nat):Int)-48))=n by omega];rfl
  ·rw [if_neg h2] at h ⊢
   rw[List.map_cons,List.map_cons,List.map_cons,List.map_nil,PS (show n/100<10 by omega),PS (show n/10%10<10 by omega),PS (show n%10<10 by omega)] at h
   obtain⟨a1,a2⟩:=FU h
   obtain⟨b1,b2⟩:=FU a2
   obtain⟨c1,c2⟩:=FU b2
   unfold Dk
   rw[a1]
   simp only[KR (show n/100<10 by omega),cond_true]
   rw[decide_eq_false (by omega),cond_false,Nw a1 (KR (show n/100<10 by omega)),Nw b1 (KR (show n/10%10<10 by omega)),Nw c1 (KR (show n%10<10 by omega))]
   show(_,_,_)=(_,_,_)
   rw[show(10*(10*(10*(0:Int)+(48+((n/100:Nat):Int)-48))+(48+((n/10%10:Nat):Int)-48))+(48+((n%10:Nat):Int)-48))=n by omega];rfl
theorem Zr5 (n:Nat)(hn:n<=999)(R:List Rn):GB ((Aq n).map rn++R)=0:=by
 have go:∀ m:Nat,m<10->∀ t:List Rn,GB (rn (48+m).toUInt8::t)=0:=fun m hm t=>by
  rw[PS hm]
  show(bif decide ((48:Int)+m=32) then _ else 0)=0
  rw[decide_eq_false (by omega)];rfl
 unfold Aq
 split
 ·exact go n (by omega) _
 ·split
  ·exact go _ (by omega) _
  ·exact go _ (by omega) _
theorem Z2b {l:List Rn}{k n:Nat}{c:UInt8}{kd:Int}{R:List Rn}(hk:KH (rn c).n=kd)(h1:1<=kd)(h3:kd<=3)(hn:n<=999)(h:l.drop k=(c::32::Aq n).map rn++R)(hR:Kj R):B7 l k=(⟨kd,n⟩,k+(c::32::Aq n).length,true):=by
 rw[List.map_cons,List.map_cons,List.cons_append,List.cons_append] at h
 obtain⟨a1,a2⟩:=FU h
 obtain⟨b1,b2⟩:=FU a2
 have hb:blk l (k+1)=k+2:=by
  unfold blk
  rw[Aj b1]
  show k+1+(bif decide ((rn 32).n=32) then GB (l.drop (k+1+1))+1 else 0)=_
  rw[b2,Zr5 n hn,show decide ((rn 32).n=32)=true from rfl];rfl
 unfold B7
 rw[a1]
 simp only[]
 rw[hk,decide_eq_false (by omega),decide_eq_false (by omega),cond_false,cond_false,hb,Znm hn b2 hR]
 rw[List.length_cons,List.length_cons]
 show((⟨kd,(n:Int)⟩:Dir),k+1+1+(Aq n).length,true)=_
 rw[show k+1+1+(Aq n).length=k+((Aq n).length+1+1) by omega]
theorem Zc9 {l:List Rn}{k:Nat}{d:Dir}{R:List Rn}(hd:KB d)(h:l.drop k=(QH d).map rn++R)(hR:Kj R):B7 l k=(d,k+(QH d).length,true):=by
 obtain⟨⟨h1,h2⟩,⟨h3,h4⟩,h5⟩:=hd
 obtain⟨kd,n⟩:=d
 simp only at h1 h2 h3 h4 h5
 obtain⟨n,rfl⟩:=Int.eq_ofNat_of_zero_le h3
 unfold QH at h ⊢
 simp only[Int.toNat_natCast] at h ⊢
 by_cases k1:kd=1
 ·rw [if_pos k1] at h ⊢
  subst k1
  exact Z2b rfl (by omega) (by omega) (by omega) h hR
 rw[if_neg k1] at h ⊢
 by_cases k2:kd=2
 ·rw [if_pos k2] at h ⊢
  subst k2
  exact Z2b rfl (by omega) (by omega) (by omega) h hR
 rw[if_neg k2] at h ⊢
 by_cases k3:kd=3
 ·rw [if_pos k3] at h ⊢
  subst k3
  exact Z2b rfl (by omega) (by omega) (by omega) h hR
 rw[if_neg k3] at h ⊢
 have k4:kd=4:=by omega
 have hz:=h5 k4
 subst k4
 obtain⟨a1,_⟩:=FU h
 unfold B7
 rw[a1]
 have:(n:Int)=0:=hz
 rw[this];rfl
theorem Z3x (d:Dir):∃ c t,QH d=c::t/\(rn c).n≠32:=by
 unfold QH
 split
 ·exact⟨_,_,rfl,by decide⟩
 ·split
  ·exact⟨_,_,rfl,by decide⟩
  ·split
   ·exact⟨_,_,rfl,by decide⟩
   ·exact⟨_,_,rfl,by decide⟩
theorem Zdd {l:List Rn}{k:Nat}(d:Dir){R:List Rn}(h:l.drop k=(QH d).map rn++R):blk l k=k:=by
 obtain⟨c,t,e,hc⟩:=Z3x d
 rw[e] at h
 obtain⟨a1,_⟩:=FU h
 rw[Xk a1,decide_eq_false hc];rfl
theorem Z68 (L:List Rn):∀(ds:List Dir) (d:Dir) (f k:Nat) (o:List Dir),(∀ e ∈ d::ds,KB e)->L.drop k=(Lib.join ((d::ds).map QH) [59,32]).map rn->k<=L.length->L.length<k+f->Kv L f k o=(o++d::ds,0,true)
 | ds,d,0,k,o,h,hd,hk,hf=>by omega
 | [],d,f+1,k,o,h,hd,hk,hf=>by
  have hd:L.drop k=(QH d).map rn++[]:=by rw[hd,List.append_nil,List.map_cons,List.map_nil,Lib.join_one]
  have hw:=Zc9 (h d List.mem_cons_self) hd (.inl rfl)
  have hl:k+(QH d).length=L.length:=by
   have:=congrArg List.length hd
   rw[List.length_drop,List.append_nil,List.length_map] at this
   omega
  unfold Kv
  rw[hw]
  simp only[cond_true]
  rw[Zde (by omega),decide_eq_true hl];rfl
 | e::ds,d,f+1,k,o,h,hd,hk,hf=>by
  have hj:Lib.join ((d::e::ds).map QH) [59,32]=QH d++(59::32::Lib.join ((e::ds).map QH) [59,32]):=by
   rw[List.map_cons,Lib.join_cons,List.map_cons]
   rw[Lib.join_cons]
   show QH d++List.flatten (List.map ([59,32]++ ·) (QH e::ds.map QH))=_
   rw[List.map_cons,List.flatten_cons,List.append_assoc];rfl
  rw[hj,List.map_append] at hd
  have hw:=Zc9 (h d List.mem_cons_self) hd (.inr ⟨_,rfl⟩)
  have hd2:L.drop (k+(QH d).length)=(59::32::Lib.join ((e::ds).map QH) [59,32]:List UInt8).map rn:=by
   rw[<-List.drop_drop,hd,List.drop_left' (by rw[List.length_map])]
  rw[List.map_cons,List.map_cons] at hd2
  obtain⟨a1,a2⟩:=FU hd2
  obtain⟨b1,b2⟩:=FU a2
  obtain⟨hl1,_⟩:=List.getElem?_eq_some_iff.1 b1
  have hb1:blk L (k+(QH d).length)=k+(QH d).length:=by rw[Xk a1];rfl
  obtain⟨R,hR⟩:∃ R,(Lib.join ((e::ds).map QH) [59,32]).map rn=(QH e).map rn++R:=by
   rw[List.map_cons,Lib.join_cons,List.map_append];exact⟨_,rfl⟩
  have hb2:blk L (k+(QH d).length+1)=k+(QH d).length+2:=by
   rw[Xk b1,show decide ((rn 32).n=32)=true from rfl,cond_true]
   exact Zdd e (by rw[b2];exact hR)
  have next:=Z68 L ds e f (k+(QH d).length+2) (o++[d]) (fun x hx=>h x (List.mem_cons_of_mem _ hx)) b2 (by omega) (by omega)
  unfold Kv
  rw[hw]
  simp only[cond_true]
  rw[hb1,decide_eq_false (by omega),cond_false,a1]
  simp only[]
  rw[show decide ((rn 59).n=59)=true from rfl,cond_true,hb2,next,List.append_assoc];rfl
theorem Zr6 (n:Nat)(hn:n<=999):∀ b ∈ Aq n,b.toNat<128:=by
 unfold Aq
 intro b hb
 split at hb
 ·simp only [List.mem_singleton] at hb
  rw[hb,NV (by omega)];omega
 ·split at hb
  ·simp only [List.mem_cons, List.not_mem_nil, or_false] at hb
   rcases hb with rfl | rfl
   ·rw[NV (by omega)];omega
   ·rw[NV (by omega)];omega
  ·simp only [List.mem_cons, List.not_mem_nil, or_false] at hb
   rcases hb with rfl | rfl | rfl
   ·rw[NV (by omega)];omega
   ·rw[NV (by omega)];omega
   ·rw[NV (by omega)];omega
theorem Zh4 {d:Dir}(h:KB d):∀ b ∈ QH d,b.toNat<128:=by
 have hd:=Zr6 d.n.toNat (by have:=h.2.1;omega)
 have go:∀ c:UInt8,c.toNat<128->∀ b ∈ c::32::Aq d.n.toNat,b.toNat<128:=fun c hc b hb=>by
  rcases List.mem_cons.1 hb with rfl | hb
  ·exact hc
  ·rcases List.mem_cons.1 hb with rfl | hb
   ·decide
   ·exact hd b hb
 unfold QH
 split
 ·exact go 102 (by decide)
 ·split
  ·exact go 120 (by decide)
  ·split
   ·exact go 97 (by decide)
   ·intro b hb
    rw[List.mem_singleton.1 hb];decide
theorem Zp5:∀(ws:List (List UInt8)),(∀ w ∈ ws,∀ b ∈ w,b.toNat<128)->∀ b ∈ Lib.join ws [59,32],b.toNat<128
 | [],_,b,hb=>by cases hb
 | w::ws,h,b,hb=>by
  rw[Lib.join_cons] at hb
  rcases List.mem_append.1 hb with hb | hb
  ·exact h w List.mem_cons_self b hb
  ·obtain ⟨x, hx, hb⟩ := List.mem_flatten.1 hb
   obtain⟨y,hy,rfl⟩:=List.mem_map.1 hx
   rcases List.mem_append.1 hb with hb | hb
   ·simp only [List.mem_cons, List.not_mem_nil, or_false] at hb
    rcases hb with rfl | rfl<;>decide
   ·exact h y (List.mem_cons_of_mem _ hy) b hb
theorem Zmo {l:List Dir}(h:∀ d ∈ l,KB d):P5 (runes (G4 l).1)=(l,0,true):=by
 rw[Z0j h]
 show P5 (runes (tx _))=_
 rw[Zib (Zp5 _ fun w hw b hb=>by
  obtain⟨d,hd,rfl⟩:=List.mem_map.1 hw
  exact Zh4 (h d hd) b hb)]
 cases l with
 | nil=>rfl
 | cons d ds=>
  obtain⟨R,hR⟩:∃ R,(Lib.join ((d::ds).map QH) [59,32]).map rn=(QH d).map rn++R:=by
   rw[List.map_cons,Lib.join_cons,List.map_append];exact⟨_,rfl⟩
  have hb:blk ((Lib.join ((d::ds).map QH) [59,32]).map rn) 0=0:=Zdd d (by rw[List.drop_zero];exact hR)
  have hne:¬0=((Lib.join ((d::ds).map QH) [59,32]).map rn).length:=by
   obtain⟨c,t,e,_⟩:=Z3x d
   rw[hR,e];simp
  unfold P5
  rw[hb,decide_eq_false hne,cond_false]
  have:=Z68 _ ds d (((Lib.join ((d::ds).map QH) [59,32]).map rn).length+1) 0 [] h (List.drop_zero) (Nat.zero_le _) (by omega)
  rw[this];rfl
theorem Zi7 {N:Int}{p:Prog}{c:Conf}{d:Dir}(hp:Md.Fine p)(hI:Md.Inv N p c)(hil:p.ins.length<=8)(h:Md.Q0 N p c d=true):KB d:=by
 have hw:=hp.win
 have hb:=hI.buf
 have opn:∀ i:Int,Md.QE p c i=true->0<=i/\i<c.buf.length:=fun i hi=>by
  unfold Md.QE at hi
  simp only[Bool.and_eq_true,decide_eq_true_eq] at hi
  exact⟨hi.1.1.2,hi.1.2⟩
 unfold Md.Q0 at h
 split at h
 ·rename_i k
  have hg:Md.Qq p c<=9:=by
   unfold Md.Qq
   split
   ·omega
   ·split
    ·omega
    ·split<;>omega
  simp only[Md.BC,Bool.and_eq_true,decide_eq_true_eq] at h
  exact⟨⟨by omega,by omega⟩,⟨h.1,by omega⟩,fun e=>by omega⟩
 ·split at h
  ·rename_i k
   have ho:Md.QE p c d.n=true:=by
    unfold Md.can at h
    simp only[Bool.and_eq_true] at h
    exact h.1.1
   have:=opn _ ho
   exact⟨⟨by omega,by omega⟩,⟨this.1,by omega⟩,fun e=>by omega⟩
  ·split at h
   ·rename_i k
    have ho:Md.QE p c d.n=true:=by
     unfold Md.Q8 at h
     simp only[Bool.and_eq_true] at h
     exact h.1.1.1.1
    have:=opn _ ho
    exact⟨⟨by omega,by omega⟩,⟨this.1,by omega⟩,fun e=>by omega⟩
   ·simp only [Bool.and_eq_true, decide_eq_true_eq] at h
    exact⟨⟨by omega,by omega⟩,⟨by omega,by omega⟩,fun _=>h.1.2⟩
theorem Z40 {N:Int}{p:Prog}(hp:Md.Fine p)(hil:p.ins.length<=8):∀(o:List Dir) (c:Conf),Md.Inv N p c->Md.Ew N p o c->∀ d ∈ o,KB d
 | [],_,_,_,d,hd=>by cases hd
 | e::o,c,hI,h,d,hd=>by
  rcases List.mem_cons.1 hd with rfl | hd
  ·exact Zi7 hp hI hil h.1
  ·exact Z40 hp hil o _ (hI.said hp e h.1) h.2 d hd
theorem Zi8 {N:Int}{p:Prog}{c:Conf}{d:Dir}(hp:Md.Fine p)(hI:Md.Inv N p c)(hil:p.ins.length<=8)(h:Md.Q0 N p c d=true):d.n<=99:=by
 have hw:=hp.win
 have hb:=hI.buf
 have opn:∀ i:Int,Md.QE p c i=true->0<=i/\i<c.buf.length:=fun i hi=>by
  unfold Md.QE at hi
  simp only[Bool.and_eq_true,decide_eq_true_eq] at hi
  exact⟨hi.1.1.2,hi.1.2⟩
 unfold Md.Q0 at h
 split at h
 ·have hg:Md.Qq p c<=9:=by
   unfold Md.Qq
   split
   ·omega
   ·split
    ·omega
    ·split<;>omega
  simp only[Md.BC,Bool.and_eq_true,decide_eq_true_eq] at h
  omega
 ·split at h
  ·have ho:Md.QE p c d.n=true:=by
    unfold Md.can at h
    simp only[Bool.and_eq_true] at h
    exact h.1.1
   have:=opn _ ho
   omega
  ·split at h
   ·have ho:Md.QE p c d.n=true:=by
     unfold Md.Q8 at h
     simp only[Bool.and_eq_true] at h
     exact h.1.1.1.1
    have:=opn _ ho
    omega
   ·simp only [Bool.and_eq_true, decide_eq_true_eq] at h
    omega
theorem Z41 {N:Int}{p:Prog}(hp:Md.Fine p)(hil:p.ins.length<=8):∀(o:List Dir) (c:Conf),Md.Inv N p c->Md.Ew N p o c->∀ d ∈ o,d.n<=99
 | [],_,_,_,d,hd=>by cases hd
 | e::o,c,hI,h,d,hd=>by
  rcases List.mem_cons.1 hd with rfl | hd
  ·exact Zi8 hp hI hil h.1
  ·exact Z41 hp hil o _ (hI.said hp e h.1) h.2 d hd
def EV (N:Int)(p:Prog):List Dir->Conf->List Obs
 | [],_=>[]
 | d::l,c=>(Md.say N p c d).2++EV N p l (Md.say N p c d).1
theorem Z5e {N:Int}{p:Prog}:∀(o:List Dir) (c:Conf) (k:Nat),Md.Ew N p o c->E4 N p o c k=(Md.DK N p o c,EV N p o c,k+o.length)
 | [],c,k,_=>rfl
 | e::o,c,k,h=>by
  rw[Z5d,h.1,cond_true,Z5e o _ _ h.2]
  show(_,_,_)=(_,_,_)
  rw[List.length_cons,show k+1+o.length=k+(o.length+1) by omega];rfl
theorem Z6h {N:Int}{p:Prog}:∀(l m:List Dir) (c:Conf),EV N p (l++m) c=EV N p l c++EV N p m (Md.DK N p l c)
 | [],_,_=>rfl
 | d::l,m,c=>by
  show _++EV N p (l++m) _=_
  rw[Z6h l m,<-List.append_assoc];rfl
theorem Z0n {N:Int}{p:Prog}:∀(l:List Dir) (c:Conf),Md.Ew N p l c->(EV N p l c).length<=l.length
 | [],_,_=>Nat.le_refl _
 | d::l,c,h=>by
  have h1:=Z0n l _ h.2
  have h2:=Md.Z51 (N:=N) (p:=p) (c:=c) d h.1
  show((Md.say N p c d).2++EV N p l (Md.say N p c d).1).length<=_
  rw[List.length_append,List.length_cons]
  generalize (Md.say N p c d).2=s at *
  match s,h2 with
  | [],_=>simp;omega
  | [x],_=>simp;omega
theorem Z81 {N:Int}{p:Prog}(hp:Md.Fine p):∀(l:List Dir) (c:Conf),Md.Inv N p c->Md.Ew N p l c->Md.Inv N p (Md.DK N p l c)
 | [],_,h,_=>h
 | d::l,c,h,hc=>Z81 hp l _ (h.said hp d hc.1) hc.2
theorem Z2f {A:List Blk}{j v m:Nat}{L:List Obs}(hA:A[j]? =some (.cells ((rC L).map .d) v false))(h0:L.length≠0):deep A (m+2) (.sref j v 0 L.length 2 none)=some (rD L,[j]):=
 WU (α:=Obs) (fun e=>h0 (by rw[e];rfl)) hA m none
theorem Zr7 {A:List Blk}{j v m:Nat}{L M:List Obs}(hA:A[j]? =some (.cells ((rC (L++M)).map .d) v false))(h0:L.length≠0):deep A (m+2) (.sref j v 0 (L.length+M.length) 2 none)=some (rD (L++M),[j]):=by
 have h:(L++M).length=L.length+M.length:=List.length_append
 rw[<-h]
 exact Z2f hA (by rw[h];omega)
variable {E:Env} {fn:FuncId->Option (Env->cT->cT)}
section
variable (S:Sur E fn)
include S
theorem Tz:E.lives 6 17=none:=off S 6 17 (by decide) rfl
theorem Z2o (dp:Nat){p:Prog}(hp:Md.Fine p)(hml:p.mems.length<1000)(hN:Zz p.mems<=1000){c:Conf}(hI:Md.Inv (Zz p.mems) p c){l:List Dir}(hl:l.length<1000000)(hc:Md.Ew (Zz p.mems) p l c)(A:List Blk)(nb:Nat):
  Zv false E (Z4 E fn (dp+13)) 16 A nb (some ([Zw p,ZS c,rD l],[]))=some (.made (.d (.tup [ZS (Md.DK (Zz p.mems) p l c),rD (EV (Zz p.mems) p l c),vi (l.length:Nat)])) []):=by
 have h:=Zi6 S (dp+1) p hp hml hN c hI l hl
 rw[Z5e l c 0 hc,Nat.zero_add] at h
 exact Z6.deep h (np S 16 (by decide)) A nb
theorem Zkv (ha:E.prim 12=some NW)(hI1:E.prim 98=some (KJ 99))(hJ:E.prim 57=some PG)(dp:Nat)(m st w:List Int)(at_:Int):Z4 E fn (dp+14) 6 [.d (rD m),.d (rD st),.d (rD w),aI at_] []=some (Yx true,[]):=by
 have hp:=Zo0 m
 have hN:=Zo1 m
 have hml:=Znx m
 have hil:=Zny m
 obtain⟨s,s',hS,o1,o2⟩:=Zi5 S (dp+8) (Md.make m) (Znw m) hml st 1
 have hI0:=o1.inv hp
 obtain⟨c,way,hW,hI⟩:=Zi4 S (dp+5) (Md.make m) hp _ hN s hI0 w
 have hwl:=hI.len
 have hcn:=hI.can
 have hrn:=hI.run
 have hIc:=hI.inv
 have hok:=Z40 hp hil way _ hI0 hcn
 have hn9:∀ d ∈ way,d.n<=99:=fun d hd=>Z41 hp hil way _ hI0 hcn d hd
 have cS:=fun(A:List Blk) (nb:Nat)=>Z6.deep hS (np S 14 (by decide)) A nb
 have cW:=fun(A:List Blk) (nb:Nat)=>Z6.deep hW (np S 15 (by decide)) A nb
 have cB:=fun(A:List Blk) (nb:Nat)=>Z6.deep (Z5u S (dp+12) s) (np S 17 (by decide)) A nb
 have cP:=fun(A:List Blk) (nb:Nat)=>Z6.deep (Zjb S (dp+10) way 99 hI1 (fun d hd=>.inl (hn9 d hd)) hJ (by omega)) (np S 27 (by decide)) A nb
 have hts:(G4 way).1.size<1073741824:=by
  rw[Z0j hok]
  have:=Z7w (way.map QH) [59,32] 5 (fun x hx=>by
   obtain⟨d,hd,rfl⟩:=List.mem_map.1 hx
   have:=Z3y d
   rw[Z3z (hok d hd)] at this
   exact this)
  rw[List.length_map] at this
  show(Lib.join _ _).length<_
  simp only[List.length_cons,List.length_nil] at this
  omega
 have cR:=fun(A:List Blk) (nb:Nat)=>Z6.deep (Zjc S (dp+8) (G4 way).1 hts) (np S 25 (by decide)) A nb
 rw[Zmo hok] at cR
 have hpt:(G4 way).2=true:=by rw[Z0j hok]
 rw[hpt] at cP
 generalize (G4 way).1=T at *
 obtain⟨y0,y1,y2,y3,y4,-⟩:=RY hp hIc hN ⟨0,0⟩
 obtain⟨z0,z1,z2,z3,z4,-⟩:=RY hp hI0 hN ⟨0,0⟩
 have h9c:(Gq c).length<1073741824:=by have:=Zpf c;omega
 have g1:c.state.mem.length<1073741824:=by omega
 have g2:c.state.stack.length<1073741824:=by omega
 have g3:c.buf.length<1073741824:=by omega
 have g4:c.rsb.length<1073741824:=by omega
 have lim:Z5=1099511627776:=rfl
 obtain⟨r,hr1,hr2⟩:=Md.Z86 at_
 obtain⟨k,hk,hkl⟩:∃ k:Nat,k=r%(way.length+1)/\k<=way.length:=⟨_,rfl,by have:=Nat.mod_lt r (show 0<way.length+1 by omega);omega⟩
 have hrem:YT .rem (aI (r:Int)) (aI ((way.length+1:Nat):Int))=some (aI (k:Nat)):=by
  have e:(r:Int).tmod ((way.length+1:Nat):Int)=(k:Nat):=by rw[hk,<-Int.ofNat_tmod]
  rw[<-e]
  exact Xx _ _ _ (by omega)
 show Z4 E fn (dp+13+1) 6 [.d (rD m),.d (rD st),.d (rD w),aI at_] []=_
 rw[ZD,S.Z8v,ZG,Ze9,ZC _ _ _ _ _ _ _ _ rfl]
 simp only[Zw,Y3,B5,GQ,ZS,Jq,D7] at cS cW cB
 have hta:Md.Ew (Zz (Md.make m).mems) (Md.make m) (way.take k) (Md.BS s)/\Md.Ew (Zz (Md.make m).mems) (Md.make m) (way.drop k) (Md.DK (Zz (Md.make m).mems) (Md.make m) (way.take k) (Md.BS s)):=by
  rw[<-Md.Z2k,List.take_append_drop];exact hcn
 have htr:Md.DK (Zz (Md.make m).mems) (Md.make m) (way.drop k) (Md.DK (Zz (Md.make m).mems) (Md.make m) (way.take k) (Md.BS s))=c:=by
  rw[<-Md.Z07,List.take_append_drop];exact hrn
 have hto:EV (Zz (Md.make m).mems) (Md.make m) (way.take k) (Md.BS s)++EV (Zz (Md.make m).mems) (Md.make m) (way.drop k) (Md.DK (Zz (Md.make m).mems) (Md.make m) (way.take k) (Md.BS s))=EV (Zz (Md.make m).mems) (Md.make m) way (Md.BS s):=by
  rw[<-Z6h,List.take_append_drop]
 have hIa:=Z81 hp _ _ hI0 hta.1
 have b1:=Z0n _ _ hta.1
 have b2:=Z0n _ _ hta.2
 rw[List.length_take,Nat.min_eq_left hkl] at b1
 rw[List.length_drop] at b2
 have r1:=fun(A:List Blk) (nb:Nat)=>Z2o S dp hp hml hN hI0 (l:=way.take k) (by rw[List.length_take];omega) hta.1 A nb
 have r2:=fun(A:List Blk) (nb:Nat)=>Z2o S dp hp hml hN hIa (l:=way.drop k) (by rw[List.length_drop];omega) hta.2 A nb
 have r3:=fun(A:List Blk) (nb:Nat)=>Z2o S dp hp hml hN hI0 (l:=way) (by omega) hcn A nb
 rw[htr] at r2
 rw[hrn,<-hto] at r3
 rw[List.length_take,Nat.min_eq_left hkl] at r1
 rw[List.length_drop] at r2
 generalize EV (Zz (Md.make m).mems) (Md.make m) (way.drop k) (Md.DK (Zz (Md.make m).mems) (Md.make m) (way.take k) (Md.BS s))=o2 at *
 generalize EV (Zz (Md.make m).mems) (Md.make m) (way.take k) (Md.BS s)=o1 at *
 generalize Md.DK (Zz (Md.make m).mems) (Md.make m) (way.take k) (Md.BS s)=a at *
 simp only[Zw,Y3,B5,GQ,ZS,Jq,Md.BS,D7] at r1 r2 r3
 have bd1:=Hk way.length .i64 (k:Int) (by omega) (by omega)
 have bd2:=Sw way.length .i64 (k:Int) (by omega) (by omega)
 have wk:IntKind.i64.wrap ((way.length:Int)-k)=((way.length-k:Nat):Int):=by rw[YH (by omega) (by omega)];omega
 have tk:way.take (k-0)=way.take k:=rfl
 have dk:(way.drop k).take (way.length-k)=way.drop k:=List.take_of_length_le (by rw[List.length_drop];exact Nat.le_refl _)
 have n1:o1.length*16<=Z5:=by omega
 have n2:o1.length<=Z5:=by omega
 have n3:o2.length*16<=Z5:=by omega
 have n4:o2.length<=Z5:=by omega
 have n5:(o1.length+o2.length)*16<=Z5:=by omega
 have n6:o1.length+o2.length<=Z5:=by omega
 have n7:(o1++o2).length<1073741824:=by rw[List.length_append];omega
 simp only[eG,go_sem,Z3 S,Z2 S,zN0,zN1,zN2,zN3,zN4,zI0,zI1,zI2,zI3,reduceCtorEq,Tz S,gt_iff_lt,Int.cast_ofNat_Int,Zrz S,cS,cW,cB,cP,cR,YS,Zq,Cw (cs:=[]),G5,Bool.not_true,Bool.not_false,ne_eq,not_true_eq_false,not_false_eq_true,Zrf,Zrc,Zsd S,Zsc S,g1,g2,g3,g4,h9c,U2 ha,bne_self_eq_false,Q1,hr2,hrem,show way.length<1073741824 by omega,wi way.length (by omega),bd1,bd2,wk,tk,dk,Int.toNat_natCast,List.drop_zero,r1,r2,r3,U5 S,n1,n2,n3,n4,n5,n6,n7]
 have hs1:∀ l:List Obs,l.length=0->l=[]:=fun l h=>List.length_eq_zero_iff.1 h
 have l0:([]:List Obs).length<1073741824:=by decide
 by_cases w0:o1.length=0<;>by_cases d0:o2.length=0
 ·obtain rfl := hs1 o1 w0
  obtain rfl:=hs1 o2 d0
  have cO:=fun(A:List Blk) (nb:Nat) (us:List Nat)=>U5 S (dp+12) [] [] l0 A nb us
  simp only[D7] at cO
  simp only[eG,go_sem,Z3 S,Z2 S,zN0,zN1,zN2,zN3,zN4,zI0,zI1,zI2,zI3,reduceCtorEq,Tz S,UA,D7,List.nil_append,cO,U2 ha]
 ·obtain rfl := hs1 o1 w0
  have k1:o2.length<1073741824:=by omega
  simp only[eG,go_sem,Z3 S,Z2 S,zN0,zN1,zN2,zN3,zN4,zI0,zI1,zI2,zI3,reduceCtorEq,Tz S,UA,D7,List.nil_append,Cw (cs:=[]),G5,d0,n3,n4,Z2f,U5 S,k1,U2 ha,not_false_eq_true,List.length_nil,ne_eq]
 ·obtain rfl := hs1 o2 d0
  have k1:o1.length<1073741824:=by omega
  simp only[eG,go_sem,Z3 S,Z2 S,zN0,zN1,zN2,zN3,zN4,zI0,zI1,zI2,zI3,reduceCtorEq,Tz S,UA,D7,List.append_nil,Cw (cs:=[]),G5,w0,n1,n2,Z2f,U5 S,k1,U2 ha,not_false_eq_true,List.length_nil,ne_eq]
 ·simp only[eG,go_sem,Z3 S,Z2 S,zN0,zN1,zN2,zN3,zN4,zI0,zI1,zI2,zI3,reduceCtorEq,Tz S,Cw (cs:=[]),Zta,G5,w0,d0,n1,n2,n5,n6,Zr7,U5 S,n7,U2 ha,not_false_eq_true,ne_eq]
end
end Go.Aug.Mc
