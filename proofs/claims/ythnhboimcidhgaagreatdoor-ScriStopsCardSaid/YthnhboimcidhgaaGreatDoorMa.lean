import Derived.Test.YthnhboimcidhgaaGreatDoorMk5
import Derived.Test.YthnhboimcidhgaaGreatDoorMl4
import Derived.Test.YthnhboimcidhgaaGreatDoorMc40
import Derived.Test.YthnhboimcidhgaaGreatDoorMk3
import Derived.Test.YthnhboimcidhgaaGreatDoorEvPc
namespace Go.Aug.Mc
open Go Go.Aug
open Nat renaming reduceLT -> zN0, reduceEqDiff -> zN1, reduceAdd -> zN2, reduceMul -> zN3, reduceLeDiff -> zN4
open Int renaming reduceEq -> zI0, reduceLT -> zI1, reduceLE -> zI2, reduceNeg -> zI3
set_option linter.unusedSimpArgs false
set_option linter.unusedVariables false
set_option maxHeartbeats 40000000
theorem Zei (m:MemT):(rC [m]).map AV.d=[.d (vt m.name),.d (vb m.secret),.d (vi m.n)]:=rfl
theorem Zeh (m k:MemT):(rC [m,k]).map AV.d=[.d (vt m.name),.d (vb m.secret),.d (vi m.n),.d (vt k.name),.d (vb k.secret),.d (vi k.n)]:=rfl
theorem l32:32<=Zf:=by unfold Zf;decide
theorem Z4v (b0 b1 b2:Blk)(v:Nat)(a b c:DV)(nm:ByteArray)(s:Bool)(n:Int):
  Qs [b0,b1,b2,.cells [.d a,.d b,.d c] v false] 3 32 (.sref 3 v 0 1 3 none) [.d (vt nm),.d (vb s),.d (vi n)] 1=some (.turn 3 (.cells [.d a,.d b,.d c,.d (vt nm),.d (vb s),.d (vi n)] (v+1) false) (.sref 3 (v+1) 0 2 3 none)):=by
 have hx:([AV.d (vt nm),AV.d (vb s),AV.d (vi n)]).all AV.one=true:=rfl
 rw[Z2l,if_neg (by decide),if_neg (by rw[hx];unfold Zf;simp)]
 simp
variable {E:Env} {fn:FuncId->Option (Env->cT->cT)}
section
variable (S:Sur E fn)
include S
theorem Z4:E.lives 13 1=none/\E.lives 13 23=none/\E.lives 13 27=none/\E.lives 13 31=none/\E.lives 13 35=none/\E.lives 13 39=none:=⟨off S 13 1 (by decide) rfl,off S 13 23 (by decide) rfl,off S 13 27 (by decide) rfl,off S 13 31 (by decide) rfl,off S 13 35 (by decide) rfl,off S 13 39 (by decide) rfl⟩
theorem Zmy (dp:Nat)(l:List Int):Zk E fn (dp+4) 13 [rD l] (Zn (Md.make l)):=by
 unfold Zk
 show Zh (evC E fn (dp+3+1) 13 [.d (rD l)] [])=_
 rw[Z2,S.Zkj,Z3,Zlz,Z6 _ _ _ _ _ _ _ _ rfl]
 have sf1:∀ x:Int,x.fdiv (2^min 1 64)=Md.shi x 1:=fun x=>by rw[Nat.min_eq_left (by decide)];rfl
 have sf8:∀ x:Int,x.fdiv (2^min 8 64)=Md.shi x 8:=fun x=>by rw[Nat.min_eq_left (by decide)];rfl
 have sf10:∀ x:Int,x.fdiv (2^min 10 64)=Md.shi x 10:=fun x=>by rw[Nat.min_eq_left (by decide)];rfl
 have sf12:∀ x:Int,x.fdiv (2^min 12 64)=Md.shi x 12:=fun x=>by rw[Nat.min_eq_left (by decide)];rfl
 have r1':∀ {α:Type} (l:List α),rep l 1=l:=fun l=>by simp[rep]
 have ww:IntKind.i64.wrap (Md.iand (Md.kM l 0) 1+1)=Md.widM l:=by
  obtain⟨r,h1,h2⟩:=Md.iand1 (Md.kM l 0)
  unfold Md.widM
  rw[h2];exact Zt (by omega) (by omega)
 have wn:IntKind.i64.wrap (((Md.lowmod (Md.shi (Md.kM l 0) 1) 3:Nat):Int)+1)=(Md.lowmod (Md.shi (Md.kM l 0) 1) 3:Nat)+1:=by
  have:=Md.lowmod_lt (Md.shi (Md.kM l 0) 1) (show 0<3 by decide)
  exact Zt (by omega) (by omega)
 have wN:IntKind.i64.wrap (Md.iand (Md.shi (Md.kM l 0) 12) 3+2)=(Md.nM l:Nat):=by
  obtain⟨r,h1,h2⟩:=Md.iand3 (Md.shi (Md.kM l 0) 12)
  unfold Md.nM
  rw[h2,Int.toNat_natCast,Zt (by omega) (by omega)];rfl
 have n6:Md.nM l<6:=by
  obtain⟨r,h1,h2⟩:=Md.iand3 (Md.shi (Md.kM l 0) 12)
  unfold Md.nM
  rw[h2,Int.toNat_natCast];omega
 have n0:0<Md.nM l:=by unfold Md.nM;omega
 simp only[eG,go_sem,thq S,nbr S,zN0,zN1,zN2,zN3,zN4,zI0,zI1,zI2,zI3,reduceCtorEq,Z4 S,Int.cast_ofNat_Int,l32,l1,Z4v,Y0,Zu,Zs,Ze S,Yy,sh1,sh8,Zqj,Zqi,sf1,sf8,sf10,sf12,lm3,r1',Int.reduceMul,Int.reduceAdd,Int.toNat_zero,Int.reduceToNat,zI1,zI2,and_true,true_and,and_self,Jx,gt_iff_lt,ww,wn]
 rw[Y2,Z1 (on S _ _ [2,3,4,5,6,7] (by decide) rfl) rfl _ _ _ _ _ _ _ _ _ rfl]
 simp only[eG,go_sem,thq S,nbr S,zN0,zN1,zN2,zN3,zN4,zI0,zI1,zI2,zI3,reduceCtorEq,Z4 S]
 rw[Y1m S (dp+2) l _ _ _ (by decide)]
 have d1:∀ A i,A[i]? =some (.cells ((rC (Z1s (Md.nM l+1))).map .d) 0 false)->deep A 7 (.sref i 0 0 (Md.nM l+1) 2 none)=some (.lst (rC (Z1s (Md.nM l+1))) (Md.nM l+1) none,[i]):=
  fun A i h=>Q8 h (fun e=>by have:=Z20 (Md.nM l+1);rw[e] at this;simp at this) 5 _ 2 none rfl (Z20 _).symm
 have d2:∀ A i,A[i]? =some (.cells ((rC (Z5v l (Md.nM l) (Md.nM l))).map .d) 0 false)->deep A 7 (.sref i 0 0 (Md.nM l) 9 none)=some (.lst (rC (Z5v l (Md.nM l) (Md.nM l))) (Md.nM l) none,[i]):=
  fun A i h=>Q8 h (fun e=>by have:=Zd2 l (Md.nM l) (Md.nM l);rw[e] at this;simp at this;omega) 5 _ 9 none rfl (Zd2 _ _ _).symm
 have hl:rD (Md.make l).labels=.lst (rC (Z1s (Md.nM l+1))) (Md.nM l+1) none:=by
  show DV.lst (rC (Z1s (Md.nM l+1))) (Z1s (Md.nM l+1)).length none=_
  rw[Z20]
 have hi:rD (Md.make l).ins=.lst (rC (Z5v l (Md.nM l) (Md.nM l))) (Md.nM l) none:=by
  show DV.lst (rC (Z5v l (Md.nM l) (Md.nM l))) (Z5v l (Md.nM l) (Md.nM l)).length none=_
  rw[Zd2]
 by_cases a1:0<Md.iand (Md.shi (Md.kM l 1) 8) 3
 ·by_cases a2 : Md.widM l = 1
  ·by_cases a3 : Md.iand (Md.shi (Md.kM l 1) 10) 3 = 0
   ·skip
    by_cases a4:0<Md.iand (Md.shi (Md.kM l 1) 12) 3
    ·by_cases a5 : IntKind.i64.wrap ((Md.reg3 l (Md.widM l)).2.2 + Md.widM l) <= 3
     ·have hms : Md.memsM l (Md.widM l) = [⟨⟨#[109]⟩, false, 2⟩] := by simp [Md.memsM, Md.mem1, Md.w64', a1, eq_true a2, eq_true a3, a4, a5]
      have d0:∀ A i,A[i]? =some (.cells ((rC ([⟨⟨#[109]⟩,false,2⟩]:List MemT)).map .d) 0 false)->deep A 7 (.sref i 0 0 1 3 none)=some (.lst (rC ([⟨⟨#[109]⟩,false,2⟩]:List MemT)) 1 none,[i]):=fun A i h=>Q8 h (by simp) 5 _ 3 none rfl rfl
      have e1:=fun kx kr f hf=>Z2t S (dp+1) l kx kr (Md.nM l) ([⟨⟨#[109]⟩,false,2⟩]:List MemT) (Md.widM l) (Md.lowmod (Md.shi (Md.kM l 0) 1) 3+1) (Md.reg0 l (Md.widM l)).1 (Md.reg1 l (Md.widM l)).1 (Md.reg2 l (Md.widM l)).1 (Md.reg3 l (Md.widM l)).1 n0 n6 f hf
      have e2:=fun kx kr f hf=>Z2s S (dp+1) l kx kr (Md.nM l) ([⟨⟨#[109]⟩,false,2⟩]:List MemT) (Z1s (Md.nM l+1)) (Md.widM l) (Md.lowmod (Md.shi (Md.kM l 0) 1) 3+1) (Md.reg0 l (Md.widM l)).1 (Md.reg1 l (Md.widM l)).1 (Md.reg2 l (Md.widM l)).1 (Md.reg3 l (Md.widM l)).1 n0 n6 f hf
      simp only[Z20] at e2
      simp only[Zei,Zeh,List.length_cons,List.length_nil,zN2] at e1 e2
      simp only[eG,go_sem,thq S,nbr S,zN0,zN1,zN2,zN3,zN4,zI0,zI1,zI2,zI3,reduceCtorEq,Z4 S,Int.cast_ofNat_Int,l32,l1,Z4v,Y0,Zu,Zs,Ze S,Yy,sh1,sh8,Zqj,Zqi,sf1,sf8,sf10,sf12,lm3,r1',Int.reduceMul,Int.reduceAdd,Int.toNat_zero,Int.reduceToNat,zI1,zI2,and_true,true_and,and_self,Jx,gt_iff_lt,wN,a1,eq_true a2,eq_true a3,a4,a5]
      rw[Y2,Z1 (on S _ _ [2,3,4,8,9] (by decide) rfl) rfl _ _ _ _ _ _ _ _ _ rfl]
      simp only[eG,go_sem,thq S,nbr S,zN0,zN1,zN2,zN3,zN4,zI0,zI1,zI2,zI3,reduceCtorEq,Z4 S]
      rw[e1 _ _ _ (by decide)]
      simp only[eG,go_sem,thq S,nbr S,zN0,zN1,zN2,zN3,zN4,zI0,zI1,zI2,zI3,reduceCtorEq,Z4 S]
      rw[Y2,Z1 (on S _ _ [2,3,4,8,10] (by decide) rfl) rfl _ _ _ _ _ _ _ _ _ rfl]
      simp only[eG,go_sem,thq S,nbr S,zN0,zN1,zN2,zN3,zN4,zI0,zI1,zI2,zI3,reduceCtorEq,Z4 S]
      rw[e2 _ _ _ (by decide)]
      simp only[eG,go_sem,thq S,nbr S,zN0,zN1,zN2,zN3,zN4,zI0,zI1,zI2,zI3,reduceCtorEq,Z4 S]
      rw[d0 _ _ rfl,d1 _ _ rfl,d2 _ _ rfl]
      simp only[eG,go_sem,thq S,nbr S,zN0,zN1,zN2,zN3,zN4,zI0,zI1,zI2,zI3,reduceCtorEq,Z4 S]
      rw[hl,hi,show rD (Md.make l).mems=rD ([⟨⟨#[109]⟩,false,2⟩]:List MemT) from congrArg rD hms]
      rfl
     ·have hms : Md.memsM l (Md.widM l) = [⟨⟨#[109]⟩, false, 2⟩] := by simp [Md.memsM, Md.mem1, Md.w64', a1, eq_true a2, eq_true a3, a4, a5]
      have d0:∀ A i,A[i]? =some (.cells ((rC ([⟨⟨#[109]⟩,false,2⟩]:List MemT)).map .d) 0 false)->deep A 7 (.sref i 0 0 1 3 none)=some (.lst (rC ([⟨⟨#[109]⟩,false,2⟩]:List MemT)) 1 none,[i]):=fun A i h=>Q8 h (by simp) 5 _ 3 none rfl rfl
      have e1:=fun kx kr f hf=>Z2t S (dp+1) l kx kr (Md.nM l) ([⟨⟨#[109]⟩,false,2⟩]:List MemT) (Md.widM l) (Md.lowmod (Md.shi (Md.kM l 0) 1) 3+1) (Md.reg0 l (Md.widM l)).1 (Md.reg1 l (Md.widM l)).1 (Md.reg2 l (Md.widM l)).1 (Md.reg3 l (Md.widM l)).1 n0 n6 f hf
      have e2:=fun kx kr f hf=>Z2s S (dp+1) l kx kr (Md.nM l) ([⟨⟨#[109]⟩,false,2⟩]:List MemT) (Z1s (Md.nM l+1)) (Md.widM l) (Md.lowmod (Md.shi (Md.kM l 0) 1) 3+1) (Md.reg0 l (Md.widM l)).1 (Md.reg1 l (Md.widM l)).1 (Md.reg2 l (Md.widM l)).1 (Md.reg3 l (Md.widM l)).1 n0 n6 f hf
      simp only[Z20] at e2
      simp only[Zei,Zeh,List.length_cons,List.length_nil,zN2] at e1 e2
      simp only[eG,go_sem,thq S,nbr S,zN0,zN1,zN2,zN3,zN4,zI0,zI1,zI2,zI3,reduceCtorEq,Z4 S,Int.cast_ofNat_Int,l32,l1,Z4v,Y0,Zu,Zs,Ze S,Yy,sh1,sh8,Zqj,Zqi,sf1,sf8,sf10,sf12,lm3,r1',Int.reduceMul,Int.reduceAdd,Int.toNat_zero,Int.reduceToNat,zI1,zI2,and_true,true_and,and_self,Jx,gt_iff_lt,wN,a1,eq_true a2,eq_true a3,a4,a5]
      rw[Y2,Z1 (on S _ _ [2,3,4,8,9] (by decide) rfl) rfl _ _ _ _ _ _ _ _ _ rfl]
      simp only[eG,go_sem,thq S,nbr S,zN0,zN1,zN2,zN3,zN4,zI0,zI1,zI2,zI3,reduceCtorEq,Z4 S]
      rw[e1 _ _ _ (by decide)]
      simp only[eG,go_sem,thq S,nbr S,zN0,zN1,zN2,zN3,zN4,zI0,zI1,zI2,zI3,reduceCtorEq,Z4 S]
      rw[Y2,Z1 (on S _ _ [2,3,4,8,10] (by decide) rfl) rfl _ _ _ _ _ _ _ _ _ rfl]
      simp only[eG,go_sem,thq S,nbr S,zN0,zN1,zN2,zN3,zN4,zI0,zI1,zI2,zI3,reduceCtorEq,Z4 S]
      rw[e2 _ _ _ (by decide)]
      simp only[eG,go_sem,thq S,nbr S,zN0,zN1,zN2,zN3,zN4,zI0,zI1,zI2,zI3,reduceCtorEq,Z4 S]
      rw[d0 _ _ rfl,d1 _ _ rfl,d2 _ _ rfl]
      simp only[eG,go_sem,thq S,nbr S,zN0,zN1,zN2,zN3,zN4,zI0,zI1,zI2,zI3,reduceCtorEq,Z4 S]
      rw[hl,hi,show rD (Md.make l).mems=rD ([⟨⟨#[109]⟩,false,2⟩]:List MemT) from congrArg rD hms]
      rfl
    ·have hms : Md.memsM l (Md.widM l) = [⟨⟨#[109]⟩, false, 2⟩] := by simp [Md.memsM, Md.mem1, Md.w64', a1, eq_true a2, eq_true a3, a4]
     have d0:∀ A i,A[i]? =some (.cells ((rC ([⟨⟨#[109]⟩,false,2⟩]:List MemT)).map .d) 0 false)->deep A 7 (.sref i 0 0 1 3 none)=some (.lst (rC ([⟨⟨#[109]⟩,false,2⟩]:List MemT)) 1 none,[i]):=fun A i h=>Q8 h (by simp) 5 _ 3 none rfl rfl
     have e1:=fun kx kr f hf=>Z2t S (dp+1) l kx kr (Md.nM l) ([⟨⟨#[109]⟩,false,2⟩]:List MemT) (Md.widM l) (Md.lowmod (Md.shi (Md.kM l 0) 1) 3+1) (Md.reg0 l (Md.widM l)).1 (Md.reg1 l (Md.widM l)).1 (Md.reg2 l (Md.widM l)).1 (Md.reg3 l (Md.widM l)).1 n0 n6 f hf
     have e2:=fun kx kr f hf=>Z2s S (dp+1) l kx kr (Md.nM l) ([⟨⟨#[109]⟩,false,2⟩]:List MemT) (Z1s (Md.nM l+1)) (Md.widM l) (Md.lowmod (Md.shi (Md.kM l 0) 1) 3+1) (Md.reg0 l (Md.widM l)).1 (Md.reg1 l (Md.widM l)).1 (Md.reg2 l (Md.widM l)).1 (Md.reg3 l (Md.widM l)).1 n0 n6 f hf
     simp only[Z20] at e2
     simp only[Zei,Zeh,List.length_cons,List.length_nil,zN2] at e1 e2
     simp only[eG,go_sem,thq S,nbr S,zN0,zN1,zN2,zN3,zN4,zI0,zI1,zI2,zI3,reduceCtorEq,Z4 S,Int.cast_ofNat_Int,l32,l1,Z4v,Y0,Zu,Zs,Ze S,Yy,sh1,sh8,Zqj,Zqi,sf1,sf8,sf10,sf12,lm3,r1',Int.reduceMul,Int.reduceAdd,Int.toNat_zero,Int.reduceToNat,zI1,zI2,and_true,true_and,and_self,Jx,gt_iff_lt,wN,a1,eq_true a2,eq_true a3,a4]
     rw[Y2,Z1 (on S _ _ [2,3,4,8,9] (by decide) rfl) rfl _ _ _ _ _ _ _ _ _ rfl]
     simp only[eG,go_sem,thq S,nbr S,zN0,zN1,zN2,zN3,zN4,zI0,zI1,zI2,zI3,reduceCtorEq,Z4 S]
     rw[e1 _ _ _ (by decide)]
     simp only[eG,go_sem,thq S,nbr S,zN0,zN1,zN2,zN3,zN4,zI0,zI1,zI2,zI3,reduceCtorEq,Z4 S]
     rw[Y2,Z1 (on S _ _ [2,3,4,8,10] (by decide) rfl) rfl _ _ _ _ _ _ _ _ _ rfl]
     simp only[eG,go_sem,thq S,nbr S,zN0,zN1,zN2,zN3,zN4,zI0,zI1,zI2,zI3,reduceCtorEq,Z4 S]
     rw[e2 _ _ _ (by decide)]
     simp only[eG,go_sem,thq S,nbr S,zN0,zN1,zN2,zN3,zN4,zI0,zI1,zI2,zI3,reduceCtorEq,Z4 S]
     rw[d0 _ _ rfl,d1 _ _ rfl,d2 _ _ rfl]
     simp only[eG,go_sem,thq S,nbr S,zN0,zN1,zN2,zN3,zN4,zI0,zI1,zI2,zI3,reduceCtorEq,Z4 S]
     rw[hl,hi,show rD (Md.make l).mems=rD ([⟨⟨#[109]⟩,false,2⟩]:List MemT) from congrArg rD hms]
     rfl
   ·skip
    by_cases a4:0<Md.iand (Md.shi (Md.kM l 1) 12) 3
    ·by_cases a5 : IntKind.i64.wrap ((Md.reg3 l (Md.widM l)).2.2 + Md.widM l) <= 3
     ·have hms : Md.memsM l (Md.widM l) = [⟨⟨#[109]⟩, false, 1⟩, ⟨⟨#[115]⟩, true, 1⟩] := by simp [Md.memsM, Md.mem1, Md.w64', a1, eq_true a2, a3, a4, a5]
      have d0:∀ A i,A[i]? =some (.cells ((rC ([⟨⟨#[109]⟩,false,1⟩,⟨⟨#[115]⟩,true,1⟩]:List MemT)).map .d) 0 false)->deep A 7 (.sref i 0 0 2 3 none)=some (.lst (rC ([⟨⟨#[109]⟩,false,1⟩,⟨⟨#[115]⟩,true,1⟩]:List MemT)) 2 none,[i]):=fun A i h=>Q8 h (by simp) 5 _ 3 none rfl rfl
      have e1:=fun kx kr f hf=>Z2t S (dp+1) l kx kr (Md.nM l) ([⟨⟨#[109]⟩,false,1⟩,⟨⟨#[115]⟩,true,1⟩]:List MemT) (Md.widM l) (Md.lowmod (Md.shi (Md.kM l 0) 1) 3+1) (Md.reg0 l (Md.widM l)).1 (Md.reg1 l (Md.widM l)).1 (Md.reg2 l (Md.widM l)).1 (Md.reg3 l (Md.widM l)).1 n0 n6 f hf
      have e2:=fun kx kr f hf=>Z2s S (dp+1) l kx kr (Md.nM l) ([⟨⟨#[109]⟩,false,1⟩,⟨⟨#[115]⟩,true,1⟩]:List MemT) (Z1s (Md.nM l+1)) (Md.widM l) (Md.lowmod (Md.shi (Md.kM l 0) 1) 3+1) (Md.reg0 l (Md.widM l)).1 (Md.reg1 l (Md.widM l)).1 (Md.reg2 l (Md.widM l)).1 (Md.reg3 l (Md.widM l)).1 n0 n6 f hf
      simp only[Z20] at e2
      simp only[Zei,Zeh,List.length_cons,List.length_nil,zN2] at e1 e2
      simp only[eG,go_sem,thq S,nbr S,zN0,zN1,zN2,zN3,zN4,zI0,zI1,zI2,zI3,reduceCtorEq,Z4 S,Int.cast_ofNat_Int,l32,l1,Z4v,Y0,Zu,Zs,Ze S,Yy,sh1,sh8,Zqj,Zqi,sf1,sf8,sf10,sf12,lm3,r1',Int.reduceMul,Int.reduceAdd,Int.toNat_zero,Int.reduceToNat,zI1,zI2,and_true,true_and,and_self,Jx,gt_iff_lt,wN,a1,eq_true a2,a3,a4,a5]
      rw[Y2,Z1 (on S _ _ [2,3,4,8,9] (by decide) rfl) rfl _ _ _ _ _ _ _ _ _ rfl]
      simp only[eG,go_sem,thq S,nbr S,zN0,zN1,zN2,zN3,zN4,zI0,zI1,zI2,zI3,reduceCtorEq,Z4 S]
      rw[e1 _ _ _ (by decide)]
      simp only[eG,go_sem,thq S,nbr S,zN0,zN1,zN2,zN3,zN4,zI0,zI1,zI2,zI3,reduceCtorEq,Z4 S]
      rw[Y2,Z1 (on S _ _ [2,3,4,8,10] (by decide) rfl) rfl _ _ _ _ _ _ _ _ _ rfl]
      simp only[eG,go_sem,thq S,nbr S,zN0,zN1,zN2,zN3,zN4,zI0,zI1,zI2,zI3,reduceCtorEq,Z4 S]
      rw[e2 _ _ _ (by decide)]
      simp only[eG,go_sem,thq S,nbr S,zN0,zN1,zN2,zN3,zN4,zI0,zI1,zI2,zI3,reduceCtorEq,Z4 S]
      rw[d0 _ _ rfl,d1 _ _ rfl,d2 _ _ rfl]
      simp only[eG,go_sem,thq S,nbr S,zN0,zN1,zN2,zN3,zN4,zI0,zI1,zI2,zI3,reduceCtorEq,Z4 S]
      rw[hl,hi,show rD (Md.make l).mems=rD ([⟨⟨#[109]⟩,false,1⟩,⟨⟨#[115]⟩,true,1⟩]:List MemT) from congrArg rD hms]
      rfl
     ·have hms : Md.memsM l (Md.widM l) = [⟨⟨#[109]⟩, false, 1⟩] := by simp [Md.memsM, Md.mem1, Md.w64', a1, eq_true a2, a3, a4, a5]
      have d0:∀ A i,A[i]? =some (.cells ((rC ([⟨⟨#[109]⟩,false,1⟩]:List MemT)).map .d) 0 false)->deep A 7 (.sref i 0 0 1 3 none)=some (.lst (rC ([⟨⟨#[109]⟩,false,1⟩]:List MemT)) 1 none,[i]):=fun A i h=>Q8 h (by simp) 5 _ 3 none rfl rfl
      have e1:=fun kx kr f hf=>Z2t S (dp+1) l kx kr (Md.nM l) ([⟨⟨#[109]⟩,false,1⟩]:List MemT) (Md.widM l) (Md.lowmod (Md.shi (Md.kM l 0) 1) 3+1) (Md.reg0 l (Md.widM l)).1 (Md.reg1 l (Md.widM l)).1 (Md.reg2 l (Md.widM l)).1 (Md.reg3 l (Md.widM l)).1 n0 n6 f hf
      have e2:=fun kx kr f hf=>Z2s S (dp+1) l kx kr (Md.nM l) ([⟨⟨#[109]⟩,false,1⟩]:List MemT) (Z1s (Md.nM l+1)) (Md.widM l) (Md.lowmod (Md.shi (Md.kM l 0) 1) 3+1) (Md.reg0 l (Md.widM l)).1 (Md.reg1 l (Md.widM l)).1 (Md.reg2 l (Md.widM l)).1 (Md.reg3 l (Md.widM l)).1 n0 n6 f hf
      simp only[Z20] at e2
      simp only[Zei,Zeh,List.length_cons,List.length_nil,zN2] at e1 e2
      simp only[eG,go_sem,thq S,nbr S,zN0,zN1,zN2,zN3,zN4,zI0,zI1,zI2,zI3,reduceCtorEq,Z4 S,Int.cast_ofNat_Int,l32,l1,Z4v,Y0,Zu,Zs,Ze S,Yy,sh1,sh8,Zqj,Zqi,sf1,sf8,sf10,sf12,lm3,r1',Int.reduceMul,Int.reduceAdd,Int.toNat_zero,Int.reduceToNat,zI1,zI2,and_true,true_and,and_self,Jx,gt_iff_lt,wN,a1,eq_true a2,a3,a4,a5]
      rw[Y2,Z1 (on S _ _ [2,3,4,8,9] (by decide) rfl) rfl _ _ _ _ _ _ _ _ _ rfl]
      simp only[eG,go_sem,thq S,nbr S,zN0,zN1,zN2,zN3,zN4,zI0,zI1,zI2,zI3,reduceCtorEq,Z4 S]
      rw[e1 _ _ _ (by decide)]
      simp only[eG,go_sem,thq S,nbr S,zN0,zN1,zN2,zN3,zN4,zI0,zI1,zI2,zI3,reduceCtorEq,Z4 S]
      rw[Y2,Z1 (on S _ _ [2,3,4,8,10] (by decide) rfl) rfl _ _ _ _ _ _ _ _ _ rfl]
      simp only[eG,go_sem,thq S,nbr S,zN0,zN1,zN2,zN3,zN4,zI0,zI1,zI2,zI3,reduceCtorEq,Z4 S]
      rw[e2 _ _ _ (by decide)]
      simp only[eG,go_sem,thq S,nbr S,zN0,zN1,zN2,zN3,zN4,zI0,zI1,zI2,zI3,reduceCtorEq,Z4 S]
      rw[d0 _ _ rfl,d1 _ _ rfl,d2 _ _ rfl]
      simp only[eG,go_sem,thq S,nbr S,zN0,zN1,zN2,zN3,zN4,zI0,zI1,zI2,zI3,reduceCtorEq,Z4 S]
      rw[hl,hi,show rD (Md.make l).mems=rD ([⟨⟨#[109]⟩,false,1⟩]:List MemT) from congrArg rD hms]
      rfl
    ·have hms : Md.memsM l (Md.widM l) = [⟨⟨#[109]⟩, false, 1⟩] := by simp [Md.memsM, Md.mem1, Md.w64', a1, eq_true a2, a3, a4]
     have d0:∀ A i,A[i]? =some (.cells ((rC ([⟨⟨#[109]⟩,false,1⟩]:List MemT)).map .d) 0 false)->deep A 7 (.sref i 0 0 1 3 none)=some (.lst (rC ([⟨⟨#[109]⟩,false,1⟩]:List MemT)) 1 none,[i]):=fun A i h=>Q8 h (by simp) 5 _ 3 none rfl rfl
     have e1:=fun kx kr f hf=>Z2t S (dp+1) l kx kr (Md.nM l) ([⟨⟨#[109]⟩,false,1⟩]:List MemT) (Md.widM l) (Md.lowmod (Md.shi (Md.kM l 0) 1) 3+1) (Md.reg0 l (Md.widM l)).1 (Md.reg1 l (Md.widM l)).1 (Md.reg2 l (Md.widM l)).1 (Md.reg3 l (Md.widM l)).1 n0 n6 f hf
     have e2:=fun kx kr f hf=>Z2s S (dp+1) l kx kr (Md.nM l) ([⟨⟨#[109]⟩,false,1⟩]:List MemT) (Z1s (Md.nM l+1)) (Md.widM l) (Md.lowmod (Md.shi (Md.kM l 0) 1) 3+1) (Md.reg0 l (Md.widM l)).1 (Md.reg1 l (Md.widM l)).1 (Md.reg2 l (Md.widM l)).1 (Md.reg3 l (Md.widM l)).1 n0 n6 f hf
     simp only[Z20] at e2
     simp only[Zei,Zeh,List.length_cons,List.length_nil,zN2] at e1 e2
     simp only[eG,go_sem,thq S,nbr S,zN0,zN1,zN2,zN3,zN4,zI0,zI1,zI2,zI3,reduceCtorEq,Z4 S,Int.cast_ofNat_Int,l32,l1,Z4v,Y0,Zu,Zs,Ze S,Yy,sh1,sh8,Zqj,Zqi,sf1,sf8,sf10,sf12,lm3,r1',Int.reduceMul,Int.reduceAdd,Int.toNat_zero,Int.reduceToNat,zI1,zI2,and_true,true_and,and_self,Jx,gt_iff_lt,wN,a1,eq_true a2,a3,a4]
     rw[Y2,Z1 (on S _ _ [2,3,4,8,9] (by decide) rfl) rfl _ _ _ _ _ _ _ _ _ rfl]
     simp only[eG,go_sem,thq S,nbr S,zN0,zN1,zN2,zN3,zN4,zI0,zI1,zI2,zI3,reduceCtorEq,Z4 S]
     rw[e1 _ _ _ (by decide)]
     simp only[eG,go_sem,thq S,nbr S,zN0,zN1,zN2,zN3,zN4,zI0,zI1,zI2,zI3,reduceCtorEq,Z4 S]
     rw[Y2,Z1 (on S _ _ [2,3,4,8,10] (by decide) rfl) rfl _ _ _ _ _ _ _ _ _ rfl]
     simp only[eG,go_sem,thq S,nbr S,zN0,zN1,zN2,zN3,zN4,zI0,zI1,zI2,zI3,reduceCtorEq,Z4 S]
     rw[e2 _ _ _ (by decide)]
     simp only[eG,go_sem,thq S,nbr S,zN0,zN1,zN2,zN3,zN4,zI0,zI1,zI2,zI3,reduceCtorEq,Z4 S]
     rw[d0 _ _ rfl,d1 _ _ rfl,d2 _ _ rfl]
     simp only[eG,go_sem,thq S,nbr S,zN0,zN1,zN2,zN3,zN4,zI0,zI1,zI2,zI3,reduceCtorEq,Z4 S]
     rw[hl,hi,show rD (Md.make l).mems=rD ([⟨⟨#[109]⟩,false,1⟩]:List MemT) from congrArg rD hms]
     rfl
  ·skip
   by_cases a4:0<Md.iand (Md.shi (Md.kM l 1) 12) 3
   ·by_cases a5 : IntKind.i64.wrap ((Md.reg3 l (Md.widM l)).2.2 + Md.widM l) <= 3
    ·have hms : Md.memsM l (Md.widM l) = [⟨⟨#[109]⟩, false, 1⟩, ⟨⟨#[115]⟩, true, 1⟩] := by simp [Md.memsM, Md.mem1, Md.w64', a1, a2, a4, a5]
     have d0:∀ A i,A[i]? =some (.cells ((rC ([⟨⟨#[109]⟩,false,1⟩,⟨⟨#[115]⟩,true,1⟩]:List MemT)).map .d) 0 false)->deep A 7 (.sref i 0 0 2 3 none)=some (.lst (rC ([⟨⟨#[109]⟩,false,1⟩,⟨⟨#[115]⟩,true,1⟩]:List MemT)) 2 none,[i]):=fun A i h=>Q8 h (by simp) 5 _ 3 none rfl rfl
     have e1:=fun kx kr f hf=>Z2t S (dp+1) l kx kr (Md.nM l) ([⟨⟨#[109]⟩,false,1⟩,⟨⟨#[115]⟩,true,1⟩]:List MemT) (Md.widM l) (Md.lowmod (Md.shi (Md.kM l 0) 1) 3+1) (Md.reg0 l (Md.widM l)).1 (Md.reg1 l (Md.widM l)).1 (Md.reg2 l (Md.widM l)).1 (Md.reg3 l (Md.widM l)).1 n0 n6 f hf
     have e2:=fun kx kr f hf=>Z2s S (dp+1) l kx kr (Md.nM l) ([⟨⟨#[109]⟩,false,1⟩,⟨⟨#[115]⟩,true,1⟩]:List MemT) (Z1s (Md.nM l+1)) (Md.widM l) (Md.lowmod (Md.shi (Md.kM l 0) 1) 3+1) (Md.reg0 l (Md.widM l)).1 (Md.reg1 l (Md.widM l)).1 (Md.reg2 l (Md.widM l)).1 (Md.reg3 l (Md.widM l)).1 n0 n6 f hf
     simp only[Z20] at e2
     simp only[Zei,Zeh,List.length_cons,List.length_nil,zN2] at e1 e2
     simp only[eG,go_sem,thq S,nbr S,zN0,zN1,zN2,zN3,zN4,zI0,zI1,zI2,zI3,reduceCtorEq,Z4 S,Int.cast_ofNat_Int,l32,l1,Z4v,Y0,Zu,Zs,Ze S,Yy,sh1,sh8,Zqj,Zqi,sf1,sf8,sf10,sf12,lm3,r1',Int.reduceMul,Int.reduceAdd,Int.toNat_zero,Int.reduceToNat,zI1,zI2,and_true,true_and,and_self,Jx,gt_iff_lt,wN,a1,a2,a4,a5]
     rw[Y2,Z1 (on S _ _ [2,3,4,8,9] (by decide) rfl) rfl _ _ _ _ _ _ _ _ _ rfl]
     simp only[eG,go_sem,thq S,nbr S,zN0,zN1,zN2,zN3,zN4,zI0,zI1,zI2,zI3,reduceCtorEq,Z4 S]
     rw[e1 _ _ _ (by decide)]
     simp only[eG,go_sem,thq S,nbr S,zN0,zN1,zN2,zN3,zN4,zI0,zI1,zI2,zI3,reduceCtorEq,Z4 S]
     rw[Y2,Z1 (on S _ _ [2,3,4,8,10] (by decide) rfl) rfl _ _ _ _ _ _ _ _ _ rfl]
     simp only[eG,go_sem,thq S,nbr S,zN0,zN1,zN2,zN3,zN4,zI0,zI1,zI2,zI3,reduceCtorEq,Z4 S]
     rw[e2 _ _ _ (by decide)]
     simp only[eG,go_sem,thq S,nbr S,zN0,zN1,zN2,zN3,zN4,zI0,zI1,zI2,zI3,reduceCtorEq,Z4 S]
     rw[d0 _ _ rfl,d1 _ _ rfl,d2 _ _ rfl]
     simp only[eG,go_sem,thq S,nbr S,zN0,zN1,zN2,zN3,zN4,zI0,zI1,zI2,zI3,reduceCtorEq,Z4 S]
     rw[hl,hi,show rD (Md.make l).mems=rD ([⟨⟨#[109]⟩,false,1⟩,⟨⟨#[115]⟩,true,1⟩]:List MemT) from congrArg rD hms]
     rfl
    ·have hms : Md.memsM l (Md.widM l) = [⟨⟨#[109]⟩, false, 1⟩] := by simp [Md.memsM, Md.mem1, Md.w64', a1, a2, a4, a5]
     have d0:∀ A i,A[i]? =some (.cells ((rC ([⟨⟨#[109]⟩,false,1⟩]:List MemT)).map .d) 0 false)->deep A 7 (.sref i 0 0 1 3 none)=some (.lst (rC ([⟨⟨#[109]⟩,false,1⟩]:List MemT)) 1 none,[i]):=fun A i h=>Q8 h (by simp) 5 _ 3 none rfl rfl
     have e1:=fun kx kr f hf=>Z2t S (dp+1) l kx kr (Md.nM l) ([⟨⟨#[109]⟩,false,1⟩]:List MemT) (Md.widM l) (Md.lowmod (Md.shi (Md.kM l 0) 1) 3+1) (Md.reg0 l (Md.widM l)).1 (Md.reg1 l (Md.widM l)).1 (Md.reg2 l (Md.widM l)).1 (Md.reg3 l (Md.widM l)).1 n0 n6 f hf
     have e2:=fun kx kr f hf=>Z2s S (dp+1) l kx kr (Md.nM l) ([⟨⟨#[109]⟩,false,1⟩]:List MemT) (Z1s (Md.nM l+1)) (Md.widM l) (Md.lowmod (Md.shi (Md.kM l 0) 1) 3+1) (Md.reg0 l (Md.widM l)).1 (Md.reg1 l (Md.widM l)).1 (Md.reg2 l (Md.widM l)).1 (Md.reg3 l (Md.widM l)).1 n0 n6 f hf
     simp only[Z20] at e2
     simp only[Zei,Zeh,List.length_cons,List.length_nil,zN2] at e1 e2
     simp only[eG,go_sem,thq S,nbr S,zN0,zN1,zN2,zN3,zN4,zI0,zI1,zI2,zI3,reduceCtorEq,Z4 S,Int.cast_ofNat_Int,l32,l1,Z4v,Y0,Zu,Zs,Ze S,Yy,sh1,sh8,Zqj,Zqi,sf1,sf8,sf10,sf12,lm3,r1',Int.reduceMul,Int.reduceAdd,Int.toNat_zero,Int.reduceToNat,zI1,zI2,and_true,true_and,and_self,Jx,gt_iff_lt,wN,a1,a2,a4,a5]
     rw[Y2,Z1 (on S _ _ [2,3,4,8,9] (by decide) rfl) rfl _ _ _ _ _ _ _ _ _ rfl]
     simp only[eG,go_sem,thq S,nbr S,zN0,zN1,zN2,zN3,zN4,zI0,zI1,zI2,zI3,reduceCtorEq,Z4 S]
     rw[e1 _ _ _ (by decide)]
     simp only[eG,go_sem,thq S,nbr S,zN0,zN1,zN2,zN3,zN4,zI0,zI1,zI2,zI3,reduceCtorEq,Z4 S]
     rw[Y2,Z1 (on S _ _ [2,3,4,8,10] (by decide) rfl) rfl _ _ _ _ _ _ _ _ _ rfl]
     simp only[eG,go_sem,thq S,nbr S,zN0,zN1,zN2,zN3,zN4,zI0,zI1,zI2,zI3,reduceCtorEq,Z4 S]
     rw[e2 _ _ _ (by decide)]
     simp only[eG,go_sem,thq S,nbr S,zN0,zN1,zN2,zN3,zN4,zI0,zI1,zI2,zI3,reduceCtorEq,Z4 S]
     rw[d0 _ _ rfl,d1 _ _ rfl,d2 _ _ rfl]
     simp only[eG,go_sem,thq S,nbr S,zN0,zN1,zN2,zN3,zN4,zI0,zI1,zI2,zI3,reduceCtorEq,Z4 S]
     rw[hl,hi,show rD (Md.make l).mems=rD ([⟨⟨#[109]⟩,false,1⟩]:List MemT) from congrArg rD hms]
     rfl
   ·have hms : Md.memsM l (Md.widM l) = [⟨⟨#[109]⟩, false, 1⟩] := by simp [Md.memsM, Md.mem1, Md.w64', a1, a2, a4]
    have d0:∀ A i,A[i]? =some (.cells ((rC ([⟨⟨#[109]⟩,false,1⟩]:List MemT)).map .d) 0 false)->deep A 7 (.sref i 0 0 1 3 none)=some (.lst (rC ([⟨⟨#[109]⟩,false,1⟩]:List MemT)) 1 none,[i]):=fun A i h=>Q8 h (by simp) 5 _ 3 none rfl rfl
    have e1:=fun kx kr f hf=>Z2t S (dp+1) l kx kr (Md.nM l) ([⟨⟨#[109]⟩,false,1⟩]:List MemT) (Md.widM l) (Md.lowmod (Md.shi (Md.kM l 0) 1) 3+1) (Md.reg0 l (Md.widM l)).1 (Md.reg1 l (Md.widM l)).1 (Md.reg2 l (Md.widM l)).1 (Md.reg3 l (Md.widM l)).1 n0 n6 f hf
    have e2:=fun kx kr f hf=>Z2s S (dp+1) l kx kr (Md.nM l) ([⟨⟨#[109]⟩,false,1⟩]:List MemT) (Z1s (Md.nM l+1)) (Md.widM l) (Md.lowmod (Md.shi (Md.kM l 0) 1) 3+1) (Md.reg0 l (Md.widM l)).1 (Md.reg1 l (Md.widM l)).1 (Md.reg2 l (Md.widM l)).1 (Md.reg3 l (Md.widM l)).1 n0 n6 f hf
    simp only[Z20] at e2
    simp only[Zei,Zeh,List.length_cons,List.length_nil,zN2] at e1 e2
    simp only[eG,go_sem,thq S,nbr S,zN0,zN1,zN2,zN3,zN4,zI0,zI1,zI2,zI3,reduceCtorEq,Z4 S,Int.cast_ofNat_Int,l32,l1,Z4v,Y0,Zu,Zs,Ze S,Yy,sh1,sh8,Zqj,Zqi,sf1,sf8,sf10,sf12,lm3,r1',Int.reduceMul,Int.reduceAdd,Int.toNat_zero,Int.reduceToNat,zI1,zI2,and_true,true_and,and_self,Jx,gt_iff_lt,wN,a1,a2,a4]
    rw[Y2,Z1 (on S _ _ [2,3,4,8,9] (by decide) rfl) rfl _ _ _ _ _ _ _ _ _ rfl]
    simp only[eG,go_sem,thq S,nbr S,zN0,zN1,zN2,zN3,zN4,zI0,zI1,zI2,zI3,reduceCtorEq,Z4 S]
    rw[e1 _ _ _ (by decide)]
    simp only[eG,go_sem,thq S,nbr S,zN0,zN1,zN2,zN3,zN4,zI0,zI1,zI2,zI3,reduceCtorEq,Z4 S]
    rw[Y2,Z1 (on S _ _ [2,3,4,8,10] (by decide) rfl) rfl _ _ _ _ _ _ _ _ _ rfl]
    simp only[eG,go_sem,thq S,nbr S,zN0,zN1,zN2,zN3,zN4,zI0,zI1,zI2,zI3,reduceCtorEq,Z4 S]
    rw[e2 _ _ _ (by decide)]
    simp only[eG,go_sem,thq S,nbr S,zN0,zN1,zN2,zN3,zN4,zI0,zI1,zI2,zI3,reduceCtorEq,Z4 S]
    rw[d0 _ _ rfl,d1 _ _ rfl,d2 _ _ rfl]
    simp only[eG,go_sem,thq S,nbr S,zN0,zN1,zN2,zN3,zN4,zI0,zI1,zI2,zI3,reduceCtorEq,Z4 S]
    rw[hl,hi,show rD (Md.make l).mems=rD ([⟨⟨#[109]⟩,false,1⟩]:List MemT) from congrArg rD hms]
    rfl
 ·skip
  by_cases a4:0<Md.iand (Md.shi (Md.kM l 1) 12) 3
  ·by_cases a5 : IntKind.i64.wrap ((Md.reg3 l (Md.widM l)).2.2 + Md.widM l) <= 3
   ·have hms : Md.memsM l (Md.widM l) = [⟨⟨#[115]⟩, true, 1⟩] := by simp [Md.memsM, Md.mem1, Md.w64', a1, a4, a5]
    have d0:∀ A i,A[i]? =some (.cells ((rC ([⟨⟨#[115]⟩,true,1⟩]:List MemT)).map .d) 0 false)->deep A 7 (.sref i 0 0 1 3 none)=some (.lst (rC ([⟨⟨#[115]⟩,true,1⟩]:List MemT)) 1 none,[i]):=fun A i h=>Q8 h (by simp) 5 _ 3 none rfl rfl
    have e1:=fun kx kr f hf=>Z2t S (dp+1) l kx kr (Md.nM l) ([⟨⟨#[115]⟩,true,1⟩]:List MemT) (Md.widM l) (Md.lowmod (Md.shi (Md.kM l 0) 1) 3+1) (Md.reg0 l (Md.widM l)).1 (Md.reg1 l (Md.widM l)).1 (Md.reg2 l (Md.widM l)).1 (Md.reg3 l (Md.widM l)).1 n0 n6 f hf
    have e2:=fun kx kr f hf=>Z2s S (dp+1) l kx kr (Md.nM l) ([⟨⟨#[115]⟩,true,1⟩]:List MemT) (Z1s (Md.nM l+1)) (Md.widM l) (Md.lowmod (Md.shi (Md.kM l 0) 1) 3+1) (Md.reg0 l (Md.widM l)).1 (Md.reg1 l (Md.widM l)).1 (Md.reg2 l (Md.widM l)).1 (Md.reg3 l (Md.widM l)).1 n0 n6 f hf
    simp only[Z20] at e2
    simp only[Zei,Zeh,List.length_cons,List.length_nil,zN2] at e1 e2
    simp only[eG,go_sem,thq S,nbr S,zN0,zN1,zN2,zN3,zN4,zI0,zI1,zI2,zI3,reduceCtorEq,Z4 S,Int.cast_ofNat_Int,l32,l1,Z4v,Y0,Zu,Zs,Ze S,Yy,sh1,sh8,Zqj,Zqi,sf1,sf8,sf10,sf12,lm3,r1',Int.reduceMul,Int.reduceAdd,Int.toNat_zero,Int.reduceToNat,zI1,zI2,and_true,true_and,and_self,Jx,gt_iff_lt,wN,a1,a4,a5]
    rw[Y2,Z1 (on S _ _ [2,3,4,8,9] (by decide) rfl) rfl _ _ _ _ _ _ _ _ _ rfl]
    simp only[eG,go_sem,thq S,nbr S,zN0,zN1,zN2,zN3,zN4,zI0,zI1,zI2,zI3,reduceCtorEq,Z4 S]
    rw[e1 _ _ _ (by decide)]
    simp only[eG,go_sem,thq S,nbr S,zN0,zN1,zN2,zN3,zN4,zI0,zI1,zI2,zI3,reduceCtorEq,Z4 S]
    rw[Y2,Z1 (on S _ _ [2,3,4,8,10] (by decide) rfl) rfl _ _ _ _ _ _ _ _ _ rfl]
    simp only[eG,go_sem,thq S,nbr S,zN0,zN1,zN2,zN3,zN4,zI0,zI1,zI2,zI3,reduceCtorEq,Z4 S]
    rw[e2 _ _ _ (by decide)]
    simp only[eG,go_sem,thq S,nbr S,zN0,zN1,zN2,zN3,zN4,zI0,zI1,zI2,zI3,reduceCtorEq,Z4 S]
    rw[d0 _ _ rfl,d1 _ _ rfl,d2 _ _ rfl]
    simp only[eG,go_sem,thq S,nbr S,zN0,zN1,zN2,zN3,zN4,zI0,zI1,zI2,zI3,reduceCtorEq,Z4 S]
    rw[hl,hi,show rD (Md.make l).mems=rD ([⟨⟨#[115]⟩,true,1⟩]:List MemT) from congrArg rD hms]
    rfl
   ·have hms : Md.memsM l (Md.widM l) = [] := by simp [Md.memsM, Md.mem1, Md.w64', a1, a4, a5]
    have e1:=fun kx kr f hf=>Zpc S (dp+1) l kx kr (Md.nM l) (Md.widM l) (Md.lowmod (Md.shi (Md.kM l 0) 1) 3+1) (Md.reg0 l (Md.widM l)).1 (Md.reg1 l (Md.widM l)).1 (Md.reg2 l (Md.widM l)).1 (Md.reg3 l (Md.widM l)).1 n0 n6 f hf
    have e2:=fun kx kr f hf=>Zpb S (dp+1) l kx kr (Md.nM l) (Z1s (Md.nM l+1)) (Md.widM l) (Md.lowmod (Md.shi (Md.kM l 0) 1) 3+1) (Md.reg0 l (Md.widM l)).1 (Md.reg1 l (Md.widM l)).1 (Md.reg2 l (Md.widM l)).1 (Md.reg3 l (Md.widM l)).1 n0 n6 f hf
    simp only[Z20] at e2
    simp only[eG,go_sem,thq S,nbr S,zN0,zN1,zN2,zN3,zN4,zI0,zI1,zI2,zI3,reduceCtorEq,Z4 S,Int.cast_ofNat_Int,l32,l1,Z4v,Y0,Zu,Zs,Ze S,Yy,sh1,sh8,Zqj,Zqi,sf1,sf8,sf10,sf12,lm3,r1',Int.reduceMul,Int.reduceAdd,Int.toNat_zero,Int.reduceToNat,zI1,zI2,and_true,true_and,and_self,Jx,gt_iff_lt,wN,a1,a4,a5]
    rw[Y2,Z1 (on S _ _ [2,3,4,8,9] (by decide) rfl) rfl _ _ _ _ _ _ _ _ _ rfl]
    simp only[eG,go_sem,thq S,nbr S,zN0,zN1,zN2,zN3,zN4,zI0,zI1,zI2,zI3,reduceCtorEq,Z4 S]
    rw[e1 _ _ _ (by decide)]
    simp only[eG,go_sem,thq S,nbr S,zN0,zN1,zN2,zN3,zN4,zI0,zI1,zI2,zI3,reduceCtorEq,Z4 S]
    rw[Y2,Z1 (on S _ _ [2,3,4,8,10] (by decide) rfl) rfl _ _ _ _ _ _ _ _ _ rfl]
    simp only[eG,go_sem,thq S,nbr S,zN0,zN1,zN2,zN3,zN4,zI0,zI1,zI2,zI3,reduceCtorEq,Z4 S]
    rw[e2 _ _ _ (by decide)]
    simp only[eG,go_sem,thq S,nbr S,zN0,zN1,zN2,zN3,zN4,zI0,zI1,zI2,zI3,reduceCtorEq,Z4 S]
    rw[d1 _ _ rfl,d2 _ _ rfl]
    simp only[eG,go_sem,thq S,nbr S,zN0,zN1,zN2,zN3,zN4,zI0,zI1,zI2,zI3,reduceCtorEq,Z4 S]
    rw[hl,hi,show rD (Md.make l).mems=rD ([]:List MemT) from congrArg rD hms]
    rfl
  ·have hms : Md.memsM l (Md.widM l) = [] := by simp [Md.memsM, Md.mem1, Md.w64', a1, a4]
   have e1:=fun kx kr f hf=>Zpc S (dp+1) l kx kr (Md.nM l) (Md.widM l) (Md.lowmod (Md.shi (Md.kM l 0) 1) 3+1) (Md.reg0 l (Md.widM l)).1 (Md.reg1 l (Md.widM l)).1 (Md.reg2 l (Md.widM l)).1 (Md.reg3 l (Md.widM l)).1 n0 n6 f hf
   have e2:=fun kx kr f hf=>Zpb S (dp+1) l kx kr (Md.nM l) (Z1s (Md.nM l+1)) (Md.widM l) (Md.lowmod (Md.shi (Md.kM l 0) 1) 3+1) (Md.reg0 l (Md.widM l)).1 (Md.reg1 l (Md.widM l)).1 (Md.reg2 l (Md.widM l)).1 (Md.reg3 l (Md.widM l)).1 n0 n6 f hf
   simp only[Z20] at e2
   simp only[eG,go_sem,thq S,nbr S,zN0,zN1,zN2,zN3,zN4,zI0,zI1,zI2,zI3,reduceCtorEq,Z4 S,Int.cast_ofNat_Int,l32,l1,Z4v,Y0,Zu,Zs,Ze S,Yy,sh1,sh8,Zqj,Zqi,sf1,sf8,sf10,sf12,lm3,r1',Int.reduceMul,Int.reduceAdd,Int.toNat_zero,Int.reduceToNat,zI1,zI2,and_true,true_and,and_self,Jx,gt_iff_lt,wN,a1,a4]
   rw[Y2,Z1 (on S _ _ [2,3,4,8,9] (by decide) rfl) rfl _ _ _ _ _ _ _ _ _ rfl]
   simp only[eG,go_sem,thq S,nbr S,zN0,zN1,zN2,zN3,zN4,zI0,zI1,zI2,zI3,reduceCtorEq,Z4 S]
   rw[e1 _ _ _ (by decide)]
   simp only[eG,go_sem,thq S,nbr S,zN0,zN1,zN2,zN3,zN4,zI0,zI1,zI2,zI3,reduceCtorEq,Z4 S]
   rw[Y2,Z1 (on S _ _ [2,3,4,8,10] (by decide) rfl) rfl _ _ _ _ _ _ _ _ _ rfl]
   simp only[eG,go_sem,thq S,nbr S,zN0,zN1,zN2,zN3,zN4,zI0,zI1,zI2,zI3,reduceCtorEq,Z4 S]
   rw[e2 _ _ _ (by decide)]
   simp only[eG,go_sem,thq S,nbr S,zN0,zN1,zN2,zN3,zN4,zI0,zI1,zI2,zI3,reduceCtorEq,Z4 S]
   rw[d1 _ _ rfl,d2 _ _ rfl]
   simp only[eG,go_sem,thq S,nbr S,zN0,zN1,zN2,zN3,zN4,zI0,zI1,zI2,zI3,reduceCtorEq,Z4 S]
   rw[hl,hi,show rD (Md.make l).mems=rD ([]:List MemT) from congrArg rD hms]
   rfl
theorem Zu2 (dp:Nat)(l:List Int)(A:List Blk)(nb:Nat):Zb false E (evC E fn (dp+4)) 13 A nb (some ([rD l],[]))=some (.made (.d (Zn (Md.make l))) []):=
 Zk.deep (Zmy S dp l ) (np S 13 (by decide)) A nb
end
set_option maxRecDepth 200000
theorem Zru (n:Int):((Md.valN n).reg=true->0<=(Md.valN n).n/\(Md.valN n).n<=3):=by
 obtain⟨r,h1,h2⟩:=Md.iand3 n
 intro _
 unfold Md.valN
 split<;>(simp only[h2];omega)
theorem Y1o:∀ k<18,1<=Md.k18.getD k 0/\Md.k18.getD k 0<=11:=by decide
theorem Zz1 (x:Int)(n:Nat):1<=(Md.insN x n).kind/\(Md.insN x n).kind<=12/\0<=(Md.insN x n).d/\(Md.insN x n).d<=3/\0<=(Md.insN x n).target/\(Md.insN x n).target<=n/\((Md.insN x n).a.reg=true->0<=(Md.insN x n).a.n/\(Md.insN x n).a.n<=3)/\((Md.insN x n).b.reg=true->0<=(Md.insN x n).b.n/\(Md.insN x n).b.n<=3):=by
 obtain⟨d,d1,d2⟩:=Md.iand3 (Md.shi x 14)
 have ht:=Md.lowmod_lt (Md.shi x 18) (show 0<n+1 by omega)
 have hk:=Y1o _ (Md.lowmod_lt x (show 0<18 by decide))
 have ha:=Zru (Md.shi x 8)
 have hb:=Zru (Md.shi x 11)
 have h0:(Md.v0).reg=true->0<=(Md.v0).n/\(Md.v0).n<=3:=fun h=>by cases h
 unfold Md.insN
 simp only
 generalize Md.k18.getD (Md.lowmod x 18) 0=k at hk
 rw[d2]
 split
 ·exact⟨(by show(1:Int)<=1;decide),(by show(1:Int)<=12;decide),by show(0:Int)<=d;omega,by show(d:Int)<=3;omega,Int.le_refl _,by show(0:Int)<=n;omega,ha,hb⟩
 split
 ·exact⟨hk.1,by show k<=12;omega,by show(0:Int)<=d;omega,by show(d:Int)<=3;omega,Int.le_refl _,by show(0:Int)<=n;omega,ha,hb⟩
 split
 ·exact⟨(by show(1:Int)<=5;decide),(by show(5:Int)<=12;decide),Int.le_refl _,(by show(0:Int)<=3;decide),by show(0:Int)<=(Md.lowmod (Md.shi x 18) (n+1):Nat);omega,by show((Md.lowmod (Md.shi x 18) (n+1):Nat):Int)<=n;omega,ha,hb⟩
 split
 ·exact⟨hk.1,by show k<=12;omega,Int.le_refl _,(by show(0:Int)<=3;decide),by show(0:Int)<=(Md.lowmod (Md.shi x 18) (n+1):Nat);omega,by show((Md.lowmod (Md.shi x 18) (n+1):Nat):Int)<=n;omega,h0,h0⟩
 split
 ·exact⟨(by show(1:Int)<=7;decide),(by show(7:Int)<=12;decide),Int.le_refl _,(by show(0:Int)<=3;decide),Int.le_refl _,by show(0:Int)<=n;omega,ha,h0⟩
 ·exact⟨hk.1,by show k<=12;omega,Int.le_refl _,(by show(0:Int)<=3;decide),Int.le_refl _,by show(0:Int)<=n;omega,h0,h0⟩
theorem Zyq (l:List Int):Md.Fine (Md.make l):=by
 have hn:=Y56 l
 have hl3:=Md.lowmod_lt (Md.shi (Md.kM l 0) 1) (show 0<3 by decide)
 have hlen:(Md.make l).ins.length=Md.nM l:=by show((List.range (Md.nM l)).map _).length=_;rw[List.length_map,List.length_range]
 refine⟨Y9x l,⟨?_,?_⟩,by omega,fun x hx=> ?_⟩
 ·show(1:Int)<=(Md.lowmod (Md.shi (Md.kM l 0) 1) 3:Nat)+1;omega
 ·show((Md.lowmod (Md.shi (Md.kM l 0) 1) 3:Nat):Int)+1<=3;omega
 ·have hx : x ∈ (List.range (Md.nM l)).map fun i : Nat => Md.insN (Md.kM l (i + 2)) (Md.nM l) := hx
  obtain⟨i,_,rfl⟩:=List.mem_map.1 hx
  have:=Zz1 (Md.kM l (i+2)) (Md.nM l)
  rw[hlen]
  exact this
theorem Zvk (l:List Int):Z5 (Md.make l).mems<=1000:=by
 have h:=(Z34 (Md.make l).mems).2
 have h2:(Md.make l).mems.length<=2:=by
  show(Md.memsM l (Md.widM l)).length<=2
  have h1:(Md.mem1 l (Md.widM l)).length<=1:=by unfold Md.mem1;split<;>simp
  unfold Md.memsM
  split
  ·rw[List.length_append,List.length_singleton];omega
  ·omega
 omega
theorem SOk.inv {N:Int}{p:Prog}(hp:Md.Fine p){s:State}(h:SOk N s):Md.Inv N p (Md.begin_ s):=Md.Inv.begin hp h.mem h.mv h.rg h.stk h.pc
end Go.Aug.Mc
namespace Go.Aug
open Go
set_option linter.unusedSimpArgs false
section
variable {α:Type} [Cl α] [Cl1 α]
theorem Zpy {A:List Blk}{s bytes j v:Nat}{out l2:List α}(hA:A[j]? =some (.cells ((rC out).map .d) v false))(hs:s=Cl.n α)(hp:0<Cl.n α)(h0:l2.length≠0)(h1:(out.length+l2.length)*bytes<=Zf)(h2:out.length+l2.length<=Zf):
  Qs A s bytes (.sref j v 0 out.length s none) ((rC l2).map .d) l2.length=some (.turn j (.cells ((rC (out++l2)).map .d) (v+1) false) (.sref j (v+1) 0 (out.length+l2.length) s none)):=by
 subst hs
 have e:(rC (out++l2)).map AV.d=(rC out).map .d++(rC l2).map .d:=by rw[Z2r,List.map_append]
 obtain⟨m,hm⟩:∃ m,l2.length=m+1:=⟨l2.length-1,by omega⟩
 rw[Z2l,if_neg h0,if_neg (by rw[Z45];simp;exact⟨by omega,by omega⟩),hA,e]
 have hl:((rC out).map AV.d).length=out.length*Cl.n α:=by rw[List.length_map,Yc]
 have hlt:¬0+(out.length+l2.length)*Cl.n α<=((rC out).map AV.d).length:=by
  rw[hl,hm,Nat.add_mul,Nat.add_mul];omega
 simp only[ne_eq,not_true_eq_false,false_or]
 rw[if_neg (by omega),if_neg (by simp),if_neg hlt]
 exact if_pos ⟨trivial,hl.symm⟩
end
end Go.Aug
namespace Go.Aug
open Go
set_option linter.unusedSimpArgs false
section
variable {α:Type} [Cl α] [Cl1 α]
theorem Zwp {A:List Blk}{s bytes j v:Nat}{out l2:List α}(hA:A[j]? =some (.cells ((rC out).map .d) v false))(hs:s=Cl.n α)(h0:l2.length≠0)(h1:(out.length+l2.length)*bytes<=Zf)(h2:out.length+l2.length<=Zf):
  Qs A s bytes (.sref j v 0 out.length s (some out.length)) ((rC l2).map .d) l2.length=some (.fresh ((rC (out++l2)).map .d) (out.length+l2.length)):=by
 subst hs
 have hl:((rC out).map AV.d).length=out.length*Cl.n α:=by rw[List.length_map,Yc]
 rw[Z2l,if_neg h0,if_neg (by rw[Z45];simp;exact⟨by omega,by omega⟩),hA]
 simp only[ne_eq,not_true_eq_false,false_or]
 rw[if_neg (by omega),if_pos (by omega)]
 rw[List.drop_zero,List.take_of_length_le (by omega),Z2r,List.map_append]
end
end Go.Aug
