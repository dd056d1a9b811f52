import Derived.Test.YtmfdoekbjkgckaaGreatMk5
import Derived.Test.YtmfdoekbjkgckaaGreatMc39
import Derived.Test.YtmfdoekbjkgckaaGreatMk3
import Derived.Test.YtmfdoekbjkgckaaGreatMc33
import Derived.Test.YtmfdoekbjkgckaaGreatMc12
namespace Go.Aug.Mc
open Go Go.Aug
open Nat renaming reduceLT -> zN0, reduceEqDiff -> zN1, reduceAdd -> zN2, reduceMul -> zN3, reduceLeDiff -> zN4
open Int renaming reduceEq -> zI0, reduceLT -> zI1, reduceLE -> zI2, reduceNeg -> zI3
set_option linter.unusedSimpArgs false
set_option linter.unusedVariables false
set_option maxHeartbeats 40000000
theorem H4 (m:MemT):(rC [m]).map AV.d=[.d (vt m.name),.d (vb m.secret),.d (vi m.n)]:=rfl
theorem H3 (m k:MemT):(rC [m,k]).map AV.d=[.d (vt m.name),.d (vb m.secret),.d (vi m.n),.d (vt k.name),.d (vb k.secret),.d (vi k.n)]:=rfl
theorem FC:32<=Z5:=by unfold Z5;decide
theorem FN (b0 b1 b2:Blk)(v:Nat)(a b c:DV)(nm:ByteArray)(s:Bool)(n:Int):
  Q0 [b0,b1,b2,.cells [.d a,.d b,.d c] v false] 3 32 (.sref 3 v 0 1 3 none) [.d (vt nm),.d (vb s),.d (vi n)] 1=some (.turn 3 (.cells [.d a,.d b,.d c,.d (vt nm),.d (vb s),.d (vi n)] (v+1) false) (.sref 3 (v+1) 0 2 3 none)):=by
 have hx:([AV.d (vt nm),AV.d (vb s),AV.d (vi n)]).all AV.one=true:=rfl
 rw[RK,if_neg (by decide),if_neg (by rw[hx];unfold Z5;simp)]
 simp
variable {E:Env} {fn:FuncId->Option (Env->cT->cT)}
section
variable (S:Sur E fn)
include S
theorem Y8:E.lives 8 1=none/\E.lives 8 23=none/\E.lives 8 27=none/\E.lives 8 31=none/\E.lives 8 35=none/\E.lives 8 39=none:=⟨off S 8 1 (by decide) rfl,off S 8 23 (by decide) rfl,off S 8 27 (by decide) rfl,off S 8 31 (by decide) rfl,off S 8 35 (by decide) rfl,off S 8 39 (by decide) rfl⟩
theorem Zhq (dp:Nat)(l:List Int):Z6 E fn (dp+4) 8 [rD l] (Zz (Md.make l)):=by
 unfold Z6
 show Zj (Z4 E fn (dp+3+1) 8 [.d (rD l)] [])=_
 rw[ZK,S.Z7u,ZM,Zd1,ZN _ _ _ _ _ _ _ _ rfl]
 have sf1:∀ x:Int,x.fdiv (2^min 1 64)=Md.ZZ x 1:=fun x=>by rw[Nat.min_eq_left (by decide)];rfl
 have sf8:∀ x:Int,x.fdiv (2^min 8 64)=Md.ZZ x 8:=fun x=>by rw[Nat.min_eq_left (by decide)];rfl
 have sf10:∀ x:Int,x.fdiv (2^min 10 64)=Md.ZZ x 10:=fun x=>by rw[Nat.min_eq_left (by decide)];rfl
 have sf12:∀ x:Int,x.fdiv (2^min 12 64)=Md.ZZ x 12:=fun x=>by rw[Nat.min_eq_left (by decide)];rfl
 have r1':∀ {α:Type} (l:List α),rep l 1=l:=fun l=>by simp[rep]
 have ww:IntKind.i64.wrap (Md.YP (Md.kM l 0) 1+1)=Md.Zq l:=by
  obtain⟨r,h1,h2⟩:=Md.Z73 (Md.kM l 0)
  unfold Md.Zq
  rw[h2];exact YY (by omega) (by omega)
 have wn:IntKind.i64.wrap (((Md.YV (Md.ZZ (Md.kM l 0) 1) 3:Nat):Int)+1)=(Md.YV (Md.ZZ (Md.kM l 0) 1) 3:Nat)+1:=by
  have:=Md.RE (Md.ZZ (Md.kM l 0) 1) (show 0<3 by decide)
  exact YY (by omega) (by omega)
 have wN:IntKind.i64.wrap (Md.YP (Md.ZZ (Md.kM l 0) 12) 3+2)=(Md.nM l:Nat):=by
  obtain⟨r,h1,h2⟩:=Md.MR (Md.ZZ (Md.kM l 0) 12)
  unfold Md.nM
  rw[h2,Int.toNat_natCast,YY (by omega) (by omega)];rfl
 have n6:Md.nM l<6:=by
  obtain⟨r,h1,h2⟩:=Md.MR (Md.ZZ (Md.kM l 0) 12)
  unfold Md.nM
  rw[h2,Int.toNat_natCast];omega
 have n0:0<Md.nM l:=by unfold Md.nM;omega
 simp only[eG,go_sem,Z3 S,Z2 S,zN0,zN1,zN2,zN3,zN4,zI0,zI1,zI2,zI3,reduceCtorEq,Y8 S,Int.cast_ofNat_Int,FC,l1,FN,QF,Qj,QG,QH S,QD,F5,EF,F4,F3,sf1,sf8,sf10,sf12,FB,r1',Int.reduceMul,Int.reduceAdd,Int.toNat_zero,Int.reduceToNat,zI1,zI2,and_true,true_and,and_self,BH,gt_iff_lt,ww,wn]
 rw[Y9,Z8 (on S _ _ [2,3,4,5,6,7] (by decide) rfl) rfl _ _ _ _ _ _ _ _ _ rfl]
 simp only[eG,go_sem,Z3 S,Z2 S,zN0,zN1,zN2,zN3,zN4,zI0,zI1,zI2,zI3,reduceCtorEq,Y8 S]
 rw[Znk S (dp+2) l _ _ _ (by decide)]
 have d1:∀ A i,A[i]? =some (.cells ((rC (JJ (Md.nM l+1))).map .d) 0 false)->deep A 7 (.sref i 0 0 (Md.nM l+1) 2 none)=some (.lst (rC (JJ (Md.nM l+1))) (Md.nM l+1) none,[i]):=
  fun A i h=>BQ h (fun e=>by have:=CK (Md.nM l+1);rw[e] at this;simp at this) 5 _ 2 none rfl (CK _).symm
 have d2:∀ A i,A[i]? =some (.cells ((rC (D1 l (Md.nM l) (Md.nM l))).map .d) 0 false)->deep A 7 (.sref i 0 0 (Md.nM l) 9 none)=some (.lst (rC (D1 l (Md.nM l) (Md.nM l))) (Md.nM l) none,[i]):=
  fun A i h=>BQ h (fun e=>by have:=P6 l (Md.nM l) (Md.nM l);rw[e] at this;simp at this;omega) 5 _ 9 none rfl (P6 _ _ _).symm
 have hl:rD (Md.make l).labels=.lst (rC (JJ (Md.nM l+1))) (Md.nM l+1) none:=by
  show DV.lst (rC (JJ (Md.nM l+1))) (JJ (Md.nM l+1)).length none=_
  rw[CK]
 have hi:rD (Md.make l).ins=.lst (rC (D1 l (Md.nM l) (Md.nM l))) (Md.nM l) none:=by
  show DV.lst (rC (D1 l (Md.nM l) (Md.nM l))) (D1 l (Md.nM l) (Md.nM l)).length none=_
  rw[P6]
 by_cases a1:0<Md.YP (Md.ZZ (Md.kM l 1) 8) 3
 ·by_cases a2 : Md.Zq l = 1
  ·by_cases a3 : Md.YP (Md.ZZ (Md.kM l 1) 10) 3 = 0
   ·skip
    by_cases a4:0<Md.YP (Md.ZZ (Md.kM l 1) 12) 3
    ·by_cases a5 : IntKind.i64.wrap ((Md.Jj l (Md.Zq l)).2.2 + Md.Zq l) <= 3
     ·have hms : Md.JA l (Md.Zq l) = [⟨⟨#[109]⟩, false, 2⟩] := by simp [Md.JA, Md.Bq, Md.QT, a1, eq_true a2, eq_true a3, a4, a5]
      have d0:∀ A i,A[i]? =some (.cells ((rC ([⟨⟨#[109]⟩,false,2⟩]:List MemT)).map .d) 0 false)->deep A 7 (.sref i 0 0 1 3 none)=some (.lst (rC ([⟨⟨#[109]⟩,false,2⟩]:List MemT)) 1 none,[i]):=fun A i h=>BQ h (by simp) 5 _ 3 none rfl rfl
      have e1:=fun kx kr f hf=>Hw S (dp+1) l kx kr (Md.nM l) ([⟨⟨#[109]⟩,false,2⟩]:List MemT) (Md.Zq l) (Md.YV (Md.ZZ (Md.kM l 0) 1) 3+1) (Md.JT l (Md.Zq l)).1 (Md.JS l (Md.Zq l)).1 (Md.JR l (Md.Zq l)).1 (Md.Jj l (Md.Zq l)).1 n0 n6 f hf
      have e2:=fun kx kr f hf=>Hz S (dp+1) l kx kr (Md.nM l) ([⟨⟨#[109]⟩,false,2⟩]:List MemT) (JJ (Md.nM l+1)) (Md.Zq l) (Md.YV (Md.ZZ (Md.kM l 0) 1) 3+1) (Md.JT l (Md.Zq l)).1 (Md.JS l (Md.Zq l)).1 (Md.JR l (Md.Zq l)).1 (Md.Jj l (Md.Zq l)).1 n0 n6 f hf
      simp only[CK] at e2
      simp only[H4,H3,List.length_cons,List.length_nil,zN2] at e1 e2
      simp only[eG,go_sem,Z3 S,Z2 S,zN0,zN1,zN2,zN3,zN4,zI0,zI1,zI2,zI3,reduceCtorEq,Y8 S,Int.cast_ofNat_Int,FC,l1,FN,QF,Qj,QG,QH S,QD,F5,EF,F4,F3,sf1,sf8,sf10,sf12,FB,r1',Int.reduceMul,Int.reduceAdd,Int.toNat_zero,Int.reduceToNat,zI1,zI2,and_true,true_and,and_self,BH,gt_iff_lt,wN,a1,eq_true a2,eq_true a3,a4,a5]
      rw[Y9,Z8 (on S _ _ [2,3,4,8,9] (by decide) rfl) rfl _ _ _ _ _ _ _ _ _ rfl]
      simp only[eG,go_sem,Z3 S,Z2 S,zN0,zN1,zN2,zN3,zN4,zI0,zI1,zI2,zI3,reduceCtorEq,Y8 S]
      rw[e1 _ _ _ (by decide)]
      simp only[eG,go_sem,Z3 S,Z2 S,zN0,zN1,zN2,zN3,zN4,zI0,zI1,zI2,zI3,reduceCtorEq,Y8 S]
      rw[Y9,Z8 (on S _ _ [2,3,4,8,10] (by decide) rfl) rfl _ _ _ _ _ _ _ _ _ rfl]
      simp only[eG,go_sem,Z3 S,Z2 S,zN0,zN1,zN2,zN3,zN4,zI0,zI1,zI2,zI3,reduceCtorEq,Y8 S]
      rw[e2 _ _ _ (by decide)]
      simp only[eG,go_sem,Z3 S,Z2 S,zN0,zN1,zN2,zN3,zN4,zI0,zI1,zI2,zI3,reduceCtorEq,Y8 S]
      rw[d0 _ _ rfl,d1 _ _ rfl,d2 _ _ rfl]
      simp only[eG,go_sem,Z3 S,Z2 S,zN0,zN1,zN2,zN3,zN4,zI0,zI1,zI2,zI3,reduceCtorEq,Y8 S]
      rw[hl,hi,show rD (Md.make l).mems=rD ([⟨⟨#[109]⟩,false,2⟩]:List MemT) from congrArg rD hms]
      rfl
     ·have hms : Md.JA l (Md.Zq l) = [⟨⟨#[109]⟩, false, 2⟩] := by simp [Md.JA, Md.Bq, Md.QT, a1, eq_true a2, eq_true a3, a4, a5]
      have d0:∀ A i,A[i]? =some (.cells ((rC ([⟨⟨#[109]⟩,false,2⟩]:List MemT)).map .d) 0 false)->deep A 7 (.sref i 0 0 1 3 none)=some (.lst (rC ([⟨⟨#[109]⟩,false,2⟩]:List MemT)) 1 none,[i]):=fun A i h=>BQ h (by simp) 5 _ 3 none rfl rfl
      have e1:=fun kx kr f hf=>Hw S (dp+1) l kx kr (Md.nM l) ([⟨⟨#[109]⟩,false,2⟩]:List MemT) (Md.Zq l) (Md.YV (Md.ZZ (Md.kM l 0) 1) 3+1) (Md.JT l (Md.Zq l)).1 (Md.JS l (Md.Zq l)).1 (Md.JR l (Md.Zq l)).1 (Md.Jj l (Md.Zq l)).1 n0 n6 f hf
      have e2:=fun kx kr f hf=>Hz S (dp+1) l kx kr (Md.nM l) ([⟨⟨#[109]⟩,false,2⟩]:List MemT) (JJ (Md.nM l+1)) (Md.Zq l) (Md.YV (Md.ZZ (Md.kM l 0) 1) 3+1) (Md.JT l (Md.Zq l)).1 (Md.JS l (Md.Zq l)).1 (Md.JR l (Md.Zq l)).1 (Md.Jj l (Md.Zq l)).1 n0 n6 f hf
      simp only[CK] at e2
      simp only[H4,H3,List.length_cons,List.length_nil,zN2] at e1 e2
      simp only[eG,go_sem,Z3 S,Z2 S,zN0,zN1,zN2,zN3,zN4,zI0,zI1,zI2,zI3,reduceCtorEq,Y8 S,Int.cast_ofNat_Int,FC,l1,FN,QF,Qj,QG,QH S,QD,F5,EF,F4,F3,sf1,sf8,sf10,sf12,FB,r1',Int.reduceMul,Int.reduceAdd,Int.toNat_zero,Int.reduceToNat,zI1,zI2,and_true,true_and,and_self,BH,gt_iff_lt,wN,a1,eq_true a2,eq_true a3,a4,a5]
      rw[Y9,Z8 (on S _ _ [2,3,4,8,9] (by decide) rfl) rfl _ _ _ _ _ _ _ _ _ rfl]
      simp only[eG,go_sem,Z3 S,Z2 S,zN0,zN1,zN2,zN3,zN4,zI0,zI1,zI2,zI3,reduceCtorEq,Y8 S]
      rw[e1 _ _ _ (by decide)]
      simp only[eG,go_sem,Z3 S,Z2 S,zN0,zN1,zN2,zN3,zN4,zI0,zI1,zI2,zI3,reduceCtorEq,Y8 S]
      rw[Y9,Z8 (on S _ _ [2,3,4,8,10] (by decide) rfl) rfl _ _ _ _ _ _ _ _ _ rfl]
      simp only[eG,go_sem,Z3 S,Z2 S,zN0,zN1,zN2,zN3,zN4,zI0,zI1,zI2,zI3,reduceCtorEq,Y8 S]
      rw[e2 _ _ _ (by decide)]
      simp only[eG,go_sem,Z3 S,Z2 S,zN0,zN1,zN2,zN3,zN4,zI0,zI1,zI2,zI3,reduceCtorEq,Y8 S]
      rw[d0 _ _ rfl,d1 _ _ rfl,d2 _ _ rfl]
      simp only[eG,go_sem,Z3 S,Z2 S,zN0,zN1,zN2,zN3,zN4,zI0,zI1,zI2,zI3,reduceCtorEq,Y8 S]
      rw[hl,hi,show rD (Md.make l).mems=rD ([⟨⟨#[109]⟩,false,2⟩]:List MemT) from congrArg rD hms]
      rfl
    ·have hms : Md.JA l (Md.Zq l) = [⟨⟨#[109]⟩, false, 2⟩] := by simp [Md.JA, Md.Bq, Md.QT, a1, eq_true a2, eq_true a3, a4]
     have d0:∀ A i,A[i]? =some (.cells ((rC ([⟨⟨#[109]⟩,false,2⟩]:List MemT)).map .d) 0 false)->deep A 7 (.sref i 0 0 1 3 none)=some (.lst (rC ([⟨⟨#[109]⟩,false,2⟩]:List MemT)) 1 none,[i]):=fun A i h=>BQ h (by simp) 5 _ 3 none rfl rfl
     have e1:=fun kx kr f hf=>Hw S (dp+1) l kx kr (Md.nM l) ([⟨⟨#[109]⟩,false,2⟩]:List MemT) (Md.Zq l) (Md.YV (Md.ZZ (Md.kM l 0) 1) 3+1) (Md.JT l (Md.Zq l)).1 (Md.JS l (Md.Zq l)).1 (Md.JR l (Md.Zq l)).1 (Md.Jj l (Md.Zq l)).1 n0 n6 f hf
     have e2:=fun kx kr f hf=>Hz S (dp+1) l kx kr (Md.nM l) ([⟨⟨#[109]⟩,false,2⟩]:List MemT) (JJ (Md.nM l+1)) (Md.Zq l) (Md.YV (Md.ZZ (Md.kM l 0) 1) 3+1) (Md.JT l (Md.Zq l)).1 (Md.JS l (Md.Zq l)).1 (Md.JR l (Md.Zq l)).1 (Md.Jj l (Md.Zq l)).1 n0 n6 f hf
     simp only[CK] at e2
     simp only[H4,H3,List.length_cons,List.length_nil,zN2] at e1 e2
     simp only[eG,go_sem,Z3 S,Z2 S,zN0,zN1,zN2,zN3,zN4,zI0,zI1,zI2,zI3,reduceCtorEq,Y8 S,Int.cast_ofNat_Int,FC,l1,FN,QF,Qj,QG,QH S,QD,F5,EF,F4,F3,sf1,sf8,sf10,sf12,FB,r1',Int.reduceMul,Int.reduceAdd,Int.toNat_zero,Int.reduceToNat,zI1,zI2,and_true,true_and,and_self,BH,gt_iff_lt,wN,a1,eq_true a2,eq_true a3,a4]
     rw[Y9,Z8 (on S _ _ [2,3,4,8,9] (by decide) rfl) rfl _ _ _ _ _ _ _ _ _ rfl]
     simp only[eG,go_sem,Z3 S,Z2 S,zN0,zN1,zN2,zN3,zN4,zI0,zI1,zI2,zI3,reduceCtorEq,Y8 S]
     rw[e1 _ _ _ (by decide)]
     simp only[eG,go_sem,Z3 S,Z2 S,zN0,zN1,zN2,zN3,zN4,zI0,zI1,zI2,zI3,reduceCtorEq,Y8 S]
     rw[Y9,Z8 (on S _ _ [2,3,4,8,10] (by decide) rfl) rfl _ _ _ _ _ _ _ _ _ rfl]
     simp only[eG,go_sem,Z3 S,Z2 S,zN0,zN1,zN2,zN3,zN4,zI0,zI1,zI2,zI3,reduceCtorEq,Y8 S]
     rw[e2 _ _ _ (by decide)]
     simp only[eG,go_sem,Z3 S,Z2 S,zN0,zN1,zN2,zN3,zN4,zI0,zI1,zI2,zI3,reduceCtorEq,Y8 S]
     rw[d0 _ _ rfl,d1 _ _ rfl,d2 _ _ rfl]
     simp only[eG,go_sem,Z3 S,Z2 S,zN0,zN1,zN2,zN3,zN4,zI0,zI1,zI2,zI3,reduceCtorEq,Y8 S]
     rw[hl,hi,show rD (Md.make l).mems=rD ([⟨⟨#[109]⟩,false,2⟩]:List MemT) from congrArg rD hms]
     rfl
   ·skip
    by_cases a4:0<Md.YP (Md.ZZ (Md.kM l 1) 12) 3
    ·by_cases a5 : IntKind.i64.wrap ((Md.Jj l (Md.Zq l)).2.2 + Md.Zq l) <= 3
     ·have hms : Md.JA l (Md.Zq l) = [⟨⟨#[109]⟩, false, 1⟩, ⟨⟨#[115]⟩, true, 1⟩] := by simp [Md.JA, Md.Bq, Md.QT, a1, eq_true a2, a3, a4, a5]
      have d0:∀ A i,A[i]? =some (.cells ((rC ([⟨⟨#[109]⟩,false,1⟩,⟨⟨#[115]⟩,true,1⟩]:List MemT)).map .d) 0 false)->deep A 7 (.sref i 0 0 2 3 none)=some (.lst (rC ([⟨⟨#[109]⟩,false,1⟩,⟨⟨#[115]⟩,true,1⟩]:List MemT)) 2 none,[i]):=fun A i h=>BQ h (by simp) 5 _ 3 none rfl rfl
      have e1:=fun kx kr f hf=>Hw S (dp+1) l kx kr (Md.nM l) ([⟨⟨#[109]⟩,false,1⟩,⟨⟨#[115]⟩,true,1⟩]:List MemT) (Md.Zq l) (Md.YV (Md.ZZ (Md.kM l 0) 1) 3+1) (Md.JT l (Md.Zq l)).1 (Md.JS l (Md.Zq l)).1 (Md.JR l (Md.Zq l)).1 (Md.Jj l (Md.Zq l)).1 n0 n6 f hf
      have e2:=fun kx kr f hf=>Hz S (dp+1) l kx kr (Md.nM l) ([⟨⟨#[109]⟩,false,1⟩,⟨⟨#[115]⟩,true,1⟩]:List MemT) (JJ (Md.nM l+1)) (Md.Zq l) (Md.YV (Md.ZZ (Md.kM l 0) 1) 3+1) (Md.JT l (Md.Zq l)).1 (Md.JS l (Md.Zq l)).1 (Md.JR l (Md.Zq l)).1 (Md.Jj l (Md.Zq l)).1 n0 n6 f hf
      simp only[CK] at e2
      simp only[H4,H3,List.length_cons,List.length_nil,zN2] at e1 e2
      simp only[eG,go_sem,Z3 S,Z2 S,zN0,zN1,zN2,zN3,zN4,zI0,zI1,zI2,zI3,reduceCtorEq,Y8 S,Int.cast_ofNat_Int,FC,l1,FN,QF,Qj,QG,QH S,QD,F5,EF,F4,F3,sf1,sf8,sf10,sf12,FB,r1',Int.reduceMul,Int.reduceAdd,Int.toNat_zero,Int.reduceToNat,zI1,zI2,and_true,true_and,and_self,BH,gt_iff_lt,wN,a1,eq_true a2,a3,a4,a5]
      rw[Y9,Z8 (on S _ _ [2,3,4,8,9] (by decide) rfl) rfl _ _ _ _ _ _ _ _ _ rfl]
      simp only[eG,go_sem,Z3 S,Z2 S,zN0,zN1,zN2,zN3,zN4,zI0,zI1,zI2,zI3,reduceCtorEq,Y8 S]
      rw[e1 _ _ _ (by decide)]
      simp only[eG,go_sem,Z3 S,Z2 S,zN0,zN1,zN2,zN3,zN4,zI0,zI1,zI2,zI3,reduceCtorEq,Y8 S]
      rw[Y9,Z8 (on S _ _ [2,3,4,8,10] (by decide) rfl) rfl _ _ _ _ _ _ _ _ _ rfl]
      simp only[eG,go_sem,Z3 S,Z2 S,zN0,zN1,zN2,zN3,zN4,zI0,zI1,zI2,zI3,reduceCtorEq,Y8 S]
      rw[e2 _ _ _ (by decide)]
      simp only[eG,go_sem,Z3 S,Z2 S,zN0,zN1,zN2,zN3,zN4,zI0,zI1,zI2,zI3,reduceCtorEq,Y8 S]
      rw[d0 _ _ rfl,d1 _ _ rfl,d2 _ _ rfl]
      simp only[eG,go_sem,Z3 S,Z2 S,zN0,zN1,zN2,zN3,zN4,zI0,zI1,zI2,zI3,reduceCtorEq,Y8 S]
      rw[hl,hi,show rD (Md.make l).mems=rD ([⟨⟨#[109]⟩,false,1⟩,⟨⟨#[115]⟩,true,1⟩]:List MemT) from congrArg rD hms]
      rfl
     ·have hms : Md.JA l (Md.Zq l) = [⟨⟨#[109]⟩, false, 1⟩] := by simp [Md.JA, Md.Bq, Md.QT, a1, eq_true a2, a3, a4, a5]
      have d0:∀ A i,A[i]? =some (.cells ((rC ([⟨⟨#[109]⟩,false,1⟩]:List MemT)).map .d) 0 false)->deep A 7 (.sref i 0 0 1 3 none)=some (.lst (rC ([⟨⟨#[109]⟩,false,1⟩]:List MemT)) 1 none,[i]):=fun A i h=>BQ h (by simp) 5 _ 3 none rfl rfl
      have e1:=fun kx kr f hf=>Hw S (dp+1) l kx kr (Md.nM l) ([⟨⟨#[109]⟩,false,1⟩]:List MemT) (Md.Zq l) (Md.YV (Md.ZZ (Md.kM l 0) 1) 3+1) (Md.JT l (Md.Zq l)).1 (Md.JS l (Md.Zq l)).1 (Md.JR l (Md.Zq l)).1 (Md.Jj l (Md.Zq l)).1 n0 n6 f hf
      have e2:=fun kx kr f hf=>Hz S (dp+1) l kx kr (Md.nM l) ([⟨⟨#[109]⟩,false,1⟩]:List MemT) (JJ (Md.nM l+1)) (Md.Zq l) (Md.YV (Md.ZZ (Md.kM l 0) 1) 3+1) (Md.JT l (Md.Zq l)).1 (Md.JS l (Md.Zq l)).1 (Md.JR l (Md.Zq l)).1 (Md.Jj l (Md.Zq l)).1 n0 n6 f hf
      simp only[CK] at e2
      simp only[H4,H3,List.length_cons,List.length_nil,zN2] at e1 e2
      simp only[eG,go_sem,Z3 S,Z2 S,zN0,zN1,zN2,zN3,zN4,zI0,zI1,zI2,zI3,reduceCtorEq,Y8 S,Int.cast_ofNat_Int,FC,l1,FN,QF,Qj,QG,QH S,QD,F5,EF,F4,F3,sf1,sf8,sf10,sf12,FB,r1',Int.reduceMul,Int.reduceAdd,Int.toNat_zero,Int.reduceToNat,zI1,zI2,and_true,true_and,and_self,BH,gt_iff_lt,wN,a1,eq_true a2,a3,a4,a5]
      rw[Y9,Z8 (on S _ _ [2,3,4,8,9] (by decide) rfl) rfl _ _ _ _ _ _ _ _ _ rfl]
      simp only[eG,go_sem,Z3 S,Z2 S,zN0,zN1,zN2,zN3,zN4,zI0,zI1,zI2,zI3,reduceCtorEq,Y8 S]
      rw[e1 _ _ _ (by decide)]
      simp only[eG,go_sem,Z3 S,Z2 S,zN0,zN1,zN2,zN3,zN4,zI0,zI1,zI2,zI3,reduceCtorEq,Y8 S]
      rw[Y9,Z8 (on S _ _ [2,3,4,8,10] (by decide) rfl) rfl _ _ _ _ _ _ _ _ _ rfl]
      simp only[eG,go_sem,Z3 S,Z2 S,zN0,zN1,zN2,zN3,zN4,zI0,zI1,zI2,zI3,reduceCtorEq,Y8 S]
      rw[e2 _ _ _ (by decide)]
      simp only[eG,go_sem,Z3 S,Z2 S,zN0,zN1,zN2,zN3,zN4,zI0,zI1,zI2,zI3,reduceCtorEq,Y8 S]
      rw[d0 _ _ rfl,d1 _ _ rfl,d2 _ _ rfl]
      simp only[eG,go_sem,Z3 S,Z2 S,zN0,zN1,zN2,zN3,zN4,zI0,zI1,zI2,zI3,reduceCtorEq,Y8 S]
      rw[hl,hi,show rD (Md.make l).mems=rD ([⟨⟨#[109]⟩,false,1⟩]:List MemT) from congrArg rD hms]
      rfl
    ·have hms : Md.JA l (Md.Zq l) = [⟨⟨#[109]⟩, false, 1⟩] := by simp [Md.JA, Md.Bq, Md.QT, a1, eq_true a2, a3, a4]
     have d0:∀ A i,A[i]? =some (.cells ((rC ([⟨⟨#[109]⟩,false,1⟩]:List MemT)).map .d) 0 false)->deep A 7 (.sref i 0 0 1 3 none)=some (.lst (rC ([⟨⟨#[109]⟩,false,1⟩]:List MemT)) 1 none,[i]):=fun A i h=>BQ h (by simp) 5 _ 3 none rfl rfl
     have e1:=fun kx kr f hf=>Hw S (dp+1) l kx kr (Md.nM l) ([⟨⟨#[109]⟩,false,1⟩]:List MemT) (Md.Zq l) (Md.YV (Md.ZZ (Md.kM l 0) 1) 3+1) (Md.JT l (Md.Zq l)).1 (Md.JS l (Md.Zq l)).1 (Md.JR l (Md.Zq l)).1 (Md.Jj l (Md.Zq l)).1 n0 n6 f hf
     have e2:=fun kx kr f hf=>Hz S (dp+1) l kx kr (Md.nM l) ([⟨⟨#[109]⟩,false,1⟩]:List MemT) (JJ (Md.nM l+1)) (Md.Zq l) (Md.YV (Md.ZZ (Md.kM l 0) 1) 3+1) (Md.JT l (Md.Zq l)).1 (Md.JS l (Md.Zq l)).1 (Md.JR l (Md.Zq l)).1 (Md.Jj l (Md.Zq l)).1 n0 n6 f hf
     simp only[CK] at e2
     simp only[H4,H3,List.length_cons,List.length_nil,zN2] at e1 e2
     simp only[eG,go_sem,Z3 S,Z2 S,zN0,zN1,zN2,zN3,zN4,zI0,zI1,zI2,zI3,reduceCtorEq,Y8 S,Int.cast_ofNat_Int,FC,l1,FN,QF,Qj,QG,QH S,QD,F5,EF,F4,F3,sf1,sf8,sf10,sf12,FB,r1',Int.reduceMul,Int.reduceAdd,Int.toNat_zero,Int.reduceToNat,zI1,zI2,and_true,true_and,and_self,BH,gt_iff_lt,wN,a1,eq_true a2,a3,a4]
     rw[Y9,Z8 (on S _ _ [2,3,4,8,9] (by decide) rfl) rfl _ _ _ _ _ _ _ _ _ rfl]
     simp only[eG,go_sem,Z3 S,Z2 S,zN0,zN1,zN2,zN3,zN4,zI0,zI1,zI2,zI3,reduceCtorEq,Y8 S]
     rw[e1 _ _ _ (by decide)]
     simp only[eG,go_sem,Z3 S,Z2 S,zN0,zN1,zN2,zN3,zN4,zI0,zI1,zI2,zI3,reduceCtorEq,Y8 S]
     rw[Y9,Z8 (on S _ _ [2,3,4,8,10] (by decide) rfl) rfl _ _ _ _ _ _ _ _ _ rfl]
     simp only[eG,go_sem,Z3 S,Z2 S,zN0,zN1,zN2,zN3,zN4,zI0,zI1,zI2,zI3,reduceCtorEq,Y8 S]
     rw[e2 _ _ _ (by decide)]
     simp only[eG,go_sem,Z3 S,Z2 S,zN0,zN1,zN2,zN3,zN4,zI0,zI1,zI2,zI3,reduceCtorEq,Y8 S]
     rw[d0 _ _ rfl,d1 _ _ rfl,d2 _ _ rfl]
     simp only[eG,go_sem,Z3 S,Z2 S,zN0,zN1,zN2,zN3,zN4,zI0,zI1,zI2,zI3,reduceCtorEq,Y8 S]
     rw[hl,hi,show rD (Md.make l).mems=rD ([⟨⟨#[109]⟩,false,1⟩]:List MemT) from congrArg rD hms]
     rfl
  ·skip
   by_cases a4:0<Md.YP (Md.ZZ (Md.kM l 1) 12) 3
   ·by_cases a5 : IntKind.i64.wrap ((Md.Jj l (Md.Zq l)).2.2 + Md.Zq l) <= 3
    ·have hms : Md.JA l (Md.Zq l) = [⟨⟨#[109]⟩, false, 1⟩, ⟨⟨#[115]⟩, true, 1⟩] := by simp [Md.JA, Md.Bq, Md.QT, a1, a2, a4, a5]
     have d0:∀ A i,A[i]? =some (.cells ((rC ([⟨⟨#[109]⟩,false,1⟩,⟨⟨#[115]⟩,true,1⟩]:List MemT)).map .d) 0 false)->deep A 7 (.sref i 0 0 2 3 none)=some (.lst (rC ([⟨⟨#[109]⟩,false,1⟩,⟨⟨#[115]⟩,true,1⟩]:List MemT)) 2 none,[i]):=fun A i h=>BQ h (by simp) 5 _ 3 none rfl rfl
     have e1:=fun kx kr f hf=>Hw S (dp+1) l kx kr (Md.nM l) ([⟨⟨#[109]⟩,false,1⟩,⟨⟨#[115]⟩,true,1⟩]:List MemT) (Md.Zq l) (Md.YV (Md.ZZ (Md.kM l 0) 1) 3+1) (Md.JT l (Md.Zq l)).1 (Md.JS l (Md.Zq l)).1 (Md.JR l (Md.Zq l)).1 (Md.Jj l (Md.Zq l)).1 n0 n6 f hf
     have e2:=fun kx kr f hf=>Hz S (dp+1) l kx kr (Md.nM l) ([⟨⟨#[109]⟩,false,1⟩,⟨⟨#[115]⟩,true,1⟩]:List MemT) (JJ (Md.nM l+1)) (Md.Zq l) (Md.YV (Md.ZZ (Md.kM l 0) 1) 3+1) (Md.JT l (Md.Zq l)).1 (Md.JS l (Md.Zq l)).1 (Md.JR l (Md.Zq l)).1 (Md.Jj l (Md.Zq l)).1 n0 n6 f hf
     simp only[CK] at e2
     simp only[H4,H3,List.length_cons,List.length_nil,zN2] at e1 e2
     simp only[eG,go_sem,Z3 S,Z2 S,zN0,zN1,zN2,zN3,zN4,zI0,zI1,zI2,zI3,reduceCtorEq,Y8 S,Int.cast_ofNat_Int,FC,l1,FN,QF,Qj,QG,QH S,QD,F5,EF,F4,F3,sf1,sf8,sf10,sf12,FB,r1',Int.reduceMul,Int.reduceAdd,Int.toNat_zero,Int.reduceToNat,zI1,zI2,and_true,true_and,and_self,BH,gt_iff_lt,wN,a1,a2,a4,a5]
     rw[Y9,Z8 (on S _ _ [2,3,4,8,9] (by decide) rfl) rfl _ _ _ _ _ _ _ _ _ rfl]
     simp only[eG,go_sem,Z3 S,Z2 S,zN0,zN1,zN2,zN3,zN4,zI0,zI1,zI2,zI3,reduceCtorEq,Y8 S]
     rw[e1 _ _ _ (by decide)]
     simp only[eG,go_sem,Z3 S,Z2 S,zN0,zN1,zN2,zN3,zN4,zI0,zI1,zI2,zI3,reduceCtorEq,Y8 S]
     rw[Y9,Z8 (on S _ _ [2,3,4,8,10] (by decide) rfl) rfl _ _ _ _ _ _ _ _ _ rfl]
     simp only[eG,go_sem,Z3 S,Z2 S,zN0,zN1,zN2,zN3,zN4,zI0,zI1,zI2,zI3,reduceCtorEq,Y8 S]
     rw[e2 _ _ _ (by decide)]
     simp only[eG,go_sem,Z3 S,Z2 S,zN0,zN1,zN2,zN3,zN4,zI0,zI1,zI2,zI3,reduceCtorEq,Y8 S]
     rw[d0 _ _ rfl,d1 _ _ rfl,d2 _ _ rfl]
     simp only[eG,go_sem,Z3 S,Z2 S,zN0,zN1,zN2,zN3,zN4,zI0,zI1,zI2,zI3,reduceCtorEq,Y8 S]
     rw[hl,hi,show rD (Md.make l).mems=rD ([⟨⟨#[109]⟩,false,1⟩,⟨⟨#[115]⟩,true,1⟩]:List MemT) from congrArg rD hms]
     rfl
    ·have hms : Md.JA l (Md.Zq l) = [⟨⟨#[109]⟩, false, 1⟩] := by simp [Md.JA, Md.Bq, Md.QT, a1, a2, a4, a5]
     have d0:∀ A i,A[i]? =some (.cells ((rC ([⟨⟨#[109]⟩,false,1⟩]:List MemT)).map .d) 0 false)->deep A 7 (.sref i 0 0 1 3 none)=some (.lst (rC ([⟨⟨#[109]⟩,false,1⟩]:List MemT)) 1 none,[i]):=fun A i h=>BQ h (by simp) 5 _ 3 none rfl rfl
     have e1:=fun kx kr f hf=>Hw S (dp+1) l kx kr (Md.nM l) ([⟨⟨#[109]⟩,false,1⟩]:List MemT) (Md.Zq l) (Md.YV (Md.ZZ (Md.kM l 0) 1) 3+1) (Md.JT l (Md.Zq l)).1 (Md.JS l (Md.Zq l)).1 (Md.JR l (Md.Zq l)).1 (Md.Jj l (Md.Zq l)).1 n0 n6 f hf
     have e2:=fun kx kr f hf=>Hz S (dp+1) l kx kr (Md.nM l) ([⟨⟨#[109]⟩,false,1⟩]:List MemT) (JJ (Md.nM l+1)) (Md.Zq l) (Md.YV (Md.ZZ (Md.kM l 0) 1) 3+1) (Md.JT l (Md.Zq l)).1 (Md.JS l (Md.Zq l)).1 (Md.JR l (Md.Zq l)).1 (Md.Jj l (Md.Zq l)).1 n0 n6 f hf
     simp only[CK] at e2
     simp only[H4,H3,List.length_cons,List.length_nil,zN2] at e1 e2
     simp only[eG,go_sem,Z3 S,Z2 S,zN0,zN1,zN2,zN3,zN4,zI0,zI1,zI2,zI3,reduceCtorEq,Y8 S,Int.cast_ofNat_Int,FC,l1,FN,QF,Qj,QG,QH S,QD,F5,EF,F4,F3,sf1,sf8,sf10,sf12,FB,r1',Int.reduceMul,Int.reduceAdd,Int.toNat_zero,Int.reduceToNat,zI1,zI2,and_true,true_and,and_self,BH,gt_iff_lt,wN,a1,a2,a4,a5]
     rw[Y9,Z8 (on S _ _ [2,3,4,8,9] (by decide) rfl) rfl _ _ _ _ _ _ _ _ _ rfl]
     simp only[eG,go_sem,Z3 S,Z2 S,zN0,zN1,zN2,zN3,zN4,zI0,zI1,zI2,zI3,reduceCtorEq,Y8 S]
     rw[e1 _ _ _ (by decide)]
     simp only[eG,go_sem,Z3 S,Z2 S,zN0,zN1,zN2,zN3,zN4,zI0,zI1,zI2,zI3,reduceCtorEq,Y8 S]
     rw[Y9,Z8 (on S _ _ [2,3,4,8,10] (by decide) rfl) rfl _ _ _ _ _ _ _ _ _ rfl]
     simp only[eG,go_sem,Z3 S,Z2 S,zN0,zN1,zN2,zN3,zN4,zI0,zI1,zI2,zI3,reduceCtorEq,Y8 S]
     rw[e2 _ _ _ (by decide)]
     simp only[eG,go_sem,Z3 S,Z2 S,zN0,zN1,zN2,zN3,zN4,zI0,zI1,zI2,zI3,reduceCtorEq,Y8 S]
     rw[d0 _ _ rfl,d1 _ _ rfl,d2 _ _ rfl]
     simp only[eG,go_sem,Z3 S,Z2 S,zN0,zN1,zN2,zN3,zN4,zI0,zI1,zI2,zI3,reduceCtorEq,Y8 S]
     rw[hl,hi,show rD (Md.make l).mems=rD ([⟨⟨#[109]⟩,false,1⟩]:List MemT) from congrArg rD hms]
     rfl
   ·have hms : Md.JA l (Md.Zq l) = [⟨⟨#[109]⟩, false, 1⟩] := by simp [Md.JA, Md.Bq, Md.QT, a1, a2, a4]
    have d0:∀ A i,A[i]? =some (.cells ((rC ([⟨⟨#[109]⟩,false,1⟩]:List MemT)).map .d) 0 false)->deep A 7 (.sref i 0 0 1 3 none)=some (.lst (rC ([⟨⟨#[109]⟩,false,1⟩]:List MemT)) 1 none,[i]):=fun A i h=>BQ h (by simp) 5 _ 3 none rfl rfl
    have e1:=fun kx kr f hf=>Hw S (dp+1) l kx kr (Md.nM l) ([⟨⟨#[109]⟩,false,1⟩]:List MemT) (Md.Zq l) (Md.YV (Md.ZZ (Md.kM l 0) 1) 3+1) (Md.JT l (Md.Zq l)).1 (Md.JS l (Md.Zq l)).1 (Md.JR l (Md.Zq l)).1 (Md.Jj l (Md.Zq l)).1 n0 n6 f hf
    have e2:=fun kx kr f hf=>Hz S (dp+1) l kx kr (Md.nM l) ([⟨⟨#[109]⟩,false,1⟩]:List MemT) (JJ (Md.nM l+1)) (Md.Zq l) (Md.YV (Md.ZZ (Md.kM l 0) 1) 3+1) (Md.JT l (Md.Zq l)).1 (Md.JS l (Md.Zq l)).1 (Md.JR l (Md.Zq l)).1 (Md.Jj l (Md.Zq l)).1 n0 n6 f hf
    simp only[CK] at e2
    simp only[H4,H3,List.length_cons,List.length_nil,zN2] at e1 e2
    simp only[eG,go_sem,Z3 S,Z2 S,zN0,zN1,zN2,zN3,zN4,zI0,zI1,zI2,zI3,reduceCtorEq,Y8 S,Int.cast_ofNat_Int,FC,l1,FN,QF,Qj,QG,QH S,QD,F5,EF,F4,F3,sf1,sf8,sf10,sf12,FB,r1',Int.reduceMul,Int.reduceAdd,Int.toNat_zero,Int.reduceToNat,zI1,zI2,and_true,true_and,and_self,BH,gt_iff_lt,wN,a1,a2,a4]
    rw[Y9,Z8 (on S _ _ [2,3,4,8,9] (by decide) rfl) rfl _ _ _ _ _ _ _ _ _ rfl]
    simp only[eG,go_sem,Z3 S,Z2 S,zN0,zN1,zN2,zN3,zN4,zI0,zI1,zI2,zI3,reduceCtorEq,Y8 S]
    rw[e1 _ _ _ (by decide)]
    simp only[eG,go_sem,Z3 S,Z2 S,zN0,zN1,zN2,zN3,zN4,zI0,zI1,zI2,zI3,reduceCtorEq,Y8 S]
    rw[Y9,Z8 (on S _ _ [2,3,4,8,10] (by decide) rfl) rfl _ _ _ _ _ _ _ _ _ rfl]
    simp only[eG,go_sem,Z3 S,Z2 S,zN0,zN1,zN2,zN3,zN4,zI0,zI1,zI2,zI3,reduceCtorEq,Y8 S]
    rw[e2 _ _ _ (by decide)]
    simp only[eG,go_sem,Z3 S,Z2 S,zN0,zN1,zN2,zN3,zN4,zI0,zI1,zI2,zI3,reduceCtorEq,Y8 S]
    rw[d0 _ _ rfl,d1 _ _ rfl,d2 _ _ rfl]
    simp only[eG,go_sem,Z3 S,Z2 S,zN0,zN1,zN2,zN3,zN4,zI0,zI1,zI2,zI3,reduceCtorEq,Y8 S]
    rw[hl,hi,show rD (Md.make l).mems=rD ([⟨⟨#[109]⟩,false,1⟩]:List MemT) from congrArg rD hms]
    rfl
 ·skip
  by_cases a4:0<Md.YP (Md.ZZ (Md.kM l 1) 12) 3
  ·by_cases a5 : IntKind.i64.wrap ((Md.Jj l (Md.Zq l)).2.2 + Md.Zq l) <= 3
   ·have hms : Md.JA l (Md.Zq l) = [⟨⟨#[115]⟩, true, 1⟩] := by simp [Md.JA, Md.Bq, Md.QT, a1, a4, a5]
    have d0:∀ A i,A[i]? =some (.cells ((rC ([⟨⟨#[115]⟩,true,1⟩]:List MemT)).map .d) 0 false)->deep A 7 (.sref i 0 0 1 3 none)=some (.lst (rC ([⟨⟨#[115]⟩,true,1⟩]:List MemT)) 1 none,[i]):=fun A i h=>BQ h (by simp) 5 _ 3 none rfl rfl
    have e1:=fun kx kr f hf=>Hw S (dp+1) l kx kr (Md.nM l) ([⟨⟨#[115]⟩,true,1⟩]:List MemT) (Md.Zq l) (Md.YV (Md.ZZ (Md.kM l 0) 1) 3+1) (Md.JT l (Md.Zq l)).1 (Md.JS l (Md.Zq l)).1 (Md.JR l (Md.Zq l)).1 (Md.Jj l (Md.Zq l)).1 n0 n6 f hf
    have e2:=fun kx kr f hf=>Hz S (dp+1) l kx kr (Md.nM l) ([⟨⟨#[115]⟩,true,1⟩]:List MemT) (JJ (Md.nM l+1)) (Md.Zq l) (Md.YV (Md.ZZ (Md.kM l 0) 1) 3+1) (Md.JT l (Md.Zq l)).1 (Md.JS l (Md.Zq l)).1 (Md.JR l (Md.Zq l)).1 (Md.Jj l (Md.Zq l)).1 n0 n6 f hf
    simp only[CK] at e2
    simp only[H4,H3,List.length_cons,List.length_nil,zN2] at e1 e2
    simp only[eG,go_sem,Z3 S,Z2 S,zN0,zN1,zN2,zN3,zN4,zI0,zI1,zI2,zI3,reduceCtorEq,Y8 S,Int.cast_ofNat_Int,FC,l1,FN,QF,Qj,QG,QH S,QD,F5,EF,F4,F3,sf1,sf8,sf10,sf12,FB,r1',Int.reduceMul,Int.reduceAdd,Int.toNat_zero,Int.reduceToNat,zI1,zI2,and_true,true_and,and_self,BH,gt_iff_lt,wN,a1,a4,a5]
    rw[Y9,Z8 (on S _ _ [2,3,4,8,9] (by decide) rfl) rfl _ _ _ _ _ _ _ _ _ rfl]
    simp only[eG,go_sem,Z3 S,Z2 S,zN0,zN1,zN2,zN3,zN4,zI0,zI1,zI2,zI3,reduceCtorEq,Y8 S]
    rw[e1 _ _ _ (by decide)]
    simp only[eG,go_sem,Z3 S,Z2 S,zN0,zN1,zN2,zN3,zN4,zI0,zI1,zI2,zI3,reduceCtorEq,Y8 S]
    rw[Y9,Z8 (on S _ _ [2,3,4,8,10] (by decide) rfl) rfl _ _ _ _ _ _ _ _ _ rfl]
    simp only[eG,go_sem,Z3 S,Z2 S,zN0,zN1,zN2,zN3,zN4,zI0,zI1,zI2,zI3,reduceCtorEq,Y8 S]
    rw[e2 _ _ _ (by decide)]
    simp only[eG,go_sem,Z3 S,Z2 S,zN0,zN1,zN2,zN3,zN4,zI0,zI1,zI2,zI3,reduceCtorEq,Y8 S]
    rw[d0 _ _ rfl,d1 _ _ rfl,d2 _ _ rfl]
    simp only[eG,go_sem,Z3 S,Z2 S,zN0,zN1,zN2,zN3,zN4,zI0,zI1,zI2,zI3,reduceCtorEq,Y8 S]
    rw[hl,hi,show rD (Md.make l).mems=rD ([⟨⟨#[115]⟩,true,1⟩]:List MemT) from congrArg rD hms]
    rfl
   ·have hms : Md.JA l (Md.Zq l) = [] := by simp [Md.JA, Md.Bq, Md.QT, a1, a4, a5]
    have e1:=fun kx kr f hf=>Z6i S (dp+1) l kx kr (Md.nM l) (Md.Zq l) (Md.YV (Md.ZZ (Md.kM l 0) 1) 3+1) (Md.JT l (Md.Zq l)).1 (Md.JS l (Md.Zq l)).1 (Md.JR l (Md.Zq l)).1 (Md.Jj l (Md.Zq l)).1 n0 n6 f hf
    have e2:=fun kx kr f hf=>Z6h S (dp+1) l kx kr (Md.nM l) (JJ (Md.nM l+1)) (Md.Zq l) (Md.YV (Md.ZZ (Md.kM l 0) 1) 3+1) (Md.JT l (Md.Zq l)).1 (Md.JS l (Md.Zq l)).1 (Md.JR l (Md.Zq l)).1 (Md.Jj l (Md.Zq l)).1 n0 n6 f hf
    simp only[CK] at e2
    simp only[eG,go_sem,Z3 S,Z2 S,zN0,zN1,zN2,zN3,zN4,zI0,zI1,zI2,zI3,reduceCtorEq,Y8 S,Int.cast_ofNat_Int,FC,l1,FN,QF,Qj,QG,QH S,QD,F5,EF,F4,F3,sf1,sf8,sf10,sf12,FB,r1',Int.reduceMul,Int.reduceAdd,Int.toNat_zero,Int.reduceToNat,zI1,zI2,and_true,true_and,and_self,BH,gt_iff_lt,wN,a1,a4,a5]
    rw[Y9,Z8 (on S _ _ [2,3,4,8,9] (by decide) rfl) rfl _ _ _ _ _ _ _ _ _ rfl]
    simp only[eG,go_sem,Z3 S,Z2 S,zN0,zN1,zN2,zN3,zN4,zI0,zI1,zI2,zI3,reduceCtorEq,Y8 S]
    rw[e1 _ _ _ (by decide)]
    simp only[eG,go_sem,Z3 S,Z2 S,zN0,zN1,zN2,zN3,zN4,zI0,zI1,zI2,zI3,reduceCtorEq,Y8 S]
    rw[Y9,Z8 (on S _ _ [2,3,4,8,10] (by decide) rfl) rfl _ _ _ _ _ _ _ _ _ rfl]
    simp only[eG,go_sem,Z3 S,Z2 S,zN0,zN1,zN2,zN3,zN4,zI0,zI1,zI2,zI3,reduceCtorEq,Y8 S]
    rw[e2 _ _ _ (by decide)]
    simp only[eG,go_sem,Z3 S,Z2 S,zN0,zN1,zN2,zN3,zN4,zI0,zI1,zI2,zI3,reduceCtorEq,Y8 S]
    rw[d1 _ _ rfl,d2 _ _ rfl]
    simp only[eG,go_sem,Z3 S,Z2 S,zN0,zN1,zN2,zN3,zN4,zI0,zI1,zI2,zI3,reduceCtorEq,Y8 S]
    rw[hl,hi,show rD (Md.make l).mems=rD ([]:List MemT) from congrArg rD hms]
    rfl
  ·have hms : Md.JA l (Md.Zq l) = [] := by simp [Md.JA, Md.Bq, Md.QT, a1, a4]
   have e1:=fun kx kr f hf=>Z6i S (dp+1) l kx kr (Md.nM l) (Md.Zq l) (Md.YV (Md.ZZ (Md.kM l 0) 1) 3+1) (Md.JT l (Md.Zq l)).1 (Md.JS l (Md.Zq l)).1 (Md.JR l (Md.Zq l)).1 (Md.Jj l (Md.Zq l)).1 n0 n6 f hf
   have e2:=fun kx kr f hf=>Z6h S (dp+1) l kx kr (Md.nM l) (JJ (Md.nM l+1)) (Md.Zq l) (Md.YV (Md.ZZ (Md.kM l 0) 1) 3+1) (Md.JT l (Md.Zq l)).1 (Md.JS l (Md.Zq l)).1 (Md.JR l (Md.Zq l)).1 (Md.Jj l (Md.Zq l)).1 n0 n6 f hf
   simp only[CK] at e2
   simp only[eG,go_sem,Z3 S,Z2 S,zN0,zN1,zN2,zN3,zN4,zI0,zI1,zI2,zI3,reduceCtorEq,Y8 S,Int.cast_ofNat_Int,FC,l1,FN,QF,Qj,QG,QH S,QD,F5,EF,F4,F3,sf1,sf8,sf10,sf12,FB,r1',Int.reduceMul,Int.reduceAdd,Int.toNat_zero,Int.reduceToNat,zI1,zI2,and_true,true_and,and_self,BH,gt_iff_lt,wN,a1,a4]
   rw[Y9,Z8 (on S _ _ [2,3,4,8,9] (by decide) rfl) rfl _ _ _ _ _ _ _ _ _ rfl]
   simp only[eG,go_sem,Z3 S,Z2 S,zN0,zN1,zN2,zN3,zN4,zI0,zI1,zI2,zI3,reduceCtorEq,Y8 S]
   rw[e1 _ _ _ (by decide)]
   simp only[eG,go_sem,Z3 S,Z2 S,zN0,zN1,zN2,zN3,zN4,zI0,zI1,zI2,zI3,reduceCtorEq,Y8 S]
   rw[Y9,Z8 (on S _ _ [2,3,4,8,10] (by decide) rfl) rfl _ _ _ _ _ _ _ _ _ rfl]
   simp only[eG,go_sem,Z3 S,Z2 S,zN0,zN1,zN2,zN3,zN4,zI0,zI1,zI2,zI3,reduceCtorEq,Y8 S]
   rw[e2 _ _ _ (by decide)]
   simp only[eG,go_sem,Z3 S,Z2 S,zN0,zN1,zN2,zN3,zN4,zI0,zI1,zI2,zI3,reduceCtorEq,Y8 S]
   rw[d1 _ _ rfl,d2 _ _ rfl]
   simp only[eG,go_sem,Z3 S,Z2 S,zN0,zN1,zN2,zN3,zN4,zI0,zI1,zI2,zI3,reduceCtorEq,Y8 S]
   rw[hl,hi,show rD (Md.make l).mems=rD ([]:List MemT) from congrArg rD hms]
   rfl
theorem Zqm (dp:Nat)(l:List Int)(A:List Blk)(nb:Nat):ZC false E (Z4 E fn (dp+4)) 8 A nb (some ([rD l],[]))=some (.made (.d (Zz (Md.make l))) []):=
 Z6.deep (Zhq S dp l ) (np S 8 (by decide)) A nb
end
set_option maxRecDepth 200000
theorem Z34 (n:Int):((Md.H0 n).reg=true->0<=(Md.H0 n).n/\(Md.H0 n).n<=3):=by
 obtain⟨r,h1,h2⟩:=Md.MR n
 intro _
 unfold Md.H0
 split<;>(simp only[h2];omega)
theorem Znz:∀ k<18,1<=Md.MK.getD k 0/\Md.MK.getD k 0<=11:=by decide
theorem Zoa (x:Int)(n:Nat):1<=(Md.AA x n).kind/\(Md.AA x n).kind<=12/\0<=(Md.AA x n).d/\(Md.AA x n).d<=3/\0<=(Md.AA x n).target/\(Md.AA x n).target<=n/\((Md.AA x n).a.reg=true->0<=(Md.AA x n).a.n/\(Md.AA x n).a.n<=3)/\((Md.AA x n).b.reg=true->0<=(Md.AA x n).b.n/\(Md.AA x n).b.n<=3):=by
 obtain⟨d,d1,d2⟩:=Md.MR (Md.ZZ x 14)
 have ht:=Md.RE (Md.ZZ x 18) (show 0<n+1 by omega)
 have hk:=Znz _ (Md.RE x (show 0<18 by decide))
 have ha:=Z34 (Md.ZZ x 8)
 have hb:=Z34 (Md.ZZ x 11)
 have h0:(Md.v0).reg=true->0<=(Md.v0).n/\(Md.v0).n<=3:=fun h=>by cases h
 unfold Md.AA
 simp only
 generalize Md.MK.getD (Md.YV x 18) 0=k at hk
 rw[d2]
 split
 ·exact⟨(by show(1:Int)<=1;decide),(by show(1:Int)<=12;decide),by show(0:Int)<=d;omega,by show(d:Int)<=3;omega,Int.le_refl _,by show(0:Int)<=n;omega,ha,hb⟩
 split
 ·exact⟨hk.1,by show k<=12;omega,by show(0:Int)<=d;omega,by show(d:Int)<=3;omega,Int.le_refl _,by show(0:Int)<=n;omega,ha,hb⟩
 split
 ·exact⟨(by show(1:Int)<=5;decide),(by show(5:Int)<=12;decide),Int.le_refl _,(by show(0:Int)<=3;decide),by show(0:Int)<=(Md.YV (Md.ZZ x 18) (n+1):Nat);omega,by show((Md.YV (Md.ZZ x 18) (n+1):Nat):Int)<=n;omega,ha,hb⟩
 split
 ·exact⟨hk.1,by show k<=12;omega,Int.le_refl _,(by show(0:Int)<=3;decide),by show(0:Int)<=(Md.YV (Md.ZZ x 18) (n+1):Nat);omega,by show((Md.YV (Md.ZZ x 18) (n+1):Nat):Int)<=n;omega,h0,h0⟩
 split
 ·exact⟨(by show(1:Int)<=7;decide),(by show(7:Int)<=12;decide),Int.le_refl _,(by show(0:Int)<=3;decide),Int.le_refl _,by show(0:Int)<=n;omega,ha,h0⟩
 ·exact⟨hk.1,by show k<=12;omega,Int.le_refl _,(by show(0:Int)<=3;decide),Int.le_refl _,by show(0:Int)<=n;omega,h0,h0⟩
theorem Zmp (l:List Int):Md.Fine (Md.make l):=by
 have hn:=Zmo l
 have hl3:=Md.RE (Md.ZZ (Md.kM l 0) 1) (show 0<3 by decide)
 have hlen:(Md.make l).ins.length=Md.nM l:=by show((List.range (Md.nM l)).map _).length=_;rw[List.length_map,List.length_range]
 refine⟨Zml l,⟨?_,?_⟩,by omega,fun x hx=> ?_⟩
 ·show(1:Int)<=(Md.YV (Md.ZZ (Md.kM l 0) 1) 3:Nat)+1;omega
 ·show((Md.YV (Md.ZZ (Md.kM l 0) 1) 3:Nat):Int)+1<=3;omega
 ·have hx : x ∈ (List.range (Md.nM l)).map fun i : Nat => Md.AA (Md.kM l (i + 2)) (Md.nM l) := hx
  obtain⟨i,_,rfl⟩:=List.mem_map.1 hx
  have:=Zoa (Md.kM l (i+2)) (Md.nM l)
  rw[hlen]
  exact this
theorem Zmq (l:List Int):Zk (Md.make l).mems<=1000:=by
 have h:=(N2 (Md.make l).mems).2
 have h2:(Md.make l).mems.length<=2:=by
  show(Md.JA l (Md.Zq l)).length<=2
  have h1:(Md.Bq l (Md.Zq l)).length<=1:=by unfold Md.Bq;split<;>simp
  unfold Md.JA
  split
  ·rw[List.length_append,List.length_singleton];omega
  ·omega
 omega
theorem SOk.inv {N:Int}{p:Prog}(hp:Md.Fine p){s:State}(h:SOk N s):Md.Inv N p (Md.G4 s):=Md.Inv.begin hp h.mem h.mv h.rg h.stk h.pc
def NK (l:List Ent)(e:Ent)(n:Int):List Ent:=if(l.length:Int)>=n then[] else l++[e]
variable {E:Env} {fn:FuncId->Option (Env->cT->cT)}
section
variable (S:Sur E fn)
include S
theorem Z09:E.lives 114 7=none:=off S 114 7 (by decide) rfl
theorem Zhz (dp:Nat)(l:List Ent)(e:Ent)(n:Int)(hl:l.length<1073741823):Z6 E fn (dp+1) 114 [rD l,.agg (Cl.cells e),vi n] (.tup [rD (NK l e n),vb (!decide ((l.length:Int)>=n))]):=by
 unfold Z6
 show Zj (Z4 E fn (dp+1) 114 [.d (rD l),.d (.agg (Cl.cells e)),.d (vi n)] [])=_
 rw[ZK,S.Z86,ZM,Zdd,ZN _ _ _ _ _ _ _ _ rfl]
 have hl2:l.length<1073741824:=by omega
 by_cases h:(l.length:Int)>=n
 ·simp only[eG,go_sem,Z3 S,Z2 S,Nat.reduceLT,Nat.reduceEqDiff,Nat.reduceAdd,Nat.reduceMul,Nat.reduceLeDiff,Int.reduceEq,Int.reduceLT,Int.reduceLE,Int.reduceNeg,reduceCtorEq,Z09 S,h,NK,Bool.not_true,Bool.not_false]
 ·by_cases h0 : l.length = 0
  ·have : l = [] := List.length_eq_zero_iff.1 h0
   have oa:∀ i,YG i l=.d (.lst [] 0 (some 0)):=fun i=>by rw[this];rfl
   have ob:Yw l=[]:=by rw[this];rfl
   have hle:l++[e]=[e]:=by rw[this];rfl
   have hd:deep [.cells [.d (vi e.pc),.d (vi e.val),.d (vi e.addr),.d (vi e.frm),.d (vi e.next),.d (vb e.done),.d (vb e.known),.d (vb e.fault)] 0 false] 7 (.sref 0 0 0 1 8 none)=some (.lst (rC [e]) 1 none,[0]):=Cz [e] (by simp) 1 rfl 5 8 none rfl
   simp only[eG,go_sem,Z3 S,Z2 S,Nat.reduceLT,Nat.reduceEqDiff,Nat.reduceAdd,Nat.reduceMul,Nat.reduceLeDiff,Int.reduceEq,Int.reduceLT,Int.reduceLE,Int.reduceNeg,reduceCtorEq,Z09 S,h,NK,Bool.not_true,Bool.not_false,Rk S hl2,oa,ob,hle,hd,Z7,Z0u,Z0v,Nat.zero_add,Nat.one_mul,Nat.zero_mul,and_self,true_and]
   try rfl
  ·have hne : l.length ≠ 0 := h0
   have k1:(l.length+1)*48<=Z5:=by unfold Z5;omega
   have k2:l.length+1<=Z5:=by unfold Z5;omega
   have hd:deep [.cells ((rC (l++[e])).map .d) 0 false] 7 (.sref 0 0 0 (l.length+1) 8 none)=some (.lst (rC (l++[e])) (l++[e]).length none,[0]):=Cz _ (by simp) _ (by simp) 5 8 none rfl
   simp only[eG,go_sem,Z3 S,Z2 S,Nat.reduceLT,Nat.reduceEqDiff,Nat.reduceAdd,Nat.reduceMul,Nat.reduceLeDiff,Int.reduceEq,Int.reduceLT,Int.reduceLE,Int.reduceNeg,reduceCtorEq,Z09 S,h,NK,Bool.not_true,Bool.not_false,Rk S hl2,ZB hne,ZA hne,Z7,FP,k1,k2,hd,Jw]
theorem Zqt (dp:Nat)(l:List Ent)(e_pc e_vl e_ad e_fr e_nx:Int)(e_dn e_kn e_ft:Bool)(n:Int)(hl:l.length<1073741823)(A:List Blk)(nb:Nat):ZC false E (Z4 E fn (dp+1)) 114 A nb (some ([rD l,.agg [vi e_pc,vi e_vl,vi e_ad,vi e_fr,vi e_nx,vb e_dn,vb e_kn,vb e_ft],vi n],[]))=some (.made (.d (.tup [rD (NK l (⟨e_pc,e_vl,e_ad,e_fr,e_nx,e_dn,e_kn,e_ft⟩:Ent) n),vb (!decide ((l.length:Int)>=n))])) []):=
 Z6.deep (Zhz S dp l (⟨e_pc,e_vl,e_ad,e_fr,e_nx,e_dn,e_kn,e_ft⟩:Ent) n hl) (np S 114 (by decide)) A nb
end
theorem Z6n {l:List Ent}{k:Nat}{e:Ent}(h:k<l.length):BF true 8 (((rC (l.set k e)).map AV.d).drop (k*8))=some (.agg [.d (vi e.pc),.d (vi e.val),.d (vi e.addr),.d (vi e.frm),.d (vi e.next),.d (vb e.done),.d (vb e.known),.d (vb e.fault)]):=by
 have:=Tw (e:=e) h 0 (by decide)
 rw[Nat.add_zero] at this;rw[this];rfl
theorem Zns {l:List Ent}{k:Nat}{e:Ent}(h:k<l.length):BF false 1 (((rC (l.set k e)).map AV.d).drop (k*8+3))=some (.d (vi e.frm)):=by rw[Tw h 3 (by decide)];rfl
theorem Zgo {l:List Ent}{k:Nat}{e:Ent}(h:l[k]? =some e):l.set k e=l:=by
 obtain⟨hi,rfl⟩:=List.getElem?_eq_some_iff.1 h
 exact List.set_getElem_self hi
variable {E:Env} {fn:FuncId->Option (Env->cT->cT)}
section
variable (S:Sur E fn)
include S
theorem GG:E.lives 110 1=none/\E.lives 110 7=none/\E.lives 110 19=none:=⟨off S 110 1 (by decide) rfl,off S 110 7 (by decide) rfl,off S 110 19 (by decide) rfl⟩
theorem Zkx (dp:Nat)(l:List Ent)(n:Nat)(hn:n<1073741824)(kx:Nat->K)(P:Option (AV×List Blk)->Prop)(R:List Ent)
  (hx:∀ T,ZS .bot T 0=.d (rD l)->ZS .bot T 2=.ref 0 0 0->ZS .bot T 5=.sref 1 0 0 n 8 none->P (kx 0 (mk .bot 38 T) [.cells [zi,zi,zi,zi,zi,zb,zb,zb] 0 false,.cells ((rC R).map .d) 0 false])):
  ∀(m k f:Nat) (L:List Ent),k+m=n->m<=f->L.length=n->L.take k++(L.drop k).map Md.JF=R->
  P (Gk (Zx E 110) (Z4 E fn dp) (Z9 12 Gk (Zx E 110) (Z4 E fn dp) kx (ZY 0 [.cell 2 true 8,.tmp 3,.tmp 4]) f) kx (ZY 0 [.cell 2 true 8,.tmp 3,.tmp 4]) (mk .bot 38 [(0,.d (rD l)),(2,.ref 0 0 0),(5,.sref 1 0 0 n 8 none),(15,.sref 1 0 0 n 8 none),(16,aI n),(17,aI k)]) [.cells [zi,zi,zi,zi,zi,zb,zb,zb] 0 false,.cells ((rC L).map .d) 0 false]):=by
 intro m
 induction m with
 | zero=>
  intro k f L hk _ hL hr
  rw[List.drop_of_length_le (by omega),List.take_of_length_le (by omega)] at hr
  have hr:L=R:=by simpa using hr
  subst hr
  generalize Z9 12 Gk _ _ kx _ f=KK
  first | (conv=>lhs;rw[Gk]) | rw[Gk]
  simp only[eG,go_sem,Z3 S,Z2 S,zN0,zN1,zN2,zN3,zN4,zI0,zI1,zI2,zI3,reduceCtorEq,GG S,show ¬(k:Int)<n by omega]
  exact hx _ rfl rfl rfl
 | succ m ih=>
  intro k f L hk hf hL hr
  have hkL:k<L.length:=by omega
  obtain⟨e,he⟩:=Q4 hkL
  obtain⟨f,rfl⟩:∃ g,f=g+1:=⟨f-1,by omega⟩
  have hkg:(k:Int)<n:=by omega
  have h0:(0:Int)<=k:=by omega
  have hr':(L.set k (Md.JF e)).take (k+1)++((L.set k (Md.JF e)).drop (k+1)).map Md.JF=R:=by
   rw[<-hr,X9 (List.getElem?_set_self hkL),List.take_set_of_le (Nat.le_refl k),List.drop_set_of_lt (by omega),CM he,List.map_cons,List.append_assoc];rfl
  have next:=ih (k+1) f (L.set k (Md.JF e)) (by omega) (by omega) (by rw[List.length_set];exact hL) hr'
  generalize hK:Z9 12 Gk _ _ kx _ (f+1)=KK
  first | (conv=>lhs;rw[Gk]) | rw[Gk]
  rw[<-Zgo he]
  by_cases h:0<=e.frm
  ·have hp : Md.JF e = { e with frm := Md.ZX (e.frm - 1) } := by unfold Md.JF; rw [if_pos h]
   rw[hp] at next
   simp only[eG,go_sem,Z3 S,Z2 S,zN0,zN1,zN2,zN3,zN4,zI0,zI1,zI2,zI3,reduceCtorEq,GG S,hkg,h0,ge_iff_le,h,Z6n hkL,Zns hkL,CR hkL,wi k (by omega),Int.toNat_natCast,Nat.zero_add]
   rw[<-hK,Z8 (on S _ _ [0,2,5,15,16,17] (by decide) rfl) rfl _ _ _ _ _ _ _ _ _ rfl]
   simp only[eG,go_sem,Z3 S,Z2 S,zN0,zN1,zN2,zN3,zN4,zI0,zI1,zI2,zI3,reduceCtorEq,GG S]
   exact next
  ·have hp : Md.JF e = e := by unfold Md.JF; rw [if_neg h]
   rw[hp] at next
   simp only[eG,go_sem,Z3 S,Z2 S,zN0,zN1,zN2,zN3,zN4,zI0,zI1,zI2,zI3,reduceCtorEq,GG S,hkg,h0,ge_iff_le,h,Z6n hkL,wi k (by omega),Int.toNat_natCast,Nat.zero_add]
   rw[<-hK,Z8 (on S _ _ [0,2,5,15,16,17] (by decide) rfl) rfl _ _ _ _ _ _ _ _ _ rfl]
   simp only[eG,go_sem,Z3 S,Z2 S,zN0,zN1,zN2,zN3,zN4,zI0,zI1,zI2,zI3,reduceCtorEq,GG S]
   exact next
theorem Zi0 (dp:Nat)(l:List Ent)(hl:l.length<1073741823)(h0:0<l.length):Z6 E fn (dp+1) 110 [rD l] (.tup [.agg (Cl.cells (Md.ZR l 0)),rD (Md.Jv l),vb true]):=by
 unfold Z6
 show Zj (Z4 E fn (dp+1) 110 [.d (rD l)] [])=_
 rw[ZK,S.Z87,ZM,Zde,ZN _ _ _ _ _ _ _ _ rfl]
 obtain⟨e,he⟩:=Q4 h0
 have he0:Md.ZR l 0=e:=by unfold Md.ZR;rw[show(0:Int).toNat=0 from rfl,he];rfl
 have w0:=DX (l:=l) (i:=0) (by decide) he .i64 8 rfl
 have hdl:(l.drop 1).length=l.length-1:=List.length_drop
 have hd2:(l.drop 1).length<1073741824:=by omega
 have hne:(l.length:Int)≠0:=by omega
 have bd:=Pz l.length .i64 1 (by omega) (by omega)
 have h1:(1:Int).toNat=1:=rfl
 have n1:(l.drop 1).length*48<=Z5:=by unfold Z5;omega
 rw[he0]
 have htk:(l.drop 1).take (l.length-1)=l.drop 1:=List.take_of_length_le (by omega)
 by_cases hz:(l.drop 1).length=0
 ·have hz1 : l.drop 1 = [] := List.length_eq_zero_iff.1 hz
  have hpop:Md.Jv l=[]:=by unfold Md.Jv;rw[hz1];rfl
  have oa:∀ i,YG i (l.drop 1)=.d (.lst [] 0 (some 0)):=fun i=>by rw[hz1];rfl
  have ob:Yw (l.drop 1)=[]:=by rw[hz1];rfl
  rw[hpop]
  simp only[eG,go_sem,Z3 S,Z2 S,zN0,zN1,zN2,zN3,zN4,zI0,zI1,zI2,zI3,reduceCtorEq,GG S,htk,hne,bd,h1,w0,Rk S hd2,Nat.zero_add,Nat.one_mul,Nat.zero_mul,Bool.not_true,Bool.not_false,List.drop_drop,oa,ob]
  rw[Y9,Z8 (on S _ _ [0,2,5,15,16,17] (by decide) rfl) rfl _ _ _ _ _ _ _ _ _ rfl]
  simp only[eG,go_sem,Z3 S,Z2 S,zN0,zN1,zN2,zN3,zN4,zI0,zI1,zI2,zI3,reduceCtorEq,GG S]
  generalize Z9 12 Gk _ _ _ _ _=KK
  first | (conv=>lhs;rw[Gk]) | rw[Gk]
  simp only[eG,go_sem,Z3 S,Z2 S,zN0,zN1,zN2,zN3,zN4,zI0,zI1,zI2,zI3,reduceCtorEq,GG S,w0,show ¬(0:Int)<((0:Nat):Int) by decide]
 ·simp only [eG, go_sem, Z3 S, Z2 S, zN0, zN1, zN2, zN3, zN4, zI0, zI1, zI2, zI3, reduceCtorEq, GG S, htk, hne, bd, h1, w0, Rk S hd2, Nat.zero_add, Nat.one_mul, Nat.zero_mul, Bool.not_true, Bool.not_false, List.drop_drop, ZB hz, ZA hz]
  rw[Y9,Z8 (on S _ _ [0,2,5,15,16,17] (by decide) rfl) rfl _ _ _ _ _ _ _ _ _ rfl]
  simp only[eG,go_sem,Z3 S,Z2 S,zN0,zN1,zN2,zN3,zN4,zI0,zI1,zI2,zI3,reduceCtorEq,GG S]
  have go:=fun(kx:Nat->K) (P:Option (AV×List Blk)->Prop) hx=>Zkx S dp l (l.drop 1).length hd2 kx P (Md.Jv l) hx (l.drop 1).length 0 999999999999999999999999999999 (l.drop 1) (by omega) (by omega) rfl (by rw[List.take_zero];rfl)
  simp only[Int.cast_ofNat_Int] at go
  refine go _ (fun r=>Zj r=_) ?_
  intro T t0 t2 t5
  have hpl:(Md.Jv l).length=(l.drop 1).length:=by unfold Md.Jv;rw[List.length_map]
  have hd:deep [.cells ((rC (Md.Jv l)).map .d) 0 false] 7 (.sref 0 0 0 (l.drop 1).length 8 none)=some (.lst (rC (Md.Jv l)) (Md.Jv l).length none,[0]):=Cz (Md.Jv l) (fun h=>hz (by rw[<-hpl,h];rfl)) _ hpl.symm 5 8 none rfl
  simp only[eG,go_sem,Z3 S,Z2 S,zN0,zN1,zN2,zN3,zN4,zI0,zI1,zI2,zI3,reduceCtorEq,GG S,htk,hne,bd,h1,w0,Rk S hd2,Nat.zero_add,Nat.one_mul,Nat.zero_mul,Bool.not_true,Bool.not_false,List.drop_drop,t0,t2,t5,hd]
  rfl
theorem E8 (dp:Nat)(l:List Ent)(hl:l.length<1073741823)(h0:0<l.length)(A:List Blk)(nb:Nat):ZC false E (Z4 E fn (dp+1)) 110 A nb (some ([rD l],[]))=some (.made (.d (.tup [.agg (Cl.cells (Md.ZR l 0)),rD (Md.Jv l),vb true])) []):=
 Z6.deep (Zi0 S dp l hl h0) (np S 110 (by decide)) A nb
end
end Go.Aug.Mc
