import Derived.Test.YthnhboimcidhgaaGreatDoorMk2
namespace Go.Aug.Mc
open Go Go.Aug
open Nat renaming reduceLT -> zN0, reduceEqDiff -> zN1, reduceAdd -> zN2, reduceMul -> zN3, reduceLeDiff -> zN4
open Int renaming reduceEq -> zI0, reduceLT -> zI1, reduceLE -> zI2, reduceNeg -> zI3
set_option linter.unusedSimpArgs false
set_option linter.unusedVariables false
set_option maxHeartbeats 40000000
theorem BZ (x:Int):YT .shr (.d (.v (.int .i64 x))) (.d (.v (.int .u64 0)))=some (aI (Md.ZZ x 0)):=Kk x 0 (by decide)
theorem C3 (x:Int):x.fdiv (2^min 0 64)=Md.ZZ x 0:=by rw[Nat.min_eq_left (by decide)];rfl
theorem C2 (x:Int):x.fdiv (2^min 2 64)=Md.ZZ x 2:=by rw[Nat.min_eq_left (by decide)];rfl
theorem C1 (x:Int):x.fdiv (2^min 4 64)=Md.ZZ x 4:=by rw[Nat.min_eq_left (by decide)];rfl
theorem C0 (x:Int):x.fdiv (2^min 6 64)=Md.ZZ x 6:=by rw[Nat.min_eq_left (by decide)];rfl
theorem Cj (x:Int):F3 (.d (.lst [vi 0,vi 0,vi 1,vi 2] 4 (some 4))) (aI (Md.YF x 3)) 1=some (.d (.vptr (vi (Md.r4.getD (Md.YF x 3).toNat 0)::rC (Md.r4.drop ((Md.YF x 3).toNat+1))))):=by
 obtain⟨r,hr,h⟩:=Md.N6 x
 rw[h,Int.toNat_natCast]
 exact Z1o (l:=Md.r4) hr 4 rfl _ rfl
theorem Q6 (E:Env)(l:Nat->Option (List Nat))(m:Nat)(call:cT)(tm:List AV)(A:List Blk)(nb:Nat)(g:FuncId)(args:List Opd)(cap:List AV)(h:Y8 g E.br=false):
  Z2l { br:=E.br,th:=E.th,prim:=E.prim,back:=E.back,lives:=E.lives,live:=l,nb0:=m } call tm A nb args (.fn (.func g) cap)=Zv (Y8 g E.th || HS (l (EP g))) E call g A nb (TN (YD (deep A 8) (args.map (look tm)++cap))):=
 Zbu E l m call A nb g _ h
def Zcf (A:List Blk)(n i:Nat):Option (List AV)->Option (DV×List Nat)
 | some cs=>(YD (deep A n) cs).map fun r=>(.vptr r.1,i::r.2)
 | none=>none
theorem YY (A:List Blk)(n i v o:Nat):deep A (n+1) (.ref i v o)=Zcf A n i (cellsAt A i v o):=by
 show(match cellsAt A i v o with | some cs=>_ | none=>none)=_
 cases cellsAt A i v o<;>rfl
theorem Q7 (A:List Blk)(n i:Nat)(cs:List AV):Zcf A n i (some cs)=(YD (deep A n) cs).map fun r=>(.vptr r.1,i::r.2):=id rfl
variable {E:Env} {fn:FuncId->Option (Env->cT->cT)}
section
variable (S:Sur E fn)
include S
theorem Q5:E.lives 13 1=none/\E.lives 13 23=none/\E.lives 13 27=none/\E.lives 13 31=none/\E.lives 13 35=none/\E.lives 13 39=none:=⟨off S 13 1 (by decide) rfl,off S 13 23 (by decide) rfl,off S 13 27 (by decide) rfl,off S 13 31 (by decide) rfl,off S 13 35 (by decide) rfl,off S 13 39 (by decide) rfl⟩
theorem Zhq (dp:Nat)(l:List Int)(kx:Nat->K)(kr:K)(f:Nat)(W wn pub sec r0 r1 r2 r3 r:Int)(hr:Md.r4.getD (Md.YF (Md.ZZ (Md.kM l 1) 0) 3).toNat 0=r):
  QV (Zj E 13) (Z4 E fn (dp+1)) (Z9 12 QV (Zj E 13) (Z4 E fn (dp+1)) kx kr (f+1)) kx kr (mk .bot 171 [(2,.ref 0 0 0),(3,.fn (.func 38) [.ref 1 0 0]),(4,.ref 2 0 0),(5,aI pub),(6,aI sec),(7,aI 0)]) [.cells [zi,zi,zi,zi,zi,zi,zi,zn,zn,zn] 0 false,.cells [.d (rD l)] 0 false,.cells [aI W,aI wn,aI 6,aI r0,aI r1,aI r2,aI r3,zn,zn,zn] 0 false]=
  QV (Zj E 13) (Z4 E fn (dp+1)) (Z9 12 QV (Zj E 13) (Z4 E fn (dp+1)) kx kr f) kx kr (mk .bot 171 [(2,.ref 0 0 0),(3,.fn (.func 38) [.ref 1 0 0]),(4,.ref 2 0 0),(5,aI (Md.QJ W pub sec r).2.1),(6,aI (Md.QJ W pub sec r).2.2),(7,aI 1)]) [.cells [zi,zi,zi,zi,zi,zi,zi,zn,zn,zn] 0 false,.cells [.d (rD l)] 0 false,.cells [aI W,aI wn,aI 6,aI (Md.QJ W pub sec r).1,aI r1,aI r2,aI r3,zn,zn,zn] 0 false]:=by
 have w1:∀ z:Int,0<=z->z<100->IntKind.i64.wrap z=z:=fun z h1 h2=>YH (by omega) (by omega)
 have w2:∀ z:Int,0<=z->z<100->IntKind.u64.wrap z=z:=fun z h1 h2=>Rq (by omega) (by omega)
 have r4':∀ {α:Type} (l:List α),rep l 4=l++(l++(l++l)):=fun l=>by simp[rep]
 generalize hK:Z9 12 QV _ _ kx kr (f+1)=KK
 first | (conv=>lhs;rw[QV]) | rw[QV]
 by_cases c1:r=1
 ·by_cases c2 : IntKind.i64.wrap (pub + W) <= 2
  ·simp only [eG, go_sem, Z3 S, Z2 S, zN0, zN1, zN2, zN3, zN4, zI0, zI1, zI2, zI3, reduceCtorEq, Q5 S, YY, Q7, Q6, w1, w2, r4', Q9 S, BZ, C3, C2, C1, C0, Q1, Cj, Int.reduceMul, Int.reduceAdd, Int.toNat_zero, Int.reduceToNat, zI1, zI2, Int.cast_ofNat_Int, false_and, Md.QJ, Md.QG, and_true, true_and, and_self, hr, c1, c2]
   rw[<-hK,Z8 (on S _ _ [2,3,4,5,6,7] (by decide) rfl) rfl _ _ _ _ _ _ _ _ _ rfl]
   simp only[eG,go_sem,Z3 S,Z2 S,zN0,zN1,zN2,zN3,zN4,zI0,zI1,zI2,zI3,reduceCtorEq,Q5 S]
  ·simp only [eG, go_sem, Z3 S, Z2 S, zN0, zN1, zN2, zN3, zN4, zI0, zI1, zI2, zI3, reduceCtorEq, Q5 S, YY, Q7, Q6, w1, w2, r4', Q9 S, BZ, C3, C2, C1, C0, Q1, Cj, Int.reduceMul, Int.reduceAdd, Int.toNat_zero, Int.reduceToNat, zI1, zI2, Int.cast_ofNat_Int, false_and, Md.QJ, Md.QG, and_true, true_and, and_self, hr, c1, c2]
   rw[<-hK,Z8 (on S _ _ [2,3,4,5,6,7] (by decide) rfl) rfl _ _ _ _ _ _ _ _ _ rfl]
   simp only[eG,go_sem,Z3 S,Z2 S,zN0,zN1,zN2,zN3,zN4,zI0,zI1,zI2,zI3,reduceCtorEq,Q5 S]
 ·by_cases c3 : r = 2
  ·by_cases c4 : IntKind.i64.wrap (sec + W) <= 2
   ·simp only [eG, go_sem, Z3 S, Z2 S, zN0, zN1, zN2, zN3, zN4, zI0, zI1, zI2, zI3, reduceCtorEq, Q5 S, YY, Q7, Q6, w1, w2, r4', Q9 S, BZ, C3, C2, C1, C0, Q1, Cj, Int.reduceMul, Int.reduceAdd, Int.toNat_zero, Int.reduceToNat, zI1, zI2, Int.cast_ofNat_Int, false_and, Md.QJ, Md.QG, and_true, true_and, and_self, hr, c1, c3, c4]
    rw[<-hK,Z8 (on S _ _ [2,3,4,5,6,7] (by decide) rfl) rfl _ _ _ _ _ _ _ _ _ rfl]
    simp only[eG,go_sem,Z3 S,Z2 S,zN0,zN1,zN2,zN3,zN4,zI0,zI1,zI2,zI3,reduceCtorEq,Q5 S]
   ·simp only [eG, go_sem, Z3 S, Z2 S, zN0, zN1, zN2, zN3, zN4, zI0, zI1, zI2, zI3, reduceCtorEq, Q5 S, YY, Q7, Q6, w1, w2, r4', Q9 S, BZ, C3, C2, C1, C0, Q1, Cj, Int.reduceMul, Int.reduceAdd, Int.toNat_zero, Int.reduceToNat, zI1, zI2, Int.cast_ofNat_Int, false_and, Md.QJ, Md.QG, and_true, true_and, and_self, hr, c1, c3, c4]
    rw[<-hK,Z8 (on S _ _ [2,3,4,5,6,7] (by decide) rfl) rfl _ _ _ _ _ _ _ _ _ rfl]
    simp only[eG,go_sem,Z3 S,Z2 S,zN0,zN1,zN2,zN3,zN4,zI0,zI1,zI2,zI3,reduceCtorEq,Q5 S]
  ·simp only [eG, go_sem, Z3 S, Z2 S, zN0, zN1, zN2, zN3, zN4, zI0, zI1, zI2, zI3, reduceCtorEq, Q5 S, YY, Q7, Q6, w1, w2, r4', Q9 S, BZ, C3, C2, C1, C0, Q1, Cj, Int.reduceMul, Int.reduceAdd, Int.toNat_zero, Int.reduceToNat, zI1, zI2, Int.cast_ofNat_Int, false_and, Md.QJ, Md.QG, and_true, true_and, and_self, hr, c1, c3]
   rw[<-hK,Z8 (on S _ _ [2,3,4,5,6,7] (by decide) rfl) rfl _ _ _ _ _ _ _ _ _ rfl]
   simp only[eG,go_sem,Z3 S,Z2 S,zN0,zN1,zN2,zN3,zN4,zI0,zI1,zI2,zI3,reduceCtorEq,Q5 S]
theorem Zhp (dp:Nat)(l:List Int)(kx:Nat->K)(kr:K)(f:Nat)(W wn pub sec r0 r1 r2 r3 r:Int)(hr:Md.r4.getD (Md.YF (Md.ZZ (Md.kM l 1) 2) 3).toNat 0=r):
  QV (Zj E 13) (Z4 E fn (dp+1)) (Z9 12 QV (Zj E 13) (Z4 E fn (dp+1)) kx kr (f+1)) kx kr (mk .bot 171 [(2,.ref 0 0 0),(3,.fn (.func 38) [.ref 1 0 0]),(4,.ref 2 0 0),(5,aI pub),(6,aI sec),(7,aI 1)]) [.cells [zi,zi,zi,zi,zi,zi,zi,zn,zn,zn] 0 false,.cells [.d (rD l)] 0 false,.cells [aI W,aI wn,aI 6,aI r0,aI r1,aI r2,aI r3,zn,zn,zn] 0 false]=
  QV (Zj E 13) (Z4 E fn (dp+1)) (Z9 12 QV (Zj E 13) (Z4 E fn (dp+1)) kx kr f) kx kr (mk .bot 171 [(2,.ref 0 0 0),(3,.fn (.func 38) [.ref 1 0 0]),(4,.ref 2 0 0),(5,aI (Md.QJ W pub sec r).2.1),(6,aI (Md.QJ W pub sec r).2.2),(7,aI 2)]) [.cells [zi,zi,zi,zi,zi,zi,zi,zn,zn,zn] 0 false,.cells [.d (rD l)] 0 false,.cells [aI W,aI wn,aI 6,aI r0,aI (Md.QJ W pub sec r).1,aI r2,aI r3,zn,zn,zn] 0 false]:=by
 have w1:∀ z:Int,0<=z->z<100->IntKind.i64.wrap z=z:=fun z h1 h2=>YH (by omega) (by omega)
 have w2:∀ z:Int,0<=z->z<100->IntKind.u64.wrap z=z:=fun z h1 h2=>Rq (by omega) (by omega)
 have r4':∀ {α:Type} (l:List α),rep l 4=l++(l++(l++l)):=fun l=>by simp[rep]
 generalize hK:Z9 12 QV _ _ kx kr (f+1)=KK
 first | (conv=>lhs;rw[QV]) | rw[QV]
 by_cases c1:r=1
 ·by_cases c2 : IntKind.i64.wrap (pub + W) <= 2
  ·simp only [eG, go_sem, Z3 S, Z2 S, zN0, zN1, zN2, zN3, zN4, zI0, zI1, zI2, zI3, reduceCtorEq, Q5 S, YY, Q7, Q6, w1, w2, r4', Q9 S, BZ, C3, C2, C1, C0, Q1, Cj, Int.reduceMul, Int.reduceAdd, Int.toNat_zero, Int.reduceToNat, zI1, zI2, Int.cast_ofNat_Int, false_and, Md.QJ, Md.QG, and_true, true_and, and_self, hr, c1, c2]
   rw[<-hK,Z8 (on S _ _ [2,3,4,5,6,7] (by decide) rfl) rfl _ _ _ _ _ _ _ _ _ rfl]
   simp only[eG,go_sem,Z3 S,Z2 S,zN0,zN1,zN2,zN3,zN4,zI0,zI1,zI2,zI3,reduceCtorEq,Q5 S]
  ·simp only [eG, go_sem, Z3 S, Z2 S, zN0, zN1, zN2, zN3, zN4, zI0, zI1, zI2, zI3, reduceCtorEq, Q5 S, YY, Q7, Q6, w1, w2, r4', Q9 S, BZ, C3, C2, C1, C0, Q1, Cj, Int.reduceMul, Int.reduceAdd, Int.toNat_zero, Int.reduceToNat, zI1, zI2, Int.cast_ofNat_Int, false_and, Md.QJ, Md.QG, and_true, true_and, and_self, hr, c1, c2]
   rw[<-hK,Z8 (on S _ _ [2,3,4,5,6,7] (by decide) rfl) rfl _ _ _ _ _ _ _ _ _ rfl]
   simp only[eG,go_sem,Z3 S,Z2 S,zN0,zN1,zN2,zN3,zN4,zI0,zI1,zI2,zI3,reduceCtorEq,Q5 S]
 ·by_cases c3 : r = 2
  ·by_cases c4 : IntKind.i64.wrap (sec + W) <= 2
   ·simp only [eG, go_sem, Z3 S, Z2 S, zN0, zN1, zN2, zN3, zN4, zI0, zI1, zI2, zI3, reduceCtorEq, Q5 S, YY, Q7, Q6, w1, w2, r4', Q9 S, BZ, C3, C2, C1, C0, Q1, Cj, Int.reduceMul, Int.reduceAdd, Int.toNat_zero, Int.reduceToNat, zI1, zI2, Int.cast_ofNat_Int, false_and, Md.QJ, Md.QG, and_true, true_and, and_self, hr, c1, c3, c4]
    rw[<-hK,Z8 (on S _ _ [2,3,4,5,6,7] (by decide) rfl) rfl _ _ _ _ _ _ _ _ _ rfl]
    simp only[eG,go_sem,Z3 S,Z2 S,zN0,zN1,zN2,zN3,zN4,zI0,zI1,zI2,zI3,reduceCtorEq,Q5 S]
   ·simp only [eG, go_sem, Z3 S, Z2 S, zN0, zN1, zN2, zN3, zN4, zI0, zI1, zI2, zI3, reduceCtorEq, Q5 S, YY, Q7, Q6, w1, w2, r4', Q9 S, BZ, C3, C2, C1, C0, Q1, Cj, Int.reduceMul, Int.reduceAdd, Int.toNat_zero, Int.reduceToNat, zI1, zI2, Int.cast_ofNat_Int, false_and, Md.QJ, Md.QG, and_true, true_and, and_self, hr, c1, c3, c4]
    rw[<-hK,Z8 (on S _ _ [2,3,4,5,6,7] (by decide) rfl) rfl _ _ _ _ _ _ _ _ _ rfl]
    simp only[eG,go_sem,Z3 S,Z2 S,zN0,zN1,zN2,zN3,zN4,zI0,zI1,zI2,zI3,reduceCtorEq,Q5 S]
  ·simp only [eG, go_sem, Z3 S, Z2 S, zN0, zN1, zN2, zN3, zN4, zI0, zI1, zI2, zI3, reduceCtorEq, Q5 S, YY, Q7, Q6, w1, w2, r4', Q9 S, BZ, C3, C2, C1, C0, Q1, Cj, Int.reduceMul, Int.reduceAdd, Int.toNat_zero, Int.reduceToNat, zI1, zI2, Int.cast_ofNat_Int, false_and, Md.QJ, Md.QG, and_true, true_and, and_self, hr, c1, c3]
   rw[<-hK,Z8 (on S _ _ [2,3,4,5,6,7] (by decide) rfl) rfl _ _ _ _ _ _ _ _ _ rfl]
   simp only[eG,go_sem,Z3 S,Z2 S,zN0,zN1,zN2,zN3,zN4,zI0,zI1,zI2,zI3,reduceCtorEq,Q5 S]
theorem Zho (dp:Nat)(l:List Int)(kx:Nat->K)(kr:K)(f:Nat)(W wn pub sec r0 r1 r2 r3 r:Int)(hr:Md.r4.getD (Md.YF (Md.ZZ (Md.kM l 1) 4) 3).toNat 0=r):
  QV (Zj E 13) (Z4 E fn (dp+1)) (Z9 12 QV (Zj E 13) (Z4 E fn (dp+1)) kx kr (f+1)) kx kr (mk .bot 171 [(2,.ref 0 0 0),(3,.fn (.func 38) [.ref 1 0 0]),(4,.ref 2 0 0),(5,aI pub),(6,aI sec),(7,aI 2)]) [.cells [zi,zi,zi,zi,zi,zi,zi,zn,zn,zn] 0 false,.cells [.d (rD l)] 0 false,.cells [aI W,aI wn,aI 6,aI r0,aI r1,aI r2,aI r3,zn,zn,zn] 0 false]=
  QV (Zj E 13) (Z4 E fn (dp+1)) (Z9 12 QV (Zj E 13) (Z4 E fn (dp+1)) kx kr f) kx kr (mk .bot 171 [(2,.ref 0 0 0),(3,.fn (.func 38) [.ref 1 0 0]),(4,.ref 2 0 0),(5,aI (Md.QJ W pub sec r).2.1),(6,aI (Md.QJ W pub sec r).2.2),(7,aI 3)]) [.cells [zi,zi,zi,zi,zi,zi,zi,zn,zn,zn] 0 false,.cells [.d (rD l)] 0 false,.cells [aI W,aI wn,aI 6,aI r0,aI r1,aI (Md.QJ W pub sec r).1,aI r3,zn,zn,zn] 0 false]:=by
 have w1:∀ z:Int,0<=z->z<100->IntKind.i64.wrap z=z:=fun z h1 h2=>YH (by omega) (by omega)
 have w2:∀ z:Int,0<=z->z<100->IntKind.u64.wrap z=z:=fun z h1 h2=>Rq (by omega) (by omega)
 have r4':∀ {α:Type} (l:List α),rep l 4=l++(l++(l++l)):=fun l=>by simp[rep]
 generalize hK:Z9 12 QV _ _ kx kr (f+1)=KK
 first | (conv=>lhs;rw[QV]) | rw[QV]
 by_cases c1:r=1
 ·by_cases c2 : IntKind.i64.wrap (pub + W) <= 2
  ·simp only [eG, go_sem, Z3 S, Z2 S, zN0, zN1, zN2, zN3, zN4, zI0, zI1, zI2, zI3, reduceCtorEq, Q5 S, YY, Q7, Q6, w1, w2, r4', Q9 S, BZ, C3, C2, C1, C0, Q1, Cj, Int.reduceMul, Int.reduceAdd, Int.toNat_zero, Int.reduceToNat, zI1, zI2, Int.cast_ofNat_Int, false_and, Md.QJ, Md.QG, and_true, true_and, and_self, hr, c1, c2]
   rw[<-hK,Z8 (on S _ _ [2,3,4,5,6,7] (by decide) rfl) rfl _ _ _ _ _ _ _ _ _ rfl]
   simp only[eG,go_sem,Z3 S,Z2 S,zN0,zN1,zN2,zN3,zN4,zI0,zI1,zI2,zI3,reduceCtorEq,Q5 S]
  ·simp only [eG, go_sem, Z3 S, Z2 S, zN0, zN1, zN2, zN3, zN4, zI0, zI1, zI2, zI3, reduceCtorEq, Q5 S, YY, Q7, Q6, w1, w2, r4', Q9 S, BZ, C3, C2, C1, C0, Q1, Cj, Int.reduceMul, Int.reduceAdd, Int.toNat_zero, Int.reduceToNat, zI1, zI2, Int.cast_ofNat_Int, false_and, Md.QJ, Md.QG, and_true, true_and, and_self, hr, c1, c2]
   rw[<-hK,Z8 (on S _ _ [2,3,4,5,6,7] (by decide) rfl) rfl _ _ _ _ _ _ _ _ _ rfl]
   simp only[eG,go_sem,Z3 S,Z2 S,zN0,zN1,zN2,zN3,zN4,zI0,zI1,zI2,zI3,reduceCtorEq,Q5 S]
 ·by_cases c3 : r = 2
  ·by_cases c4 : IntKind.i64.wrap (sec + W) <= 2
   ·simp only [eG, go_sem, Z3 S, Z2 S, zN0, zN1, zN2, zN3, zN4, zI0, zI1, zI2, zI3, reduceCtorEq, Q5 S, YY, Q7, Q6, w1, w2, r4', Q9 S, BZ, C3, C2, C1, C0, Q1, Cj, Int.reduceMul, Int.reduceAdd, Int.toNat_zero, Int.reduceToNat, zI1, zI2, Int.cast_ofNat_Int, false_and, Md.QJ, Md.QG, and_true, true_and, and_self, hr, c1, c3, c4]
    rw[<-hK,Z8 (on S _ _ [2,3,4,5,6,7] (by decide) rfl) rfl _ _ _ _ _ _ _ _ _ rfl]
    simp only[eG,go_sem,Z3 S,Z2 S,zN0,zN1,zN2,zN3,zN4,zI0,zI1,zI2,zI3,reduceCtorEq,Q5 S]
   ·simp only [eG, go_sem, Z3 S, Z2 S, zN0, zN1, zN2, zN3, zN4, zI0, zI1, zI2, zI3, reduceCtorEq, Q5 S, YY, Q7, Q6, w1, w2, r4', Q9 S, BZ, C3, C2, C1, C0, Q1, Cj, Int.reduceMul, Int.reduceAdd, Int.toNat_zero, Int.reduceToNat, zI1, zI2, Int.cast_ofNat_Int, false_and, Md.QJ, Md.QG, and_true, true_and, and_self, hr, c1, c3, c4]
    rw[<-hK,Z8 (on S _ _ [2,3,4,5,6,7] (by decide) rfl) rfl _ _ _ _ _ _ _ _ _ rfl]
    simp only[eG,go_sem,Z3 S,Z2 S,zN0,zN1,zN2,zN3,zN4,zI0,zI1,zI2,zI3,reduceCtorEq,Q5 S]
  ·simp only [eG, go_sem, Z3 S, Z2 S, zN0, zN1, zN2, zN3, zN4, zI0, zI1, zI2, zI3, reduceCtorEq, Q5 S, YY, Q7, Q6, w1, w2, r4', Q9 S, BZ, C3, C2, C1, C0, Q1, Cj, Int.reduceMul, Int.reduceAdd, Int.toNat_zero, Int.reduceToNat, zI1, zI2, Int.cast_ofNat_Int, false_and, Md.QJ, Md.QG, and_true, true_and, and_self, hr, c1, c3]
   rw[<-hK,Z8 (on S _ _ [2,3,4,5,6,7] (by decide) rfl) rfl _ _ _ _ _ _ _ _ _ rfl]
   simp only[eG,go_sem,Z3 S,Z2 S,zN0,zN1,zN2,zN3,zN4,zI0,zI1,zI2,zI3,reduceCtorEq,Q5 S]
theorem Zhn (dp:Nat)(l:List Int)(kx:Nat->K)(kr:K)(f:Nat)(W wn pub sec r0 r1 r2 r3 r:Int)(hr:Md.r4.getD (Md.YF (Md.ZZ (Md.kM l 1) 6) 3).toNat 0=r):
  QV (Zj E 13) (Z4 E fn (dp+1)) (Z9 12 QV (Zj E 13) (Z4 E fn (dp+1)) kx kr (f+1)) kx kr (mk .bot 171 [(2,.ref 0 0 0),(3,.fn (.func 38) [.ref 1 0 0]),(4,.ref 2 0 0),(5,aI pub),(6,aI sec),(7,aI 3)]) [.cells [zi,zi,zi,zi,zi,zi,zi,zn,zn,zn] 0 false,.cells [.d (rD l)] 0 false,.cells [aI W,aI wn,aI 6,aI r0,aI r1,aI r2,aI r3,zn,zn,zn] 0 false]=
  QV (Zj E 13) (Z4 E fn (dp+1)) (Z9 12 QV (Zj E 13) (Z4 E fn (dp+1)) kx kr f) kx kr (mk .bot 171 [(2,.ref 0 0 0),(3,.fn (.func 38) [.ref 1 0 0]),(4,.ref 2 0 0),(5,aI (Md.QJ W pub sec r).2.1),(6,aI (Md.QJ W pub sec r).2.2),(7,aI 4)]) [.cells [zi,zi,zi,zi,zi,zi,zi,zn,zn,zn] 0 false,.cells [.d (rD l)] 0 false,.cells [aI W,aI wn,aI 6,aI r0,aI r1,aI r2,aI (Md.QJ W pub sec r).1,zn,zn,zn] 0 false]:=by
 have w1:∀ z:Int,0<=z->z<100->IntKind.i64.wrap z=z:=fun z h1 h2=>YH (by omega) (by omega)
 have w2:∀ z:Int,0<=z->z<100->IntKind.u64.wrap z=z:=fun z h1 h2=>Rq (by omega) (by omega)
 have r4':∀ {α:Type} (l:List α),rep l 4=l++(l++(l++l)):=fun l=>by simp[rep]
 generalize hK:Z9 12 QV _ _ kx kr (f+1)=KK
 first | (conv=>lhs;rw[QV]) | rw[QV]
 by_cases c1:r=1
 ·by_cases c2 : IntKind.i64.wrap (pub + W) <= 2
  ·simp only [eG, go_sem, Z3 S, Z2 S, zN0, zN1, zN2, zN3, zN4, zI0, zI1, zI2, zI3, reduceCtorEq, Q5 S, YY, Q7, Q6, w1, w2, r4', Q9 S, BZ, C3, C2, C1, C0, Q1, Cj, Int.reduceMul, Int.reduceAdd, Int.toNat_zero, Int.reduceToNat, zI1, zI2, Int.cast_ofNat_Int, false_and, Md.QJ, Md.QG, and_true, true_and, and_self, hr, c1, c2]
   rw[<-hK,Z8 (on S _ _ [2,3,4,5,6,7] (by decide) rfl) rfl _ _ _ _ _ _ _ _ _ rfl]
   simp only[eG,go_sem,Z3 S,Z2 S,zN0,zN1,zN2,zN3,zN4,zI0,zI1,zI2,zI3,reduceCtorEq,Q5 S]
  ·simp only [eG, go_sem, Z3 S, Z2 S, zN0, zN1, zN2, zN3, zN4, zI0, zI1, zI2, zI3, reduceCtorEq, Q5 S, YY, Q7, Q6, w1, w2, r4', Q9 S, BZ, C3, C2, C1, C0, Q1, Cj, Int.reduceMul, Int.reduceAdd, Int.toNat_zero, Int.reduceToNat, zI1, zI2, Int.cast_ofNat_Int, false_and, Md.QJ, Md.QG, and_true, true_and, and_self, hr, c1, c2]
   rw[<-hK,Z8 (on S _ _ [2,3,4,5,6,7] (by decide) rfl) rfl _ _ _ _ _ _ _ _ _ rfl]
   simp only[eG,go_sem,Z3 S,Z2 S,zN0,zN1,zN2,zN3,zN4,zI0,zI1,zI2,zI3,reduceCtorEq,Q5 S]
 ·by_cases c3 : r = 2
  ·by_cases c4 : IntKind.i64.wrap (sec + W) <= 2
   ·simp only [eG, go_sem, Z3 S, Z2 S, zN0, zN1, zN2, zN3, zN4, zI0, zI1, zI2, zI3, reduceCtorEq, Q5 S, YY, Q7, Q6, w1, w2, r4', Q9 S, BZ, C3, C2, C1, C0, Q1, Cj, Int.reduceMul, Int.reduceAdd, Int.toNat_zero, Int.reduceToNat, zI1, zI2, Int.cast_ofNat_Int, false_and, Md.QJ, Md.QG, and_true, true_and, and_self, hr, c1, c3, c4]
    rw[<-hK,Z8 (on S _ _ [2,3,4,5,6,7] (by decide) rfl) rfl _ _ _ _ _ _ _ _ _ rfl]
    simp only[eG,go_sem,Z3 S,Z2 S,zN0,zN1,zN2,zN3,zN4,zI0,zI1,zI2,zI3,reduceCtorEq,Q5 S]
   ·simp only [eG, go_sem, Z3 S, Z2 S, zN0, zN1, zN2, zN3, zN4, zI0, zI1, zI2, zI3, reduceCtorEq, Q5 S, YY, Q7, Q6, w1, w2, r4', Q9 S, BZ, C3, C2, C1, C0, Q1, Cj, Int.reduceMul, Int.reduceAdd, Int.toNat_zero, Int.reduceToNat, zI1, zI2, Int.cast_ofNat_Int, false_and, Md.QJ, Md.QG, and_true, true_and, and_self, hr, c1, c3, c4]
    rw[<-hK,Z8 (on S _ _ [2,3,4,5,6,7] (by decide) rfl) rfl _ _ _ _ _ _ _ _ _ rfl]
    simp only[eG,go_sem,Z3 S,Z2 S,zN0,zN1,zN2,zN3,zN4,zI0,zI1,zI2,zI3,reduceCtorEq,Q5 S]
  ·simp only [eG, go_sem, Z3 S, Z2 S, zN0, zN1, zN2, zN3, zN4, zI0, zI1, zI2, zI3, reduceCtorEq, Q5 S, YY, Q7, Q6, w1, w2, r4', Q9 S, BZ, C3, C2, C1, C0, Q1, Cj, Int.reduceMul, Int.reduceAdd, Int.toNat_zero, Int.reduceToNat, zI1, zI2, Int.cast_ofNat_Int, false_and, Md.QJ, Md.QG, and_true, true_and, and_self, hr, c1, c3]
   rw[<-hK,Z8 (on S _ _ [2,3,4,5,6,7] (by decide) rfl) rfl _ _ _ _ _ _ _ _ _ rfl]
   simp only[eG,go_sem,Z3 S,Z2 S,zN0,zN1,zN2,zN3,zN4,zI0,zI1,zI2,zI3,reduceCtorEq,Q5 S]
theorem Zop (dp:Nat)(l:List Int)(kx:Nat->K)(kr:K)(f:Nat)(hf:4<=f)(W wn:Int):
  QV (Zj E 13) (Z4 E fn (dp+1)) (Z9 12 QV (Zj E 13) (Z4 E fn (dp+1)) kx kr f) kx kr (mk .bot 171 [(2,.ref 0 0 0),(3,.fn (.func 38) [.ref 1 0 0]),(4,.ref 2 0 0),(5,aI 0),(6,aI 0),(7,aI 0)]) [.cells [zi,zi,zi,zi,zi,zi,zi,zn,zn,zn] 0 false,.cells [.d (rD l)] 0 false,.cells [aI W,aI wn,aI 6,aI 0,aI 0,aI 0,aI 0,zn,zn,zn] 0 false]=
  kx 0 (mk .bot 171 ((24,Yx false)::(23,aI 4)::[(2,.ref 0 0 0),(3,.fn (.func 38) [.ref 1 0 0]),(4,.ref 2 0 0),(5,aI (Md.QW l W).2.1),(6,aI (Md.QW l W).2.2),(7,aI 4)])) [.cells [zi,zi,zi,zi,zi,zi,zi,zn,zn,zn] 0 false,.cells [.d (rD l)] 0 false,.cells [aI W,aI wn,aI 6,aI (Md.JD l W).1,aI (Md.JC l W).1,aI (Md.JB l W).1,aI (Md.QW l W).1,zn,zn,zn] 0 false]:=by
 obtain⟨f,rfl⟩:∃ g,f=g+4:=⟨f-4,by omega⟩
 rw[Zhq S dp l kx kr (f+3) W wn 0 0 0 0 0 0 _ rfl,Zhp S dp l kx kr (f+2) W wn _ _ _ 0 0 0 _ rfl,Zho S dp l kx kr (f+1) W wn _ _ _ _ 0 0 _ rfl,Zhn S dp l kx kr f W wn _ _ _ _ _ 0 _ rfl]
 generalize Z9 12 QV _ _ kx kr f=KK
 first | (conv=>lhs;rw[QV]) | rw[QV]
 simp only[eG,go_sem,Z3 S,Z2 S,zN0,zN1,zN2,zN3,zN4,zI0,zI1,zI2,zI3,reduceCtorEq,Q5 S]
 rfl
end
theorem BG (A:List Blk)(s:Nat)(cs:List DV)(k:Option Nat)(h:cs.length=s):E9 A false s (.d (.lst cs 1 k))=some (cs.map .d,1):=by
 show(if cs.length=1*s then some (cs.map AV.d,1) else none)=_
 rw[if_pos (by omega)]
theorem MF (n:Nat):YT .add (.d (vt ⟨#[108]⟩)) (.d (vt (S5 n)))=some (.d (vt (Md.HQ n).name)):=by
 have e:(⟨#[108]⟩:ByteArray)++S5 n=(Md.HQ n).name:=by
  apply ByteArray.ext
  simp[S5,Md.HQ]
 rw[XZ _ _ (by rw[<-ByteArray.size_append,e];show(2:Nat)<=_;decide),e]
theorem N1:24<=Z5:=by unfold Z5;decide
theorem MZ:80<=Z5:=by unfold Z5;decide
theorem l1:1<=Z5:=by unfold Z5;decide
theorem Xw {A:List Blk}{bytes j v:Nat}{out:List Label}{nm:ByteArray}{z:Int}(hA:A[j]? =some (.cells ((rC out).map .d) v false))(h1:(out.length+1)*bytes<=Z5)(h2:out.length+1<=Z5):
  YU A 2 bytes (.sref j v 0 out.length 2 none) [.d (vt nm),.d (vi z)] 1=some (.turn j (.cells ((rC (out++[⟨nm,z⟩])).map .d) (v+1) false) (.sref j (v+1) 0 (out.length+1) 2 none)):=
 M0 (x:=(⟨nm,z⟩:Label)) hA rfl (by decide) rfl h1 h2
theorem Xz {A:List Blk}{bytes j v:Nat}{out:List Ins}{k o d an bn tg:Int}{ag bg:Bool}{nm:ByteArray}(hA:A[j]? =some (.cells ((rC out).map .d) v false))(h1:(out.length+1)*bytes<=Z5)(h2:out.length+1<=Z5):
  YU A 9 bytes (.sref j v 0 out.length 9 none) [.d (vi k),.d (vi o),.d (vi d),.d (vb ag),.d (vi an),.d (vb bg),.d (vi bn),.d (vt nm),.d (vi tg)] 1=some (.turn j (.cells ((rC (out++[⟨k,o,d,⟨ag,an⟩,⟨bg,bn⟩,nm,tg⟩])).map .d) (v+1) false) (.sref j (v+1) 0 (out.length+1) 9 none)):=
 M0 (x:=(⟨k,o,d,⟨ag,an⟩,⟨bg,bn⟩,nm,tg⟩:Ins)) hA rfl (by decide) rfl h1 h2
variable {E:Env} {fn:FuncId->Option (Env->cT->cT)}
section
variable (S:Sur E fn)
include S
theorem DP:E.lives 13 1=none/\E.lives 13 23=none/\E.lives 13 27=none/\E.lives 13 31=none/\E.lives 13 35=none/\E.lives 13 39=none:=⟨off S 13 1 (by decide) rfl,off S 13 23 (by decide) rfl,off S 13 27 (by decide) rfl,off S 13 31 (by decide) rfl,off S 13 35 (by decide) rfl,off S 13 39 (by decide) rfl⟩
theorem Zq5 (dp:Nat)(l:List Int)(kx:Nat->K)(kr:K)(f n:Nat)(W wn r0 r1 r2 r3:Int)(hn:n<6):
  Q3 (Zj E 13) (Z4 E fn (dp+2)) (Z9 44 Q3 (Zj E 13) (Z4 E fn (dp+2)) kx kr (f+1)) kx kr (mk .bot 171 [(2,.ref 0 0 0),(3,.fn (.func 38) [.ref 1 0 0]),(4,.ref 2 0 0),(8,aI n),(9,aI 0)]) [.cells [zi,zi,zi,zi,zi,zi,zi,zn,zn,zn] 0 false,.cells [.d (rD l)] 0 false,.cells [aI W,aI wn,aI 6,aI r0,aI r1,aI r2,aI r3,zn,zn,zn] 0 false]=
  Q3 (Zj E 13) (Z4 E fn (dp+2)) (Z9 44 Q3 (Zj E 13) (Z4 E fn (dp+2)) kx kr f) kx kr (mk .bot 171 [(2,.ref 0 0 0),(3,.fn (.func 38) [.ref 1 0 0]),(4,.ref 2 0 0),(8,aI n),(9,aI 1)]) [.cells [zi,zi,zi,zi,zi,zi,zi,zn,zn,zn] 0 false,.cells [.d (rD l)] 0 false,.cells [aI W,aI wn,aI 6,aI r0,aI r1,aI r2,aI r3,zn,.sref 3 0 0 1 2 none,zn] 0 false,.cells ((rC [Md.HQ 0]).map .d) 0 false]:=by
 have w1:∀ z:Int,0<=z->z<100->IntKind.i64.wrap z=z:=fun z h1 h2=>YH (by omega) (by omega)
 have hn1:n<1000:=by omega
 have hjn:(0:Int)<=n:=by omega
 generalize hK:Z9 44 Q3 _ _ kx kr (f+1)=KK
 first | (conv=>lhs;rw[Q3]) | rw[Q3]
 simp only[eG,go_sem,Z3 S,Z2 S,zN0,zN1,zN2,zN3,zN4,zI0,zI1,zI2,zI3,reduceCtorEq,DP S,YY,Q7,Q6,w1,Zq,NF S,Q9 S,NC S,Int.reduceMul,Int.reduceAdd,Int.toNat_zero,Int.reduceToNat,zI1,zI2,MF,BG,KT,KS,N1,MZ,l1,Nat.le_refl,and_true,true_and,and_self,hjn,hn1]
 rw[<-hK,Z8 (on S _ _ [2,3,4,8,9] (by decide) rfl) rfl _ _ _ _ _ _ _ _ _ rfl]
 simp only[eG,go_sem,Z3 S,Z2 S,zN0,zN1,zN2,zN3,zN4,zI0,zI1,zI2,zI3,reduceCtorEq,DP S]
 try rfl
theorem Znl (dp:Nat)(l:List Int)(kx:Nat->K)(kr:K)(f n:Nat)(W wn r0 r1 r2 r3:Int)(j:Nat)(ls:List Label)(hj:j<=n)(hn:n<6)(hz:ls.length<100):
  Q3 (Zj E 13) (Z4 E fn (dp+2)) (Z9 44 Q3 (Zj E 13) (Z4 E fn (dp+2)) kx kr (f+1)) kx kr (mk .bot 171 [(2,.ref 0 0 0),(3,.fn (.func 38) [.ref 1 0 0]),(4,.ref 2 0 0),(8,aI n),(9,aI j)]) [.cells [zi,zi,zi,zi,zi,zi,zi,zn,zn,zn] 0 false,.cells [.d (rD l)] 0 false,.cells [aI W,aI wn,aI 6,aI r0,aI r1,aI r2,aI r3,zn,.sref 3 0 0 ls.length 2 none,zn] 0 false,.cells ((rC ls).map .d) 0 false]=
  Q3 (Zj E 13) (Z4 E fn (dp+2)) (Z9 44 Q3 (Zj E 13) (Z4 E fn (dp+2)) kx kr f) kx kr (mk .bot 171 [(2,.ref 0 0 0),(3,.fn (.func 38) [.ref 1 0 0]),(4,.ref 2 0 0),(8,aI n),(9,aI (j+1))]) [.cells [zi,zi,zi,zi,zi,zi,zi,zn,zn,zn] 0 false,.cells [.d (rD l)] 0 false,.cells [aI W,aI wn,aI 6,aI r0,aI r1,aI r2,aI r3,zn,.sref 3 0 0 (ls.length+1) 2 none,zn] 0 false,.cells ((rC (ls++[Md.HQ j])).map .d) 0 false]:=by
 have w1:∀ z:Int,0<=z->z<100->IntKind.i64.wrap z=z:=fun z h1 h2=>YH (by omega) (by omega)
 have hn1:n<1000:=by omega
 have h6:(j:Int)<6:=by omega
 have h0:(0:Int)<=j:=by omega
 have h02:(0:Int)<=j+2:=by omega
 have wj1:IntKind.i64.wrap ((j:Int)+1)=(j:Int)+1:=w1 _ (by omega) (by omega)
 have wj2:IntKind.i64.wrap ((j:Int)+2)=(j:Int)+2:=w1 _ (by omega) (by omega)
 have hjn:(j:Int)<=n:=by omega
 have k1:(ls.length+1)*24<=Z5:=by unfold Z5;omega
 have k2:ls.length+1<=Z5:=by unfold Z5;omega
 generalize hK:Z9 44 Q3 _ _ kx kr (f+1)=KK
 first | (conv=>lhs;rw[Q3]) | rw[Q3]
 simp only[eG,go_sem,Z3 S,Z2 S,zN0,zN1,zN2,zN3,zN4,zI0,zI1,zI2,zI3,reduceCtorEq,DP S,YY,Q7,Q6,w1,Zq,NF S,Q9 S,NC S,Int.reduceMul,Int.reduceAdd,Int.toNat_zero,Int.reduceToNat,zI1,zI2,MF,BG,KT,KS,N1,MZ,l1,Nat.le_refl,and_true,true_and,and_self,h6,h0,h02,wj1,wj2,hjn,k1,k2,hn1,Int.toNat_natCast,Xw,Xz]
 rw[<-hK,Z8 (on S _ _ [2,3,4,8,9] (by decide) rfl) rfl _ _ _ _ _ _ _ _ _ rfl]
 simp only[eG,go_sem,Z3 S,Z2 S,zN0,zN1,zN2,zN3,zN4,zI0,zI1,zI2,zI3,reduceCtorEq,DP S]
 try rfl
theorem Zq3 (dp:Nat)(l:List Int)(kx:Nat->K)(kr:K)(f n:Nat)(ls:List Label)(W wn r0 r1 r2 r3:Int)(hj:0<n)(hn:n<6):
  Q2 (Zj E 13) (Z4 E fn (dp+2)) (Z9 52 Q2 (Zj E 13) (Z4 E fn (dp+2)) kx kr (f+1)) kx kr (mk .bot 171 [(2,.ref 0 0 0),(3,.fn (.func 38) [.ref 1 0 0]),(4,.ref 2 0 0),(8,aI n),(10,aI 0)]) [.cells [zi,zi,zi,zi,zi,zi,zi,zn,zn,zn] 0 false,.cells [.d (rD l)] 0 false,.cells [aI W,aI wn,aI 6,aI r0,aI r1,aI r2,aI r3,zn,.sref 3 0 0 ls.length 2 none,zn] 0 false,.cells ((rC ls).map .d) 0 false]=
  Q2 (Zj E 13) (Z4 E fn (dp+2)) (Z9 52 Q2 (Zj E 13) (Z4 E fn (dp+2)) kx kr f) kx kr (mk .bot 171 [(2,.ref 0 0 0),(3,.fn (.func 38) [.ref 1 0 0]),(4,.ref 2 0 0),(8,aI n),(10,aI 1)]) [.cells [zi,zi,zi,zi,zi,zi,zi,zn,zn,zn] 0 false,.cells [.d (rD l)] 0 false,.cells [aI W,aI wn,aI 6,aI r0,aI r1,aI r2,aI r3,zn,.sref 3 0 0 ls.length 2 none,.sref 4 0 0 1 9 none] 0 false,.cells ((rC ls).map .d) 0 false,.cells ((rC [Md.A7 (Md.kM l 2) n]).map .d) 0 false]:=by
 have w1:∀ z:Int,0<=z->z<100->IntKind.i64.wrap z=z:=fun z h1 h2=>YH (by omega) (by omega)
 have hn1:n<1000:=by omega
 have hjn:(0:Int)<n:=by omega
 generalize hK:Z9 52 Q2 _ _ kx kr (f+1)=KK
 first | (conv=>lhs;rw[Q2]) | rw[Q2]
 simp only[eG,go_sem,Z3 S,Z2 S,zN0,zN1,zN2,zN3,zN4,zI0,zI1,zI2,zI3,reduceCtorEq,DP S,YY,Q7,Q6,w1,Zq,NF S,Q9 S,NC S,Int.reduceMul,Int.reduceAdd,Int.toNat_zero,Int.reduceToNat,zI1,zI2,MF,BG,KT,KS,N1,MZ,l1,Nat.le_refl,and_true,true_and,and_self,hjn,hn1]
 rw[<-hK,Z8 (on S _ _ [2,3,4,8,10] (by decide) rfl) rfl _ _ _ _ _ _ _ _ _ rfl]
 simp only[eG,go_sem,Z3 S,Z2 S,zN0,zN1,zN2,zN3,zN4,zI0,zI1,zI2,zI3,reduceCtorEq,DP S]
 try rfl
theorem Znj (dp:Nat)(l:List Int)(kx:Nat->K)(kr:K)(f n:Nat)(ls:List Label)(W wn r0 r1 r2 r3:Int)(j:Nat)(is:List Ins)(hj:j<n)(hn:n<6)(hz:is.length<100):
  Q2 (Zj E 13) (Z4 E fn (dp+2)) (Z9 52 Q2 (Zj E 13) (Z4 E fn (dp+2)) kx kr (f+1)) kx kr (mk .bot 171 [(2,.ref 0 0 0),(3,.fn (.func 38) [.ref 1 0 0]),(4,.ref 2 0 0),(8,aI n),(10,aI j)]) [.cells [zi,zi,zi,zi,zi,zi,zi,zn,zn,zn] 0 false,.cells [.d (rD l)] 0 false,.cells [aI W,aI wn,aI 6,aI r0,aI r1,aI r2,aI r3,zn,.sref 3 0 0 ls.length 2 none,.sref 4 0 0 is.length 9 none] 0 false,.cells ((rC ls).map .d) 0 false,.cells ((rC is).map .d) 0 false]=
  Q2 (Zj E 13) (Z4 E fn (dp+2)) (Z9 52 Q2 (Zj E 13) (Z4 E fn (dp+2)) kx kr f) kx kr (mk .bot 171 [(2,.ref 0 0 0),(3,.fn (.func 38) [.ref 1 0 0]),(4,.ref 2 0 0),(8,aI n),(10,aI (j+1))]) [.cells [zi,zi,zi,zi,zi,zi,zi,zn,zn,zn] 0 false,.cells [.d (rD l)] 0 false,.cells [aI W,aI wn,aI 6,aI r0,aI r1,aI r2,aI r3,zn,.sref 3 0 0 ls.length 2 none,.sref 4 0 0 (is.length+1) 9 none] 0 false,.cells ((rC ls).map .d) 0 false,.cells ((rC (is++[Md.A7 (Md.kM l (j+2)) n])).map .d) 0 false]:=by
 have w1:∀ z:Int,0<=z->z<100->IntKind.i64.wrap z=z:=fun z h1 h2=>YH (by omega) (by omega)
 have hn1:n<1000:=by omega
 have h6:(j:Int)<6:=by omega
 have h0:(0:Int)<=j:=by omega
 have h02:(0:Int)<=j+2:=by omega
 have wj1:IntKind.i64.wrap ((j:Int)+1)=(j:Int)+1:=w1 _ (by omega) (by omega)
 have wj2:IntKind.i64.wrap ((j:Int)+2)=(j:Int)+2:=w1 _ (by omega) (by omega)
 have hjn:(j:Int)<n:=by omega
 have k1:(is.length+1)*80<=Z5:=by unfold Z5;omega
 have k2:is.length+1<=Z5:=by unfold Z5;omega
 generalize hK:Z9 52 Q2 _ _ kx kr (f+1)=KK
 first | (conv=>lhs;rw[Q2]) | rw[Q2]
 simp only[eG,go_sem,Z3 S,Z2 S,zN0,zN1,zN2,zN3,zN4,zI0,zI1,zI2,zI3,reduceCtorEq,DP S,YY,Q7,Q6,w1,Zq,NF S,Q9 S,NC S,Int.reduceMul,Int.reduceAdd,Int.toNat_zero,Int.reduceToNat,zI1,zI2,MF,BG,KT,KS,N1,MZ,l1,Nat.le_refl,and_true,true_and,and_self,h6,h0,h02,wj1,wj2,hjn,k1,k2,hn1,Int.toNat_natCast,Xw,Xz]
 rw[<-hK,Z8 (on S _ _ [2,3,4,8,10] (by decide) rfl) rfl _ _ _ _ _ _ _ _ _ rfl]
 simp only[eG,go_sem,Z3 S,Z2 S,zN0,zN1,zN2,zN3,zN4,zI0,zI1,zI2,zI3,reduceCtorEq,DP S]
 try rfl
theorem Zq4 (dp:Nat)(l:List Int)(kx:Nat->K)(kr:K)(f n:Nat)(ms:List MemT)(W wn r0 r1 r2 r3:Int)(hn:n<6):
  Q3 (Zj E 13) (Z4 E fn (dp+2)) (Z9 44 Q3 (Zj E 13) (Z4 E fn (dp+2)) kx kr (f+1)) kx kr (mk .bot 171 [(2,.ref 0 0 0),(3,.fn (.func 38) [.ref 1 0 0]),(4,.ref 2 0 0),(8,aI n),(9,aI 0)]) [.cells [zi,zi,zi,zi,zi,zi,zi,zn,zn,zn] 0 false,.cells [.d (rD l)] 0 false,.cells [aI W,aI wn,aI 6,aI r0,aI r1,aI r2,aI r3,.sref 3 0 0 ms.length 3 none,zn,zn] 0 false,.cells ((rC ms).map .d) 0 false]=
  Q3 (Zj E 13) (Z4 E fn (dp+2)) (Z9 44 Q3 (Zj E 13) (Z4 E fn (dp+2)) kx kr f) kx kr (mk .bot 171 [(2,.ref 0 0 0),(3,.fn (.func 38) [.ref 1 0 0]),(4,.ref 2 0 0),(8,aI n),(9,aI 1)]) [.cells [zi,zi,zi,zi,zi,zi,zi,zn,zn,zn] 0 false,.cells [.d (rD l)] 0 false,.cells [aI W,aI wn,aI 6,aI r0,aI r1,aI r2,aI r3,.sref 3 0 0 ms.length 3 none,.sref 4 0 0 1 2 none,zn] 0 false,.cells ((rC ms).map .d) 0 false,.cells ((rC [Md.HQ 0]).map .d) 0 false]:=by
 have w1:∀ z:Int,0<=z->z<100->IntKind.i64.wrap z=z:=fun z h1 h2=>YH (by omega) (by omega)
 have hn1:n<1000:=by omega
 have hjn:(0:Int)<=n:=by omega
 generalize hK:Z9 44 Q3 _ _ kx kr (f+1)=KK
 first | (conv=>lhs;rw[Q3]) | rw[Q3]
 simp only[eG,go_sem,Z3 S,Z2 S,zN0,zN1,zN2,zN3,zN4,zI0,zI1,zI2,zI3,reduceCtorEq,DP S,YY,Q7,Q6,w1,Zq,NF S,Q9 S,NC S,Int.reduceMul,Int.reduceAdd,Int.toNat_zero,Int.reduceToNat,zI1,zI2,MF,BG,KT,KS,N1,MZ,l1,Nat.le_refl,and_true,true_and,and_self,hjn,hn1]
 rw[<-hK,Z8 (on S _ _ [2,3,4,8,9] (by decide) rfl) rfl _ _ _ _ _ _ _ _ _ rfl]
 simp only[eG,go_sem,Z3 S,Z2 S,zN0,zN1,zN2,zN3,zN4,zI0,zI1,zI2,zI3,reduceCtorEq,DP S]
 try rfl
theorem Znk (dp:Nat)(l:List Int)(kx:Nat->K)(kr:K)(f n:Nat)(ms:List MemT)(W wn r0 r1 r2 r3:Int)(j:Nat)(ls:List Label)(hj:j<=n)(hn:n<6)(hz:ls.length<100):
  Q3 (Zj E 13) (Z4 E fn (dp+2)) (Z9 44 Q3 (Zj E 13) (Z4 E fn (dp+2)) kx kr (f+1)) kx kr (mk .bot 171 [(2,.ref 0 0 0),(3,.fn (.func 38) [.ref 1 0 0]),(4,.ref 2 0 0),(8,aI n),(9,aI j)]) [.cells [zi,zi,zi,zi,zi,zi,zi,zn,zn,zn] 0 false,.cells [.d (rD l)] 0 false,.cells [aI W,aI wn,aI 6,aI r0,aI r1,aI r2,aI r3,.sref 3 0 0 ms.length 3 none,.sref 4 0 0 ls.length 2 none,zn] 0 false,.cells ((rC ms).map .d) 0 false,.cells ((rC ls).map .d) 0 false]=
  Q3 (Zj E 13) (Z4 E fn (dp+2)) (Z9 44 Q3 (Zj E 13) (Z4 E fn (dp+2)) kx kr f) kx kr (mk .bot 171 [(2,.ref 0 0 0),(3,.fn (.func 38) [.ref 1 0 0]),(4,.ref 2 0 0),(8,aI n),(9,aI (j+1))]) [.cells [zi,zi,zi,zi,zi,zi,zi,zn,zn,zn] 0 false,.cells [.d (rD l)] 0 false,.cells [aI W,aI wn,aI 6,aI r0,aI r1,aI r2,aI r3,.sref 3 0 0 ms.length 3 none,.sref 4 0 0 (ls.length+1) 2 none,zn] 0 false,.cells ((rC ms).map .d) 0 false,.cells ((rC (ls++[Md.HQ j])).map .d) 0 false]:=by
 have w1:∀ z:Int,0<=z->z<100->IntKind.i64.wrap z=z:=fun z h1 h2=>YH (by omega) (by omega)
 have hn1:n<1000:=by omega
 have h6:(j:Int)<6:=by omega
 have h0:(0:Int)<=j:=by omega
 have h02:(0:Int)<=j+2:=by omega
 have wj1:IntKind.i64.wrap ((j:Int)+1)=(j:Int)+1:=w1 _ (by omega) (by omega)
 have wj2:IntKind.i64.wrap ((j:Int)+2)=(j:Int)+2:=w1 _ (by omega) (by omega)
 have hjn:(j:Int)<=n:=by omega
 have k1:(ls.length+1)*24<=Z5:=by unfold Z5;omega
 have k2:ls.length+1<=Z5:=by unfold Z5;omega
 generalize hK:Z9 44 Q3 _ _ kx kr (f+1)=KK
 first | (conv=>lhs;rw[Q3]) | rw[Q3]
 simp only[eG,go_sem,Z3 S,Z2 S,zN0,zN1,zN2,zN3,zN4,zI0,zI1,zI2,zI3,reduceCtorEq,DP S,YY,Q7,Q6,w1,Zq,NF S,Q9 S,NC S,Int.reduceMul,Int.reduceAdd,Int.toNat_zero,Int.reduceToNat,zI1,zI2,MF,BG,KT,KS,N1,MZ,l1,Nat.le_refl,and_true,true_and,and_self,h6,h0,h02,wj1,wj2,hjn,k1,k2,hn1,Int.toNat_natCast,Xw,Xz]
 rw[<-hK,Z8 (on S _ _ [2,3,4,8,9] (by decide) rfl) rfl _ _ _ _ _ _ _ _ _ rfl]
 simp only[eG,go_sem,Z3 S,Z2 S,zN0,zN1,zN2,zN3,zN4,zI0,zI1,zI2,zI3,reduceCtorEq,DP S]
 try rfl
theorem Zq2 (dp:Nat)(l:List Int)(kx:Nat->K)(kr:K)(f n:Nat)(ms:List MemT)(ls:List Label)(W wn r0 r1 r2 r3:Int)(hj:0<n)(hn:n<6):
  Q2 (Zj E 13) (Z4 E fn (dp+2)) (Z9 52 Q2 (Zj E 13) (Z4 E fn (dp+2)) kx kr (f+1)) kx kr (mk .bot 171 [(2,.ref 0 0 0),(3,.fn (.func 38) [.ref 1 0 0]),(4,.ref 2 0 0),(8,aI n),(10,aI 0)]) [.cells [zi,zi,zi,zi,zi,zi,zi,zn,zn,zn] 0 false,.cells [.d (rD l)] 0 false,.cells [aI W,aI wn,aI 6,aI r0,aI r1,aI r2,aI r3,.sref 3 0 0 ms.length 3 none,.sref 4 0 0 ls.length 2 none,zn] 0 false,.cells ((rC ms).map .d) 0 false,.cells ((rC ls).map .d) 0 false]=
  Q2 (Zj E 13) (Z4 E fn (dp+2)) (Z9 52 Q2 (Zj E 13) (Z4 E fn (dp+2)) kx kr f) kx kr (mk .bot 171 [(2,.ref 0 0 0),(3,.fn (.func 38) [.ref 1 0 0]),(4,.ref 2 0 0),(8,aI n),(10,aI 1)]) [.cells [zi,zi,zi,zi,zi,zi,zi,zn,zn,zn] 0 false,.cells [.d (rD l)] 0 false,.cells [aI W,aI wn,aI 6,aI r0,aI r1,aI r2,aI r3,.sref 3 0 0 ms.length 3 none,.sref 4 0 0 ls.length 2 none,.sref 5 0 0 1 9 none] 0 false,.cells ((rC ms).map .d) 0 false,.cells ((rC ls).map .d) 0 false,.cells ((rC [Md.A7 (Md.kM l 2) n]).map .d) 0 false]:=by
 have w1:∀ z:Int,0<=z->z<100->IntKind.i64.wrap z=z:=fun z h1 h2=>YH (by omega) (by omega)
 have hn1:n<1000:=by omega
 have hjn:(0:Int)<n:=by omega
 generalize hK:Z9 52 Q2 _ _ kx kr (f+1)=KK
 first | (conv=>lhs;rw[Q2]) | rw[Q2]
 simp only[eG,go_sem,Z3 S,Z2 S,zN0,zN1,zN2,zN3,zN4,zI0,zI1,zI2,zI3,reduceCtorEq,DP S,YY,Q7,Q6,w1,Zq,NF S,Q9 S,NC S,Int.reduceMul,Int.reduceAdd,Int.toNat_zero,Int.reduceToNat,zI1,zI2,MF,BG,KT,KS,N1,MZ,l1,Nat.le_refl,and_true,true_and,and_self,hjn,hn1]
 rw[<-hK,Z8 (on S _ _ [2,3,4,8,10] (by decide) rfl) rfl _ _ _ _ _ _ _ _ _ rfl]
 simp only[eG,go_sem,Z3 S,Z2 S,zN0,zN1,zN2,zN3,zN4,zI0,zI1,zI2,zI3,reduceCtorEq,DP S]
 try rfl
theorem Zni (dp:Nat)(l:List Int)(kx:Nat->K)(kr:K)(f n:Nat)(ms:List MemT)(ls:List Label)(W wn r0 r1 r2 r3:Int)(j:Nat)(is:List Ins)(hj:j<n)(hn:n<6)(hz:is.length<100):
  Q2 (Zj E 13) (Z4 E fn (dp+2)) (Z9 52 Q2 (Zj E 13) (Z4 E fn (dp+2)) kx kr (f+1)) kx kr (mk .bot 171 [(2,.ref 0 0 0),(3,.fn (.func 38) [.ref 1 0 0]),(4,.ref 2 0 0),(8,aI n),(10,aI j)]) [.cells [zi,zi,zi,zi,zi,zi,zi,zn,zn,zn] 0 false,.cells [.d (rD l)] 0 false,.cells [aI W,aI wn,aI 6,aI r0,aI r1,aI r2,aI r3,.sref 3 0 0 ms.length 3 none,.sref 4 0 0 ls.length 2 none,.sref 5 0 0 is.length 9 none] 0 false,.cells ((rC ms).map .d) 0 false,.cells ((rC ls).map .d) 0 false,.cells ((rC is).map .d) 0 false]=
  Q2 (Zj E 13) (Z4 E fn (dp+2)) (Z9 52 Q2 (Zj E 13) (Z4 E fn (dp+2)) kx kr f) kx kr (mk .bot 171 [(2,.ref 0 0 0),(3,.fn (.func 38) [.ref 1 0 0]),(4,.ref 2 0 0),(8,aI n),(10,aI (j+1))]) [.cells [zi,zi,zi,zi,zi,zi,zi,zn,zn,zn] 0 false,.cells [.d (rD l)] 0 false,.cells [aI W,aI wn,aI 6,aI r0,aI r1,aI r2,aI r3,.sref 3 0 0 ms.length 3 none,.sref 4 0 0 ls.length 2 none,.sref 5 0 0 (is.length+1) 9 none] 0 false,.cells ((rC ms).map .d) 0 false,.cells ((rC ls).map .d) 0 false,.cells ((rC (is++[Md.A7 (Md.kM l (j+2)) n])).map .d) 0 false]:=by
 have w1:∀ z:Int,0<=z->z<100->IntKind.i64.wrap z=z:=fun z h1 h2=>YH (by omega) (by omega)
 have hn1:n<1000:=by omega
 have h6:(j:Int)<6:=by omega
 have h0:(0:Int)<=j:=by omega
 have h02:(0:Int)<=j+2:=by omega
 have wj1:IntKind.i64.wrap ((j:Int)+1)=(j:Int)+1:=w1 _ (by omega) (by omega)
 have wj2:IntKind.i64.wrap ((j:Int)+2)=(j:Int)+2:=w1 _ (by omega) (by omega)
 have hjn:(j:Int)<n:=by omega
 have k1:(is.length+1)*80<=Z5:=by unfold Z5;omega
 have k2:is.length+1<=Z5:=by unfold Z5;omega
 generalize hK:Z9 52 Q2 _ _ kx kr (f+1)=KK
 first | (conv=>lhs;rw[Q2]) | rw[Q2]
 simp only[eG,go_sem,Z3 S,Z2 S,zN0,zN1,zN2,zN3,zN4,zI0,zI1,zI2,zI3,reduceCtorEq,DP S,YY,Q7,Q6,w1,Zq,NF S,Q9 S,NC S,Int.reduceMul,Int.reduceAdd,Int.toNat_zero,Int.reduceToNat,zI1,zI2,MF,BG,KT,KS,N1,MZ,l1,Nat.le_refl,and_true,true_and,and_self,h6,h0,h02,wj1,wj2,hjn,k1,k2,hn1,Int.toNat_natCast,Xw,Xz]
 rw[<-hK,Z8 (on S _ _ [2,3,4,8,10] (by decide) rfl) rfl _ _ _ _ _ _ _ _ _ rfl]
 simp only[eG,go_sem,Z3 S,Z2 S,zN0,zN1,zN2,zN3,zN4,zI0,zI1,zI2,zI3,reduceCtorEq,DP S]
 try rfl
end
end Go.Aug.Mc
