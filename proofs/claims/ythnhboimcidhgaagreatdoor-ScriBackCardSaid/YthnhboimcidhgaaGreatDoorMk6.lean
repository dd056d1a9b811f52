import Derived.Test.YthnhboimcidhgaaGreatDoorMk4
namespace Go.Aug.Mc
open Go Go.Aug
set_option linter.unusedSimpArgs false
set_option linter.unusedVariables false
set_option maxHeartbeats 40000000
def J8 (n:Nat):List Label:=(List.range n).map Md.HQ
def CX (l:List Int)(n j:Nat):List Ins:=(List.range j).map fun i:Nat=>Md.A7 (Md.kM l (i+2)) n
theorem Z7s (n:Nat):J8 n++[Md.HQ n]=J8 (n+1):=by simp[J8,List.range_succ]
theorem Z84 (l:List Int)(n j:Nat):CX l n j++[Md.A7 (Md.kM l (j+2)) n]=CX l n (j+1):=by simp[CX,List.range_succ]
theorem CH (n:Nat):(J8 n).length=n:=by simp[J8]
theorem PK (l:List Int)(n j:Nat):(CX l n j).length=j:=by simp[CX]
variable {E:Env} {fn:FuncId->Option (Env->cT->cT)}
section
variable (S:Sur E fn)
include S
theorem VP:E.lives 13 1=none/\E.lives 13 23=none/\E.lives 13 27=none/\E.lives 13 31=none/\E.lives 13 35=none/\E.lives 13 39=none:=⟨off S 13 1 (by decide) rfl,off S 13 23 (by decide) rfl,off S 13 27 (by decide) rfl,off S 13 31 (by decide) rfl,off S 13 35 (by decide) rfl,off S 13 39 (by decide) rfl⟩
theorem Zpv (dp:Nat)(l:List Int)(kx:Nat->K)(kr:K)(n:Nat)(W wn r0 r1 r2 r3:Int)(hn:n<6):∀ m j f,j+m=(n+1)->m<=f->
  Q3 (Zj E 13) (Z4 E fn (dp+2)) (Z9 44 Q3 (Zj E 13) (Z4 E fn (dp+2)) kx kr f) kx kr (mk .bot 171 [(2,.ref 0 0 0),(3,.fn (.func 38) [.ref 1 0 0]),(4,.ref 2 0 0),(8,aI n),(9,aI (j:Int))]) [.cells [zi,zi,zi,zi,zi,zi,zi,zn,zn,zn] 0 false,.cells [.d (rD l)] 0 false,.cells [aI W,aI wn,aI 6,aI r0,aI r1,aI r2,aI r3,zn,.sref 3 0 0 (j) 2 none,zn] 0 false,.cells ((rC (J8 j)).map .d) 0 false]=
  kx 3 (mk .bot 171 ((141,Yx false)::(140,aI n)::(139,aI ((n+1:Nat):Int))::[(2,.ref 0 0 0),(3,.fn (.func 38) [.ref 1 0 0]),(4,.ref 2 0 0),(8,aI n),(9,aI ((n+1:Nat):Int))])) [.cells [zi,zi,zi,zi,zi,zi,zi,zn,zn,zn] 0 false,.cells [.d (rD l)] 0 false,.cells [aI W,aI wn,aI 6,aI r0,aI r1,aI r2,aI r3,zn,.sref 3 0 0 ((n+1)) 2 none,zn] 0 false,.cells ((rC (J8 (n+1))).map .d) 0 false]:=by
 intro m
 induction m with
 | zero=>
  intro j f hj _
  obtain rfl:j=n+1:=by omega
  have hz:¬(((n+1:Nat):Int)<=n):=by omega
  generalize Z9 44 Q3 _ _ kx kr f=KK
  first | (conv=>lhs;rw[Q3]) | rw[Q3]
  simp only[eG,go_sem,Z3 S,Z2 S,Nat.reduceLT,Nat.reduceEqDiff,Nat.reduceAdd,Nat.reduceMul,Nat.reduceLeDiff,Int.reduceEq,Int.reduceLT,Int.reduceLE,Int.reduceNeg,reduceCtorEq,VP S,hz]
 | succ m ih=>
  intro j f hj hf
  obtain⟨f,rfl⟩:∃ g,f=g+1:=⟨f-1,by omega⟩
  have e:=Znl S dp l kx kr f n W wn r0 r1 r2 r3 j (J8 j) (by omega) hn (by rw[CH];omega)
  rw[Z7s,CH] at e
  rw[e]
  exact ih (j+1) f (by omega) (by omega)
theorem Z7l (dp:Nat)(l:List Int)(kx:Nat->K)(kr:K)(n:Nat)(W wn r0 r1 r2 r3:Int)(h0:0<n)(hn:n<6)(f:Nat)(hf:10<=f):
  Q3 (Zj E 13) (Z4 E fn (dp+2)) (Z9 44 Q3 (Zj E 13) (Z4 E fn (dp+2)) kx kr f) kx kr (mk .bot 171 [(2,.ref 0 0 0),(3,.fn (.func 38) [.ref 1 0 0]),(4,.ref 2 0 0),(8,aI n),(9,aI 0)]) [.cells [zi,zi,zi,zi,zi,zi,zi,zn,zn,zn] 0 false,.cells [.d (rD l)] 0 false,.cells [aI W,aI wn,aI 6,aI r0,aI r1,aI r2,aI r3,zn,zn,zn] 0 false]=
  kx 3 (mk .bot 171 ((141,Yx false)::(140,aI n)::(139,aI ((n+1:Nat):Int))::[(2,.ref 0 0 0),(3,.fn (.func 38) [.ref 1 0 0]),(4,.ref 2 0 0),(8,aI n),(9,aI ((n+1:Nat):Int))])) [.cells [zi,zi,zi,zi,zi,zi,zi,zn,zn,zn] 0 false,.cells [.d (rD l)] 0 false,.cells [aI W,aI wn,aI 6,aI r0,aI r1,aI r2,aI r3,zn,.sref 3 0 0 ((n+1)) 2 none,zn] 0 false,.cells ((rC (J8 (n+1))).map .d) 0 false]:=by
 obtain⟨f,rfl⟩:∃ g,f=g+1:=⟨f-1,by omega⟩
 rw[Zq5 S dp l kx kr f n W wn r0 r1 r2 r3 hn]
 exact Zpv S dp l kx kr n W wn r0 r1 r2 r3 hn n 1 f (by omega) (by omega)
theorem Zpt (dp:Nat)(l:List Int)(kx:Nat->K)(kr:K)(n:Nat)(ls:List Label)(W wn r0 r1 r2 r3:Int)(hn:n<6):∀ m j f,j+m=n->m<=f->
  Q2 (Zj E 13) (Z4 E fn (dp+2)) (Z9 52 Q2 (Zj E 13) (Z4 E fn (dp+2)) kx kr f) kx kr (mk .bot 171 [(2,.ref 0 0 0),(3,.fn (.func 38) [.ref 1 0 0]),(4,.ref 2 0 0),(8,aI n),(10,aI (j:Int))]) [.cells [zi,zi,zi,zi,zi,zi,zi,zn,zn,zn] 0 false,.cells [.d (rD l)] 0 false,.cells [aI W,aI wn,aI 6,aI r0,aI r1,aI r2,aI r3,zn,.sref 3 0 0 ls.length 2 none,.sref 4 0 0 (j) 9 none] 0 false,.cells ((rC ls).map .d) 0 false,.cells ((rC (CX l n j)).map .d) 0 false]=
  kx 5 (mk .bot 171 ((156,Yx false)::(155,aI n)::(154,aI n)::[(2,.ref 0 0 0),(3,.fn (.func 38) [.ref 1 0 0]),(4,.ref 2 0 0),(8,aI n),(10,aI (n:Int))])) [.cells [zi,zi,zi,zi,zi,zi,zi,zn,zn,zn] 0 false,.cells [.d (rD l)] 0 false,.cells [aI W,aI wn,aI 6,aI r0,aI r1,aI r2,aI r3,zn,.sref 3 0 0 ls.length 2 none,.sref 4 0 0 (n) 9 none] 0 false,.cells ((rC ls).map .d) 0 false,.cells ((rC (CX l n n)).map .d) 0 false]:=by
 intro m
 induction m with
 | zero=>
  intro j f hj _
  obtain rfl:n=j:=by omega
  have hz:¬((n:Int)<n):=by omega
  generalize Z9 52 Q2 _ _ kx kr f=KK
  first | (conv=>lhs;rw[Q2]) | rw[Q2]
  simp only[eG,go_sem,Z3 S,Z2 S,Nat.reduceLT,Nat.reduceEqDiff,Nat.reduceAdd,Nat.reduceMul,Nat.reduceLeDiff,Int.reduceEq,Int.reduceLT,Int.reduceLE,Int.reduceNeg,reduceCtorEq,VP S,hz]
 | succ m ih=>
  intro j f hj hf
  obtain⟨f,rfl⟩:∃ g,f=g+1:=⟨f-1,by omega⟩
  have e:=Znj S dp l kx kr f n ls W wn r0 r1 r2 r3 j (CX l n j) (by omega) hn (by rw[PK];omega)
  rw[Z84,PK] at e
  rw[e]
  exact ih (j+1) f (by omega) (by omega)
theorem Z7k (dp:Nat)(l:List Int)(kx:Nat->K)(kr:K)(n:Nat)(ls:List Label)(W wn r0 r1 r2 r3:Int)(h0:0<n)(hn:n<6)(f:Nat)(hf:10<=f):
  Q2 (Zj E 13) (Z4 E fn (dp+2)) (Z9 52 Q2 (Zj E 13) (Z4 E fn (dp+2)) kx kr f) kx kr (mk .bot 171 [(2,.ref 0 0 0),(3,.fn (.func 38) [.ref 1 0 0]),(4,.ref 2 0 0),(8,aI n),(10,aI 0)]) [.cells [zi,zi,zi,zi,zi,zi,zi,zn,zn,zn] 0 false,.cells [.d (rD l)] 0 false,.cells [aI W,aI wn,aI 6,aI r0,aI r1,aI r2,aI r3,zn,.sref 3 0 0 ls.length 2 none,zn] 0 false,.cells ((rC ls).map .d) 0 false]=
  kx 5 (mk .bot 171 ((156,Yx false)::(155,aI n)::(154,aI n)::[(2,.ref 0 0 0),(3,.fn (.func 38) [.ref 1 0 0]),(4,.ref 2 0 0),(8,aI n),(10,aI (n:Int))])) [.cells [zi,zi,zi,zi,zi,zi,zi,zn,zn,zn] 0 false,.cells [.d (rD l)] 0 false,.cells [aI W,aI wn,aI 6,aI r0,aI r1,aI r2,aI r3,zn,.sref 3 0 0 ls.length 2 none,.sref 4 0 0 (n) 9 none] 0 false,.cells ((rC ls).map .d) 0 false,.cells ((rC (CX l n n)).map .d) 0 false]:=by
 obtain⟨f,rfl⟩:∃ g,f=g+1:=⟨f-1,by omega⟩
 rw[Zq3 S dp l kx kr f n ls W wn r0 r1 r2 r3 h0 hn]
 exact Zpt S dp l kx kr n ls W wn r0 r1 r2 r3 hn (n-1) 1 f (by omega) (by omega)
theorem Zpu (dp:Nat)(l:List Int)(kx:Nat->K)(kr:K)(n:Nat)(ms:List MemT)(W wn r0 r1 r2 r3:Int)(hn:n<6):∀ m j f,j+m=(n+1)->m<=f->
  Q3 (Zj E 13) (Z4 E fn (dp+2)) (Z9 44 Q3 (Zj E 13) (Z4 E fn (dp+2)) kx kr f) kx kr (mk .bot 171 [(2,.ref 0 0 0),(3,.fn (.func 38) [.ref 1 0 0]),(4,.ref 2 0 0),(8,aI n),(9,aI (j:Int))]) [.cells [zi,zi,zi,zi,zi,zi,zi,zn,zn,zn] 0 false,.cells [.d (rD l)] 0 false,.cells [aI W,aI wn,aI 6,aI r0,aI r1,aI r2,aI r3,.sref 3 0 0 ms.length 3 none,.sref 4 0 0 (j) 2 none,zn] 0 false,.cells ((rC ms).map .d) 0 false,.cells ((rC (J8 j)).map .d) 0 false]=
  kx 3 (mk .bot 171 ((141,Yx false)::(140,aI n)::(139,aI ((n+1:Nat):Int))::[(2,.ref 0 0 0),(3,.fn (.func 38) [.ref 1 0 0]),(4,.ref 2 0 0),(8,aI n),(9,aI ((n+1:Nat):Int))])) [.cells [zi,zi,zi,zi,zi,zi,zi,zn,zn,zn] 0 false,.cells [.d (rD l)] 0 false,.cells [aI W,aI wn,aI 6,aI r0,aI r1,aI r2,aI r3,.sref 3 0 0 ms.length 3 none,.sref 4 0 0 ((n+1)) 2 none,zn] 0 false,.cells ((rC ms).map .d) 0 false,.cells ((rC (J8 (n+1))).map .d) 0 false]:=by
 intro m
 induction m with
 | zero=>
  intro j f hj _
  obtain rfl:j=n+1:=by omega
  have hz:¬(((n+1:Nat):Int)<=n):=by omega
  generalize Z9 44 Q3 _ _ kx kr f=KK
  first | (conv=>lhs;rw[Q3]) | rw[Q3]
  simp only[eG,go_sem,Z3 S,Z2 S,Nat.reduceLT,Nat.reduceEqDiff,Nat.reduceAdd,Nat.reduceMul,Nat.reduceLeDiff,Int.reduceEq,Int.reduceLT,Int.reduceLE,Int.reduceNeg,reduceCtorEq,VP S,hz]
 | succ m ih=>
  intro j f hj hf
  obtain⟨f,rfl⟩:∃ g,f=g+1:=⟨f-1,by omega⟩
  have e:=Znk S dp l kx kr f n ms W wn r0 r1 r2 r3 j (J8 j) (by omega) hn (by rw[CH];omega)
  rw[Z7s,CH] at e
  rw[e]
  exact ih (j+1) f (by omega) (by omega)
theorem HP (dp:Nat)(l:List Int)(kx:Nat->K)(kr:K)(n:Nat)(ms:List MemT)(W wn r0 r1 r2 r3:Int)(h0:0<n)(hn:n<6)(f:Nat)(hf:10<=f):
  Q3 (Zj E 13) (Z4 E fn (dp+2)) (Z9 44 Q3 (Zj E 13) (Z4 E fn (dp+2)) kx kr f) kx kr (mk .bot 171 [(2,.ref 0 0 0),(3,.fn (.func 38) [.ref 1 0 0]),(4,.ref 2 0 0),(8,aI n),(9,aI 0)]) [.cells [zi,zi,zi,zi,zi,zi,zi,zn,zn,zn] 0 false,.cells [.d (rD l)] 0 false,.cells [aI W,aI wn,aI 6,aI r0,aI r1,aI r2,aI r3,.sref 3 0 0 ms.length 3 none,zn,zn] 0 false,.cells ((rC ms).map .d) 0 false]=
  kx 3 (mk .bot 171 ((141,Yx false)::(140,aI n)::(139,aI ((n+1:Nat):Int))::[(2,.ref 0 0 0),(3,.fn (.func 38) [.ref 1 0 0]),(4,.ref 2 0 0),(8,aI n),(9,aI ((n+1:Nat):Int))])) [.cells [zi,zi,zi,zi,zi,zi,zi,zn,zn,zn] 0 false,.cells [.d (rD l)] 0 false,.cells [aI W,aI wn,aI 6,aI r0,aI r1,aI r2,aI r3,.sref 3 0 0 ms.length 3 none,.sref 4 0 0 ((n+1)) 2 none,zn] 0 false,.cells ((rC ms).map .d) 0 false,.cells ((rC (J8 (n+1))).map .d) 0 false]:=by
 obtain⟨f,rfl⟩:∃ g,f=g+1:=⟨f-1,by omega⟩
 rw[Zq4 S dp l kx kr f n ms W wn r0 r1 r2 r3 hn]
 exact Zpu S dp l kx kr n ms W wn r0 r1 r2 r3 hn n 1 f (by omega) (by omega)
theorem Zps (dp:Nat)(l:List Int)(kx:Nat->K)(kr:K)(n:Nat)(ms:List MemT)(ls:List Label)(W wn r0 r1 r2 r3:Int)(hn:n<6):∀ m j f,j+m=n->m<=f->
  Q2 (Zj E 13) (Z4 E fn (dp+2)) (Z9 52 Q2 (Zj E 13) (Z4 E fn (dp+2)) kx kr f) kx kr (mk .bot 171 [(2,.ref 0 0 0),(3,.fn (.func 38) [.ref 1 0 0]),(4,.ref 2 0 0),(8,aI n),(10,aI (j:Int))]) [.cells [zi,zi,zi,zi,zi,zi,zi,zn,zn,zn] 0 false,.cells [.d (rD l)] 0 false,.cells [aI W,aI wn,aI 6,aI r0,aI r1,aI r2,aI r3,.sref 3 0 0 ms.length 3 none,.sref 4 0 0 ls.length 2 none,.sref 5 0 0 (j) 9 none] 0 false,.cells ((rC ms).map .d) 0 false,.cells ((rC ls).map .d) 0 false,.cells ((rC (CX l n j)).map .d) 0 false]=
  kx 5 (mk .bot 171 ((156,Yx false)::(155,aI n)::(154,aI n)::[(2,.ref 0 0 0),(3,.fn (.func 38) [.ref 1 0 0]),(4,.ref 2 0 0),(8,aI n),(10,aI (n:Int))])) [.cells [zi,zi,zi,zi,zi,zi,zi,zn,zn,zn] 0 false,.cells [.d (rD l)] 0 false,.cells [aI W,aI wn,aI 6,aI r0,aI r1,aI r2,aI r3,.sref 3 0 0 ms.length 3 none,.sref 4 0 0 ls.length 2 none,.sref 5 0 0 (n) 9 none] 0 false,.cells ((rC ms).map .d) 0 false,.cells ((rC ls).map .d) 0 false,.cells ((rC (CX l n n)).map .d) 0 false]:=by
 intro m
 induction m with
 | zero=>
  intro j f hj _
  obtain rfl:n=j:=by omega
  have hz:¬((n:Int)<n):=by omega
  generalize Z9 52 Q2 _ _ kx kr f=KK
  first | (conv=>lhs;rw[Q2]) | rw[Q2]
  simp only[eG,go_sem,Z3 S,Z2 S,Nat.reduceLT,Nat.reduceEqDiff,Nat.reduceAdd,Nat.reduceMul,Nat.reduceLeDiff,Int.reduceEq,Int.reduceLT,Int.reduceLE,Int.reduceNeg,reduceCtorEq,VP S,hz]
 | succ m ih=>
  intro j f hj hf
  obtain⟨f,rfl⟩:∃ g,f=g+1:=⟨f-1,by omega⟩
  have e:=Zni S dp l kx kr f n ms ls W wn r0 r1 r2 r3 j (CX l n j) (by omega) hn (by rw[PK];omega)
  rw[Z84,PK] at e
  rw[e]
  exact ih (j+1) f (by omega) (by omega)
theorem HN (dp:Nat)(l:List Int)(kx:Nat->K)(kr:K)(n:Nat)(ms:List MemT)(ls:List Label)(W wn r0 r1 r2 r3:Int)(h0:0<n)(hn:n<6)(f:Nat)(hf:10<=f):
  Q2 (Zj E 13) (Z4 E fn (dp+2)) (Z9 52 Q2 (Zj E 13) (Z4 E fn (dp+2)) kx kr f) kx kr (mk .bot 171 [(2,.ref 0 0 0),(3,.fn (.func 38) [.ref 1 0 0]),(4,.ref 2 0 0),(8,aI n),(10,aI 0)]) [.cells [zi,zi,zi,zi,zi,zi,zi,zn,zn,zn] 0 false,.cells [.d (rD l)] 0 false,.cells [aI W,aI wn,aI 6,aI r0,aI r1,aI r2,aI r3,.sref 3 0 0 ms.length 3 none,.sref 4 0 0 ls.length 2 none,zn] 0 false,.cells ((rC ms).map .d) 0 false,.cells ((rC ls).map .d) 0 false]=
  kx 5 (mk .bot 171 ((156,Yx false)::(155,aI n)::(154,aI n)::[(2,.ref 0 0 0),(3,.fn (.func 38) [.ref 1 0 0]),(4,.ref 2 0 0),(8,aI n),(10,aI (n:Int))])) [.cells [zi,zi,zi,zi,zi,zi,zi,zn,zn,zn] 0 false,.cells [.d (rD l)] 0 false,.cells [aI W,aI wn,aI 6,aI r0,aI r1,aI r2,aI r3,.sref 3 0 0 ms.length 3 none,.sref 4 0 0 ls.length 2 none,.sref 5 0 0 (n) 9 none] 0 false,.cells ((rC ms).map .d) 0 false,.cells ((rC ls).map .d) 0 false,.cells ((rC (CX l n n)).map .d) 0 false]:=by
 obtain⟨f,rfl⟩:∃ g,f=g+1:=⟨f-1,by omega⟩
 rw[Zq2 S dp l kx kr f n ms ls W wn r0 r1 r2 r3 h0 hn]
 exact Zps S dp l kx kr n ms ls W wn r0 r1 r2 r3 hn (n-1) 1 f (by omega) (by omega)
end
open Nat renaming reduceLT -> zN0, reduceEqDiff -> zN1, reduceAdd -> zN2, reduceMul -> zN3, reduceLeDiff -> zN4
open Int renaming reduceEq -> zI0, reduceLT -> zI1, reduceLE -> zI2, reduceNeg -> zI3
theorem HA (m:MemT):(rC [m]).map AV.d=[.d (vt m.name),.d (vb m.secret),.d (vi m.n)]:=rfl
theorem Hv (m k:MemT):(rC [m,k]).map AV.d=[.d (vt m.name),.d (vb m.secret),.d (vi m.n),.d (vt k.name),.d (vb k.secret),.d (vi k.n)]:=rfl
theorem FK:32<=Z5:=by unfold Z5;decide
theorem FV (b0 b1 b2:Blk)(v:Nat)(a b c:DV)(nm:ByteArray)(s:Bool)(n:Int):
  YU [b0,b1,b2,.cells [.d a,.d b,.d c] v false] 3 32 (.sref 3 v 0 1 3 none) [.d (vt nm),.d (vb s),.d (vi n)] 1=some (.turn 3 (.cells [.d a,.d b,.d c,.d (vt nm),.d (vb s),.d (vi n)] (v+1) false) (.sref 3 (v+1) 0 2 3 none)):=by
 have hx:([AV.d (vt nm),AV.d (vb s),AV.d (vi n)]).all AV.one=true:=rfl
 rw[S3,if_neg (by decide),if_neg (by rw[hx];unfold Z5;simp)]
 simp
variable {E:Env} {fn:FuncId->Option (Env->cT->cT)}
section
variable (S:Sur E fn)
include S
theorem Y6:E.lives 13 1=none/\E.lives 13 23=none/\E.lives 13 27=none/\E.lives 13 31=none/\E.lives 13 35=none/\E.lives 13 39=none:=⟨off S 13 1 (by decide) rfl,off S 13 23 (by decide) rfl,off S 13 27 (by decide) rfl,off S 13 31 (by decide) rfl,off S 13 35 (by decide) rfl,off S 13 39 (by decide) rfl⟩
theorem Zj0 (dp:Nat)(l:List Int):Z6 E fn (dp+4) 13 [rD l] (Zw (Md.make l)):=by
 unfold Z6
 show Z7 (Z4 E fn (dp+3+1) 13 [.d (rD l)] [])=_
 rw[ZD,S.Z8u,ZG,Ze8,ZC _ _ _ _ _ _ _ _ rfl]
 have sf1:∀ x:Int,x.fdiv (2^min 1 64)=Md.ZZ x 1:=fun x=>by rw[Nat.min_eq_left (by decide)];rfl
 have sf8:∀ x:Int,x.fdiv (2^min 8 64)=Md.ZZ x 8:=fun x=>by rw[Nat.min_eq_left (by decide)];rfl
 have sf10:∀ x:Int,x.fdiv (2^min 10 64)=Md.ZZ x 10:=fun x=>by rw[Nat.min_eq_left (by decide)];rfl
 have sf12:∀ x:Int,x.fdiv (2^min 12 64)=Md.ZZ x 12:=fun x=>by rw[Nat.min_eq_left (by decide)];rfl
 have r1':∀ {α:Type} (l:List α),rep l 1=l:=fun l=>by simp[rep]
 have ww:IntKind.i64.wrap (Md.YF (Md.kM l 0) 1+1)=Md.Zk l:=by
  obtain⟨r,h1,h2⟩:=Md.Z87 (Md.kM l 0)
  unfold Md.Zk
  rw[h2];exact YH (by omega) (by omega)
 have wn:IntKind.i64.wrap (((Md.YR (Md.ZZ (Md.kM l 0) 1) 3:Nat):Int)+1)=(Md.YR (Md.ZZ (Md.kM l 0) 1) 3:Nat)+1:=by
  have:=Md.RW (Md.ZZ (Md.kM l 0) 1) (show 0<3 by decide)
  exact YH (by omega) (by omega)
 have wN:IntKind.i64.wrap (Md.YF (Md.ZZ (Md.kM l 0) 12) 3+2)=(Md.nM l:Nat):=by
  obtain⟨r,h1,h2⟩:=Md.N6 (Md.ZZ (Md.kM l 0) 12)
  unfold Md.nM
  rw[h2,Int.toNat_natCast,YH (by omega) (by omega)];rfl
 have n6:Md.nM l<6:=by
  obtain⟨r,h1,h2⟩:=Md.N6 (Md.ZZ (Md.kM l 0) 12)
  unfold Md.nM
  rw[h2,Int.toNat_natCast];omega
 have n0:0<Md.nM l:=by unfold Md.nM;omega
 simp only[eG,go_sem,Z3 S,Z2 S,zN0,zN1,zN2,zN3,zN4,zI0,zI1,zI2,zI3,reduceCtorEq,Y6 S,Int.cast_ofNat_Int,FK,l1,FV,Q6,YY,Q7,Q9 S,Q1,Fq,ER,Fk,Fj,sf1,sf8,sf10,sf12,FJ,r1',Int.reduceMul,Int.reduceAdd,Int.toNat_zero,Int.reduceToNat,zI1,zI2,and_true,true_and,and_self,BG,gt_iff_lt,ww,wn]
 rw[Y7,Z8 (on S _ _ [2,3,4,5,6,7] (by decide) rfl) rfl _ _ _ _ _ _ _ _ _ rfl]
 simp only[eG,go_sem,Z3 S,Z2 S,zN0,zN1,zN2,zN3,zN4,zI0,zI1,zI2,zI3,reduceCtorEq,Y6 S]
 rw[Zop S (dp+2) l _ _ _ (by decide)]
 have d1:∀ A i,A[i]? =some (.cells ((rC (J8 (Md.nM l+1))).map .d) 0 false)->deep A 7 (.sref i 0 0 (Md.nM l+1) 2 none)=some (.lst (rC (J8 (Md.nM l+1))) (Md.nM l+1) none,[i]):=
  fun A i h=>Bv h (fun e=>by have:=CH (Md.nM l+1);rw[e] at this;simp at this) 5 _ 2 none rfl (CH _).symm
 have d2:∀ A i,A[i]? =some (.cells ((rC (CX l (Md.nM l) (Md.nM l))).map .d) 0 false)->deep A 7 (.sref i 0 0 (Md.nM l) 9 none)=some (.lst (rC (CX l (Md.nM l) (Md.nM l))) (Md.nM l) none,[i]):=
  fun A i h=>Bv h (fun e=>by have:=PK l (Md.nM l) (Md.nM l);rw[e] at this;simp at this;omega) 5 _ 9 none rfl (PK _ _ _).symm
 have hl:rD (Md.make l).labels=.lst (rC (J8 (Md.nM l+1))) (Md.nM l+1) none:=by
  show DV.lst (rC (J8 (Md.nM l+1))) (J8 (Md.nM l+1)).length none=_
  rw[CH]
 have hi:rD (Md.make l).ins=.lst (rC (CX l (Md.nM l) (Md.nM l))) (Md.nM l) none:=by
  show DV.lst (rC (CX l (Md.nM l) (Md.nM l))) (CX l (Md.nM l) (Md.nM l)).length none=_
  rw[PK]
 by_cases a1:0<Md.YF (Md.ZZ (Md.kM l 1) 8) 3
 ·by_cases a2 : Md.Zk l = 1
  ·by_cases a3 : Md.YF (Md.ZZ (Md.kM l 1) 10) 3 = 0
   ·skip
    by_cases a4:0<Md.YF (Md.ZZ (Md.kM l 1) 12) 3
    ·by_cases a5 : IntKind.i64.wrap ((Md.QW l (Md.Zk l)).2.2 + Md.Zk l) <= 3
     ·have hms : Md.J2 l (Md.Zk l) = [⟨⟨#[109]⟩, false, 2⟩] := by simp [Md.J2, Md.Bk, Md.QG, a1, eq_true a2, eq_true a3, a4, a5]
      have d0:∀ A i,A[i]? =some (.cells ((rC ([⟨⟨#[109]⟩,false,2⟩]:List MemT)).map .d) 0 false)->deep A 7 (.sref i 0 0 1 3 none)=some (.lst (rC ([⟨⟨#[109]⟩,false,2⟩]:List MemT)) 1 none,[i]):=fun A i h=>Bv h (by simp) 5 _ 3 none rfl rfl
      have e1:=fun kx kr f hf=>HP S (dp+1) l kx kr (Md.nM l) ([⟨⟨#[109]⟩,false,2⟩]:List MemT) (Md.Zk l) (Md.YR (Md.ZZ (Md.kM l 0) 1) 3+1) (Md.JD l (Md.Zk l)).1 (Md.JC l (Md.Zk l)).1 (Md.JB l (Md.Zk l)).1 (Md.QW l (Md.Zk l)).1 n0 n6 f hf
      have e2:=fun kx kr f hf=>HN S (dp+1) l kx kr (Md.nM l) ([⟨⟨#[109]⟩,false,2⟩]:List MemT) (J8 (Md.nM l+1)) (Md.Zk l) (Md.YR (Md.ZZ (Md.kM l 0) 1) 3+1) (Md.JD l (Md.Zk l)).1 (Md.JC l (Md.Zk l)).1 (Md.JB l (Md.Zk l)).1 (Md.QW l (Md.Zk l)).1 n0 n6 f hf
      simp only[CH] at e2
      simp only[HA,Hv,List.length_cons,List.length_nil,zN2] at e1 e2
      simp only[eG,go_sem,Z3 S,Z2 S,zN0,zN1,zN2,zN3,zN4,zI0,zI1,zI2,zI3,reduceCtorEq,Y6 S,Int.cast_ofNat_Int,FK,l1,FV,Q6,YY,Q7,Q9 S,Q1,Fq,ER,Fk,Fj,sf1,sf8,sf10,sf12,FJ,r1',Int.reduceMul,Int.reduceAdd,Int.toNat_zero,Int.reduceToNat,zI1,zI2,and_true,true_and,and_self,BG,gt_iff_lt,wN,a1,eq_true a2,eq_true a3,a4,a5]
      rw[Y7,Z8 (on S _ _ [2,3,4,8,9] (by decide) rfl) rfl _ _ _ _ _ _ _ _ _ rfl]
      simp only[eG,go_sem,Z3 S,Z2 S,zN0,zN1,zN2,zN3,zN4,zI0,zI1,zI2,zI3,reduceCtorEq,Y6 S]
      rw[e1 _ _ _ (by decide)]
      simp only[eG,go_sem,Z3 S,Z2 S,zN0,zN1,zN2,zN3,zN4,zI0,zI1,zI2,zI3,reduceCtorEq,Y6 S]
      rw[Y7,Z8 (on S _ _ [2,3,4,8,10] (by decide) rfl) rfl _ _ _ _ _ _ _ _ _ rfl]
      simp only[eG,go_sem,Z3 S,Z2 S,zN0,zN1,zN2,zN3,zN4,zI0,zI1,zI2,zI3,reduceCtorEq,Y6 S]
      rw[e2 _ _ _ (by decide)]
      simp only[eG,go_sem,Z3 S,Z2 S,zN0,zN1,zN2,zN3,zN4,zI0,zI1,zI2,zI3,reduceCtorEq,Y6 S]
      rw[d0 _ _ rfl,d1 _ _ rfl,d2 _ _ rfl]
      simp only[eG,go_sem,Z3 S,Z2 S,zN0,zN1,zN2,zN3,zN4,zI0,zI1,zI2,zI3,reduceCtorEq,Y6 S]
      rw[hl,hi,show rD (Md.make l).mems=rD ([⟨⟨#[109]⟩,false,2⟩]:List MemT) from congrArg rD hms]
      rfl
     ·have hms : Md.J2 l (Md.Zk l) = [⟨⟨#[109]⟩, false, 2⟩] := by simp [Md.J2, Md.Bk, Md.QG, a1, eq_true a2, eq_true a3, a4, a5]
      have d0:∀ A i,A[i]? =some (.cells ((rC ([⟨⟨#[109]⟩,false,2⟩]:List MemT)).map .d) 0 false)->deep A 7 (.sref i 0 0 1 3 none)=some (.lst (rC ([⟨⟨#[109]⟩,false,2⟩]:List MemT)) 1 none,[i]):=fun A i h=>Bv h (by simp) 5 _ 3 none rfl rfl
      have e1:=fun kx kr f hf=>HP S (dp+1) l kx kr (Md.nM l) ([⟨⟨#[109]⟩,false,2⟩]:List MemT) (Md.Zk l) (Md.YR (Md.ZZ (Md.kM l 0) 1) 3+1) (Md.JD l (Md.Zk l)).1 (Md.JC l (Md.Zk l)).1 (Md.JB l (Md.Zk l)).1 (Md.QW l (Md.Zk l)).1 n0 n6 f hf
      have e2:=fun kx kr f hf=>HN S (dp+1) l kx kr (Md.nM l) ([⟨⟨#[109]⟩,false,2⟩]:List MemT) (J8 (Md.nM l+1)) (Md.Zk l) (Md.YR (Md.ZZ (Md.kM l 0) 1) 3+1) (Md.JD l (Md.Zk l)).1 (Md.JC l (Md.Zk l)).1 (Md.JB l (Md.Zk l)).1 (Md.QW l (Md.Zk l)).1 n0 n6 f hf
      simp only[CH] at e2
      simp only[HA,Hv,List.length_cons,List.length_nil,zN2] at e1 e2
      simp only[eG,go_sem,Z3 S,Z2 S,zN0,zN1,zN2,zN3,zN4,zI0,zI1,zI2,zI3,reduceCtorEq,Y6 S,Int.cast_ofNat_Int,FK,l1,FV,Q6,YY,Q7,Q9 S,Q1,Fq,ER,Fk,Fj,sf1,sf8,sf10,sf12,FJ,r1',Int.reduceMul,Int.reduceAdd,Int.toNat_zero,Int.reduceToNat,zI1,zI2,and_true,true_and,and_self,BG,gt_iff_lt,wN,a1,eq_true a2,eq_true a3,a4,a5]
      rw[Y7,Z8 (on S _ _ [2,3,4,8,9] (by decide) rfl) rfl _ _ _ _ _ _ _ _ _ rfl]
      simp only[eG,go_sem,Z3 S,Z2 S,zN0,zN1,zN2,zN3,zN4,zI0,zI1,zI2,zI3,reduceCtorEq,Y6 S]
      rw[e1 _ _ _ (by decide)]
      simp only[eG,go_sem,Z3 S,Z2 S,zN0,zN1,zN2,zN3,zN4,zI0,zI1,zI2,zI3,reduceCtorEq,Y6 S]
      rw[Y7,Z8 (on S _ _ [2,3,4,8,10] (by decide) rfl) rfl _ _ _ _ _ _ _ _ _ rfl]
      simp only[eG,go_sem,Z3 S,Z2 S,zN0,zN1,zN2,zN3,zN4,zI0,zI1,zI2,zI3,reduceCtorEq,Y6 S]
      rw[e2 _ _ _ (by decide)]
      simp only[eG,go_sem,Z3 S,Z2 S,zN0,zN1,zN2,zN3,zN4,zI0,zI1,zI2,zI3,reduceCtorEq,Y6 S]
      rw[d0 _ _ rfl,d1 _ _ rfl,d2 _ _ rfl]
      simp only[eG,go_sem,Z3 S,Z2 S,zN0,zN1,zN2,zN3,zN4,zI0,zI1,zI2,zI3,reduceCtorEq,Y6 S]
      rw[hl,hi,show rD (Md.make l).mems=rD ([⟨⟨#[109]⟩,false,2⟩]:List MemT) from congrArg rD hms]
      rfl
    ·have hms : Md.J2 l (Md.Zk l) = [⟨⟨#[109]⟩, false, 2⟩] := by simp [Md.J2, Md.Bk, Md.QG, a1, eq_true a2, eq_true a3, a4]
     have d0:∀ A i,A[i]? =some (.cells ((rC ([⟨⟨#[109]⟩,false,2⟩]:List MemT)).map .d) 0 false)->deep A 7 (.sref i 0 0 1 3 none)=some (.lst (rC ([⟨⟨#[109]⟩,false,2⟩]:List MemT)) 1 none,[i]):=fun A i h=>Bv h (by simp) 5 _ 3 none rfl rfl
     have e1:=fun kx kr f hf=>HP S (dp+1) l kx kr (Md.nM l) ([⟨⟨#[109]⟩,false,2⟩]:List MemT) (Md.Zk l) (Md.YR (Md.ZZ (Md.kM l 0) 1) 3+1) (Md.JD l (Md.Zk l)).1 (Md.JC l (Md.Zk l)).1 (Md.JB l (Md.Zk l)).1 (Md.QW l (Md.Zk l)).1 n0 n6 f hf
     have e2:=fun kx kr f hf=>HN S (dp+1) l kx kr (Md.nM l) ([⟨⟨#[109]⟩,false,2⟩]:List MemT) (J8 (Md.nM l+1)) (Md.Zk l) (Md.YR (Md.ZZ (Md.kM l 0) 1) 3+1) (Md.JD l (Md.Zk l)).1 (Md.JC l (Md.Zk l)).1 (Md.JB l (Md.Zk l)).1 (Md.QW l (Md.Zk l)).1 n0 n6 f hf
     simp only[CH] at e2
     simp only[HA,Hv,List.length_cons,List.length_nil,zN2] at e1 e2
     simp only[eG,go_sem,Z3 S,Z2 S,zN0,zN1,zN2,zN3,zN4,zI0,zI1,zI2,zI3,reduceCtorEq,Y6 S,Int.cast_ofNat_Int,FK,l1,FV,Q6,YY,Q7,Q9 S,Q1,Fq,ER,Fk,Fj,sf1,sf8,sf10,sf12,FJ,r1',Int.reduceMul,Int.reduceAdd,Int.toNat_zero,Int.reduceToNat,zI1,zI2,and_true,true_and,and_self,BG,gt_iff_lt,wN,a1,eq_true a2,eq_true a3,a4]
     rw[Y7,Z8 (on S _ _ [2,3,4,8,9] (by decide) rfl) rfl _ _ _ _ _ _ _ _ _ rfl]
     simp only[eG,go_sem,Z3 S,Z2 S,zN0,zN1,zN2,zN3,zN4,zI0,zI1,zI2,zI3,reduceCtorEq,Y6 S]
     rw[e1 _ _ _ (by decide)]
     simp only[eG,go_sem,Z3 S,Z2 S,zN0,zN1,zN2,zN3,zN4,zI0,zI1,zI2,zI3,reduceCtorEq,Y6 S]
     rw[Y7,Z8 (on S _ _ [2,3,4,8,10] (by decide) rfl) rfl _ _ _ _ _ _ _ _ _ rfl]
     simp only[eG,go_sem,Z3 S,Z2 S,zN0,zN1,zN2,zN3,zN4,zI0,zI1,zI2,zI3,reduceCtorEq,Y6 S]
     rw[e2 _ _ _ (by decide)]
     simp only[eG,go_sem,Z3 S,Z2 S,zN0,zN1,zN2,zN3,zN4,zI0,zI1,zI2,zI3,reduceCtorEq,Y6 S]
     rw[d0 _ _ rfl,d1 _ _ rfl,d2 _ _ rfl]
     simp only[eG,go_sem,Z3 S,Z2 S,zN0,zN1,zN2,zN3,zN4,zI0,zI1,zI2,zI3,reduceCtorEq,Y6 S]
     rw[hl,hi,show rD (Md.make l).mems=rD ([⟨⟨#[109]⟩,false,2⟩]:List MemT) from congrArg rD hms]
     rfl
   ·skip
    by_cases a4:0<Md.YF (Md.ZZ (Md.kM l 1) 12) 3
    ·by_cases a5 : IntKind.i64.wrap ((Md.QW l (Md.Zk l)).2.2 + Md.Zk l) <= 3
     ·have hms : Md.J2 l (Md.Zk l) = [⟨⟨#[109]⟩, false, 1⟩, ⟨⟨#[115]⟩, true, 1⟩] := by simp [Md.J2, Md.Bk, Md.QG, a1, eq_true a2, a3, a4, a5]
      have d0:∀ A i,A[i]? =some (.cells ((rC ([⟨⟨#[109]⟩,false,1⟩,⟨⟨#[115]⟩,true,1⟩]:List MemT)).map .d) 0 false)->deep A 7 (.sref i 0 0 2 3 none)=some (.lst (rC ([⟨⟨#[109]⟩,false,1⟩,⟨⟨#[115]⟩,true,1⟩]:List MemT)) 2 none,[i]):=fun A i h=>Bv h (by simp) 5 _ 3 none rfl rfl
      have e1:=fun kx kr f hf=>HP S (dp+1) l kx kr (Md.nM l) ([⟨⟨#[109]⟩,false,1⟩,⟨⟨#[115]⟩,true,1⟩]:List MemT) (Md.Zk l) (Md.YR (Md.ZZ (Md.kM l 0) 1) 3+1) (Md.JD l (Md.Zk l)).1 (Md.JC l (Md.Zk l)).1 (Md.JB l (Md.Zk l)).1 (Md.QW l (Md.Zk l)).1 n0 n6 f hf
      have e2:=fun kx kr f hf=>HN S (dp+1) l kx kr (Md.nM l) ([⟨⟨#[109]⟩,false,1⟩,⟨⟨#[115]⟩,true,1⟩]:List MemT) (J8 (Md.nM l+1)) (Md.Zk l) (Md.YR (Md.ZZ (Md.kM l 0) 1) 3+1) (Md.JD l (Md.Zk l)).1 (Md.JC l (Md.Zk l)).1 (Md.JB l (Md.Zk l)).1 (Md.QW l (Md.Zk l)).1 n0 n6 f hf
      simp only[CH] at e2
      simp only[HA,Hv,List.length_cons,List.length_nil,zN2] at e1 e2
      simp only[eG,go_sem,Z3 S,Z2 S,zN0,zN1,zN2,zN3,zN4,zI0,zI1,zI2,zI3,reduceCtorEq,Y6 S,Int.cast_ofNat_Int,FK,l1,FV,Q6,YY,Q7,Q9 S,Q1,Fq,ER,Fk,Fj,sf1,sf8,sf10,sf12,FJ,r1',Int.reduceMul,Int.reduceAdd,Int.toNat_zero,Int.reduceToNat,zI1,zI2,and_true,true_and,and_self,BG,gt_iff_lt,wN,a1,eq_true a2,a3,a4,a5]
      rw[Y7,Z8 (on S _ _ [2,3,4,8,9] (by decide) rfl) rfl _ _ _ _ _ _ _ _ _ rfl]
      simp only[eG,go_sem,Z3 S,Z2 S,zN0,zN1,zN2,zN3,zN4,zI0,zI1,zI2,zI3,reduceCtorEq,Y6 S]
      rw[e1 _ _ _ (by decide)]
      simp only[eG,go_sem,Z3 S,Z2 S,zN0,zN1,zN2,zN3,zN4,zI0,zI1,zI2,zI3,reduceCtorEq,Y6 S]
      rw[Y7,Z8 (on S _ _ [2,3,4,8,10] (by decide) rfl) rfl _ _ _ _ _ _ _ _ _ rfl]
      simp only[eG,go_sem,Z3 S,Z2 S,zN0,zN1,zN2,zN3,zN4,zI0,zI1,zI2,zI3,reduceCtorEq,Y6 S]
      rw[e2 _ _ _ (by decide)]
      simp only[eG,go_sem,Z3 S,Z2 S,zN0,zN1,zN2,zN3,zN4,zI0,zI1,zI2,zI3,reduceCtorEq,Y6 S]
      rw[d0 _ _ rfl,d1 _ _ rfl,d2 _ _ rfl]
      simp only[eG,go_sem,Z3 S,Z2 S,zN0,zN1,zN2,zN3,zN4,zI0,zI1,zI2,zI3,reduceCtorEq,Y6 S]
      rw[hl,hi,show rD (Md.make l).mems=rD ([⟨⟨#[109]⟩,false,1⟩,⟨⟨#[115]⟩,true,1⟩]:List MemT) from congrArg rD hms]
      rfl
     ·have hms : Md.J2 l (Md.Zk l) = [⟨⟨#[109]⟩, false, 1⟩] := by simp [Md.J2, Md.Bk, Md.QG, a1, eq_true a2, a3, a4, a5]
      have d0:∀ A i,A[i]? =some (.cells ((rC ([⟨⟨#[109]⟩,false,1⟩]:List MemT)).map .d) 0 false)->deep A 7 (.sref i 0 0 1 3 none)=some (.lst (rC ([⟨⟨#[109]⟩,false,1⟩]:List MemT)) 1 none,[i]):=fun A i h=>Bv h (by simp) 5 _ 3 none rfl rfl
      have e1:=fun kx kr f hf=>HP S (dp+1) l kx kr (Md.nM l) ([⟨⟨#[109]⟩,false,1⟩]:List MemT) (Md.Zk l) (Md.YR (Md.ZZ (Md.kM l 0) 1) 3+1) (Md.JD l (Md.Zk l)).1 (Md.JC l (Md.Zk l)).1 (Md.JB l (Md.Zk l)).1 (Md.QW l (Md.Zk l)).1 n0 n6 f hf
      have e2:=fun kx kr f hf=>HN S (dp+1) l kx kr (Md.nM l) ([⟨⟨#[109]⟩,false,1⟩]:List MemT) (J8 (Md.nM l+1)) (Md.Zk l) (Md.YR (Md.ZZ (Md.kM l 0) 1) 3+1) (Md.JD l (Md.Zk l)).1 (Md.JC l (Md.Zk l)).1 (Md.JB l (Md.Zk l)).1 (Md.QW l (Md.Zk l)).1 n0 n6 f hf
      simp only[CH] at e2
      simp only[HA,Hv,List.length_cons,List.length_nil,zN2] at e1 e2
      simp only[eG,go_sem,Z3 S,Z2 S,zN0,zN1,zN2,zN3,zN4,zI0,zI1,zI2,zI3,reduceCtorEq,Y6 S,Int.cast_ofNat_Int,FK,l1,FV,Q6,YY,Q7,Q9 S,Q1,Fq,ER,Fk,Fj,sf1,sf8,sf10,sf12,FJ,r1',Int.reduceMul,Int.reduceAdd,Int.toNat_zero,Int.reduceToNat,zI1,zI2,and_true,true_and,and_self,BG,gt_iff_lt,wN,a1,eq_true a2,a3,a4,a5]
      rw[Y7,Z8 (on S _ _ [2,3,4,8,9] (by decide) rfl) rfl _ _ _ _ _ _ _ _ _ rfl]
      simp only[eG,go_sem,Z3 S,Z2 S,zN0,zN1,zN2,zN3,zN4,zI0,zI1,zI2,zI3,reduceCtorEq,Y6 S]
      rw[e1 _ _ _ (by decide)]
      simp only[eG,go_sem,Z3 S,Z2 S,zN0,zN1,zN2,zN3,zN4,zI0,zI1,zI2,zI3,reduceCtorEq,Y6 S]
      rw[Y7,Z8 (on S _ _ [2,3,4,8,10] (by decide) rfl) rfl _ _ _ _ _ _ _ _ _ rfl]
      simp only[eG,go_sem,Z3 S,Z2 S,zN0,zN1,zN2,zN3,zN4,zI0,zI1,zI2,zI3,reduceCtorEq,Y6 S]
      rw[e2 _ _ _ (by decide)]
      simp only[eG,go_sem,Z3 S,Z2 S,zN0,zN1,zN2,zN3,zN4,zI0,zI1,zI2,zI3,reduceCtorEq,Y6 S]
      rw[d0 _ _ rfl,d1 _ _ rfl,d2 _ _ rfl]
      simp only[eG,go_sem,Z3 S,Z2 S,zN0,zN1,zN2,zN3,zN4,zI0,zI1,zI2,zI3,reduceCtorEq,Y6 S]
      rw[hl,hi,show rD (Md.make l).mems=rD ([⟨⟨#[109]⟩,false,1⟩]:List MemT) from congrArg rD hms]
      rfl
    ·have hms : Md.J2 l (Md.Zk l) = [⟨⟨#[109]⟩, false, 1⟩] := by simp [Md.J2, Md.Bk, Md.QG, a1, eq_true a2, a3, a4]
     have d0:∀ A i,A[i]? =some (.cells ((rC ([⟨⟨#[109]⟩,false,1⟩]:List MemT)).map .d) 0 false)->deep A 7 (.sref i 0 0 1 3 none)=some (.lst (rC ([⟨⟨#[109]⟩,false,1⟩]:List MemT)) 1 none,[i]):=fun A i h=>Bv h (by simp) 5 _ 3 none rfl rfl
     have e1:=fun kx kr f hf=>HP S (dp+1) l kx kr (Md.nM l) ([⟨⟨#[109]⟩,false,1⟩]:List MemT) (Md.Zk l) (Md.YR (Md.ZZ (Md.kM l 0) 1) 3+1) (Md.JD l (Md.Zk l)).1 (Md.JC l (Md.Zk l)).1 (Md.JB l (Md.Zk l)).1 (Md.QW l (Md.Zk l)).1 n0 n6 f hf
     have e2:=fun kx kr f hf=>HN S (dp+1) l kx kr (Md.nM l) ([⟨⟨#[109]⟩,false,1⟩]:List MemT) (J8 (Md.nM l+1)) (Md.Zk l) (Md.YR (Md.ZZ (Md.kM l 0) 1) 3+1) (Md.JD l (Md.Zk l)).1 (Md.JC l (Md.Zk l)).1 (Md.JB l (Md.Zk l)).1 (Md.QW l (Md.Zk l)).1 n0 n6 f hf
     simp only[CH] at e2
     simp only[HA,Hv,List.length_cons,List.length_nil,zN2] at e1 e2
     simp only[eG,go_sem,Z3 S,Z2 S,zN0,zN1,zN2,zN3,zN4,zI0,zI1,zI2,zI3,reduceCtorEq,Y6 S,Int.cast_ofNat_Int,FK,l1,FV,Q6,YY,Q7,Q9 S,Q1,Fq,ER,Fk,Fj,sf1,sf8,sf10,sf12,FJ,r1',Int.reduceMul,Int.reduceAdd,Int.toNat_zero,Int.reduceToNat,zI1,zI2,and_true,true_and,and_self,BG,gt_iff_lt,wN,a1,eq_true a2,a3,a4]
     rw[Y7,Z8 (on S _ _ [2,3,4,8,9] (by decide) rfl) rfl _ _ _ _ _ _ _ _ _ rfl]
     simp only[eG,go_sem,Z3 S,Z2 S,zN0,zN1,zN2,zN3,zN4,zI0,zI1,zI2,zI3,reduceCtorEq,Y6 S]
     rw[e1 _ _ _ (by decide)]
     simp only[eG,go_sem,Z3 S,Z2 S,zN0,zN1,zN2,zN3,zN4,zI0,zI1,zI2,zI3,reduceCtorEq,Y6 S]
     rw[Y7,Z8 (on S _ _ [2,3,4,8,10] (by decide) rfl) rfl _ _ _ _ _ _ _ _ _ rfl]
     simp only[eG,go_sem,Z3 S,Z2 S,zN0,zN1,zN2,zN3,zN4,zI0,zI1,zI2,zI3,reduceCtorEq,Y6 S]
     rw[e2 _ _ _ (by decide)]
     simp only[eG,go_sem,Z3 S,Z2 S,zN0,zN1,zN2,zN3,zN4,zI0,zI1,zI2,zI3,reduceCtorEq,Y6 S]
     rw[d0 _ _ rfl,d1 _ _ rfl,d2 _ _ rfl]
     simp only[eG,go_sem,Z3 S,Z2 S,zN0,zN1,zN2,zN3,zN4,zI0,zI1,zI2,zI3,reduceCtorEq,Y6 S]
     rw[hl,hi,show rD (Md.make l).mems=rD ([⟨⟨#[109]⟩,false,1⟩]:List MemT) from congrArg rD hms]
     rfl
  ·skip
   by_cases a4:0<Md.YF (Md.ZZ (Md.kM l 1) 12) 3
   ·by_cases a5 : IntKind.i64.wrap ((Md.QW l (Md.Zk l)).2.2 + Md.Zk l) <= 3
    ·have hms : Md.J2 l (Md.Zk l) = [⟨⟨#[109]⟩, false, 1⟩, ⟨⟨#[115]⟩, true, 1⟩] := by simp [Md.J2, Md.Bk, Md.QG, a1, a2, a4, a5]
     have d0:∀ A i,A[i]? =some (.cells ((rC ([⟨⟨#[109]⟩,false,1⟩,⟨⟨#[115]⟩,true,1⟩]:List MemT)).map .d) 0 false)->deep A 7 (.sref i 0 0 2 3 none)=some (.lst (rC ([⟨⟨#[109]⟩,false,1⟩,⟨⟨#[115]⟩,true,1⟩]:List MemT)) 2 none,[i]):=fun A i h=>Bv h (by simp) 5 _ 3 none rfl rfl
     have e1:=fun kx kr f hf=>HP S (dp+1) l kx kr (Md.nM l) ([⟨⟨#[109]⟩,false,1⟩,⟨⟨#[115]⟩,true,1⟩]:List MemT) (Md.Zk l) (Md.YR (Md.ZZ (Md.kM l 0) 1) 3+1) (Md.JD l (Md.Zk l)).1 (Md.JC l (Md.Zk l)).1 (Md.JB l (Md.Zk l)).1 (Md.QW l (Md.Zk l)).1 n0 n6 f hf
     have e2:=fun kx kr f hf=>HN S (dp+1) l kx kr (Md.nM l) ([⟨⟨#[109]⟩,false,1⟩,⟨⟨#[115]⟩,true,1⟩]:List MemT) (J8 (Md.nM l+1)) (Md.Zk l) (Md.YR (Md.ZZ (Md.kM l 0) 1) 3+1) (Md.JD l (Md.Zk l)).1 (Md.JC l (Md.Zk l)).1 (Md.JB l (Md.Zk l)).1 (Md.QW l (Md.Zk l)).1 n0 n6 f hf
     simp only[CH] at e2
     simp only[HA,Hv,List.length_cons,List.length_nil,zN2] at e1 e2
     simp only[eG,go_sem,Z3 S,Z2 S,zN0,zN1,zN2,zN3,zN4,zI0,zI1,zI2,zI3,reduceCtorEq,Y6 S,Int.cast_ofNat_Int,FK,l1,FV,Q6,YY,Q7,Q9 S,Q1,Fq,ER,Fk,Fj,sf1,sf8,sf10,sf12,FJ,r1',Int.reduceMul,Int.reduceAdd,Int.toNat_zero,Int.reduceToNat,zI1,zI2,and_true,true_and,and_self,BG,gt_iff_lt,wN,a1,a2,a4,a5]
     rw[Y7,Z8 (on S _ _ [2,3,4,8,9] (by decide) rfl) rfl _ _ _ _ _ _ _ _ _ rfl]
     simp only[eG,go_sem,Z3 S,Z2 S,zN0,zN1,zN2,zN3,zN4,zI0,zI1,zI2,zI3,reduceCtorEq,Y6 S]
     rw[e1 _ _ _ (by decide)]
     simp only[eG,go_sem,Z3 S,Z2 S,zN0,zN1,zN2,zN3,zN4,zI0,zI1,zI2,zI3,reduceCtorEq,Y6 S]
     rw[Y7,Z8 (on S _ _ [2,3,4,8,10] (by decide) rfl) rfl _ _ _ _ _ _ _ _ _ rfl]
     simp only[eG,go_sem,Z3 S,Z2 S,zN0,zN1,zN2,zN3,zN4,zI0,zI1,zI2,zI3,reduceCtorEq,Y6 S]
     rw[e2 _ _ _ (by decide)]
     simp only[eG,go_sem,Z3 S,Z2 S,zN0,zN1,zN2,zN3,zN4,zI0,zI1,zI2,zI3,reduceCtorEq,Y6 S]
     rw[d0 _ _ rfl,d1 _ _ rfl,d2 _ _ rfl]
     simp only[eG,go_sem,Z3 S,Z2 S,zN0,zN1,zN2,zN3,zN4,zI0,zI1,zI2,zI3,reduceCtorEq,Y6 S]
     rw[hl,hi,show rD (Md.make l).mems=rD ([⟨⟨#[109]⟩,false,1⟩,⟨⟨#[115]⟩,true,1⟩]:List MemT) from congrArg rD hms]
     rfl
    ·have hms : Md.J2 l (Md.Zk l) = [⟨⟨#[109]⟩, false, 1⟩] := by simp [Md.J2, Md.Bk, Md.QG, a1, a2, a4, a5]
     have d0:∀ A i,A[i]? =some (.cells ((rC ([⟨⟨#[109]⟩,false,1⟩]:List MemT)).map .d) 0 false)->deep A 7 (.sref i 0 0 1 3 none)=some (.lst (rC ([⟨⟨#[109]⟩,false,1⟩]:List MemT)) 1 none,[i]):=fun A i h=>Bv h (by simp) 5 _ 3 none rfl rfl
     have e1:=fun kx kr f hf=>HP S (dp+1) l kx kr (Md.nM l) ([⟨⟨#[109]⟩,false,1⟩]:List MemT) (Md.Zk l) (Md.YR (Md.ZZ (Md.kM l 0) 1) 3+1) (Md.JD l (Md.Zk l)).1 (Md.JC l (Md.Zk l)).1 (Md.JB l (Md.Zk l)).1 (Md.QW l (Md.Zk l)).1 n0 n6 f hf
     have e2:=fun kx kr f hf=>HN S (dp+1) l kx kr (Md.nM l) ([⟨⟨#[109]⟩,false,1⟩]:List MemT) (J8 (Md.nM l+1)) (Md.Zk l) (Md.YR (Md.ZZ (Md.kM l 0) 1) 3+1) (Md.JD l (Md.Zk l)).1 (Md.JC l (Md.Zk l)).1 (Md.JB l (Md.Zk l)).1 (Md.QW l (Md.Zk l)).1 n0 n6 f hf
     simp only[CH] at e2
     simp only[HA,Hv,List.length_cons,List.length_nil,zN2] at e1 e2
     simp only[eG,go_sem,Z3 S,Z2 S,zN0,zN1,zN2,zN3,zN4,zI0,zI1,zI2,zI3,reduceCtorEq,Y6 S,Int.cast_ofNat_Int,FK,l1,FV,Q6,YY,Q7,Q9 S,Q1,Fq,ER,Fk,Fj,sf1,sf8,sf10,sf12,FJ,r1',Int.reduceMul,Int.reduceAdd,Int.toNat_zero,Int.reduceToNat,zI1,zI2,and_true,true_and,and_self,BG,gt_iff_lt,wN,a1,a2,a4,a5]
     rw[Y7,Z8 (on S _ _ [2,3,4,8,9] (by decide) rfl) rfl _ _ _ _ _ _ _ _ _ rfl]
     simp only[eG,go_sem,Z3 S,Z2 S,zN0,zN1,zN2,zN3,zN4,zI0,zI1,zI2,zI3,reduceCtorEq,Y6 S]
     rw[e1 _ _ _ (by decide)]
     simp only[eG,go_sem,Z3 S,Z2 S,zN0,zN1,zN2,zN3,zN4,zI0,zI1,zI2,zI3,reduceCtorEq,Y6 S]
     rw[Y7,Z8 (on S _ _ [2,3,4,8,10] (by decide) rfl) rfl _ _ _ _ _ _ _ _ _ rfl]
     simp only[eG,go_sem,Z3 S,Z2 S,zN0,zN1,zN2,zN3,zN4,zI0,zI1,zI2,zI3,reduceCtorEq,Y6 S]
     rw[e2 _ _ _ (by decide)]
     simp only[eG,go_sem,Z3 S,Z2 S,zN0,zN1,zN2,zN3,zN4,zI0,zI1,zI2,zI3,reduceCtorEq,Y6 S]
     rw[d0 _ _ rfl,d1 _ _ rfl,d2 _ _ rfl]
     simp only[eG,go_sem,Z3 S,Z2 S,zN0,zN1,zN2,zN3,zN4,zI0,zI1,zI2,zI3,reduceCtorEq,Y6 S]
     rw[hl,hi,show rD (Md.make l).mems=rD ([⟨⟨#[109]⟩,false,1⟩]:List MemT) from congrArg rD hms]
     rfl
   ·have hms : Md.J2 l (Md.Zk l) = [⟨⟨#[109]⟩, false, 1⟩] := by simp [Md.J2, Md.Bk, Md.QG, a1, a2, a4]
    have d0:∀ A i,A[i]? =some (.cells ((rC ([⟨⟨#[109]⟩,false,1⟩]:List MemT)).map .d) 0 false)->deep A 7 (.sref i 0 0 1 3 none)=some (.lst (rC ([⟨⟨#[109]⟩,false,1⟩]:List MemT)) 1 none,[i]):=fun A i h=>Bv h (by simp) 5 _ 3 none rfl rfl
    have e1:=fun kx kr f hf=>HP S (dp+1) l kx kr (Md.nM l) ([⟨⟨#[109]⟩,false,1⟩]:List MemT) (Md.Zk l) (Md.YR (Md.ZZ (Md.kM l 0) 1) 3+1) (Md.JD l (Md.Zk l)).1 (Md.JC l (Md.Zk l)).1 (Md.JB l (Md.Zk l)).1 (Md.QW l (Md.Zk l)).1 n0 n6 f hf
    have e2:=fun kx kr f hf=>HN S (dp+1) l kx kr (Md.nM l) ([⟨⟨#[109]⟩,false,1⟩]:List MemT) (J8 (Md.nM l+1)) (Md.Zk l) (Md.YR (Md.ZZ (Md.kM l 0) 1) 3+1) (Md.JD l (Md.Zk l)).1 (Md.JC l (Md.Zk l)).1 (Md.JB l (Md.Zk l)).1 (Md.QW l (Md.Zk l)).1 n0 n6 f hf
    simp only[CH] at e2
    simp only[HA,Hv,List.length_cons,List.length_nil,zN2] at e1 e2
    simp only[eG,go_sem,Z3 S,Z2 S,zN0,zN1,zN2,zN3,zN4,zI0,zI1,zI2,zI3,reduceCtorEq,Y6 S,Int.cast_ofNat_Int,FK,l1,FV,Q6,YY,Q7,Q9 S,Q1,Fq,ER,Fk,Fj,sf1,sf8,sf10,sf12,FJ,r1',Int.reduceMul,Int.reduceAdd,Int.toNat_zero,Int.reduceToNat,zI1,zI2,and_true,true_and,and_self,BG,gt_iff_lt,wN,a1,a2,a4]
    rw[Y7,Z8 (on S _ _ [2,3,4,8,9] (by decide) rfl) rfl _ _ _ _ _ _ _ _ _ rfl]
    simp only[eG,go_sem,Z3 S,Z2 S,zN0,zN1,zN2,zN3,zN4,zI0,zI1,zI2,zI3,reduceCtorEq,Y6 S]
    rw[e1 _ _ _ (by decide)]
    simp only[eG,go_sem,Z3 S,Z2 S,zN0,zN1,zN2,zN3,zN4,zI0,zI1,zI2,zI3,reduceCtorEq,Y6 S]
    rw[Y7,Z8 (on S _ _ [2,3,4,8,10] (by decide) rfl) rfl _ _ _ _ _ _ _ _ _ rfl]
    simp only[eG,go_sem,Z3 S,Z2 S,zN0,zN1,zN2,zN3,zN4,zI0,zI1,zI2,zI3,reduceCtorEq,Y6 S]
    rw[e2 _ _ _ (by decide)]
    simp only[eG,go_sem,Z3 S,Z2 S,zN0,zN1,zN2,zN3,zN4,zI0,zI1,zI2,zI3,reduceCtorEq,Y6 S]
    rw[d0 _ _ rfl,d1 _ _ rfl,d2 _ _ rfl]
    simp only[eG,go_sem,Z3 S,Z2 S,zN0,zN1,zN2,zN3,zN4,zI0,zI1,zI2,zI3,reduceCtorEq,Y6 S]
    rw[hl,hi,show rD (Md.make l).mems=rD ([⟨⟨#[109]⟩,false,1⟩]:List MemT) from congrArg rD hms]
    rfl
 ·skip
  by_cases a4:0<Md.YF (Md.ZZ (Md.kM l 1) 12) 3
  ·by_cases a5 : IntKind.i64.wrap ((Md.QW l (Md.Zk l)).2.2 + Md.Zk l) <= 3
   ·have hms : Md.J2 l (Md.Zk l) = [⟨⟨#[115]⟩, true, 1⟩] := by simp [Md.J2, Md.Bk, Md.QG, a1, a4, a5]
    have d0:∀ A i,A[i]? =some (.cells ((rC ([⟨⟨#[115]⟩,true,1⟩]:List MemT)).map .d) 0 false)->deep A 7 (.sref i 0 0 1 3 none)=some (.lst (rC ([⟨⟨#[115]⟩,true,1⟩]:List MemT)) 1 none,[i]):=fun A i h=>Bv h (by simp) 5 _ 3 none rfl rfl
    have e1:=fun kx kr f hf=>HP S (dp+1) l kx kr (Md.nM l) ([⟨⟨#[115]⟩,true,1⟩]:List MemT) (Md.Zk l) (Md.YR (Md.ZZ (Md.kM l 0) 1) 3+1) (Md.JD l (Md.Zk l)).1 (Md.JC l (Md.Zk l)).1 (Md.JB l (Md.Zk l)).1 (Md.QW l (Md.Zk l)).1 n0 n6 f hf
    have e2:=fun kx kr f hf=>HN S (dp+1) l kx kr (Md.nM l) ([⟨⟨#[115]⟩,true,1⟩]:List MemT) (J8 (Md.nM l+1)) (Md.Zk l) (Md.YR (Md.ZZ (Md.kM l 0) 1) 3+1) (Md.JD l (Md.Zk l)).1 (Md.JC l (Md.Zk l)).1 (Md.JB l (Md.Zk l)).1 (Md.QW l (Md.Zk l)).1 n0 n6 f hf
    simp only[CH] at e2
    simp only[HA,Hv,List.length_cons,List.length_nil,zN2] at e1 e2
    simp only[eG,go_sem,Z3 S,Z2 S,zN0,zN1,zN2,zN3,zN4,zI0,zI1,zI2,zI3,reduceCtorEq,Y6 S,Int.cast_ofNat_Int,FK,l1,FV,Q6,YY,Q7,Q9 S,Q1,Fq,ER,Fk,Fj,sf1,sf8,sf10,sf12,FJ,r1',Int.reduceMul,Int.reduceAdd,Int.toNat_zero,Int.reduceToNat,zI1,zI2,and_true,true_and,and_self,BG,gt_iff_lt,wN,a1,a4,a5]
    rw[Y7,Z8 (on S _ _ [2,3,4,8,9] (by decide) rfl) rfl _ _ _ _ _ _ _ _ _ rfl]
    simp only[eG,go_sem,Z3 S,Z2 S,zN0,zN1,zN2,zN3,zN4,zI0,zI1,zI2,zI3,reduceCtorEq,Y6 S]
    rw[e1 _ _ _ (by decide)]
    simp only[eG,go_sem,Z3 S,Z2 S,zN0,zN1,zN2,zN3,zN4,zI0,zI1,zI2,zI3,reduceCtorEq,Y6 S]
    rw[Y7,Z8 (on S _ _ [2,3,4,8,10] (by decide) rfl) rfl _ _ _ _ _ _ _ _ _ rfl]
    simp only[eG,go_sem,Z3 S,Z2 S,zN0,zN1,zN2,zN3,zN4,zI0,zI1,zI2,zI3,reduceCtorEq,Y6 S]
    rw[e2 _ _ _ (by decide)]
    simp only[eG,go_sem,Z3 S,Z2 S,zN0,zN1,zN2,zN3,zN4,zI0,zI1,zI2,zI3,reduceCtorEq,Y6 S]
    rw[d0 _ _ rfl,d1 _ _ rfl,d2 _ _ rfl]
    simp only[eG,go_sem,Z3 S,Z2 S,zN0,zN1,zN2,zN3,zN4,zI0,zI1,zI2,zI3,reduceCtorEq,Y6 S]
    rw[hl,hi,show rD (Md.make l).mems=rD ([⟨⟨#[115]⟩,true,1⟩]:List MemT) from congrArg rD hms]
    rfl
   ·have hms : Md.J2 l (Md.Zk l) = [] := by simp [Md.J2, Md.Bk, Md.QG, a1, a4, a5]
    have e1:=fun kx kr f hf=>Z7l S (dp+1) l kx kr (Md.nM l) (Md.Zk l) (Md.YR (Md.ZZ (Md.kM l 0) 1) 3+1) (Md.JD l (Md.Zk l)).1 (Md.JC l (Md.Zk l)).1 (Md.JB l (Md.Zk l)).1 (Md.QW l (Md.Zk l)).1 n0 n6 f hf
    have e2:=fun kx kr f hf=>Z7k S (dp+1) l kx kr (Md.nM l) (J8 (Md.nM l+1)) (Md.Zk l) (Md.YR (Md.ZZ (Md.kM l 0) 1) 3+1) (Md.JD l (Md.Zk l)).1 (Md.JC l (Md.Zk l)).1 (Md.JB l (Md.Zk l)).1 (Md.QW l (Md.Zk l)).1 n0 n6 f hf
    simp only[CH] at e2
    simp only[eG,go_sem,Z3 S,Z2 S,zN0,zN1,zN2,zN3,zN4,zI0,zI1,zI2,zI3,reduceCtorEq,Y6 S,Int.cast_ofNat_Int,FK,l1,FV,Q6,YY,Q7,Q9 S,Q1,Fq,ER,Fk,Fj,sf1,sf8,sf10,sf12,FJ,r1',Int.reduceMul,Int.reduceAdd,Int.toNat_zero,Int.reduceToNat,zI1,zI2,and_true,true_and,and_self,BG,gt_iff_lt,wN,a1,a4,a5]
    rw[Y7,Z8 (on S _ _ [2,3,4,8,9] (by decide) rfl) rfl _ _ _ _ _ _ _ _ _ rfl]
    simp only[eG,go_sem,Z3 S,Z2 S,zN0,zN1,zN2,zN3,zN4,zI0,zI1,zI2,zI3,reduceCtorEq,Y6 S]
    rw[e1 _ _ _ (by decide)]
    simp only[eG,go_sem,Z3 S,Z2 S,zN0,zN1,zN2,zN3,zN4,zI0,zI1,zI2,zI3,reduceCtorEq,Y6 S]
    rw[Y7,Z8 (on S _ _ [2,3,4,8,10] (by decide) rfl) rfl _ _ _ _ _ _ _ _ _ rfl]
    simp only[eG,go_sem,Z3 S,Z2 S,zN0,zN1,zN2,zN3,zN4,zI0,zI1,zI2,zI3,reduceCtorEq,Y6 S]
    rw[e2 _ _ _ (by decide)]
    simp only[eG,go_sem,Z3 S,Z2 S,zN0,zN1,zN2,zN3,zN4,zI0,zI1,zI2,zI3,reduceCtorEq,Y6 S]
    rw[d1 _ _ rfl,d2 _ _ rfl]
    simp only[eG,go_sem,Z3 S,Z2 S,zN0,zN1,zN2,zN3,zN4,zI0,zI1,zI2,zI3,reduceCtorEq,Y6 S]
    rw[hl,hi,show rD (Md.make l).mems=rD ([]:List MemT) from congrArg rD hms]
    rfl
  ·have hms : Md.J2 l (Md.Zk l) = [] := by simp [Md.J2, Md.Bk, Md.QG, a1, a4]
   have e1:=fun kx kr f hf=>Z7l S (dp+1) l kx kr (Md.nM l) (Md.Zk l) (Md.YR (Md.ZZ (Md.kM l 0) 1) 3+1) (Md.JD l (Md.Zk l)).1 (Md.JC l (Md.Zk l)).1 (Md.JB l (Md.Zk l)).1 (Md.QW l (Md.Zk l)).1 n0 n6 f hf
   have e2:=fun kx kr f hf=>Z7k S (dp+1) l kx kr (Md.nM l) (J8 (Md.nM l+1)) (Md.Zk l) (Md.YR (Md.ZZ (Md.kM l 0) 1) 3+1) (Md.JD l (Md.Zk l)).1 (Md.JC l (Md.Zk l)).1 (Md.JB l (Md.Zk l)).1 (Md.QW l (Md.Zk l)).1 n0 n6 f hf
   simp only[CH] at e2
   simp only[eG,go_sem,Z3 S,Z2 S,zN0,zN1,zN2,zN3,zN4,zI0,zI1,zI2,zI3,reduceCtorEq,Y6 S,Int.cast_ofNat_Int,FK,l1,FV,Q6,YY,Q7,Q9 S,Q1,Fq,ER,Fk,Fj,sf1,sf8,sf10,sf12,FJ,r1',Int.reduceMul,Int.reduceAdd,Int.toNat_zero,Int.reduceToNat,zI1,zI2,and_true,true_and,and_self,BG,gt_iff_lt,wN,a1,a4]
   rw[Y7,Z8 (on S _ _ [2,3,4,8,9] (by decide) rfl) rfl _ _ _ _ _ _ _ _ _ rfl]
   simp only[eG,go_sem,Z3 S,Z2 S,zN0,zN1,zN2,zN3,zN4,zI0,zI1,zI2,zI3,reduceCtorEq,Y6 S]
   rw[e1 _ _ _ (by decide)]
   simp only[eG,go_sem,Z3 S,Z2 S,zN0,zN1,zN2,zN3,zN4,zI0,zI1,zI2,zI3,reduceCtorEq,Y6 S]
   rw[Y7,Z8 (on S _ _ [2,3,4,8,10] (by decide) rfl) rfl _ _ _ _ _ _ _ _ _ rfl]
   simp only[eG,go_sem,Z3 S,Z2 S,zN0,zN1,zN2,zN3,zN4,zI0,zI1,zI2,zI3,reduceCtorEq,Y6 S]
   rw[e2 _ _ _ (by decide)]
   simp only[eG,go_sem,Z3 S,Z2 S,zN0,zN1,zN2,zN3,zN4,zI0,zI1,zI2,zI3,reduceCtorEq,Y6 S]
   rw[d1 _ _ rfl,d2 _ _ rfl]
   simp only[eG,go_sem,Z3 S,Z2 S,zN0,zN1,zN2,zN3,zN4,zI0,zI1,zI2,zI3,reduceCtorEq,Y6 S]
   rw[hl,hi,show rD (Md.make l).mems=rD ([]:List MemT) from congrArg rD hms]
   rfl
theorem Zrz (dp:Nat)(l:List Int)(A:List Blk)(nb:Nat):Zv false E (Z4 E fn (dp+4)) 13 A nb (some ([rD l],[]))=some (.made (.d (Zw (Md.make l))) []):=
 Z6.deep (Zj0 S dp l ) (np S 13 (by decide)) A nb
end
end Go.Aug.Mc
