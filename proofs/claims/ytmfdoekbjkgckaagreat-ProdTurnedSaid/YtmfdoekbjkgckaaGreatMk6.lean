import Derived.Test.YtmfdoekbjkgckaaGreatMk4
namespace Go.Aug.Mc
open Go Go.Aug
set_option linter.unusedSimpArgs false
set_option linter.unusedVariables false
set_option maxHeartbeats 40000000
def JK (n:Nat):List Label:=(List.range n).map Md.HH
def D3 (l:List Int)(n j:Nat):List Ins:=(List.range j).map fun i:Nat=>Md.AE (Md.kM l (i+2)) n
theorem Z7d (n:Nat):JK n++[Md.HH n]=JK (n+1):=by simp[JK,List.range_succ]
theorem Z7m (l:List Int)(n j:Nat):D3 l n j++[Md.AE (Md.kM l (j+2)) n]=D3 l n (j+1):=by simp[D3,List.range_succ]
theorem CP (n:Nat):(JK n).length=n:=by simp[JK]
theorem Pw (l:List Int)(n j:Nat):(D3 l n j).length=j:=by simp[D3]
variable {E:Env} {fn:FuncId->Option (Env->cT->cT)}
section
variable (S:Sur E fn)
include S
theorem Vw:E.lives 8 1=none/\E.lives 8 23=none/\E.lives 8 27=none/\E.lives 8 31=none/\E.lives 8 35=none/\E.lives 8 39=none:=⟨off S 8 1 (by decide) rfl,off S 8 23 (by decide) rfl,off S 8 27 (by decide) rfl,off S 8 31 (by decide) rfl,off S 8 35 (by decide) rfl,off S 8 39 (by decide) rfl⟩
theorem Zpk (dp:Nat)(l:List Int)(kx:Nat->K)(kr:K)(n:Nat)(W wn r0 r1 r2 r3:Int)(hn:n<6):∀ m j f,j+m=(n+1)->m<=f->
  QM (Zq E 8) (Z4 E fn (dp+2)) (Zj 44 QM (Zq E 8) (Z4 E fn (dp+2)) kx kr f) kx kr (mk .bot 171 [(2,.ref 0 0 0),(3,.fn (.func 24) [.ref 1 0 0]),(4,.ref 2 0 0),(8,aI n),(9,aI (j:Int))]) [.cells [zi,zi,zi,zi,zi,zi,zi,zn,zn,zn] 0 false,.cells [.d (rD l)] 0 false,.cells [aI W,aI wn,aI 6,aI r0,aI r1,aI r2,aI r3,zn,.sref 3 0 0 (j) 2 none,zn] 0 false,.cells ((rC (JK j)).map .d) 0 false]=
  kx 3 (mk .bot 171 ((141,YD false)::(140,aI n)::(139,aI ((n+1:Nat):Int))::[(2,.ref 0 0 0),(3,.fn (.func 24) [.ref 1 0 0]),(4,.ref 2 0 0),(8,aI n),(9,aI ((n+1:Nat):Int))])) [.cells [zi,zi,zi,zi,zi,zi,zi,zn,zn,zn] 0 false,.cells [.d (rD l)] 0 false,.cells [aI W,aI wn,aI 6,aI r0,aI r1,aI r2,aI r3,zn,.sref 3 0 0 ((n+1)) 2 none,zn] 0 false,.cells ((rC (JK (n+1))).map .d) 0 false]:=by
 intro m
 induction m with
 | zero=>
  intro j f hj _
  obtain rfl:j=n+1:=by omega
  have hz:¬(((n+1:Nat):Int)<=n):=by omega
  generalize Zj 44 QM _ _ kx kr f=KK
  first | (conv=>lhs;rw[QM]) | rw[QM]
  simp only[eG,go_sem,Z3 S,Z2 S,Nat.reduceLT,Nat.reduceEqDiff,Nat.reduceAdd,Nat.reduceMul,Nat.reduceLeDiff,Int.reduceEq,Int.reduceLT,Int.reduceLE,Int.reduceNeg,reduceCtorEq,Vw S,hz]
 | succ m ih=>
  intro j f hj hf
  obtain⟨f,rfl⟩:∃ g,f=g+1:=⟨f-1,by omega⟩
  have e:=Zn6 S dp l kx kr f n W wn r0 r1 r2 r3 j (JK j) (by omega) hn (by rw[CP];omega)
  rw[Z7d,CP] at e
  rw[e]
  exact ih (j+1) f (by omega) (by omega)
theorem Z75 (dp:Nat)(l:List Int)(kx:Nat->K)(kr:K)(n:Nat)(W wn r0 r1 r2 r3:Int)(h0:0<n)(hn:n<6)(f:Nat)(hf:10<=f):
  QM (Zq E 8) (Z4 E fn (dp+2)) (Zj 44 QM (Zq E 8) (Z4 E fn (dp+2)) kx kr f) kx kr (mk .bot 171 [(2,.ref 0 0 0),(3,.fn (.func 24) [.ref 1 0 0]),(4,.ref 2 0 0),(8,aI n),(9,aI 0)]) [.cells [zi,zi,zi,zi,zi,zi,zi,zn,zn,zn] 0 false,.cells [.d (rD l)] 0 false,.cells [aI W,aI wn,aI 6,aI r0,aI r1,aI r2,aI r3,zn,zn,zn] 0 false]=
  kx 3 (mk .bot 171 ((141,YD false)::(140,aI n)::(139,aI ((n+1:Nat):Int))::[(2,.ref 0 0 0),(3,.fn (.func 24) [.ref 1 0 0]),(4,.ref 2 0 0),(8,aI n),(9,aI ((n+1:Nat):Int))])) [.cells [zi,zi,zi,zi,zi,zi,zi,zn,zn,zn] 0 false,.cells [.d (rD l)] 0 false,.cells [aI W,aI wn,aI 6,aI r0,aI r1,aI r2,aI r3,zn,.sref 3 0 0 ((n+1)) 2 none,zn] 0 false,.cells ((rC (JK (n+1))).map .d) 0 false]:=by
 obtain⟨f,rfl⟩:∃ g,f=g+1:=⟨f-1,by omega⟩
 rw[Zps S dp l kx kr f n W wn r0 r1 r2 r3 hn]
 exact Zpk S dp l kx kr n W wn r0 r1 r2 r3 hn n 1 f (by omega) (by omega)
theorem Zpi (dp:Nat)(l:List Int)(kx:Nat->K)(kr:K)(n:Nat)(ls:List Label)(W wn r0 r1 r2 r3:Int)(hn:n<6):∀ m j f,j+m=n->m<=f->
  QK (Zq E 8) (Z4 E fn (dp+2)) (Zj 52 QK (Zq E 8) (Z4 E fn (dp+2)) kx kr f) kx kr (mk .bot 171 [(2,.ref 0 0 0),(3,.fn (.func 24) [.ref 1 0 0]),(4,.ref 2 0 0),(8,aI n),(10,aI (j:Int))]) [.cells [zi,zi,zi,zi,zi,zi,zi,zn,zn,zn] 0 false,.cells [.d (rD l)] 0 false,.cells [aI W,aI wn,aI 6,aI r0,aI r1,aI r2,aI r3,zn,.sref 3 0 0 ls.length 2 none,.sref 4 0 0 (j) 9 none] 0 false,.cells ((rC ls).map .d) 0 false,.cells ((rC (D3 l n j)).map .d) 0 false]=
  kx 5 (mk .bot 171 ((156,YD false)::(155,aI n)::(154,aI n)::[(2,.ref 0 0 0),(3,.fn (.func 24) [.ref 1 0 0]),(4,.ref 2 0 0),(8,aI n),(10,aI (n:Int))])) [.cells [zi,zi,zi,zi,zi,zi,zi,zn,zn,zn] 0 false,.cells [.d (rD l)] 0 false,.cells [aI W,aI wn,aI 6,aI r0,aI r1,aI r2,aI r3,zn,.sref 3 0 0 ls.length 2 none,.sref 4 0 0 (n) 9 none] 0 false,.cells ((rC ls).map .d) 0 false,.cells ((rC (D3 l n n)).map .d) 0 false]:=by
 intro m
 induction m with
 | zero=>
  intro j f hj _
  obtain rfl:n=j:=by omega
  have hz:¬((n:Int)<n):=by omega
  generalize Zj 52 QK _ _ kx kr f=KK
  first | (conv=>lhs;rw[QK]) | rw[QK]
  simp only[eG,go_sem,Z3 S,Z2 S,Nat.reduceLT,Nat.reduceEqDiff,Nat.reduceAdd,Nat.reduceMul,Nat.reduceLeDiff,Int.reduceEq,Int.reduceLT,Int.reduceLE,Int.reduceNeg,reduceCtorEq,Vw S,hz]
 | succ m ih=>
  intro j f hj hf
  obtain⟨f,rfl⟩:∃ g,f=g+1:=⟨f-1,by omega⟩
  have e:=Zn4 S dp l kx kr f n ls W wn r0 r1 r2 r3 j (D3 l n j) (by omega) hn (by rw[Pw];omega)
  rw[Z7m,Pw] at e
  rw[e]
  exact ih (j+1) f (by omega) (by omega)
theorem Z74 (dp:Nat)(l:List Int)(kx:Nat->K)(kr:K)(n:Nat)(ls:List Label)(W wn r0 r1 r2 r3:Int)(h0:0<n)(hn:n<6)(f:Nat)(hf:10<=f):
  QK (Zq E 8) (Z4 E fn (dp+2)) (Zj 52 QK (Zq E 8) (Z4 E fn (dp+2)) kx kr f) kx kr (mk .bot 171 [(2,.ref 0 0 0),(3,.fn (.func 24) [.ref 1 0 0]),(4,.ref 2 0 0),(8,aI n),(10,aI 0)]) [.cells [zi,zi,zi,zi,zi,zi,zi,zn,zn,zn] 0 false,.cells [.d (rD l)] 0 false,.cells [aI W,aI wn,aI 6,aI r0,aI r1,aI r2,aI r3,zn,.sref 3 0 0 ls.length 2 none,zn] 0 false,.cells ((rC ls).map .d) 0 false]=
  kx 5 (mk .bot 171 ((156,YD false)::(155,aI n)::(154,aI n)::[(2,.ref 0 0 0),(3,.fn (.func 24) [.ref 1 0 0]),(4,.ref 2 0 0),(8,aI n),(10,aI (n:Int))])) [.cells [zi,zi,zi,zi,zi,zi,zi,zn,zn,zn] 0 false,.cells [.d (rD l)] 0 false,.cells [aI W,aI wn,aI 6,aI r0,aI r1,aI r2,aI r3,zn,.sref 3 0 0 ls.length 2 none,.sref 4 0 0 (n) 9 none] 0 false,.cells ((rC ls).map .d) 0 false,.cells ((rC (D3 l n n)).map .d) 0 false]:=by
 obtain⟨f,rfl⟩:∃ g,f=g+1:=⟨f-1,by omega⟩
 rw[Zpq S dp l kx kr f n ls W wn r0 r1 r2 r3 h0 hn]
 exact Zpi S dp l kx kr n ls W wn r0 r1 r2 r3 hn (n-1) 1 f (by omega) (by omega)
theorem Zpj (dp:Nat)(l:List Int)(kx:Nat->K)(kr:K)(n:Nat)(ms:List MemT)(W wn r0 r1 r2 r3:Int)(hn:n<6):∀ m j f,j+m=(n+1)->m<=f->
  QM (Zq E 8) (Z4 E fn (dp+2)) (Zj 44 QM (Zq E 8) (Z4 E fn (dp+2)) kx kr f) kx kr (mk .bot 171 [(2,.ref 0 0 0),(3,.fn (.func 24) [.ref 1 0 0]),(4,.ref 2 0 0),(8,aI n),(9,aI (j:Int))]) [.cells [zi,zi,zi,zi,zi,zi,zi,zn,zn,zn] 0 false,.cells [.d (rD l)] 0 false,.cells [aI W,aI wn,aI 6,aI r0,aI r1,aI r2,aI r3,.sref 3 0 0 ms.length 3 none,.sref 4 0 0 (j) 2 none,zn] 0 false,.cells ((rC ms).map .d) 0 false,.cells ((rC (JK j)).map .d) 0 false]=
  kx 3 (mk .bot 171 ((141,YD false)::(140,aI n)::(139,aI ((n+1:Nat):Int))::[(2,.ref 0 0 0),(3,.fn (.func 24) [.ref 1 0 0]),(4,.ref 2 0 0),(8,aI n),(9,aI ((n+1:Nat):Int))])) [.cells [zi,zi,zi,zi,zi,zi,zi,zn,zn,zn] 0 false,.cells [.d (rD l)] 0 false,.cells [aI W,aI wn,aI 6,aI r0,aI r1,aI r2,aI r3,.sref 3 0 0 ms.length 3 none,.sref 4 0 0 ((n+1)) 2 none,zn] 0 false,.cells ((rC ms).map .d) 0 false,.cells ((rC (JK (n+1))).map .d) 0 false]:=by
 intro m
 induction m with
 | zero=>
  intro j f hj _
  obtain rfl:j=n+1:=by omega
  have hz:¬(((n+1:Nat):Int)<=n):=by omega
  generalize Zj 44 QM _ _ kx kr f=KK
  first | (conv=>lhs;rw[QM]) | rw[QM]
  simp only[eG,go_sem,Z3 S,Z2 S,Nat.reduceLT,Nat.reduceEqDiff,Nat.reduceAdd,Nat.reduceMul,Nat.reduceLeDiff,Int.reduceEq,Int.reduceLT,Int.reduceLE,Int.reduceNeg,reduceCtorEq,Vw S,hz]
 | succ m ih=>
  intro j f hj hf
  obtain⟨f,rfl⟩:∃ g,f=g+1:=⟨f-1,by omega⟩
  have e:=Zn5 S dp l kx kr f n ms W wn r0 r1 r2 r3 j (JK j) (by omega) hn (by rw[CP];omega)
  rw[Z7d,CP] at e
  rw[e]
  exact ih (j+1) f (by omega) (by omega)
theorem HG (dp:Nat)(l:List Int)(kx:Nat->K)(kr:K)(n:Nat)(ms:List MemT)(W wn r0 r1 r2 r3:Int)(h0:0<n)(hn:n<6)(f:Nat)(hf:10<=f):
  QM (Zq E 8) (Z4 E fn (dp+2)) (Zj 44 QM (Zq E 8) (Z4 E fn (dp+2)) kx kr f) kx kr (mk .bot 171 [(2,.ref 0 0 0),(3,.fn (.func 24) [.ref 1 0 0]),(4,.ref 2 0 0),(8,aI n),(9,aI 0)]) [.cells [zi,zi,zi,zi,zi,zi,zi,zn,zn,zn] 0 false,.cells [.d (rD l)] 0 false,.cells [aI W,aI wn,aI 6,aI r0,aI r1,aI r2,aI r3,.sref 3 0 0 ms.length 3 none,zn,zn] 0 false,.cells ((rC ms).map .d) 0 false]=
  kx 3 (mk .bot 171 ((141,YD false)::(140,aI n)::(139,aI ((n+1:Nat):Int))::[(2,.ref 0 0 0),(3,.fn (.func 24) [.ref 1 0 0]),(4,.ref 2 0 0),(8,aI n),(9,aI ((n+1:Nat):Int))])) [.cells [zi,zi,zi,zi,zi,zi,zi,zn,zn,zn] 0 false,.cells [.d (rD l)] 0 false,.cells [aI W,aI wn,aI 6,aI r0,aI r1,aI r2,aI r3,.sref 3 0 0 ms.length 3 none,.sref 4 0 0 ((n+1)) 2 none,zn] 0 false,.cells ((rC ms).map .d) 0 false,.cells ((rC (JK (n+1))).map .d) 0 false]:=by
 obtain⟨f,rfl⟩:∃ g,f=g+1:=⟨f-1,by omega⟩
 rw[Zpr S dp l kx kr f n ms W wn r0 r1 r2 r3 hn]
 exact Zpj S dp l kx kr n ms W wn r0 r1 r2 r3 hn n 1 f (by omega) (by omega)
theorem Zph (dp:Nat)(l:List Int)(kx:Nat->K)(kr:K)(n:Nat)(ms:List MemT)(ls:List Label)(W wn r0 r1 r2 r3:Int)(hn:n<6):∀ m j f,j+m=n->m<=f->
  QK (Zq E 8) (Z4 E fn (dp+2)) (Zj 52 QK (Zq E 8) (Z4 E fn (dp+2)) kx kr f) kx kr (mk .bot 171 [(2,.ref 0 0 0),(3,.fn (.func 24) [.ref 1 0 0]),(4,.ref 2 0 0),(8,aI n),(10,aI (j:Int))]) [.cells [zi,zi,zi,zi,zi,zi,zi,zn,zn,zn] 0 false,.cells [.d (rD l)] 0 false,.cells [aI W,aI wn,aI 6,aI r0,aI r1,aI r2,aI r3,.sref 3 0 0 ms.length 3 none,.sref 4 0 0 ls.length 2 none,.sref 5 0 0 (j) 9 none] 0 false,.cells ((rC ms).map .d) 0 false,.cells ((rC ls).map .d) 0 false,.cells ((rC (D3 l n j)).map .d) 0 false]=
  kx 5 (mk .bot 171 ((156,YD false)::(155,aI n)::(154,aI n)::[(2,.ref 0 0 0),(3,.fn (.func 24) [.ref 1 0 0]),(4,.ref 2 0 0),(8,aI n),(10,aI (n:Int))])) [.cells [zi,zi,zi,zi,zi,zi,zi,zn,zn,zn] 0 false,.cells [.d (rD l)] 0 false,.cells [aI W,aI wn,aI 6,aI r0,aI r1,aI r2,aI r3,.sref 3 0 0 ms.length 3 none,.sref 4 0 0 ls.length 2 none,.sref 5 0 0 (n) 9 none] 0 false,.cells ((rC ms).map .d) 0 false,.cells ((rC ls).map .d) 0 false,.cells ((rC (D3 l n n)).map .d) 0 false]:=by
 intro m
 induction m with
 | zero=>
  intro j f hj _
  obtain rfl:n=j:=by omega
  have hz:¬((n:Int)<n):=by omega
  generalize Zj 52 QK _ _ kx kr f=KK
  first | (conv=>lhs;rw[QK]) | rw[QK]
  simp only[eG,go_sem,Z3 S,Z2 S,Nat.reduceLT,Nat.reduceEqDiff,Nat.reduceAdd,Nat.reduceMul,Nat.reduceLeDiff,Int.reduceEq,Int.reduceLT,Int.reduceLE,Int.reduceNeg,reduceCtorEq,Vw S,hz]
 | succ m ih=>
  intro j f hj hf
  obtain⟨f,rfl⟩:∃ g,f=g+1:=⟨f-1,by omega⟩
  have e:=Zn3 S dp l kx kr f n ms ls W wn r0 r1 r2 r3 j (D3 l n j) (by omega) hn (by rw[Pw];omega)
  rw[Z7m,Pw] at e
  rw[e]
  exact ih (j+1) f (by omega) (by omega)
theorem HF (dp:Nat)(l:List Int)(kx:Nat->K)(kr:K)(n:Nat)(ms:List MemT)(ls:List Label)(W wn r0 r1 r2 r3:Int)(h0:0<n)(hn:n<6)(f:Nat)(hf:10<=f):
  QK (Zq E 8) (Z4 E fn (dp+2)) (Zj 52 QK (Zq E 8) (Z4 E fn (dp+2)) kx kr f) kx kr (mk .bot 171 [(2,.ref 0 0 0),(3,.fn (.func 24) [.ref 1 0 0]),(4,.ref 2 0 0),(8,aI n),(10,aI 0)]) [.cells [zi,zi,zi,zi,zi,zi,zi,zn,zn,zn] 0 false,.cells [.d (rD l)] 0 false,.cells [aI W,aI wn,aI 6,aI r0,aI r1,aI r2,aI r3,.sref 3 0 0 ms.length 3 none,.sref 4 0 0 ls.length 2 none,zn] 0 false,.cells ((rC ms).map .d) 0 false,.cells ((rC ls).map .d) 0 false]=
  kx 5 (mk .bot 171 ((156,YD false)::(155,aI n)::(154,aI n)::[(2,.ref 0 0 0),(3,.fn (.func 24) [.ref 1 0 0]),(4,.ref 2 0 0),(8,aI n),(10,aI (n:Int))])) [.cells [zi,zi,zi,zi,zi,zi,zi,zn,zn,zn] 0 false,.cells [.d (rD l)] 0 false,.cells [aI W,aI wn,aI 6,aI r0,aI r1,aI r2,aI r3,.sref 3 0 0 ms.length 3 none,.sref 4 0 0 ls.length 2 none,.sref 5 0 0 (n) 9 none] 0 false,.cells ((rC ms).map .d) 0 false,.cells ((rC ls).map .d) 0 false,.cells ((rC (D3 l n n)).map .d) 0 false]:=by
 obtain⟨f,rfl⟩:∃ g,f=g+1:=⟨f-1,by omega⟩
 rw[Zpp S dp l kx kr f n ms ls W wn r0 r1 r2 r3 h0 hn]
 exact Zph S dp l kx kr n ms ls W wn r0 r1 r2 r3 hn (n-1) 1 f (by omega) (by omega)
end
open Nat renaming reduceLT -> zN0, reduceEqDiff -> zN1, reduceAdd -> zN2, reduceMul -> zN3, reduceLeDiff -> zN4
open Int renaming reduceEq -> zI0, reduceLT -> zI1, reduceLE -> zI2, reduceNeg -> zI3
theorem Hj (m:MemT):(rC [m]).map AV.d=[.d (vt m.name),.d (vb m.secret),.d (vi m.n)]:=rfl
theorem H9 (m k:MemT):(rC [m,k]).map AV.d=[.d (vt m.name),.d (vb m.secret),.d (vi m.n),.d (vt k.name),.d (vb k.secret),.d (vi k.n)]:=rfl
theorem FG:32<=Z5:=by unfold Z5;decide
theorem FS (b0 b1 b2:Blk)(v:Nat)(a b c:DV)(nm:ByteArray)(s:Bool)(n:Int):
  Q7 [b0,b1,b2,.cells [.d a,.d b,.d c] v false] 3 32 (.sref 3 v 0 1 3 none) [.d (vt nm),.d (vb s),.d (vi n)] 1=some (.turn 3 (.cells [.d a,.d b,.d c,.d (vt nm),.d (vb s),.d (vi n)] (v+1) false) (.sref 3 (v+1) 0 2 3 none)):=by
 have hx:([AV.d (vt nm),AV.d (vb s),AV.d (vi n)]).all AV.one=true:=rfl
 rw[RW,if_neg (by decide),if_neg (by rw[hx];unfold Z5;simp)]
 simp
variable {E:Env} {fn:FuncId->Option (Env->cT->cT)}
section
variable (S:Sur E fn)
include S
theorem Y8:E.lives 8 1=none/\E.lives 8 23=none/\E.lives 8 27=none/\E.lives 8 31=none/\E.lives 8 35=none/\E.lives 8 39=none:=⟨off S 8 1 (by decide) rfl,off S 8 23 (by decide) rfl,off S 8 27 (by decide) rfl,off S 8 31 (by decide) rfl,off S 8 35 (by decide) rfl,off S 8 39 (by decide) rfl⟩
theorem Zik (dp:Nat)(l:List Int):Z6 E fn (dp+4) 8 [rD l] (Zw (Md.make l)):=by
 unfold Z6
 show Zk (Z4 E fn (dp+3+1) 8 [.d (rD l)] [])=_
 rw[ZK,S.Z8h,ZM,Zdr,ZP _ _ _ _ _ _ _ _ rfl]
 have sf1:∀ x:Int,x.fdiv (2^min 1 64)=Md.Y0 x 1:=fun x=>by rw[Nat.min_eq_left (by decide)];rfl
 have sf8:∀ x:Int,x.fdiv (2^min 8 64)=Md.Y0 x 8:=fun x=>by rw[Nat.min_eq_left (by decide)];rfl
 have sf10:∀ x:Int,x.fdiv (2^min 10 64)=Md.Y0 x 10:=fun x=>by rw[Nat.min_eq_left (by decide)];rfl
 have sf12:∀ x:Int,x.fdiv (2^min 12 64)=Md.Y0 x 12:=fun x=>by rw[Nat.min_eq_left (by decide)];rfl
 have r1':∀ {α:Type} (l:List α),rep l 1=l:=fun l=>by simp[rep]
 have ww:IntKind.i64.wrap (Md.YS (Md.kM l 0) 1+1)=Md.Zx l:=by
  obtain⟨r,h1,h2⟩:=Md.Z7q (Md.kM l 0)
  unfold Md.Zx
  rw[h2];exact Q4 (by omega) (by omega)
 have wn:IntKind.i64.wrap (((Md.YW (Md.Y0 (Md.kM l 0) 1) 3:Nat):Int)+1)=(Md.YW (Md.Y0 (Md.kM l 0) 1) 3:Nat)+1:=by
  have:=Md.RR (Md.Y0 (Md.kM l 0) 1) (show 0<3 by decide)
  exact Q4 (by omega) (by omega)
 have wN:IntKind.i64.wrap (Md.YS (Md.Y0 (Md.kM l 0) 12) 3+2)=(Md.nM l:Nat):=by
  obtain⟨r,h1,h2⟩:=Md.N1 (Md.Y0 (Md.kM l 0) 12)
  unfold Md.nM
  rw[h2,Int.toNat_natCast,Q4 (by omega) (by omega)];rfl
 have n6:Md.nM l<6:=by
  obtain⟨r,h1,h2⟩:=Md.N1 (Md.Y0 (Md.kM l 0) 12)
  unfold Md.nM
  rw[h2,Int.toNat_natCast];omega
 have n0:0<Md.nM l:=by unfold Md.nM;omega
 simp only[eG,go_sem,Z3 S,Z2 S,zN0,zN1,zN2,zN3,zN4,zI0,zI1,zI2,zI3,reduceCtorEq,Y8 S,Int.cast_ofNat_Int,FG,l1,FS,QQ,QE,QR,QS S,QN,Fj,EP,F9,F8,sf1,sf8,sf10,sf12,FF,r1',Int.reduceMul,Int.reduceAdd,Int.toNat_zero,Int.reduceToNat,zI1,zI2,and_true,true_and,and_self,BK,gt_iff_lt,ww,wn]
 rw[Y9,Z8 (on S _ _ [2,3,4,5,6,7] (by decide) rfl) rfl _ _ _ _ _ _ _ _ _ rfl]
 simp only[eG,go_sem,Z3 S,Z2 S,zN0,zN1,zN2,zN3,zN4,zI0,zI1,zI2,zI3,reduceCtorEq,Y8 S]
 rw[Zoh S (dp+2) l _ _ _ (by decide)]
 have d1:∀ A i,A[i]? =some (.cells ((rC (JK (Md.nM l+1))).map .d) 0 false)->deep A 7 (.sref i 0 0 (Md.nM l+1) 2 none)=some (.lst (rC (JK (Md.nM l+1))) (Md.nM l+1) none,[i]):=
  fun A i h=>BS h (fun e=>by have:=CP (Md.nM l+1);rw[e] at this;simp at this) 5 _ 2 none rfl (CP _).symm
 have d2:∀ A i,A[i]? =some (.cells ((rC (D3 l (Md.nM l) (Md.nM l))).map .d) 0 false)->deep A 7 (.sref i 0 0 (Md.nM l) 9 none)=some (.lst (rC (D3 l (Md.nM l) (Md.nM l))) (Md.nM l) none,[i]):=
  fun A i h=>BS h (fun e=>by have:=Pw l (Md.nM l) (Md.nM l);rw[e] at this;simp at this;omega) 5 _ 9 none rfl (Pw _ _ _).symm
 have hl:rD (Md.make l).labels=.lst (rC (JK (Md.nM l+1))) (Md.nM l+1) none:=by
  show DV.lst (rC (JK (Md.nM l+1))) (JK (Md.nM l+1)).length none=_
  rw[CP]
 have hi:rD (Md.make l).ins=.lst (rC (D3 l (Md.nM l) (Md.nM l))) (Md.nM l) none:=by
  show DV.lst (rC (D3 l (Md.nM l) (Md.nM l))) (D3 l (Md.nM l) (Md.nM l)).length none=_
  rw[Pw]
 by_cases a1:0<Md.YS (Md.Y0 (Md.kM l 1) 8) 3
 ·by_cases a2 : Md.Zx l = 1
  ·by_cases a3 : Md.YS (Md.Y0 (Md.kM l 1) 10) 3 = 0
   ·skip
    by_cases a4:0<Md.YS (Md.Y0 (Md.kM l 1) 12) 3
    ·by_cases a5 : IntKind.i64.wrap ((Md.Jk l (Md.Zx l)).2.2 + Md.Zx l) <= 3
     ·have hms : Md.JC l (Md.Zx l) = [⟨⟨#[109]⟩, false, 2⟩] := by simp [Md.JC, Md.Bz, Md.J0, a1, eq_true a2, eq_true a3, a4, a5]
      have d0:∀ A i,A[i]? =some (.cells ((rC ([⟨⟨#[109]⟩,false,2⟩]:List MemT)).map .d) 0 false)->deep A 7 (.sref i 0 0 1 3 none)=some (.lst (rC ([⟨⟨#[109]⟩,false,2⟩]:List MemT)) 1 none,[i]):=fun A i h=>BS h (by simp) 5 _ 3 none rfl rfl
      have e1:=fun kx kr f hf=>HG S (dp+1) l kx kr (Md.nM l) ([⟨⟨#[109]⟩,false,2⟩]:List MemT) (Md.Zx l) (Md.YW (Md.Y0 (Md.kM l 0) 1) 3+1) (Md.JV l (Md.Zx l)).1 (Md.JU l (Md.Zx l)).1 (Md.JT l (Md.Zx l)).1 (Md.Jk l (Md.Zx l)).1 n0 n6 f hf
      have e2:=fun kx kr f hf=>HF S (dp+1) l kx kr (Md.nM l) ([⟨⟨#[109]⟩,false,2⟩]:List MemT) (JK (Md.nM l+1)) (Md.Zx l) (Md.YW (Md.Y0 (Md.kM l 0) 1) 3+1) (Md.JV l (Md.Zx l)).1 (Md.JU l (Md.Zx l)).1 (Md.JT l (Md.Zx l)).1 (Md.Jk l (Md.Zx l)).1 n0 n6 f hf
      simp only[CP] at e2
      simp only[Hj,H9,List.length_cons,List.length_nil,zN2] at e1 e2
      simp only[eG,go_sem,Z3 S,Z2 S,zN0,zN1,zN2,zN3,zN4,zI0,zI1,zI2,zI3,reduceCtorEq,Y8 S,Int.cast_ofNat_Int,FG,l1,FS,QQ,QE,QR,QS S,QN,Fj,EP,F9,F8,sf1,sf8,sf10,sf12,FF,r1',Int.reduceMul,Int.reduceAdd,Int.toNat_zero,Int.reduceToNat,zI1,zI2,and_true,true_and,and_self,BK,gt_iff_lt,wN,a1,eq_true a2,eq_true a3,a4,a5]
      rw[Y9,Z8 (on S _ _ [2,3,4,8,9] (by decide) rfl) rfl _ _ _ _ _ _ _ _ _ rfl]
      simp only[eG,go_sem,Z3 S,Z2 S,zN0,zN1,zN2,zN3,zN4,zI0,zI1,zI2,zI3,reduceCtorEq,Y8 S]
      rw[e1 _ _ _ (by decide)]
      simp only[eG,go_sem,Z3 S,Z2 S,zN0,zN1,zN2,zN3,zN4,zI0,zI1,zI2,zI3,reduceCtorEq,Y8 S]
      rw[Y9,Z8 (on S _ _ [2,3,4,8,10] (by decide) rfl) rfl _ _ _ _ _ _ _ _ _ rfl]
      simp only[eG,go_sem,Z3 S,Z2 S,zN0,zN1,zN2,zN3,zN4,zI0,zI1,zI2,zI3,reduceCtorEq,Y8 S]
      rw[e2 _ _ _ (by decide)]
      simp only[eG,go_sem,Z3 S,Z2 S,zN0,zN1,zN2,zN3,zN4,zI0,zI1,zI2,zI3,reduceCtorEq,Y8 S]
      rw[d0 _ _ rfl,d1 _ _ rfl,d2 _ _ rfl]
      simp only[eG,go_sem,Z3 S,Z2 S,zN0,zN1,zN2,zN3,zN4,zI0,zI1,zI2,zI3,reduceCtorEq,Y8 S]
      rw[hl,hi,show rD (Md.make l).mems=rD ([⟨⟨#[109]⟩,false,2⟩]:List MemT) from congrArg rD hms]
      rfl
     ·have hms : Md.JC l (Md.Zx l) = [⟨⟨#[109]⟩, false, 2⟩] := by simp [Md.JC, Md.Bz, Md.J0, a1, eq_true a2, eq_true a3, a4, a5]
      have d0:∀ A i,A[i]? =some (.cells ((rC ([⟨⟨#[109]⟩,false,2⟩]:List MemT)).map .d) 0 false)->deep A 7 (.sref i 0 0 1 3 none)=some (.lst (rC ([⟨⟨#[109]⟩,false,2⟩]:List MemT)) 1 none,[i]):=fun A i h=>BS h (by simp) 5 _ 3 none rfl rfl
      have e1:=fun kx kr f hf=>HG S (dp+1) l kx kr (Md.nM l) ([⟨⟨#[109]⟩,false,2⟩]:List MemT) (Md.Zx l) (Md.YW (Md.Y0 (Md.kM l 0) 1) 3+1) (Md.JV l (Md.Zx l)).1 (Md.JU l (Md.Zx l)).1 (Md.JT l (Md.Zx l)).1 (Md.Jk l (Md.Zx l)).1 n0 n6 f hf
      have e2:=fun kx kr f hf=>HF S (dp+1) l kx kr (Md.nM l) ([⟨⟨#[109]⟩,false,2⟩]:List MemT) (JK (Md.nM l+1)) (Md.Zx l) (Md.YW (Md.Y0 (Md.kM l 0) 1) 3+1) (Md.JV l (Md.Zx l)).1 (Md.JU l (Md.Zx l)).1 (Md.JT l (Md.Zx l)).1 (Md.Jk l (Md.Zx l)).1 n0 n6 f hf
      simp only[CP] at e2
      simp only[Hj,H9,List.length_cons,List.length_nil,zN2] at e1 e2
      simp only[eG,go_sem,Z3 S,Z2 S,zN0,zN1,zN2,zN3,zN4,zI0,zI1,zI2,zI3,reduceCtorEq,Y8 S,Int.cast_ofNat_Int,FG,l1,FS,QQ,QE,QR,QS S,QN,Fj,EP,F9,F8,sf1,sf8,sf10,sf12,FF,r1',Int.reduceMul,Int.reduceAdd,Int.toNat_zero,Int.reduceToNat,zI1,zI2,and_true,true_and,and_self,BK,gt_iff_lt,wN,a1,eq_true a2,eq_true a3,a4,a5]
      rw[Y9,Z8 (on S _ _ [2,3,4,8,9] (by decide) rfl) rfl _ _ _ _ _ _ _ _ _ rfl]
      simp only[eG,go_sem,Z3 S,Z2 S,zN0,zN1,zN2,zN3,zN4,zI0,zI1,zI2,zI3,reduceCtorEq,Y8 S]
      rw[e1 _ _ _ (by decide)]
      simp only[eG,go_sem,Z3 S,Z2 S,zN0,zN1,zN2,zN3,zN4,zI0,zI1,zI2,zI3,reduceCtorEq,Y8 S]
      rw[Y9,Z8 (on S _ _ [2,3,4,8,10] (by decide) rfl) rfl _ _ _ _ _ _ _ _ _ rfl]
      simp only[eG,go_sem,Z3 S,Z2 S,zN0,zN1,zN2,zN3,zN4,zI0,zI1,zI2,zI3,reduceCtorEq,Y8 S]
      rw[e2 _ _ _ (by decide)]
      simp only[eG,go_sem,Z3 S,Z2 S,zN0,zN1,zN2,zN3,zN4,zI0,zI1,zI2,zI3,reduceCtorEq,Y8 S]
      rw[d0 _ _ rfl,d1 _ _ rfl,d2 _ _ rfl]
      simp only[eG,go_sem,Z3 S,Z2 S,zN0,zN1,zN2,zN3,zN4,zI0,zI1,zI2,zI3,reduceCtorEq,Y8 S]
      rw[hl,hi,show rD (Md.make l).mems=rD ([⟨⟨#[109]⟩,false,2⟩]:List MemT) from congrArg rD hms]
      rfl
    ·have hms : Md.JC l (Md.Zx l) = [⟨⟨#[109]⟩, false, 2⟩] := by simp [Md.JC, Md.Bz, Md.J0, a1, eq_true a2, eq_true a3, a4]
     have d0:∀ A i,A[i]? =some (.cells ((rC ([⟨⟨#[109]⟩,false,2⟩]:List MemT)).map .d) 0 false)->deep A 7 (.sref i 0 0 1 3 none)=some (.lst (rC ([⟨⟨#[109]⟩,false,2⟩]:List MemT)) 1 none,[i]):=fun A i h=>BS h (by simp) 5 _ 3 none rfl rfl
     have e1:=fun kx kr f hf=>HG S (dp+1) l kx kr (Md.nM l) ([⟨⟨#[109]⟩,false,2⟩]:List MemT) (Md.Zx l) (Md.YW (Md.Y0 (Md.kM l 0) 1) 3+1) (Md.JV l (Md.Zx l)).1 (Md.JU l (Md.Zx l)).1 (Md.JT l (Md.Zx l)).1 (Md.Jk l (Md.Zx l)).1 n0 n6 f hf
     have e2:=fun kx kr f hf=>HF S (dp+1) l kx kr (Md.nM l) ([⟨⟨#[109]⟩,false,2⟩]:List MemT) (JK (Md.nM l+1)) (Md.Zx l) (Md.YW (Md.Y0 (Md.kM l 0) 1) 3+1) (Md.JV l (Md.Zx l)).1 (Md.JU l (Md.Zx l)).1 (Md.JT l (Md.Zx l)).1 (Md.Jk l (Md.Zx l)).1 n0 n6 f hf
     simp only[CP] at e2
     simp only[Hj,H9,List.length_cons,List.length_nil,zN2] at e1 e2
     simp only[eG,go_sem,Z3 S,Z2 S,zN0,zN1,zN2,zN3,zN4,zI0,zI1,zI2,zI3,reduceCtorEq,Y8 S,Int.cast_ofNat_Int,FG,l1,FS,QQ,QE,QR,QS S,QN,Fj,EP,F9,F8,sf1,sf8,sf10,sf12,FF,r1',Int.reduceMul,Int.reduceAdd,Int.toNat_zero,Int.reduceToNat,zI1,zI2,and_true,true_and,and_self,BK,gt_iff_lt,wN,a1,eq_true a2,eq_true a3,a4]
     rw[Y9,Z8 (on S _ _ [2,3,4,8,9] (by decide) rfl) rfl _ _ _ _ _ _ _ _ _ rfl]
     simp only[eG,go_sem,Z3 S,Z2 S,zN0,zN1,zN2,zN3,zN4,zI0,zI1,zI2,zI3,reduceCtorEq,Y8 S]
     rw[e1 _ _ _ (by decide)]
     simp only[eG,go_sem,Z3 S,Z2 S,zN0,zN1,zN2,zN3,zN4,zI0,zI1,zI2,zI3,reduceCtorEq,Y8 S]
     rw[Y9,Z8 (on S _ _ [2,3,4,8,10] (by decide) rfl) rfl _ _ _ _ _ _ _ _ _ rfl]
     simp only[eG,go_sem,Z3 S,Z2 S,zN0,zN1,zN2,zN3,zN4,zI0,zI1,zI2,zI3,reduceCtorEq,Y8 S]
     rw[e2 _ _ _ (by decide)]
     simp only[eG,go_sem,Z3 S,Z2 S,zN0,zN1,zN2,zN3,zN4,zI0,zI1,zI2,zI3,reduceCtorEq,Y8 S]
     rw[d0 _ _ rfl,d1 _ _ rfl,d2 _ _ rfl]
     simp only[eG,go_sem,Z3 S,Z2 S,zN0,zN1,zN2,zN3,zN4,zI0,zI1,zI2,zI3,reduceCtorEq,Y8 S]
     rw[hl,hi,show rD (Md.make l).mems=rD ([⟨⟨#[109]⟩,false,2⟩]:List MemT) from congrArg rD hms]
     rfl
   ·skip
    by_cases a4:0<Md.YS (Md.Y0 (Md.kM l 1) 12) 3
    ·by_cases a5 : IntKind.i64.wrap ((Md.Jk l (Md.Zx l)).2.2 + Md.Zx l) <= 3
     ·have hms : Md.JC l (Md.Zx l) = [⟨⟨#[109]⟩, false, 1⟩, ⟨⟨#[115]⟩, true, 1⟩] := by simp [Md.JC, Md.Bz, Md.J0, a1, eq_true a2, a3, a4, a5]
      have d0:∀ A i,A[i]? =some (.cells ((rC ([⟨⟨#[109]⟩,false,1⟩,⟨⟨#[115]⟩,true,1⟩]:List MemT)).map .d) 0 false)->deep A 7 (.sref i 0 0 2 3 none)=some (.lst (rC ([⟨⟨#[109]⟩,false,1⟩,⟨⟨#[115]⟩,true,1⟩]:List MemT)) 2 none,[i]):=fun A i h=>BS h (by simp) 5 _ 3 none rfl rfl
      have e1:=fun kx kr f hf=>HG S (dp+1) l kx kr (Md.nM l) ([⟨⟨#[109]⟩,false,1⟩,⟨⟨#[115]⟩,true,1⟩]:List MemT) (Md.Zx l) (Md.YW (Md.Y0 (Md.kM l 0) 1) 3+1) (Md.JV l (Md.Zx l)).1 (Md.JU l (Md.Zx l)).1 (Md.JT l (Md.Zx l)).1 (Md.Jk l (Md.Zx l)).1 n0 n6 f hf
      have e2:=fun kx kr f hf=>HF S (dp+1) l kx kr (Md.nM l) ([⟨⟨#[109]⟩,false,1⟩,⟨⟨#[115]⟩,true,1⟩]:List MemT) (JK (Md.nM l+1)) (Md.Zx l) (Md.YW (Md.Y0 (Md.kM l 0) 1) 3+1) (Md.JV l (Md.Zx l)).1 (Md.JU l (Md.Zx l)).1 (Md.JT l (Md.Zx l)).1 (Md.Jk l (Md.Zx l)).1 n0 n6 f hf
      simp only[CP] at e2
      simp only[Hj,H9,List.length_cons,List.length_nil,zN2] at e1 e2
      simp only[eG,go_sem,Z3 S,Z2 S,zN0,zN1,zN2,zN3,zN4,zI0,zI1,zI2,zI3,reduceCtorEq,Y8 S,Int.cast_ofNat_Int,FG,l1,FS,QQ,QE,QR,QS S,QN,Fj,EP,F9,F8,sf1,sf8,sf10,sf12,FF,r1',Int.reduceMul,Int.reduceAdd,Int.toNat_zero,Int.reduceToNat,zI1,zI2,and_true,true_and,and_self,BK,gt_iff_lt,wN,a1,eq_true a2,a3,a4,a5]
      rw[Y9,Z8 (on S _ _ [2,3,4,8,9] (by decide) rfl) rfl _ _ _ _ _ _ _ _ _ rfl]
      simp only[eG,go_sem,Z3 S,Z2 S,zN0,zN1,zN2,zN3,zN4,zI0,zI1,zI2,zI3,reduceCtorEq,Y8 S]
      rw[e1 _ _ _ (by decide)]
      simp only[eG,go_sem,Z3 S,Z2 S,zN0,zN1,zN2,zN3,zN4,zI0,zI1,zI2,zI3,reduceCtorEq,Y8 S]
      rw[Y9,Z8 (on S _ _ [2,3,4,8,10] (by decide) rfl) rfl _ _ _ _ _ _ _ _ _ rfl]
      simp only[eG,go_sem,Z3 S,Z2 S,zN0,zN1,zN2,zN3,zN4,zI0,zI1,zI2,zI3,reduceCtorEq,Y8 S]
      rw[e2 _ _ _ (by decide)]
      simp only[eG,go_sem,Z3 S,Z2 S,zN0,zN1,zN2,zN3,zN4,zI0,zI1,zI2,zI3,reduceCtorEq,Y8 S]
      rw[d0 _ _ rfl,d1 _ _ rfl,d2 _ _ rfl]
      simp only[eG,go_sem,Z3 S,Z2 S,zN0,zN1,zN2,zN3,zN4,zI0,zI1,zI2,zI3,reduceCtorEq,Y8 S]
      rw[hl,hi,show rD (Md.make l).mems=rD ([⟨⟨#[109]⟩,false,1⟩,⟨⟨#[115]⟩,true,1⟩]:List MemT) from congrArg rD hms]
      rfl
     ·have hms : Md.JC l (Md.Zx l) = [⟨⟨#[109]⟩, false, 1⟩] := by simp [Md.JC, Md.Bz, Md.J0, a1, eq_true a2, a3, a4, a5]
      have d0:∀ A i,A[i]? =some (.cells ((rC ([⟨⟨#[109]⟩,false,1⟩]:List MemT)).map .d) 0 false)->deep A 7 (.sref i 0 0 1 3 none)=some (.lst (rC ([⟨⟨#[109]⟩,false,1⟩]:List MemT)) 1 none,[i]):=fun A i h=>BS h (by simp) 5 _ 3 none rfl rfl
      have e1:=fun kx kr f hf=>HG S (dp+1) l kx kr (Md.nM l) ([⟨⟨#[109]⟩,false,1⟩]:List MemT) (Md.Zx l) (Md.YW (Md.Y0 (Md.kM l 0) 1) 3+1) (Md.JV l (Md.Zx l)).1 (Md.JU l (Md.Zx l)).1 (Md.JT l (Md.Zx l)).1 (Md.Jk l (Md.Zx l)).1 n0 n6 f hf
      have e2:=fun kx kr f hf=>HF S (dp+1) l kx kr (Md.nM l) ([⟨⟨#[109]⟩,false,1⟩]:List MemT) (JK (Md.nM l+1)) (Md.Zx l) (Md.YW (Md.Y0 (Md.kM l 0) 1) 3+1) (Md.JV l (Md.Zx l)).1 (Md.JU l (Md.Zx l)).1 (Md.JT l (Md.Zx l)).1 (Md.Jk l (Md.Zx l)).1 n0 n6 f hf
      simp only[CP] at e2
      simp only[Hj,H9,List.length_cons,List.length_nil,zN2] at e1 e2
      simp only[eG,go_sem,Z3 S,Z2 S,zN0,zN1,zN2,zN3,zN4,zI0,zI1,zI2,zI3,reduceCtorEq,Y8 S,Int.cast_ofNat_Int,FG,l1,FS,QQ,QE,QR,QS S,QN,Fj,EP,F9,F8,sf1,sf8,sf10,sf12,FF,r1',Int.reduceMul,Int.reduceAdd,Int.toNat_zero,Int.reduceToNat,zI1,zI2,and_true,true_and,and_self,BK,gt_iff_lt,wN,a1,eq_true a2,a3,a4,a5]
      rw[Y9,Z8 (on S _ _ [2,3,4,8,9] (by decide) rfl) rfl _ _ _ _ _ _ _ _ _ rfl]
      simp only[eG,go_sem,Z3 S,Z2 S,zN0,zN1,zN2,zN3,zN4,zI0,zI1,zI2,zI3,reduceCtorEq,Y8 S]
      rw[e1 _ _ _ (by decide)]
      simp only[eG,go_sem,Z3 S,Z2 S,zN0,zN1,zN2,zN3,zN4,zI0,zI1,zI2,zI3,reduceCtorEq,Y8 S]
      rw[Y9,Z8 (on S _ _ [2,3,4,8,10] (by decide) rfl) rfl _ _ _ _ _ _ _ _ _ rfl]
      simp only[eG,go_sem,Z3 S,Z2 S,zN0,zN1,zN2,zN3,zN4,zI0,zI1,zI2,zI3,reduceCtorEq,Y8 S]
      rw[e2 _ _ _ (by decide)]
      simp only[eG,go_sem,Z3 S,Z2 S,zN0,zN1,zN2,zN3,zN4,zI0,zI1,zI2,zI3,reduceCtorEq,Y8 S]
      rw[d0 _ _ rfl,d1 _ _ rfl,d2 _ _ rfl]
      simp only[eG,go_sem,Z3 S,Z2 S,zN0,zN1,zN2,zN3,zN4,zI0,zI1,zI2,zI3,reduceCtorEq,Y8 S]
      rw[hl,hi,show rD (Md.make l).mems=rD ([⟨⟨#[109]⟩,false,1⟩]:List MemT) from congrArg rD hms]
      rfl
    ·have hms : Md.JC l (Md.Zx l) = [⟨⟨#[109]⟩, false, 1⟩] := by simp [Md.JC, Md.Bz, Md.J0, a1, eq_true a2, a3, a4]
     have d0:∀ A i,A[i]? =some (.cells ((rC ([⟨⟨#[109]⟩,false,1⟩]:List MemT)).map .d) 0 false)->deep A 7 (.sref i 0 0 1 3 none)=some (.lst (rC ([⟨⟨#[109]⟩,false,1⟩]:List MemT)) 1 none,[i]):=fun A i h=>BS h (by simp) 5 _ 3 none rfl rfl
     have e1:=fun kx kr f hf=>HG S (dp+1) l kx kr (Md.nM l) ([⟨⟨#[109]⟩,false,1⟩]:List MemT) (Md.Zx l) (Md.YW (Md.Y0 (Md.kM l 0) 1) 3+1) (Md.JV l (Md.Zx l)).1 (Md.JU l (Md.Zx l)).1 (Md.JT l (Md.Zx l)).1 (Md.Jk l (Md.Zx l)).1 n0 n6 f hf
     have e2:=fun kx kr f hf=>HF S (dp+1) l kx kr (Md.nM l) ([⟨⟨#[109]⟩,false,1⟩]:List MemT) (JK (Md.nM l+1)) (Md.Zx l) (Md.YW (Md.Y0 (Md.kM l 0) 1) 3+1) (Md.JV l (Md.Zx l)).1 (Md.JU l (Md.Zx l)).1 (Md.JT l (Md.Zx l)).1 (Md.Jk l (Md.Zx l)).1 n0 n6 f hf
     simp only[CP] at e2
     simp only[Hj,H9,List.length_cons,List.length_nil,zN2] at e1 e2
     simp only[eG,go_sem,Z3 S,Z2 S,zN0,zN1,zN2,zN3,zN4,zI0,zI1,zI2,zI3,reduceCtorEq,Y8 S,Int.cast_ofNat_Int,FG,l1,FS,QQ,QE,QR,QS S,QN,Fj,EP,F9,F8,sf1,sf8,sf10,sf12,FF,r1',Int.reduceMul,Int.reduceAdd,Int.toNat_zero,Int.reduceToNat,zI1,zI2,and_true,true_and,and_self,BK,gt_iff_lt,wN,a1,eq_true a2,a3,a4]
     rw[Y9,Z8 (on S _ _ [2,3,4,8,9] (by decide) rfl) rfl _ _ _ _ _ _ _ _ _ rfl]
     simp only[eG,go_sem,Z3 S,Z2 S,zN0,zN1,zN2,zN3,zN4,zI0,zI1,zI2,zI3,reduceCtorEq,Y8 S]
     rw[e1 _ _ _ (by decide)]
     simp only[eG,go_sem,Z3 S,Z2 S,zN0,zN1,zN2,zN3,zN4,zI0,zI1,zI2,zI3,reduceCtorEq,Y8 S]
     rw[Y9,Z8 (on S _ _ [2,3,4,8,10] (by decide) rfl) rfl _ _ _ _ _ _ _ _ _ rfl]
     simp only[eG,go_sem,Z3 S,Z2 S,zN0,zN1,zN2,zN3,zN4,zI0,zI1,zI2,zI3,reduceCtorEq,Y8 S]
     rw[e2 _ _ _ (by decide)]
     simp only[eG,go_sem,Z3 S,Z2 S,zN0,zN1,zN2,zN3,zN4,zI0,zI1,zI2,zI3,reduceCtorEq,Y8 S]
     rw[d0 _ _ rfl,d1 _ _ rfl,d2 _ _ rfl]
     simp only[eG,go_sem,Z3 S,Z2 S,zN0,zN1,zN2,zN3,zN4,zI0,zI1,zI2,zI3,reduceCtorEq,Y8 S]
     rw[hl,hi,show rD (Md.make l).mems=rD ([⟨⟨#[109]⟩,false,1⟩]:List MemT) from congrArg rD hms]
     rfl
  ·skip
   by_cases a4:0<Md.YS (Md.Y0 (Md.kM l 1) 12) 3
   ·by_cases a5 : IntKind.i64.wrap ((Md.Jk l (Md.Zx l)).2.2 + Md.Zx l) <= 3
    ·have hms : Md.JC l (Md.Zx l) = [⟨⟨#[109]⟩, false, 1⟩, ⟨⟨#[115]⟩, true, 1⟩] := by simp [Md.JC, Md.Bz, Md.J0, a1, a2, a4, a5]
     have d0:∀ A i,A[i]? =some (.cells ((rC ([⟨⟨#[109]⟩,false,1⟩,⟨⟨#[115]⟩,true,1⟩]:List MemT)).map .d) 0 false)->deep A 7 (.sref i 0 0 2 3 none)=some (.lst (rC ([⟨⟨#[109]⟩,false,1⟩,⟨⟨#[115]⟩,true,1⟩]:List MemT)) 2 none,[i]):=fun A i h=>BS h (by simp) 5 _ 3 none rfl rfl
     have e1:=fun kx kr f hf=>HG S (dp+1) l kx kr (Md.nM l) ([⟨⟨#[109]⟩,false,1⟩,⟨⟨#[115]⟩,true,1⟩]:List MemT) (Md.Zx l) (Md.YW (Md.Y0 (Md.kM l 0) 1) 3+1) (Md.JV l (Md.Zx l)).1 (Md.JU l (Md.Zx l)).1 (Md.JT l (Md.Zx l)).1 (Md.Jk l (Md.Zx l)).1 n0 n6 f hf
     have e2:=fun kx kr f hf=>HF S (dp+1) l kx kr (Md.nM l) ([⟨⟨#[109]⟩,false,1⟩,⟨⟨#[115]⟩,true,1⟩]:List MemT) (JK (Md.nM l+1)) (Md.Zx l) (Md.YW (Md.Y0 (Md.kM l 0) 1) 3+1) (Md.JV l (Md.Zx l)).1 (Md.JU l (Md.Zx l)).1 (Md.JT l (Md.Zx l)).1 (Md.Jk l (Md.Zx l)).1 n0 n6 f hf
     simp only[CP] at e2
     simp only[Hj,H9,List.length_cons,List.length_nil,zN2] at e1 e2
     simp only[eG,go_sem,Z3 S,Z2 S,zN0,zN1,zN2,zN3,zN4,zI0,zI1,zI2,zI3,reduceCtorEq,Y8 S,Int.cast_ofNat_Int,FG,l1,FS,QQ,QE,QR,QS S,QN,Fj,EP,F9,F8,sf1,sf8,sf10,sf12,FF,r1',Int.reduceMul,Int.reduceAdd,Int.toNat_zero,Int.reduceToNat,zI1,zI2,and_true,true_and,and_self,BK,gt_iff_lt,wN,a1,a2,a4,a5]
     rw[Y9,Z8 (on S _ _ [2,3,4,8,9] (by decide) rfl) rfl _ _ _ _ _ _ _ _ _ rfl]
     simp only[eG,go_sem,Z3 S,Z2 S,zN0,zN1,zN2,zN3,zN4,zI0,zI1,zI2,zI3,reduceCtorEq,Y8 S]
     rw[e1 _ _ _ (by decide)]
     simp only[eG,go_sem,Z3 S,Z2 S,zN0,zN1,zN2,zN3,zN4,zI0,zI1,zI2,zI3,reduceCtorEq,Y8 S]
     rw[Y9,Z8 (on S _ _ [2,3,4,8,10] (by decide) rfl) rfl _ _ _ _ _ _ _ _ _ rfl]
     simp only[eG,go_sem,Z3 S,Z2 S,zN0,zN1,zN2,zN3,zN4,zI0,zI1,zI2,zI3,reduceCtorEq,Y8 S]
     rw[e2 _ _ _ (by decide)]
     simp only[eG,go_sem,Z3 S,Z2 S,zN0,zN1,zN2,zN3,zN4,zI0,zI1,zI2,zI3,reduceCtorEq,Y8 S]
     rw[d0 _ _ rfl,d1 _ _ rfl,d2 _ _ rfl]
     simp only[eG,go_sem,Z3 S,Z2 S,zN0,zN1,zN2,zN3,zN4,zI0,zI1,zI2,zI3,reduceCtorEq,Y8 S]
     rw[hl,hi,show rD (Md.make l).mems=rD ([⟨⟨#[109]⟩,false,1⟩,⟨⟨#[115]⟩,true,1⟩]:List MemT) from congrArg rD hms]
     rfl
    ·have hms : Md.JC l (Md.Zx l) = [⟨⟨#[109]⟩, false, 1⟩] := by simp [Md.JC, Md.Bz, Md.J0, a1, a2, a4, a5]
     have d0:∀ A i,A[i]? =some (.cells ((rC ([⟨⟨#[109]⟩,false,1⟩]:List MemT)).map .d) 0 false)->deep A 7 (.sref i 0 0 1 3 none)=some (.lst (rC ([⟨⟨#[109]⟩,false,1⟩]:List MemT)) 1 none,[i]):=fun A i h=>BS h (by simp) 5 _ 3 none rfl rfl
     have e1:=fun kx kr f hf=>HG S (dp+1) l kx kr (Md.nM l) ([⟨⟨#[109]⟩,false,1⟩]:List MemT) (Md.Zx l) (Md.YW (Md.Y0 (Md.kM l 0) 1) 3+1) (Md.JV l (Md.Zx l)).1 (Md.JU l (Md.Zx l)).1 (Md.JT l (Md.Zx l)).1 (Md.Jk l (Md.Zx l)).1 n0 n6 f hf
     have e2:=fun kx kr f hf=>HF S (dp+1) l kx kr (Md.nM l) ([⟨⟨#[109]⟩,false,1⟩]:List MemT) (JK (Md.nM l+1)) (Md.Zx l) (Md.YW (Md.Y0 (Md.kM l 0) 1) 3+1) (Md.JV l (Md.Zx l)).1 (Md.JU l (Md.Zx l)).1 (Md.JT l (Md.Zx l)).1 (Md.Jk l (Md.Zx l)).1 n0 n6 f hf
     simp only[CP] at e2
     simp only[Hj,H9,List.length_cons,List.length_nil,zN2] at e1 e2
     simp only[eG,go_sem,Z3 S,Z2 S,zN0,zN1,zN2,zN3,zN4,zI0,zI1,zI2,zI3,reduceCtorEq,Y8 S,Int.cast_ofNat_Int,FG,l1,FS,QQ,QE,QR,QS S,QN,Fj,EP,F9,F8,sf1,sf8,sf10,sf12,FF,r1',Int.reduceMul,Int.reduceAdd,Int.toNat_zero,Int.reduceToNat,zI1,zI2,and_true,true_and,and_self,BK,gt_iff_lt,wN,a1,a2,a4,a5]
     rw[Y9,Z8 (on S _ _ [2,3,4,8,9] (by decide) rfl) rfl _ _ _ _ _ _ _ _ _ rfl]
     simp only[eG,go_sem,Z3 S,Z2 S,zN0,zN1,zN2,zN3,zN4,zI0,zI1,zI2,zI3,reduceCtorEq,Y8 S]
     rw[e1 _ _ _ (by decide)]
     simp only[eG,go_sem,Z3 S,Z2 S,zN0,zN1,zN2,zN3,zN4,zI0,zI1,zI2,zI3,reduceCtorEq,Y8 S]
     rw[Y9,Z8 (on S _ _ [2,3,4,8,10] (by decide) rfl) rfl _ _ _ _ _ _ _ _ _ rfl]
     simp only[eG,go_sem,Z3 S,Z2 S,zN0,zN1,zN2,zN3,zN4,zI0,zI1,zI2,zI3,reduceCtorEq,Y8 S]
     rw[e2 _ _ _ (by decide)]
     simp only[eG,go_sem,Z3 S,Z2 S,zN0,zN1,zN2,zN3,zN4,zI0,zI1,zI2,zI3,reduceCtorEq,Y8 S]
     rw[d0 _ _ rfl,d1 _ _ rfl,d2 _ _ rfl]
     simp only[eG,go_sem,Z3 S,Z2 S,zN0,zN1,zN2,zN3,zN4,zI0,zI1,zI2,zI3,reduceCtorEq,Y8 S]
     rw[hl,hi,show rD (Md.make l).mems=rD ([⟨⟨#[109]⟩,false,1⟩]:List MemT) from congrArg rD hms]
     rfl
   ·have hms : Md.JC l (Md.Zx l) = [⟨⟨#[109]⟩, false, 1⟩] := by simp [Md.JC, Md.Bz, Md.J0, a1, a2, a4]
    have d0:∀ A i,A[i]? =some (.cells ((rC ([⟨⟨#[109]⟩,false,1⟩]:List MemT)).map .d) 0 false)->deep A 7 (.sref i 0 0 1 3 none)=some (.lst (rC ([⟨⟨#[109]⟩,false,1⟩]:List MemT)) 1 none,[i]):=fun A i h=>BS h (by simp) 5 _ 3 none rfl rfl
    have e1:=fun kx kr f hf=>HG S (dp+1) l kx kr (Md.nM l) ([⟨⟨#[109]⟩,false,1⟩]:List MemT) (Md.Zx l) (Md.YW (Md.Y0 (Md.kM l 0) 1) 3+1) (Md.JV l (Md.Zx l)).1 (Md.JU l (Md.Zx l)).1 (Md.JT l (Md.Zx l)).1 (Md.Jk l (Md.Zx l)).1 n0 n6 f hf
    have e2:=fun kx kr f hf=>HF S (dp+1) l kx kr (Md.nM l) ([⟨⟨#[109]⟩,false,1⟩]:List MemT) (JK (Md.nM l+1)) (Md.Zx l) (Md.YW (Md.Y0 (Md.kM l 0) 1) 3+1) (Md.JV l (Md.Zx l)).1 (Md.JU l (Md.Zx l)).1 (Md.JT l (Md.Zx l)).1 (Md.Jk l (Md.Zx l)).1 n0 n6 f hf
    simp only[CP] at e2
    simp only[Hj,H9,List.length_cons,List.length_nil,zN2] at e1 e2
    simp only[eG,go_sem,Z3 S,Z2 S,zN0,zN1,zN2,zN3,zN4,zI0,zI1,zI2,zI3,reduceCtorEq,Y8 S,Int.cast_ofNat_Int,FG,l1,FS,QQ,QE,QR,QS S,QN,Fj,EP,F9,F8,sf1,sf8,sf10,sf12,FF,r1',Int.reduceMul,Int.reduceAdd,Int.toNat_zero,Int.reduceToNat,zI1,zI2,and_true,true_and,and_self,BK,gt_iff_lt,wN,a1,a2,a4]
    rw[Y9,Z8 (on S _ _ [2,3,4,8,9] (by decide) rfl) rfl _ _ _ _ _ _ _ _ _ rfl]
    simp only[eG,go_sem,Z3 S,Z2 S,zN0,zN1,zN2,zN3,zN4,zI0,zI1,zI2,zI3,reduceCtorEq,Y8 S]
    rw[e1 _ _ _ (by decide)]
    simp only[eG,go_sem,Z3 S,Z2 S,zN0,zN1,zN2,zN3,zN4,zI0,zI1,zI2,zI3,reduceCtorEq,Y8 S]
    rw[Y9,Z8 (on S _ _ [2,3,4,8,10] (by decide) rfl) rfl _ _ _ _ _ _ _ _ _ rfl]
    simp only[eG,go_sem,Z3 S,Z2 S,zN0,zN1,zN2,zN3,zN4,zI0,zI1,zI2,zI3,reduceCtorEq,Y8 S]
    rw[e2 _ _ _ (by decide)]
    simp only[eG,go_sem,Z3 S,Z2 S,zN0,zN1,zN2,zN3,zN4,zI0,zI1,zI2,zI3,reduceCtorEq,Y8 S]
    rw[d0 _ _ rfl,d1 _ _ rfl,d2 _ _ rfl]
    simp only[eG,go_sem,Z3 S,Z2 S,zN0,zN1,zN2,zN3,zN4,zI0,zI1,zI2,zI3,reduceCtorEq,Y8 S]
    rw[hl,hi,show rD (Md.make l).mems=rD ([⟨⟨#[109]⟩,false,1⟩]:List MemT) from congrArg rD hms]
    rfl
 ·skip
  by_cases a4:0<Md.YS (Md.Y0 (Md.kM l 1) 12) 3
  ·by_cases a5 : IntKind.i64.wrap ((Md.Jk l (Md.Zx l)).2.2 + Md.Zx l) <= 3
   ·have hms : Md.JC l (Md.Zx l) = [⟨⟨#[115]⟩, true, 1⟩] := by simp [Md.JC, Md.Bz, Md.J0, a1, a4, a5]
    have d0:∀ A i,A[i]? =some (.cells ((rC ([⟨⟨#[115]⟩,true,1⟩]:List MemT)).map .d) 0 false)->deep A 7 (.sref i 0 0 1 3 none)=some (.lst (rC ([⟨⟨#[115]⟩,true,1⟩]:List MemT)) 1 none,[i]):=fun A i h=>BS h (by simp) 5 _ 3 none rfl rfl
    have e1:=fun kx kr f hf=>HG S (dp+1) l kx kr (Md.nM l) ([⟨⟨#[115]⟩,true,1⟩]:List MemT) (Md.Zx l) (Md.YW (Md.Y0 (Md.kM l 0) 1) 3+1) (Md.JV l (Md.Zx l)).1 (Md.JU l (Md.Zx l)).1 (Md.JT l (Md.Zx l)).1 (Md.Jk l (Md.Zx l)).1 n0 n6 f hf
    have e2:=fun kx kr f hf=>HF S (dp+1) l kx kr (Md.nM l) ([⟨⟨#[115]⟩,true,1⟩]:List MemT) (JK (Md.nM l+1)) (Md.Zx l) (Md.YW (Md.Y0 (Md.kM l 0) 1) 3+1) (Md.JV l (Md.Zx l)).1 (Md.JU l (Md.Zx l)).1 (Md.JT l (Md.Zx l)).1 (Md.Jk l (Md.Zx l)).1 n0 n6 f hf
    simp only[CP] at e2
    simp only[Hj,H9,List.length_cons,List.length_nil,zN2] at e1 e2
    simp only[eG,go_sem,Z3 S,Z2 S,zN0,zN1,zN2,zN3,zN4,zI0,zI1,zI2,zI3,reduceCtorEq,Y8 S,Int.cast_ofNat_Int,FG,l1,FS,QQ,QE,QR,QS S,QN,Fj,EP,F9,F8,sf1,sf8,sf10,sf12,FF,r1',Int.reduceMul,Int.reduceAdd,Int.toNat_zero,Int.reduceToNat,zI1,zI2,and_true,true_and,and_self,BK,gt_iff_lt,wN,a1,a4,a5]
    rw[Y9,Z8 (on S _ _ [2,3,4,8,9] (by decide) rfl) rfl _ _ _ _ _ _ _ _ _ rfl]
    simp only[eG,go_sem,Z3 S,Z2 S,zN0,zN1,zN2,zN3,zN4,zI0,zI1,zI2,zI3,reduceCtorEq,Y8 S]
    rw[e1 _ _ _ (by decide)]
    simp only[eG,go_sem,Z3 S,Z2 S,zN0,zN1,zN2,zN3,zN4,zI0,zI1,zI2,zI3,reduceCtorEq,Y8 S]
    rw[Y9,Z8 (on S _ _ [2,3,4,8,10] (by decide) rfl) rfl _ _ _ _ _ _ _ _ _ rfl]
    simp only[eG,go_sem,Z3 S,Z2 S,zN0,zN1,zN2,zN3,zN4,zI0,zI1,zI2,zI3,reduceCtorEq,Y8 S]
    rw[e2 _ _ _ (by decide)]
    simp only[eG,go_sem,Z3 S,Z2 S,zN0,zN1,zN2,zN3,zN4,zI0,zI1,zI2,zI3,reduceCtorEq,Y8 S]
    rw[d0 _ _ rfl,d1 _ _ rfl,d2 _ _ rfl]
    simp only[eG,go_sem,Z3 S,Z2 S,zN0,zN1,zN2,zN3,zN4,zI0,zI1,zI2,zI3,reduceCtorEq,Y8 S]
    rw[hl,hi,show rD (Md.make l).mems=rD ([⟨⟨#[115]⟩,true,1⟩]:List MemT) from congrArg rD hms]
    rfl
   ·have hms : Md.JC l (Md.Zx l) = [] := by simp [Md.JC, Md.Bz, Md.J0, a1, a4, a5]
    have e1:=fun kx kr f hf=>Z75 S (dp+1) l kx kr (Md.nM l) (Md.Zx l) (Md.YW (Md.Y0 (Md.kM l 0) 1) 3+1) (Md.JV l (Md.Zx l)).1 (Md.JU l (Md.Zx l)).1 (Md.JT l (Md.Zx l)).1 (Md.Jk l (Md.Zx l)).1 n0 n6 f hf
    have e2:=fun kx kr f hf=>Z74 S (dp+1) l kx kr (Md.nM l) (JK (Md.nM l+1)) (Md.Zx l) (Md.YW (Md.Y0 (Md.kM l 0) 1) 3+1) (Md.JV l (Md.Zx l)).1 (Md.JU l (Md.Zx l)).1 (Md.JT l (Md.Zx l)).1 (Md.Jk l (Md.Zx l)).1 n0 n6 f hf
    simp only[CP] at e2
    simp only[eG,go_sem,Z3 S,Z2 S,zN0,zN1,zN2,zN3,zN4,zI0,zI1,zI2,zI3,reduceCtorEq,Y8 S,Int.cast_ofNat_Int,FG,l1,FS,QQ,QE,QR,QS S,QN,Fj,EP,F9,F8,sf1,sf8,sf10,sf12,FF,r1',Int.reduceMul,Int.reduceAdd,Int.toNat_zero,Int.reduceToNat,zI1,zI2,and_true,true_and,and_self,BK,gt_iff_lt,wN,a1,a4,a5]
    rw[Y9,Z8 (on S _ _ [2,3,4,8,9] (by decide) rfl) rfl _ _ _ _ _ _ _ _ _ rfl]
    simp only[eG,go_sem,Z3 S,Z2 S,zN0,zN1,zN2,zN3,zN4,zI0,zI1,zI2,zI3,reduceCtorEq,Y8 S]
    rw[e1 _ _ _ (by decide)]
    simp only[eG,go_sem,Z3 S,Z2 S,zN0,zN1,zN2,zN3,zN4,zI0,zI1,zI2,zI3,reduceCtorEq,Y8 S]
    rw[Y9,Z8 (on S _ _ [2,3,4,8,10] (by decide) rfl) rfl _ _ _ _ _ _ _ _ _ rfl]
    simp only[eG,go_sem,Z3 S,Z2 S,zN0,zN1,zN2,zN3,zN4,zI0,zI1,zI2,zI3,reduceCtorEq,Y8 S]
    rw[e2 _ _ _ (by decide)]
    simp only[eG,go_sem,Z3 S,Z2 S,zN0,zN1,zN2,zN3,zN4,zI0,zI1,zI2,zI3,reduceCtorEq,Y8 S]
    rw[d1 _ _ rfl,d2 _ _ rfl]
    simp only[eG,go_sem,Z3 S,Z2 S,zN0,zN1,zN2,zN3,zN4,zI0,zI1,zI2,zI3,reduceCtorEq,Y8 S]
    rw[hl,hi,show rD (Md.make l).mems=rD ([]:List MemT) from congrArg rD hms]
    rfl
  ·have hms : Md.JC l (Md.Zx l) = [] := by simp [Md.JC, Md.Bz, Md.J0, a1, a4]
   have e1:=fun kx kr f hf=>Z75 S (dp+1) l kx kr (Md.nM l) (Md.Zx l) (Md.YW (Md.Y0 (Md.kM l 0) 1) 3+1) (Md.JV l (Md.Zx l)).1 (Md.JU l (Md.Zx l)).1 (Md.JT l (Md.Zx l)).1 (Md.Jk l (Md.Zx l)).1 n0 n6 f hf
   have e2:=fun kx kr f hf=>Z74 S (dp+1) l kx kr (Md.nM l) (JK (Md.nM l+1)) (Md.Zx l) (Md.YW (Md.Y0 (Md.kM l 0) 1) 3+1) (Md.JV l (Md.Zx l)).1 (Md.JU l (Md.Zx l)).1 (Md.JT l (Md.Zx l)).1 (Md.Jk l (Md.Zx l)).1 n0 n6 f hf
   simp only[CP] at e2
   simp only[eG,go_sem,Z3 S,Z2 S,zN0,zN1,zN2,zN3,zN4,zI0,zI1,zI2,zI3,reduceCtorEq,Y8 S,Int.cast_ofNat_Int,FG,l1,FS,QQ,QE,QR,QS S,QN,Fj,EP,F9,F8,sf1,sf8,sf10,sf12,FF,r1',Int.reduceMul,Int.reduceAdd,Int.toNat_zero,Int.reduceToNat,zI1,zI2,and_true,true_and,and_self,BK,gt_iff_lt,wN,a1,a4]
   rw[Y9,Z8 (on S _ _ [2,3,4,8,9] (by decide) rfl) rfl _ _ _ _ _ _ _ _ _ rfl]
   simp only[eG,go_sem,Z3 S,Z2 S,zN0,zN1,zN2,zN3,zN4,zI0,zI1,zI2,zI3,reduceCtorEq,Y8 S]
   rw[e1 _ _ _ (by decide)]
   simp only[eG,go_sem,Z3 S,Z2 S,zN0,zN1,zN2,zN3,zN4,zI0,zI1,zI2,zI3,reduceCtorEq,Y8 S]
   rw[Y9,Z8 (on S _ _ [2,3,4,8,10] (by decide) rfl) rfl _ _ _ _ _ _ _ _ _ rfl]
   simp only[eG,go_sem,Z3 S,Z2 S,zN0,zN1,zN2,zN3,zN4,zI0,zI1,zI2,zI3,reduceCtorEq,Y8 S]
   rw[e2 _ _ _ (by decide)]
   simp only[eG,go_sem,Z3 S,Z2 S,zN0,zN1,zN2,zN3,zN4,zI0,zI1,zI2,zI3,reduceCtorEq,Y8 S]
   rw[d1 _ _ rfl,d2 _ _ rfl]
   simp only[eG,go_sem,Z3 S,Z2 S,zN0,zN1,zN2,zN3,zN4,zI0,zI1,zI2,zI3,reduceCtorEq,Y8 S]
   rw[hl,hi,show rD (Md.make l).mems=rD ([]:List MemT) from congrArg rD hms]
   rfl
theorem Zrk (dp:Nat)(l:List Int)(A:List Blk)(nb:Nat):ZH false E (Z4 E fn (dp+4)) 8 A nb (some ([rD l],[]))=some (.made (.d (Zw (Md.make l))) []):=
 Z6.deep (Zik S dp l ) (np S 8 (by decide)) A nb
end
end Go.Aug.Mc
